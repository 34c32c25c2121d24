/- What the laws share: Keep and Drop at rules that are known; lists that are kept. -/
import Derived.Test.YtfffhdclbdmfnaaLwA
namespace Go.Proofs.Ytfffhdclbdmfnaa
open Go.RowKit Ret
set_option linter.unusedVariables false
set_option linter.unusedSimpArgs false

theorem below_drewN (w : World) (r : Nat) : Below w.heap.size w (w.drewN r) := ⟨rfl, rfl, rfl, Nat.le_refl _, fun _ _ => rfl⟩
theorem Nums.ext_cast {x y : Nums} (h1 : (x.a : Int) = y.a) (h2 : (x.b : Int) = y.b) (h3 : (x.c : Int) = y.c) (h4 : (x.d : Int) = y.d) : x = y := by
  obtain ⟨a, b, c, d⟩ := x
  obtain ⟨a', b', c', d'⟩ := y
  simp only at h1 h2 h3 h4
  obtain rfl : a = a' := by omega
  obtain rfl : b = b' := by omega
  obtain rfl : c = c' := by omega
  obtain rfl : d = d' := by omega
  rfl
theorem keep_no (a b c d : Int) (A A' : Option Addr) (n n' cp cp' : Nat) (xs ys : List Int) (w : World) (hx : Sl I w w.heap.size A n xs) (hy : Sl I w w.heap.size A' n' ys) (hn : n ≤ 100000) (hn' : n' ≤ 100000) (hb : argB a b c d xs ys = false) :
    Calls Try.prog 22 #[fR a b c d, .slice A n cp, .slice A' n' cp'] w (Slc2 I ([] : List Int) 1 w) :=
  (keep_any a b c d A A' n n' cp cp' xs ys w hx hy hn hn').mono fun e w' h => by
    rcases h with ⟨_, h⟩ | ⟨h1, _⟩
    · exact h
    · rw [hb] at h1; cases h1
theorem keep_yes (nm : Nums) (A A' : Option Addr) (n n' cp cp' : Nat) (xs ys : List Int) (w : World) (hx : Sl I w w.heap.size A n xs) (hy : Sl I w w.heap.size A' n' ys) (hn : n ≤ 100000) (hn' : n' ≤ 100000) (hb : argB nm.a nm.b nm.c nm.d xs ys = true) :
    Calls Try.prog 22 #[fR nm.a nm.b nm.c nm.d, .slice A n cp, .slice A' n' cp'] w (Slc2 I (keptL nm xs ys) 0 w) :=
  (keep_any nm.a nm.b nm.c nm.d A A' n n' cp cp' xs ys w hx hy hn hn').mono fun e w' h => by
    rcases h with ⟨h1, _⟩ | ⟨_, nm', e1, e2, e3, e4, _, _, _, _, h⟩
    · rw [hb] at h1; cases h1
    · obtain rfl := Nums.ext_cast e1 e2 e3 e4
      exact h
theorem drop_no (a b c d : Int) (A A' : Option Addr) (n n' cp cp' : Nat) (xs ys : List Int) (w : World) (hx : Sl I w w.heap.size A n xs) (hy : Sl I w w.heap.size A' n' ys) (hn : n ≤ 100000) (hn' : n' ≤ 100000) (hb : argB a b c d xs ys = false) :
    Calls Try.prog 25 #[fR a b c d, .slice A n cp, .slice A' n' cp'] w (Slc2 I ([] : List Int) 1 w) :=
  (drop_any a b c d A A' n n' cp cp' xs ys w hx hy hn hn').mono fun e w' h => by
    rcases h with ⟨_, h⟩ | ⟨h1, _⟩
    · exact h
    · rw [hb] at h1; cases h1
theorem drop_yes (nm : Nums) (A A' : Option Addr) (n n' cp cp' : Nat) (xs ys : List Int) (w : World) (hx : Sl I w w.heap.size A n xs) (hy : Sl I w w.heap.size A' n' ys) (hn : n ≤ 100000) (hn' : n' ≤ 100000) (hb : argB nm.a nm.b nm.c nm.d xs ys = true) :
    Calls Try.prog 25 #[fR nm.a nm.b nm.c nm.d, .slice A n cp, .slice A' n' cp'] w (Slc2 I (dropL nm xs ys) 0 w) :=
  (drop_any nm.a nm.b nm.c nm.d A A' n n' cp cp' xs ys w hx hy hn hn').mono fun e w' h => by
    rcases h with ⟨h1, _⟩ | ⟨_, nm', e1, e2, e3, e4, _, _, _, _, h⟩
    · rw [hb] at h1; cases h1
    · obtain rfl := Nums.ext_cast e1 e2 e3 e4
      exact h
theorem argB_sub {a b c d : Int} {xs xs' ys : List Int} (hs : ∀ x ∈ xs', x ∈ xs) (h : argB a b c d xs ys = true) : argB a b c d xs' ys = true := by
  unfold argB at h ⊢
  simp only [Bool.and_eq_true, List.all_eq_true] at h ⊢
  exact ⟨h.1, fun x hx => h.2.1 x (hs x hx), h.2.2⟩
theorem argB_nums {a b c d : Int} {xs ys : List Int} (h : argB a b c d xs ys = true) : ∃ nm : Nums, a = nm.a ∧ b = nm.b ∧ c = nm.c ∧ d = nm.d ∧ nm.a ≤ 1000 ∧ nm.b ≤ 1000 ∧ nm.c ≤ 1000 ∧ nm.d ≤ 1000 := by
  unfold argB at h
  simp only [Bool.and_eq_true] at h
  exact rules_nat h.1
theorem argB_days {a b c d : Int} {xs ys : List Int} (h : argB a b c d xs ys = true) : ∀ x ∈ xs, okD x := by
  unfold argB at h
  simp only [Bool.and_eq_true] at h
  exact allOk h.2.1
theorem keptL_len (nm : Nums) (xs ys : List Int) : (keptL nm xs ys).length ≤ xs.length := Nat.le_trans (List.length_filter_le _ _) (srt_len xs)
theorem dropL_len (nm : Nums) (xs ys : List Int) : (dropL nm xs ys).length ≤ xs.length := Nat.le_trans (List.length_filter_le _ _) (srt_len xs)
theorem few_yes {n n' : Nat} (h : (decide (n ≤ 40) && decide (n' ≤ 10)) = true) (A A' : Option Addr) (cp cp' : Nat) (W : World) : Calls Try.prog 15 #[.slice A n cp, .slice A' n' cp'] W fun e w' => e = .returned (.bool true) ∧ W = w' := by
  have := few_any A A' n n' cp cp' W
  rw [h] at this
  exact this
theorem few_no {n n' : Nat} (h : (decide (n ≤ 40) && decide (n' ≤ 10)) = false) (A A' : Option Addr) (cp cp' : Nat) (W : World) : Calls Try.prog 15 #[.slice A n cp, .slice A' n' cp'] W fun e w' => e = .returned (.bool false) ∧ W = w' := by
  have := few_any A A' n n' cp cp' W
  rw [h] at this
  exact this
end Go.Proofs.Ytfffhdclbdmfnaa
