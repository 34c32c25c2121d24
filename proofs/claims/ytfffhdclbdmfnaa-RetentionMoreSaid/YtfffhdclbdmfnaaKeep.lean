/- retention.Keep, Drop, Reasons. -/
import Derived.Test.YtfffhdclbdmfnaaDiv
namespace Go.Proofs.Ytfffhdclbdmfnaa
open Go.RowKit Ret
set_option linter.unusedVariables false
set_option linter.unusedSimpArgs false

/-- Rules, days and holds: valid or not. -/
theorem divide_any (a b c d : Int) (A A' : Option Addr) (n n' cp cp' : Nat) (xs ys : List Int) (w : World) (hx : Sl I w w.heap.size A n xs) (hy : Sl I w w.heap.size A' n' ys) (hn : n ≤ 100000) (hn' : n' ≤ 100000) :
    (argB a b c d xs ys = false ∧ Calls Try.prog 39 #[fR a b c d, .slice A n cp, .slice A' n' cp'] w (DivP [] [] 1 w)) ∨
    (argB a b c d xs ys = true ∧ ∃ nm : Nums, a = nm.a ∧ b = nm.b ∧ c = nm.c ∧ d = nm.d ∧ nm.a ≤ 1000 ∧ nm.b ≤ 1000 ∧ nm.c ≤ 1000 ∧ nm.d ≤ 1000 ∧ Calls Try.prog 39 #[fR a b c d, .slice A n cp, .slice A' n' cp'] w (DivP (keptL nm xs ys) (dropL nm xs ys) 0 w)) := by
  cases hb : argB a b c d xs ys
  · exact .inl ⟨rfl, divide_no a b c d A A' n n' cp cp' xs ys w hx hy hn hn' hb⟩
  · have hr : rulesB a b c d = true := by unfold argB at hb; simp only [Bool.and_eq_true] at hb; exact hb.1
    obtain ⟨nm, rfl, rfl, rfl, rfl, h1, h2, h3, h4⟩ := rules_nat hr
    exact .inr ⟨rfl, nm, rfl, rfl, rfl, rfl, h1, h2, h3, h4, divide_yes nm h1 h2 h3 h4 A A' n n' cp cp' xs ys w hx hy hn hn' hb⟩

theorem keep_walk (a b c d : Int) (A A' : Option Addr) (n n' cp cp' : Nat) (k dr : List Int) (er : Int) (w : World)
    (hD : Calls Try.prog 39 #[fR a b c d, .slice A n cp, .slice A' n' cp'] (w.alloc (.cells #[.int .i64 a, .int .i64 b, .int .i64 c, .int .i64 d] 23)) (DivP k dr er (w.alloc (.cells #[.int .i64 a, .int .i64 b, .int .i64 c, .int .i64 d] 23)))) :
    Calls Try.prog 22 #[fR a b c d, .slice A n cp, .slice A' n' cp'] w (Slc2 I k er w) := by
  have HD := Lib.hid hD
  have HB0 : Hid (Below w.heap.size w (w.alloc (.cells #[.int .i64 a, .int .i64 b, .int .i64 c, .int .i64 d] 23))) := (Below.refl _ _).alloc (Nat.le_refl _) _
  clear hD
  go_enter Try.func22, Try.ntmps22
  go_wp2_with fail
  refine HD.out.mono ?_
  rintro e w1 ⟨A1, n1, c1, A2, n2, c2, rfl, hc1, hc2, hs1, hs2, hb⟩
  have HC1 := Lib.hid hc1
  have HC2 := Lib.hid hc2
  have HS1 := Lib.hid hs1
  have HS2 := Lib.hid hs2
  have HB : Hid (Below w.heap.size w w1) := HB0.out.trans (hb.mono (by simp))
  clear hc1 hc2 hs1 hs2 hb
  go_wp2_with fail
  go_ret2
  exact ⟨_, _, _, rfl, HC1.out, HS1.out, HB.out⟩
def KeepP (a b c d : Int) (xs ys : List Int) (w : World) (e : Ending) (w' : World) : Prop :=
  (argB a b c d xs ys = false ∧ Slc2 I ([] : List Int) 1 w e w') ∨
  (argB a b c d xs ys = true ∧ ∃ nm : Nums, a = nm.a ∧ b = nm.b ∧ c = nm.c ∧ d = nm.d ∧ nm.a ≤ 1000 ∧ nm.b ≤ 1000 ∧ nm.c ≤ 1000 ∧ nm.d ≤ 1000 ∧ Slc2 I (keptL nm xs ys) 0 w e w')
theorem keep_any (a b c d : Int) (A A' : Option Addr) (n n' cp cp' : Nat) (xs ys : List Int) (w : World) (hx : Sl I w w.heap.size A n xs) (hy : Sl I w w.heap.size A' n' ys) (hn : n ≤ 100000) (hn' : n' ≤ 100000) :
    Calls Try.prog 22 #[fR a b c d, .slice A n cp, .slice A' n' cp'] w (KeepP a b c d xs ys w) := by
  have hb0 : Below w.heap.size w (w.alloc (.cells #[.int .i64 a, .int .i64 b, .int .i64 c, .int .i64 d] 23)) := (Below.refl _ _).alloc (Nat.le_refl _) _
  rcases divide_any a b c d A A' n n' cp cp' xs ys _ ((hx.up hb0 (Nat.le_refl _)).more' hb0.size) ((hy.up hb0 (Nat.le_refl _)).more' hb0.size) hn hn' with ⟨hb, h⟩ | ⟨hb, nm, e1, e2, e3, e4, g1, g2, g3, g4, h⟩
  · exact (keep_walk a b c d A A' n n' cp cp' _ _ _ w h).mono fun e w' h => .inl ⟨hb, h⟩
  · exact (keep_walk a b c d A A' n n' cp cp' _ _ _ w h).mono fun e w' h => .inr ⟨hb, nm, e1, e2, e3, e4, g1, g2, g3, g4, h⟩

theorem drop_walk (a b c d : Int) (A A' : Option Addr) (n n' cp cp' : Nat) (k dr : List Int) (er : Int) (w : World)
    (hD : Calls Try.prog 39 #[fR a b c d, .slice A n cp, .slice A' n' cp'] (w.alloc (.cells #[.int .i64 a, .int .i64 b, .int .i64 c, .int .i64 d] 23)) (DivP k dr er (w.alloc (.cells #[.int .i64 a, .int .i64 b, .int .i64 c, .int .i64 d] 23)))) :
    Calls Try.prog 25 #[fR a b c d, .slice A n cp, .slice A' n' cp'] w (Slc2 I dr er w) := by
  have HD := Lib.hid hD
  have HB0 : Hid (Below w.heap.size w (w.alloc (.cells #[.int .i64 a, .int .i64 b, .int .i64 c, .int .i64 d] 23))) := (Below.refl _ _).alloc (Nat.le_refl _) _
  clear hD
  go_enter Try.func25, Try.ntmps25
  go_wp2_with fail
  refine HD.out.mono ?_
  rintro e w1 ⟨A1, n1, c1, A2, n2, c2, rfl, hc1, hc2, hs1, hs2, hb⟩
  have HC1 := Lib.hid hc1
  have HC2 := Lib.hid hc2
  have HS1 := Lib.hid hs1
  have HS2 := Lib.hid hs2
  have HB : Hid (Below w.heap.size w w1) := HB0.out.trans (hb.mono (by simp))
  clear hc1 hc2 hs1 hs2 hb
  go_wp2_with fail
  go_ret2
  exact ⟨_, _, _, rfl, HC2.out, HS2.out, HB.out⟩
def DropP (a b c d : Int) (xs ys : List Int) (w : World) (e : Ending) (w' : World) : Prop :=
  (argB a b c d xs ys = false ∧ Slc2 I ([] : List Int) 1 w e w') ∨
  (argB a b c d xs ys = true ∧ ∃ nm : Nums, a = nm.a ∧ b = nm.b ∧ c = nm.c ∧ d = nm.d ∧ nm.a ≤ 1000 ∧ nm.b ≤ 1000 ∧ nm.c ≤ 1000 ∧ nm.d ≤ 1000 ∧ Slc2 I (dropL nm xs ys) 0 w e w')
theorem drop_any (a b c d : Int) (A A' : Option Addr) (n n' cp cp' : Nat) (xs ys : List Int) (w : World) (hx : Sl I w w.heap.size A n xs) (hy : Sl I w w.heap.size A' n' ys) (hn : n ≤ 100000) (hn' : n' ≤ 100000) :
    Calls Try.prog 25 #[fR a b c d, .slice A n cp, .slice A' n' cp'] w (DropP a b c d xs ys w) := by
  have hb0 : Below w.heap.size w (w.alloc (.cells #[.int .i64 a, .int .i64 b, .int .i64 c, .int .i64 d] 23)) := (Below.refl _ _).alloc (Nat.le_refl _) _
  rcases divide_any a b c d A A' n n' cp cp' xs ys _ ((hx.up hb0 (Nat.le_refl _)).more' hb0.size) ((hy.up hb0 (Nat.le_refl _)).more' hb0.size) hn hn' with ⟨hb, h⟩ | ⟨hb, nm, e1, e2, e3, e4, g1, g2, g3, g4, h⟩
  · exact (drop_walk a b c d A A' n n' cp cp' _ _ _ w h).mono fun e w' h => .inl ⟨hb, h⟩
  · exact (drop_walk a b c d A A' n n' cp cp' _ _ _ w h).mono fun e w' h => .inr ⟨hb, nm, e1, e2, e3, e4, g1, g2, g3, g4, h⟩
end Go.Proofs.Ytfffhdclbdmfnaa
