/- Two vectors joined or met, as the laws call for it. -/
import Derived.Test.YtalclofogengpaaLw
import Derived.Test.YtalclofogengpaaPl
namespace Go.Proofs.Ytalclofogengpaa
open Go.RowKit

theorem Sl.on {α : Type} {f : α → Value} {w w' : World} {A : Option Addr} {n : Nat} {xs : List α} (h : Sl f w w.heap.size A n xs) (hb : Below w.heap.size w w') : Sl f w' w'.heap.size A n xs := (h.up hb (Nat.le_refl _)).more' hb.size
theorem nf_congr {x y : List Int} (hx : nrm x = x) (hy : nrm y = y) (h : ∀ j, x.getD j 0 = y.getD j 0) : x = y := by rw [← hx, ← hy]; exact nrm_congr h
theorem MM_nf (g : Int → Int → Int) (a b : List Int) : nrm (MM g a b) = MM g a b := nrm_nrm _

theorem sll2 (w : World) (A A' : Option Addr) (n n' c c' : Nat) (xs ys : List Int) (hx : Sl I w w.heap.size A n xs) (hy : Sl I w w.heap.size A' n' ys) :
    SLL I (w.alloc (.cells #[.slice A n c, .slice A' n' c'] 22)) (w.heap.size + 1) (some ⟨w.heap.size, 0, none⟩) 2 [xs, ys] := by
  have hb : Below w.heap.size w (w.alloc (.cells #[.slice A n c, .slice A' n' c'] 22)) := (Below.refl _ _).alloc (Nat.le_refl _) _
  refine ⟨[⟨A, n, c⟩, ⟨A', n', c'⟩], ⟨rfl, fun _ => ⟨w.heap.size, 0, rfl, Nat.lt_succ_self _, At.of_block (t := 22) (fr := (0, 0)) (heap_alloc_new w _)⟩⟩, rfl, ?_⟩
  intro k h v hh hv
  match k, hh, hv with
  | 0, hh, hv =>
    simp at hh hv; subst hh; subst hv
    exact (hx.up hb (Nat.le_refl _)).more' (Nat.le_succ _)
  | 1, hh, hv =>
    simp at hh hv; subst hh; subst hv
    exact (hy.up hb (Nat.le_refl _)).more' (Nat.le_succ _)

/-- What a join or a meet of two hands back. -/
def Two (zs : List Int) (w : World) (e : Ending) (w' : World) : Prop := ∃ A n c, e = .returned (.tuple #[.slice A n c, .int .i64 0]) ∧ Sl I w' w'.heap.size A n zs ∧ n ≤ c ∧ Below w.heap.size w w'

theorem merge2 (A A' : Option Addr) (n n' c c' : Nat) (xs ys : List Int) (w : World) (hx : Sl I w w.heap.size A n xs) (hy : Sl I w w.heap.size A' n' ys) (ha : validB xs = true) (hb : validB ys = true) :
    Calls Try.prog 20 #[.slice (some ⟨w.heap.size, 0, none⟩) 2 2] (w.alloc (.cells #[.slice A n c, .slice A' n' c'] 22)) (Two (MM max xs ys) w) := by
  have hlen : ∀ v ∈ [xs, ys], v.length ≤ 1000000 := by
    intro v hv
    have h1 := valid_len ha
    have h2 := valid_len hb
    simp only [List.mem_cons, List.not_mem_nil, or_false] at hv
    rcases hv with rfl | rfl <;> omega
  refine (vmerge_any _ _ [xs, ys] _ _ _ (sll2 w A A' n n' c c' xs ys hx hy) (by simp) (by omega) hlen).mono ?_
  rintro e w' (⟨_, A1, n1, c1, rfl, h1, h2, h3⟩ | ⟨h0, _⟩)
  · refine ⟨A1, n1, c1, rfl, ?_, h1, ((Below.refl _ _).alloc (Nat.le_refl _) _).trans (h3.mono (by simp))⟩
    rw [show ([xs, ys] : List (List Int)).length = 2 from rfl, acc2 max (fun z => by omega) ha hb] at h2
    exact h2
  · simp [ha, hb] at h0

theorem meet2 (A A' : Option Addr) (n n' c c' : Nat) (xs ys : List Int) (w : World) (hx : Sl I w w.heap.size A n xs) (hy : Sl I w w.heap.size A' n' ys) (ha : validB xs = true) (hb : validB ys = true) :
    Calls Try.prog 21 #[.slice (some ⟨w.heap.size, 0, none⟩) 2 2] (w.alloc (.cells #[.slice A n c, .slice A' n' c'] 22)) (Two (MM min xs ys) w) := by
  have hlen : ∀ v ∈ [xs, ys], v.length ≤ 1000000 := by
    intro v hv
    have h1 := valid_len ha
    have h2 := valid_len hb
    simp only [List.mem_cons, List.not_mem_nil, or_false] at hv
    rcases hv with rfl | rfl <;> omega
  refine (vmeet_any _ _ [xs, ys] _ _ _ (sll2 w A A' n n' c c' xs ys hx hy) (by simp) (by omega) hlen).mono ?_
  rintro e w' (⟨_, A1, n1, c1, rfl, h1, h2, h3⟩ | ⟨h0, _⟩)
  · refine ⟨A1, n1, c1, rfl, ?_, h1, ((Below.refl _ _).alloc (Nat.le_refl _) _).trans (h3.mono (by simp))⟩
    rw [show ([xs, ys] : List (List Int)).length = 2 from rfl, acc2 min (fun z => by omega) ha hb] at h2
    exact h2
  · simp [ha, hb] at h0

theorem ints_eq (A A' : Option Addr) (n n' : Nat) (xs ys : List Int) (c c' : Nat) (w : World) (hx : Sl I w w.heap.size A n xs) (hy : Sl I w w.heap.size A' n' ys) (hl : n ≤ 1000000) (hl' : n' ≤ 1000000) (he : xs = ys) :
    Calls Try.prog 25 #[.slice A n c, .slice A' n' c'] w fun e w' => e = .returned (.bool true) ∧ Below w.heap.size w w' :=
  (ints_any A A' n n' xs ys c c' w _ hx hy hl hl').mono fun e w' ⟨h, r, hr⟩ => ⟨by rw [h, decide_eq_true he], by rw [hr]; exact below_drewN (Below.refl _ _) r⟩
end Go.Proofs.Ytalclofogengpaa
