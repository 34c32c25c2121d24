/- The reference's member as values. -/
import Derived.Test.YtkeicjokekmkpaaGreatMi
namespace Go.Proofs.YtkeicjokekmkpaaGreat
open Go.RowKit Mb
set_option linter.unusedVariables false
set_option linter.unusedSimpArgs false

theorem flat_at {α : Type} {f : α → List Value} {s : Nat} (hs : ∀ x, (f x).length = s) : ∀ (xs : List α) (k : Nat) (y : α) (j : Nat) (u : Value), xs[k]? = some y → (f y)[j]? = some u → (xs.flatMap f)[k * s + j]? = some u
  | x :: l, 0, y, j, u, hy, hu => by
    simp at hy; subst hy
    have hj : j < s := by have := (List.getElem?_eq_some_iff.1 hu).1; rw [hs] at this; exact this
    rw [List.flatMap_cons, List.getElem?_append_left (by rw [hs]; omega), Nat.zero_mul, Nat.zero_add]; exact hu
  | x :: l, k + 1, y, j, u, hy, hu => by
    rw [List.flatMap_cons, List.getElem?_append_right (by rw [hs, Nat.succ_mul]; omega), hs, show (k + 1) * s + j - s = k * s + j by rw [Nat.succ_mul]; omega]
    exact flat_at hs l k y j u (by simpa using hy) hu
  | [], _, _, _, _, hy, _ => by simp at hy
/-- A block of several rows. -/
theorem SlN.of_rows {α : Type} {f : α → List Value} {s : Nat} (hs : ∀ x, (f x).length = s) {w : World} {g B : Nat} {t : TypeId} {fr : Nat × Nat} {xs : List α} {cs : Array Value} (h : w.heap[g]? = some (.cells cs t fr)) (hc : cs.toList = xs.flatMap f) (hB : g < B) {n : Nat} (hn : xs.length = n) : SlN f s w B (some ⟨g, 0, none⟩) n xs :=
  ⟨hn, fun _ => ⟨g, 0, rfl, hB, fun k y hy j u hu => by
    rw [cell_of_row _ _ _ _ _ _ h, Nat.zero_add, ← Array.getElem?_toList, hc]
    exact flat_at hs xs k y j u hy hu⟩⟩
set_option maxRecDepth 20000 in
set_option maxHeartbeats 4000000 in
theorem rmember_any (m : Mem) (w : World) (h0 : 0 ≤ m.quota) (h1 : m.quota ≤ 9223372036854775807) :
    Calls Tryz.prog 34 #[aM m] w fun e w' => ∃ A c, e = .returned (.slice A 3 c) ∧ SlN fVl 6 w' w'.heap.size A 3 (vlM m) ∧ Below w.heap.size w w' := by
  have HQ : Hid (0 ≤ m.quota ∧ m.quota ≤ 9223372036854775807) := ⟨h0, h1⟩
  clear h0 h1
  go_enter Tryz.func34, Tryz.ntmps34
  go_wp2_with fail
  go_region_law (first
    | (go_simp; go_at_call 35; (refine (rnumber_any m.quota _ HQ.out.1 HQ.out.2).mono ?_); rintro e w6 ⟨rfl, b6⟩; (have h6 : w6.heap[w.heap.size]? = some (.cells (fM m).toArray 40) := (b6.block w.heap.size (by simp)).trans (heap_alloc_new w _)); (have c1 : w6.cell? ⟨w.heap.size, 1, none⟩ = some (.string m.name) := by rw [cell_of_row w6 _ 1 _ _ _ h6]; rfl); (have c2 : w6.cell? ⟨w.heap.size, 2, none⟩ = some (.string m.pub) := by rw [cell_of_row w6 _ 2 _ _ _ h6]; rfl); (have HB6 : Hid (Below w.heap.size w w6) := Below.trans (by repeat (first | exact Below.refl _ _ | refine Below.drew ?_ | refine below_dN' ?_ _ | refine Below.alloc ?_ (by simp) _)) (b6.mono (by simp))); (try go_simp)))
  all_goals
    go_wp2_with fail
    go_ret
    exact ⟨_, _, rfl, SlN.of_rows (xs := vlM m) fVl_len (heap_alloc_new _ _) rfl (by simp) rfl, HB6.out.alloc HB6.out.size _⟩
end Go.Proofs.YtkeicjokekmkpaaGreat
