/- The circle that New made. -/
import Derived.Test.YtkeicjokekmkpaaNz
import Derived.Test.YtkeicjokekmkpaaCir
namespace Go.Proofs.Ytkeicjokekmkpaa
open Go.RowKit Mb
set_option linter.unusedVariables false
set_option linter.unusedSimpArgs false

/-- The circle that New made. -/
theorem NewC.cir {ms : List Mem} {vs : List Vlt} {q : Int} {w w' : World} {e : Ending} (h : NewC ms vs q w e w') :
    ∃ g lab, e = .returned (.tuple #[fG g, .int .i64 0]) ∧ Cir w' lab g ⟨⟨ms, vs, q, []⟩, ms, vs, []⟩ ∧ (∀ k, k < w.heap.size → lab k = 0) ∧ w.heap.size ≤ g ∧ Below w.heap.size w w' := by
  obtain ⟨B1, bm, B4, g, vm, vv, vfm, vfv, ps1, ps2, rfl, hcell, hvm, hvm1, hvv, hvv1, hps1, hbm, hfm, hfm1, hfv, hfv1, hps2, o1, o2, o3, o4, hb⟩ := h
  have hgl := lt_of_block hcell
  obtain ⟨lab, hlab⟩ : ∃ lab : Nat → Nat, ∀ k, lab k = if k < w.heap.size then 0 else if k < B1 then 3 else if k < bm then 4 else if k = bm then 2 else if k < B4 then 5 else if k < g then 6 else if k = g then 1 else 0 := ⟨_, fun _ => rfl⟩
  have own3 : ∀ k, w.heap.size ≤ k → k < B1 → lab k = 3 := fun k h1 h2 => by rw [hlab]; simp only [show ¬ k < w.heap.size by omega, h2, if_true, if_false]
  have own4 : ∀ k, B1 ≤ k → k < bm → lab k = 4 := fun k h1 h2 => by rw [hlab]; simp only [show ¬ k < w.heap.size by omega, show ¬ k < B1 by omega, h2, if_true, if_false]
  have own2 : lab bm = 2 := by rw [hlab]; simp only [show ¬ bm < w.heap.size by omega, show ¬ bm < B1 by omega, show ¬ bm < bm by omega, if_true, if_false]
  have own5 : ∀ k, bm + 1 ≤ k → k < B4 → lab k = 5 := fun k h1 h2 => by rw [hlab]; simp only [show ¬ k < w.heap.size by omega, show ¬ k < B1 by omega, show ¬ k < bm by omega, show ¬ k = bm by omega, h2, if_true, if_false]
  have own6 : ∀ k, B4 ≤ k → k < g → lab k = 6 := fun k h1 h2 => by rw [hlab]; simp only [show ¬ k < w.heap.size by omega, show ¬ k < B1 by omega, show ¬ k < bm by omega, show ¬ k = bm by omega, show ¬ k < B4 by omega, h2, if_true, if_false]
  have own1 : lab g = 1 := by rw [hlab]; simp only [show ¬ g < w.heap.size by omega, show ¬ g < B1 by omega, show ¬ g < bm by omega, show ¬ g = bm by omega, show ¬ g < B4 by omega, show ¬ g < g by omega, if_true, if_false]
  have ownT : ∀ k, g < k → lab k = 0 := fun k h1 => by rw [hlab]; simp only [show ¬ k < w.heap.size by omega, show ¬ k < B1 by omega, show ¬ k < bm by omega, show ¬ k = bm by omega, show ¬ k < B4 by omega, show ¬ k < g by omega, show ¬ k = g by omega, if_false]
  refine ⟨g, lab, rfl, ⟨vm, vv, bm, vfm, vfv, .slice none 0 0, ps1, ps2, ?_⟩, fun k hk => by rw [hlab, if_pos hk], by omega, hb⟩
  refine ⟨hcell, own1, World.ownsRow.mono hvm (Nat.zero_le _), fun k hk => own3 k (World.ownsRow.lt hvm k hk).1 (hvm1 k hk), ⟨World.ownsRow.mono hvv.row (Nat.zero_le _), fun p hp => World.ownsRow.mono (hvv.ws p hp) (Nat.zero_le _), hvv.far, hvv.apart⟩, hps1,
    fun k hk => own4 k (World.ownsRow.lt hvv.row k hk).1 (hvv1.1 k hk), fun p hp k hk => own4 k (World.ownsRow.lt (hvv.ws p hp) k hk).1 (hvv1.2 p hp k hk), ?_, own2, World.ownsRow.mono hfm (Nat.zero_le _), fun k hk => own5 k (World.ownsRow.lt hfm k hk).1 (hfm1 k hk),
    ⟨World.ownsRow.mono hfv.row (Nat.zero_le _), fun p hp => World.ownsRow.mono (hfv.ws p hp) (Nat.zero_le _), hfv.far, hfv.apart⟩, hps2, fun k hk => own6 k (World.ownsRow.lt hfv.row k hk).1 (hfv1.1 k hk), fun p hp k hk => own6 k (World.ownsRow.lt (hfv.ws p hp) k hk).1 (hfv1.2 p hp k hk), Own.nil, fun k hk => (by cases hk), fun k hk => ownT k (by omega)⟩
  exact MapV.empty hbm
end Go.Proofs.Ytkeicjokekmkpaa
