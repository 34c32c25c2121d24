/- The same vault; the same member. -/
import Derived.Test.YtafhpomoobdmdaaRd
import Derived.Laws.StructEq
namespace Go.Proofs.Ytafhpomoobdmdaa
open Go.RowKit Mb
set_option linter.unusedVariables false
set_option linter.unusedSimpArgs false

set_option maxRecDepth 20000 in
theorem eqSelfM (m : Mem) (w : World) : (Op.equalIn 10000 35 (aM m) (aM m)).run Try.prog w = .ok true w := by
  have u3 := Try.underlying3
  have a3 := Try.isAgg3
  have z3 := Try.sizeOf3
  have u9 := Try.underlying9
  have a9 := Try.isAgg9
  have z9 := Try.sizeOf9
  have u4 := Try.underlying4
  have a4 := Try.isAgg4
  have z4 := Try.sizeOf4
  have hS : Try.prog.underlying 35 = some (.struct (Try.prog.fieldsOf 35)) := by kernel_rfl
  have hp : Try.prog.stoodInHeld 35 = false := by kernel_rfl
  rw [show (10000 : Nat) = 9999 + 1 from rfl, run_equalIn_agg w 9999 35 _ _ hS hp]
  simp only [Program.fieldsOf, Try.underlying35]
  go_simp
set_option maxRecDepth 20000 in
theorem eqSelfC (a b c d e : Int) (w : World) : (Op.equalIn 10000 50 (aC a b c d e) (aC a b c d e)).run Try.prog w = .ok true w := by
  have u3 := Try.underlying3
  have a3 := Try.isAgg3
  have z3 := Try.sizeOf3
  have u4 := Try.underlying48
  have a4 := Try.isAgg48
  have z4 := Try.sizeOf48
  have hS : Try.prog.underlying 50 = some (.struct (Try.prog.fieldsOf 50)) := by kernel_rfl
  have hp : Try.prog.stoodInHeld 50 = false := by kernel_rfl
  rw [show (10000 : Nat) = 9999 + 1 from rfl, run_equalIn_agg w 9999 50 _ _ hS hp]
  simp only [Program.fieldsOf, Try.underlying50]
  go_simp
set_option maxRecDepth 20000 in
theorem eqSelfR (a b c d : Int) (w : World) : (Op.equalIn 10000 52 (fR a b c d) (fR a b c d)).run Try.prog w = .ok true w := by
  have u3 := Try.underlying3
  have a3 := Try.isAgg3
  have z3 := Try.sizeOf3
  have hS : Try.prog.underlying 52 = some (.struct (Try.prog.fieldsOf 52)) := by kernel_rfl
  have hp : Try.prog.stoodInHeld 52 = false := by kernel_rfl
  rw [show (10000 : Nat) = 9999 + 1 from rfl, run_equalIn_agg w 9999 52 _ _ hS hp]
  simp only [Program.fieldsOf, Try.underlying52]
  go_simp
set_option maxRecDepth 20000 in
set_option maxHeartbeats 4000000 in
theorem sameV_any (v : Vlt) (A A' : Option Addr) (n c n' c' : Nat) (w : World) (h : Sl I w w.heap.size A n v.ws) (h' : Sl I w w.heap.size A' n' v.ws) (hl : v.ws.length ≤ 1000) :
    Calls Try.prog 48 #[aV v A n c, aV v A' n' c'] w (BoolB true w) := by
  obtain ⟨W, hW⟩ : ∃ W : World, W = (w.alloc (oV v A n c)).alloc (oV v A' n' c') := ⟨_, rfl⟩
  have hB : Below w.heap.size w W := by rw [hW]; exact ((Below.refl _ _).alloc (Nat.le_refl _) _).alloc (by simp) _
  have hg0 : W.heap[w.heap.size]? = some (oV v A n c) := by rw [hW]; exact (Below.heap_alloc _ _ _ (by simp)).trans (heap_alloc_new w _)
  have hg1 : W.heap[w.heap.size + 1]? = some (oV v A' n' c') := by rw [hW]; exact heap_new_at (w := w.alloc _) (by simp)
  have e1 := h.1
  have e2 := h'.1
  have HS := Lib.hid (sameI_any A A' n n' v.ws v.ws c c' W _ (h.up hB (Nat.le_refl _)) (h'.up hB (Nat.le_refl _)) (by omega) (by omega))
  have HB := Lib.hid hB
  have HG0 := Lib.hid hg0
  have HG1 := Lib.hid hg1
  have HW := Lib.hid hW
  have hc := eqSelfC v.cmin v.cmax v.cwin v.cbits v.cseed
  have hr := eqSelfR v.ra v.rb v.rc v.rd
  have t0 : (v.num == v.num) = true := by simp
  have t1 : (v.data == v.data) = true := by simp
  have t2 : (v.total == v.total) = true := by simp
  have t3 : (v.thr == v.thr) = true := by simp
  have t4 : (v.print.toList == v.print.toList) = true := by simp
  clear h h' hB hg0 hg1 hW e1 e2
  go_enter Try.func48, Try.ntmps48
  go_wp2_with fail
  rw [← HW.out]
  refine HS.out.mono ?_
  rintro e w1 ⟨he, r, h1⟩
  have he' : e = .returned (.bool true) := by rw [he]; simp
  subst he'
  have hB1 : Below W.heap.size W w1 := by rw [h1]; exact below_dN' (Below.refl _ _) _
  have HB1 : Hid (Below w.heap.size w w1) := HB.out.trans (hB1.mono HB.out.size)
  obtain ⟨x0, x1, x2, x3, x4, x5, x6, x7, x8, x9, x10, x11, x12, x13, x14⟩ := vfifteen_of ((hB1.block _ (lt_of_block HG0.out)).trans HG0.out)
  obtain ⟨y0, y1, y2, y3, y4, y5, y6, y7, y8, y9, y10, y11, y12, y13, y14⟩ := vfifteen_of ((hB1.block _ (lt_of_block HG1.out)).trans HG1.out)
  clear h1 hB1
  go_wp2
  go_ret
  exact ⟨rfl, HB1.out⟩
end Go.Proofs.Ytafhpomoobdmdaa
