/- The reference's SamePiece, at pieces that are the same. -/
import Derived.Test.YtnfkjnmdfijhnaaGreatDoorMq
namespace Go.Proofs.YtnfkjnmdfijhnaaGreatDoor
open Go.RowKit Go.Lib
set_option linter.unusedVariables false
set_option linter.unusedSimpArgs false

set_option maxRecDepth 100000 in
set_option maxHeartbeats 4000000 in
theorem samePiece_any (s : ByteArray) (ix : Int) (a1 a2 b1 b2 : Option Addr) (n c1 c2 m d1 d2 : Nat) (xs : List Int) (ys : List ByteArray) (B : Nat) (w : World) (hx1 : Sl fB w B a1 n xs) (hx2 : Sl fB w B a2 n xs) (hy1 : Sl fT w B b1 m ys) (hy2 : Sl fT w B b2 m ys) (hB : B ≤ w.heap.size) (hm : m ≤ 1000000) :
    Calls Tryz.prog 12 #[.agg #[.string s, .int .i64 ix, .slice a1 n c1, .slice b1 m d1], .agg #[.string s, .int .i64 ix, .slice a2 n c2, .slice b2 m d2]] w fun e w' => e = .returned (.bool true) ∧ Below w.heap.size w w' := by
  obtain ⟨W1, hW1⟩ : ∃ W1 : World, W1 = (w.alloc (.cells #[.string s, .int .i64 ix, .slice a1 n c1, .slice b1 m d1] 27)).alloc (.cells #[.string s, .int .i64 ix, .slice a2 n c2, .slice b2 m d2] 27) := ⟨_, rfl⟩
  have hb1 : Below w.heap.size w W1 := by rw [hW1]; exact ((Below.refl _ _).alloc (Nat.le_refl _) _).alloc (by simp) _
  have hc1 : W1.heap[w.heap.size]? = some (.cells #[.string s, .int .i64 ix, .slice a1 n c1, .slice b1 m d1] 27 (0, 0)) := by rw [hW1, Below.heap_alloc _ _ _ (by simp)]; exact heap_alloc_new w _
  have hc2 : W1.heap[w.heap.size + 1]? = some (.cells #[.string s, .int .i64 ix, .slice a2 n c2, .slice b2 m d2] 27 (0, 0)) := by
    rw [hW1]
    have := heap_alloc_new (w.alloc (.cells #[.string s, .int .i64 ix, .slice a1 n c1, .slice b1 m d1] 27)) (.cells #[.string s, .int .i64 ix, .slice a2 n c2, .slice b2 m d2] 27)
    simpa using this
  obtain ⟨x, hx⟩ : ∃ x, x = baOf xs := ⟨_, rfl⟩
  have v1 : (convert 24 9 (.slice a1 n c1)).run Tryz.prog W1 = .ok (.string x) W1 := by
    rw [hx]; exact run_conv_sl (P := Tryz.prog) 24 5 9 Tryz.underlying24 Tryz.underlying5 Tryz.underlying9 W1 B a1 n c1 xs (hx1.up hb1 hB)
  have v2 : (convert 24 9 (.slice a2 n c2)).run Tryz.prog W1 = .ok (.string x) W1 := by
    rw [hx]; exact run_conv_sl (P := Tryz.prog) 24 5 9 Tryz.underlying24 Tryz.underlying5 Tryz.underlying9 W1 B a2 n c2 xs (hx2.up hb1 hB)
  have k3 : W1.cell? ⟨w.heap.size, 3, none⟩ = some (.slice b1 m d1) := by rw [cell_of_row W1 _ 3 _ _ _ hc1]; rfl
  have l3 : W1.cell? ⟨w.heap.size + 1, 3, none⟩ = some (.slice b2 m d2) := by rw [cell_of_row W1 _ 3 _ _ _ hc2]; rfl
  have HY1 := Lib.hid (hy1.up hb1 hB)
  have HY2 := Lib.hid (hy2.up hb1 hB)
  have HYN : Hid (ys.length = m) := hy1.1
  have HB1 := Lib.hid hb1
  have HWE := Lib.hid hW1
  have HK3 := Lib.hid k3
  have HL3 := Lib.hid l3
  rw [hW1] at v1 v2
  have HBB := Lib.hid hB
  clear hx1 hx2 hy1 hy2 hB hb1 hc1 hc2 hW1 k3 l3 hx
  go_enter Tryz.func12, Tryz.ntmps12
  go_wp2_with fail
  rw [← HWE.out]
  clear v1 v2
  have HBr : Hid (Below w.heap.size w W1) := HB1.out
  go_loopw [32] (fun i wr => ∃ k : Nat, k ≤ m ∧ i = .int .i64 k ∧ Hid (Below W1.heap.size W1 wr)) (fun i _ => m - (intOf i).toNat)
  case atStart => exact ⟨0, by omega, rfl, Below.refl _ _⟩
  case round =>
    obtain ⟨k, hk, rfl, HR⟩ := hrel
    have hs : w.heap.size + 1 < W1.heap.size := by rw [HWE.out]; simp
    have k3 : wr.cell? ⟨w.heap.size, 3, none⟩ = some (.slice b1 m d1) := (HR.out.cell (p := ⟨w.heap.size, 3, none⟩) (by show w.heap.size < _; omega)).trans HK3.out
    have l3 : wr.cell? ⟨w.heap.size + 1, 3, none⟩ = some (.slice b2 m d2) := (HR.out.cell (p := ⟨w.heap.size + 1, 3, none⟩) (by show w.heap.size + 1 < _; omega)).trans HL3.out
    by_cases hlt : k < m
    · obtain ⟨b, off, y, rfl, hb, hg, hcy⟩ := (HY1.out.up HR.out (Nat.le_trans HBB.out (by omega))).2.at_ (k := k) (by rw [HYN.out]; exact hlt)
      obtain ⟨b', off', y', rfl, hb', hg', hcy'⟩ := (HY2.out.up HR.out (Nat.le_trans HBB.out (by omega))).2.at_ (k := k) (by rw [HYN.out]; exact hlt)
      obtain rfl : y = y' := by rw [hg] at hg'; exact Option.some.inj hg'
      have hkI : (k : Int) < (m : Int) := by omega
      have hk0 : (0 : Int) ≤ (k : Int) := by omega
      clear hg hg' hb hb'
      go_wp2
      go_quiet (fail)
      go_wp2
      go_roundw
      case rel => exact ⟨k + 1, by omega, by go_num, below_drewN HR.out _⟩
      case measure => simp [intOf]; omega
    · obtain rfl : k = m := by omega
      go_wp2
      go_ret
      exact ⟨rfl, HBr.out.trans (HR.out.mono HBr.out.size)⟩
end Go.Proofs.YtnfkjnmdfijhnaaGreatDoor
