/- The laws Valid and Cover. -/
import Derived.Test.YtfffhdclbdmfnaaAwk
namespace Go.Proofs.Ytfffhdclbdmfnaa
open Go.RowKit Ret
set_option linter.unusedVariables false
set_option linter.unusedSimpArgs false

set_option maxRecDepth 20000 in
set_option maxHeartbeats 2000000 in
theorem lawValid_any (a b c d : Int) (w : World) : Calls Try.prog 3 #[fR a b c d] w (BoolB true w) := by
  obtain ⟨W0, hW0⟩ : ∃ W0 : World, W0 = w.alloc (.cells #[.int .i64 a, .int .i64 b, .int .i64 c, .int .i64 d] 23) := ⟨_, rfl⟩
  have HB0 : Hid (Below w.heap.size w W0) := by show Below _ _ _; rw [hW0]; exact (Below.refl _ _).alloc (Nat.le_refl _) _
  have HG0 : Hid (W0.heap[w.heap.size]? = some (.cells #[.int .i64 a, .int .i64 b, .int .i64 c, .int .i64 d] 23 (0, 0))) := by show _ = _; rw [hW0]; exact heap_alloc_new w _
  go_enter Try.func3, Try.ntmps3
  go_wp2_with fail
  rw [← hW0]
  clear hW0
  go_region_with (first
    | (go_at_call 12; refine (awake_any W0.drew).mono ?_; rintro e w1 ⟨rfl, hb0⟩; have hd0 : Below W0.heap.size W0 W0.drew := (Below.refl _ _).drew; have hb1 := hd0.trans (hb0.mono hd0.size); clear hd0 hb0; have HB1 : Hid (Below w.heap.size w w1) := HB0.out.trans (hb1.mono HB0.out.size); have HG1 : Hid (w1.heap[w.heap.size]? = some (.cells #[.int .i64 a, .int .i64 b, .int .i64 c, .int .i64 d] 23 (0, 0))) := (hb1.block _ (lt_of_block HG0.out)).trans HG0.out; clear hb1; have g0 := cell_of_row w1 w.heap.size 0 _ _ _ HG1.out; have g1 := cell_of_row w1 w.heap.size 1 _ _ _ HG1.out; have g2 := cell_of_row w1 w.heap.size 2 _ _ _ HG1.out; have g3 := cell_of_row w1 w.heap.size 3 _ _ _ HG1.out; simp at g0 g1 g2 g3)
    | (go_at_call 13; refine (valid_any a b c d w1).mono ?_; rintro e w2 ⟨rfl, hb2⟩; have HB2 : Hid (Below w.heap.size w w2) := HB1.out.trans (hb2.mono HB1.out.size); have HG2 : Hid (w2.heap[w.heap.size]? = some (.cells #[.int .i64 a, .int .i64 b, .int .i64 c, .int .i64 d] 23 (0, 0))) := (hb2.block _ (lt_of_block HG1.out)).trans HG1.out; clear hb2; have k0 := cell_of_row w2 w.heap.size 0 _ _ _ HG2.out; have k1 := cell_of_row w2 w.heap.size 1 _ _ _ HG2.out; have k2 := cell_of_row w2 w.heap.size 2 _ _ _ HG2.out; have k3 := cell_of_row w2 w.heap.size 3 _ _ _ HG2.out; simp at k0 k1 k2 k3)
    | (go_at_call 14; refine (rvalid_any a b c d w2).mono ?_; rintro e w3 ⟨rfl, hb3⟩; have HB3 : Hid (Below w.heap.size w w3) := HB2.out.trans (hb3.mono HB2.out.size); have HG3 : Hid (w3.heap[w.heap.size]? = some (.cells #[.int .i64 a, .int .i64 b, .int .i64 c, .int .i64 d] 23 (0, 0))) := (hb3.block _ (lt_of_block HG2.out)).trans HG2.out; clear hb3; have l0 := cell_of_row w3 w.heap.size 0 _ _ _ HG3.out; have l1 := cell_of_row w3 w.heap.size 1 _ _ _ HG3.out; have l2 := cell_of_row w3 w.heap.size 2 _ _ _ HG3.out; have l3 := cell_of_row w3 w.heap.size 3 _ _ _ HG3.out; simp at l0 l1 l2 l3))
  all_goals
    go_wp2
    go_ret
    exact ⟨rfl, HB3.out⟩

set_option maxRecDepth 20000 in
set_option maxHeartbeats 2000000 in
theorem lawCover_any (A : Option Addr) (n c : Nat) (xs : List Int) (day : Int) (w : World) (hx : Sl I w w.heap.size A n xs) : Calls Try.prog 6 #[.slice A n c, .int .i64 day] w (BoolB true w) := by
  have HX := Lib.hid hx
  clear hx
  by_cases h40 : 40 < n
  · have h40' : 40 < (n : Int) := by omega
    go_enter Try.func6, Try.ntmps6
    go_wp2_with fail
    refine (awake_any w).mono ?_
    rintro e w1 ⟨rfl, hb1⟩
    have HB1 := Lib.hid hb1
    clear hb1
    go_wp2_with fail
    refine (awake_any w1).mono ?_
    rintro e w2 ⟨rfl, hb2⟩
    have HB2 : Hid (Below w.heap.size w w2) := HB1.out.trans (hb2.mono HB1.out.size)
    clear hb2
    go_wp2_with fail
    go_ret
    exact ⟨rfl, HB2.out⟩
  · have h40' : ¬ 40 < (n : Int) := by omega
    go_enter Try.func6, Try.ntmps6
    go_wp2_with fail
    refine (awake_any w).mono ?_
    rintro e w1 ⟨rfl, hb1⟩
    have HB1 := Lib.hid hb1
    have HX1 := Lib.hid (HX.out.up hb1 (Nat.le_refl _))
    clear hb1
    go_wp2_with fail
    refine (cover_any A n xs c day w1 _ HX1.out (by omega)).mono ?_
    rintro e w' ⟨rfl, rfl⟩
    go_wp2_with fail
    refine (rcover_any A n xs c day w1 _ HX1.out (by omega)).mono ?_
    rintro e w' ⟨rfl, rfl⟩
    go_wp2_with fail
    go_ret
    exact ⟨rfl, HB1.out⟩
end Go.Proofs.Ytfffhdclbdmfnaa
