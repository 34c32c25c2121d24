/- The law Again: the cases where the guard fails and where the arguments are bad (the third is to do). -/
import Derived.Test.YtfffhdclbdmfnaaLwA
namespace Go.Proofs.Ytfffhdclbdmfnaa
open Go.RowKit Ret
set_option linter.unusedVariables false
set_option linter.unusedSimpArgs false

set_option maxRecDepth 20000 in
set_option maxHeartbeats 2000000 in
theorem lawAgain_many (a b c d : Int) (A A' : Option Addr) (n n' cp cp' : Nat) (w : World) (hf : (decide (n ≤ 40) && decide (n' ≤ 10)) = false) : Calls Try.prog 10 #[fR a b c d, .slice A n cp, .slice A' n' cp'] w (BoolB true w) := by
  obtain ⟨W0, hW0⟩ : ∃ W0 : World, W0 = w.alloc (.cells #[.int .i64 a, .int .i64 b, .int .i64 c, .int .i64 d] 23) := ⟨_, rfl⟩
  have HB0 : Hid (Below w.heap.size w W0) := by show Below _ _ _; rw [hW0]; exact (Below.refl _ _).alloc (Nat.le_refl _) _
  have HF : Hid (∀ W, Calls Try.prog 15 #[.slice A n cp, .slice A' n' cp'] W fun e w' => e = .returned (.bool false) ∧ W = w') := fun W => by
    have := few_any A A' n n' cp cp' W
    rw [hf] at this
    exact this.mono fun e w' h => ⟨h.1, h.2.symm ▸ rfl⟩
  clear hf
  go_enter Try.func10, Try.ntmps10
  go_wp2_with fail
  rw [← hW0]
  clear hW0
  refine (awake_any W0).mono ?_
  rintro e w1 ⟨rfl, hb1⟩
  have HB1 : Hid (Below w.heap.size w w1) := HB0.out.trans (hb1.mono HB0.out.size)
  clear hb1
  go_wp2_with fail
  refine (HF.out w1).mono ?_
  rintro e w' ⟨rfl, rfl⟩
  go_wp2_with fail
  refine (awake_any w1).mono ?_
  rintro e w2 ⟨rfl, hb2⟩
  have HB2 : Hid (Below w.heap.size w w2) := HB1.out.trans (hb2.mono HB1.out.size)
  clear hb2
  go_wp2_with fail
  go_ret
  exact ⟨rfl, HB2.out⟩

set_option maxRecDepth 20000 in
set_option maxHeartbeats 2000000 in
theorem lawAgain_bad (a b c d : Int) (A A' : Option Addr) (n n' cp cp' : Nat) (xs ys : List Int) (w : World) (hx : Sl I w w.heap.size A n xs) (hy : Sl I w w.heap.size A' n' ys) (hf : (decide (n ≤ 40) && decide (n' ≤ 10)) = true) (hb : argB a b c d xs ys = false) : Calls Try.prog 10 #[fR a b c d, .slice A n cp, .slice A' n' cp'] w (BoolB true w) := by
  have hn : n ≤ 40 ∧ n' ≤ 10 := by simpa using hf
  obtain ⟨W0, hW0⟩ : ∃ W0 : World, W0 = w.alloc (.cells #[.int .i64 a, .int .i64 b, .int .i64 c, .int .i64 d] 23) := ⟨_, rfl⟩
  have hb0 : Below w.heap.size w W0 := by rw [hW0]; exact (Below.refl _ _).alloc (Nat.le_refl _) _
  have HB0 := Lib.hid hb0
  have HG0 : Hid (W0.heap[w.heap.size]? = some (.cells #[.int .i64 a, .int .i64 b, .int .i64 c, .int .i64 d] 23 (0, 0))) := by show _ = _; rw [hW0]; exact heap_alloc_new w _
  have HF : Hid (∀ W, Calls Try.prog 15 #[.slice A n cp, .slice A' n' cp'] W fun e w' => e = .returned (.bool true) ∧ W = w') := fun W => by
    have := few_any A A' n n' cp cp' W
    rw [hf] at this
    exact this.mono fun e w' h => ⟨h.1, h.2.symm ▸ rfl⟩
  have HK : Hid (∀ W, Below w.heap.size w W → Calls Try.prog 22 #[fR a b c d, .slice A n cp, .slice A' n' cp'] W (Slc2 I ([] : List Int) 1 W)) := fun W h => (keep_any a b c d A A' n n' cp cp' xs ys W ((hx.up h (Nat.le_refl _)).more' h.size) ((hy.up h (Nat.le_refl _)).more' h.size) (by omega) (by omega)).mono fun e w' h => by
    rcases h with ⟨_, h⟩ | ⟨h1, _⟩
    · exact h
    · rw [hb] at h1; cases h1
  clear hf hx hy hb hb0
  go_enter Try.func10, Try.ntmps10
  go_wp2_with fail
  rw [← hW0]
  clear hW0
  refine (awake_any W0).mono ?_
  rintro e w1 ⟨rfl, hb1⟩
  have HB1 : Hid (Below w.heap.size w w1) := HB0.out.trans (hb1.mono HB0.out.size)
  have HG1 : Hid (w1.heap[w.heap.size]? = some (.cells #[.int .i64 a, .int .i64 b, .int .i64 c, .int .i64 d] 23 (0, 0))) := (hb1.block _ (lt_of_block HG0.out)).trans HG0.out
  clear hb1
  go_wp2_with fail
  refine (HF.out w1).mono ?_
  rintro e w' ⟨rfl, rfl⟩
  have g0 := cell_of_row w1 w.heap.size 0 _ _ _ HG1.out
  have g1 := cell_of_row w1 w.heap.size 1 _ _ _ HG1.out
  have g2 := cell_of_row w1 w.heap.size 2 _ _ _ HG1.out
  have g3 := cell_of_row w1 w.heap.size 3 _ _ _ HG1.out
  simp at g0 g1 g2 g3
  go_wp2_with fail
  clear g0 g1 g2 g3
  refine (HK.out w1 HB1.out).mono ?_
  rintro e w2 ⟨A1, n1, c1, rfl, hc1, hk1, hb2⟩
  obtain rfl : n1 = 0 := hk1.1.symm
  have HB2 : Hid (Below w.heap.size w w2) := HB1.out.trans (hb2.mono HB1.out.size)
  clear hb2 hk1 hc1
  go_wp2_with fail
  go_ret
  exact ⟨rfl, HB2.out⟩
end Go.Proofs.Ytfffhdclbdmfnaa
