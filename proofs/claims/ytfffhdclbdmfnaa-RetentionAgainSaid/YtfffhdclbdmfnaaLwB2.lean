/- The law Again, the third case, and all three together. -/
import Derived.Test.YtfffhdclbdmfnaaLwB
import Derived.Test.YtfffhdclbdmfnaaLw0
import Derived.Test.YtfffhdclbdmfnaaOp
namespace Go.Proofs.Ytfffhdclbdmfnaa
open Go.RowKit Ret
set_option linter.unusedVariables false
set_option linter.unusedSimpArgs false
set_option maxRecDepth 20000 in
set_option maxHeartbeats 2000000 in
theorem lawAgain_good (nm : Nums) (A A' : Option Addr) (n n' cp cp' : Nat) (xs ys : List Int) (w : World) (hx : Sl I w w.heap.size A n xs) (hy : Sl I w w.heap.size A' n' ys) (hf : (decide (n ≤ 40) && decide (n' ≤ 10)) = true) (hb : argB nm.a nm.b nm.c nm.d xs ys = true) : Calls Try.prog 10 #[fR nm.a nm.b nm.c nm.d, .slice A n cp, .slice A' n' cp'] w (BoolB true w) := by
  obtain ⟨W0, hW0⟩ : ∃ W0 : World, W0 = w.alloc (.cells #[.int .i64 nm.a, .int .i64 nm.b, .int .i64 nm.c, .int .i64 nm.d] 23) := ⟨_, rfl⟩
  have hb0 : Below w.heap.size w W0 := by rw [hW0]; exact (Below.refl _ _).alloc (Nat.le_refl _) _
  have HB0 := Lib.hid hb0
  have HG0 : Hid (W0.heap[w.heap.size]? = some (.cells #[.int .i64 nm.a, .int .i64 nm.b, .int .i64 nm.c, .int .i64 nm.d] 23 (0, 0))) := by show _ = _; rw [hW0]; exact heap_alloc_new w _
  have hn : n ≤ 40 ∧ n' ≤ 10 := by simpa using hf
  obtain ⟨hn1, hn2⟩ := hn
  have HX0 : Hid (Sl I W0 W0.heap.size A n xs) := (hx.up hb0 (Nat.le_refl _)).more' hb0.size
  have HY0 : Hid (Sl I W0 W0.heap.size A' n' ys) := (hy.up hb0 (Nat.le_refl _)).more' hb0.size
  have HF := Lib.hid hf
  have HA := Lib.hid hb
  have hk := keptL_len nm xs ys
  rw [hx.1] at hk
  have HK : Hid (argB nm.a nm.b nm.c nm.d (keptL nm xs ys) ys = true) := argB_sub (fun x hx => (keptL_mem.1 hx).1) hb
  clear hf hx hy hb hb0
  go_enter Try.func10, Try.ntmps10
  go_wp2_with fail
  rw [← hW0]
  clear hW0
  refine (awake_any W0).mono ?_
  rintro e w1 ⟨rfl, hb⟩
  have HB1 : Hid (Below w.heap.size w w1) := HB0.out.trans (hb.mono HB0.out.size)
  have HG1 : Hid (w1.heap[w.heap.size]? = some (.cells #[.int .i64 nm.a, .int .i64 nm.b, .int .i64 nm.c, .int .i64 nm.d] 23 (0, 0))) := (hb.block _ (lt_of_block HG0.out)).trans HG0.out
  have HX1 : Hid (Sl I w1 w1.heap.size A n xs) := (HX0.out.up hb (Nat.le_refl _)).more' hb.size
  have HY1 : Hid (Sl I w1 w1.heap.size A' n' ys) := (HY0.out.up hb (Nat.le_refl _)).more' hb.size
  clear hb
  go_wp2_with fail
  refine (few_yes HF.out A A' cp cp' _).mono ?_
  rintro e w' ⟨rfl, rfl⟩
  have g0 := cell_of_row w1 w.heap.size 0 _ _ _ HG1.out
  have g1 := cell_of_row w1 w.heap.size 1 _ _ _ HG1.out
  have g2 := cell_of_row w1 w.heap.size 2 _ _ _ HG1.out
  have g3 := cell_of_row w1 w.heap.size 3 _ _ _ HG1.out
  simp at g0 g1 g2 g3
  go_wp2_with fail
  refine (keep_yes nm A A' n n' cp cp' xs ys w1 HX1.out HY1.out (by omega) (by omega) HA.out).mono ?_
  rintro e w2 ⟨A1, n1, c1, rfl, hc1, hk1, hb⟩
  have HB2 : Hid (Below w.heap.size w w2) := HB1.out.trans (hb.mono HB1.out.size)
  have HG2 : Hid (w2.heap[w.heap.size]? = some (.cells #[.int .i64 nm.a, .int .i64 nm.b, .int .i64 nm.c, .int .i64 nm.d] 23 (0, 0))) := (hb.block _ (lt_of_block HG1.out)).trans HG1.out
  have HX2 : Hid (Sl I w2 w2.heap.size A n xs) := (HX1.out.up hb (Nat.le_refl _)).more' hb.size
  have HY2 : Hid (Sl I w2 w2.heap.size A' n' ys) := (HY1.out.up hb (Nat.le_refl _)).more' hb.size
  have HK2 := Lib.hid hk1
  have hn3 : n1 ≤ 40 := by have := hk1.1; omega
  clear hk1 hc1 g0 g1 g2 g3
  clear hb
  have g0 := cell_of_row w2 w.heap.size 0 _ _ _ HG2.out
  have g1 := cell_of_row w2 w.heap.size 1 _ _ _ HG2.out
  have g2 := cell_of_row w2 w.heap.size 2 _ _ _ HG2.out
  have g3 := cell_of_row w2 w.heap.size 3 _ _ _ HG2.out
  simp at g0 g1 g2 g3
  go_wp2_with fail
  refine (keep_yes nm A1 A' n1 n' c1 cp' (keptL nm xs ys) ys w2 HK2.out HY2.out (by omega) (by omega) HK.out).mono ?_
  rintro e w3 ⟨A2, n2, c2, rfl, hc2, hk2, hb⟩
  have HB3 : Hid (Below w.heap.size w w3) := HB2.out.trans (hb.mono HB2.out.size)
  have HG3 : Hid (w3.heap[w.heap.size]? = some (.cells #[.int .i64 nm.a, .int .i64 nm.b, .int .i64 nm.c, .int .i64 nm.d] 23 (0, 0))) := (hb.block _ (lt_of_block HG2.out)).trans HG2.out
  have HX3 : Hid (Sl I w3 w3.heap.size A n xs) := (HX2.out.up hb (Nat.le_refl _)).more' hb.size
  have HY3 : Hid (Sl I w3 w3.heap.size A' n' ys) := (HY2.out.up hb (Nat.le_refl _)).more' hb.size
  have HK3 : Hid (Sl I w3 w3.heap.size A1 n1 (keptL nm xs ys)) := (HK2.out.up hb (Nat.le_refl _)).more' hb.size
  rw [again_kept] at hk2
  have HL3 := Lib.hid hk2
  have hn4 : n2 ≤ 40 := by have h1 := hk2.1; have h2 := HK3.out.1; omega
  clear hk2 hc2 g0 g1 g2 g3
  clear hb
  have g0 := cell_of_row w3 w.heap.size 0 _ _ _ HG3.out
  have g1 := cell_of_row w3 w.heap.size 1 _ _ _ HG3.out
  have g2 := cell_of_row w3 w.heap.size 2 _ _ _ HG3.out
  have g3 := cell_of_row w3 w.heap.size 3 _ _ _ HG3.out
  simp at g0 g1 g2 g3
  go_wp2_with fail
  refine (drop_yes nm A1 A' n1 n' c1 cp' (keptL nm xs ys) ys w3 HK3.out HY3.out (by omega) (by omega) HK.out).mono ?_
  rintro e w4 ⟨A3, n3, c3, rfl, hc3, hk3, hb⟩
  have HB4 : Hid (Below w.heap.size w w4) := HB3.out.trans (hb.mono HB3.out.size)
  have HG4 : Hid (w4.heap[w.heap.size]? = some (.cells #[.int .i64 nm.a, .int .i64 nm.b, .int .i64 nm.c, .int .i64 nm.d] 23 (0, 0))) := (hb.block _ (lt_of_block HG3.out)).trans HG3.out
  have HX4 : Hid (Sl I w4 w4.heap.size A n xs) := (HX3.out.up hb (Nat.le_refl _)).more' hb.size
  have HY4 : Hid (Sl I w4 w4.heap.size A' n' ys) := (HY3.out.up hb (Nat.le_refl _)).more' hb.size
  have HK4 : Hid (Sl I w4 w4.heap.size A1 n1 (keptL nm xs ys)) := (HK3.out.up hb (Nat.le_refl _)).more' hb.size
  have HL4 : Hid (Sl I w4 w4.heap.size A2 n2 (keptL nm xs ys)) := (HL3.out.up hb (Nat.le_refl _)).more' hb.size
  rw [again_drop] at hk3
  obtain rfl : n3 = 0 := hk3.1.symm
  clear hk3 hc3 g0 g1 g2 g3
  clear hb
  go_wp2_with fail
  refine (same_any A1 A2 n1 n2 (keptL nm xs ys) (keptL nm xs ys) c1 c2 w4 _ HK4.out HL4.out (by omega) (by omega)).mono ?_
  rintro e w5 ⟨he, r, hr⟩
  subst hr
  rw [decide_eq_true rfl] at he
  subst he
  go_wp2_with fail
  go_ret
  exact ⟨rfl, HB4.out.trans ((below_drewN _ _).mono (HB4.out).size)⟩

theorem lawAgain_any (a b c d : Int) (A A' : Option Addr) (n n' cp cp' : Nat) (xs ys : List Int) (w : World) (hx : Sl I w w.heap.size A n xs) (hy : Sl I w w.heap.size A' n' ys) : Calls Try.prog 10 #[fR a b c d, .slice A n cp, .slice A' n' cp'] w (BoolB true w) := by
  cases hf : (decide (n ≤ 40) && decide (n' ≤ 10))
  · exact lawAgain_many a b c d A A' n n' cp cp' w hf
  · cases hb : argB a b c d xs ys
    · exact lawAgain_bad a b c d A A' n n' cp cp' xs ys w hx hy hf hb
    · obtain ⟨nm, rfl, rfl, rfl, rfl, _⟩ := argB_nums hb
      exact lawAgain_good nm A A' n n' cp cp' xs ys w hx hy hf hb
end Go.Proofs.Ytfffhdclbdmfnaa
