/- The laws Keeps, Reasons and Next. -/
import Derived.Test.YtfffhdclbdmfnaaLwB
import Derived.Test.YtfffhdclbdmfnaaRnx
import Derived.Test.YtfffhdclbdmfnaaNxt
namespace Go.Proofs.Ytfffhdclbdmfnaa
open Go.RowKit Ret
set_option linter.unusedVariables false
set_option linter.unusedSimpArgs false

set_option maxRecDepth 20000 in
set_option maxHeartbeats 2000000 in
theorem lawKeeps_many (a b c d : Int) (A A' : Option Addr) (n n' cp cp' : Nat) (w : World) (hf : (decide (n ≤ 40) && decide (n' ≤ 10)) = false) : Calls Try.prog 9 #[fR a b c d, .slice A n cp, .slice A' n' cp'] w (BoolB true w) := by
  obtain ⟨W0, hW0⟩ : ∃ W0 : World, W0 = w.alloc (.cells #[.int .i64 a, .int .i64 b, .int .i64 c, .int .i64 d] 23) := ⟨_, rfl⟩
  have hb0 : Below w.heap.size w W0 := by rw [hW0]; exact (Below.refl _ _).alloc (Nat.le_refl _) _
  have HB0 := Lib.hid hb0
  have HG0 : Hid (W0.heap[w.heap.size]? = some (.cells #[.int .i64 a, .int .i64 b, .int .i64 c, .int .i64 d] 23 (0, 0))) := by show _ = _; rw [hW0]; exact heap_alloc_new w _
  have HF := Lib.hid hf
  clear hf hb0
  go_enter Try.func9, Try.ntmps9
  go_wp2_with fail
  rw [← hW0]
  clear hW0
  refine (awake_any W0).mono ?_
  rintro e w1 ⟨rfl, hb⟩
  have HB1 : Hid (Below w.heap.size w w1) := HB0.out.trans (hb.mono HB0.out.size)
  have HG1 : Hid (w1.heap[w.heap.size]? = some (.cells #[.int .i64 a, .int .i64 b, .int .i64 c, .int .i64 d] 23 (0, 0))) := (hb.block _ (lt_of_block HG0.out)).trans HG0.out
  clear hb
  go_wp2_with fail
  refine (few_no HF.out A A' cp cp' _).mono ?_
  rintro e w' ⟨rfl, rfl⟩
  go_wp2_with fail
  refine (awake_any w1).mono ?_
  rintro e w2 ⟨rfl, hb⟩
  have HB2 : Hid (Below w.heap.size w w2) := HB1.out.trans (hb.mono HB1.out.size)
  have HG2 : Hid (w2.heap[w.heap.size]? = some (.cells #[.int .i64 a, .int .i64 b, .int .i64 c, .int .i64 d] 23 (0, 0))) := (hb.block _ (lt_of_block HG1.out)).trans HG1.out
  clear hb
  go_wp2_with fail
  go_ret
  exact ⟨rfl, HB2.out⟩
set_option maxRecDepth 20000 in
set_option maxHeartbeats 2000000 in
theorem lawKeeps_bad (a b c d : Int) (A A' : Option Addr) (n n' cp cp' : Nat) (xs ys : List Int) (w : World) (hx : Sl I w w.heap.size A n xs) (hy : Sl I w w.heap.size A' n' ys) (hf : (decide (n ≤ 40) && decide (n' ≤ 10)) = true) (hb : argB a b c d xs ys = false) : Calls Try.prog 9 #[fR a b c d, .slice A n cp, .slice A' n' cp'] w (BoolB true w) := by
  obtain ⟨W0, hW0⟩ : ∃ W0 : World, W0 = w.alloc (.cells #[.int .i64 a, .int .i64 b, .int .i64 c, .int .i64 d] 23) := ⟨_, rfl⟩
  have hb0 : Below w.heap.size w W0 := by rw [hW0]; exact (Below.refl _ _).alloc (Nat.le_refl _) _
  have HB0 := Lib.hid hb0
  have HG0 : Hid (W0.heap[w.heap.size]? = some (.cells #[.int .i64 a, .int .i64 b, .int .i64 c, .int .i64 d] 23 (0, 0))) := by show _ = _; rw [hW0]; exact heap_alloc_new w _
  have HX0 : Hid (Sl I W0 W0.heap.size A n xs) := (hx.up hb0 (Nat.le_refl _)).more' hb0.size
  have HY0 : Hid (Sl I W0 W0.heap.size A' n' ys) := (hy.up hb0 (Nat.le_refl _)).more' hb0.size
  have hn : n ≤ 40 ∧ n' ≤ 10 := by simpa using hf
  obtain ⟨hn1, hn2⟩ := hn
  have HF := Lib.hid hf
  have HA := Lib.hid hb
  clear hf hx hy hb hb0
  go_enter Try.func9, Try.ntmps9
  go_wp2_with fail
  rw [← hW0]
  clear hW0
  refine (awake_any W0).mono ?_
  rintro e w1 ⟨rfl, hb⟩
  have HB1 : Hid (Below w.heap.size w w1) := HB0.out.trans (hb.mono HB0.out.size)
  have HG1 : Hid (w1.heap[w.heap.size]? = some (.cells #[.int .i64 a, .int .i64 b, .int .i64 c, .int .i64 d] 23 (0, 0))) := (hb.block _ (lt_of_block HG0.out)).trans HG0.out
  have HX1 : Hid (Sl I w1 w1.heap.size A n xs) := (HX0.out.up hb (Nat.le_refl _)).more' hb.size
  have HY1 : Hid (Sl I w1 w1.heap.size A' n' ys) := (HY0.out.up hb (Nat.le_refl _)).more' hb.size
  clear hb
  go_wp2_with fail
  refine (few_yes HF.out A A' cp cp' _).mono ?_
  rintro e w' ⟨rfl, rfl⟩
  have g0 := cell_of_row w1 w.heap.size 0 _ _ _ HG1.out
  have g1 := cell_of_row w1 w.heap.size 1 _ _ _ HG1.out
  have g2 := cell_of_row w1 w.heap.size 2 _ _ _ HG1.out
  have g3 := cell_of_row w1 w.heap.size 3 _ _ _ HG1.out
  simp at g0 g1 g2 g3
  go_wp2_with fail
  refine (keep_no a b c d A A' n n' cp cp' xs ys w1 HX1.out HY1.out (by omega) (by omega) HA.out).mono ?_
  rintro e w2 ⟨A1, n1, c1, rfl, hc1, hk1, hb⟩
  have HB2 : Hid (Below w.heap.size w w2) := HB1.out.trans (hb.mono HB1.out.size)
  have HG2 : Hid (w2.heap[w.heap.size]? = some (.cells #[.int .i64 a, .int .i64 b, .int .i64 c, .int .i64 d] 23 (0, 0))) := (hb.block _ (lt_of_block HG1.out)).trans HG1.out
  have HX2 : Hid (Sl I w2 w2.heap.size A n xs) := (HX1.out.up hb (Nat.le_refl _)).more' hb.size
  have HY2 : Hid (Sl I w2 w2.heap.size A' n' ys) := (HY1.out.up hb (Nat.le_refl _)).more' hb.size
  have HK2 := Lib.hid hk1
  have hl1 : n1 ≤ 40 := by have := hk1.1; simp at this; omega
  clear hk1 hc1 g0 g1 g2 g3
  clear hb
  have g0 := cell_of_row w2 w.heap.size 0 _ _ _ HG2.out
  have g1 := cell_of_row w2 w.heap.size 1 _ _ _ HG2.out
  have g2 := cell_of_row w2 w.heap.size 2 _ _ _ HG2.out
  have g3 := cell_of_row w2 w.heap.size 3 _ _ _ HG2.out
  simp at g0 g1 g2 g3
  go_wp2_with fail
  refine (drop_no a b c d A A' n n' cp cp' xs ys w2 HX2.out HY2.out (by omega) (by omega) HA.out).mono ?_
  rintro e w3 ⟨A2, n2, c2, rfl, hc2, hk2, hb⟩
  have HB3 : Hid (Below w.heap.size w w3) := HB2.out.trans (hb.mono HB2.out.size)
  have HG3 : Hid (w3.heap[w.heap.size]? = some (.cells #[.int .i64 a, .int .i64 b, .int .i64 c, .int .i64 d] 23 (0, 0))) := (hb.block _ (lt_of_block HG2.out)).trans HG2.out
  have HX3 : Hid (Sl I w3 w3.heap.size A n xs) := (HX2.out.up hb (Nat.le_refl _)).more' hb.size
  have HY3 : Hid (Sl I w3 w3.heap.size A' n' ys) := (HY2.out.up hb (Nat.le_refl _)).more' hb.size
  have HK3 : Hid (Sl I w3 w3.heap.size A1 n1 ([] : List Int)) := (HK2.out.up hb (Nat.le_refl _)).more' hb.size
  have HD3 := Lib.hid hk2
  have hl2 : n2 ≤ 40 := by have := hk2.1; simp at this; omega
  clear hk2 hc2 g0 g1 g2 g3
  clear hb
  have g0 := cell_of_row w3 w.heap.size 0 _ _ _ HG3.out
  have g1 := cell_of_row w3 w.heap.size 1 _ _ _ HG3.out
  have g2 := cell_of_row w3 w.heap.size 2 _ _ _ HG3.out
  have g3 := cell_of_row w3 w.heap.size 3 _ _ _ HG3.out
  simp at g0 g1 g2 g3
  go_wp2_with fail
  refine (rkeep_no a b c d A A' n n' cp cp' xs ys w3 HX3.out HY3.out (by omega) (by omega) HA.out).mono ?_
  rintro e w4 ⟨A3, n3, c3, rfl, hc3, hk3, hb⟩
  have HB4 : Hid (Below w.heap.size w w4) := HB3.out.trans (hb.mono HB3.out.size)
  have HG4 : Hid (w4.heap[w.heap.size]? = some (.cells #[.int .i64 a, .int .i64 b, .int .i64 c, .int .i64 d] 23 (0, 0))) := (hb.block _ (lt_of_block HG3.out)).trans HG3.out
  have HX4 : Hid (Sl I w4 w4.heap.size A n xs) := (HX3.out.up hb (Nat.le_refl _)).more' hb.size
  have HY4 : Hid (Sl I w4 w4.heap.size A' n' ys) := (HY3.out.up hb (Nat.le_refl _)).more' hb.size
  have HK4 : Hid (Sl I w4 w4.heap.size A1 n1 ([] : List Int)) := (HK3.out.up hb (Nat.le_refl _)).more' hb.size
  have HD4 : Hid (Sl I w4 w4.heap.size A2 n2 ([] : List Int)) := (HD3.out.up hb (Nat.le_refl _)).more' hb.size
  have HL4 := Lib.hid hk3
  have hl3 : n3 ≤ 40 := by have := hk3.1; simp at this; omega
  clear hk3 hc3 g0 g1 g2 g3
  clear hb
  have g0 := cell_of_row w4 w.heap.size 0 _ _ _ HG4.out
  have g1 := cell_of_row w4 w.heap.size 1 _ _ _ HG4.out
  have g2 := cell_of_row w4 w.heap.size 2 _ _ _ HG4.out
  have g3 := cell_of_row w4 w.heap.size 3 _ _ _ HG4.out
  simp at g0 g1 g2 g3
  go_wp2_with fail
  refine (rdrop_no a b c d A A' n n' cp cp' xs ys w4 HX4.out HY4.out (by omega) (by omega) HA.out).mono ?_
  rintro e w5 ⟨A4, n4, c4, rfl, hc4, hk4, hb⟩
  have HB5 : Hid (Below w.heap.size w w5) := HB4.out.trans (hb.mono HB4.out.size)
  have HG5 : Hid (w5.heap[w.heap.size]? = some (.cells #[.int .i64 a, .int .i64 b, .int .i64 c, .int .i64 d] 23 (0, 0))) := (hb.block _ (lt_of_block HG4.out)).trans HG4.out
  have HX5 : Hid (Sl I w5 w5.heap.size A n xs) := (HX4.out.up hb (Nat.le_refl _)).more' hb.size
  have HY5 : Hid (Sl I w5 w5.heap.size A' n' ys) := (HY4.out.up hb (Nat.le_refl _)).more' hb.size
  have HK5 : Hid (Sl I w5 w5.heap.size A1 n1 ([] : List Int)) := (HK4.out.up hb (Nat.le_refl _)).more' hb.size
  have HD5 : Hid (Sl I w5 w5.heap.size A2 n2 ([] : List Int)) := (HD4.out.up hb (Nat.le_refl _)).more' hb.size
  have HL5 : Hid (Sl I w5 w5.heap.size A3 n3 ([] : List Int)) := (HL4.out.up hb (Nat.le_refl _)).more' hb.size
  have HE5 := Lib.hid hk4
  have hl4 : n4 ≤ 40 := by have := hk4.1; simp at this; omega
  clear hk4 hc4 g0 g1 g2 g3
  clear hb
  go_wp2_with fail
  refine (same_any A1 A3 n1 n3 ([] : List Int) ([] : List Int) c1 c3 w5 _ HK5.out HL5.out (by omega) (by omega)).mono ?_
  rintro e w6 ⟨he, r, hr⟩
  rw [decide_eq_true rfl] at he
  subst he
  have hb : Below w5.heap.size w5 w6 := by rw [hr]; exact below_drewN _ _
  clear hr
  have HB6 : Hid (Below w.heap.size w w6) := HB5.out.trans (hb.mono HB5.out.size)
  have HG6 : Hid (w6.heap[w.heap.size]? = some (.cells #[.int .i64 a, .int .i64 b, .int .i64 c, .int .i64 d] 23 (0, 0))) := (hb.block _ (lt_of_block HG5.out)).trans HG5.out
  have HX6 : Hid (Sl I w6 w6.heap.size A n xs) := (HX5.out.up hb (Nat.le_refl _)).more' hb.size
  have HY6 : Hid (Sl I w6 w6.heap.size A' n' ys) := (HY5.out.up hb (Nat.le_refl _)).more' hb.size
  have HK6 : Hid (Sl I w6 w6.heap.size A1 n1 ([] : List Int)) := (HK5.out.up hb (Nat.le_refl _)).more' hb.size
  have HD6 : Hid (Sl I w6 w6.heap.size A2 n2 ([] : List Int)) := (HD5.out.up hb (Nat.le_refl _)).more' hb.size
  have HL6 : Hid (Sl I w6 w6.heap.size A3 n3 ([] : List Int)) := (HL5.out.up hb (Nat.le_refl _)).more' hb.size
  have HE6 : Hid (Sl I w6 w6.heap.size A4 n4 ([] : List Int)) := (HE5.out.up hb (Nat.le_refl _)).more' hb.size
  clear hb
  go_wp2_with fail
  refine (same_any A2 A4 n2 n4 ([] : List Int) ([] : List Int) c2 c4 w6 _ HD6.out HE6.out (by omega) (by omega)).mono ?_
  rintro e w7 ⟨he, r, hr⟩
  rw [decide_eq_true rfl] at he
  subst he
  have hb : Below w6.heap.size w6 w7 := by rw [hr]; exact below_drewN _ _
  clear hr
  have HB7 : Hid (Below w.heap.size w w7) := HB6.out.trans (hb.mono HB6.out.size)
  have HG7 : Hid (w7.heap[w.heap.size]? = some (.cells #[.int .i64 a, .int .i64 b, .int .i64 c, .int .i64 d] 23 (0, 0))) := (hb.block _ (lt_of_block HG6.out)).trans HG6.out
  have HX7 : Hid (Sl I w7 w7.heap.size A n xs) := (HX6.out.up hb (Nat.le_refl _)).more' hb.size
  have HY7 : Hid (Sl I w7 w7.heap.size A' n' ys) := (HY6.out.up hb (Nat.le_refl _)).more' hb.size
  have HK7 : Hid (Sl I w7 w7.heap.size A1 n1 ([] : List Int)) := (HK6.out.up hb (Nat.le_refl _)).more' hb.size
  have HD7 : Hid (Sl I w7 w7.heap.size A2 n2 ([] : List Int)) := (HD6.out.up hb (Nat.le_refl _)).more' hb.size
  have HL7 : Hid (Sl I w7 w7.heap.size A3 n3 ([] : List Int)) := (HL6.out.up hb (Nat.le_refl _)).more' hb.size
  have HE7 : Hid (Sl I w7 w7.heap.size A4 n4 ([] : List Int)) := (HE6.out.up hb (Nat.le_refl _)).more' hb.size
  clear hb
  go_wp2_with fail
  go_ret
  exact ⟨rfl, HB7.out⟩
set_option maxRecDepth 20000 in
set_option maxHeartbeats 2000000 in
theorem lawKeeps_good (nm : Nums) (h1 : nm.a ≤ 1000) (h2 : nm.b ≤ 1000) (h3 : nm.c ≤ 1000) (h4 : nm.d ≤ 1000) (A A' : Option Addr) (n n' cp cp' : Nat) (xs ys : List Int) (w : World) (hx : Sl I w w.heap.size A n xs) (hy : Sl I w w.heap.size A' n' ys) (hf : (decide (n ≤ 40) && decide (n' ≤ 10)) = true) (hb : argB nm.a nm.b nm.c nm.d xs ys = true) : Calls Try.prog 9 #[fR nm.a nm.b nm.c nm.d, .slice A n cp, .slice A' n' cp'] w (BoolB true w) := by
  obtain ⟨W0, hW0⟩ : ∃ W0 : World, W0 = w.alloc (.cells #[.int .i64 nm.a, .int .i64 nm.b, .int .i64 nm.c, .int .i64 nm.d] 23) := ⟨_, rfl⟩
  have hb0 : Below w.heap.size w W0 := by rw [hW0]; exact (Below.refl _ _).alloc (Nat.le_refl _) _
  have HB0 := Lib.hid hb0
  have HG0 : Hid (W0.heap[w.heap.size]? = some (.cells #[.int .i64 nm.a, .int .i64 nm.b, .int .i64 nm.c, .int .i64 nm.d] 23 (0, 0))) := by show _ = _; rw [hW0]; exact heap_alloc_new w _
  have HX0 : Hid (Sl I W0 W0.heap.size A n xs) := (hx.up hb0 (Nat.le_refl _)).more' hb0.size
  have HY0 : Hid (Sl I W0 W0.heap.size A' n' ys) := (hy.up hb0 (Nat.le_refl _)).more' hb0.size
  have hn : n ≤ 40 ∧ n' ≤ 10 := by simpa using hf
  obtain ⟨hn1, hn2⟩ := hn
  have HF := Lib.hid hf
  have HA := Lib.hid hb
  have hk := keptL_len nm xs ys
  have hd := dropL_len nm xs ys
  rw [hx.1] at hk hd
  clear hf hx hy hb hb0
  go_enter Try.func9, Try.ntmps9
  go_wp2_with fail
  rw [← hW0]
  clear hW0
  refine (awake_any W0).mono ?_
  rintro e w1 ⟨rfl, hb⟩
  have HB1 : Hid (Below w.heap.size w w1) := HB0.out.trans (hb.mono HB0.out.size)
  have HG1 : Hid (w1.heap[w.heap.size]? = some (.cells #[.int .i64 nm.a, .int .i64 nm.b, .int .i64 nm.c, .int .i64 nm.d] 23 (0, 0))) := (hb.block _ (lt_of_block HG0.out)).trans HG0.out
  have HX1 : Hid (Sl I w1 w1.heap.size A n xs) := (HX0.out.up hb (Nat.le_refl _)).more' hb.size
  have HY1 : Hid (Sl I w1 w1.heap.size A' n' ys) := (HY0.out.up hb (Nat.le_refl _)).more' hb.size
  clear hb
  go_wp2_with fail
  refine (few_yes HF.out A A' cp cp' _).mono ?_
  rintro e w' ⟨rfl, rfl⟩
  have g0 := cell_of_row w1 w.heap.size 0 _ _ _ HG1.out
  have g1 := cell_of_row w1 w.heap.size 1 _ _ _ HG1.out
  have g2 := cell_of_row w1 w.heap.size 2 _ _ _ HG1.out
  have g3 := cell_of_row w1 w.heap.size 3 _ _ _ HG1.out
  simp at g0 g1 g2 g3
  go_wp2_with fail
  refine (keep_yes nm A A' n n' cp cp' xs ys w1 HX1.out HY1.out (by omega) (by omega) HA.out).mono ?_
  rintro e w2 ⟨A1, n1, c1, rfl, hc1, hk1, hb⟩
  have HB2 : Hid (Below w.heap.size w w2) := HB1.out.trans (hb.mono HB1.out.size)
  have HG2 : Hid (w2.heap[w.heap.size]? = some (.cells #[.int .i64 nm.a, .int .i64 nm.b, .int .i64 nm.c, .int .i64 nm.d] 23 (0, 0))) := (hb.block _ (lt_of_block HG1.out)).trans HG1.out
  have HX2 : Hid (Sl I w2 w2.heap.size A n xs) := (HX1.out.up hb (Nat.le_refl _)).more' hb.size
  have HY2 : Hid (Sl I w2 w2.heap.size A' n' ys) := (HY1.out.up hb (Nat.le_refl _)).more' hb.size
  have HK2 := Lib.hid hk1
  have hl1 : n1 ≤ 40 := by have := hk1.1; omega
  clear hk1 hc1 g0 g1 g2 g3
  clear hb
  have g0 := cell_of_row w2 w.heap.size 0 _ _ _ HG2.out
  have g1 := cell_of_row w2 w.heap.size 1 _ _ _ HG2.out
  have g2 := cell_of_row w2 w.heap.size 2 _ _ _ HG2.out
  have g3 := cell_of_row w2 w.heap.size 3 _ _ _ HG2.out
  simp at g0 g1 g2 g3
  go_wp2_with fail
  refine (drop_yes nm A A' n n' cp cp' xs ys w2 HX2.out HY2.out (by omega) (by omega) HA.out).mono ?_
  rintro e w3 ⟨A2, n2, c2, rfl, hc2, hk2, hb⟩
  have HB3 : Hid (Below w.heap.size w w3) := HB2.out.trans (hb.mono HB2.out.size)
  have HG3 : Hid (w3.heap[w.heap.size]? = some (.cells #[.int .i64 nm.a, .int .i64 nm.b, .int .i64 nm.c, .int .i64 nm.d] 23 (0, 0))) := (hb.block _ (lt_of_block HG2.out)).trans HG2.out
  have HX3 : Hid (Sl I w3 w3.heap.size A n xs) := (HX2.out.up hb (Nat.le_refl _)).more' hb.size
  have HY3 : Hid (Sl I w3 w3.heap.size A' n' ys) := (HY2.out.up hb (Nat.le_refl _)).more' hb.size
  have HK3 : Hid (Sl I w3 w3.heap.size A1 n1 (keptL nm xs ys)) := (HK2.out.up hb (Nat.le_refl _)).more' hb.size
  have HD3 := Lib.hid hk2
  have hl2 : n2 ≤ 40 := by have := hk2.1; omega
  clear hk2 hc2 g0 g1 g2 g3
  clear hb
  have g0 := cell_of_row w3 w.heap.size 0 _ _ _ HG3.out
  have g1 := cell_of_row w3 w.heap.size 1 _ _ _ HG3.out
  have g2 := cell_of_row w3 w.heap.size 2 _ _ _ HG3.out
  have g3 := cell_of_row w3 w.heap.size 3 _ _ _ HG3.out
  simp at g0 g1 g2 g3
  go_wp2_with fail
  refine (rkeep_yes nm h1 h2 h3 h4 A A' n n' cp cp' xs ys w3 HX3.out HY3.out (by omega) (by omega) HA.out).mono ?_
  rintro e w4 ⟨A3, n3, c3, rfl, hc3, hk3, hb⟩
  have HB4 : Hid (Below w.heap.size w w4) := HB3.out.trans (hb.mono HB3.out.size)
  have HG4 : Hid (w4.heap[w.heap.size]? = some (.cells #[.int .i64 nm.a, .int .i64 nm.b, .int .i64 nm.c, .int .i64 nm.d] 23 (0, 0))) := (hb.block _ (lt_of_block HG3.out)).trans HG3.out
  have HX4 : Hid (Sl I w4 w4.heap.size A n xs) := (HX3.out.up hb (Nat.le_refl _)).more' hb.size
  have HY4 : Hid (Sl I w4 w4.heap.size A' n' ys) := (HY3.out.up hb (Nat.le_refl _)).more' hb.size
  have HK4 : Hid (Sl I w4 w4.heap.size A1 n1 (keptL nm xs ys)) := (HK3.out.up hb (Nat.le_refl _)).more' hb.size
  have HD4 : Hid (Sl I w4 w4.heap.size A2 n2 (dropL nm xs ys)) := (HD3.out.up hb (Nat.le_refl _)).more' hb.size
  have HL4 := Lib.hid hk3
  have hl3 : n3 ≤ 40 := by have := hk3.1; omega
  clear hk3 hc3 g0 g1 g2 g3
  clear hb
  have g0 := cell_of_row w4 w.heap.size 0 _ _ _ HG4.out
  have g1 := cell_of_row w4 w.heap.size 1 _ _ _ HG4.out
  have g2 := cell_of_row w4 w.heap.size 2 _ _ _ HG4.out
  have g3 := cell_of_row w4 w.heap.size 3 _ _ _ HG4.out
  simp at g0 g1 g2 g3
  go_wp2_with fail
  refine (rdrop_yes nm h1 h2 h3 h4 A A' n n' cp cp' xs ys w4 HX4.out HY4.out (by omega) (by omega) HA.out).mono ?_
  rintro e w5 ⟨A4, n4, c4, rfl, hc4, hk4, hb⟩
  have HB5 : Hid (Below w.heap.size w w5) := HB4.out.trans (hb.mono HB4.out.size)
  have HG5 : Hid (w5.heap[w.heap.size]? = some (.cells #[.int .i64 nm.a, .int .i64 nm.b, .int .i64 nm.c, .int .i64 nm.d] 23 (0, 0))) := (hb.block _ (lt_of_block HG4.out)).trans HG4.out
  have HX5 : Hid (Sl I w5 w5.heap.size A n xs) := (HX4.out.up hb (Nat.le_refl _)).more' hb.size
  have HY5 : Hid (Sl I w5 w5.heap.size A' n' ys) := (HY4.out.up hb (Nat.le_refl _)).more' hb.size
  have HK5 : Hid (Sl I w5 w5.heap.size A1 n1 (keptL nm xs ys)) := (HK4.out.up hb (Nat.le_refl _)).more' hb.size
  have HD5 : Hid (Sl I w5 w5.heap.size A2 n2 (dropL nm xs ys)) := (HD4.out.up hb (Nat.le_refl _)).more' hb.size
  have HL5 : Hid (Sl I w5 w5.heap.size A3 n3 (keptL nm xs ys)) := (HL4.out.up hb (Nat.le_refl _)).more' hb.size
  have HE5 := Lib.hid hk4
  have hl4 : n4 ≤ 40 := by have := hk4.1; omega
  clear hk4 hc4 g0 g1 g2 g3
  clear hb
  go_wp2_with fail
  refine (same_any A1 A3 n1 n3 (keptL nm xs ys) (keptL nm xs ys) c1 c3 w5 _ HK5.out HL5.out (by omega) (by omega)).mono ?_
  rintro e w6 ⟨he, r, hr⟩
  rw [decide_eq_true rfl] at he
  subst he
  have hb : Below w5.heap.size w5 w6 := by rw [hr]; exact below_drewN _ _
  clear hr
  have HB6 : Hid (Below w.heap.size w w6) := HB5.out.trans (hb.mono HB5.out.size)
  have HG6 : Hid (w6.heap[w.heap.size]? = some (.cells #[.int .i64 nm.a, .int .i64 nm.b, .int .i64 nm.c, .int .i64 nm.d] 23 (0, 0))) := (hb.block _ (lt_of_block HG5.out)).trans HG5.out
  have HX6 : Hid (Sl I w6 w6.heap.size A n xs) := (HX5.out.up hb (Nat.le_refl _)).more' hb.size
  have HY6 : Hid (Sl I w6 w6.heap.size A' n' ys) := (HY5.out.up hb (Nat.le_refl _)).more' hb.size
  have HK6 : Hid (Sl I w6 w6.heap.size A1 n1 (keptL nm xs ys)) := (HK5.out.up hb (Nat.le_refl _)).more' hb.size
  have HD6 : Hid (Sl I w6 w6.heap.size A2 n2 (dropL nm xs ys)) := (HD5.out.up hb (Nat.le_refl _)).more' hb.size
  have HL6 : Hid (Sl I w6 w6.heap.size A3 n3 (keptL nm xs ys)) := (HL5.out.up hb (Nat.le_refl _)).more' hb.size
  have HE6 : Hid (Sl I w6 w6.heap.size A4 n4 (dropL nm xs ys)) := (HE5.out.up hb (Nat.le_refl _)).more' hb.size
  clear hb
  go_wp2_with fail
  refine (same_any A2 A4 n2 n4 (dropL nm xs ys) (dropL nm xs ys) c2 c4 w6 _ HD6.out HE6.out (by omega) (by omega)).mono ?_
  rintro e w7 ⟨he, r, hr⟩
  rw [decide_eq_true rfl] at he
  subst he
  have hb : Below w6.heap.size w6 w7 := by rw [hr]; exact below_drewN _ _
  clear hr
  have HB7 : Hid (Below w.heap.size w w7) := HB6.out.trans (hb.mono HB6.out.size)
  have HG7 : Hid (w7.heap[w.heap.size]? = some (.cells #[.int .i64 nm.a, .int .i64 nm.b, .int .i64 nm.c, .int .i64 nm.d] 23 (0, 0))) := (hb.block _ (lt_of_block HG6.out)).trans HG6.out
  have HX7 : Hid (Sl I w7 w7.heap.size A n xs) := (HX6.out.up hb (Nat.le_refl _)).more' hb.size
  have HY7 : Hid (Sl I w7 w7.heap.size A' n' ys) := (HY6.out.up hb (Nat.le_refl _)).more' hb.size
  have HK7 : Hid (Sl I w7 w7.heap.size A1 n1 (keptL nm xs ys)) := (HK6.out.up hb (Nat.le_refl _)).more' hb.size
  have HD7 : Hid (Sl I w7 w7.heap.size A2 n2 (dropL nm xs ys)) := (HD6.out.up hb (Nat.le_refl _)).more' hb.size
  have HL7 : Hid (Sl I w7 w7.heap.size A3 n3 (keptL nm xs ys)) := (HL6.out.up hb (Nat.le_refl _)).more' hb.size
  have HE7 : Hid (Sl I w7 w7.heap.size A4 n4 (dropL nm xs ys)) := (HE6.out.up hb (Nat.le_refl _)).more' hb.size
  clear hb
  go_wp2_with fail
  go_ret
  exact ⟨rfl, HB7.out⟩
theorem lawKeeps_any (a b c d : Int) (A A' : Option Addr) (n n' cp cp' : Nat) (xs ys : List Int) (w : World) (hx : Sl I w w.heap.size A n xs) (hy : Sl I w w.heap.size A' n' ys) : Calls Try.prog 9 #[fR a b c d, .slice A n cp, .slice A' n' cp'] w (BoolB true w) := by
  cases hf : (decide (n ≤ 40) && decide (n' ≤ 10))
  · exact lawKeeps_many a b c d A A' n n' cp cp' w hf
  · cases hb : argB a b c d xs ys
    · exact lawKeeps_bad a b c d A A' n n' cp cp' xs ys w hx hy hf hb
    · obtain ⟨nm, rfl, rfl, rfl, rfl, h1, h2, h3, h4⟩ := argB_nums hb
      exact lawKeeps_good nm h1 h2 h3 h4 A A' n n' cp cp' xs ys w hx hy hf hb
set_option maxRecDepth 20000 in
set_option maxHeartbeats 2000000 in
theorem lawReasons_many (a b c d day : Int) (A A' : Option Addr) (n n' cp cp' : Nat) (w : World) (hf : (decide (n ≤ 40) && decide (n' ≤ 10)) = false) : Calls Try.prog 4 #[fR a b c d, .slice A n cp, .slice A' n' cp', .int .i64 day] w (BoolB true w) := by
  obtain ⟨W0, hW0⟩ : ∃ W0 : World, W0 = w.alloc (.cells #[.int .i64 a, .int .i64 b, .int .i64 c, .int .i64 d] 23) := ⟨_, rfl⟩
  have hb0 : Below w.heap.size w W0 := by rw [hW0]; exact (Below.refl _ _).alloc (Nat.le_refl _) _
  have HB0 := Lib.hid hb0
  have HG0 : Hid (W0.heap[w.heap.size]? = some (.cells #[.int .i64 a, .int .i64 b, .int .i64 c, .int .i64 d] 23 (0, 0))) := by show _ = _; rw [hW0]; exact heap_alloc_new w _
  have HF := Lib.hid hf
  clear hf hb0
  go_enter Try.func4, Try.ntmps4
  go_wp2_with fail
  rw [← hW0]
  clear hW0
  refine (awake_any W0).mono ?_
  rintro e w1 ⟨rfl, hb⟩
  have HB1 : Hid (Below w.heap.size w w1) := HB0.out.trans (hb.mono HB0.out.size)
  have HG1 : Hid (w1.heap[w.heap.size]? = some (.cells #[.int .i64 a, .int .i64 b, .int .i64 c, .int .i64 d] 23 (0, 0))) := (hb.block _ (lt_of_block HG0.out)).trans HG0.out
  clear hb
  go_wp2_with fail
  refine (few_no HF.out A A' cp cp' _).mono ?_
  rintro e w' ⟨rfl, rfl⟩
  go_wp2_with fail
  refine (awake_any w1).mono ?_
  rintro e w2 ⟨rfl, hb⟩
  have HB2 : Hid (Below w.heap.size w w2) := HB1.out.trans (hb.mono HB1.out.size)
  have HG2 : Hid (w2.heap[w.heap.size]? = some (.cells #[.int .i64 a, .int .i64 b, .int .i64 c, .int .i64 d] 23 (0, 0))) := (hb.block _ (lt_of_block HG1.out)).trans HG1.out
  clear hb
  go_wp2_with fail
  go_ret
  exact ⟨rfl, HB2.out⟩
set_option maxRecDepth 20000 in
set_option maxHeartbeats 2000000 in
theorem lawReasons_core (a b c d day : Int) (v er : Int) (A A' : Option Addr) (n n' cp cp' : Nat) (w : World) (hf : (decide (n ≤ 40) && decide (n' ≤ 10)) = true) (h1 : (∀ W, Below w.heap.size w W → Calls Try.prog 16 #[fR a b c d, .slice A n cp, .slice A' n' cp', .int .i64 day] W (Int2 v er W))) (h2 : (∀ W, Below w.heap.size w W → Calls Try.prog 17 #[fR a b c d, .slice A n cp, .slice A' n' cp', .int .i64 day] W (Int2 v er W))) : Calls Try.prog 4 #[fR a b c d, .slice A n cp, .slice A' n' cp', .int .i64 day] w (BoolB true w) := by
  obtain ⟨W0, hW0⟩ : ∃ W0 : World, W0 = w.alloc (.cells #[.int .i64 a, .int .i64 b, .int .i64 c, .int .i64 d] 23) := ⟨_, rfl⟩
  have hb0 : Below w.heap.size w W0 := by rw [hW0]; exact (Below.refl _ _).alloc (Nat.le_refl _) _
  have HB0 := Lib.hid hb0
  have HG0 : Hid (W0.heap[w.heap.size]? = some (.cells #[.int .i64 a, .int .i64 b, .int .i64 c, .int .i64 d] 23 (0, 0))) := by show _ = _; rw [hW0]; exact heap_alloc_new w _
  have HF := Lib.hid hf
  clear hf
  have H1 := Lib.hid h1
  have H2 := Lib.hid h2
  clear h1 h2 hb0
  go_enter Try.func4, Try.ntmps4
  go_wp2_with fail
  rw [← hW0]
  clear hW0
  refine (awake_any W0).mono ?_
  rintro e w1 ⟨rfl, hb⟩
  have HB1 : Hid (Below w.heap.size w w1) := HB0.out.trans (hb.mono HB0.out.size)
  have HG1 : Hid (w1.heap[w.heap.size]? = some (.cells #[.int .i64 a, .int .i64 b, .int .i64 c, .int .i64 d] 23 (0, 0))) := (hb.block _ (lt_of_block HG0.out)).trans HG0.out
  clear hb
  go_wp2_with fail
  refine (few_yes HF.out A A' cp cp' _).mono ?_
  rintro e w' ⟨rfl, rfl⟩
  have g0 := cell_of_row w1 w.heap.size 0 _ _ _ HG1.out
  have g1 := cell_of_row w1 w.heap.size 1 _ _ _ HG1.out
  have g2 := cell_of_row w1 w.heap.size 2 _ _ _ HG1.out
  have g3 := cell_of_row w1 w.heap.size 3 _ _ _ HG1.out
  simp at g0 g1 g2 g3
  go_wp2_with fail
  refine (H1.out w1 HB1.out).mono ?_
  rintro e w2 ⟨rfl, hb⟩
  have HB2 : Hid (Below w.heap.size w w2) := HB1.out.trans (hb.mono HB1.out.size)
  have HG2 : Hid (w2.heap[w.heap.size]? = some (.cells #[.int .i64 a, .int .i64 b, .int .i64 c, .int .i64 d] 23 (0, 0))) := (hb.block _ (lt_of_block HG1.out)).trans HG1.out
  clear g0 g1 g2 g3
  clear hb
  have g0 := cell_of_row w2 w.heap.size 0 _ _ _ HG2.out
  have g1 := cell_of_row w2 w.heap.size 1 _ _ _ HG2.out
  have g2 := cell_of_row w2 w.heap.size 2 _ _ _ HG2.out
  have g3 := cell_of_row w2 w.heap.size 3 _ _ _ HG2.out
  simp at g0 g1 g2 g3
  go_wp2_with fail
  refine (H2.out w2 HB2.out).mono ?_
  rintro e w3 ⟨rfl, hb⟩
  have HB3 : Hid (Below w.heap.size w w3) := HB2.out.trans (hb.mono HB2.out.size)
  have HG3 : Hid (w3.heap[w.heap.size]? = some (.cells #[.int .i64 a, .int .i64 b, .int .i64 c, .int .i64 d] 23 (0, 0))) := (hb.block _ (lt_of_block HG2.out)).trans HG2.out
  clear g0 g1 g2 g3
  clear hb
  have e1 : (v == v) = true := by simp
  have e2 : (er == er) = true := by simp
  go_wp2_with fail
  go_ret
  exact ⟨rfl, HB3.out⟩
theorem lawReasons_any (a b c d day : Int) (A A' : Option Addr) (n n' cp cp' : Nat) (xs ys : List Int) (w : World) (hx : Sl I w w.heap.size A n xs) (hy : Sl I w w.heap.size A' n' ys) : Calls Try.prog 4 #[fR a b c d, .slice A n cp, .slice A' n' cp', .int .i64 day] w (BoolB true w) := by
  cases hf : (decide (n ≤ 40) && decide (n' ≤ 10))
  · exact lawReasons_many a b c d day A A' n n' cp cp' w hf
  · have hn : n ≤ 40 ∧ n' ≤ 10 := by simpa using hf
    cases hb : argB a b c d xs ys
    · exact lawReasons_core a b c d day 0 1 A A' n n' cp cp' w hf (fun W h => reasonsF_no a b c d day A A' n n' cp cp' xs ys W ((hx.up h (Nat.le_refl _)).more' h.size) ((hy.up h (Nat.le_refl _)).more' h.size) (by omega) (by omega) hb) (fun W h => rreasonsF_no a b c d day A A' n n' cp cp' xs ys W ((hx.up h (Nat.le_refl _)).more' h.size) ((hy.up h (Nat.le_refl _)).more' h.size) (by omega) (by omega) hb)
    · obtain ⟨nm, rfl, rfl, rfl, rfl, h1, h2, h3, h4⟩ := argB_nums hb
      exact lawReasons_core nm.a nm.b nm.c nm.d day _ _ A A' n n' cp cp' w hf (fun W h => reasonsF_yes nm h1 h2 h3 h4 day A A' n n' cp cp' xs ys W ((hx.up h (Nat.le_refl _)).more' h.size) ((hy.up h (Nat.le_refl _)).more' h.size) (by omega) (by omega) hb) (fun W h => rreasonsF_yes nm h1 h2 h3 h4 day A A' n n' cp cp' xs ys W ((hx.up h (Nat.le_refl _)).more' h.size) ((hy.up h (Nat.le_refl _)).more' h.size) (by omega) (by omega) hb)
set_option maxRecDepth 20000 in
set_option maxHeartbeats 2000000 in
theorem lawNext_many (a b c d day limit : Int) (A A' : Option Addr) (n n' cp cp' : Nat) (w : World) (hf : 12 < n ∨ 5 < n' ∨ (40 < limit ∧ limit ≤ 4000)) : Calls Try.prog 5 #[fR a b c d, .slice A n cp, .slice A' n' cp', .int .i64 day, .int .i64 limit] w (BoolB true w) := by
  obtain ⟨W0, hW0⟩ : ∃ W0 : World, W0 = w.alloc (.cells #[.int .i64 a, .int .i64 b, .int .i64 c, .int .i64 d] 23) := ⟨_, rfl⟩
  have hb0 : Below w.heap.size w W0 := by rw [hW0]; exact (Below.refl _ _).alloc (Nat.le_refl _) _
  have HB0 := Lib.hid hb0
  have HG0 : Hid (W0.heap[w.heap.size]? = some (.cells #[.int .i64 a, .int .i64 b, .int .i64 c, .int .i64 d] 23 (0, 0))) := by show _ = _; rw [hW0]; exact heap_alloc_new w _
  clear hb0
  by_cases h1 : 12 < n
  · have h1 : 12 < (n : Int) := by omega
    clear hf
    go_enter Try.func5, Try.ntmps5
    go_wp2_with fail
    rw [← hW0]
    clear hW0
    refine (awake_any W0).mono ?_
    rintro e w1 ⟨rfl, hb⟩
    have HB1 : Hid (Below w.heap.size w w1) := HB0.out.trans (hb.mono HB0.out.size)
    have HG1 : Hid (w1.heap[w.heap.size]? = some (.cells #[.int .i64 a, .int .i64 b, .int .i64 c, .int .i64 d] 23 (0, 0))) := (hb.block _ (lt_of_block HG0.out)).trans HG0.out
    clear hb
    go_wp2_with fail
    refine (awake_any w1).mono ?_
    rintro e w2 ⟨rfl, hb⟩
    have HB2 : Hid (Below w.heap.size w w2) := HB1.out.trans (hb.mono HB1.out.size)
    have HG2 : Hid (w2.heap[w.heap.size]? = some (.cells #[.int .i64 a, .int .i64 b, .int .i64 c, .int .i64 d] 23 (0, 0))) := (hb.block _ (lt_of_block HG1.out)).trans HG1.out
    clear hb
    go_wp2_with fail
    go_ret
    exact ⟨rfl, HB2.out⟩
  · by_cases h2 : 5 < n'
    · have h1 : ¬ 12 < (n : Int) := by omega
      have h2 : 5 < (n' : Int) := by omega
      clear hf
      go_enter Try.func5, Try.ntmps5
      go_wp2_with fail
      rw [← hW0]
      clear hW0
      refine (awake_any W0).mono ?_
      rintro e w1 ⟨rfl, hb⟩
      have HB1 : Hid (Below w.heap.size w w1) := HB0.out.trans (hb.mono HB0.out.size)
      have HG1 : Hid (w1.heap[w.heap.size]? = some (.cells #[.int .i64 a, .int .i64 b, .int .i64 c, .int .i64 d] 23 (0, 0))) := (hb.block _ (lt_of_block HG0.out)).trans HG0.out
      clear hb
      go_wp2_with fail
      refine (awake_any w1).mono ?_
      rintro e w2 ⟨rfl, hb⟩
      have HB2 : Hid (Below w.heap.size w w2) := HB1.out.trans (hb.mono HB1.out.size)
      have HG2 : Hid (w2.heap[w.heap.size]? = some (.cells #[.int .i64 a, .int .i64 b, .int .i64 c, .int .i64 d] 23 (0, 0))) := (hb.block _ (lt_of_block HG1.out)).trans HG1.out
      clear hb
      go_wp2_with fail
      go_ret
      exact ⟨rfl, HB2.out⟩
    · have hf : 40 < limit ∧ limit ≤ 4000 := by omega
      have h1 : ¬ 12 < (n : Int) := by omega
      have h2 : ¬ 5 < (n' : Int) := by omega
      obtain ⟨h3, h4⟩ := hf
      go_enter Try.func5, Try.ntmps5
      go_wp2_with fail
      rw [← hW0]
      clear hW0
      refine (awake_any W0).mono ?_
      rintro e w1 ⟨rfl, hb⟩
      have HB1 : Hid (Below w.heap.size w w1) := HB0.out.trans (hb.mono HB0.out.size)
      have HG1 : Hid (w1.heap[w.heap.size]? = some (.cells #[.int .i64 a, .int .i64 b, .int .i64 c, .int .i64 d] 23 (0, 0))) := (hb.block _ (lt_of_block HG0.out)).trans HG0.out
      clear hb
      go_wp2_with fail
      refine (awake_any w1).mono ?_
      rintro e w2 ⟨rfl, hb⟩
      have HB2 : Hid (Below w.heap.size w w2) := HB1.out.trans (hb.mono HB1.out.size)
      have HG2 : Hid (w2.heap[w.heap.size]? = some (.cells #[.int .i64 a, .int .i64 b, .int .i64 c, .int .i64 d] 23 (0, 0))) := (hb.block _ (lt_of_block HG1.out)).trans HG1.out
      clear hb
      go_wp2_with fail
      go_ret
      exact ⟨rfl, HB2.out⟩
set_option maxRecDepth 20000 in
set_option maxHeartbeats 2000000 in
theorem lawNext_core (a b c d day limit : Int) (v er : Int) (A A' : Option Addr) (n n' cp cp' : Nat) (w : World) (hn : n ≤ 12) (hn' : n' ≤ 5) (hl : limit ≤ 40 ∨ 4000 < limit) (h1 : (∀ W, Below w.heap.size w W → Calls Try.prog 18 #[fR a b c d, .slice A n cp, .slice A' n' cp', .int .i64 day, .int .i64 limit] W (Int2 v er W))) (h2 : (∀ W, Below w.heap.size w W → Calls Try.prog 19 #[fR a b c d, .slice A n cp, .slice A' n' cp', .int .i64 day, .int .i64 limit] W (Int2 v er W))) : Calls Try.prog 5 #[fR a b c d, .slice A n cp, .slice A' n' cp', .int .i64 day, .int .i64 limit] w (BoolB true w) := by
  obtain ⟨W0, hW0⟩ : ∃ W0 : World, W0 = w.alloc (.cells #[.int .i64 a, .int .i64 b, .int .i64 c, .int .i64 d] 23) := ⟨_, rfl⟩
  have hb0 : Below w.heap.size w W0 := by rw [hW0]; exact (Below.refl _ _).alloc (Nat.le_refl _) _
  have HB0 := Lib.hid hb0
  have HG0 : Hid (W0.heap[w.heap.size]? = some (.cells #[.int .i64 a, .int .i64 b, .int .i64 c, .int .i64 d] 23 (0, 0))) := by show _ = _; rw [hW0]; exact heap_alloc_new w _
  have k1 : ¬ 12 < (n : Int) := by omega
  have k2 : ¬ 5 < (n' : Int) := by omega
  have k3 : 40 < limit → ¬ limit ≤ 4000 := by omega
  by_cases k4 : 40 < limit
  · have k5 : ¬ limit ≤ 4000 := k3 k4
    clear k3 hl
    have H1 := Lib.hid h1
    have H2 := Lib.hid h2
    clear h1 h2 hb0
    go_enter Try.func5, Try.ntmps5
    go_wp2_with fail
    rw [← hW0]
    clear hW0
    refine (awake_any W0).mono ?_
    rintro e w1 ⟨rfl, hb⟩
    have HB1 : Hid (Below w.heap.size w w1) := HB0.out.trans (hb.mono HB0.out.size)
    have HG1 : Hid (w1.heap[w.heap.size]? = some (.cells #[.int .i64 a, .int .i64 b, .int .i64 c, .int .i64 d] 23 (0, 0))) := (hb.block _ (lt_of_block HG0.out)).trans HG0.out
    clear hb
    have g0 := cell_of_row w1 w.heap.size 0 _ _ _ HG1.out
    have g1 := cell_of_row w1 w.heap.size 1 _ _ _ HG1.out
    have g2 := cell_of_row w1 w.heap.size 2 _ _ _ HG1.out
    have g3 := cell_of_row w1 w.heap.size 3 _ _ _ HG1.out
    simp at g0 g1 g2 g3
    go_wp2_with fail
    refine (H1.out w1 HB1.out).mono ?_
    rintro e w2 ⟨rfl, hb⟩
    have HB2 : Hid (Below w.heap.size w w2) := HB1.out.trans (hb.mono HB1.out.size)
    have HG2 : Hid (w2.heap[w.heap.size]? = some (.cells #[.int .i64 a, .int .i64 b, .int .i64 c, .int .i64 d] 23 (0, 0))) := (hb.block _ (lt_of_block HG1.out)).trans HG1.out
    clear g0 g1 g2 g3
    clear hb
    have g0 := cell_of_row w2 w.heap.size 0 _ _ _ HG2.out
    have g1 := cell_of_row w2 w.heap.size 1 _ _ _ HG2.out
    have g2 := cell_of_row w2 w.heap.size 2 _ _ _ HG2.out
    have g3 := cell_of_row w2 w.heap.size 3 _ _ _ HG2.out
    simp at g0 g1 g2 g3
    go_wp2_with fail
    refine (H2.out w2 HB2.out).mono ?_
    rintro e w3 ⟨rfl, hb⟩
    have HB3 : Hid (Below w.heap.size w w3) := HB2.out.trans (hb.mono HB2.out.size)
    have HG3 : Hid (w3.heap[w.heap.size]? = some (.cells #[.int .i64 a, .int .i64 b, .int .i64 c, .int .i64 d] 23 (0, 0))) := (hb.block _ (lt_of_block HG2.out)).trans HG2.out
    clear g0 g1 g2 g3
    clear hb
    have e1 : (v == v) = true := by simp
    have e2 : (er == er) = true := by simp
    go_wp2_with fail
    go_ret
    exact ⟨rfl, HB3.out⟩
  · clear k3 hl
    have H1 := Lib.hid h1
    have H2 := Lib.hid h2
    clear h1 h2 hb0
    go_enter Try.func5, Try.ntmps5
    go_wp2_with fail
    rw [← hW0]
    clear hW0
    refine (awake_any W0).mono ?_
    rintro e w1 ⟨rfl, hb⟩
    have HB1 : Hid (Below w.heap.size w w1) := HB0.out.trans (hb.mono HB0.out.size)
    have HG1 : Hid (w1.heap[w.heap.size]? = some (.cells #[.int .i64 a, .int .i64 b, .int .i64 c, .int .i64 d] 23 (0, 0))) := (hb.block _ (lt_of_block HG0.out)).trans HG0.out
    clear hb
    have g0 := cell_of_row w1 w.heap.size 0 _ _ _ HG1.out
    have g1 := cell_of_row w1 w.heap.size 1 _ _ _ HG1.out
    have g2 := cell_of_row w1 w.heap.size 2 _ _ _ HG1.out
    have g3 := cell_of_row w1 w.heap.size 3 _ _ _ HG1.out
    simp at g0 g1 g2 g3
    go_wp2_with fail
    refine (H1.out w1 HB1.out).mono ?_
    rintro e w2 ⟨rfl, hb⟩
    have HB2 : Hid (Below w.heap.size w w2) := HB1.out.trans (hb.mono HB1.out.size)
    have HG2 : Hid (w2.heap[w.heap.size]? = some (.cells #[.int .i64 a, .int .i64 b, .int .i64 c, .int .i64 d] 23 (0, 0))) := (hb.block _ (lt_of_block HG1.out)).trans HG1.out
    clear g0 g1 g2 g3
    clear hb
    have g0 := cell_of_row w2 w.heap.size 0 _ _ _ HG2.out
    have g1 := cell_of_row w2 w.heap.size 1 _ _ _ HG2.out
    have g2 := cell_of_row w2 w.heap.size 2 _ _ _ HG2.out
    have g3 := cell_of_row w2 w.heap.size 3 _ _ _ HG2.out
    simp at g0 g1 g2 g3
    go_wp2_with fail
    refine (H2.out w2 HB2.out).mono ?_
    rintro e w3 ⟨rfl, hb⟩
    have HB3 : Hid (Below w.heap.size w w3) := HB2.out.trans (hb.mono HB2.out.size)
    have HG3 : Hid (w3.heap[w.heap.size]? = some (.cells #[.int .i64 a, .int .i64 b, .int .i64 c, .int .i64 d] 23 (0, 0))) := (hb.block _ (lt_of_block HG2.out)).trans HG2.out
    clear g0 g1 g2 g3
    clear hb
    have e1 : (v == v) = true := by simp
    have e2 : (er == er) = true := by simp
    go_wp2_with fail
    go_ret
    exact ⟨rfl, HB3.out⟩
theorem srt_last {xs : List Int} {x : Int} (h : x ∈ xs) : ∃ last, (srt xs)[(srt xs).length - 1]? = some last := by
  have h0 : 0 < (srt xs).length := List.length_pos_of_mem ((srt_mem x xs).2 h)
  exact ⟨_, List.getElem?_eq_getElem (by omega)⟩
theorem lawNext_any (a b c d day limit : Int) (A A' : Option Addr) (n n' cp cp' : Nat) (xs ys : List Int) (w : World) (hx : Sl I w w.heap.size A n xs) (hy : Sl I w w.heap.size A' n' ys) : Calls Try.prog 5 #[fR a b c d, .slice A n cp, .slice A' n' cp', .int .i64 day, .int .i64 limit] w (BoolB true w) := by
  by_cases hf : 12 < n ∨ 5 < n' ∨ (40 < limit ∧ limit ≤ 4000)
  · exact lawNext_many a b c d day limit A A' n n' cp cp' w hf
  · have hn : n ≤ 12 := by omega
    have hn' : n' ≤ 5 := by omega
    have hl : limit ≤ 40 ∨ 4000 < limit := by omega
    cases hb : argB a b c d xs ys
    · refine lawNext_core a b c d day limit 0 1 A A' n n' cp cp' w hn hn' hl (fun W hW => ?_) (fun W hW => ?_)
      · exact nextF_err a b c d day limit 0 1 A A' n n' cp cp' W (by decide) fun V hV => reasonsF_no a b c d day A A' n n' cp cp' xs ys V (((hx.up hW (Nat.le_refl _)).more' hW.size).up hV (Nat.le_refl _) |>.more' hV.size) (((hy.up hW (Nat.le_refl _)).more' hW.size).up hV (Nat.le_refl _) |>.more' hV.size) (by omega) (by omega) hb
      · exact rnextF_err a b c d day limit A A' n n' cp cp' W 0 1 (by decide) fun V hV => rreasonsF_no a b c d day A A' n n' cp cp' xs ys V (((hx.up hW (Nat.le_refl _)).more' hW.size).up hV (Nat.le_refl _) |>.more' hV.size) (((hy.up hW (Nat.le_refl _)).more' hW.size).up hV (Nat.le_refl _) |>.more' hV.size) (by omega) (by omega) hb
    · obtain ⟨nm, rfl, rfl, rfl, rfl, h1, h2, h3, h4⟩ := argB_nums hb
      have HP : ∀ W, Below w.heap.size w W → ∀ V, Below W.heap.size W V → Calls Try.prog 16 #[fR nm.a nm.b nm.c nm.d, .slice A n cp, .slice A' n' cp', .int .i64 day] V (Int2 (if day ∈ xs then rsn nm xs ys day else 0) (if day ∈ xs then 0 else 4) V) := fun W hW V hV => reasonsF_yes nm h1 h2 h3 h4 day A A' n n' cp cp' xs ys V (((hx.up hW (Nat.le_refl _)).more' hW.size).up hV (Nat.le_refl _) |>.more' hV.size) (((hy.up hW (Nat.le_refl _)).more' hW.size).up hV (Nat.le_refl _) |>.more' hV.size) (by omega) (by omega) hb
      have HQ : ∀ W, Below w.heap.size w W → ∀ V, Below W.heap.size W V → Calls Try.prog 17 #[fR nm.a nm.b nm.c nm.d, .slice A n cp, .slice A' n' cp', .int .i64 day] V (Int2 (if day ∈ xs then rsn nm xs ys day else 0) (if day ∈ xs then 0 else 4) V) := fun W hW V hV => rreasonsF_yes nm h1 h2 h3 h4 day A A' n n' cp cp' xs ys V (((hx.up hW (Nat.le_refl _)).more' hW.size).up hV (Nat.le_refl _) |>.more' hV.size) (((hy.up hW (Nat.le_refl _)).more' hW.size).up hV (Nat.le_refl _) |>.more' hV.size) (by omega) (by omega) hb
      by_cases hin : day ∈ xs
      · rw [if_pos hin, if_pos hin] at HP HQ
        by_cases hneg : limit < 0
        · exact lawNext_core nm.a nm.b nm.c nm.d day limit 0 1 A A' n n' cp cp' w hn hn' hl (fun W hW => nextF_lim nm.a nm.b nm.c nm.d day limit _ A A' n n' cp cp' W (by omega) (HP W hW)) (fun W hW => rnextF_neg nm.a nm.b nm.c nm.d day limit A A' n n' cp cp' W _ hneg (HQ W hW))
        · by_cases hbig : 4000 < limit
          · exact lawNext_core nm.a nm.b nm.c nm.d day limit 0 1 A A' n n' cp cp' w hn hn' hl (fun W hW => nextF_lim nm.a nm.b nm.c nm.d day limit _ A A' n n' cp cp' W (by omega) (HP W hW)) (fun W hW => rnextF_big nm.a nm.b nm.c nm.d day limit A A' n n' cp cp' W _ hbig (HQ W hW))
          · have hbd := rsn_nonneg nm xs ys day
            obtain ⟨v, hv⟩ : ∃ v : Nat, rsn nm xs ys day = v := ⟨(rsn nm xs ys day).toNat, by omega⟩
            obtain ⟨lim, rfl⟩ : ∃ l : Nat, limit = l := ⟨limit.toNat, by omega⟩
            rw [hv] at HP HQ hbd
            rcases Nat.eq_zero_or_pos v with h0 | h0
            · subst h0
              exact lawNext_core nm.a nm.b nm.c nm.d day lim 0 6 A A' n n' cp cp' w hn hn' hl (fun W hW => nextF_none nm.a nm.b nm.c nm.d day lim A A' n n' cp cp' W (by omega) (by omega) (HP W hW)) (fun W hW => rnextF_none nm.a nm.b nm.c nm.d day lim A A' n n' cp cp' W (by omega) (by omega) (HQ W hW))
            · obtain ⟨last, hlast⟩ := srt_last hin
              have hdays := argB_days hb
              have hday : okD day := hdays day hin
              have hR : ∀ W, Below w.heap.size w W → Calls Try.prog 19 #[fR nm.a nm.b nm.c nm.d, .slice A n cp, .slice A' n' cp', .int .i64 day, .int .i64 (lim : Int)] W (Int2 (nextR nm (srt xs) ys last day lim) 0 W) := fun W hW => rnextF_go nm h1 h2 h3 h4 day lim (by omega) v (by simp; omega) A A' n n' cp cp' xs ys last W ((hx.up hW (Nat.le_refl _)).more' hW.size) ((hy.up hW (Nat.le_refl _)).more' hW.size) (by omega) (by omega) hdays hday hlast (HQ W hW)
              have hlm : last ∈ srt xs := List.mem_of_getElem? hlast
              have hlo : okD last := hdays last ((srt_mem last xs).1 hlm)
              by_cases hh : day ∈ ys
              · have h16 : 16 ≤ v := by
                  have h5 := hv
                  unfold rsn at h5
                  rw [if_pos hh] at h5
                  have : (0 : Int) ≤ (if By 0 nm.a xs day then 1 else 0) ∧ (0 : Int) ≤ (if By 1 nm.b xs day then 2 else 0) ∧ (0 : Int) ≤ (if By 2 nm.c xs day then 4 else 0) ∧ (0 : Int) ≤ (if By 3 nm.d xs day then 8 else 0) := by
                    refine ⟨?_, ?_, ?_, ?_⟩ <;> split <;> omega
                  omega
                rw [next_held nm (srt xs) ys last day lim hh] at hR
                exact lawNext_core nm.a nm.b nm.c nm.d day lim 0 0 A A' n n' cp cp' w hn hn' hl (fun W hW => nextF_held nm.a nm.b nm.c nm.d day lim v A A' n n' cp cp' W (by omega) (by omega) h16 (by omega) (HP W hW)) hR
              · have h16 : v < 16 := by
                  have h5 := hv
                  unfold rsn at h5
                  rw [if_neg hh] at h5
                  have : (if By 0 nm.a xs day then (1 : Int) else 0) ≤ 1 ∧ (if By 1 nm.b xs day then (2 : Int) else 0) ≤ 2 ∧ (if By 2 nm.c xs day then (4 : Int) else 0) ≤ 4 ∧ (if By 3 nm.d xs day then (8 : Int) else 0) ≤ 8 := by
                    refine ⟨?_, ?_, ?_, ?_⟩ <;> split <;> omega
                  omega
                have hne : rsn nm (srt xs) ys day ≠ 0 := by
                  rw [rsn_congr (fun x => srt_mem x xs) day, hv]
                  omega
                rw [← next_eq nm (srt xs) ys last day lim hh hne hlo.2] at hR
                exact lawNext_core nm.a nm.b nm.c nm.d day lim _ 0 A A' n n' cp cp' w hn hn' hl (fun W hW => nextF_go nm h1 h2 h3 h4 day lim (by omega) v h0 h16 A A' n n' cp cp' xs last W ((hx.up hW (Nat.le_refl _)).more' hW.size) (by omega) hdays hday hlast (HP W hW)) hR
      · rw [if_neg hin, if_neg hin] at HP HQ
        exact lawNext_core nm.a nm.b nm.c nm.d day limit 0 4 A A' n n' cp cp' w hn hn' hl (fun W hW => nextF_err nm.a nm.b nm.c nm.d day limit 0 4 A A' n n' cp cp' W (by decide) (HP W hW)) (fun W hW => rnextF_err nm.a nm.b nm.c nm.d day limit A A' n n' cp cp' W 0 4 (by decide) (HQ W hW))
end Go.Proofs.Ytfffhdclbdmfnaa
