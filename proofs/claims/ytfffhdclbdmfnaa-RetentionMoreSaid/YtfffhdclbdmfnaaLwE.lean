/- The law More. -/
import Derived.Test.YtfffhdclbdmfnaaLwC
namespace Go.Proofs.Ytfffhdclbdmfnaa
open Go.RowKit Ret
set_option linter.unusedVariables false
set_option linter.unusedSimpArgs false

set_option maxRecDepth 20000 in
set_option maxHeartbeats 1000000 in
theorem lawMore_many (a b c d a' b' c' d' : Int) (A A' A'' : Option Addr) (n n' n'' cp cp' cp'' : Nat) (w : World) (hf : ¬ (n ≤ 40 ∧ n' ≤ 10 ∧ n'' ≤ 5 ∧ a ≤ a' ∧ b ≤ b' ∧ c ≤ c' ∧ d ≤ d')) : Calls Try.prog 7 #[fR a b c d, fR a' b' c' d', .slice A n cp, .slice A' n' cp', .slice A'' n'' cp''] w (BoolB true w) := by
  obtain ⟨W0, hW0⟩ : ∃ W0 : World, W0 = (w.alloc (.cells #[.int .i64 a, .int .i64 b, .int .i64 c, .int .i64 d] 23)).alloc (.cells #[.int .i64 a', .int .i64 b', .int .i64 c', .int .i64 d'] 23) := ⟨_, rfl⟩
  have hb0 : Below w.heap.size w W0 := by rw [hW0]; exact ((Below.refl _ _).alloc (Nat.le_refl _) _).alloc (by simp) _
  have HB0 := Lib.hid hb0
  have HG0 : Hid (W0.heap[w.heap.size]? = some (.cells #[.int .i64 a, .int .i64 b, .int .i64 c, .int .i64 d] 23 (0, 0))) := by show _ = _; rw [hW0]; exact (Below.heap_alloc _ _ _ (by simp)).trans (heap_alloc_new w _)
  have HS0 : Hid (W0.heap[w.heap.size + 1]? = some (.cells #[.int .i64 a', .int .i64 b', .int .i64 c', .int .i64 d'] 23 (0, 0))) := by show _ = _; rw [hW0]; exact heap_new_at (by simp)
  clear hb0
  cases hq : (decide (n ≤ 40) && decide (n' ≤ 10))
  · have HF := Lib.hid hq
    clear hq
    clear hf
    go_enter Try.func7, Try.ntmps7
    go_wp2_with fail
    rw [← hW0]
    clear hW0
    refine (awake_any W0).mono ?_
    rintro e w1 ⟨rfl, hb⟩
    have HB1 : Hid (Below w.heap.size w w1) := HB0.out.trans (hb.mono HB0.out.size)
    have HG1 : Hid (w1.heap[w.heap.size]? = some (.cells #[.int .i64 a, .int .i64 b, .int .i64 c, .int .i64 d] 23 (0, 0))) := (hb.block _ (lt_of_block HG0.out)).trans HG0.out
    have HS1 : Hid (w1.heap[w.heap.size + 1]? = some (.cells #[.int .i64 a', .int .i64 b', .int .i64 c', .int .i64 d'] 23 (0, 0))) := (hb.block _ (lt_of_block HS0.out)).trans HS0.out
    clear hb
    go_wp2_with fail
    refine (few_no HF.out A A' cp cp' _).mono ?_
    rintro e w' ⟨rfl, rfl⟩
    go_wp2_with fail
    refine (awake_any w1).mono ?_
    rintro e w2 ⟨rfl, hb⟩
    have HB2 : Hid (Below w.heap.size w w2) := HB1.out.trans (hb.mono HB1.out.size)
    have HG2 : Hid (w2.heap[w.heap.size]? = some (.cells #[.int .i64 a, .int .i64 b, .int .i64 c, .int .i64 d] 23 (0, 0))) := (hb.block _ (lt_of_block HG1.out)).trans HG1.out
    have HS2 : Hid (w2.heap[w.heap.size + 1]? = some (.cells #[.int .i64 a', .int .i64 b', .int .i64 c', .int .i64 d'] 23 (0, 0))) := (hb.block _ (lt_of_block HS1.out)).trans HS1.out
    clear hb
    go_wp2_with fail
    go_ret
    exact ⟨rfl, HB2.out⟩
  · have HF := Lib.hid hq
    have hn : n ≤ 40 ∧ n' ≤ 10 := by simpa using hq
    obtain ⟨hn1, hn2⟩ := hn
    clear hq
    have HH := Lib.hid hf
    clear hf
    go_enter Try.func7, Try.ntmps7
    go_wp2_with fail
    rw [← hW0]
    clear hW0
    refine (awake_any W0).mono ?_
    rintro e w1 ⟨rfl, hb⟩
    have HB1 : Hid (Below w.heap.size w w1) := HB0.out.trans (hb.mono HB0.out.size)
    have HG1 : Hid (w1.heap[w.heap.size]? = some (.cells #[.int .i64 a, .int .i64 b, .int .i64 c, .int .i64 d] 23 (0, 0))) := (hb.block _ (lt_of_block HG0.out)).trans HG0.out
    have HS1 : Hid (w1.heap[w.heap.size + 1]? = some (.cells #[.int .i64 a', .int .i64 b', .int .i64 c', .int .i64 d'] 23 (0, 0))) := (hb.block _ (lt_of_block HS0.out)).trans HS0.out
    clear hb
    go_wp2_with fail
    refine (few_yes HF.out A A' cp cp' _).mono ?_
    rintro e w' ⟨rfl, rfl⟩
    have g0 := cell_of_row w1 w.heap.size 0 _ _ _ HG1.out
    have g1 := cell_of_row w1 w.heap.size 1 _ _ _ HG1.out
    have g2 := cell_of_row w1 w.heap.size 2 _ _ _ HG1.out
    have g3 := cell_of_row w1 w.heap.size 3 _ _ _ HG1.out
    simp at g0 g1 g2 g3
    have k0 := cell_of_row w1 (w.heap.size + 1) 0 _ _ _ HS1.out
    have k1 := cell_of_row w1 (w.heap.size + 1) 1 _ _ _ HS1.out
    have k2 := cell_of_row w1 (w.heap.size + 1) 2 _ _ _ HS1.out
    have k3 := cell_of_row w1 (w.heap.size + 1) 3 _ _ _ HS1.out
    simp at k0 k1 k2 k3
    go_wp2_with fail
    all_goals first
      | (exfalso; have h9 := HH.out; omega)
      | (refine (awake_any w1).mono ?_
         rintro e w2 ⟨rfl, hb⟩
         have HB2 : Hid (Below w.heap.size w w2) := HB1.out.trans (hb.mono HB1.out.size)
         clear hb
         go_wp2_with fail
         go_ret
         exact ⟨rfl, HB2.out⟩)
set_option maxRecDepth 20000 in
set_option maxHeartbeats 1000000 in
theorem lawMore_err (a b c d a' b' c' d' : Int) (er es : Int) (K L xs ys ms : List Int) (A A' A'' : Option Addr) (n n' n'' cp cp' cp'' : Nat) (w : World) (hy : Sl I w w.heap.size A' n' ys) (hm : Sl I w w.heap.size A'' n'' ms) (hn1 : n ≤ 40) (hn2 : n' ≤ 10) (hn3 : n'' ≤ 5) (g1 : a ≤ a') (g2 : b ≤ b') (g3 : c ≤ c') (g4 : d ≤ d') (hee : (er != 0) = true ∨ (er != 0) = false ∧ (es != 0) = true)
    (hk : ∀ W, Below w.heap.size w W → Calls Try.prog 22 #[fR a b c d, .slice A n cp, .slice A' n' cp'] W (Slc2 I K er W))
    (hl : ∀ W A0 n0 c0, Below w.heap.size w W → Sl I W W.heap.size A0 n0 (ys ++ ms) → Calls Try.prog 22 #[fR a' b' c' d', .slice A n cp, .slice A0 n0 c0] W (Slc2 I L es W)) :
    Calls Try.prog 7 #[fR a b c d, fR a' b' c' d', .slice A n cp, .slice A' n' cp', .slice A'' n'' cp''] w (BoolB true w) := by
  obtain ⟨W0, hW0⟩ : ∃ W0 : World, W0 = (w.alloc (.cells #[.int .i64 a, .int .i64 b, .int .i64 c, .int .i64 d] 23)).alloc (.cells #[.int .i64 a', .int .i64 b', .int .i64 c', .int .i64 d'] 23) := ⟨_, rfl⟩
  have hb0 : Below w.heap.size w W0 := by rw [hW0]; exact ((Below.refl _ _).alloc (Nat.le_refl _) _).alloc (by simp) _
  have HB0 := Lib.hid hb0
  have HG0 : Hid (W0.heap[w.heap.size]? = some (.cells #[.int .i64 a, .int .i64 b, .int .i64 c, .int .i64 d] 23 (0, 0))) := by show _ = _; rw [hW0]; exact (Below.heap_alloc _ _ _ (by simp)).trans (heap_alloc_new w _)
  have HS0 : Hid (W0.heap[w.heap.size + 1]? = some (.cells #[.int .i64 a', .int .i64 b', .int .i64 c', .int .i64 d'] 23 (0, 0))) := by show _ = _; rw [hW0]; exact heap_new_at (by simp)
  have HY0 : Hid (Sl I W0 W0.heap.size A' n' ys) := (hy.up hb0 (Nat.le_refl _)).more' hb0.size
  have HM0 : Hid (Sl I W0 W0.heap.size A'' n'' ms) := (hm.up hb0 (Nat.le_refl _)).more' hb0.size
  have h1 : ¬ 5 < (n'' : Int) := by omega
  have h2 : ¬ a' < a := by omega
  have h3 : ¬ b' < b := by omega
  have h4 : ¬ c' < c := by omega
  have h5 : ¬ d' < d := by omega
  have HF : Hid ((decide (n ≤ 40) && decide (n' ≤ 10)) = true) := by show _ = _; simp; omega
  have HKW := Lib.hid hk
  have HLW := Lib.hid hl
  have HYL : Hid (ys.length = n') := hy.1
  have HML : Hid (ms.length = n'') := hm.1
  obtain ⟨i0, hi, hz0, hz1, hz2⟩ := info_parts Try.infoInt
  have HI := Lib.hid hi
  have HZ0 := Lib.hid hz0
  have HZ1 := Lib.hid hz1
  have HZ2 := Lib.hid hz2
  have HEE := Lib.hid hee
  clear hee
  clear hk hl hy hm hb0 g1 g2 g3 g4 hi hz0 hz1 hz2
  go_enter Try.func7, Try.ntmps7
  go_wp2_with fail
  rw [← hW0]
  clear hW0
  refine (awake_any W0).mono ?_
  rintro e w1 ⟨rfl, hb⟩
  have HB1 : Hid (Below w.heap.size w w1) := HB0.out.trans (hb.mono HB0.out.size)
  have HG1 : Hid (w1.heap[w.heap.size]? = some (.cells #[.int .i64 a, .int .i64 b, .int .i64 c, .int .i64 d] 23 (0, 0))) := (hb.block _ (lt_of_block HG0.out)).trans HG0.out
  have HS1 : Hid (w1.heap[w.heap.size + 1]? = some (.cells #[.int .i64 a', .int .i64 b', .int .i64 c', .int .i64 d'] 23 (0, 0))) := (hb.block _ (lt_of_block HS0.out)).trans HS0.out
  have HY1 : Hid (Sl I w1 w1.heap.size A' n' ys) := (HY0.out.up hb (Nat.le_refl _)).more' hb.size
  have HM1 : Hid (Sl I w1 w1.heap.size A'' n'' ms) := (HM0.out.up hb (Nat.le_refl _)).more' hb.size
  clear hb
  go_wp2_with fail
  refine (few_yes HF.out A A' cp cp' _).mono ?_
  rintro e w' ⟨rfl, rfl⟩
  have g0 := cell_of_row w1 w.heap.size 0 _ _ _ HG1.out
  have g1 := cell_of_row w1 w.heap.size 1 _ _ _ HG1.out
  have g2 := cell_of_row w1 w.heap.size 2 _ _ _ HG1.out
  have g3 := cell_of_row w1 w.heap.size 3 _ _ _ HG1.out
  simp at g0 g1 g2 g3
  have k0 := cell_of_row w1 (w.heap.size + 1) 0 _ _ _ HS1.out
  have k1 := cell_of_row w1 (w.heap.size + 1) 1 _ _ _ HS1.out
  have k2 := cell_of_row w1 (w.heap.size + 1) 2 _ _ _ HS1.out
  have k3 := cell_of_row w1 (w.heap.size + 1) 3 _ _ _ HS1.out
  simp at k0 k1 k2 k3
  go_wp2_with fail
  refine (HKW.out w1 HB1.out).mono ?_
  rintro e w2 ⟨A1, n1, c1, rfl, hc1, hk1, hb⟩
  have HB2 : Hid (Below w.heap.size w w2) := HB1.out.trans (hb.mono HB1.out.size)
  have HG2 : Hid (w2.heap[w.heap.size]? = some (.cells #[.int .i64 a, .int .i64 b, .int .i64 c, .int .i64 d] 23 (0, 0))) := (hb.block _ (lt_of_block HG1.out)).trans HG1.out
  have HS2 : Hid (w2.heap[w.heap.size + 1]? = some (.cells #[.int .i64 a', .int .i64 b', .int .i64 c', .int .i64 d'] 23 (0, 0))) := (hb.block _ (lt_of_block HS1.out)).trans HS1.out
  have HY2 : Hid (Sl I w2 w2.heap.size A' n' ys) := (HY1.out.up hb (Nat.le_refl _)).more' hb.size
  have HM2 : Hid (Sl I w2 w2.heap.size A'' n'' ms) := (HM1.out.up hb (Nat.le_refl _)).more' hb.size
  have HK2 := Lib.hid hk1
  clear hk1 hc1 g0 g1 g2 g3 k0 k1 k2 k3
  clear hb
  have HE : Hid (∀ (V : World) (q : Nat), V.heap.size = q → w2.heap.size ≤ q → Own I 3 (V.alloc (.cells #[] 3)) w2.heap.size (.slice (some ⟨q, 0, none⟩) 0 0) []) := fun V q e h => by subst e; exact World.ownsRow_lit V #[] 0 h (by unfold maxLen; omega) rfl
  have HQ1 : Hid ((([] : List Int).length + ys.length) * 8 ≤ 140737488355328) := by show _ ≤ _; simp; have := HYL.out; omega
  have HQ2 : Hid (([] : List Int).length + ys.length ≤ maxLen) := by show _ ≤ _; simp [maxLen]; have := HYL.out; omega
  have HQ3 : Hid ((([] ++ ys).length + ms.length) * 8 ≤ 140737488355328) := by show _ ≤ _; simp; have := HYL.out; have := HML.out; omega
  have HQ4 : Hid (([] ++ ys).length + ms.length ≤ maxLen) := by show _ ≤ _; simp [maxLen]; have := HYL.out; have := HML.out; omega
  have HYW : Hid (∀ V, Below w2.heap.size w2 V → Sl I V w2.heap.size A' n' ys) := fun V h => HY2.out.up h (Nat.le_refl _)
  have HMW : Hid (∀ V, Below w2.heap.size w2 V → Sl I V w2.heap.size A'' n'' ms) := fun V h => HM2.out.up h (Nat.le_refl _)
  have k0 := cell_of_row w2 (w.heap.size + 1) 0 _ _ _ HS2.out
  have k1 := cell_of_row w2 (w.heap.size + 1) 1 _ _ _ HS2.out
  have k2 := cell_of_row w2 (w.heap.size + 1) 2 _ _ _ HS2.out
  have k3 := cell_of_row w2 (w.heap.size + 1) 3 _ _ _ HS2.out
  simp at k0 k1 k2 k3
  go_wp2
  go_region_held3 (fun w' => w'.cell? ⟨w.heap.size + 1, 0, none⟩ = some (.int .i64 a') ∧ w'.cell? ⟨w.heap.size + 1, 1, none⟩ = some (.int .i64 b') ∧ w'.cell? ⟨w.heap.size + 1, 2, none⟩ = some (.int .i64 c') ∧ w'.cell? ⟨w.heap.size + 1, 3, none⟩ = some (.int .i64 d')) ((first | go_keep | exact ⟨(HBc.out.cell (p := ⟨w.heap.size + 1, 0, none⟩) (lt_of_block HS2.out)).trans k0, (HBc.out.cell (p := ⟨w.heap.size + 1, 1, none⟩) (lt_of_block HS2.out)).trans k1, (HBc.out.cell (p := ⟨w.heap.size + 1, 2, none⟩) (lt_of_block HS2.out)).trans k2, (HBc.out.cell (p := ⟨w.heap.size + 1, 3, none⟩) (lt_of_block HS2.out)).trans k3⟩ | exact ⟨(HBb.out.cell (p := ⟨w.heap.size + 1, 0, none⟩) (lt_of_block HS2.out)).trans k0, (HBb.out.cell (p := ⟨w.heap.size + 1, 1, none⟩) (lt_of_block HS2.out)).trans k1, (HBb.out.cell (p := ⟨w.heap.size + 1, 2, none⟩) (lt_of_block HS2.out)).trans k2, (HBb.out.cell (p := ⟨w.heap.size + 1, 3, none⟩) (lt_of_block HS2.out)).trans k3⟩ | exact ⟨(HBa.out.cell (p := ⟨w.heap.size + 1, 0, none⟩) (lt_of_block HS2.out)).trans k0, (HBa.out.cell (p := ⟨w.heap.size + 1, 1, none⟩) (lt_of_block HS2.out)).trans k1, (HBa.out.cell (p := ⟨w.heap.size + 1, 2, none⟩) (lt_of_block HS2.out)).trans k2, (HBa.out.cell (p := ⟨w.heap.size + 1, 3, none⟩) (lt_of_block HS2.out)).trans k3⟩)) (first | (refine step_app (.tmp 68) (.tmp 69) 26 rfl rfl 3 i0 (.int .i64 0) 8 Try.underlying26 HI.out HZ0.out HZ1.out HZ2.out rfl [] w2.heap.size ?_ ys ?_ I1 HQ1.out HQ2.out ?_ ?_; (exact HE.out _ _ (by simp) (by omega)); (refine ⟨w2.heap.size, A', n', cp', rfl, HYW.out _ ?_⟩; (repeat (first | exact Below.refl _ _ | exact HBa.out | refine Below.alloc ?_ (by simp) _ | refine Below.alloc ?_ HBa.out.size _ | refine Below.drew ?_ | refine below_dN ?_ _))); (simp <;> omega); (intro v5 w5 HO5 HG5 HV5 HL5; (have HBa : Hid (Below w2.heap.size w2 w5) := HL5.out _ _ (by (repeat (first | exact Below.refl _ _ | exact HBa.out | refine Below.alloc ?_ (by simp) _ | refine Below.alloc ?_ HBa.out.size _ | refine Below.drew ?_ | refine below_dN ?_ _))) (Nat.le_refl _)))) | (refine step_app (.tmp 70) (.tmp 71) 26 rfl rfl 3 i0 (.int .i64 0) 8 Try.underlying26 HI.out HZ0.out HZ1.out HZ2.out rfl ([] ++ ys) w2.heap.size HO5.out ms ?_ I1 HQ3.out HQ4.out ?_ ?_; (exact ⟨w2.heap.size, A'', n'', cp'', rfl, HMW.out _ HBa.out⟩); (exact HBa.out.size); (intro v6 w6 HO6 HG6 HV6 HL6; (have HBb : Hid (Below w2.heap.size w2 w6) := HL6.out _ _ HBa.out (Nat.le_refl _)); (obtain ⟨A6, c6, hv6, _, hs6, _⟩ := HO6.out.shape); (obtain ⟨q6, hq6⟩ : ∃ q, ([] ++ ys ++ ms).length = q := ⟨_, rfl⟩); (rw [hq6] at hv6); (subst hv6); (have HS6 : Hid (Sl I w6 w6.heap.size A6 q6 (ys ++ ms)) := ⟨by rw [← hq6]; simp, hs6⟩); (clear hs6 hq6))) | (go_at_call 22; (refine (HLW.out _ _ _ _ (HB2.out.trans (HBb.out.mono HB2.out.size)) HS6.out).mono ?_); rintro e w7 ⟨A7, n7, c7, rfl, hc7, hk7, hb⟩; (have HB7 : Hid (Below w.heap.size w w7) := (HB2.out.trans (HBb.out.mono HB2.out.size)).trans (hb.mono (HB2.out.trans (HBb.out.mono HB2.out.size)).size)); (have HK7 : Hid (Sl I w7 w7.heap.size A1 n1 K) := (((HK2.out).up HBb.out (Nat.le_refl _)).more' HBb.out.size |>.up hb (Nat.le_refl _)).more' hb.size); (have HL7 := Lib.hid hk7); (have HBc : Hid (Below w2.heap.size w2 w7) := HBb.out.trans (hb.mono HBb.out.size)); clear hk7 hc7 hb) | fail)
  clear k0 k1 k2 k3
  rcases HEE.out with h9 | ⟨h8, h9⟩
  · go_wp2_with fail
    go_ret
    exact ⟨rfl, HB7.out⟩
  · go_wp2_with fail
    go_ret
    exact ⟨rfl, HB7.out⟩
set_option maxRecDepth 20000 in
set_option maxHeartbeats 1000000 in
theorem lawMore_good (a b c d a' b' c' d' : Int) (er es : Int) (K L xs ys ms : List Int) (A A' A'' : Option Addr) (n n' n'' cp cp' cp'' : Nat) (w : World) (hy : Sl I w w.heap.size A' n' ys) (hm : Sl I w w.heap.size A'' n'' ms) (hn1 : n ≤ 40) (hn2 : n' ≤ 10) (hn3 : n'' ≤ 5) (g1 : a ≤ a') (g2 : b ≤ b') (g3 : c ≤ c') (g4 : d ≤ d') (hKL : ∀ x ∈ K, x ∈ L) (hKn : K.length ≤ 40) (hLn : L.length ≤ 40) (her : er = 0) (hes : es = 0)
    (hk : ∀ W, Below w.heap.size w W → Calls Try.prog 22 #[fR a b c d, .slice A n cp, .slice A' n' cp'] W (Slc2 I K er W))
    (hl : ∀ W A0 n0 c0, Below w.heap.size w W → Sl I W W.heap.size A0 n0 (ys ++ ms) → Calls Try.prog 22 #[fR a' b' c' d', .slice A n cp, .slice A0 n0 c0] W (Slc2 I L es W)) :
    Calls Try.prog 7 #[fR a b c d, fR a' b' c' d', .slice A n cp, .slice A' n' cp', .slice A'' n'' cp''] w (BoolB true w) := by
  obtain ⟨W0, hW0⟩ : ∃ W0 : World, W0 = (w.alloc (.cells #[.int .i64 a, .int .i64 b, .int .i64 c, .int .i64 d] 23)).alloc (.cells #[.int .i64 a', .int .i64 b', .int .i64 c', .int .i64 d'] 23) := ⟨_, rfl⟩
  have hb0 : Below w.heap.size w W0 := by rw [hW0]; exact ((Below.refl _ _).alloc (Nat.le_refl _) _).alloc (by simp) _
  have HB0 := Lib.hid hb0
  have HG0 : Hid (W0.heap[w.heap.size]? = some (.cells #[.int .i64 a, .int .i64 b, .int .i64 c, .int .i64 d] 23 (0, 0))) := by show _ = _; rw [hW0]; exact (Below.heap_alloc _ _ _ (by simp)).trans (heap_alloc_new w _)
  have HS0 : Hid (W0.heap[w.heap.size + 1]? = some (.cells #[.int .i64 a', .int .i64 b', .int .i64 c', .int .i64 d'] 23 (0, 0))) := by show _ = _; rw [hW0]; exact heap_new_at (by simp)
  have HY0 : Hid (Sl I W0 W0.heap.size A' n' ys) := (hy.up hb0 (Nat.le_refl _)).more' hb0.size
  have HM0 : Hid (Sl I W0 W0.heap.size A'' n'' ms) := (hm.up hb0 (Nat.le_refl _)).more' hb0.size
  have h1 : ¬ 5 < (n'' : Int) := by omega
  have h2 : ¬ a' < a := by omega
  have h3 : ¬ b' < b := by omega
  have h4 : ¬ c' < c := by omega
  have h5 : ¬ d' < d := by omega
  have HF : Hid ((decide (n ≤ 40) && decide (n' ≤ 10)) = true) := by show _ = _; simp; omega
  have HKW := Lib.hid hk
  have HLW := Lib.hid hl
  have HYL : Hid (ys.length = n') := hy.1
  have HML : Hid (ms.length = n'') := hm.1
  obtain ⟨i0, hi, hz0, hz1, hz2⟩ := info_parts Try.infoInt
  have HI := Lib.hid hi
  have HZ0 := Lib.hid hz0
  have HZ1 := Lib.hid hz1
  have HZ2 := Lib.hid hz2
  have HKL := Lib.hid hKL
  subst her
  subst hes
  clear hKL
  clear hk hl hy hm hb0 g1 g2 g3 g4 hi hz0 hz1 hz2
  go_enter Try.func7, Try.ntmps7
  go_wp2_with fail
  rw [← hW0]
  clear hW0
  refine (awake_any W0).mono ?_
  rintro e w1 ⟨rfl, hb⟩
  have HB1 : Hid (Below w.heap.size w w1) := HB0.out.trans (hb.mono HB0.out.size)
  have HG1 : Hid (w1.heap[w.heap.size]? = some (.cells #[.int .i64 a, .int .i64 b, .int .i64 c, .int .i64 d] 23 (0, 0))) := (hb.block _ (lt_of_block HG0.out)).trans HG0.out
  have HS1 : Hid (w1.heap[w.heap.size + 1]? = some (.cells #[.int .i64 a', .int .i64 b', .int .i64 c', .int .i64 d'] 23 (0, 0))) := (hb.block _ (lt_of_block HS0.out)).trans HS0.out
  have HY1 : Hid (Sl I w1 w1.heap.size A' n' ys) := (HY0.out.up hb (Nat.le_refl _)).more' hb.size
  have HM1 : Hid (Sl I w1 w1.heap.size A'' n'' ms) := (HM0.out.up hb (Nat.le_refl _)).more' hb.size
  clear hb
  go_wp2_with fail
  refine (few_yes HF.out A A' cp cp' _).mono ?_
  rintro e w' ⟨rfl, rfl⟩
  have g0 := cell_of_row w1 w.heap.size 0 _ _ _ HG1.out
  have g1 := cell_of_row w1 w.heap.size 1 _ _ _ HG1.out
  have g2 := cell_of_row w1 w.heap.size 2 _ _ _ HG1.out
  have g3 := cell_of_row w1 w.heap.size 3 _ _ _ HG1.out
  simp at g0 g1 g2 g3
  have k0 := cell_of_row w1 (w.heap.size + 1) 0 _ _ _ HS1.out
  have k1 := cell_of_row w1 (w.heap.size + 1) 1 _ _ _ HS1.out
  have k2 := cell_of_row w1 (w.heap.size + 1) 2 _ _ _ HS1.out
  have k3 := cell_of_row w1 (w.heap.size + 1) 3 _ _ _ HS1.out
  simp at k0 k1 k2 k3
  go_wp2_with fail
  refine (HKW.out w1 HB1.out).mono ?_
  rintro e w2 ⟨A1, n1, c1, rfl, hc1, hk1, hb⟩
  have HB2 : Hid (Below w.heap.size w w2) := HB1.out.trans (hb.mono HB1.out.size)
  have HG2 : Hid (w2.heap[w.heap.size]? = some (.cells #[.int .i64 a, .int .i64 b, .int .i64 c, .int .i64 d] 23 (0, 0))) := (hb.block _ (lt_of_block HG1.out)).trans HG1.out
  have HS2 : Hid (w2.heap[w.heap.size + 1]? = some (.cells #[.int .i64 a', .int .i64 b', .int .i64 c', .int .i64 d'] 23 (0, 0))) := (hb.block _ (lt_of_block HS1.out)).trans HS1.out
  have HY2 : Hid (Sl I w2 w2.heap.size A' n' ys) := (HY1.out.up hb (Nat.le_refl _)).more' hb.size
  have HM2 : Hid (Sl I w2 w2.heap.size A'' n'' ms) := (HM1.out.up hb (Nat.le_refl _)).more' hb.size
  have HK2 := Lib.hid hk1
  clear hk1 hc1 g0 g1 g2 g3 k0 k1 k2 k3
  clear hb
  have HE : Hid (∀ (V : World) (q : Nat), V.heap.size = q → w2.heap.size ≤ q → Own I 3 (V.alloc (.cells #[] 3)) w2.heap.size (.slice (some ⟨q, 0, none⟩) 0 0) []) := fun V q e h => by subst e; exact World.ownsRow_lit V #[] 0 h (by unfold maxLen; omega) rfl
  have HQ1 : Hid ((([] : List Int).length + ys.length) * 8 ≤ 140737488355328) := by show _ ≤ _; simp; have := HYL.out; omega
  have HQ2 : Hid (([] : List Int).length + ys.length ≤ maxLen) := by show _ ≤ _; simp [maxLen]; have := HYL.out; omega
  have HQ3 : Hid ((([] ++ ys).length + ms.length) * 8 ≤ 140737488355328) := by show _ ≤ _; simp; have := HYL.out; have := HML.out; omega
  have HQ4 : Hid (([] ++ ys).length + ms.length ≤ maxLen) := by show _ ≤ _; simp [maxLen]; have := HYL.out; have := HML.out; omega
  have HYW : Hid (∀ V, Below w2.heap.size w2 V → Sl I V w2.heap.size A' n' ys) := fun V h => HY2.out.up h (Nat.le_refl _)
  have HMW : Hid (∀ V, Below w2.heap.size w2 V → Sl I V w2.heap.size A'' n'' ms) := fun V h => HM2.out.up h (Nat.le_refl _)
  have k0 := cell_of_row w2 (w.heap.size + 1) 0 _ _ _ HS2.out
  have k1 := cell_of_row w2 (w.heap.size + 1) 1 _ _ _ HS2.out
  have k2 := cell_of_row w2 (w.heap.size + 1) 2 _ _ _ HS2.out
  have k3 := cell_of_row w2 (w.heap.size + 1) 3 _ _ _ HS2.out
  simp at k0 k1 k2 k3
  go_wp2
  go_region_held3 (fun w' => w'.cell? ⟨w.heap.size + 1, 0, none⟩ = some (.int .i64 a') ∧ w'.cell? ⟨w.heap.size + 1, 1, none⟩ = some (.int .i64 b') ∧ w'.cell? ⟨w.heap.size + 1, 2, none⟩ = some (.int .i64 c') ∧ w'.cell? ⟨w.heap.size + 1, 3, none⟩ = some (.int .i64 d')) ((first | go_keep | exact ⟨(HBc.out.cell (p := ⟨w.heap.size + 1, 0, none⟩) (lt_of_block HS2.out)).trans k0, (HBc.out.cell (p := ⟨w.heap.size + 1, 1, none⟩) (lt_of_block HS2.out)).trans k1, (HBc.out.cell (p := ⟨w.heap.size + 1, 2, none⟩) (lt_of_block HS2.out)).trans k2, (HBc.out.cell (p := ⟨w.heap.size + 1, 3, none⟩) (lt_of_block HS2.out)).trans k3⟩ | exact ⟨(HBb.out.cell (p := ⟨w.heap.size + 1, 0, none⟩) (lt_of_block HS2.out)).trans k0, (HBb.out.cell (p := ⟨w.heap.size + 1, 1, none⟩) (lt_of_block HS2.out)).trans k1, (HBb.out.cell (p := ⟨w.heap.size + 1, 2, none⟩) (lt_of_block HS2.out)).trans k2, (HBb.out.cell (p := ⟨w.heap.size + 1, 3, none⟩) (lt_of_block HS2.out)).trans k3⟩ | exact ⟨(HBa.out.cell (p := ⟨w.heap.size + 1, 0, none⟩) (lt_of_block HS2.out)).trans k0, (HBa.out.cell (p := ⟨w.heap.size + 1, 1, none⟩) (lt_of_block HS2.out)).trans k1, (HBa.out.cell (p := ⟨w.heap.size + 1, 2, none⟩) (lt_of_block HS2.out)).trans k2, (HBa.out.cell (p := ⟨w.heap.size + 1, 3, none⟩) (lt_of_block HS2.out)).trans k3⟩)) (first | (refine step_app (.tmp 68) (.tmp 69) 26 rfl rfl 3 i0 (.int .i64 0) 8 Try.underlying26 HI.out HZ0.out HZ1.out HZ2.out rfl [] w2.heap.size ?_ ys ?_ I1 HQ1.out HQ2.out ?_ ?_; (exact HE.out _ _ (by simp) (by omega)); (refine ⟨w2.heap.size, A', n', cp', rfl, HYW.out _ ?_⟩; (repeat (first | exact Below.refl _ _ | exact HBa.out | refine Below.alloc ?_ (by simp) _ | refine Below.alloc ?_ HBa.out.size _ | refine Below.drew ?_ | refine below_dN ?_ _))); (simp <;> omega); (intro v5 w5 HO5 HG5 HV5 HL5; (have HBa : Hid (Below w2.heap.size w2 w5) := HL5.out _ _ (by (repeat (first | exact Below.refl _ _ | exact HBa.out | refine Below.alloc ?_ (by simp) _ | refine Below.alloc ?_ HBa.out.size _ | refine Below.drew ?_ | refine below_dN ?_ _))) (Nat.le_refl _)))) | (refine step_app (.tmp 70) (.tmp 71) 26 rfl rfl 3 i0 (.int .i64 0) 8 Try.underlying26 HI.out HZ0.out HZ1.out HZ2.out rfl ([] ++ ys) w2.heap.size HO5.out ms ?_ I1 HQ3.out HQ4.out ?_ ?_; (exact ⟨w2.heap.size, A'', n'', cp'', rfl, HMW.out _ HBa.out⟩); (exact HBa.out.size); (intro v6 w6 HO6 HG6 HV6 HL6; (have HBb : Hid (Below w2.heap.size w2 w6) := HL6.out _ _ HBa.out (Nat.le_refl _)); (obtain ⟨A6, c6, hv6, _, hs6, _⟩ := HO6.out.shape); (obtain ⟨q6, hq6⟩ : ∃ q, ([] ++ ys ++ ms).length = q := ⟨_, rfl⟩); (rw [hq6] at hv6); (subst hv6); (have HS6 : Hid (Sl I w6 w6.heap.size A6 q6 (ys ++ ms)) := ⟨by rw [← hq6]; simp, hs6⟩); (clear hs6 hq6))) | (go_at_call 22; (refine (HLW.out _ _ _ _ (HB2.out.trans (HBb.out.mono HB2.out.size)) HS6.out).mono ?_); rintro e w7 ⟨A7, n7, c7, rfl, hc7, hk7, hb⟩; (have HB7 : Hid (Below w.heap.size w w7) := (HB2.out.trans (HBb.out.mono HB2.out.size)).trans (hb.mono (HB2.out.trans (HBb.out.mono HB2.out.size)).size)); (have HK7 : Hid (Sl I w7 w7.heap.size A1 n1 K) := (((HK2.out).up HBb.out (Nat.le_refl _)).more' HBb.out.size |>.up hb (Nat.le_refl _)).more' hb.size); (have HL7 := Lib.hid hk7); (have HBc : Hid (Below w2.heap.size w2 w7) := HBb.out.trans (hb.mono HBb.out.size)); clear hk7 hc7 hb) | fail)
  clear k0 k1 k2 k3
  have hn1K : n1 ≤ 40 := by have := HK7.out.1; omega
  have hn7L : n7 ≤ 40 := by have := HL7.out.1; omega
  go_wp2
  go_loopw [15] (fun i wr => ∃ j : Nat, j ≤ n1 ∧ i = .int .i64 j ∧ Hid (Below w7.heap.size w7 wr)) (fun i _ => n1 - (intOf i).toNat)
  case atStart => exact ⟨0, Nat.zero_le _, rfl, Below.refl _ _⟩
  case round =>
    obtain ⟨j, hj, rfl, HBr⟩ := hrel
    by_cases hlt : j < n1
    · have hsk := HK7.out.up HBr.out (Nat.le_refl _)
      have hsl := HL7.out.up HBr.out (Nat.le_refl _)
      obtain ⟨b9, off9, y, rfl, _, hyk, hcy⟩ := hsk.2.at_ (k := j) (by have := hsk.1; omega)
      have hyl := HKL.out y (List.mem_of_getElem? hyk)
      have HSL := Lib.hid hsl
      have cX : Hid (∀ V, Sl I V w7.heap.size A7 n7 L → Calls Try.prog 23 #[.slice A7 n7 c7, .int .i64 y] V fun e w' => e = .returned (.bool true) ∧ V = w') := fun V h => by have h5 := lhas_any A7 n7 L c7 y V _ h (by omega); rw [decide_eq_true hyl] at h5; exact h5
      clear hsk hsl hyk hyl
      go_wp2_with fail
      refine (cX.out _ HSL.out).mono ?_
      rintro e w' ⟨rfl, rfl⟩
      go_wp2
      go_roundw
      case rel => exact ⟨j + 1, by omega, by go_num, HBr⟩
      case measure => simp [intOf]; omega
    · go_wp2
      go_ret
      exact ⟨rfl, HB7.out.trans (HBr.out.mono HB7.out.size)⟩
theorem argB_app {a b c d : Int} {xs ys ms : List Int} (h : argB a b c d xs (ys ++ ms) = true) : ∀ x ∈ xs, okD x := argB_days h
theorem lawMore_any (a b c d a' b' c' d' : Int) (A A' A'' : Option Addr) (n n' n'' cp cp' cp'' : Nat) (xs ys ms : List Int) (w : World) (hx : Sl I w w.heap.size A n xs) (hy : Sl I w w.heap.size A' n' ys) (hm : Sl I w w.heap.size A'' n'' ms) : Calls Try.prog 7 #[fR a b c d, fR a' b' c' d', .slice A n cp, .slice A' n' cp', .slice A'' n'' cp''] w (BoolB true w) := by
  by_cases hf : n ≤ 40 ∧ n' ≤ 10 ∧ n'' ≤ 5 ∧ a ≤ a' ∧ b ≤ b' ∧ c ≤ c' ∧ d ≤ d'
  · obtain ⟨hn1, hn2, hn3, g1, g2, g3, g4⟩ := hf
    have hlen : ∀ W A0 n0, Sl I W W.heap.size A0 n0 (ys ++ ms) → n0 ≤ 100000 := fun W A0 n0 h => by
      have h5 := h.1
      have h6 := hy.1
      have h7 := hm.1
      rw [List.length_append] at h5
      omega
    cases hb : argB a b c d xs ys
    · have HKN : ∀ W, Below w.heap.size w W → Calls Try.prog 22 #[fR a b c d, .slice A n cp, .slice A' n' cp'] W (Slc2 I ([] : List Int) 1 W) := fun W h => keep_no a b c d A A' n n' cp cp' xs ys W ((hx.up h (Nat.le_refl _)).more' h.size) ((hy.up h (Nat.le_refl _)).more' h.size) (by omega) (by omega) hb
      cases hb2 : argB a' b' c' d' xs (ys ++ ms)
      · exact lawMore_err a b c d a' b' c' d' 1 1 [] [] xs ys ms A A' A'' n n' n'' cp cp' cp'' w hy hm hn1 hn2 hn3 g1 g2 g3 g4 (.inl (by decide)) HKN (fun W A0 n0 c0 h hs => keep_no a' b' c' d' A A0 n n0 cp c0 xs (ys ++ ms) W ((hx.up h (Nat.le_refl _)).more' h.size) hs (by omega) (hlen W A0 n0 hs) hb2)
      · obtain ⟨nm, rfl, rfl, rfl, rfl, _⟩ := argB_nums hb2
        exact lawMore_err a b c d nm.a nm.b nm.c nm.d 1 0 [] _ xs ys ms A A' A'' n n' n'' cp cp' cp'' w hy hm hn1 hn2 hn3 g1 g2 g3 g4 (.inl (by decide)) HKN (fun W A0 n0 c0 h hs => keep_yes nm A A0 n n0 cp c0 xs (ys ++ ms) W ((hx.up h (Nat.le_refl _)).more' h.size) hs (by omega) (hlen W A0 n0 hs) hb2)
    · obtain ⟨nm, rfl, rfl, rfl, rfl, _⟩ := argB_nums hb
      have HKY : ∀ W, Below w.heap.size w W → Calls Try.prog 22 #[fR nm.a nm.b nm.c nm.d, .slice A n cp, .slice A' n' cp'] W (Slc2 I (keptL nm xs ys) 0 W) := fun W h => keep_yes nm A A' n n' cp cp' xs ys W ((hx.up h (Nat.le_refl _)).more' h.size) ((hy.up h (Nat.le_refl _)).more' h.size) (by omega) (by omega) hb
      cases hb2 : argB a' b' c' d' xs (ys ++ ms)
      · exact lawMore_err nm.a nm.b nm.c nm.d a' b' c' d' 0 1 _ [] xs ys ms A A' A'' n n' n'' cp cp' cp'' w hy hm hn1 hn2 hn3 g1 g2 g3 g4 (.inr ⟨by decide, by decide⟩) HKY (fun W A0 n0 c0 h hs => keep_no a' b' c' d' A A0 n n0 cp c0 xs (ys ++ ms) W ((hx.up h (Nat.le_refl _)).more' h.size) hs (by omega) (hlen W A0 n0 hs) hb2)
      · obtain ⟨ns, rfl, rfl, rfl, rfl, _⟩ := argB_nums hb2
        have h1 := keptL_len nm xs ys
        have h2 := keptL_len ns xs (ys ++ ms)
        rw [hx.1] at h1 h2
        exact lawMore_good nm.a nm.b nm.c nm.d ns.a ns.b ns.c ns.d 0 0 _ _ xs ys ms A A' A'' n n' n'' cp cp' cp'' w hy hm hn1 hn2 hn3 g1 g2 g3 g4 (fun x hx' => more_kept ⟨by omega, by omega, by omega, by omega⟩ xs ys ms hx') (by omega) (by omega) rfl rfl HKY (fun W A0 n0 c0 h hs => keep_yes ns A A0 n n0 cp c0 xs (ys ++ ms) W ((hx.up h (Nat.le_refl _)).more' h.size) hs (by omega) (hlen W A0 n0 hs) hb2)
  · exact lawMore_many a b c d a' b' c' d' A A' A'' n n' n'' cp cp' cp'' w hf
end Go.Proofs.Ytfffhdclbdmfnaa
