/- The walk of the law Basics. -/
import Derived.Test.YtalclofogengpaaTwo
import Derived.Test.YtalclofogengpaaVvD
namespace Go.Proofs.Ytalclofogengpaa
open Go.RowKit

theorem vvalid_n (A : Option Addr) (n : Nat) (xs : List Int) (c : Nat) (w : World) (B : Nat) (hx : Sl I w B A n xs) (hl : n ≤ 1000000) :
    Calls Try.prog 32 #[.slice A n c] w fun e w' => e = .returned (.bool (validB xs)) ∧ w = w' := by
  obtain ⟨rfl, hx⟩ := hx
  exact vvalid_any A xs c w B hx (by omega)
theorem sm_congr {x y : List Int} (h : ∀ j, x.getD j 0 = y.getD j 0) (k : Nat) : sm x k = sm y k := by
  induction k with
  | zero => rfl
  | succ k ih => rw [sm, sm, ih, h]
theorem sm_out (x : List Int) (m : Nat) : sm x (x.length + m) = sm x x.length := by
  induction m with
  | zero => rfl
  | succ m ih => rw [← Nat.add_assoc, sm, ih, getD_out (by omega), Int.add_zero]
theorem sm_pad {x : List Int} (h : x.length ≤ 12) : sm (pad x) 12 = sm x x.length := by
  rw [sm_congr (pad_getD x), ← sm_out x (12 - x.length)]
  congr 1; omega
theorem get_valid {xs : List Int} (h : validB xs = true) (d : Int) : (if validB xs && devB d then gv xs d else 0) = gv xs d := by
  rw [h, Bool.true_and]
  by_cases hd : devB d = true
  · rw [if_pos hd]
  · rw [if_neg hd, gv_out]
    have := valid_len h
    simp [devB] at hd
    omega

set_option maxRecDepth 20000 in
set_option maxHeartbeats 2000000 in
theorem law_basics_yes (A : Option Addr) (n c : Nat) (xs : List Int) (w : World) (d v : Int) (hx : Sl I w w.heap.size A n xs) (hcap : n ≤ c) (h1 : n ≤ 20) (hv : validB xs = true) :
    Calls Try.prog 10 #[.slice A n c, .int .i64 d, .int .i64 v] w (Law w) := by
  have HX := Lib.hid hx
  have HLn : Hid (xs.length = n) := hx.1
  have hn12 : n ≤ 12 := by rw [← hx.1]; exact valid_len hv
  obtain ⟨g, hg⟩ : ∃ g, g = gv xs d := ⟨_, rfl⟩
  have hgg : (if validB xs && devB d then gv xs d else 0) = g := by rw [get_valid hv, hg]
  obtain ⟨r, hr⟩ : ∃ r, r = min (sm (pad xs) 12) 1099511627776 := ⟨_, rfl⟩
  obtain ⟨cv, hcv⟩ : ∃ cv, cv = (decide (1 ≤ v) && decide (v ≤ g)) := ⟨_, rfl⟩
  have HRR : Hid (r = min (sm xs n) 1099511627776) := by show _ = _; rw [hr, sm_pad (valid_len hv), hx.1]
  have HGX : Hid (∀ k, 0 ≤ xs.getD k 0 ∧ xs.getD k 0 ≤ 1099511627776) := valid_getD hv
  have cV : Hid (∀ W, Sl I W W.heap.size A n xs → Calls Try.prog 16 #[.slice A n c] W fun e w' => e = .returned (.bool true) ∧ W = w') := fun W h => by rw [← hv]; exact rvalid_n A n xs c W _ h (by omega)
  have cV2 : Hid (∀ W, Sl I W W.heap.size A n xs → Calls Try.prog 32 #[.slice A n c] W fun e w' => e = .returned (.bool true) ∧ W = w') := fun W h => by rw [← hv]; exact vvalid_n A n xs c W _ h (by omega)
  have cN : Hid (∀ W, Sl I W W.heap.size A n xs → Calls Try.prog 31 #[.slice A n c] W (Slc I (nrm xs) W)) := fun W h => by have := vnormal_any A n xs c W _ h (Nat.le_refl _) (by omega); rw [if_pos hv] at this; exact this
  have cR : Hid (∀ W, Sl I W W.heap.size A n xs → Calls Try.prog 23 #[.slice A n c] W (Slc I (nrm xs) W)) := fun W h => rnormal_any A n xs c W _ h (Nat.le_refl _) (by omega) hcap
  have cG : Hid (∀ W, Sl I W W.heap.size A n xs → Calls Try.prog 33 #[.slice A n c, .int .i64 d] W fun e w' => e = .returned (.int .i64 g) ∧ Below W.heap.size W w') := fun W h => by rw [← hgg]; exact vget_any A n xs c W _ h (Nat.le_refl _) (by omega) d
  have cRG : Hid (∀ W, Sl I W W.heap.size A n xs → Calls Try.prog 19 #[.slice A n c, .int .i64 d] W fun e w' => e = .returned (.int .i64 g) ∧ W = w') := fun W h => by rw [hg]; exact rget_any A n xs c d W _ h (by omega)
  have cT : Hid (∀ W, Sl I W W.heap.size A n xs → Calls Try.prog 34 #[.slice A n c] W fun e w' => e = .returned (.int .i64 r) ∧ Below W.heap.size W w') := fun W h => by
    have := vtotal_any A n xs c W _ h (Nat.le_refl _) (by omega)
    rw [if_pos hv, ← hr] at this
    exact this
  have cC : Hid (∀ W, Sl I W W.heap.size A n xs → Calls Try.prog 35 #[.slice A n c, .int .i64 d, .int .i64 v] W fun e w' => e = .returned (.bool cv) ∧ Below W.heap.size W w') := fun W h => by
    have := vcovers_any A n xs c W _ h (Nat.le_refl _) (by omega) d v
    rw [hgg, ← hcv] at this
    exact this
  have HNL : Hid ((nrm xs).length ≤ 12) := by show _ ≤ _; have := nrm_len' xs; rw [hx.1] at this; omega
  have HCV := Lib.hid hcv
  clear hx hv hg hgg hr hcv hcap
  go_enter Try.func10, Try.ntmps10
  go_wp2_with fail
  refine (few_n _ _ _ _).mono ?_; rintro e w' ⟨rfl, rfl⟩
  go_wp2_with fail
  refine (cV.out _ HX.out).mono ?_; rintro e w' ⟨rfl, rfl⟩
  go_wp2_with fail
  refine (cN.out _ HX.out).mono ?_; rintro e w1 ⟨A1, n1, c1, rfl, hc1, hs, hb⟩
  have HB1 := Lib.hid hb
  have HX1 := Lib.hid (HX.out.on hb)
  have S1 := Lib.hid hs
  have hn1 : n1 ≤ 12 := by rw [← hs.1]; exact HNL.out
  clear hs hb
  go_wp2_with fail
  refine (cV2.out _ HX1.out).mono ?_; rintro e w' ⟨rfl, rfl⟩
  go_wp2
  go_loop [9, 10] (fun s i => ∃ (k : Nat) (z : Int), k ≤ n ∧ i = .int .i64 k ∧ s = .int .i64 z ∧ Hid (z = min (sm xs k) 1099511627776) ∧ 0 ≤ z ∧ z ≤ 1099511627776 ∧ 0 ≤ sm xs k) (fun _ i => n - (intOf i).toNat)
  case atStart => exact ⟨0, 0, Nat.zero_le _, rfl, rfl, by show _ = _; rw [sm]; rfl, by omega, by omega, by simp [sm]⟩
  case round =>
    obtain ⟨k, z, hk, rfl, rfl, HZ, hz0, hz1, hsm⟩ := hrel
    by_cases hlt : k < n
    · obtain ⟨b, off, x, rfl, _, hxk, hck⟩ := SL.at_ HX1.out.2 (k := k) (by rw [HLn.out]; exact hlt)
      have hxr := HGX.out k
      rw [getD_of hxk] at hxr
      obtain ⟨hx0, hx1⟩ := hxr
      obtain ⟨z', hz'⟩ : ∃ z', (if (1099511627776 : Int) < z + x then 1099511627776 else z + x) = z' := ⟨_, rfl⟩
      have hS : sm xs (k + 1) = sm xs k + x := by rw [sm, getD_of hxk]
      have HZ' : Hid (z' = min (sm xs (k + 1)) 1099511627776) := by
        show _ = _
        have := HZ.out
        rw [← hz', hS]
        split <;> omega
      have hz0' : 0 ≤ z' := by rw [← hz']; split <;> omega
      have hz1' : z' ≤ 1099511627776 := by rw [← hz']; split <;> omega
      have hsm' : 0 ≤ sm xs (k + 1) := by omega
      clear hxk hS
      go_wp2
      go_round
      case rel => exact ⟨k + 1, z', by omega, by go_num, rfl, HZ', hz0', hz1', hsm'⟩
      case measure => simp [intOf]; omega
    · obtain rfl : k = n := by omega
      obtain rfl : z = r := by rw [HZ.out, HRR.out]
      clear HZ hz0 hz1 hsm
      go_wp2_with fail
      refine (awake_any w1).mono ?_; rintro e w2 ⟨rfl, hb⟩
      have HB2 : Hid (Below w.heap.size w w2) := HB1.out.trans (hb.mono HB1.out.size)
      have HX2 := Lib.hid (HX1.out.on hb)
      have S2 := Lib.hid (S1.out.on hb)
      clear hb
      go_wp2_with fail
      refine (cR.out _ HX2.out).mono ?_; rintro e w3 ⟨A3, n3, c3, rfl, hc3, hs, hb⟩
      have HB3 : Hid (Below w.heap.size w w3) := HB2.out.trans (hb.mono HB2.out.size)
      have HX3 := Lib.hid (HX2.out.on hb)
      have S3 := Lib.hid (S2.out.on hb)
      have R3 := Lib.hid hs
      have hn3 : n3 ≤ 12 := by rw [← hs.1]; exact HNL.out
      clear hs hb
      go_wp2_with fail
      refine (ints_eq _ _ _ _ (nrm xs) (nrm xs) _ _ _ S3.out R3.out (by omega) (by omega) rfl).mono ?_; rintro e w4 ⟨rfl, hb⟩
      have HB4 : Hid (Below w.heap.size w w4) := HB3.out.trans (hb.mono HB3.out.size)
      have HX4 := Lib.hid (HX3.out.on hb)
      clear hb
      go_wp2_with fail
      refine (cG.out _ HX4.out).mono ?_; rintro e w5 ⟨rfl, hb⟩
      have HB5 : Hid (Below w.heap.size w w5) := HB4.out.trans (hb.mono HB4.out.size)
      have HX5 := Lib.hid (HX4.out.on hb)
      clear hb
      go_wp2_with fail
      refine (cRG.out _ HX5.out).mono ?_; rintro e w' ⟨rfl, rfl⟩
      go_wp2_with fail
      refine (cT.out _ HX5.out).mono ?_; rintro e w6 ⟨rfl, hb⟩
      have HB6 : Hid (Below w.heap.size w w6) := HB5.out.trans (hb.mono HB5.out.size)
      have HX6 := Lib.hid (HX5.out.on hb)
      clear hb
      go_wp2_with fail
      refine (cC.out _ HX6.out).mono ?_; rintro e w7 ⟨rfl, hb⟩
      have HB7 : Hid (Below w.heap.size w w7) := HB6.out.trans (hb.mono HB6.out.size)
      have HX7 := Lib.hid (HX6.out.on hb)
      clear hb
      by_cases hv1 : 1 ≤ v
      · by_cases hv2 : v ≤ g
        · obtain rfl : cv = true := by rw [HCV.out]; simp [hv1, hv2]
          go_wp2_with fail
          refine (cRG.out _ HX7.out).mono ?_; rintro e w' ⟨rfl, rfl⟩
          go_wp2
          go_ret
          exact ⟨ret_bool (by simp), HB7.out⟩
        · obtain rfl : cv = false := by rw [HCV.out]; simp [hv1, hv2]
          go_wp2_with fail
          refine (cRG.out _ HX7.out).mono ?_; rintro e w' ⟨rfl, rfl⟩
          go_wp2
          go_ret
          exact ⟨ret_bool (by simp; omega), HB7.out⟩
      · obtain rfl : cv = false := by rw [HCV.out]; simp [hv1]
        go_wp2
        go_ret
        exact ⟨rfl, HB7.out⟩

set_option maxRecDepth 20000 in
set_option maxHeartbeats 2000000 in
theorem law_basics (A : Option Addr) (n c : Nat) (xs : List Int) (w : World) (d v : Int) (hx : Sl I w w.heap.size A n xs) (hcap : n ≤ c) :
    Calls Try.prog 10 #[.slice A n c, .int .i64 d, .int .i64 v] w (Law w) := by
  by_cases h1 : n ≤ 20
  · by_cases hv : validB xs = true
    · exact law_basics_yes A n c xs w d v hx hcap h1 hv
    · have HX := Lib.hid hx
      have hv' : validB xs = false := by simpa using hv
      have cV : Hid (∀ W, Sl I W W.heap.size A n xs → Calls Try.prog 16 #[.slice A n c] W fun e w' => e = .returned (.bool false) ∧ W = w') := fun W h => by rw [← hv']; exact rvalid_n A n xs c W _ h (by omega)
      have cV2 : Hid (∀ W, Sl I W W.heap.size A n xs → Calls Try.prog 32 #[.slice A n c] W fun e w' => e = .returned (.bool false) ∧ W = w') := fun W h => by rw [← hv']; exact vvalid_n A n xs c W _ h (by omega)
      have cN : Hid (∀ W, Sl I W W.heap.size A n xs → Calls Try.prog 31 #[.slice A n c] W (Slc I ([] : List Int) W)) := fun W h => by have := vnormal_any A n xs c W _ h (Nat.le_refl _) (by omega); rw [if_neg hv] at this; exact this
      have cG : Hid (∀ W, Sl I W W.heap.size A n xs → Calls Try.prog 33 #[.slice A n c, .int .i64 d] W fun e w' => e = .returned (.int .i64 0) ∧ Below W.heap.size W w') := fun W h => by
        have := vget_any A n xs c W _ h (Nat.le_refl _) (by omega) d
        rw [hv', Bool.false_and, if_neg (by decide)] at this
        exact this
      have cT : Hid (∀ W, Sl I W W.heap.size A n xs → Calls Try.prog 34 #[.slice A n c] W fun e w' => e = .returned (.int .i64 0) ∧ Below W.heap.size W w') := fun W h => by
        have := vtotal_any A n xs c W _ h (Nat.le_refl _) (by omega)
        rw [if_neg hv] at this
        exact this
      have cC : Hid (∀ W, Sl I W W.heap.size A n xs → Calls Try.prog 35 #[.slice A n c, .int .i64 d, .int .i64 v] W fun e w' => e = .returned (.bool false) ∧ Below W.heap.size W w') := fun W h => by
        have := vcovers_any A n xs c W _ h (Nat.le_refl _) (by omega) d v
        rw [hv', Bool.false_and, if_neg (by decide)] at this
        have e0 : (decide (1 ≤ v) && decide (v ≤ 0)) = false := by
          by_cases h : 1 ≤ v
          · simp [show ¬ v ≤ 0 by omega]
          · simp [h]
        rw [e0] at this
        exact this
      clear hx hv hv' hcap
      go_enter Try.func10, Try.ntmps10
      go_wp2_with fail
      refine (few_n _ _ _ _).mono ?_; rintro e w' ⟨rfl, rfl⟩
      go_wp2_with fail
      refine (cV.out _ HX.out).mono ?_; rintro e w' ⟨rfl, rfl⟩
      go_wp2_with fail
      refine (cN.out _ HX.out).mono ?_; rintro e w1 ⟨A1, n1, c1, rfl, hc1, hs, hb⟩
      obtain rfl : 0 = n1 := hs.1
      have HB1 := Lib.hid hb
      have HX1 := Lib.hid (HX.out.on hb)
      clear hs hb
      go_wp2_with fail
      refine (cV2.out _ HX1.out).mono ?_; rintro e w' ⟨rfl, rfl⟩
      go_wp2_with fail
      refine (awake_any w1).mono ?_; rintro e w2 ⟨rfl, hb⟩
      have HB2 : Hid (Below w.heap.size w w2) := HB1.out.trans (hb.mono HB1.out.size)
      have HX2 := Lib.hid (HX1.out.on hb)
      clear hb
      go_wp2_with fail
      refine (cG.out _ HX2.out).mono ?_; rintro e w3 ⟨rfl, hb⟩
      have HB3 : Hid (Below w.heap.size w w3) := HB2.out.trans (hb.mono HB2.out.size)
      have HX3 := Lib.hid (HX2.out.on hb)
      clear hb
      go_wp2_with fail
      refine (cT.out _ HX3.out).mono ?_; rintro e w4 ⟨rfl, hb⟩
      have HB4 : Hid (Below w.heap.size w w4) := HB3.out.trans (hb.mono HB3.out.size)
      have HX4 := Lib.hid (HX3.out.on hb)
      clear hb
      go_wp2_with fail
      refine (cC.out _ HX4.out).mono ?_; rintro e w5 ⟨rfl, hb⟩
      have HB5 : Hid (Below w.heap.size w w5) := HB4.out.trans (hb.mono HB4.out.size)
      clear hb
      go_wp2
      go_ret
      exact ⟨rfl, HB5.out⟩
  · go_enter Try.func10, Try.ntmps10
    go_wp2_with (first
      | (go_at_call 13; refine (few_n _ _ _ _).mono ?_; rintro e w' ⟨rfl, rfl⟩)
      | (go_at_call 14; refine (law_awake w w (Below.refl _ _)).mono ?_; rintro e w2 ⟨rfl, hb2⟩))
    go_ret
    exact ⟨rfl, hb2⟩
end Go.Proofs.Ytalclofogengpaa
