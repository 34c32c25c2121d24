/- The walk of the law Sets. -/
import Derived.Test.YtalclofogengpaaTwo
import Derived.Test.YtalclofogengpaaVvD
namespace Go.Proofs.Ytalclofogengpaa
open Go.RowKit

theorem set_yes (A : Option Addr) (n : Nat) (xs : List Int) (c : Nat) (w : World) (hx : Sl I w w.heap.size A n xs) (hl : n ≤ 1000000) (d v : Int) (h : (validB xs && devB d && inR v) = true) :
    Calls Try.prog 29 #[.slice A n c, .int .i64 d, .int .i64 v] w (Slc2 I (nrm ((pad xs).set d.toNat v)) 0 w) :=
  (vset_any A n xs c w _ hx (Nat.le_refl _) hl d v).mono fun e w' hh => by
    rcases hh with ⟨_, hh⟩ | ⟨h0, _⟩
    · exact hh
    · rw [h] at h0; cases h0
theorem set_no (A : Option Addr) (n : Nat) (xs : List Int) (c : Nat) (w : World) (hx : Sl I w w.heap.size A n xs) (hl : n ≤ 1000000) (d v : Int) (h : (validB xs && devB d && inR v) = false) :
    Calls Try.prog 29 #[.slice A n c, .int .i64 d, .int .i64 v] w (Slc2 I ([] : List Int) 1 w) :=
  (vset_any A n xs c w _ hx (Nat.le_refl _) hl d v).mono fun e w' hh => by
    rcases hh with ⟨h0, _⟩ | ⟨_, hh⟩
    · rw [h] at h0; cases h0
    · exact hh
theorem inc_no (A : Option Addr) (n : Nat) (xs : List Int) (c : Nat) (w : World) (hx : Sl I w w.heap.size A n xs) (hl : n ≤ 1000000) (d : Int) (h : (validB xs && devB d) = false) :
    Calls Try.prog 30 #[.slice A n c, .int .i64 d] w (Slc2 I ([] : List Int) 1 w) :=
  (vinc_any A n xs c w _ hx (Nat.le_refl _) hl d).mono fun e w' hh => by
    rcases hh with ⟨_, hh⟩ | ⟨h0, _⟩ | ⟨h0, _⟩
    · exact hh
    · rw [h] at h0; cases h0
    · rw [h] at h0; cases h0
theorem inc_big (A : Option Addr) (n : Nat) (xs : List Int) (c : Nat) (w : World) (hx : Sl I w w.heap.size A n xs) (hl : n ≤ 1000000) (d : Int) (h : (validB xs && devB d) = true) (hg : gv xs d = 1099511627776) :
    Calls Try.prog 30 #[.slice A n c, .int .i64 d] w (Slc2 I ([] : List Int) 2 w) :=
  (vinc_any A n xs c w _ hx (Nat.le_refl _) hl d).mono fun e w' hh => by
    rcases hh with ⟨h0, _⟩ | ⟨_, _, hh⟩ | ⟨_, h0, _⟩
    · rw [h] at h0; cases h0
    · exact hh
    · exact absurd hg h0
theorem inc_yes (A : Option Addr) (n : Nat) (xs : List Int) (c : Nat) (w : World) (hx : Sl I w w.heap.size A n xs) (hl : n ≤ 1000000) (d : Int) (h : (validB xs && devB d) = true) (hg : gv xs d ≠ 1099511627776) :
    Calls Try.prog 30 #[.slice A n c, .int .i64 d] w (Slc2 I (nrm ((pad xs).set d.toNat (gv xs d + 1))) 0 w) :=
  (vinc_any A n xs c w _ hx (Nat.le_refl _) hl d).mono fun e w' hh => by
    rcases hh with ⟨h0, _⟩ | ⟨_, h0, _⟩ | ⟨_, _, hh⟩
    · rw [h] at h0; cases h0
    · exact absurd h0 hg
    · exact hh
theorem setL_len {xs : List Int} (h : validB xs = true) (k : Nat) (v : Int) : (nrm ((pad xs).set k v)).length ≤ 12 := by
  have h1 := nrm_len' ((pad xs).set k v)
  rw [List.length_set, pad_len_of h] at h1
  exact h1

set_option maxRecDepth 20000 in
set_option maxHeartbeats 2000000 in
theorem law_sets_in (A : Option Addr) (n c : Nat) (xs : List Int) (w : World) (d v : Int) (hx : Sl I w w.heap.size A n xs) (h1 : n ≤ 20) (hv : validB xs = true) (hd : devB d = true) :
    Calls Try.prog 9 #[.slice A n c, .int .i64 d, .int .i64 v] w (Law w) := by
  have HX := Lib.hid hx
  have HV : Hid (validB xs = true) := hv
  have HN : Hid (n ≤ 12) := by show _ ≤ _; rw [← hx.1]; exact valid_len hv
  have hdd := hd
  simp only [devB, Bool.and_eq_true, decide_eq_true_eq] at hdd
  have HD0 : Hid (0 ≤ d) := hdd.1
  have HD1 : Hid (d < 12) := hdd.2
  have cV : Hid (∀ W, Sl I W W.heap.size A n xs → Calls Try.prog 16 #[.slice A n c] W fun e w' => e = .returned (.bool true) ∧ W = w') := fun W h => by rw [← HV.out]; exact rvalid_n A n xs c W _ h (by omega)
  have cD : Hid (∀ W, Calls Try.prog 27 #[.int .i64 d] W fun e w' => e = .returned (.bool true) ∧ W = w') := fun W => by rw [← hd]; exact device_any d W
  have hbad : (validB xs && devB d) = true := by rw [hv, hd]; rfl
  obtain ⟨g, hg⟩ : ∃ g, g = gv xs d := ⟨_, rfl⟩
  have cG : Hid (∀ W, Sl I W W.heap.size A n xs → Calls Try.prog 19 #[.slice A n c, .int .i64 d] W fun e w' => e = .returned (.int .i64 g) ∧ W = w') := fun W h => by rw [hg]; exact rget_any A n xs c d W _ h (by omega)
  have hgr : 0 ≤ g ∧ g ≤ 1099511627776 := by
    rw [hg, gv, if_neg (by omega)]
    exact valid_getD hv _
  obtain ⟨hg0, hg1⟩ := hgr
  by_cases hgM : g = 1099511627776
  · have cI : Hid (∀ W, Sl I W W.heap.size A n xs → Calls Try.prog 30 #[.slice A n c, .int .i64 d] W (Slc2 I ([] : List Int) 2 W)) := fun W h => inc_big A n xs c W h (by omega) d hbad (hg ▸ hgM)
    clear hg
    subst hgM
    clear hg0 hg1
    by_cases hv0 : v < 0
    · have cS : Hid (Calls Try.prog 29 #[.slice A n c, .int .i64 d, .int .i64 v] w (Slc2 I ([] : List Int) 1 w)) := set_no A n xs c w HX.out (by omega) d v (by rw [inR_neg hv0, Bool.and_false])
      clear hx hv hd hdd hbad
      go_enter Try.func9, Try.ntmps9
      go_wp2_with fail
      refine (few_n _ _ _ _).mono ?_; rintro e w' ⟨rfl, rfl⟩
      go_wp2_with fail
      refine cS.out.mono ?_; rintro e w1 ⟨A1, n1, c1, rfl, hc1, hs, hb⟩
      obtain rfl : 0 = n1 := hs.1
      clear hs
      have HB1 := Lib.hid hb
      have HX1 := Lib.hid (HX.out.on hb)
      clear hb
      go_wp2_with fail
      refine (cI.out _ HX1.out).mono ?_; rintro e w2 ⟨A2, n2, c2, rfl, hc2, hs, hb⟩
      obtain rfl : 0 = n2 := hs.1
      clear hs
      have HB2 : Hid (Below w.heap.size w w2) := HB1.out.trans (hb.mono HB1.out.size)
      have HX2 := Lib.hid (HX1.out.on hb)
      clear hb
      go_wp2_with fail
      refine (cV.out _ HX2.out).mono ?_; rintro e w' ⟨rfl, rfl⟩
      go_wp2_with fail
      refine (cD.out _).mono ?_; rintro e w' ⟨rfl, rfl⟩
      go_wp2_with fail
      refine (cG.out _ HX2.out).mono ?_; rintro e w' ⟨rfl, rfl⟩
      go_wp2_with fail
      refine (awake_any w2).mono ?_; rintro e w5 ⟨rfl, hb⟩
      have HB5 : Hid (Below w.heap.size w w5) := HB2.out.trans (hb.mono HB2.out.size)
      have HX5 := Lib.hid (HX2.out.on hb)
      clear hb
      go_wp2
      go_ret
      exact ⟨rfl, HB5.out⟩

    · by_cases hv1 : 1099511627776 < v
      · have cS : Hid (Calls Try.prog 29 #[.slice A n c, .int .i64 d, .int .i64 v] w (Slc2 I ([] : List Int) 1 w)) := set_no A n xs c w HX.out (by omega) d v (by rw [inR_big hv1, Bool.and_false])
        clear hx hv hd hdd hbad
        go_enter Try.func9, Try.ntmps9
        go_wp2_with fail
        refine (few_n _ _ _ _).mono ?_; rintro e w' ⟨rfl, rfl⟩
        go_wp2_with fail
        refine cS.out.mono ?_; rintro e w1 ⟨A1, n1, c1, rfl, hc1, hs, hb⟩
        obtain rfl : 0 = n1 := hs.1
        clear hs
        have HB1 := Lib.hid hb
        have HX1 := Lib.hid (HX.out.on hb)
        clear hb
        go_wp2_with fail
        refine (cI.out _ HX1.out).mono ?_; rintro e w2 ⟨A2, n2, c2, rfl, hc2, hs, hb⟩
        obtain rfl : 0 = n2 := hs.1
        clear hs
        have HB2 : Hid (Below w.heap.size w w2) := HB1.out.trans (hb.mono HB1.out.size)
        have HX2 := Lib.hid (HX1.out.on hb)
        clear hb
        go_wp2_with fail
        refine (cV.out _ HX2.out).mono ?_; rintro e w' ⟨rfl, rfl⟩
        go_wp2_with fail
        refine (cD.out _).mono ?_; rintro e w' ⟨rfl, rfl⟩
        go_wp2_with fail
        refine (cG.out _ HX2.out).mono ?_; rintro e w' ⟨rfl, rfl⟩
        go_wp2_with fail
        refine (awake_any w2).mono ?_; rintro e w5 ⟨rfl, hb⟩
        have HB5 : Hid (Below w.heap.size w w5) := HB2.out.trans (hb.mono HB2.out.size)
        have HX5 := Lib.hid (HX2.out.on hb)
        clear hb
        go_wp2
        go_ret
        exact ⟨rfl, HB5.out⟩

      · have cS : Hid (Calls Try.prog 29 #[.slice A n c, .int .i64 d, .int .i64 v] w (Slc2 I (nrm ((pad xs).set d.toNat v)) 0 w)) := set_yes A n xs c w HX.out (by omega) d v (by rw [inR_ok (by omega) (by omega), Bool.and_true]; exact hbad)
        clear hx hv hd hdd hbad
        go_enter Try.func9, Try.ntmps9
        go_wp2_with fail
        refine (few_n _ _ _ _).mono ?_; rintro e w' ⟨rfl, rfl⟩
        go_wp2_with fail
        refine cS.out.mono ?_; rintro e w1 ⟨A1, n1, c1, rfl, hc1, hs, hb⟩
        have hn1 : n1 ≤ 12 := by rw [← hs.1]; exact setL_len HV.out _ _
        have S1 := Lib.hid hs
        clear hs
        have HB1 := Lib.hid hb
        have HX1 := Lib.hid (HX.out.on hb)
        clear hb
        go_wp2_with fail
        refine (cI.out _ HX1.out).mono ?_; rintro e w2 ⟨A2, n2, c2, rfl, hc2, hs, hb⟩
        obtain rfl : 0 = n2 := hs.1
        clear hs
        have HB2 : Hid (Below w.heap.size w w2) := HB1.out.trans (hb.mono HB1.out.size)
        have HX2 := Lib.hid (HX1.out.on hb)
        have S2 := Lib.hid (S1.out.on hb)
        clear hb
        go_wp2_with fail
        refine (cV.out _ HX2.out).mono ?_; rintro e w' ⟨rfl, rfl⟩
        go_wp2_with fail
        refine (cD.out _).mono ?_; rintro e w' ⟨rfl, rfl⟩
        go_wp2_with fail
        refine (rset_any A n xs c w2 _ HX2.out (Nat.le_refl _) HN.out d v HD0.out HD1.out).mono ?_; rintro e w3 ⟨A3, n3, c3, rfl, hc3, hs, hb⟩
        have hn3 : n3 ≤ 12 := by rw [← hs.1]; exact setL_len HV.out _ _
        have R3 := Lib.hid hs
        clear hs
        have HB3 : Hid (Below w.heap.size w w3) := HB2.out.trans (hb.mono HB2.out.size)
        have HX3 := Lib.hid (HX2.out.on hb)
        have S3 := Lib.hid (S2.out.on hb)
        clear hb
        go_wp2_with fail
        refine (ints_eq _ _ _ _ (nrm ((pad xs).set d.toNat v)) (nrm ((pad xs).set d.toNat v)) _ _ _ S3.out R3.out (Nat.le_trans hn1 (by omega)) (Nat.le_trans hn3 (by omega)) rfl).mono ?_; rintro e w4 ⟨rfl, hb⟩
        have HB4 : Hid (Below w.heap.size w w4) := HB3.out.trans (hb.mono HB3.out.size)
        have HX4 := Lib.hid (HX3.out.on hb)
        clear hb
        go_wp2_with fail
        refine (cG.out _ HX4.out).mono ?_; rintro e w' ⟨rfl, rfl⟩
        go_wp2_with fail
        refine (awake_any w4).mono ?_; rintro e w5 ⟨rfl, hb⟩
        have HB5 : Hid (Below w.heap.size w w5) := HB4.out.trans (hb.mono HB4.out.size)
        have HX5 := Lib.hid (HX4.out.on hb)
        clear hb
        go_wp2
        go_ret
        exact ⟨rfl, HB5.out⟩
  · have cI : Hid (∀ W, Sl I W W.heap.size A n xs → Calls Try.prog 30 #[.slice A n c, .int .i64 d] W (Slc2 I (nrm ((pad xs).set d.toNat (g + 1))) 0 W)) := fun W h => by rw [hg]; exact inc_yes A n xs c W h (by omega) d hbad (hg ▸ hgM)
    clear hg
    have hgb : (g == (1099511627776 : Int)) = false := by simpa using hgM
    by_cases hv0 : v < 0
    · have cS : Hid (Calls Try.prog 29 #[.slice A n c, .int .i64 d, .int .i64 v] w (Slc2 I ([] : List Int) 1 w)) := set_no A n xs c w HX.out (by omega) d v (by rw [inR_neg hv0, Bool.and_false])
      clear hx hv hd hdd hbad
      go_enter Try.func9, Try.ntmps9
      go_wp2_with fail
      refine (few_n _ _ _ _).mono ?_; rintro e w' ⟨rfl, rfl⟩
      go_wp2_with fail
      refine cS.out.mono ?_; rintro e w1 ⟨A1, n1, c1, rfl, hc1, hs, hb⟩
      obtain rfl : 0 = n1 := hs.1
      clear hs
      have HB1 := Lib.hid hb
      have HX1 := Lib.hid (HX.out.on hb)
      clear hb
      go_wp2_with fail
      refine (cI.out _ HX1.out).mono ?_; rintro e w2 ⟨A2, n2, c2, rfl, hc2, hs, hb⟩
      have hn2 : n2 ≤ 12 := by rw [← hs.1]; exact setL_len HV.out _ _
      have T2 := Lib.hid hs
      clear hs
      have HB2 : Hid (Below w.heap.size w w2) := HB1.out.trans (hb.mono HB1.out.size)
      have HX2 := Lib.hid (HX1.out.on hb)
      clear hb
      go_wp2_with fail
      refine (cV.out _ HX2.out).mono ?_; rintro e w' ⟨rfl, rfl⟩
      go_wp2_with fail
      refine (cD.out _).mono ?_; rintro e w' ⟨rfl, rfl⟩
      go_wp2_with fail
      refine (cG.out _ HX2.out).mono ?_; rintro e w' ⟨rfl, rfl⟩
      go_wp2_with fail
      refine (awake_any w2).mono ?_; rintro e w5 ⟨rfl, hb⟩
      have HB5 : Hid (Below w.heap.size w w5) := HB2.out.trans (hb.mono HB2.out.size)
      have HX5 := Lib.hid (HX2.out.on hb)
      have T5 := Lib.hid (T2.out.on hb)
      clear hb
      go_wp2_with fail
      refine (cG.out _ HX5.out).mono ?_; rintro e w' ⟨rfl, rfl⟩
      go_wp2_with fail
      refine (rset_any A n xs c w5 _ HX5.out (Nat.le_refl _) HN.out d (g + 1) HD0.out HD1.out).mono ?_; rintro e w6 ⟨A6, n6, c6, rfl, hc6, hs, hb⟩
      have hn6 : n6 ≤ 12 := by rw [← hs.1]; exact setL_len HV.out _ _
      have R6 := Lib.hid hs
      clear hs
      have HB6 : Hid (Below w.heap.size w w6) := HB5.out.trans (hb.mono HB5.out.size)
      have T6 := Lib.hid (T5.out.on hb)
      clear hb
      go_wp2_with fail
      refine (ints_eq _ _ _ _ (nrm ((pad xs).set d.toNat (g + 1))) (nrm ((pad xs).set d.toNat (g + 1))) _ _ _ T6.out R6.out (Nat.le_trans hn2 (by omega)) (Nat.le_trans hn6 (by omega)) rfl).mono ?_; rintro e w7 ⟨rfl, hb⟩
      have HB7 : Hid (Below w.heap.size w w7) := HB6.out.trans (hb.mono HB6.out.size)
      clear hb
      go_wp2
      go_ret
      exact ⟨rfl, HB7.out⟩

    · by_cases hv1 : 1099511627776 < v
      · have cS : Hid (Calls Try.prog 29 #[.slice A n c, .int .i64 d, .int .i64 v] w (Slc2 I ([] : List Int) 1 w)) := set_no A n xs c w HX.out (by omega) d v (by rw [inR_big hv1, Bool.and_false])
        clear hx hv hd hdd hbad
        go_enter Try.func9, Try.ntmps9
        go_wp2_with fail
        refine (few_n _ _ _ _).mono ?_; rintro e w' ⟨rfl, rfl⟩
        go_wp2_with fail
        refine cS.out.mono ?_; rintro e w1 ⟨A1, n1, c1, rfl, hc1, hs, hb⟩
        obtain rfl : 0 = n1 := hs.1
        clear hs
        have HB1 := Lib.hid hb
        have HX1 := Lib.hid (HX.out.on hb)
        clear hb
        go_wp2_with fail
        refine (cI.out _ HX1.out).mono ?_; rintro e w2 ⟨A2, n2, c2, rfl, hc2, hs, hb⟩
        have hn2 : n2 ≤ 12 := by rw [← hs.1]; exact setL_len HV.out _ _
        have T2 := Lib.hid hs
        clear hs
        have HB2 : Hid (Below w.heap.size w w2) := HB1.out.trans (hb.mono HB1.out.size)
        have HX2 := Lib.hid (HX1.out.on hb)
        clear hb
        go_wp2_with fail
        refine (cV.out _ HX2.out).mono ?_; rintro e w' ⟨rfl, rfl⟩
        go_wp2_with fail
        refine (cD.out _).mono ?_; rintro e w' ⟨rfl, rfl⟩
        go_wp2_with fail
        refine (cG.out _ HX2.out).mono ?_; rintro e w' ⟨rfl, rfl⟩
        go_wp2_with fail
        refine (awake_any w2).mono ?_; rintro e w5 ⟨rfl, hb⟩
        have HB5 : Hid (Below w.heap.size w w5) := HB2.out.trans (hb.mono HB2.out.size)
        have HX5 := Lib.hid (HX2.out.on hb)
        have T5 := Lib.hid (T2.out.on hb)
        clear hb
        go_wp2_with fail
        refine (cG.out _ HX5.out).mono ?_; rintro e w' ⟨rfl, rfl⟩
        go_wp2_with fail
        refine (rset_any A n xs c w5 _ HX5.out (Nat.le_refl _) HN.out d (g + 1) HD0.out HD1.out).mono ?_; rintro e w6 ⟨A6, n6, c6, rfl, hc6, hs, hb⟩
        have hn6 : n6 ≤ 12 := by rw [← hs.1]; exact setL_len HV.out _ _
        have R6 := Lib.hid hs
        clear hs
        have HB6 : Hid (Below w.heap.size w w6) := HB5.out.trans (hb.mono HB5.out.size)
        have T6 := Lib.hid (T5.out.on hb)
        clear hb
        go_wp2_with fail
        refine (ints_eq _ _ _ _ (nrm ((pad xs).set d.toNat (g + 1))) (nrm ((pad xs).set d.toNat (g + 1))) _ _ _ T6.out R6.out (Nat.le_trans hn2 (by omega)) (Nat.le_trans hn6 (by omega)) rfl).mono ?_; rintro e w7 ⟨rfl, hb⟩
        have HB7 : Hid (Below w.heap.size w w7) := HB6.out.trans (hb.mono HB6.out.size)
        clear hb
        go_wp2
        go_ret
        exact ⟨rfl, HB7.out⟩

      · have cS : Hid (Calls Try.prog 29 #[.slice A n c, .int .i64 d, .int .i64 v] w (Slc2 I (nrm ((pad xs).set d.toNat v)) 0 w)) := set_yes A n xs c w HX.out (by omega) d v (by rw [inR_ok (by omega) (by omega), Bool.and_true]; exact hbad)
        clear hx hv hd hdd hbad
        go_enter Try.func9, Try.ntmps9
        go_wp2_with fail
        refine (few_n _ _ _ _).mono ?_; rintro e w' ⟨rfl, rfl⟩
        go_wp2_with fail
        refine cS.out.mono ?_; rintro e w1 ⟨A1, n1, c1, rfl, hc1, hs, hb⟩
        have hn1 : n1 ≤ 12 := by rw [← hs.1]; exact setL_len HV.out _ _
        have S1 := Lib.hid hs
        clear hs
        have HB1 := Lib.hid hb
        have HX1 := Lib.hid (HX.out.on hb)
        clear hb
        go_wp2_with fail
        refine (cI.out _ HX1.out).mono ?_; rintro e w2 ⟨A2, n2, c2, rfl, hc2, hs, hb⟩
        have hn2 : n2 ≤ 12 := by rw [← hs.1]; exact setL_len HV.out _ _
        have T2 := Lib.hid hs
        clear hs
        have HB2 : Hid (Below w.heap.size w w2) := HB1.out.trans (hb.mono HB1.out.size)
        have HX2 := Lib.hid (HX1.out.on hb)
        have S2 := Lib.hid (S1.out.on hb)
        clear hb
        go_wp2_with fail
        refine (cV.out _ HX2.out).mono ?_; rintro e w' ⟨rfl, rfl⟩
        go_wp2_with fail
        refine (cD.out _).mono ?_; rintro e w' ⟨rfl, rfl⟩
        go_wp2_with fail
        refine (rset_any A n xs c w2 _ HX2.out (Nat.le_refl _) HN.out d v HD0.out HD1.out).mono ?_; rintro e w3 ⟨A3, n3, c3, rfl, hc3, hs, hb⟩
        have hn3 : n3 ≤ 12 := by rw [← hs.1]; exact setL_len HV.out _ _
        have R3 := Lib.hid hs
        clear hs
        have HB3 : Hid (Below w.heap.size w w3) := HB2.out.trans (hb.mono HB2.out.size)
        have HX3 := Lib.hid (HX2.out.on hb)
        have S3 := Lib.hid (S2.out.on hb)
        have T3 := Lib.hid (T2.out.on hb)
        clear hb
        go_wp2_with fail
        refine (ints_eq _ _ _ _ (nrm ((pad xs).set d.toNat v)) (nrm ((pad xs).set d.toNat v)) _ _ _ S3.out R3.out (Nat.le_trans hn1 (by omega)) (Nat.le_trans hn3 (by omega)) rfl).mono ?_; rintro e w4 ⟨rfl, hb⟩
        have HB4 : Hid (Below w.heap.size w w4) := HB3.out.trans (hb.mono HB3.out.size)
        have HX4 := Lib.hid (HX3.out.on hb)
        have T4 := Lib.hid (T3.out.on hb)
        clear hb
        go_wp2_with fail
        refine (cG.out _ HX4.out).mono ?_; rintro e w' ⟨rfl, rfl⟩
        go_wp2_with fail
        refine (awake_any w4).mono ?_; rintro e w5 ⟨rfl, hb⟩
        have HB5 : Hid (Below w.heap.size w w5) := HB4.out.trans (hb.mono HB4.out.size)
        have HX5 := Lib.hid (HX4.out.on hb)
        have T5 := Lib.hid (T4.out.on hb)
        clear hb
        go_wp2_with fail
        refine (cG.out _ HX5.out).mono ?_; rintro e w' ⟨rfl, rfl⟩
        go_wp2_with fail
        refine (rset_any A n xs c w5 _ HX5.out (Nat.le_refl _) HN.out d (g + 1) HD0.out HD1.out).mono ?_; rintro e w6 ⟨A6, n6, c6, rfl, hc6, hs, hb⟩
        have hn6 : n6 ≤ 12 := by rw [← hs.1]; exact setL_len HV.out _ _
        have R6 := Lib.hid hs
        clear hs
        have HB6 : Hid (Below w.heap.size w w6) := HB5.out.trans (hb.mono HB5.out.size)
        have T6 := Lib.hid (T5.out.on hb)
        clear hb
        go_wp2_with fail
        refine (ints_eq _ _ _ _ (nrm ((pad xs).set d.toNat (g + 1))) (nrm ((pad xs).set d.toNat (g + 1))) _ _ _ T6.out R6.out (Nat.le_trans hn2 (by omega)) (Nat.le_trans hn6 (by omega)) rfl).mono ?_; rintro e w7 ⟨rfl, hb⟩
        have HB7 : Hid (Below w.heap.size w w7) := HB6.out.trans (hb.mono HB6.out.size)
        clear hb
        go_wp2
        go_ret
        exact ⟨rfl, HB7.out⟩


set_option maxRecDepth 20000 in
set_option maxHeartbeats 2000000 in
theorem law_sets (A : Option Addr) (n c : Nat) (xs : List Int) (w : World) (d v : Int) (hx : Sl I w w.heap.size A n xs) :
    Calls Try.prog 9 #[.slice A n c, .int .i64 d, .int .i64 v] w (Law w) := by
  by_cases h1 : n ≤ 20
  · have HX := Lib.hid hx
    by_cases hv : validB xs = true
    · by_cases hd : devB d = true
      · exact law_sets_in A n c xs w d v hx h1 hv hd
      · have hd' : devB d = false := by simpa using hd
        have cV : Hid (∀ W, Sl I W W.heap.size A n xs → Calls Try.prog 16 #[.slice A n c] W fun e w' => e = .returned (.bool true) ∧ W = w') := fun W h => by rw [← hv]; exact rvalid_n A n xs c W _ h (by omega)
        have cD : Hid (∀ W, Calls Try.prog 27 #[.int .i64 d] W fun e w' => e = .returned (.bool false) ∧ W = w') := fun W => by rw [← hd']; exact device_any d W
        have cS : Hid (Calls Try.prog 29 #[.slice A n c, .int .i64 d, .int .i64 v] w (Slc2 I ([] : List Int) 1 w)) := set_no A n xs c w HX.out (by omega) d v (by rw [hd', Bool.and_false, Bool.false_and])
        have cI : Hid (∀ W, Sl I W W.heap.size A n xs → Calls Try.prog 30 #[.slice A n c, .int .i64 d] W (Slc2 I ([] : List Int) 1 W)) := fun W h => inc_no A n xs c W h (by omega) d (by rw [hd', Bool.and_false])
        clear hx hv hd hd'
        go_enter Try.func9, Try.ntmps9
        go_wp2_with fail
        refine (few_n _ _ _ _).mono ?_; rintro e w' ⟨rfl, rfl⟩
        go_wp2_with fail
        refine cS.out.mono ?_; rintro e w1 ⟨A1, n1, c1, rfl, hc1, hs, hb⟩
        obtain rfl : 0 = n1 := hs.1
        clear hs
        have HB1 := Lib.hid hb
        have HX1 := Lib.hid (HX.out.on hb)
        clear hb
        go_wp2_with fail
        refine (cI.out _ HX1.out).mono ?_; rintro e w2 ⟨A2, n2, c2, rfl, hc2, hs, hb⟩
        obtain rfl : 0 = n2 := hs.1
        clear hs
        have HB2 : Hid (Below w.heap.size w w2) := HB1.out.trans (hb.mono HB1.out.size)
        have HX2 := Lib.hid (HX1.out.on hb)
        clear hb
        go_wp2_with fail
        refine (cV.out _ HX2.out).mono ?_; rintro e w' ⟨rfl, rfl⟩
        go_wp2_with fail
        refine (cD.out _).mono ?_; rintro e w' ⟨rfl, rfl⟩
        go_wp2_with fail
        refine (law_awake w _ HB2.out).mono ?_; rintro e w5 ⟨rfl, hb5⟩
        have HB5 := Lib.hid hb5
        clear hb5
        go_wp2
        go_ret
        exact ⟨rfl, HB5.out⟩

    · have hv' : validB xs = false := by simpa using hv
      have cV : Hid (∀ W, Sl I W W.heap.size A n xs → Calls Try.prog 16 #[.slice A n c] W fun e w' => e = .returned (.bool false) ∧ W = w') := fun W h => by rw [← hv']; exact rvalid_n A n xs c W _ h (by omega)
      have cS : Hid (Calls Try.prog 29 #[.slice A n c, .int .i64 d, .int .i64 v] w (Slc2 I ([] : List Int) 1 w)) := set_no A n xs c w HX.out (by omega) d v (by rw [hv']; rfl)
      have cI : Hid (∀ W, Sl I W W.heap.size A n xs → Calls Try.prog 30 #[.slice A n c, .int .i64 d] W (Slc2 I ([] : List Int) 1 W)) := fun W h => inc_no A n xs c W h (by omega) d (by rw [hv']; rfl)
      clear hx hv hv'
      go_enter Try.func9, Try.ntmps9
      go_wp2_with fail
      refine (few_n _ _ _ _).mono ?_; rintro e w' ⟨rfl, rfl⟩
      go_wp2_with fail
      refine cS.out.mono ?_; rintro e w1 ⟨A1, n1, c1, rfl, hc1, hs, hb⟩
      obtain rfl : 0 = n1 := hs.1
      clear hs
      have HB1 := Lib.hid hb
      have HX1 := Lib.hid (HX.out.on hb)
      clear hb
      go_wp2_with fail
      refine (cI.out _ HX1.out).mono ?_; rintro e w2 ⟨A2, n2, c2, rfl, hc2, hs, hb⟩
      obtain rfl : 0 = n2 := hs.1
      clear hs
      have HB2 : Hid (Below w.heap.size w w2) := HB1.out.trans (hb.mono HB1.out.size)
      have HX2 := Lib.hid (HX1.out.on hb)
      clear hb
      go_wp2_with fail
      refine (cV.out _ HX2.out).mono ?_; rintro e w' ⟨rfl, rfl⟩
      go_wp2_with fail
      refine (law_awake w _ HB2.out).mono ?_; rintro e w5 ⟨rfl, hb5⟩
      have HB5 := Lib.hid hb5
      clear hb5
      go_wp2
      go_ret
      exact ⟨rfl, HB5.out⟩
  · go_enter Try.func9, Try.ntmps9
    go_wp2_with (first
      | (go_at_call 13; refine (few_n _ _ _ _).mono ?_; rintro e w' ⟨rfl, rfl⟩)
      | (go_at_call 14; refine (law_awake w w (Below.refl _ _)).mono ?_; rintro e w2 ⟨rfl, hb2⟩))
    go_ret
    exact ⟨rfl, hb2⟩
end Go.Proofs.Ytalclofogengpaa
