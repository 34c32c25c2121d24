/- The law of meetings. -/
import Derived.Test.YtlnaakpcnhnccaaDoorZf
namespace Go.Proofs.YtlnaakpcnhnccaaDoor
open Go.RowKit Go.Lib
set_option linter.unusedVariables false
set_option linter.unusedSimpArgs false

theorem rvalid_n (A : Option Addr) (n : Nat) (xs : List Int) (c : Nat) (w : World) (B : Nat) (hx : Sl I w B A n xs) (hl : n ≤ 1000000) :
    Calls Tryd.prog 8 #[.slice A n c] w fun e w' => e = .returned (.bool (validB xs)) ∧ w = w' := by
  obtain ⟨rfl, hx⟩ := hx
  exact rvalid_any A xs c w B hx (by omega)
set_option maxRecDepth 100000 in
set_option maxHeartbeats 8000000 in
theorem meetings_any (p : Int) (A : Option Addr) (n c B : Nat) (xs : List Int) (k : Int) (w : World) (hG : Glob w) (hx : Sl I w B A n xs) (hc : n ≤ c) (hB : B ≤ w.heap.size) :
    Calls Tryd.prog 3 #[.int .i64 p, .slice A n c, .int .i64 k] w fun e w' => e = .returned (.bool true) ∧ Below w.heap.size w w' := by
  have HAw : Hid (∀ W, Below w.heap.size w W → Calls Tryd.prog 5 #[] W fun e w' => e = .returned (.bool true) ∧ Below W.heap.size W w') := fun W hb => awake_any W (hG.on hb)
  by_cases hn : n ≤ 20
  · have hnI : ¬ (20 : Int) < (n : Int) := by omega
    have HX := Lib.hid hx
    have HXN : Hid (xs.length = n) := hx.1
    have HB := Lib.hid hB
    have HC := Lib.hid (emeet_any p A n xs c w B hx hB (by omega))
    have HEn := Lib.hid (fun W => entry_one p W)
    have HVa : Hid (∀ W, Below w.heap.size w W → Calls Tryd.prog 8 #[.slice A n c] W fun e w' => e = .returned (.bool (validB xs)) ∧ W = w') := fun W hb => rvalid_n A n xs c W B (hx.up hb hB) (by omega)
    have HNo : Hid (∀ W, Below w.heap.size w W → Calls Tryd.prog 12 #[.slice A n c] W (Slc I (nrm xs) W)) := fun W hb => rnormal_any A n xs c W B (hx.up hb hB) (Nat.le_trans hB hb.size) (by omega) hc
    clear hx hG hB
    cases hpb : inB p
    · -- PART badp
      rw [hpb] at HEn
      have HPB := Lib.hid hpb
      have HCb : Hid (Calls Tryd.prog 6 #[.int .i64 p, .slice A n c] w fun e w' => e = .returned (.tuple #[.slice none 0 0, .int .i64 1]) ∧ Below w.heap.size w w') := HC.out.mono (fun e w' h => by
        rcases h with ⟨hok, _⟩ | ⟨_, h⟩
        · exact absurd hok (by rw [HPB.out]; simp)
        · exact h)
      clear HC
      clear hpb
      go_enter Tryd.func3, Tryd.ntmps3
      go_wp2_with (first
        | (go_at_call 6; (with_reducible refine HCb.out.mono ?_); rintro e w1 ⟨rfl, hb1⟩
           have HB1 := Lib.hid hb1
           clear hb1)
        | (go_at_call 7; (with_reducible refine (HEn.out _).mono ?_); rintro e w2 ⟨rfl, rfl⟩)
        | (go_at_call 5; (with_reducible refine (HAw.out _ HB1.out).mono ?_); rintro e w3 ⟨rfl, hb3⟩
           have HB3 : Hid (Below w.heap.size w w3) := HB1.out.trans (hb3.mono HB1.out.size)
           clear hb3))
      go_ret
      exact ⟨rfl, HB3.out⟩
      -- END badp
    · rw [hpb] at HEn
      have HPB := Lib.hid hpb
      obtain ⟨q, rfl⟩ : ∃ q : Nat, p = (q : Int) := ⟨p.toNat, by unfold inB at hpb; have := of_decide_eq_true hpb; omega⟩
      have hq : q ≤ 11 := by unfold inB at hpb; have := of_decide_eq_true hpb; omega
      clear hpb
      cases hv : validB xs
      · -- PART badv
        rw [hv] at HVa
        have HV := Lib.hid hv
        have HCb : Hid (Calls Tryd.prog 6 #[.int .i64 (q : Int), .slice A n c] w fun e w' => e = .returned (.tuple #[.slice none 0 0, .int .i64 1]) ∧ Below w.heap.size w w') := HC.out.mono (fun e w' h => by
          rcases h with ⟨hok, _⟩ | ⟨_, h⟩
          · exact absurd hok (by rw [HV.out]; simp)
          · exact h)
        clear HC
        clear hv
        go_enter Tryd.func3, Tryd.ntmps3
        go_wp2_with (first
          | (go_at_call 6; (with_reducible refine HCb.out.mono ?_); rintro e w1 ⟨rfl, hb1⟩
             have HB1 := Lib.hid hb1
             clear hb1)
          | (go_at_call 7; (with_reducible refine (HEn.out _).mono ?_); rintro e w2 ⟨rfl, rfl⟩)
          | (go_at_call 8; (with_reducible refine (HVa.out _ HB1.out).mono ?_); rintro e w2 ⟨rfl, rfl⟩)
          | (go_at_call 5; (with_reducible refine (HAw.out _ HB1.out).mono ?_); rintro e w3 ⟨rfl, hb3⟩
             have HB3 : Hid (Below w.heap.size w w3) := HB1.out.trans (hb3.mono HB1.out.size)
             clear hb3))
        go_ret
        exact ⟨rfl, HB3.out⟩
        -- END badv
      · rw [hv] at HVa
        have HV := Lib.hid hv
        have HRE : Hid (∀ W, Below w.heap.size w W → Calls Tryd.prog 10 #[.int .i64 (q : Int), .slice A n c] W (Slc fB ((q : Int) :: encV xs) W)) := fun W hb => remeet_any q A n xs c W B (HX.out.up hb HB.out) (Nat.le_trans HB.out hb.size) (by omega) hc hv hq
        obtain ⟨L, hL⟩ : ∃ L, L = (q : Int) :: encV xs := ⟨_, rfl⟩
        rw [← hL] at HRE
        have HLe := Lib.hid hL
        have HCo : Hid (Calls Tryd.prog 6 #[.int .i64 (q : Int), .slice A n c] w (Slc2 fB L 0 w)) := HC.out.mono (fun e w' h => by
          rcases h with ⟨_, h⟩ | ⟨hbad, _⟩
          · rw [← hL] at h; exact h
          · exact absurd hbad (by rw [HPB.out, HV.out]; decide))
        clear hv hL HC
        go_enter Tryd.func3, Tryd.ntmps3
        go_upto_region 6 with (first
          | (go_at_call 6; (with_reducible refine HCo.out.mono ?_); rintro e w1 ⟨A1, n1, c1, rfl, hc1, hs1, hb1⟩
             have HS1 := Lib.hid hs1
             have HB1 := Lib.hid hb1
             have HC1 := Lib.hid hc1
             clear hs1 hb1 hc1)
          | (go_at_call 7; (with_reducible refine (HEn.out _).mono ?_); rintro e w2 ⟨rfl, rfl⟩)
          | (go_at_call 8; (with_reducible refine (HVa.out _ HB1.out).mono ?_); rintro e w2 ⟨rfl, rfl⟩))
        -- KINDS
        by_cases hk : k = 9
        · -- PART nine
          subst hk
          have HD := Lib.hid (dmeet_enc q xs A1 n1 c1 w1.heap.size w1 (by rw [← HLe.out]; exact HS1.out) HC1.out (Nat.le_refl _) HV.out hq)
          go_upto_region 7 with (first
            | (go_at_call 9; (with_reducible refine HD.out.mono ?_); rintro e w4 ⟨A4, n4, c4, rfl, hc4, hs4, hb4⟩
               have HB14 := Lib.hid hb4
               have HS4 := Lib.hid hs4
               clear hb4 hs4))
          have HK : Hid (∀ w', Below w4.heap.size w4 w' → (convert 24 9 (.slice A1 n1 c1)).run Tryd.prog w' = .ok (.string (baOf L)) w') := fun w' hb => run_conv_sl (P := Tryd.prog) 24 5 9 Tryd.underlying24 Tryd.underlying5 Tryd.underlying9 w' w1.heap.size A1 n1 c1 L (HS1.out.up (HB14.out.trans (hb.mono HB14.out.size)) (Nat.le_refl _))
          have k0 := HK.out w4 (Below.refl _ _)
          have HB4 : Hid (Below w.heap.size w w4) := HB1.out.trans (HB14.out.mono HB1.out.size)
          have HRE4 : Hid (∀ W, Below w4.heap.size w4 W → Calls Tryd.prog 10 #[.int .i64 (q : Int), .slice A n c] W fun e w' => ∃ A' n' c', e = .returned (.slice A' n' c') ∧ Below w4.heap.size w4 w' ∧ (convert 24 9 (.slice A' n' c')).run Tryd.prog w' = .ok (.string (baOf L)) w') := fun W hb =>
            (HRE.out W (HB4.out.trans (hb.mono HB4.out.size))).mono (fun e w' h => by
              obtain ⟨A', n', c', h1, _, h3, h4⟩ := h
              exact ⟨A', n', c', h1, hb.trans (h4.mono hb.size), run_conv_sl (P := Tryd.prog) 24 5 9 Tryd.underlying24 Tryd.underlying5 Tryd.underlying9 w' w'.heap.size A' n' c' L h3⟩)
          have HBq : Hid (Below w4.heap.size w4 w4) := Below.refl _ _
          refine wp_region_held_drew (S := (fun w' => (convert 24 9 (.slice A1 n1 c1)).run Tryd.prog w' = .ok (.string (baOf L)) w')) (by kernel_rfl) (by first | exact HK.out _ HBq.out | exact HK.out _ (by repeat (first | exact Below.refl _ _ | exact HBq.out | refine Below.alloc ?_ (by simp <;> omega) _ | refine below_drewN' ?_ _ | refine below_drewN' (n := 1) ?_ _))) (fun hHeld => ?_)
          refine wpAnyH_take (i := 0) (v := ?nine0v) (by simp only [List.getElem?_toArray, List.getElem?_cons_zero]; rfl) (by kernel_rfl) (by kernel_rfl) (by kernel_rfl) (by exact fun _ _ _ h => h) (Or.inl ⟨by rfl, ?nine0y⟩) (by assumption) ?nine0r
          case nine0y => (intro w hSw; (try dsimp only at hSw); go_simp; try (with_reducible rfl))
          try simp only [Act.put, List.setIfInBounds_toArray, List.set_cons_zero, List.set_cons_succ]
          refine wpAnyH_take (i := 1) (v := ?nine1v) (by simp only [List.getElem?_toArray, List.getElem?_cons_succ, List.getElem?_cons_zero]; rfl) (by kernel_rfl) (by kernel_rfl) (by kernel_rfl) (by exact fun _ _ _ h => h) (Or.inl ⟨by rfl, ?nine1y⟩) (by assumption) ?nine1r
          case nine1y => (intro w hSw; (try dsimp only at hSw); go_simp; try (with_reducible rfl))
          try simp only [Act.put, List.setIfInBounds_toArray, List.set_cons_zero, List.set_cons_succ]
          refine wpAnyH_take (i := 2) (v := ?nine2v) (by simp only [List.getElem?_toArray, List.getElem?_cons_succ, List.getElem?_cons_zero]; rfl) (by kernel_rfl) (by kernel_rfl) (by kernel_rfl) (by exact fun _ _ _ h => h) (Or.inl ⟨by rfl, ?nine2y⟩) (by assumption) ?nine2r
          case nine2y => (intro w hSw; (try dsimp only at hSw); go_simp; try (with_reducible rfl))
          try simp only [Act.put, List.setIfInBounds_toArray, List.set_cons_zero, List.set_cons_succ]
          refine wpAnyH_take (i := 3) (v := ?nine3v) (by simp only [List.getElem?_toArray, List.getElem?_cons_succ, List.getElem?_cons_zero]; rfl) (by kernel_rfl) (by kernel_rfl) (by kernel_rfl) (by exact fun _ _ _ h => h) (Or.inl ⟨by rfl, ?nine3y⟩) (by assumption) ?nine3r
          case nine3y => (intro w hSw; (try dsimp only at hSw); go_simp; try (with_reducible rfl))
          try simp only [Act.put, List.setIfInBounds_toArray, List.set_cons_zero, List.set_cons_succ]
          refine wpAnyH_take (i := 4) (v := ?nine4v) (by simp only [List.getElem?_toArray, List.getElem?_cons_succ, List.getElem?_cons_zero]; rfl) (by kernel_rfl) (by kernel_rfl) (by kernel_rfl) (by exact fun _ _ _ h => h) (Or.inl ⟨by rfl, ?nine4y⟩) (by assumption) ?nine4r
          case nine4y => (intro w hSw; (try dsimp only at hSw); go_simp; try (with_reducible rfl))
          try simp only [Act.put, List.setIfInBounds_toArray, List.set_cons_zero, List.set_cons_succ]
          refine wpAnyH_take (i := 5) (v := ?nine5v) (by simp only [List.getElem?_toArray, List.getElem?_cons_succ, List.getElem?_cons_zero]; rfl) (by kernel_rfl) (by kernel_rfl) (by kernel_rfl) (by exact fun _ _ _ h => h) (Or.inl ⟨by rfl, ?nine5y⟩) (by assumption) ?nine5r
          case nine5y => (intro w hSw; (try dsimp only at hSw); go_simp; try (with_reducible rfl))
          try simp only [Act.put, List.setIfInBounds_toArray, List.set_cons_zero, List.set_cons_succ]
          refine wpAnyH_take (i := 6) (v := ?nine6v) (by simp only [List.getElem?_toArray, List.getElem?_cons_succ, List.getElem?_cons_zero]; rfl) (by kernel_rfl) (by kernel_rfl) (by kernel_rfl) (by exact fun _ _ _ h => h) (Or.inl ⟨by rfl, ?nine6y⟩) (by assumption) ?nine6r
          case nine6y => (intro w hSw; (try dsimp only at hSw); go_simp; try (with_reducible rfl))
          try simp only [Act.put, List.setIfInBounds_toArray, List.set_cons_zero, List.set_cons_succ]
          refine wpAnyH_ready (rs := [7]) (by kernel_rfl) (by simp) ?_
          refine AllReadyH.cons (by simp only [List.getElem?_toArray, List.getElem?_cons_succ, List.getElem?_cons_zero]; rfl) (fun K hK => ?_) (AllReadyH.nil)
          (go_simp; go_at_call 10; (refine (HRE4.out _ ?_).mono ?_); (exact (by repeat (first | exact Below.refl _ _ | exact HBq.out | refine Below.alloc ?_ (by simp <;> omega) _ | refine below_drewN' ?_ _ | refine below_drewN' (n := 1) ?_ _))); rintro e w9 ⟨A9, n9, c9, rfl, hb9, k9⟩; (have HBq : Hid (Below w4.heap.size w4 w9) := hb9); clear hb9; go_wp2_with fail)
          refine hK.out _ _ (by first | exact HK.out _ HBq.out | exact HK.out _ (by repeat (first | exact Below.refl _ _ | exact HBq.out | refine Below.alloc ?_ (by simp <;> omega) _ | refine below_drewN' ?_ _ | refine below_drewN' (n := 1) ?_ _))) (fun hHeldnine7 => ?_)
          clear hK K hHeld
          try simp only [Act.put, List.setIfInBounds_toArray, List.set_cons_zero, List.set_cons_succ]
          refine wpAnyH_ready (rs := [8]) (by kernel_rfl) (by simp) ?_
          refine AllReadyH.cons (by simp only [List.getElem?_toArray, List.getElem?_cons_succ, List.getElem?_cons_zero]; rfl) (fun K hK => ?_) (AllReadyH.nil)
          go_simp
          refine hK.out _ _ (by first | exact HK.out _ HBq.out | exact HK.out _ (by repeat (first | exact Below.refl _ _ | exact HBq.out | refine Below.alloc ?_ (by simp <;> omega) _ | refine below_drewN' ?_ _ | refine below_drewN' (n := 1) ?_ _))) (fun hHeldnine8 => ?_)
          clear hK K hHeldnine7
          try simp only [Act.put, List.setIfInBounds_toArray, List.set_cons_zero, List.set_cons_succ]
          refine wpAnyH_take (i := 9) (v := ?nine9v) (by simp only [List.getElem?_toArray, List.getElem?_cons_succ, List.getElem?_cons_zero]; rfl) (by kernel_rfl) (by kernel_rfl) (by kernel_rfl) (by exact fun _ _ _ h => h) (Or.inl ⟨by rfl, ?nine9y⟩) (by assumption) ?nine9r
          case nine9y => (intro w hSw; (try dsimp only at hSw); go_simp; try (with_reducible rfl))
          try simp only [Act.put, List.setIfInBounds_toArray, List.set_cons_zero, List.set_cons_succ]
          refine wpAnyH_take (i := 10) (v := ?nine10v) (by simp only [List.getElem?_toArray, List.getElem?_cons_succ, List.getElem?_cons_zero]; rfl) (by kernel_rfl) (by kernel_rfl) (by kernel_rfl) (by exact fun _ _ _ h => h) (Or.inl ⟨by rfl, ?nine10y⟩) (by assumption) ?nine10r
          case nine10y => (intro w hSw; (try dsimp only at hSw); go_simp; try (with_reducible rfl))
          try simp only [Act.put, List.setIfInBounds_toArray, List.set_cons_zero, List.set_cons_succ]
          refine wpAnyH_done (by kernel_rfl) ?_ _
          have HB9 : Hid (Below w.heap.size w w9) := HB4.out.trans (HBq.out.mono HB4.out.size)
          clear k0 k9
          go_wp2_with (first
            | (go_at_call 5; (with_reducible refine (HAw.out _ HB9.out).mono ?_); rintro e w10 ⟨rfl, hb10⟩
               have HB10 : Hid (Below w.heap.size w w10) := HB9.out.trans (hb10.mono HB9.out.size)
               have HB410 : Hid (Below w4.heap.size w4 w10) := HBq.out.trans (hb10.mono HBq.out.size)
               clear hb10)
            | (go_at_call 12; (with_reducible refine (HNo.out _ HB10.out).mono ?_); rintro e w11 ⟨A11, n11, c11, rfl, _, hs11, hb11⟩
               have HB11 : Hid (Below w.heap.size w w11) := HB10.out.trans (hb11.mono HB10.out.size)
               have hs4 : Sl I w11 w11.heap.size A4 n4 (nrm xs) := ((HS4.out.up (HB410.out.trans (hb11.mono HB410.out.size)) (Nat.le_refl _)).more' (HB410.out.trans (hb11.mono HB410.out.size)).size)
               have hl11 : n11 ≤ 1000000 := by
                 have h1 := nrm_len xs
                 have h2 := hs11.1
                 have h3 := HXN.out
                 omega
               have hl4 : n4 ≤ 1000000 := by
                 have h1 := nrm_len xs
                 have h2 := hs4.1
                 have h3 := HXN.out
                 omega
               have HIn := Lib.hid (ints_any A4 A11 n4 n11 (nrm xs) (nrm xs) c4 c11 w11 w11.heap.size hs4 hs11 hl4 hl11)
               clear hs11 hb11 hs4 hl11 hl4)
            | (go_at_call 11; (with_reducible refine HIn.out.mono ?_); rintro e w12 ⟨rfl, r12, rfl⟩))
          go_ret
          exact ⟨ret_bool (by simp), below_drewN' HB11.out _⟩
          -- END nine
        · -- PART other
          have HD := Lib.hid (dmeet_no k A1 n1 c1 w1 hk)
          go_upto_region 7 with (first
            | (go_at_call 9; (with_reducible refine HD.out.mono ?_); rintro e w4 ⟨rfl, hb4⟩
               have HB14 := Lib.hid hb4
               clear hb4))
          have HK : Hid (∀ w', Below w4.heap.size w4 w' → (convert 24 9 (.slice A1 n1 c1)).run Tryd.prog w' = .ok (.string (baOf L)) w') := fun w' hb => run_conv_sl (P := Tryd.prog) 24 5 9 Tryd.underlying24 Tryd.underlying5 Tryd.underlying9 w' w1.heap.size A1 n1 c1 L (HS1.out.up (HB14.out.trans (hb.mono HB14.out.size)) (Nat.le_refl _))
          have k0 := HK.out w4 (Below.refl _ _)
          have HB4 : Hid (Below w.heap.size w w4) := HB1.out.trans (HB14.out.mono HB1.out.size)
          have HRE4 : Hid (∀ W, Below w4.heap.size w4 W → Calls Tryd.prog 10 #[.int .i64 (q : Int), .slice A n c] W fun e w' => ∃ A' n' c', e = .returned (.slice A' n' c') ∧ Below w4.heap.size w4 w' ∧ (convert 24 9 (.slice A' n' c')).run Tryd.prog w' = .ok (.string (baOf L)) w') := fun W hb =>
            (HRE.out W (HB4.out.trans (hb.mono HB4.out.size))).mono (fun e w' h => by
              obtain ⟨A', n', c', h1, _, h3, h4⟩ := h
              exact ⟨A', n', c', h1, hb.trans (h4.mono hb.size), run_conv_sl (P := Tryd.prog) 24 5 9 Tryd.underlying24 Tryd.underlying5 Tryd.underlying9 w' w'.heap.size A' n' c' L h3⟩)
          have HBq : Hid (Below w4.heap.size w4 w4) := Below.refl _ _
          refine wp_region_held_drew (S := (fun w' => (convert 24 9 (.slice A1 n1 c1)).run Tryd.prog w' = .ok (.string (baOf L)) w')) (by kernel_rfl) (by first | exact HK.out _ HBq.out | exact HK.out _ (by repeat (first | exact Below.refl _ _ | exact HBq.out | refine Below.alloc ?_ (by simp <;> omega) _ | refine below_drewN' ?_ _ | refine below_drewN' (n := 1) ?_ _))) (fun hHeld => ?_)
          refine wpAnyH_take (i := 0) (v := ?other0v) (by simp only [List.getElem?_toArray, List.getElem?_cons_zero]; rfl) (by kernel_rfl) (by kernel_rfl) (by kernel_rfl) (by exact fun _ _ _ h => h) (Or.inl ⟨by rfl, ?other0y⟩) (by assumption) ?other0r
          case other0y => (intro w hSw; (try dsimp only at hSw); go_simp; try (with_reducible rfl))
          try simp only [Act.put, List.setIfInBounds_toArray, List.set_cons_zero, List.set_cons_succ]
          refine wpAnyH_take (i := 1) (v := ?other1v) (by simp only [List.getElem?_toArray, List.getElem?_cons_succ, List.getElem?_cons_zero]; rfl) (by kernel_rfl) (by kernel_rfl) (by kernel_rfl) (by exact fun _ _ _ h => h) (Or.inl ⟨by rfl, ?other1y⟩) (by assumption) ?other1r
          case other1y => (intro w hSw; (try dsimp only at hSw); go_simp; try (with_reducible rfl))
          try simp only [Act.put, List.setIfInBounds_toArray, List.set_cons_zero, List.set_cons_succ]
          refine wpAnyH_take (i := 2) (v := ?other2v) (by simp only [List.getElem?_toArray, List.getElem?_cons_succ, List.getElem?_cons_zero]; rfl) (by kernel_rfl) (by kernel_rfl) (by kernel_rfl) (by exact fun _ _ _ h => h) (Or.inl ⟨by rfl, ?other2y⟩) (by assumption) ?other2r
          case other2y => (intro w hSw; (try dsimp only at hSw); go_simp; try (with_reducible rfl))
          try simp only [Act.put, List.setIfInBounds_toArray, List.set_cons_zero, List.set_cons_succ]
          refine wpAnyH_take (i := 3) (v := ?other3v) (by simp only [List.getElem?_toArray, List.getElem?_cons_succ, List.getElem?_cons_zero]; rfl) (by kernel_rfl) (by kernel_rfl) (by kernel_rfl) (by exact fun _ _ _ h => h) (Or.inl ⟨by rfl, ?other3y⟩) (by assumption) ?other3r
          case other3y => (intro w hSw; (try dsimp only at hSw); go_simp; try (with_reducible rfl))
          try simp only [Act.put, List.setIfInBounds_toArray, List.set_cons_zero, List.set_cons_succ]
          refine wpAnyH_take (i := 4) (v := ?other4v) (by simp only [List.getElem?_toArray, List.getElem?_cons_succ, List.getElem?_cons_zero]; rfl) (by kernel_rfl) (by kernel_rfl) (by kernel_rfl) (by exact fun _ _ _ h => h) (Or.inl ⟨by rfl, ?other4y⟩) (by assumption) ?other4r
          case other4y => (intro w hSw; (try dsimp only at hSw); go_simp; try (with_reducible rfl))
          try simp only [Act.put, List.setIfInBounds_toArray, List.set_cons_zero, List.set_cons_succ]
          refine wpAnyH_take (i := 5) (v := ?other5v) (by simp only [List.getElem?_toArray, List.getElem?_cons_succ, List.getElem?_cons_zero]; rfl) (by kernel_rfl) (by kernel_rfl) (by kernel_rfl) (by exact fun _ _ _ h => h) (Or.inl ⟨by rfl, ?other5y⟩) (by assumption) ?other5r
          case other5y => (intro w hSw; (try dsimp only at hSw); go_simp; try (with_reducible rfl))
          try simp only [Act.put, List.setIfInBounds_toArray, List.set_cons_zero, List.set_cons_succ]
          refine wpAnyH_take (i := 6) (v := ?other6v) (by simp only [List.getElem?_toArray, List.getElem?_cons_succ, List.getElem?_cons_zero]; rfl) (by kernel_rfl) (by kernel_rfl) (by kernel_rfl) (by exact fun _ _ _ h => h) (Or.inl ⟨by rfl, ?other6y⟩) (by assumption) ?other6r
          case other6y => (intro w hSw; (try dsimp only at hSw); go_simp; try (with_reducible rfl))
          try simp only [Act.put, List.setIfInBounds_toArray, List.set_cons_zero, List.set_cons_succ]
          refine wpAnyH_ready (rs := [7]) (by kernel_rfl) (by simp) ?_
          refine AllReadyH.cons (by simp only [List.getElem?_toArray, List.getElem?_cons_succ, List.getElem?_cons_zero]; rfl) (fun K hK => ?_) (AllReadyH.nil)
          (go_simp; go_at_call 10; (refine (HRE4.out _ ?_).mono ?_); (exact (by repeat (first | exact Below.refl _ _ | exact HBq.out | refine Below.alloc ?_ (by simp <;> omega) _ | refine below_drewN' ?_ _ | refine below_drewN' (n := 1) ?_ _))); rintro e w9 ⟨A9, n9, c9, rfl, hb9, k9⟩; (have HBq : Hid (Below w4.heap.size w4 w9) := hb9); clear hb9; go_wp2_with fail)
          refine hK.out _ _ (by first | exact HK.out _ HBq.out | exact HK.out _ (by repeat (first | exact Below.refl _ _ | exact HBq.out | refine Below.alloc ?_ (by simp <;> omega) _ | refine below_drewN' ?_ _ | refine below_drewN' (n := 1) ?_ _))) (fun hHeldother7 => ?_)
          clear hK K hHeld
          try simp only [Act.put, List.setIfInBounds_toArray, List.set_cons_zero, List.set_cons_succ]
          refine wpAnyH_ready (rs := [8]) (by kernel_rfl) (by simp) ?_
          refine AllReadyH.cons (by simp only [List.getElem?_toArray, List.getElem?_cons_succ, List.getElem?_cons_zero]; rfl) (fun K hK => ?_) (AllReadyH.nil)
          go_simp
          refine hK.out _ _ (by first | exact HK.out _ HBq.out | exact HK.out _ (by repeat (first | exact Below.refl _ _ | exact HBq.out | refine Below.alloc ?_ (by simp <;> omega) _ | refine below_drewN' ?_ _ | refine below_drewN' (n := 1) ?_ _))) (fun hHeldother8 => ?_)
          clear hK K hHeldother7
          try simp only [Act.put, List.setIfInBounds_toArray, List.set_cons_zero, List.set_cons_succ]
          refine wpAnyH_take (i := 9) (v := ?other9v) (by simp only [List.getElem?_toArray, List.getElem?_cons_succ, List.getElem?_cons_zero]; rfl) (by kernel_rfl) (by kernel_rfl) (by kernel_rfl) (by exact fun _ _ _ h => h) (Or.inl ⟨by rfl, ?other9y⟩) (by assumption) ?other9r
          case other9y => (intro w hSw; (try dsimp only at hSw); go_simp; try (with_reducible rfl))
          try simp only [Act.put, List.setIfInBounds_toArray, List.set_cons_zero, List.set_cons_succ]
          refine wpAnyH_take (i := 10) (v := ?other10v) (by simp only [List.getElem?_toArray, List.getElem?_cons_succ, List.getElem?_cons_zero]; rfl) (by kernel_rfl) (by kernel_rfl) (by kernel_rfl) (by exact fun _ _ _ h => h) (Or.inl ⟨by rfl, ?other10y⟩) (by assumption) ?other10r
          case other10y => (intro w hSw; (try dsimp only at hSw); go_simp; try (with_reducible rfl))
          try simp only [Act.put, List.setIfInBounds_toArray, List.set_cons_zero, List.set_cons_succ]
          refine wpAnyH_done (by kernel_rfl) ?_ _
          have HB9 : Hid (Below w.heap.size w w9) := HB4.out.trans (HBq.out.mono HB4.out.size)
          clear k0 k9
          go_wp2_with (first
            | (go_at_call 5; (with_reducible refine (HAw.out _ HB9.out).mono ?_); rintro e w10 ⟨rfl, hb10⟩
               have HB10 : Hid (Below w.heap.size w w10) := HB9.out.trans (hb10.mono HB9.out.size)
               have HB410 : Hid (Below w4.heap.size w4 w10) := HBq.out.trans (hb10.mono HBq.out.size)
               clear hb10))
          go_ret
          exact ⟨rfl, HB10.out⟩
          -- END other
  · have hnI : (20 : Int) < (n : Int) := by omega
    clear hx hG
    go_enter Tryd.func3, Tryd.ntmps3
    go_wp2_with (first
      | (go_at_call 5; (with_reducible refine (HAw.out _ (Below.refl _ _)).mono ?_); rintro e w1 ⟨rfl, hb1⟩
         have HB1 := Lib.hid hb1
         clear hb1))
    go_ret
    exact ⟨rfl, HB1.out⟩
end Go.Proofs.YtlnaakpcnhnccaaDoor
