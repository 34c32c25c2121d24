/- The walk of the law Extends. -/
import Derived.Test.YtalclofogengpaaLwG
import Derived.Test.YtalclofogengpaaVvD
namespace Go.Proofs.Ytalclofogengpaa
open Go.RowKit

/-- What Extend hands back, as the law's walk wants it: an error number and a list. -/
def EP (xs : List Int) (rs : List Rg) (r : Int) (Z : List Int) : Prop :=
  ((validB xs && rs.all rgB) = false ∧ r = 1 ∧ Z = []) ∨ ((validB xs && rs.all rgB) = true ∧ extT (pad xs) rs rs.length = none ∧ r = 6 ∧ Z = []) ∨
    ((validB xs && rs.all rgB) = true ∧ ∃ y, extT (pad xs) rs rs.length = some y ∧ r = 0 ∧ Z = nrm y)
theorem ext_ep {A A' : Option Addr} {n n' c c' : Nat} {xs : List Int} {rs : List Rg} {w : World} (h : Calls Try.prog 26 #[.slice A n c, .slice A' n' c'] w (ExtPost xs rs w)) :
    Calls Try.prog 26 #[.slice A n c, .slice A' n' c'] w (fun e w' => ∃ r Z A1 n1 c1, e = .returned (.tuple #[.slice A1 n1 c1, .int .i64 r]) ∧ Hid (EP xs rs r Z) ∧ Sl I w' w'.heap.size A1 n1 Z ∧ Below w.heap.size w w') :=
  h.mono fun e w' hh => by
    rcases hh with ⟨h0, A1, n1, c1, rfl, _, h1, h2⟩ | ⟨h0, h3, A1, n1, c1, rfl, _, h1, h2⟩ | ⟨h0, y, h3, A1, n1, c1, rfl, _, h1, h2⟩
    · exact ⟨1, [], A1, n1, c1, rfl, .inl ⟨h0, rfl, rfl⟩, h1, h2⟩
    · exact ⟨6, [], A1, n1, c1, rfl, .inr (.inl ⟨h0, h3, rfl, rfl⟩), h1, h2⟩
    · exact ⟨0, nrm y, A1, n1, c1, rfl, .inr (.inr ⟨h0, y, h3, rfl, rfl⟩), h1, h2⟩
theorem EP.bad {xs : List Int} {rs : List Rg} {r : Int} {Z : List Int} (h : EP xs rs r Z) (h0 : (validB xs && rs.all rgB) = false) : r = 1 ∧ Z = [] := by
  rcases h with ⟨_, h1⟩ | ⟨h1, _⟩ | ⟨h1, _⟩
  · exact h1
  · rw [h0] at h1; cases h1
  · rw [h0] at h1; cases h1
theorem EP.gap {xs : List Int} {rs : List Rg} {r : Int} {Z : List Int} (h : EP xs rs r Z) (h0 : (validB xs && rs.all rgB) = true) (h3 : extT (pad xs) rs rs.length = none) : r = 6 ∧ Z = [] := by
  rcases h with ⟨h1, _⟩ | ⟨_, _, h1⟩ | ⟨_, y, h1, _⟩
  · rw [h0] at h1; cases h1
  · exact h1
  · rw [h3] at h1; cases h1
theorem EP.ok {xs : List Int} {rs : List Rg} {r : Int} {Z y : List Int} (h : EP xs rs r Z) (h0 : (validB xs && rs.all rgB) = true) (h3 : extT (pad xs) rs rs.length = some y) : r = 0 ∧ Z = nrm y := by
  rcases h with ⟨h1, _⟩ | ⟨_, h1, _⟩ | ⟨_, y', h1, h2⟩
  · rw [h0] at h1; cases h1
  · rw [h3] at h1; cases h1
  · rw [h3] at h1; cases h1; exact h2
theorem nrm_set (y : List Int) (hy : y.length = 12) (k : Nat) (hk : k < 12) (v : Int) : nrm ((pad (nrm y)).set k v) = nrm (y.set k v) := by
  have h1 : (pad (nrm y)).length = 12 := pad_len (by have := nrm_len' y; omega)
  refine nrm_congr fun j => ?_
  rw [set_getD _ _ _ _ (by omega), set_getD _ _ _ _ (by omega), pad_getD, nrm_getD]

set_option maxRecDepth 20000 in
set_option maxHeartbeats 4000000 in
theorem law_extends (A : Option Addr) (n c : Nat) (xs : List Int) (A' : Option Addr) (n' c' : Nat) (rs : List Rg) (w : World) (hx : Sl I w w.heap.size A n xs) (hcap : n ≤ c) (hr : SlN fR 3 w w.heap.size A' n' rs) :
    Calls Try.prog 7 #[.slice A n c, .slice A' n' c'] w (Law w) := by
  have HX := Lib.hid hx
  have HR := Lib.hid hr
  have HLN : Hid (rs.length = n') := hr.1
  clear hx hr
  by_cases h1 : n ≤ 20
  · by_cases h2 : n' ≤ 20
    · have cV : Hid (∀ W, Sl I W W.heap.size A n xs → Calls Try.prog 16 #[.slice A n c] W fun e w' => e = .returned (.bool (validB xs)) ∧ W = w') := fun W h => rvalid_n A n xs c W _ h (by omega)
      have hg2 : decide ((20 : Int) < (n' : Int)) = false := by simp; omega
      go_enter Try.func7, Try.ntmps7
      go_wp2_with (go_at_call 13; refine (few_n _ _ _ _).mono ?_; rintro e w' ⟨rfl, rfl⟩)
      refine (ext_ep (vextend_any A n xs c A' n' rs c' w _ HX.out HR.out (Nat.le_refl _) (by omega) (by omega))).mono ?_; rintro e w1 ⟨r, Z, A1, n1, c1, rfl, HEP, hs, hb⟩
      have HB1 := Lib.hid hb
      have HX1 := Lib.hid (HX.out.on hb)
      have HR1 := Lib.hid (HR.out.up hb (Nat.le_refl _))
      have S1 := Lib.hid hs
      clear hs hb hg2
      obtain ⟨v0, hv0⟩ : ∃ v0, validB xs = v0 := ⟨_, rfl⟩
      have HV0 := Lib.hid hv0
      rw [hv0] at cV
      clear hv0
      go_wp2_with fail
      refine (cV.out _ HX1.out).mono ?_; rintro e w' ⟨rfl, rfl⟩
      go_wp2
      go_loopw [7, 8] (fun o i wr => ∃ (k : Nat) (b : Bool), k ≤ n' ∧ i = .int .i64 k ∧ o = .bool b ∧ Hid (b = (validB xs && (rs.take k).all rgB)) ∧ Hid (Below w1.heap.size w1 wr)) (fun _ i _ => n' - (intOf i).toNat)
      case atStart => exact ⟨0, v0, Nat.zero_le _, rfl, rfl, by show _ = _; simp [HV0.out], Below.refl _ _⟩
      case round =>
        obtain ⟨k, b, hk, rfl, rfl, HBB, HBr⟩ := hrel
        have hbr := HBr.out.size
        by_cases hlt : k < n'
        · obtain ⟨bb, off, rg, rfl, hbB, hrk, hc⟩ := (HR1.out.up HBr.out HB1.out.size).at_ hlt
          obtain ⟨d, f, t⟩ := rg
          have d0 := hc 0 _ rfl
          have d1 := hc 1 _ rfl
          have d2 := hc 2 _ rfl
          simp only [Nat.add_zero] at d0
          rw [← Nat.add_assoc] at d1 d2
          obtain ⟨bd, hbd⟩ : ∃ x, x = devB d := ⟨_, rfl⟩
          have HK : Hid ((b && (bd && (decide (1 ≤ f) && (decide (f ≤ t) && decide (t ≤ 1099511627776))))) = (validB xs && (rs.take (k + 1)).all rgB)) := by
            show _ = _
            rw [take_snoc hrk, List.all_append, HBB.out, hbd]
            simp [rgB, Bool.and_assoc]
          have cD : Hid (∀ W, Calls Try.prog 27 #[.int .i64 d] W fun e w' => e = .returned (.bool bd) ∧ W = w') := fun W => by rw [hbd]; exact device_any d W
          clear hc hrk hbd HBB
          cases b
          · go_wp2
            go_quiet ((go_at_call 27; with_reducible exact Calls.quiet_of_same (same_of (cD.out _))))
            go_wp2
            go_roundw
            case rel => exact ⟨k + 1, false, by omega, by go_num, rfl, by show _ = _; rw [← HK.out]; rfl, below_drewN HBr.out _⟩
            case measure => simp [intOf]; omega
          · cases bd
            · go_wp2
              go_quiet ((go_at_call 27; with_reducible exact Calls.quiet_of_same (same_of (cD.out _))))
              go_wp2
              go_roundw
              case rel => exact ⟨k + 1, false, by omega, by go_num, rfl, by show _ = _; rw [← HK.out]; rfl, below_drewN HBr.out _⟩
              case measure => simp [intOf]; omega
            · by_cases gh1 : (1 : Int) ≤ f
              · have dh1 : decide ((1 : Int) ≤ f) = true := decide_eq_true gh1
                by_cases gh2 : f ≤ t
                · have dh2 : decide (f ≤ t) = true := decide_eq_true gh2
                  by_cases gh3 : t ≤ 1099511627776
                  · have dh3 : decide (t ≤ 1099511627776) = true := decide_eq_true gh3
                    go_wp2
                    go_quiet ((go_at_call 27; with_reducible exact Calls.quiet_of_same (same_of (cD.out _))))
                    go_wp2
                    go_roundw
                    case rel => exact ⟨k + 1, true, by omega, by go_num, rfl, by show _ = _; rw [← HK.out, dh1, dh2, dh3]; rfl, below_drewN HBr.out _⟩
                    case measure => simp [intOf]; omega
                  · have dh3 : decide (t ≤ 1099511627776) = false := decide_eq_false gh3
                    go_wp2
                    go_quiet ((go_at_call 27; with_reducible exact Calls.quiet_of_same (same_of (cD.out _))))
                    go_wp2
                    go_roundw
                    case rel => exact ⟨k + 1, false, by omega, by go_num, rfl, by show _ = _; rw [← HK.out, dh1, dh2, dh3]; rfl, below_drewN HBr.out _⟩
                    case measure => simp [intOf]; omega
                · have dh2 : decide (f ≤ t) = false := decide_eq_false gh2
                  go_wp2
                  go_quiet ((go_at_call 27; with_reducible exact Calls.quiet_of_same (same_of (cD.out _))))
                  go_wp2
                  go_roundw
                  case rel => exact ⟨k + 1, false, by omega, by go_num, rfl, by show _ = _; rw [← HK.out, dh1, dh2]; rfl, below_drewN HBr.out _⟩
                  case measure => simp [intOf]; omega
              · have dh1 : decide ((1 : Int) ≤ f) = false := decide_eq_false gh1
                go_wp2
                go_quiet ((go_at_call 27; with_reducible exact Calls.quiet_of_same (same_of (cD.out _))))
                go_wp2
                go_roundw
                case rel => exact ⟨k + 1, false, by omega, by go_num, rfl, by show _ = _; rw [← HK.out, dh1]; rfl, below_drewN HBr.out _⟩
                case measure => simp [intOf]; omega
        · obtain rfl : k = n' := by omega
          have HALL : Hid (b = (validB xs && rs.all rgB)) := by show _ = _; rw [HBB.out, List.take_of_length_le (by rw [HLN.out]; omega)]
          clear HBB
          have HBw : Hid (Below w.heap.size w wr) := HB1.out.trans (HBr.out.mono HB1.out.size)
          cases b
          · obtain ⟨h3, h4⟩ := HEP.out.bad HALL.out.symm
            subst h3 h4
            obtain rfl : 0 = n1 := S1.out.1
            clear S1 HALL HEP
            go_wp2_with fail
            refine (law_awake w wr HBw.out).mono ?_; rintro e w3 ⟨rfl, hb3⟩
            have HB3 := Lib.hid hb3
            clear hb3
            go_wp2
            go_ret
            exact ⟨rfl, HB3.out⟩
          · have HOK : Hid ((validB xs && rs.all rgB) = true) := HALL.out.symm
            have hboth := HOK.out
            simp only [Bool.and_eq_true] at hboth
            have HV : Hid (validB xs = true) := hboth.1
            have HRA : Hid (rs.all rgB = true) := hboth.2
            clear hboth HALL
            have HX3 := Lib.hid (HX1.out.on HBr.out)
            have S3 := Lib.hid (S1.out.on HBr.out)
            have HPL := Lib.hid (pad_len_of HV.out)
            have HPR := Lib.hid (pad_inR HV.out)
            have HNP := Lib.hid (nrm_pad (valid_len HV.out))
            go_wp2_with fail
            refine (rnormal_any _ _ xs _ _ _ HX3.out (Nat.le_refl _) (by omega) hcap).mono ?_; rintro e w4 ⟨A4, n4, c4, rfl, hc4, hs, hb⟩
            have HB4 : Hid (Below w.heap.size w w4) := HBw.out.trans (hb.mono HBw.out.size)
            have S4 := Lib.hid (S3.out.on hb)
            have T4 : Hid (Sl I w4 w4.heap.size A4 n4 (nrm (pad xs))) := by show Sl _ _ _ _ _ _; rw [HNP.out]; exact hs
            clear hs hb
            go_wp2
            obtain ⟨wo, rfl⟩ : ∃ wo : World, wo = wr := ⟨_, rfl⟩
            go_loopw [9, 10] (fun p i wq => ∃ (m n9 c9 : Nat) (A9 : Option Addr) (y : List Int), m ≤ k ∧ i = .int .i64 m ∧ p = .slice A9 n9 c9 ∧ Hid (extT (pad xs) rs m = some y) ∧ Hid (y.length = 12) ∧ Hid (y.all inR = true) ∧ Hid (Sl I wq wq.heap.size A9 n9 (nrm y)) ∧ Hid (Below w4.heap.size w4 wq)) (fun _ i _ => k - (intOf i).toNat)
            case atStart => exact ⟨0, n4, c4, A4, pad xs, Nat.zero_le _, rfl, rfl, rfl, HPL, HPR, T4, Below.refl _ _⟩
            case round =>
              obtain ⟨m, n9, c9, A9, y, hm, rfl, rfl, HE, HYL, HYR, HS, HBq⟩ := hrel
              have hn9 : n9 ≤ 12 := by rw [← HS.out.1, ← HYL.out]; exact nrm_len' y
              by_cases hlt : m < k
              · have HBz : Hid (Below w.heap.size w wr) := HB4.out.trans (HBq.out.mono HB4.out.size)
                obtain ⟨bb, off, rg, rfl, hbB, hrk, hc⟩ := (HR.out.up HBz.out (Nat.le_refl _)).at_ hlt
                have hrr := List.all_eq_true.1 HRA.out _ (List.mem_of_getElem? hrk)
                obtain ⟨d, f, t⟩ := rg
                simp only [rgB, devB, Bool.and_eq_true, decide_eq_true_eq] at hrr
                obtain ⟨⟨hd0, hd1⟩, hf1, hft, ht⟩ := hrr
                obtain ⟨q, rfl⟩ : ∃ q : Nat, d = q := ⟨d.toNat, by omega⟩
                have hq : q < 12 := by omega
                have d0 := hc 0 _ rfl
                have d1 := hc 1 _ rfl
                have d2 := hc 2 _ rfl
                simp only [Nat.add_zero] at d0
                rw [← Nat.add_assoc] at d1 d2
                obtain ⟨z, hz⟩ : ∃ z, y.getD q 0 = z := ⟨_, rfl⟩
                have hzb := inR_getD HYR.out q
                rw [hz] at hzb
                obtain ⟨hz0, hz1⟩ := hzb
                have HES : Hid (extT (pad xs) rs (m + 1) = if z + 1 < f then none else some (y.set q (max z t))) := by
                  show _ = _
                  rw [extT, HE.out, Option.bind_some, hrk, Option.bind_some]
                  simp only [extS, Int.toNat_natCast, hz]
                have hwz : IntKind.i64.wrap (z + 1) = z + 1 := IntWalk.i64_in _ (by omega)
                have hgv : gv (nrm y) q = z := by rw [gv_nat, nrm_getD, hz]
                have cG : Hid (∀ W, Sl I W wr.heap.size A9 n9 (nrm y) → Calls Try.prog 19 #[.slice A9 n9 c9, .int .i64 q] W fun e w' => e = .returned (.int .i64 z) ∧ W = w') := fun W h => by rw [← hgv]; exact rget_any A9 n9 (nrm y) c9 q W _ h (by omega)
                have HSq : Hid (∀ a, Sl I (wr.drewN a) wr.heap.size A9 n9 (nrm y)) := fun a => HS.out
                clear hc hrk hz hgv
                by_cases hgap : z + 1 < f
                · have HN : Hid (extT (pad xs) rs rs.length = none) := by
                    have h1 : extT (pad xs) rs (m + 1) = none := by rw [HES.out, if_pos hgap]
                    have h2 := extT_none h1 (k - (m + 1))
                    show _ = _
                    rw [HLN.out]
                    rwa [show m + 1 + (k - (m + 1)) = k by omega] at h2
                  obtain ⟨h3, h4⟩ := HEP.out.gap HOK.out HN.out
                  subst h3 h4
                  obtain rfl : 0 = n1 := S1.out.1
                  clear S1 S3 S4 HEP
                  go_wp2
                  go_quiet ((go_at_call 19; with_reducible exact Calls.quiet_of_same (same_of (cG.out _ (HSq.out _)))))
                  go_wp2_with fail
                  refine (law_awake w _ (below_drewN HBz.out _)).mono ?_; rintro e w5 ⟨rfl, hb5⟩
                  have HB5 := Lib.hid hb5
                  clear hb5
                  go_wp2
                  go_ret
                  exact ⟨rfl, HB5.out⟩
                · obtain ⟨u, hu⟩ : ∃ u, (if z < t then t else z) = u := ⟨_, rfl⟩
                  have HU : Hid (max z t = u) := by show _ = _; rw [← hu]; split <;> omega
                  have HUR : Hid (inR u = true) := by show _ = _; rw [← HU.out]; simp [inR]; omega
                  have HES3 : Hid (extT (pad xs) rs (m + 1) = some (y.set q u)) := by show _ = _; rw [HES.out, if_neg hgap, HU.out]
                  go_wp2
                  go_quiet ((go_at_call 19; with_reducible exact Calls.quiet_of_same (same_of (cG.out _ (HSq.out _)))))
                  go_wp2
                  obtain ⟨W, hW⟩ : ∃ W : World, W = wr.drewN nq := ⟨_, rfl⟩
                  have e0 : W.cell? ⟨bb, off + m * 3, none⟩ = some (.int .i64 q) := by rw [hW]; exact d0
                  have e2 : W.cell? ⟨bb, off + m * 3 + 2, none⟩ = some (.int .i64 t) := by rw [hW]; exact d2
                  have HSW : Hid (Sl I W wr.heap.size A9 n9 (nrm y)) := by rw [hW]; exact HSq.out _
                  have hsz : wr.heap.size = W.heap.size := by rw [hW]; rfl
                  have HSd : Hid (Sl I W.drew W.drew.heap.size A9 n9 (nrm y)) := by show Sl I W W.heap.size _ _ _; rw [← hsz]; exact HSW.out
                  have HBd : Hid (Below w4.heap.size w4 W) := by rw [hW]; exact below_drewN HBq.out _
                  rw [← hW]
                  clear hW d0 d1 d2
                  go_still_tail 19, (by kernel_rfl)
                  still_call (same_of (cG.out _ HSW.out))
                  repeat still_step
                  refine wpStill_nil ?_
                  change wpList _ _ _ _ _ W.drew
                  go_wp2_with fail
                  refine (rset_any _ _ (nrm y) _ W.drew _ HSd.out (Nat.le_refl _) hn9 q u (by omega) (by omega)).mono ?_; rintro e w6 ⟨A6, n6, c6, rfl, hc6, hs, hb⟩
                  rw [Int.toNat_natCast, nrm_set y HYL.out q hq] at hs
                  have HS6 := Lib.hid hs
                  have HB6 : Hid (Below w4.heap.size w4 w6) := (HBd.out.drew).trans (hb.mono HBd.out.size)
                  clear hs hb
                  go_wp2
                  go_roundw
                  case rel => exact ⟨m + 1, n6, c6, A6, y.set q u, by omega, by go_num, rfl, HES3, by show _ = _; rw [List.length_set]; exact HYL.out, set_inR HYR.out q HUR.out, HS6, HB6⟩
                  case measure => simp [intOf]; omega
              · obtain rfl : m = k := by omega
                obtain ⟨h3, h4⟩ := HEP.out.ok HOK.out (y := y) (by rw [HLN.out]; exact HE.out)
                subst h3 h4
                have hn1 : n1 ≤ 12 := by rw [← S1.out.1, ← HYL.out]; exact nrm_len' y
                have HBz : Hid (Below w.heap.size w wr) := HB4.out.trans (HBq.out.mono HB4.out.size)
                have S5 := Lib.hid (S4.out.on HBq.out)
                clear HEP S1 S3 S4
                go_wp2_with fail
                refine (awake_any wr).mono ?_; rintro e w6 ⟨rfl, hb⟩
                have HB6 : Hid (Below w.heap.size w w6) := HBz.out.trans (hb.mono HBz.out.size)
                have S6 := Lib.hid (S5.out.on hb)
                have T6 := Lib.hid (HS.out.on hb)
                clear hb
                go_wp2_with fail
                refine (ints_eq _ _ _ _ (nrm y) (nrm y) _ _ _ S6.out T6.out (by omega) (by omega) rfl).mono ?_; rintro e w7 ⟨rfl, hb⟩
                have HB7 : Hid (Below w.heap.size w w7) := HB6.out.trans (hb.mono HB6.out.size)
                clear hb
                go_wp2
                go_ret
                exact ⟨rfl, HB7.out⟩
    · have hg2 : decide ((20 : Int) < (n' : Int)) = true := by simp; omega
      go_enter Try.func7, Try.ntmps7
      go_wp2_with (first
        | (go_at_call 13; refine (few_n _ _ _ _).mono ?_; rintro e w' ⟨rfl, rfl⟩)
        | (go_at_call 14; refine (law_awake w w (Below.refl _ _)).mono ?_; rintro e w2 ⟨rfl, hb2⟩))
      go_ret
      exact ⟨rfl, hb2⟩
  · go_enter Try.func7, Try.ntmps7
    go_wp2_with (first
      | (go_at_call 13; refine (few_n _ _ _ _).mono ?_; rintro e w' ⟨rfl, rfl⟩)
      | (go_at_call 14; refine (law_awake w w (Below.refl _ _)).mono ?_; rintro e w2 ⟨rfl, hb2⟩))
    go_ret
    exact ⟨rfl, hb2⟩
end Go.Proofs.Ytalclofogengpaa
