/- The law Decodes. -/
import Derived.Test.YtkeicjokekmkpaaDc
import Derived.Test.YtkeicjokekmkpaaEm
import Derived.Test.YtkeicjokekmkpaaLk
namespace Go.Proofs.Ytkeicjokekmkpaa
open Go.RowKit Mb
set_option linter.unusedVariables false
set_option linter.unusedSimpArgs false

theorem conv_bytes {w : World} {B : Nat} {A : Option Addr} {n c : Nat} {xs : List Int} (h : Sl fB w B A n xs) : (convert 41 9 (.slice A n c)).run Try.prog w = .ok (.string (baOf xs)) w :=
  run_conv_sl (P := Try.prog) 41 5 9 Try.underlying41 Try.underlying5 Try.underlying9 w B A n c xs h
/-- What law Decodes is handed. -/
structure InDec (W : World) (A : Option Addr) (n c : Nat) (A'' : Option Addr) (n'' c'' : Nat) (bs : List Int) (xs : List Chn) : Prop where
  fb : Sl fB W W.heap.size A n bs
  rb : ∀ b ∈ bs, 0 ≤ b ∧ b < 256
  fxs : SlN fX 9 W W.heap.size A'' n'' xs
  xz : ∀ x ∈ xs, x.m.name.size ≤ maxLen ∧ x.m.pub.size ≤ maxLen
theorem InDec.on {W V : World} {A A'' : Option Addr} {n c n'' c'' : Nat} {bs : List Int} {xs : List Chn} (h : InDec W A n c A'' n'' c'' bs xs) (hb : Below W.heap.size W V) : InDec V A n c A'' n'' c'' bs xs :=
  ⟨(h.fb.up hb (Nat.le_refl _)).more' hb.size, h.rb, (h.fxs.up hb (Nat.le_refl _)).more hb.size, h.xz⟩
set_option maxRecDepth 20000 in
set_option maxHeartbeats 8000000 in
theorem lawDecodes_any (A : Option Addr) (n c : Nat) (A'' : Option Addr) (n'' c'' : Nat) (bs : List Int) (xs : List Chn) (w : World) (hx : InDec w A n c A'' n'' c'' bs xs) :
    Calls Try.prog 5 #[.slice A n c, .slice A'' n'' c''] w (BoolB true w) := by
  have HX := Lib.hid hx
  clear hx
  go_enter Try.func5, Try.ntmps5
  go_wp2_with fail
  refine (awake_any w).mono ?_
  rintro e w1 ⟨rfl, hb⟩
  have HB1 : Hid (Below w.heap.size w w1) := hb
  clear hb
  by_cases hn : n ≤ 4000
  · have d1 : decide ((4000 : Int) < (n : Int)) = false := by simp; omega
    by_cases hm : n'' ≤ 20
    · have d2 : decide ((20 : Int) < (n'' : Int)) = false := by simp; omega
      have HX1 := Lib.hid (HX.out.on HB1.out)
      have HDC := Lib.hid (decode_any A n c bs w1 HX1.out.fb (by omega) HX1.out.rb)
      go_wp2_with fail
      refine HDC.out.mono ?_
      rintro e w2 h1
      rcases h1 with ⟨S, g, lab0, hd, rfl, hC, hl, hb⟩ | ⟨hd, rfl, hb⟩
      · obtain ⟨ms, vs, q, h0, hr, he⟩ := dec_only HX.out.rb hd
        have HI : Hid (Inv S.s) := hr.inv (newE_inv h0)
        have HE : Hid (EInv S) := hr.einv (newE_inv h0) (newE_einv h0)
        have hbl : bs.length = n := HX.out.fb.1
        have HCH : Hid (S.chs.length ≤ 4000) := by
          show _ ≤ _
          have h5 := flat_ge S.chs
          have h6 : (S.chs.flatMap encX).length ≤ (encC S).length := by unfold encC; simp only [List.length_append]; omega
          rw [he, hbl] at h6
          omega
        have H0 := Lib.hid h0
        have HR := Lib.hid hr
        have HEQ := Lib.hid he
        have HC2 := Lib.hid hC
        have HL2 : Hid (∀ k, k < w1.heap.size → lab0 k = 0) := hl
        have HB2 : Hid (Below w1.heap.size w1 w2) := hb
        have HBW2 : Hid (Below w.heap.size w w2) := HB1.out.trans (hb.mono HB1.out.size)
        have HEN := Lib.hid (fun V (h : Below w2.heap.size w2 V) => encode_any g lab0 S V (hC.on h) HE.out (Nat.le_trans HCH.out (by decide)))
        obtain ⟨z0, hz0⟩ : ∃ s, s = baOf bs := ⟨_, rfl⟩
        have HZ0 := Lib.hid hz0
        have HCV : Hid (∀ V, Below w2.heap.size w2 V → (convert 41 9 (.slice A n c)).run Try.prog V = .ok (.string z0) V) := fun V h => by
          rw [hz0]
          exact conv_bytes ((HX.out.on (HBW2.out.trans (h.mono HBW2.out.size))).fb)
        have hcv0 := HCV.out w2.drew ((Below.refl _ _).drew)
        have hzz : (z0.toList != z0.toList) = false := by simp
        clear h0 hr he hbl hC hl hb hz0 hd
        go_wp2_with fail
        go_region_law (go_simp; go_at_call 9; (refine (HEN.out _ (by repeat (first | exact Below.refl _ _ | refine Below.drew ?_ | refine below_dN' ?_ _))).mono ?_); rintro e w6 ⟨A6, n6, c6, rfl, _, ho, hb⟩; (have HB6 : Hid (Below w2.heap.size w2 w6) := Below.trans (by repeat (first | exact Below.refl _ _ | refine Below.drew ?_ | refine below_dN' ?_ _)) hb); (have hcv6 := HCV.out w6 HB6.out); (have hcv7 := HCV.out w6.drew HB6.out.drew); (have hce6 := conv_bytes (c := c6) ho); (have hce7 := conv_bytes (w := w6.drew) (c := c6) ho); (rw [HEQ.out, ← HZ0.out] at hce6 hce7); clear ho hb; (try go_simp))
        all_goals
          have HF0 : Hid (Below w.heap.size w w6) := HBW2.out.trans (HB6.out.mono HBW2.out.size)
          have HC6 := Lib.hid (HC2.out.on HB6.out)
          have hs16 : w1.heap.size ≤ w6.heap.size := Nat.le_trans HB2.out.size HB6.out.size
          clear hcv0 hcv6 hcv7 hce6 hce7 hzz
          go_wp2_with fail
          go_loopw [7] (fun i wr => ∃ (k : Nat) (lab : Nat → Nat), k ≤ n'' ∧ i = .int .i64 k ∧ Hid (Cir wr lab g (playsC S (xs.take k))) ∧ Hid (Fr w6 lab0 wr lab)) (fun i _ => n'' - (intOf i).toNat)
          case atStart => exact ⟨0, lab0, Nat.zero_le _, rfl, HC6, Fr.refl _ _⟩
          case round =>
            obtain ⟨k, lab, hk, rfl, HC, HF⟩ := hrel
            have HBk : Hid (Below w.heap.size w wr) := HF0.out.trans (HF.out.below HF0.out.size (fun j hj => HL2.out j (Nat.lt_of_lt_of_le hj HB1.out.size)))
            have HRk : Hid (Rch (S00 ms vs q) (playsC S (xs.take k))) := HR.out.plays (xs.take k)
            have HIk : Hid (Inv (playsC S (xs.take k)).s) := HRk.out.inv (newE_inv H0.out)
            have HEk : Hid (EInv (playsC S (xs.take k))) := HRk.out.einv (newE_inv H0.out) (newE_einv H0.out)
            have HCk : Hid ((playsC S (xs.take k)).chs.length ≤ 4020) := by
              show _ ≤ _
              have h5 := playsC_chs S (xs.take k)
              have h6 := HCH.out
              rw [List.length_take] at h5
              omega
            by_cases hlt : k < n''
            · have hXk := HX.out.on HBk.out
              obtain ⟨b, off, x, hA'', hbB, hxk, hcell⟩ := hXk.fxs.at_ hlt
              subst hA''
              have hxz := hXk.xz x (List.mem_of_getElem? hxk)
              obtain ⟨c0, c1, c2, c3, c4, c5, c6, c7, c8⟩ := nine hcell
              have hvot : (playsC S (xs.take k)).s.votes.length ≤ 1000000 := by
                have h5 := HRk.out.votes
                have h6 := HCk.out
                simp at h5
                omega
              have HPL := Lib.hid (play_any g lab (playsC S (xs.take k)) x wr HC.out HIk.out (Nat.le_trans HCk.out (by decide)) hvot hxz.1 hxz.2)
              have HTK : Hid (playsC S (xs.take (k + 1)) = playC (playsC S (xs.take k)) x) := by show _ = _; rw [take_snoc hxk, playsC_snoc]
              clear hXk hcell hxk hxz hbB hvot
              go_wp2_with fail
              refine HPL.out.mono ?_
              rintro e w5 ⟨rfl, lab5, hC5, hF5⟩
              have HC5 : Hid (Cir w5 lab5 g (playsC S (xs.take (k + 1)))) := by show Cir _ _ _ _; rw [HTK.out]; exact hC5
              have HF5 : Hid (Fr w6 lab0 w5 lab5) := HF.out.trans hF5
              clear hC5 hF5 c0 c1 c2 c3 c4 c5 c6 c7 c8
              unfold votR
              go_wp2_with fail
              go_roundw
              case rel => exact ⟨k + 1, lab5, by omega, by go_num, HC5, HF5⟩
              case measure => simp [intOf]; omega
            · obtain rfl : n'' = k := by omega
              obtain ⟨S9, hS9⟩ : ∃ T, playsC S (xs.take n'') = T := ⟨_, rfl⟩
              rw [hS9] at HC HRk HIk HEk HCk
              have HAL : Hid ((activeL S9.s).length ≤ 1000000) := by
                show _ ≤ _
                have h5 := HIk.out.n12
                have h6 := List.length_filter_le (fun v => actB S9.s v) (List.range S9.s.ms.length)
                rw [List.length_range] at h6
                unfold activeL
                rw [List.length_map]
                omega
              have HE1 := Lib.hid (encode_any g lab S9 wr HC.out HEk.out (Nat.le_trans HCk.out (by decide)))
              clear hS9
              go_wp2_with fail
              refine HE1.out.mono ?_
              rintro e w8 ⟨A8, n8, c8, rfl, _, ho, hb⟩
              have hn8 : n8 ≤ 1000000 := by have h5 := encC_len HEk.out (Nat.le_trans HCk.out (by decide)); rw [ho.1] at h5; omega
              have HC8 := Lib.hid (HC.out.on hb)
              have HB8 : Hid (Below w.heap.size w w8) := HBk.out.trans (hb.mono HBk.out.size)
              have HD8 := Lib.hid (decode_any A8 n8 c8 (encC S9) w8 ho hn8 (encC_rng S9))
              clear ho hb
              go_wp2_with fail
              refine HD8.out.mono ?_
              rintro e w9 h1
              rcases h1 with ⟨S2, g2, lab2, hd, rfl, hC2, hl2, hb2⟩ | ⟨hd, _, _⟩
              rotate_left
              · rw [dec_enc H0.out HRk.out (Nat.le_trans HCk.out (by decide))] at hd; cases hd
              obtain rfl : S9 = S2 := by
                rw [dec_enc H0.out HRk.out (Nat.le_trans HCk.out (by decide))] at hd
                exact Option.some.inj hd
              have HB9 : Hid (Below w.heap.size w w9) := HB8.out.trans (hb2.mono HB8.out.size)
              have hC9 := HC8.out.on hb2
              obtain ⟨z1, hz1⟩ : ∃ s, s = baOf (encC S9) := ⟨_, rfl⟩
              have HZ1 := Lib.hid hz1
              have HEk' := Lib.hid (fun V (h : Below w9.heap.size w9 V) => encode_any g2 lab2 S9 V (hC2.on h) HEk.out (Nat.le_trans HCk.out (by decide)))
              have HEc' := Lib.hid (fun V (h : Below w9.heap.size w9 V) => encode_any g lab S9 V (hC9.on h) HEk.out (Nat.le_trans HCk.out (by decide)))
              have HAk' := Lib.hid (fun V (h : Below w9.heap.size w9 V) => active_cir g2 lab2 S9 V (hC2.on h) (Nat.le_trans HIk.out.n12 (by decide)))
              have HAc' := Lib.hid (fun V (h : Below w9.heap.size w9 V) => active_cir g lab S9 V (hC9.on h) (Nat.le_trans HIk.out.n12 (by decide)))
              have hzz1 : (z1.toList == z1.toList) = true := by simp
              have hdd : decide (activeL S9.s = activeL S9.s) = true := by simp
              clear hd hC2 hl2 hb2 hC9 hz1 HBk
              go_wp2_with fail
              go_region_law (first
                | (go_simp; go_at_call 9; (with_reducible (refine (HEk'.out _ (by repeat (first | exact Below.refl _ _ | exact HBk.out | exact HBc.out | refine Below.drew ?_ | refine below_dN' ?_ _))).mono ?_)); rintro e wk ⟨Ak, nk, ck, rfl, _, ho, hb⟩; (have HBk : Hid (Below w9.heap.size w9 wk) := Below.trans (by repeat (first | exact Below.refl _ _ | exact HBk.out | exact HBc.out | refine Below.drew ?_ | refine below_dN' ?_ _)) (hb.mono (by first | exact Nat.le_refl _ | exact HBc.out.size))); (have hcek := conv_bytes (c := ck) ho); (have hcek' := conv_bytes (w := wk.drew) (c := ck) ho); (have hcek'' := conv_bytes (w := wk.drew.drew) (c := ck) ho); (rw [← HZ1.out] at hcek hcek' hcek''); (first | (have hx := HOc.out.up (Below.trans (B := wc.heap.size) (by repeat (first | exact Below.refl _ _ | refine Below.drew ?_ | refine below_dN' ?_ _)) hb) (Nat.le_refl _); have hcx := conv_bytes (c := cc) hx; have hcx' := conv_bytes (w := wk.drew) (c := cc) hx; rw [← HZ1.out] at hcx hcx'; clear hx) | skip); (have HOk : Hid (Sl fB wk wk.heap.size Ak nk (encC S9)) := ho); clear ho hb; (try go_simp))
                | (go_simp; go_at_call 9; (with_reducible (refine (HEc'.out _ (by repeat (first | exact Below.refl _ _ | exact HBk.out | exact HBc.out | refine Below.drew ?_ | refine below_dN' ?_ _))).mono ?_)); rintro e wc ⟨Ac, nc, cc, rfl, _, ho, hb⟩; (have HBc : Hid (Below w9.heap.size w9 wc) := Below.trans (by repeat (first | exact Below.refl _ _ | exact HBk.out | exact HBc.out | refine Below.drew ?_ | refine below_dN' ?_ _)) (hb.mono (by first | exact Nat.le_refl _ | exact HBk.out.size))); (have hcec := conv_bytes (c := cc) ho); (have hcec' := conv_bytes (w := wc.drew) (c := cc) ho); (have hcec'' := conv_bytes (w := wc.drew.drew) (c := cc) ho); (rw [← HZ1.out] at hcec hcec' hcec''); (first | (have hx := HOk.out.up (Below.trans (B := wk.heap.size) (by repeat (first | exact Below.refl _ _ | refine Below.drew ?_ | refine below_dN' ?_ _)) hb) (Nat.le_refl _); have hcx := conv_bytes (c := ck) hx; have hcx' := conv_bytes (w := wc.drew) (c := ck) hx; rw [← HZ1.out] at hcx hcx'; clear hx) | skip); (have HOc : Hid (Sl fB wc wc.heap.size Ac nc (encC S9)) := ho); clear ho hb; (try go_simp))
                | (go_simp; go_at_call 13; (with_reducible (refine (HAk'.out _ (by repeat (first | exact Below.refl _ _ | exact HAk.out | exact HAc.out | exact HBk.out | exact HBc.out | refine Below.drew ?_ | refine below_dN' ?_ _))).mono ?_)); rintro e xk ⟨vk, rfl, ho, hb⟩; (obtain ⟨Bk, dk, hv, _, hs, _⟩ := Own.shape (f := I) ho); subst hv; (have HAk : Hid (Below w9.heap.size w9 xk) := Below.trans (by repeat (first | exact Below.refl _ _ | exact HAk.out | exact HAc.out | exact HBk.out | exact HBc.out | refine Below.drew ?_ | refine below_dN' ?_ _)) (hb.mono (by first | exact Nat.le_refl _ | exact HAc.out.size | exact HBk.out.size | exact HBc.out.size))); (first | (have HSc' : Hid (SL I xk xk.heap.size Bc (activeL S9.s)) := (HSc.out.up (Below.trans (B := xc.heap.size) (by repeat (first | exact Below.refl _ _ | refine Below.drew ?_ | refine below_dN' ?_ _)) hb) (Nat.le_refl _)).more (Nat.le_trans (Nat.le_refl _) hb.size)) | skip); (have HSk : Hid (SL I xk xk.heap.size Bk (activeL S9.s)) := hs); clear ho hb hs; (try go_simp))
                | (go_simp; go_at_call 13; (with_reducible (refine (HAc'.out _ (by repeat (first | exact Below.refl _ _ | exact HAk.out | exact HAc.out | exact HBk.out | exact HBc.out | refine Below.drew ?_ | refine below_dN' ?_ _))).mono ?_)); rintro e xc ⟨vc, rfl, ho, hb⟩; (obtain ⟨Bc, dc, hv, _, hs, _⟩ := Own.shape (f := I) ho); subst hv; (have HAc : Hid (Below w9.heap.size w9 xc) := Below.trans (by repeat (first | exact Below.refl _ _ | exact HAk.out | exact HAc.out | exact HBk.out | exact HBc.out | refine Below.drew ?_ | refine below_dN' ?_ _)) (hb.mono (by first | exact Nat.le_refl _ | exact HAk.out.size | exact HBk.out.size | exact HBc.out.size))); (first | (have HSk' : Hid (SL I xc xc.heap.size Bk (activeL S9.s)) := (HSk.out.up (Below.trans (B := xk.heap.size) (by repeat (first | exact Below.refl _ _ | refine Below.drew ?_ | refine below_dN' ?_ _)) hb) (Nat.le_refl _)).more (Nat.le_trans (Nat.le_refl _) hb.size)) | skip); (have HSc : Hid (SL I xc xc.heap.size Bc (activeL S9.s)) := hs); clear ho hb hs; (try go_simp))
                | (go_simp; go_at_call 16; (first | (refine (sameI_any Bk Bc _ _ (activeL S9.s) (activeL S9.s) dk dc _ xc.heap.size ⟨rfl, HSk'.out⟩ ⟨rfl, HSc.out⟩ HAL.out HAL.out).mono ?_) | (refine (sameI_any Bk Bc _ _ (activeL S9.s) (activeL S9.s) dk dc _ xk.heap.size ⟨rfl, HSk.out⟩ ⟨rfl, HSc'.out⟩ HAL.out HAL.out).mono ?_)); rintro e x9 ⟨rfl, r9, hx9⟩; (have HX9 := Lib.hid hx9); clear hx9; (try go_simp)))
              all_goals
                go_wp2_with fail
                go_ret
                first
                  | exact ⟨rfl, by rw [HX9.out]; exact below_dN' (HB9.out.trans (HAc.out.mono HB9.out.size)) _⟩
                  | exact ⟨rfl, by rw [HX9.out]; exact below_dN' (HB9.out.trans (HAk.out.mono HB9.out.size)) _⟩
                  | exact ⟨rfl, by rw [HX9.out]; exact below_dN' (HB9.out.trans (HAc.out.drew.mono HB9.out.size)) _⟩
                  | exact ⟨rfl, by rw [HX9.out]; exact below_dN' (HB9.out.trans (HAk.out.drew.mono HB9.out.size)) _⟩
      · go_wp2_with fail
        go_ret
        exact ⟨rfl, HB1.out.trans (hb.mono HB1.out.size)⟩
    · have d2 : decide ((20 : Int) < (n'' : Int)) = true := by simp; omega
      go_wp2_with fail
      go_ret
      exact ⟨rfl, HB1.out⟩
  · have d1 : decide ((4000 : Int) < (n : Int)) = true := by simp; omega
    go_wp2_with fail
    go_ret
    exact ⟨rfl, HB1.out⟩
end Go.Proofs.Ytkeicjokekmkpaa
