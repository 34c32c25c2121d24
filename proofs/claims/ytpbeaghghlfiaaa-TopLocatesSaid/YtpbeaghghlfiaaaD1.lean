/- Locate. -/
import Derived.Test.YtpbeaghghlfiaaaD0
namespace Go.Proofs.Ytpbeaghghlfiaaa
open Go.RowKit Go.Lib
set_option linter.unusedVariables false
set_option linter.unusedSimpArgs false
theorem testBit_at (k j : Nat) : k.testBit j = decide (k / 2 ^ j % 2 = 1) := by rw [Nat.testBit_eq_decide_div_mod_eq]
theorem u64_bit {k j : Nat} (hk : k < 256) : bits .and .u64 ((k : Int) / 2 ^ j) 1 = ((k / 2 ^ j % 2 : Nat) : Int) := by
  have h1 : ((k : Int) / 2 ^ j) = ((k / 2 ^ j : Nat) : Int) := by rw [Int.natCast_ediv, Int.natCast_pow]; rfl
  have h2 : k / 2 ^ j < 18446744073709551616 := Nat.lt_of_le_of_lt (Nat.div_le_self _ _) (by omega)
  rw [h1, show (1 : Int) = ((1 : Nat) : Int) from rfl, bits_and_u64_nat _ _ h2 (by omega), Nat.and_one_is_mod]
theorem shl_one {m : Nat} (h : m ≤ 8) : IntKind.u64.wrap ((2 : Int) ^ m) = ((2 ^ m : Nat) : Int) := by
  have h1 : 2 ^ m ≤ 2 ^ 8 := Nat.pow_le_pow_right (by omega) h
  have h2 : ((2 : Int) ^ m) = ((2 ^ m : Nat) : Int) := by rw [Int.natCast_pow]; rfl
  rw [IntKind.wrap_u64, h2]
  obtain ⟨M, hM⟩ : ∃ M, 2 ^ m = M := ⟨_, rfl⟩
  rw [hM] at h1 ⊢
  have h3 : 2 ^ 8 = 256 := rfl
  omega
def LoP (bad : List Nat) (w : World) (e : Ending) (w' : World) : Prop := ∃ A c, e = .returned (.tuple #[.slice A bad.length c, .int .i64 0]) ∧ Sl fI w' w'.heap.size A bad.length bad ∧ Below w.heap.size w w'
/-- Do the pieces outside of a set agree? -/
def okS (len d m : Nat) (given : Mt) (s : Nat) : Prop := okP len d (atL given (rightL m s)) (factP d (rightL m s) ((rightL m s).drop d))
set_option maxRecDepth 100000 in
set_option maxHeartbeats 16000000 in
theorem locate_any (d m c c2 B len wq : Nat) (A A2 : Option Addr) (given : Mt) (bad : List Nat) (w : World) (h1 : 1 ≤ d) (hdm : d ≤ m) (h8 : m ≤ 8) (hl : Sl fI w B A m (List.range m)) (hP : SLL fN w B A2 m given) (hB : B ≤ w.heap.size) (hok : MtOk len given) (h0 : 0 < len) (hle : len ≤ 65536) (hwq : wq = (m - d) / 2)
    (hex : ∃ s < 2 ^ m, (otherL m s).length = wq ∧ okS len d m given s) (hbad : ∀ s < 2 ^ m, (otherL m s).length = wq → okS len d m given s → diffP len (atL given (rightL m s)) (factP d (rightL m s) (otherL m s)) (otherL m s) (atL given (otherL m s)) = bad) :
    Calls Try.prog 8 #[.int .i64 d, .int .i64 m, .slice A m c, .slice A2 m c2] w (LoP bad w) := by
  have hgl : given.length = m := hP.choose_spec.2.1
  obtain ⟨hds, hhs, _, hrow⟩ := hP
  have hhl : hds.length = m := hhs.1
  have hP : SLL fN w B A2 m given := ⟨hds, hhs, hgl, hrow⟩
  have HCG := Lib.hid (checkGiven_any d m m c c2 B len A A2 (List.range m) given w h1 (by omega) hdm (by omega) hl hP hB List.pairwise_lt_range (fun i hi => List.mem_range.1 hi) (by omega) hdm (fun r hr => (hok r hr).1) h0 hle)
  have HNT : Hid (∀ V, Calls Try.prog 19 #[.int .i64 d] V (NtP d V)) := fun V => newTable_any d h1 (by omega) V
  obtain ⟨i0, hi, hi1, hi2, hi3⟩ := info_parts Try.infoI8
  obtain ⟨j0, hj, hj1, hj2, hj3⟩ := info_parts Try.infoBR
  have HI := Lib.hid hi
  have HI1 := Lib.hid hi1
  have HI2 := Lib.hid hi2
  have HI3 := Lib.hid hi3
  have HJ0 := Lib.hid hj
  have HJ1 := Lib.hid hj1
  have HJ2 := Lib.hid hj2
  have HJ3 := Lib.hid hj3
  have HL := Lib.hid hl
  have HP := Lib.hid hP
  have HHS := Lib.hid hhs
  have HRW := Lib.hid hrow
  have HGL := Lib.hid hgl
  have HHL := Lib.hid hhl
  have HBB := Lib.hid hB
  have HOK := Lib.hid hok
  have HD := Lib.hid (show 1 ≤ d ∧ d ≤ m ∧ m ≤ 8 ∧ 0 < len ∧ len ≤ 65536 ∧ wq = (m - d) / 2 from ⟨h1, hdm, h8, h0, hle, hwq⟩)
  have HEX := Lib.hid hex
  have HBAD := Lib.hid hbad
  obtain ⟨M, hM⟩ : ∃ M, 2 ^ m = M := ⟨_, rfl⟩
  have hM256 : M ≤ 256 := by rw [← hM, show 256 = 2 ^ 8 from rfl]; exact Nat.pow_le_pow_right (by omega) h8
  have HMM := Lib.hid hM
  have hdI : (d : Int) ≤ (m : Int) := by omega
  have hmI : (m : Int) ≤ 8 := by omega
  have hM1 : (M : Int) ≤ 256 := by omega
  have hqI : (wq : Int) ≤ 8 := by omega
  have hdif : ((m : Int) - (d : Int)) / 2 = (wq : Int) := by omega
  have hsh := shl_one h8
  rw [hM] at hsh
  have HSH := Lib.hid hsh
  have HDIF := Lib.hid hdif
  clear hsh hdif
  clear hl hP hhs hrow hgl hhl hB hok h0 hle hwq hex hbad hM hM256 hi hi1 hi2 hi3 hj hj1 hj2 hj3 h1 hdm h8
  go_enter Try.func8, Try.ntmps8
  go_upto_region 4 with (go_at_call 21; (with_reducible refine HCG.out.mono ?_); rintro e w2 ⟨rfl, hb2⟩; (have HB2 := Lib.hid hb2); clear hb2)
  go_upto_region 7 with (go_at_call 19; (with_reducible refine (HNT.out _).mono ?_); rintro e w3 ⟨rfl, hg3, hb3⟩; (have HG3 := Lib.hid hg3); (have HB3 : Hid (Below w.heap.size w w3) := HB2.out.trans (hb3.mono HB2.out.size)); clear hg3 hb3)
  go_wp2_with fail
  rw [HSH.out, HDIF.out]
  have HZ0 : Hid (Below w3.heap.size w3 w3) := Below.refl _ _
  have HP0 : Hid (Own fI TI w3 w3.heap.size (.slice none 0 0) ([] : List Nat)) := Own.nil
  have HS0 : Hid ((∀ p ∈ ([] : List Nat), p < len) ∧ ([] : List Nat).length ≤ 0) := ⟨fun p h => by simp at h, Nat.le_refl _⟩
  have HN0 : Hid (∀ s, s < 0 → ¬ ((otherL m s).length = wq ∧ okS len d m given s)) := fun s h => absurd h (by omega)
  clear HCG HNT
  go_loopw [13, 41] (fun v s wr => ∃ (k : Nat) (pl : List Nat), k ≤ M ∧ s = .int .u64 k ∧ Hid (Below w3.heap.size w3 wr) ∧ Hid (Own fI TI wr w3.heap.size v pl) ∧ Hid ((∀ p ∈ pl, p < len) ∧ pl.length ≤ k) ∧ Hid (∀ s, s < k → ¬ ((otherL m s).length = wq ∧ okS len d m given s))) (fun _ s _ => M - (intOf s).toNat)
  case atStart => exact ⟨0, [], Nat.zero_le _, rfl, HZ0, HP0, HS0, HN0⟩
  case round =>
    clear HZ0 HP0 HS0 HN0
    obtain ⟨k, pl, hk, rfl, HB, HO, HPL, HNO⟩ := hrel
    have hkI : (k : Int) ≤ (M : Int) := by omega
    by_cases hlt : k < M
    · have hkM : (k : Int) < (M : Int) := by omega
      have hk256 : k < 256 := by omega
      have hkm : k < 2 ^ m := by rw [HMM.out]; exact hlt
      have HKM := Lib.hid hkm
      have HON := Lib.hid (ones_any k hk256 wr)
      have hones : (otherL m k).length = ones k := otherL_ones m (by have := HD.out; omega) k hk256 hkm
      have HCN := Lib.hid hones
      have HK256 := Lib.hid hk256
      obtain ⟨va, vc, hv, hvc⟩ := HO.out.shape'
      obtain ⟨np, hnp⟩ : ∃ x, pl.length = x := ⟨_, rfl⟩
      rw [hnp] at hv hvc
      subst hv
      have HNP := Lib.hid hnp
      have HBw : Hid (Below w.heap.size w wr) := HB3.out.trans (HB.out.mono HB3.out.size)
      obtain ⟨o, ho⟩ : ∃ o, ones k = o := ⟨_, rfl⟩
      rw [ho] at HON HCN
      clear hkm hones hnp hvc ho hk256
      by_cases how : o = wq
      · subst how
        go_upto_region 14 with (go_at_call 22; (with_reducible refine HON.out.mono ?_); rintro e w' ⟨rfl, rfl⟩)
        obtain ⟨W0, hW0⟩ : ∃ W0, W0 = wr := ⟨_, rfl⟩
        subst hW0
        have HL0 := Lib.hid (LSt.start hds W0 k)
        go_loopw [15, 16, 17, 18, 50] (fun a b c d i wr => ∃ (j : Nat) (a1 b1 c1 d1 : Value), j ≤ m ∧ i = .int .i64 j ∧ a1 = a ∧ b1 = b ∧ c1 = c ∧ d1 = d ∧ Hid (LSt hds W0 wr k j a1 b1 c1 d1)) (fun _ _ _ _ i _ => m - (intOf i).toNat)
        case atStart => exact ⟨0, _, _, _, _, Nat.zero_le _, rfl, rfl, rfl, rfl, rfl, HL0⟩
        case round =>
          clear HL0 HON
          obtain ⟨j, va, vb, vc, vd, hj, rfl, rfl, rfl, rfl, rfl, HLS⟩ := hrel
          by_cases hjm : j < m
          · have hjmI : (j : Int) < (m : Int) := by omega
            have HBWr : Hid (Below w.heap.size w wr) := HBw.out.trans (HLS.out.bw.mono HBw.out.size)
            obtain ⟨ib, io, x, rfl, _, hxj, hcx⟩ := (SL.up HL.out.2 HBWr.out HBB.out).at_ (k := j) (by rw [HL.out.1]; exact hjm)
            obtain rfl : j = x := by
              rw [List.getElem?_range hjm] at hxj
              exact Option.some.inj hxj
            obtain ⟨gb, go, ra, rc, r, rfl, hrj, hcg, hsj⟩ := (HP.out.up HBWr.out HBB.out).cell hjm
            have hro := HOK.out.get hrj
            rw [hro.1] at hcg
            have hdj : hds[j]? = some ⟨ra, len, rc⟩ := by
              obtain ⟨hd, hhd⟩ := get_ex (xs := hds) (k := j) (by rw [HHL.out]; exact hjm)
              obtain ⟨gb', go', hA, hlt', hat'⟩ := HHS.out.2 (by rw [HHL.out]; omega)
              injection hA with hA
              injection hA with e1 e2 _
              subst e1 e2
              have h9 := (World.cell?_of_block (HBWr.out.block _ (Nat.lt_of_lt_of_le hlt' HBB.out))).trans (hat' j hd hhd)
              rw [hcg] at h9
              have h10 : Value.slice ra len rc = .slice hd.a hd.n hd.c := Option.some.inj h9
              injection h10 with f1 f2 f3
              rw [hhd, f1, f2, f3]
            have HHD : Hid ([j].map (hdAt hds) = [⟨ra, len, rc⟩]) := by show [hdAt hds j] = _; unfold hdAt; rw [getD_some hdj]
            have HGB : Hid (gb < W0.heap.size) := by
              obtain ⟨gb', go', _, _, hA, hlt', _, _⟩ := HP.out.row hrj
              injection hA with hA
              injection hA with e1 e2 _
              subst e1
              exact Nat.lt_of_lt_of_le hlt' (Nat.le_trans HBB.out HBw.out.size)
            have hcg0 : W0.cell? ⟨gb, go + j, none⟩ = some (.slice ra len rc) := by
              rw [← hcg]
              exact (World.cell?_of_block (HLS.out.bw.block _ HGB.out)).symm
            have HSC : Hid (∀ V, Below W0.heap.size W0 V → V.cell? ⟨gb, go + j, none⟩ = some (.slice ra len rc)) := fun V hv => (World.cell?_of_block (hv.block _ HGB.out)).trans hcg0
            have hbit := u64_bit (k := k) (j := j) HK256.out
            obtain ⟨bt, hbt⟩ : ∃ bt, k / 2 ^ j % 2 = bt := ⟨_, rfl⟩
            rw [hbt] at hbit
            have htb := testBit_at k j
            rw [hbt] at htb
            have hbt2 : bt = 0 ∨ bt = 1 := by omega
            have HT0 : Hid (Below W0.heap.size W0 wr.drew) := HLS.out.bw.drew
            have HA0 : Hid (Own fI TI wr.drew W0.heap.size va (rightL j k)) := HLS.out.oa
            have HB0 : Hid (Own fI TI wr.drew W0.heap.size vb (otherL j k)) := HLS.out.ob
            have HC0 : Hid (Own fS TR wr.drew W0.heap.size vc ((rightL j k).map (hdAt hds))) := HLS.out.oc
            have HD0 : Hid (Own fS TR wr.drew W0.heap.size vd ((otherL j k).map (hdAt hds))) := HLS.out.od
            have hln : (rightL j k).length ≤ 8 ∧ (otherL j k).length ≤ 8 := by
              have p1 := rightL_len j k
              have p2 := otherL_len j k
              have p3 := HD.out
              omega
            clear hxj hrj hro hdj hsj hcg0 hbt
            rcases hbt2 with hb | hb
            · subst hb
              have hR := rightL_take (m := m) (s := k) hjm
              have hO := otherL_take (m := m) (s := k) hjm
              rw [htb] at hR hO
              have HRT : Hid (rightL (j + 1) k = rightL j k ++ [j]) := hR
              have HOT : Hid (otherL (j + 1) k = otherL j k) := hO
              have DJ0 : Hid (Dj vb va) := HLS.out.ab.symm
              have DK0 : Hid (Dj vd vc) := HLS.out.cd.symm
              have HLI : Hid (((rightL j k).length + [j].length) * 8 ≤ 140737488355328) := by show ((rightL j k).length + 1) * 8 ≤ _; omega
              have HLM : Hid ((rightL j k).length + [j].length ≤ maxLen) := by show (rightL j k).length + 1 ≤ _; unfold maxLen; omega
              have HLR : Hid ((((rightL j k).map (hdAt hds)).length + [(⟨ra, len, rc⟩ : Hd)].length) * 24 ≤ 140737488355328) := by show (((rightL j k).map (hdAt hds)).length + 1) * 24 ≤ _; rw [List.length_map]; omega
              have HLN : Hid (((rightL j k).map (hdAt hds)).length + [(⟨ra, len, rc⟩ : Hd)].length ≤ maxLen) := by show ((rightL j k).map (hdAt hds)).length + 1 ≤ _; rw [List.length_map]; unfold maxLen; omega
              clear hR hO htb hln
              go_wp2_with fail
              refine wp_region_held_drew (S := (fun w' : World => w'.cell? ⟨gb, go + j, none⟩ = some (.slice ra len rc))) (by kernel_rfl) (by exact hcg) (fun hHeld => ?_)
              refine wpAnyH_take (i := 0) (v := _) (by simp only [List.getElem?_toArray, List.getElem?_cons_zero]; rfl) (by kernel_rfl) (by kernel_rfl) (by kernel_rfl) (by exact fun _ _ _ h => h) (Or.inl ⟨by rfl, by (intro w hSw; (try dsimp only at hSw); go_simp; try (with_reducible rfl))⟩) (by assumption) ?_
              try simp only [Act.put, List.setIfInBounds_toArray, List.set_cons_zero, List.set_cons_succ]
              refine wpAnyH_take (i := 1) (v := _) (by simp only [List.getElem?_toArray, List.getElem?_cons_succ, List.getElem?_cons_zero]; rfl) (by kernel_rfl) (by kernel_rfl) (by kernel_rfl) (by exact fun _ _ _ h => h) (Or.inl ⟨by rfl, by (intro w hSw; (try dsimp only at hSw); go_simp; try (with_reducible rfl))⟩) (by assumption) ?_
              try simp only [Act.put, List.setIfInBounds_toArray, List.set_cons_zero, List.set_cons_succ]
              refine wpAnyH_take (i := 4) (v := _) (by simp only [List.getElem?_toArray, List.getElem?_cons_succ, List.getElem?_cons_zero]; rfl) (by kernel_rfl) (by kernel_rfl) (by kernel_rfl) (by exact fun _ _ _ h => h) (Or.inl ⟨by rfl, by (intro w hSw; (try dsimp only at hSw); go_simp; try (with_reducible rfl))⟩) (by assumption) ?_
              try simp only [Act.put, List.setIfInBounds_toArray, List.set_cons_zero, List.set_cons_succ]
              refine wpAnyH_take (i := 5) (v := _) (by simp only [List.getElem?_toArray, List.getElem?_cons_succ, List.getElem?_cons_zero]; rfl) (by kernel_rfl) (by kernel_rfl) (by kernel_rfl) (by exact fun _ _ _ h => h) (Or.inl ⟨by rfl, by (intro w hSw; (try dsimp only at hSw); go_simp; try (with_reducible rfl))⟩) (by assumption) ?_
              try simp only [Act.put, List.setIfInBounds_toArray, List.set_cons_zero, List.set_cons_succ]
              refine wpAnyH_take (i := 6) (v := _) (by simp only [List.getElem?_toArray, List.getElem?_cons_succ, List.getElem?_cons_zero]; rfl) (by kernel_rfl) (by kernel_rfl) (by kernel_rfl) (by exact fun _ _ _ h => h) (Or.inl ⟨by rfl, by (intro w hSw; (try dsimp only at hSw); go_simp; try (with_reducible rfl))⟩) (by assumption) ?_
              try simp only [Act.put, List.setIfInBounds_toArray, List.set_cons_zero, List.set_cons_succ]
              refine wpAnyH_take (i := 7) (v := _) (by simp only [List.getElem?_toArray, List.getElem?_cons_succ, List.getElem?_cons_zero]; rfl) (by kernel_rfl) (by kernel_rfl) (by kernel_rfl) (by exact fun _ _ _ h => h) (Or.inl ⟨by rfl, by (intro w hSw; (try dsimp only at hSw); go_simp; try (with_reducible rfl))⟩) (by assumption) ?_
              try simp only [Act.put, List.setIfInBounds_toArray, List.set_cons_zero, List.set_cons_succ]
              refine wpAnyH_take (i := 8) (v := _) (by simp only [List.getElem?_toArray, List.getElem?_cons_succ, List.getElem?_cons_zero]; rfl) (by kernel_rfl) (by kernel_rfl) (by kernel_rfl) (by exact fun _ _ _ h => h) (Or.inl ⟨by rfl, by (intro w hSw; (try dsimp only at hSw); go_simp; try (with_reducible rfl))⟩) (by assumption) ?_
              try simp only [Act.put, List.setIfInBounds_toArray, List.set_cons_zero, List.set_cons_succ]
              refine wpAnyH_ready (rs := [2, 9]) (by kernel_rfl) (by simp) ?_
              refine AllReadyH.cons (by simp only [List.getElem?_toArray, List.getElem?_cons_succ, List.getElem?_cons_zero]; rfl) (fun K hK => ?_) (AllReadyH.cons (by simp only [List.getElem?_toArray, List.getElem?_cons_succ, List.getElem?_cons_zero]; rfl) (fun K hK => ?_) (AllReadyH.nil))
              · ((refine step_one rfl 33 TI (.tmp 61) rfl i0 (.int .i64 0) Try.underlying33 HI.out HI1.out HI2.out rfl (.int .i64 (j : Int)) (by rfl) rfl ?_); intro e1 V1 HEi1 hb1; (have HT1 : Hid (Below W0.heap.size W0 V1) := HT0.out.trans (hb1.out.mono HT0.out.size)); (have HA1 := Lib.hid (HA0.out.on hb1.out)); (have HB1 := Lib.hid (HB0.out.on hb1.out)); (have HC1 := Lib.hid (HC0.out.on hb1.out)); (have HD1 := Lib.hid (HD0.out.on hb1.out)); clear hb1)
                refine hK.out _ _ (by exact HSC.out _ HT1.out) (fun hHeldy9 => ?_)
                clear hK K hHeld
                try simp only [Act.put, List.setIfInBounds_toArray, List.set_cons_zero, List.set_cons_succ]
                refine wpAnyH_ready (rs := [3, 9]) (by kernel_rfl) (by simp) ?_
                refine AllReadyH.cons (by simp only [List.getElem?_toArray, List.getElem?_cons_succ, List.getElem?_cons_zero]; rfl) (fun K hK => ?_) (AllReadyH.cons (by simp only [List.getElem?_toArray, List.getElem?_cons_succ, List.getElem?_cons_zero]; rfl) (fun K hK => ?_) (AllReadyH.nil))
                · ((refine step_app (.tmp 60) (.tmp 62) 33 rfl rfl TI i0 (.int .i64 0) 8 Try.underlying33 HI.out HI1.out HI2.out HI3.out rfl (f := fI) (rightL j k) W0.heap.size (by exact HA1.out) [j] ⟨_, _, _, _, rfl, SL.sl (SL.of_block (xs := [j]) HEi1.out (lt_block HEi1.out))⟩ (fun _ => rfl) HLI.out HLM.out HT1.out.size ?_); intro vi V2 ho2 hg2 hv2 hB2; (have hg : Hid (World.grownBy V1 V2 (va).ownBlock) := hg2); (have HT2 : Hid (Below W0.heap.size W0 V2) := hB2.out _ _ HT1.out (Nat.le_refl _)); (have HA2 := ho2); (have HB2 := Lib.hid (own_dj HB1.out DJ0.out hg.out)); (have HC2 := Lib.hid (own_far HC1.out HA1.out hg.out (by decide))); (have HD2 := Lib.hid (own_far HD1.out HA1.out hg.out (by decide))); (have DJ1 : Hid (Dj vb vi) := Dj.new HB1.out DJ0.out hv2.out); clear hg hg2 hB2)
                  refine hK.out _ _ (by exact HSC.out _ HT2.out) (fun hHeldy11 => ?_)
                  clear hK K hHeldy9
                  try simp only [Act.put, List.setIfInBounds_toArray, List.set_cons_zero, List.set_cons_succ]
                  refine wpAnyH_ready (rs := [9]) (by kernel_rfl) (by simp) ?_
                  refine AllReadyH.cons (by simp only [List.getElem?_toArray, List.getElem?_cons_succ, List.getElem?_cons_zero]; rfl) (fun K hK => ?_) (AllReadyH.nil)
                  ((refine step_one rfl 22 TR (.tmp 68) rfl j0 (.slice none 0 0) Try.underlying22 HJ0.out HJ1.out HJ2.out rfl (.slice ra len rc) (by rfl) rfl ?_); intro e2 V3 HEr3 hb3; (have HT3 : Hid (Below W0.heap.size W0 V3) := HT2.out.trans (hb3.out.mono HT2.out.size)); (have HA3 := Lib.hid (HA2.out.on hb3.out)); (have HB3 := Lib.hid (HB2.out.on hb3.out)); (have HC3 := Lib.hid (HC2.out.on hb3.out)); (have HD3 := Lib.hid (HD2.out.on hb3.out)); clear hb3)
                  refine hK.out _ _ (by exact HSC.out _ HT3.out) (fun hHeldy12 => ?_)
                  clear hK K hHeldy11
                  try simp only [Act.put, List.setIfInBounds_toArray, List.set_cons_zero, List.set_cons_succ]
                  refine wpAnyH_ready (rs := [10]) (by kernel_rfl) (by simp) ?_
                  refine AllReadyH.cons (by simp only [List.getElem?_toArray, List.getElem?_cons_succ, List.getElem?_cons_zero]; rfl) (fun K hK => ?_) (AllReadyH.nil)
                  ((refine step_app (.tmp 64) (.tmp 69) 22 rfl rfl TR j0 (.slice none 0 0) 24 Try.underlying22 HJ0.out HJ1.out HJ2.out HJ3.out rfl (f := fS) ((rightL j k).map (hdAt hds)) W0.heap.size (by exact HC3.out) [⟨ra, len, rc⟩] ⟨_, _, _, _, rfl, SL.sl (SL.of_block (xs := [(⟨ra, len, rc⟩ : Hd)]) HEr3.out (lt_block HEr3.out))⟩ fS1 HLR.out HLN.out HT3.out.size ?_); intro vr V4 ho4 hg4 hv4 hB4; (have hg : Hid (World.grownBy V3 V4 (vc).ownBlock) := hg4); (have HT4 : Hid (Below W0.heap.size W0 V4) := hB4.out _ _ HT3.out (Nat.le_refl _)); (have HC4 := ho4); (have HD4 := Lib.hid (own_dj HD3.out DK0.out hg.out)); (have HA4 := Lib.hid (own_far HA3.out HC3.out hg.out (by decide))); (have HB4 := Lib.hid (own_far HB3.out HC3.out hg.out (by decide))); (have DK1 : Hid (Dj vd vr) := Dj.new HD3.out DK0.out hv4.out); clear hg hg4 hB4)
                  refine hK.out _ _ (by exact HSC.out _ HT4.out) (fun hHeldy13 => ?_)
                  clear hK K hHeldy12
                  try simp only [Act.put, List.setIfInBounds_toArray, List.set_cons_zero, List.set_cons_succ]
                  refine wpAnyH_take (i := 11) (v := _) (by simp only [List.getElem?_toArray, List.getElem?_cons_succ, List.getElem?_cons_zero]; rfl) (by kernel_rfl) (by kernel_rfl) (by kernel_rfl) (by exact fun _ _ _ h => h) (Or.inl ⟨by rfl, by (intro w hSw; (try dsimp only at hSw); go_simp; try (with_reducible rfl))⟩) (by assumption) ?_
                  try simp only [Act.put, List.setIfInBounds_toArray, List.set_cons_zero, List.set_cons_succ]
                  refine wpAnyH_take (i := 12) (v := _) (by simp only [List.getElem?_toArray, List.getElem?_cons_succ, List.getElem?_cons_zero]; rfl) (by kernel_rfl) (by kernel_rfl) (by kernel_rfl) (by exact fun _ _ _ h => h) (Or.inl ⟨by rfl, by (intro w hSw; (try dsimp only at hSw); go_simp; try (with_reducible rfl))⟩) (by assumption) ?_
                  try simp only [Act.put, List.setIfInBounds_toArray, List.set_cons_zero, List.set_cons_succ]
                  refine wpAnyH_done (by kernel_rfl) ?_ _
                  have HLS : Hid (LSt hds W0 V4 k (j + 1) vi vb vr vd) := ⟨HT4.out, by rw [HRT.out]; exact HA4.out, by rw [HOT.out]; exact HB4.out, by rw [HRT.out, List.map_append, HHD.out]; exact HC4.out, by rw [HOT.out]; exact HD4.out, DJ1.out.symm, DK1.out.symm⟩
                  go_wp2_with fail
                  go_roundw
                  case rel => exact ⟨j + 1, _, _, _, _, by omega, by go_num, rfl, rfl, rfl, rfl, HLS⟩
                  case measure => simp [intOf]; omega
                · ((refine step_one rfl 22 TR (.tmp 68) rfl j0 (.slice none 0 0) Try.underlying22 HJ0.out HJ1.out HJ2.out rfl (.slice ra len rc) (by rfl) rfl ?_); intro e2 V2 HEr2 hb2; (have HT2 : Hid (Below W0.heap.size W0 V2) := HT1.out.trans (hb2.out.mono HT1.out.size)); (have HA2 := Lib.hid (HA1.out.on hb2.out)); (have HB2 := Lib.hid (HB1.out.on hb2.out)); (have HC2 := Lib.hid (HC1.out.on hb2.out)); (have HD2 := Lib.hid (HD1.out.on hb2.out)); (have HEi2 := Lib.hid ((hb2.out.block _ (lt_block HEi1.out)).trans HEi1.out)); clear hb2)
                  refine hK.out _ _ (by exact HSC.out _ HT2.out) (fun hHeldy16 => ?_)
                  clear hK K hHeldy9
                  try simp only [Act.put, List.setIfInBounds_toArray, List.set_cons_zero, List.set_cons_succ]
                  refine wpAnyH_ready (rs := [3]) (by kernel_rfl) (by simp) ?_
                  refine AllReadyH.cons (by simp only [List.getElem?_toArray, List.getElem?_cons_succ, List.getElem?_cons_zero]; rfl) (fun K hK => ?_) (AllReadyH.nil)
                  ((refine step_app (.tmp 60) (.tmp 62) 33 rfl rfl TI i0 (.int .i64 0) 8 Try.underlying33 HI.out HI1.out HI2.out HI3.out rfl (f := fI) (rightL j k) W0.heap.size (by exact HA2.out) [j] ⟨_, _, _, _, rfl, SL.sl (SL.of_block (xs := [j]) HEi2.out (lt_block HEi2.out))⟩ (fun _ => rfl) HLI.out HLM.out HT2.out.size ?_); intro vi V3 ho3 hg3 hv3 hB3; (have hg : Hid (World.grownBy V2 V3 (va).ownBlock) := hg3); (have HT3 : Hid (Below W0.heap.size W0 V3) := hB3.out _ _ HT2.out (Nat.le_refl _)); (have HA3 := ho3); (have HB3 := Lib.hid (own_dj HB2.out DJ0.out hg.out)); (have HC3 := Lib.hid (own_far HC2.out HA2.out hg.out (by decide))); (have HD3 := Lib.hid (own_far HD2.out HA2.out hg.out (by decide))); (have DJ1 : Hid (Dj vb vi) := Dj.new HB2.out DJ0.out hv3.out); (have HEr3 := Lib.hid (cell_far HEr2.out HA2.out hg.out (by decide))); clear hg hg3 hB3)
                  refine hK.out _ _ (by exact HSC.out _ HT3.out) (fun hHeldy17 => ?_)
                  clear hK K hHeldy16
                  try simp only [Act.put, List.setIfInBounds_toArray, List.set_cons_zero, List.set_cons_succ]
                  refine wpAnyH_ready (rs := [10]) (by kernel_rfl) (by simp) ?_
                  refine AllReadyH.cons (by simp only [List.getElem?_toArray, List.getElem?_cons_succ, List.getElem?_cons_zero]; rfl) (fun K hK => ?_) (AllReadyH.nil)
                  ((refine step_app (.tmp 64) (.tmp 69) 22 rfl rfl TR j0 (.slice none 0 0) 24 Try.underlying22 HJ0.out HJ1.out HJ2.out HJ3.out rfl (f := fS) ((rightL j k).map (hdAt hds)) W0.heap.size (by exact HC3.out) [⟨ra, len, rc⟩] ⟨_, _, _, _, rfl, SL.sl (SL.of_block (xs := [(⟨ra, len, rc⟩ : Hd)]) HEr3.out (lt_block HEr3.out))⟩ fS1 HLR.out HLN.out HT3.out.size ?_); intro vr V4 ho4 hg4 hv4 hB4; (have hg : Hid (World.grownBy V3 V4 (vc).ownBlock) := hg4); (have HT4 : Hid (Below W0.heap.size W0 V4) := hB4.out _ _ HT3.out (Nat.le_refl _)); (have HC4 := ho4); (have HD4 := Lib.hid (own_dj HD3.out DK0.out hg.out)); (have HA4 := Lib.hid (own_far HA3.out HC3.out hg.out (by decide))); (have HB4 := Lib.hid (own_far HB3.out HC3.out hg.out (by decide))); (have DK1 : Hid (Dj vd vr) := Dj.new HD3.out DK0.out hv4.out); clear hg hg4 hB4)
                  refine hK.out _ _ (by exact HSC.out _ HT4.out) (fun hHeldy18 => ?_)
                  clear hK K hHeldy17
                  try simp only [Act.put, List.setIfInBounds_toArray, List.set_cons_zero, List.set_cons_succ]
                  refine wpAnyH_take (i := 11) (v := _) (by simp only [List.getElem?_toArray, List.getElem?_cons_succ, List.getElem?_cons_zero]; rfl) (by kernel_rfl) (by kernel_rfl) (by kernel_rfl) (by exact fun _ _ _ h => h) (Or.inl ⟨by rfl, by (intro w hSw; (try dsimp only at hSw); go_simp; try (with_reducible rfl))⟩) (by assumption) ?_
                  try simp only [Act.put, List.setIfInBounds_toArray, List.set_cons_zero, List.set_cons_succ]
                  refine wpAnyH_take (i := 12) (v := _) (by simp only [List.getElem?_toArray, List.getElem?_cons_succ, List.getElem?_cons_zero]; rfl) (by kernel_rfl) (by kernel_rfl) (by kernel_rfl) (by exact fun _ _ _ h => h) (Or.inl ⟨by rfl, by (intro w hSw; (try dsimp only at hSw); go_simp; try (with_reducible rfl))⟩) (by assumption) ?_
                  try simp only [Act.put, List.setIfInBounds_toArray, List.set_cons_zero, List.set_cons_succ]
                  refine wpAnyH_done (by kernel_rfl) ?_ _
                  have HLS : Hid (LSt hds W0 V4 k (j + 1) vi vb vr vd) := ⟨HT4.out, by rw [HRT.out]; exact HA4.out, by rw [HOT.out]; exact HB4.out, by rw [HRT.out, List.map_append, HHD.out]; exact HC4.out, by rw [HOT.out]; exact HD4.out, DJ1.out.symm, DK1.out.symm⟩
                  go_wp2_with fail
                  go_roundw
                  case rel => exact ⟨j + 1, _, _, _, _, by omega, by go_num, rfl, rfl, rfl, rfl, HLS⟩
                  case measure => simp [intOf]; omega
              · ((refine step_one rfl 22 TR (.tmp 68) rfl j0 (.slice none 0 0) Try.underlying22 HJ0.out HJ1.out HJ2.out rfl (.slice ra len rc) (by rfl) rfl ?_); intro e2 V1 HEr1 hb1; (have HT1 : Hid (Below W0.heap.size W0 V1) := HT0.out.trans (hb1.out.mono HT0.out.size)); (have HA1 := Lib.hid (HA0.out.on hb1.out)); (have HB1 := Lib.hid (HB0.out.on hb1.out)); (have HC1 := Lib.hid (HC0.out.on hb1.out)); (have HD1 := Lib.hid (HD0.out.on hb1.out)); clear hb1)
                refine hK.out _ _ (by exact HSC.out _ HT1.out) (fun hHeldy21 => ?_)
                clear hK K hHeld
                try simp only [Act.put, List.setIfInBounds_toArray, List.set_cons_zero, List.set_cons_succ]
                refine wpAnyH_ready (rs := [2]) (by kernel_rfl) (by simp) ?_
                refine AllReadyH.cons (by simp only [List.getElem?_toArray, List.getElem?_cons_succ, List.getElem?_cons_zero]; rfl) (fun K hK => ?_) (AllReadyH.nil)
                ((refine step_one rfl 33 TI (.tmp 61) rfl i0 (.int .i64 0) Try.underlying33 HI.out HI1.out HI2.out rfl (.int .i64 (j : Int)) (by rfl) rfl ?_); intro e1 V2 HEi2 hb2; (have HT2 : Hid (Below W0.heap.size W0 V2) := HT1.out.trans (hb2.out.mono HT1.out.size)); (have HA2 := Lib.hid (HA1.out.on hb2.out)); (have HB2 := Lib.hid (HB1.out.on hb2.out)); (have HC2 := Lib.hid (HC1.out.on hb2.out)); (have HD2 := Lib.hid (HD1.out.on hb2.out)); (have HEr2 := Lib.hid ((hb2.out.block _ (lt_block HEr1.out)).trans HEr1.out)); clear hb2)
                refine hK.out _ _ (by exact HSC.out _ HT2.out) (fun hHeldy22 => ?_)
                clear hK K hHeldy21
                try simp only [Act.put, List.setIfInBounds_toArray, List.set_cons_zero, List.set_cons_succ]
                refine wpAnyH_ready (rs := [3]) (by kernel_rfl) (by simp) ?_
                refine AllReadyH.cons (by simp only [List.getElem?_toArray, List.getElem?_cons_succ, List.getElem?_cons_zero]; rfl) (fun K hK => ?_) (AllReadyH.nil)
                ((refine step_app (.tmp 60) (.tmp 62) 33 rfl rfl TI i0 (.int .i64 0) 8 Try.underlying33 HI.out HI1.out HI2.out HI3.out rfl (f := fI) (rightL j k) W0.heap.size (by exact HA2.out) [j] ⟨_, _, _, _, rfl, SL.sl (SL.of_block (xs := [j]) HEi2.out (lt_block HEi2.out))⟩ (fun _ => rfl) HLI.out HLM.out HT2.out.size ?_); intro vi V3 ho3 hg3 hv3 hB3; (have hg : Hid (World.grownBy V2 V3 (va).ownBlock) := hg3); (have HT3 : Hid (Below W0.heap.size W0 V3) := hB3.out _ _ HT2.out (Nat.le_refl _)); (have HA3 := ho3); (have HB3 := Lib.hid (own_dj HB2.out DJ0.out hg.out)); (have HC3 := Lib.hid (own_far HC2.out HA2.out hg.out (by decide))); (have HD3 := Lib.hid (own_far HD2.out HA2.out hg.out (by decide))); (have DJ1 : Hid (Dj vb vi) := Dj.new HB2.out DJ0.out hv3.out); (have HEr3 := Lib.hid (cell_far HEr2.out HA2.out hg.out (by decide))); clear hg hg3 hB3)
                refine hK.out _ _ (by exact HSC.out _ HT3.out) (fun hHeldy23 => ?_)
                clear hK K hHeldy22
                try simp only [Act.put, List.setIfInBounds_toArray, List.set_cons_zero, List.set_cons_succ]
                refine wpAnyH_ready (rs := [10]) (by kernel_rfl) (by simp) ?_
                refine AllReadyH.cons (by simp only [List.getElem?_toArray, List.getElem?_cons_succ, List.getElem?_cons_zero]; rfl) (fun K hK => ?_) (AllReadyH.nil)
                ((refine step_app (.tmp 64) (.tmp 69) 22 rfl rfl TR j0 (.slice none 0 0) 24 Try.underlying22 HJ0.out HJ1.out HJ2.out HJ3.out rfl (f := fS) ((rightL j k).map (hdAt hds)) W0.heap.size (by exact HC3.out) [⟨ra, len, rc⟩] ⟨_, _, _, _, rfl, SL.sl (SL.of_block (xs := [(⟨ra, len, rc⟩ : Hd)]) HEr3.out (lt_block HEr3.out))⟩ fS1 HLR.out HLN.out HT3.out.size ?_); intro vr V4 ho4 hg4 hv4 hB4; (have hg : Hid (World.grownBy V3 V4 (vc).ownBlock) := hg4); (have HT4 : Hid (Below W0.heap.size W0 V4) := hB4.out _ _ HT3.out (Nat.le_refl _)); (have HC4 := ho4); (have HD4 := Lib.hid (own_dj HD3.out DK0.out hg.out)); (have HA4 := Lib.hid (own_far HA3.out HC3.out hg.out (by decide))); (have HB4 := Lib.hid (own_far HB3.out HC3.out hg.out (by decide))); (have DK1 : Hid (Dj vd vr) := Dj.new HD3.out DK0.out hv4.out); clear hg hg4 hB4)
                refine hK.out _ _ (by exact HSC.out _ HT4.out) (fun hHeldy24 => ?_)
                clear hK K hHeldy23
                try simp only [Act.put, List.setIfInBounds_toArray, List.set_cons_zero, List.set_cons_succ]
                refine wpAnyH_take (i := 11) (v := _) (by simp only [List.getElem?_toArray, List.getElem?_cons_succ, List.getElem?_cons_zero]; rfl) (by kernel_rfl) (by kernel_rfl) (by kernel_rfl) (by exact fun _ _ _ h => h) (Or.inl ⟨by rfl, by (intro w hSw; (try dsimp only at hSw); go_simp; try (with_reducible rfl))⟩) (by assumption) ?_
                try simp only [Act.put, List.setIfInBounds_toArray, List.set_cons_zero, List.set_cons_succ]
                refine wpAnyH_take (i := 12) (v := _) (by simp only [List.getElem?_toArray, List.getElem?_cons_succ, List.getElem?_cons_zero]; rfl) (by kernel_rfl) (by kernel_rfl) (by kernel_rfl) (by exact fun _ _ _ h => h) (Or.inl ⟨by rfl, by (intro w hSw; (try dsimp only at hSw); go_simp; try (with_reducible rfl))⟩) (by assumption) ?_
                try simp only [Act.put, List.setIfInBounds_toArray, List.set_cons_zero, List.set_cons_succ]
                refine wpAnyH_done (by kernel_rfl) ?_ _
                have HLS : Hid (LSt hds W0 V4 k (j + 1) vi vb vr vd) := ⟨HT4.out, by rw [HRT.out]; exact HA4.out, by rw [HOT.out]; exact HB4.out, by rw [HRT.out, List.map_append, HHD.out]; exact HC4.out, by rw [HOT.out]; exact HD4.out, DJ1.out.symm, DK1.out.symm⟩
                go_wp2_with fail
                go_roundw
                case rel => exact ⟨j + 1, _, _, _, _, by omega, by go_num, rfl, rfl, rfl, rfl, HLS⟩
                case measure => simp [intOf]; omega
            · subst hb
              have hR := rightL_take (m := m) (s := k) hjm
              have hO := otherL_take (m := m) (s := k) hjm
              rw [htb] at hR hO
              have HRT : Hid (rightL (j + 1) k = rightL j k) := hR
              have HOT : Hid (otherL (j + 1) k = otherL j k ++ [j]) := hO
              have DJ0 : Hid (Dj va vb) := HLS.out.ab
              have DK0 : Hid (Dj vc vd) := HLS.out.cd
              have HLI : Hid (((otherL j k).length + [j].length) * 8 ≤ 140737488355328) := by show ((otherL j k).length + 1) * 8 ≤ _; omega
              have HLM : Hid ((otherL j k).length + [j].length ≤ maxLen) := by show (otherL j k).length + 1 ≤ _; unfold maxLen; omega
              have HLR : Hid ((((otherL j k).map (hdAt hds)).length + [(⟨ra, len, rc⟩ : Hd)].length) * 24 ≤ 140737488355328) := by show (((otherL j k).map (hdAt hds)).length + 1) * 24 ≤ _; rw [List.length_map]; omega
              have HLN : Hid (((otherL j k).map (hdAt hds)).length + [(⟨ra, len, rc⟩ : Hd)].length ≤ maxLen) := by show ((otherL j k).map (hdAt hds)).length + 1 ≤ _; rw [List.length_map]; unfold maxLen; omega
              clear hR hO htb hln
              go_wp2_with fail
              refine wp_region_held_drew (S := (fun w' : World => w'.cell? ⟨gb, go + j, none⟩ = some (.slice ra len rc))) (by kernel_rfl) (by exact hcg) (fun hHeld => ?_)
              refine wpAnyH_take (i := 0) (v := _) (by simp only [List.getElem?_toArray, List.getElem?_cons_zero]; rfl) (by kernel_rfl) (by kernel_rfl) (by kernel_rfl) (by exact fun _ _ _ h => h) (Or.inl ⟨by rfl, by (intro w hSw; (try dsimp only at hSw); go_simp; try (with_reducible rfl))⟩) (by assumption) ?_
              try simp only [Act.put, List.setIfInBounds_toArray, List.set_cons_zero, List.set_cons_succ]
              refine wpAnyH_take (i := 1) (v := _) (by simp only [List.getElem?_toArray, List.getElem?_cons_succ, List.getElem?_cons_zero]; rfl) (by kernel_rfl) (by kernel_rfl) (by kernel_rfl) (by exact fun _ _ _ h => h) (Or.inl ⟨by rfl, by (intro w hSw; (try dsimp only at hSw); go_simp; try (with_reducible rfl))⟩) (by assumption) ?_
              try simp only [Act.put, List.setIfInBounds_toArray, List.set_cons_zero, List.set_cons_succ]
              refine wpAnyH_take (i := 4) (v := _) (by simp only [List.getElem?_toArray, List.getElem?_cons_succ, List.getElem?_cons_zero]; rfl) (by kernel_rfl) (by kernel_rfl) (by kernel_rfl) (by exact fun _ _ _ h => h) (Or.inl ⟨by rfl, by (intro w hSw; (try dsimp only at hSw); go_simp; try (with_reducible rfl))⟩) (by assumption) ?_
              try simp only [Act.put, List.setIfInBounds_toArray, List.set_cons_zero, List.set_cons_succ]
              refine wpAnyH_take (i := 5) (v := _) (by simp only [List.getElem?_toArray, List.getElem?_cons_succ, List.getElem?_cons_zero]; rfl) (by kernel_rfl) (by kernel_rfl) (by kernel_rfl) (by exact fun _ _ _ h => h) (Or.inl ⟨by rfl, by (intro w hSw; (try dsimp only at hSw); go_simp; try (with_reducible rfl))⟩) (by assumption) ?_
              try simp only [Act.put, List.setIfInBounds_toArray, List.set_cons_zero, List.set_cons_succ]
              refine wpAnyH_take (i := 6) (v := _) (by simp only [List.getElem?_toArray, List.getElem?_cons_succ, List.getElem?_cons_zero]; rfl) (by kernel_rfl) (by kernel_rfl) (by kernel_rfl) (by exact fun _ _ _ h => h) (Or.inl ⟨by rfl, by (intro w hSw; (try dsimp only at hSw); go_simp; try (with_reducible rfl))⟩) (by assumption) ?_
              try simp only [Act.put, List.setIfInBounds_toArray, List.set_cons_zero, List.set_cons_succ]
              refine wpAnyH_take (i := 7) (v := _) (by simp only [List.getElem?_toArray, List.getElem?_cons_succ, List.getElem?_cons_zero]; rfl) (by kernel_rfl) (by kernel_rfl) (by kernel_rfl) (by exact fun _ _ _ h => h) (Or.inl ⟨by rfl, by (intro w hSw; (try dsimp only at hSw); go_simp; try (with_reducible rfl))⟩) (by assumption) ?_
              try simp only [Act.put, List.setIfInBounds_toArray, List.set_cons_zero, List.set_cons_succ]
              refine wpAnyH_take (i := 8) (v := _) (by simp only [List.getElem?_toArray, List.getElem?_cons_succ, List.getElem?_cons_zero]; rfl) (by kernel_rfl) (by kernel_rfl) (by kernel_rfl) (by exact fun _ _ _ h => h) (Or.inl ⟨by rfl, by (intro w hSw; (try dsimp only at hSw); go_simp; try (with_reducible rfl))⟩) (by assumption) ?_
              try simp only [Act.put, List.setIfInBounds_toArray, List.set_cons_zero, List.set_cons_succ]
              refine wpAnyH_ready (rs := [2, 9]) (by kernel_rfl) (by simp) ?_
              refine AllReadyH.cons (by simp only [List.getElem?_toArray, List.getElem?_cons_succ, List.getElem?_cons_zero]; rfl) (fun K hK => ?_) (AllReadyH.cons (by simp only [List.getElem?_toArray, List.getElem?_cons_succ, List.getElem?_cons_zero]; rfl) (fun K hK => ?_) (AllReadyH.nil))
              · ((refine step_one rfl 33 TI (.tmp 72) rfl i0 (.int .i64 0) Try.underlying33 HI.out HI1.out HI2.out rfl (.int .i64 (j : Int)) (by rfl) rfl ?_); intro e1 V1 HEi1 hb1; (have HT1 : Hid (Below W0.heap.size W0 V1) := HT0.out.trans (hb1.out.mono HT0.out.size)); (have HA1 := Lib.hid (HA0.out.on hb1.out)); (have HB1 := Lib.hid (HB0.out.on hb1.out)); (have HC1 := Lib.hid (HC0.out.on hb1.out)); (have HD1 := Lib.hid (HD0.out.on hb1.out)); clear hb1)
                refine hK.out _ _ (by exact HSC.out _ HT1.out) (fun hHeldx9 => ?_)
                clear hK K hHeld
                try simp only [Act.put, List.setIfInBounds_toArray, List.set_cons_zero, List.set_cons_succ]
                refine wpAnyH_ready (rs := [3, 9]) (by kernel_rfl) (by simp) ?_
                refine AllReadyH.cons (by simp only [List.getElem?_toArray, List.getElem?_cons_succ, List.getElem?_cons_zero]; rfl) (fun K hK => ?_) (AllReadyH.cons (by simp only [List.getElem?_toArray, List.getElem?_cons_succ, List.getElem?_cons_zero]; rfl) (fun K hK => ?_) (AllReadyH.nil))
                · ((refine step_app (.tmp 71) (.tmp 73) 33 rfl rfl TI i0 (.int .i64 0) 8 Try.underlying33 HI.out HI1.out HI2.out HI3.out rfl (f := fI) (otherL j k) W0.heap.size (by exact HB1.out) [j] ⟨_, _, _, _, rfl, SL.sl (SL.of_block (xs := [j]) HEi1.out (lt_block HEi1.out))⟩ (fun _ => rfl) HLI.out HLM.out HT1.out.size ?_); intro vi V2 ho2 hg2 hv2 hB2; (have hg : Hid (World.grownBy V1 V2 (vb).ownBlock) := hg2); (have HT2 : Hid (Below W0.heap.size W0 V2) := hB2.out _ _ HT1.out (Nat.le_refl _)); (have HB2 := ho2); (have HA2 := Lib.hid (own_dj HA1.out DJ0.out hg.out)); (have HC2 := Lib.hid (own_far HC1.out HB1.out hg.out (by decide))); (have HD2 := Lib.hid (own_far HD1.out HB1.out hg.out (by decide))); (have DJ1 : Hid (Dj va vi) := Dj.new HA1.out DJ0.out hv2.out); clear hg hg2 hB2)
                  refine hK.out _ _ (by exact HSC.out _ HT2.out) (fun hHeldx11 => ?_)
                  clear hK K hHeldx9
                  try simp only [Act.put, List.setIfInBounds_toArray, List.set_cons_zero, List.set_cons_succ]
                  refine wpAnyH_ready (rs := [9]) (by kernel_rfl) (by simp) ?_
                  refine AllReadyH.cons (by simp only [List.getElem?_toArray, List.getElem?_cons_succ, List.getElem?_cons_zero]; rfl) (fun K hK => ?_) (AllReadyH.nil)
                  ((refine step_one rfl 22 TR (.tmp 79) rfl j0 (.slice none 0 0) Try.underlying22 HJ0.out HJ1.out HJ2.out rfl (.slice ra len rc) (by rfl) rfl ?_); intro e2 V3 HEr3 hb3; (have HT3 : Hid (Below W0.heap.size W0 V3) := HT2.out.trans (hb3.out.mono HT2.out.size)); (have HA3 := Lib.hid (HA2.out.on hb3.out)); (have HB3 := Lib.hid (HB2.out.on hb3.out)); (have HC3 := Lib.hid (HC2.out.on hb3.out)); (have HD3 := Lib.hid (HD2.out.on hb3.out)); clear hb3)
                  refine hK.out _ _ (by exact HSC.out _ HT3.out) (fun hHeldx12 => ?_)
                  clear hK K hHeldx11
                  try simp only [Act.put, List.setIfInBounds_toArray, List.set_cons_zero, List.set_cons_succ]
                  refine wpAnyH_ready (rs := [10]) (by kernel_rfl) (by simp) ?_
                  refine AllReadyH.cons (by simp only [List.getElem?_toArray, List.getElem?_cons_succ, List.getElem?_cons_zero]; rfl) (fun K hK => ?_) (AllReadyH.nil)
                  ((refine step_app (.tmp 75) (.tmp 80) 22 rfl rfl TR j0 (.slice none 0 0) 24 Try.underlying22 HJ0.out HJ1.out HJ2.out HJ3.out rfl (f := fS) ((otherL j k).map (hdAt hds)) W0.heap.size (by exact HD3.out) [⟨ra, len, rc⟩] ⟨_, _, _, _, rfl, SL.sl (SL.of_block (xs := [(⟨ra, len, rc⟩ : Hd)]) HEr3.out (lt_block HEr3.out))⟩ fS1 HLR.out HLN.out HT3.out.size ?_); intro vr V4 ho4 hg4 hv4 hB4; (have hg : Hid (World.grownBy V3 V4 (vd).ownBlock) := hg4); (have HT4 : Hid (Below W0.heap.size W0 V4) := hB4.out _ _ HT3.out (Nat.le_refl _)); (have HD4 := ho4); (have HC4 := Lib.hid (own_dj HC3.out DK0.out hg.out)); (have HA4 := Lib.hid (own_far HA3.out HD3.out hg.out (by decide))); (have HB4 := Lib.hid (own_far HB3.out HD3.out hg.out (by decide))); (have DK1 : Hid (Dj vc vr) := Dj.new HC3.out DK0.out hv4.out); clear hg hg4 hB4)
                  refine hK.out _ _ (by exact HSC.out _ HT4.out) (fun hHeldx13 => ?_)
                  clear hK K hHeldx12
                  try simp only [Act.put, List.setIfInBounds_toArray, List.set_cons_zero, List.set_cons_succ]
                  refine wpAnyH_take (i := 11) (v := _) (by simp only [List.getElem?_toArray, List.getElem?_cons_succ, List.getElem?_cons_zero]; rfl) (by kernel_rfl) (by kernel_rfl) (by kernel_rfl) (by exact fun _ _ _ h => h) (Or.inl ⟨by rfl, by (intro w hSw; (try dsimp only at hSw); go_simp; try (with_reducible rfl))⟩) (by assumption) ?_
                  try simp only [Act.put, List.setIfInBounds_toArray, List.set_cons_zero, List.set_cons_succ]
                  refine wpAnyH_take (i := 12) (v := _) (by simp only [List.getElem?_toArray, List.getElem?_cons_succ, List.getElem?_cons_zero]; rfl) (by kernel_rfl) (by kernel_rfl) (by kernel_rfl) (by exact fun _ _ _ h => h) (Or.inl ⟨by rfl, by (intro w hSw; (try dsimp only at hSw); go_simp; try (with_reducible rfl))⟩) (by assumption) ?_
                  try simp only [Act.put, List.setIfInBounds_toArray, List.set_cons_zero, List.set_cons_succ]
                  refine wpAnyH_done (by kernel_rfl) ?_ _
                  have HLS : Hid (LSt hds W0 V4 k (j + 1) va vi vc vr) := ⟨HT4.out, by rw [HRT.out]; exact HA4.out, by rw [HOT.out]; exact HB4.out, by rw [HRT.out]; exact HC4.out, by rw [HOT.out, List.map_append, HHD.out]; exact HD4.out, DJ1.out, DK1.out⟩
                  go_wp2_with fail
                  go_roundw
                  case rel => exact ⟨j + 1, _, _, _, _, by omega, by go_num, rfl, rfl, rfl, rfl, HLS⟩
                  case measure => simp [intOf]; omega
                · ((refine step_one rfl 22 TR (.tmp 79) rfl j0 (.slice none 0 0) Try.underlying22 HJ0.out HJ1.out HJ2.out rfl (.slice ra len rc) (by rfl) rfl ?_); intro e2 V2 HEr2 hb2; (have HT2 : Hid (Below W0.heap.size W0 V2) := HT1.out.trans (hb2.out.mono HT1.out.size)); (have HA2 := Lib.hid (HA1.out.on hb2.out)); (have HB2 := Lib.hid (HB1.out.on hb2.out)); (have HC2 := Lib.hid (HC1.out.on hb2.out)); (have HD2 := Lib.hid (HD1.out.on hb2.out)); (have HEi2 := Lib.hid ((hb2.out.block _ (lt_block HEi1.out)).trans HEi1.out)); clear hb2)
                  refine hK.out _ _ (by exact HSC.out _ HT2.out) (fun hHeldx16 => ?_)
                  clear hK K hHeldx9
                  try simp only [Act.put, List.setIfInBounds_toArray, List.set_cons_zero, List.set_cons_succ]
                  refine wpAnyH_ready (rs := [3]) (by kernel_rfl) (by simp) ?_
                  refine AllReadyH.cons (by simp only [List.getElem?_toArray, List.getElem?_cons_succ, List.getElem?_cons_zero]; rfl) (fun K hK => ?_) (AllReadyH.nil)
                  ((refine step_app (.tmp 71) (.tmp 73) 33 rfl rfl TI i0 (.int .i64 0) 8 Try.underlying33 HI.out HI1.out HI2.out HI3.out rfl (f := fI) (otherL j k) W0.heap.size (by exact HB2.out) [j] ⟨_, _, _, _, rfl, SL.sl (SL.of_block (xs := [j]) HEi2.out (lt_block HEi2.out))⟩ (fun _ => rfl) HLI.out HLM.out HT2.out.size ?_); intro vi V3 ho3 hg3 hv3 hB3; (have hg : Hid (World.grownBy V2 V3 (vb).ownBlock) := hg3); (have HT3 : Hid (Below W0.heap.size W0 V3) := hB3.out _ _ HT2.out (Nat.le_refl _)); (have HB3 := ho3); (have HA3 := Lib.hid (own_dj HA2.out DJ0.out hg.out)); (have HC3 := Lib.hid (own_far HC2.out HB2.out hg.out (by decide))); (have HD3 := Lib.hid (own_far HD2.out HB2.out hg.out (by decide))); (have DJ1 : Hid (Dj va vi) := Dj.new HA2.out DJ0.out hv3.out); (have HEr3 := Lib.hid (cell_far HEr2.out HB2.out hg.out (by decide))); clear hg hg3 hB3)
                  refine hK.out _ _ (by exact HSC.out _ HT3.out) (fun hHeldx17 => ?_)
                  clear hK K hHeldx16
                  try simp only [Act.put, List.setIfInBounds_toArray, List.set_cons_zero, List.set_cons_succ]
                  refine wpAnyH_ready (rs := [10]) (by kernel_rfl) (by simp) ?_
                  refine AllReadyH.cons (by simp only [List.getElem?_toArray, List.getElem?_cons_succ, List.getElem?_cons_zero]; rfl) (fun K hK => ?_) (AllReadyH.nil)
                  ((refine step_app (.tmp 75) (.tmp 80) 22 rfl rfl TR j0 (.slice none 0 0) 24 Try.underlying22 HJ0.out HJ1.out HJ2.out HJ3.out rfl (f := fS) ((otherL j k).map (hdAt hds)) W0.heap.size (by exact HD3.out) [⟨ra, len, rc⟩] ⟨_, _, _, _, rfl, SL.sl (SL.of_block (xs := [(⟨ra, len, rc⟩ : Hd)]) HEr3.out (lt_block HEr3.out))⟩ fS1 HLR.out HLN.out HT3.out.size ?_); intro vr V4 ho4 hg4 hv4 hB4; (have hg : Hid (World.grownBy V3 V4 (vd).ownBlock) := hg4); (have HT4 : Hid (Below W0.heap.size W0 V4) := hB4.out _ _ HT3.out (Nat.le_refl _)); (have HD4 := ho4); (have HC4 := Lib.hid (own_dj HC3.out DK0.out hg.out)); (have HA4 := Lib.hid (own_far HA3.out HD3.out hg.out (by decide))); (have HB4 := Lib.hid (own_far HB3.out HD3.out hg.out (by decide))); (have DK1 : Hid (Dj vc vr) := Dj.new HC3.out DK0.out hv4.out); clear hg hg4 hB4)
                  refine hK.out _ _ (by exact HSC.out _ HT4.out) (fun hHeldx18 => ?_)
                  clear hK K hHeldx17
                  try simp only [Act.put, List.setIfInBounds_toArray, List.set_cons_zero, List.set_cons_succ]
                  refine wpAnyH_take (i := 11) (v := _) (by simp only [List.getElem?_toArray, List.getElem?_cons_succ, List.getElem?_cons_zero]; rfl) (by kernel_rfl) (by kernel_rfl) (by kernel_rfl) (by exact fun _ _ _ h => h) (Or.inl ⟨by rfl, by (intro w hSw; (try dsimp only at hSw); go_simp; try (with_reducible rfl))⟩) (by assumption) ?_
                  try simp only [Act.put, List.setIfInBounds_toArray, List.set_cons_zero, List.set_cons_succ]
                  refine wpAnyH_take (i := 12) (v := _) (by simp only [List.getElem?_toArray, List.getElem?_cons_succ, List.getElem?_cons_zero]; rfl) (by kernel_rfl) (by kernel_rfl) (by kernel_rfl) (by exact fun _ _ _ h => h) (Or.inl ⟨by rfl, by (intro w hSw; (try dsimp only at hSw); go_simp; try (with_reducible rfl))⟩) (by assumption) ?_
                  try simp only [Act.put, List.setIfInBounds_toArray, List.set_cons_zero, List.set_cons_succ]
                  refine wpAnyH_done (by kernel_rfl) ?_ _
                  have HLS : Hid (LSt hds W0 V4 k (j + 1) va vi vc vr) := ⟨HT4.out, by rw [HRT.out]; exact HA4.out, by rw [HOT.out]; exact HB4.out, by rw [HRT.out]; exact HC4.out, by rw [HOT.out, List.map_append, HHD.out]; exact HD4.out, DJ1.out, DK1.out⟩
                  go_wp2_with fail
                  go_roundw
                  case rel => exact ⟨j + 1, _, _, _, _, by omega, by go_num, rfl, rfl, rfl, rfl, HLS⟩
                  case measure => simp [intOf]; omega
              · ((refine step_one rfl 22 TR (.tmp 79) rfl j0 (.slice none 0 0) Try.underlying22 HJ0.out HJ1.out HJ2.out rfl (.slice ra len rc) (by rfl) rfl ?_); intro e2 V1 HEr1 hb1; (have HT1 : Hid (Below W0.heap.size W0 V1) := HT0.out.trans (hb1.out.mono HT0.out.size)); (have HA1 := Lib.hid (HA0.out.on hb1.out)); (have HB1 := Lib.hid (HB0.out.on hb1.out)); (have HC1 := Lib.hid (HC0.out.on hb1.out)); (have HD1 := Lib.hid (HD0.out.on hb1.out)); clear hb1)
                refine hK.out _ _ (by exact HSC.out _ HT1.out) (fun hHeldx21 => ?_)
                clear hK K hHeld
                try simp only [Act.put, List.setIfInBounds_toArray, List.set_cons_zero, List.set_cons_succ]
                refine wpAnyH_ready (rs := [2]) (by kernel_rfl) (by simp) ?_
                refine AllReadyH.cons (by simp only [List.getElem?_toArray, List.getElem?_cons_succ, List.getElem?_cons_zero]; rfl) (fun K hK => ?_) (AllReadyH.nil)
                ((refine step_one rfl 33 TI (.tmp 72) rfl i0 (.int .i64 0) Try.underlying33 HI.out HI1.out HI2.out rfl (.int .i64 (j : Int)) (by rfl) rfl ?_); intro e1 V2 HEi2 hb2; (have HT2 : Hid (Below W0.heap.size W0 V2) := HT1.out.trans (hb2.out.mono HT1.out.size)); (have HA2 := Lib.hid (HA1.out.on hb2.out)); (have HB2 := Lib.hid (HB1.out.on hb2.out)); (have HC2 := Lib.hid (HC1.out.on hb2.out)); (have HD2 := Lib.hid (HD1.out.on hb2.out)); (have HEr2 := Lib.hid ((hb2.out.block _ (lt_block HEr1.out)).trans HEr1.out)); clear hb2)
                refine hK.out _ _ (by exact HSC.out _ HT2.out) (fun hHeldx22 => ?_)
                clear hK K hHeldx21
                try simp only [Act.put, List.setIfInBounds_toArray, List.set_cons_zero, List.set_cons_succ]
                refine wpAnyH_ready (rs := [3]) (by kernel_rfl) (by simp) ?_
                refine AllReadyH.cons (by simp only [List.getElem?_toArray, List.getElem?_cons_succ, List.getElem?_cons_zero]; rfl) (fun K hK => ?_) (AllReadyH.nil)
                ((refine step_app (.tmp 71) (.tmp 73) 33 rfl rfl TI i0 (.int .i64 0) 8 Try.underlying33 HI.out HI1.out HI2.out HI3.out rfl (f := fI) (otherL j k) W0.heap.size (by exact HB2.out) [j] ⟨_, _, _, _, rfl, SL.sl (SL.of_block (xs := [j]) HEi2.out (lt_block HEi2.out))⟩ (fun _ => rfl) HLI.out HLM.out HT2.out.size ?_); intro vi V3 ho3 hg3 hv3 hB3; (have hg : Hid (World.grownBy V2 V3 (vb).ownBlock) := hg3); (have HT3 : Hid (Below W0.heap.size W0 V3) := hB3.out _ _ HT2.out (Nat.le_refl _)); (have HB3 := ho3); (have HA3 := Lib.hid (own_dj HA2.out DJ0.out hg.out)); (have HC3 := Lib.hid (own_far HC2.out HB2.out hg.out (by decide))); (have HD3 := Lib.hid (own_far HD2.out HB2.out hg.out (by decide))); (have DJ1 : Hid (Dj va vi) := Dj.new HA2.out DJ0.out hv3.out); (have HEr3 := Lib.hid (cell_far HEr2.out HB2.out hg.out (by decide))); clear hg hg3 hB3)
                refine hK.out _ _ (by exact HSC.out _ HT3.out) (fun hHeldx23 => ?_)
                clear hK K hHeldx22
                try simp only [Act.put, List.setIfInBounds_toArray, List.set_cons_zero, List.set_cons_succ]
                refine wpAnyH_ready (rs := [10]) (by kernel_rfl) (by simp) ?_
                refine AllReadyH.cons (by simp only [List.getElem?_toArray, List.getElem?_cons_succ, List.getElem?_cons_zero]; rfl) (fun K hK => ?_) (AllReadyH.nil)
                ((refine step_app (.tmp 75) (.tmp 80) 22 rfl rfl TR j0 (.slice none 0 0) 24 Try.underlying22 HJ0.out HJ1.out HJ2.out HJ3.out rfl (f := fS) ((otherL j k).map (hdAt hds)) W0.heap.size (by exact HD3.out) [⟨ra, len, rc⟩] ⟨_, _, _, _, rfl, SL.sl (SL.of_block (xs := [(⟨ra, len, rc⟩ : Hd)]) HEr3.out (lt_block HEr3.out))⟩ fS1 HLR.out HLN.out HT3.out.size ?_); intro vr V4 ho4 hg4 hv4 hB4; (have hg : Hid (World.grownBy V3 V4 (vd).ownBlock) := hg4); (have HT4 : Hid (Below W0.heap.size W0 V4) := hB4.out _ _ HT3.out (Nat.le_refl _)); (have HD4 := ho4); (have HC4 := Lib.hid (own_dj HC3.out DK0.out hg.out)); (have HA4 := Lib.hid (own_far HA3.out HD3.out hg.out (by decide))); (have HB4 := Lib.hid (own_far HB3.out HD3.out hg.out (by decide))); (have DK1 : Hid (Dj vc vr) := Dj.new HC3.out DK0.out hv4.out); clear hg hg4 hB4)
                refine hK.out _ _ (by exact HSC.out _ HT4.out) (fun hHeldx24 => ?_)
                clear hK K hHeldx23
                try simp only [Act.put, List.setIfInBounds_toArray, List.set_cons_zero, List.set_cons_succ]
                refine wpAnyH_take (i := 11) (v := _) (by simp only [List.getElem?_toArray, List.getElem?_cons_succ, List.getElem?_cons_zero]; rfl) (by kernel_rfl) (by kernel_rfl) (by kernel_rfl) (by exact fun _ _ _ h => h) (Or.inl ⟨by rfl, by (intro w hSw; (try dsimp only at hSw); go_simp; try (with_reducible rfl))⟩) (by assumption) ?_
                try simp only [Act.put, List.setIfInBounds_toArray, List.set_cons_zero, List.set_cons_succ]
                refine wpAnyH_take (i := 12) (v := _) (by simp only [List.getElem?_toArray, List.getElem?_cons_succ, List.getElem?_cons_zero]; rfl) (by kernel_rfl) (by kernel_rfl) (by kernel_rfl) (by exact fun _ _ _ h => h) (Or.inl ⟨by rfl, by (intro w hSw; (try dsimp only at hSw); go_simp; try (with_reducible rfl))⟩) (by assumption) ?_
                try simp only [Act.put, List.setIfInBounds_toArray, List.set_cons_zero, List.set_cons_succ]
                refine wpAnyH_done (by kernel_rfl) ?_ _
                have HLS : Hid (LSt hds W0 V4 k (j + 1) va vi vc vr) := ⟨HT4.out, by rw [HRT.out]; exact HA4.out, by rw [HOT.out]; exact HB4.out, by rw [HRT.out]; exact HC4.out, by rw [HOT.out, List.map_append, HHD.out]; exact HD4.out, DJ1.out, DK1.out⟩
                go_wp2_with fail
                go_roundw
                case rel => exact ⟨j + 1, _, _, _, _, by omega, by go_num, rfl, rfl, rfl, rfl, HLS⟩
                case measure => simp [intOf]; omega
          · obtain rfl : j = m := by omega
            have HBWr : Hid (Below w.heap.size w wr) := HBw.out.trans (HLS.out.bw.mono HBw.out.size)
            have hrl : (rightL j k).length + o = j := by
              have p1 := right_len j k
              have p2 := HCN.out
              omega
            have hwq := HD.out.2.2.2.2.2
            have hd1 := HD.out.1
            have hdj := HD.out.2.1
            have hj8 := HD.out.2.2.1
            obtain ⟨n, hn⟩ : ∃ n, (rightL j k).length = n := ⟨_, rfl⟩
            rw [hn] at hrl
            have hdn : d ≤ n := by omega
            have hn64 : n ≤ 64 := by omega
            obtain ⟨ra, rc, hra, hrc, hrs, _⟩ := HLS.out.oa.shape
            obtain ⟨oa, oc, hoa, hoc, hos, _⟩ := HLS.out.ob.shape
            rw [hn] at hra hrc
            rw [HCN.out] at hoa hoc
            obtain ⟨rpA, rpc, hrp, hrpc, hrps⟩ := sll_of HGL.out HHL.out HRW.out (HBWr.out.mono HBB.out) (Nat.le_trans HBB.out HBWr.out.size) HLS.out.oc (fun i hi => rightL_lt hi)
            obtain ⟨opA, opc, hop, hopc, hops⟩ := sll_of HGL.out HHL.out HRW.out (HBWr.out.mono HBB.out) (Nat.le_trans HBB.out HBWr.out.size) HLS.out.od (fun i hi => otherL_lt hi)
            rw [hn] at hrp hrpc hrps
            rw [HCN.out] at hop hopc hops
            subst hra hoa hrp hop
            have hrl2 : Sl fI wr wr.heap.size ra n (rightL j k) := ⟨hn, hrs⟩
            have hol2 : Sl fI wr wr.heap.size oa o (otherL j k) := ⟨HCN.out, hos⟩
            have hasc : Asc (rightL j k) := asc_filter _ j
            have hasco : Asc (otherL j k) := asc_filter _ j
            have hr8 : ∀ i ∈ rightL j k, i < 8 := fun i hi => by have := rightL_lt hi; omega
            have ho8 : ∀ i ∈ otherL j k, i < 8 := fun i hi => by have := otherL_lt hi; omega
            have hlen : ((rightL j k).take d).length = d := by rw [List.length_take, hn]; omega
            have hI : InvOk ((rightL j k).take d) := invOk (hasc.sublist (List.take_sublist d _)) (fun i hi => hr8 i (List.mem_of_mem_take hi)) (fun q => by rw [q] at hlen; simp at hlen; omega)
            have hPok : MtOk len (atL given (rightL j k)) := atL_bys HGL.out HOK.out (fun i hi => rightL_lt hi)
            have hOok : MtOk len (atL given (otherL j k)) := atL_bys HGL.out HOK.out (fun i hi => otherL_lt hi)
            have hFok : ∀ ws : List Nat, (∀ i ∈ ws, i < 8) → MtOk d (factP d (rightL j k) ws) := fun ws hws r hr => by
              have hI3 := hI.bys
              rw [hlen] at hI3
              obtain ⟨x, hx, rfl⟩ := List.mem_map.1 hr
              obtain ⟨i, hi, rfl⟩ := List.mem_map.1 hx
              have hr8 := rowP_bys (d := d) (by omega) (hws i hi)
              exact ⟨comb_len _ (fun b hb => (hI3 b hb).1), comb_bys hr8.2⟩
            have hsl' : ∀ w, (Instr.slice 33 (.slice ra n rc) (some (.int .i64 (d : Int))) none none).run Try.prog w = .ok (.slice (if rc = d then ra else ra.map (·.add d)) (n - d) (rc - d)) w := fun w => run_slice_cut 33 TI i0 Try.underlying33 HI.out HI2.out ra n rc d hdn hrc w
            have hcut := SL.cut hrs (n := d) (cap := rc) (by rw [hn]; exact hrc)
            obtain ⟨AD, hAD⟩ : ∃ AD, (if rc = d then ra else ra.map (·.add d)) = AD := ⟨_, rfl⟩
            rw [hAD] at hcut
            have hsl : ∀ w, (Instr.slice 33 (.slice ra n rc) (some (.int .i64 (d : Int))) none none).run Try.prog w = .ok (.slice AD (n - d) (rc - d)) w := fun w => by rw [hsl' w, hAD]
            have hdl : ((rightL j k).drop d).length = n - d := by rw [List.length_drop, hn]
            have htab : wr.heap[w2.heap.size]? = some (.cells (tFull d) TT (0, 0)) := ((HLS.out.bw.mono (Nat.le_refl _)).block _ (Nat.lt_of_lt_of_le (lt_block HG3.out) HB.out.size)).trans ((HB.out.block _ (lt_block HG3.out)).trans HG3.out)
            have HFA := Lib.hid (factors_any w2.heap.size d n rc (n - d) (rc - d) wr.heap.size ra AD (rightL j k) ((rightL j k).drop d) wr htab hd1 (by omega) hrl2 ⟨hdl, hcut⟩ (Nat.le_refl _) (fun i hi => by have := hr8 i hi; omega) (fun i hi => by have := hr8 i (List.mem_of_mem_drop hi); omega) (fun i hi => hr8 i (List.mem_of_mem_drop hi)) hn64 (by omega) hdn hrc hI)
            have HFB : Hid (∀ V, Below wr.heap.size wr V → Calls Try.prog 23 #[.pointer (some ⟨w2.heap.size, 0, none⟩), .slice ra n rc, .slice oa o oc] V (SlP (factP d (rightL j k) (otherL j k)) o V)) := fun V hv =>
              factors_any w2.heap.size d n rc o oc wr.heap.size ra oa (rightL j k) (otherL j k) V ((hv.block _ (lt_block htab)).trans htab) hd1 (by omega) (hrl2.up hv (Nat.le_refl _)) (hol2.up hv (Nat.le_refl _)) hv.size (fun i hi => by have := hr8 i hi; omega) (fun i hi => by have := ho8 i hi; omega) ho8 hn64 (by omega) hdn hrc hI
            obtain ⟨F, hF⟩ : ∃ F, factP d (rightL j k) ((rightL j k).drop d) = F := ⟨_, rfl⟩
            have hFm : MtOk d F := by rw [← hF]; exact hFok _ (fun i hi => hr8 i (List.mem_of_mem_drop hi))
            rw [hF] at HFA
            have hoke : okS len d j given k ↔ okP len d (atL given (rightL j k)) F := by unfold okS; rw [hF]
            have hplS : ∀ V, Below wr.heap.size wr V → Sl fI V V.heap.size va np pl ∧ Own fI TI V w3.heap.size (.slice va np vc) pl := fun V hv => by
              have h1 := (HO.out.on HLS.out.bw).on hv
              obtain ⟨A', c', e1, _, e3, _⟩ := h1.shape
              rw [HNP.out] at e1
              injection e1 with e1 _ _
              subst e1
              exact ⟨⟨HNP.out, e3⟩, h1⟩
            have hple : np ≤ 1000 := by
              have p1 := HPL.out.2
              rw [HNP.out] at p1
              have p2 := HK256.out
              omega
            have HFT : Hid (∀ V FA fc, Below wr.heap.size wr V → SLL fN V V.heap.size FA (n - d) F → Calls Try.prog 24 #[.slice rpA n rpc, .slice FA (n - d) fc, .slice va np vc] V (FtP (okP len d (atL given (rightL j k)) F) V)) := fun V FA fc hv hs =>
              fits_any rpA FA va n rpc (n - d) fc np vc d len V.heap.size _ F pl V ((hrps.up hv (Nat.le_refl _)).more hv.size) hs (hplS V hv).1 (Nat.le_refl _) hPok hFm HPL.out.1 (by omega) (by omega) hn64 HD.out.2.2.2.2.1 hple
            have HCF : Hid (∀ V FA fc, Below wr.heap.size wr V → SLL fN V V.heap.size FA (n - d) F → Calls Try.prog 25 #[.slice rpA n rpc, .slice FA (n - d) fc] V (CfP len (okP len d (atL given (rightL j k)) F) V)) := fun V FA fc hv hs =>
              conflict_any rpA FA n rpc (n - d) fc d len V.heap.size _ F V ((hrps.up hv (Nat.le_refl _)).more hv.size) hs (Nat.le_refl _) hPok hFm (by omega) (by omega) hrpc hn64 HD.out.2.2.2.2.1
            have HDF : Hid (∀ V FA fc, Below wr.heap.size wr V → SLL fN V V.heap.size FA o (factP d (rightL j k) (otherL j k)) → okP len d (atL given (rightL j k)) F → Calls Try.prog 26 #[.slice rpA n rpc, .slice FA o fc, .slice oa o oc, .slice opA o opc] V (IsP bad V)) := fun V FA fc hv hs hk => by
              have q := differing_any rpA FA oa opA n rpc o fc oc opc d len V.heap.size _ _ _ (otherL j k) V ((hrps.up hv (Nat.le_refl _)).more hv.size) hs ((hol2.up hv (Nat.le_refl _)).more' hv.size) ((hops.up hv (Nat.le_refl _)).more hv.size) (Nat.le_refl _) hPok (hFok _ ho8) hOok hasco (by omega) hdn hrpc hn64 HD.out.2.2.2.2.1 (by omega)
              rwa [HBAD.out k HKM.out HCN.out (hoke.2 hk)] at q
            obtain ⟨G, hG⟩ : ∃ G, factP d (rightL j k) (otherL j k) = G := ⟨_, rfl⟩
            rw [hG] at HFB HDF
            have HPS := Lib.hid hplS
            have HOE := Lib.hid hoke
            obtain ⟨OKp, hOKp⟩ : ∃ p : Prop, okP len d (atL given (rightL j k)) F = p := ⟨_, rfl⟩
            rw [hOKp] at HFT HCF HDF HOE
            have HNX : Hid (¬ OKp → ∀ s, s < k + 1 → ¬ ((otherL j s).length = o ∧ okS len d j given s)) := fun hno s hs g => by
              by_cases e : s = k
              · subst e; exact hno (HOE.out.1 g.2)
              · exact HNO.out s (by omega) g
            have HP2 : Hid ((∀ p ∈ pl, p < len) ∧ pl.length ≤ k + 1) := ⟨HPL.out.1, Nat.le_succ_of_le HPL.out.2⟩
            have HLSb : Hid (Below W0.heap.size W0 wr) := HLS.out.bw
            have hdnI : (d : Int) ≤ (n : Int) := by omega
            have hnI : (n : Int) ≤ 64 := by omega
            have hnpI : (np : Int) ≤ 1000 := by omega
            have hlenI : (len : Int) ≤ 65536 := by have := HD.out.2.2.2.2.1; omega
            have HL1 : Hid ((pl.length + 1) * 8 ≤ 140737488355328) := by show (pl.length + 1) * 8 ≤ _; rw [HNP.out]; omega
            have HL2 : Hid (pl.length + 1 ≤ maxLen) := by show pl.length + 1 ≤ _; rw [HNP.out]; unfold maxLen; omega
            clear hrl hwq hd1 hdj hj8 hn hdn hn64 hrc hrs hoc hos hrpc hrps hopc hops hrl2 hol2 hasc hasco hr8 ho8 hlen hI hPok hOok hFok hsl' hcut hAD hdl htab hF hFm hoke hplS hple hG hOKp HLS
            go_upto_region 21 with (go_at_call 23; (with_reducible refine HFA.out.mono ?_); rintro e w5 ⟨FA, fc, rfl, hfc, hs5, hb5⟩; (have HB5 := Lib.hid hb5); (have HS5 := Lib.hid hs5); clear hfc hs5 hb5)
            go_wp2_with fail
            refine (HFT.out _ _ _ HB5.out HS5.out).mono ?_
            rintro e w6 ⟨t, rfl, ht, hb6⟩
            have HT := Lib.hid ht
            have HB6 : Hid (Below wr.heap.size wr w6) := HB5.out.trans (hb6.mono HB5.out.size)
            have HS6 := Lib.hid ((HS5.out.up hb6 (Nat.le_refl _)).more hb6.size)
            have HW6 : Hid (Below w3.heap.size w3 w6) := HB.out.trans ((HLSb.out.trans (HB6.out.mono HLSb.out.size)).mono HB.out.size)
            have HO6 := Lib.hid (HPS.out w6 HB6.out).2
            clear ht hb6 HS5 HB5 HFA HFT
            cases t with
            | false =>
              have HN2 := Lib.hid (HNX.out (fun g => by have q := HT.out g; cases q))
              go_wp2_with fail
              go_roundw
              case rel => exact ⟨k + 1, pl, by omega, by go_num, HW6, HO6, HP2, HN2⟩
              case measure => simp [intOf]; omega
            | true =>
              go_wp2_with fail
              refine (HCF.out _ _ _ HB6.out HS6.out).mono ?_
              rintro e w7 ⟨r, rfl, hr, hb7⟩
              have HB7 : Hid (Below wr.heap.size wr w7) := HB6.out.trans (hb7.mono HB6.out.size)
              have HW7 : Hid (Below w3.heap.size w3 w7) := HB.out.trans ((HLSb.out.trans (HB7.out.mono HLSb.out.size)).mono HB.out.size)
              have HO7 := Lib.hid (HPS.out w7 HB7.out).2
              clear hb7 HS6 HB6 HCF HT
              by_cases hr0 : r < 0
              · have hok : OKp := by
                  rcases hr with ⟨_, q⟩ | ⟨q, _, _⟩
                  · exact q
                  · omega
                have HOKp := Lib.hid hok
                have HFBw := Lib.hid (HFB.out w7 HB7.out)
                clear hr hok
                go_wp2_with (first
                  | (go_at_call 23; (with_reducible refine HFBw.out.mono ?_); rintro e w8 ⟨FG, gc, rfl, hgc, hs8, hb8⟩; (have HB8 : Hid (Below wr.heap.size wr w8) := HB7.out.trans (hb8.mono HB7.out.size)); (have HD8 := Lib.hid (HDF.out w8 FG gc HB8.out hs8 HOKp.out)); clear hgc hs8 hb8)
                  | (go_at_call 26; (with_reducible refine HD8.out.mono ?_); rintro e w9 ⟨A9, c9, rfl, hs9, hb9⟩; (have HS9 := Lib.hid hs9); (have HB9 : Hid (Below wr.heap.size wr w9) := HB8.out.trans (hb9.mono HB8.out.size)); clear hs9 hb9))
                go_ret2
                exact ⟨A9, c9, rfl, HS9.out, HBWr.out.trans (HB9.out.mono HBWr.out.size)⟩
              · obtain ⟨p, hp, hpl, hno⟩ : ∃ p : Nat, (p : Int) = r ∧ p < len ∧ ¬ OKp := by
                  rcases hr with ⟨q, _⟩ | ⟨q1, q2, q3⟩
                  · omega
                  · exact ⟨r.toNat, by omega, by omega, q3⟩
                subst hp
                have HN2 := Lib.hid (HNX.out hno)
                have HP3 : Hid ((∀ x ∈ pl ++ [p], x < len) ∧ (pl ++ [p]).length ≤ k + 1) := ⟨fun x hx => by
                  rcases List.mem_append.1 hx with h | h
                  · exact HPL.out.1 x h
                  · obtain rfl : x = p := by simpa using h
                    exact hpl, by rw [List.length_append]; have := HPL.out.2; simp; omega⟩
                have hr0d : decide ((p : Int) < 0) = false := decide_eq_false hr0
                have HSZ7 : Hid (w3.heap.size ≤ w7.heap.size) := HW7.out.size
                clear hr hpl hno
                go_wp2_with (at_builtin; (refine wpList_app1 (o := ⟨some 110, _, _, _, _, _⟩) (f := fI) rfl (.tmp 107) (.tmp 109) 33 rfl TI i0 (.int .i64 0) 8 Try.underlying33 HI.out HI1.out HI2.out HI3.out rfl (.slice va np vc) pl w3.heap.size (by rfl) HO7.out p 1 (by rfl) (fun _ => rfl) HL1.out HL2.out HSZ7.out ?_); intro v8 W8 HO8 HG8 HV8)
                have HW8 : Hid (Below w3.heap.size w3 W8) := HW7.out.trans (grown_below HG8.out (fun x hx => (World.ownsRow.lt HO7.out x hx).1) HW7.out.size)
                go_roundw
                case rel => exact ⟨k + 1, pl ++ [p], by omega, by go_num, HW8, HO8, HP3, HN2⟩
                case measure => simp [intOf]; omega
      · have how1 : ((o : Int) == (wq : Int)) = false := by simp; omega
        have how2 : ((o : Int) != (wq : Int)) = true := by simp; omega
        have how3 : decide (o = wq) = false := by simp; omega
        have how4 : (o == wq) = false := by simp; omega
        have HN2 : Hid (∀ s, s < k + 1 → ¬ ((otherL m s).length = wq ∧ okS len d m given s)) := fun s hs g => by
          by_cases e : s = k
          · subst e; exact how (HCN.out.symm.trans g.1)
          · exact HNO.out s (by omega) g
        have HP2 : Hid ((∀ p ∈ pl, p < len) ∧ pl.length ≤ k + 1) := ⟨HPL.out.1, Nat.le_succ_of_le HPL.out.2⟩
        clear how
        go_wp2_with (go_at_call 22; (with_reducible refine HON.out.mono ?_); rintro e w' ⟨rfl, rfl⟩)
        go_roundw
        case rel => exact ⟨k + 1, pl, by omega, by go_num, HB, HO, HP2, HN2⟩
        case measure => simp [intOf]; omega
    · exfalso
      obtain rfl : k = M := by omega
      obtain ⟨s, hs, q1, q2⟩ := HEX.out
      exact HNO.out s (by rw [← HMM.out]; exact hs) ⟨q1, q2⟩
end Go.Proofs.Ytpbeaghghlfiaaa
