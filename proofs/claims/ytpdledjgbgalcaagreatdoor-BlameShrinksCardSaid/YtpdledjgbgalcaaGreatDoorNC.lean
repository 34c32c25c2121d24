/- One-time signatures: the public key that parts give. -/
import Derived.Test.YtpdledjgbgalcaaGreatDoorPm
import Derived.Test.YtpdledjgbgalcaaGreatDoorS2
namespace Go.Proofs.YtpdledjgbgalcaaGreatDoor
open Go.RowKit Go.Lib
set_option linter.unusedVariables false
set_option linter.unusedSimpArgs false
theorem row_sl {w : World} {b : Nat} {cs : Array Value} {ys : List ByteArray} {n : Nat} (hg : w.heap[b]? = some (.cells cs 9 (0, 0))) (hc : cs.toList = ys.map fT) (hn : ys.length = n) : Sl fT w w.heap.size (some ⟨b, 0, none⟩) n ys := by
  have h : cs = (ys.map fT).toArray := by rw [← hc]
  rw [h] at hg
  exact ⟨hn, SL.of_block hg (lt_of_block hg)⟩
set_option maxRecDepth 100000 in
set_option maxHeartbeats 8000000 in
theorem recover_no (b : Int) (β : Nat) (hb : BitN b β) (s : ByteArray) (hs : s.size = 32) (A : Option Addr) (n c : Nat) (w : World) (hn : n ≠ mN β + cN β) :
    Calls Tryz.prog 203 #[.agg (cPm b), .string s, .slice A n c] w fun e w' => e = .returned (.tuple #[.string ⟨#[]⟩, .int .i64 1]) ∧ Below w.heap.size w w' := by
  have HD := Lib.hid (fun W => digits_any b β hb s hs W)
  obtain ⟨T, hT1, hT2, hT3, hT4⟩ := bit_T hb
  have HDL : Hid ((dgF β (sB s)).length = T) := by show _ = _; rw [dgF_len, hT1]
  rw [hT1] at hn
  have hnI : ((n : Int) != (T : Int)) = true := by simp; omega
  have HB : Hid (Below w.heap.size w (w.alloc (.cells (cPm b) 268))) := (Below.refl _ _).alloc (Nat.le_refl _) _
  obtain ⟨W1, hW1⟩ : ∃ W1 : World, W1 = w.alloc (.cells (cPm b) 268) := ⟨_, rfl⟩
  have hsz : W1.heap.size = w.heap.size + 1 := by rw [hW1]; simp
  have hge : W1.heap[w.heap.size]? = some (.cells (cPm b) 268 (0, 0)) := by rw [hW1]; exact heap_alloc_new w _
  have HC : Hid (∀ V, Below (w.heap.size + 1) W1 V → V.cell? ⟨w.heap.size, 0, none⟩ = some (.int .i64 b) ∧ V.cell? ⟨w.heap.size, 1, none⟩ = some (.int .i64 32)) := fun V hv => by
    have q := (hv.block w.heap.size (Nat.lt_succ_self _)).trans hge
    refine ⟨?_, ?_⟩ <;> (rw [cell_of_row V _ _ _ _ _ q]; rfl)
  rw [← hW1] at HB
  have HS := Lib.hid hsz
  have HWE := Lib.hid hW1
  have HB1 : Hid (Below (w.heap.size + 1) W1 W1) := Below.refl _ _
  clear hge hsz hW1
  obtain ⟨c0, c1⟩ := HC.out W1 HB1.out
  clear hb hs hn hT1 hT4
  go_enter Tryz.func203, Tryz.ntmps203
  go_upto_region 1 with fail
  rw [← HWE.out]
  go_wp2_with (go_at_call 243; (with_reducible refine (HD.out _).mono ?_); rintro e w2 ⟨v2, rfl, ho, hb2⟩; (have HB2 := Lib.hid (HB1.out.trans (hb2.mono (Nat.le_of_eq HS.out.symm)))); (obtain ⟨A2, c2, rfl, _, _, _⟩ := ho.shape); (rw [HDL.out]); clear ho hb2)
  go_ret2
  exact ⟨rfl, HB.out.trans (HB2.out.mono (Nat.le_succ _))⟩
set_option maxRecDepth 100000 in
set_option maxHeartbeats 8000000 in
theorem recover_any (b : Int) (β : Nat) (hb : BitN b β) (s : ByteArray) (hs : s.size = 32) (A : Option Addr) (n c B : Nat) (ps : List ByteArray) (w : World) (hG : Glob w) (hp : Sl fT w B A n ps) (hB : B ≤ w.heap.size) (hn : n = mN β + cN β) (hps : ∀ s ∈ ps, s.size = 32) :
    Calls Tryz.prog 203 #[.agg (cPm b), .string s, .slice A n c] w fun e w' => e = .returned (.tuple #[.string (pubF β (dgF β (sB s)) ps), .int .i64 0]) ∧ Below w.heap.size w w' := by
  obtain ⟨i0, hi, hz0, hz1, hz2⟩ := info_parts Tryz.infoS
  have HI := Lib.hid hi
  have HZ0 := Lib.hid hz0
  have HZ1 := Lib.hid hz1
  have HZ2 := Lib.hid hz2
  have HG := Lib.hid hG
  have HD := Lib.hid (fun W => digits_any b β hb s hs W)
  obtain ⟨T, hT1, hT2, hT3, hT4⟩ := bit_T hb
  obtain ⟨M, hM1, hM2, hM3, hM4, hM5, hM6⟩ := bit_M hb
  have HL := Lib.hid (fun W => olast_any b β hb W)
  rw [hM5] at HL
  have hpw : ((2 : Int) ^ β) = ((2 ^ β : Nat) : Int) := by simp
  have HDR : Hid (∀ d ∈ dgF β (sB s), 0 ≤ d ∧ d ≤ (M : Int)) := fun d h => by
    have := dgF_rng β (sB s) d h
    rw [hpw, hM6] at this
    omega
  have HM1 := Lib.hid hM1
  obtain ⟨ds, hds⟩ : ∃ ds, dgF β (sB s) = ds := ⟨_, rfl⟩
  have hdl : ds.length = n := by rw [← hds, dgF_len, hn]
  rw [hds] at HD HDR ⊢
  have HDL := Lib.hid hdl
  have HPS := Lib.hid hps
  have hpl : ps.length = n := hp.1
  have HPL := Lib.hid hpl
  have hnT : n ≤ 265 := by omega
  have hn1 : 1 ≤ n := by omega
  have HV : Hid (pubF β ds ps = baOf (shaB (pbL ++ jnL (endsF β ds ps n)))) := by
    show _ = _
    unfold pubF
    rw [pbL_eq, hpl]
  have HES : Hid (∀ z ∈ endsF β ds ps n, z.size = 32) := endsF_size β ds ps hps n (by omega)
  rw [HV.out]
  have HB : Hid (Below w.heap.size w (w.alloc (.cells (cPm b) 268))) := (Below.refl _ _).alloc (Nat.le_refl _) _
  obtain ⟨W1, hW1⟩ : ∃ W1 : World, W1 = w.alloc (.cells (cPm b) 268) := ⟨_, rfl⟩
  have hsz : W1.heap.size = w.heap.size + 1 := by rw [hW1]; simp
  have hge : W1.heap[w.heap.size]? = some (.cells (cPm b) 268 (0, 0)) := by rw [hW1]; exact heap_alloc_new w _
  have HC : Hid (∀ V, Below (w.heap.size + 1) W1 V → V.cell? ⟨w.heap.size, 0, none⟩ = some (.int .i64 b) ∧ V.cell? ⟨w.heap.size, 1, none⟩ = some (.int .i64 32)) := fun V hv => by
    have q := (hv.block w.heap.size (Nat.lt_succ_self _)).trans hge
    refine ⟨?_, ?_⟩ <;> (rw [cell_of_row V _ _ _ _ _ q]; rfl)
  rw [← hW1] at HB
  have HS := Lib.hid hsz
  have HWE := Lib.hid hW1
  have HB1 : Hid (Below (w.heap.size + 1) W1 W1) := Below.refl _ _
  clear hge hsz hW1
  have HP : Hid (∀ V, Below (w.heap.size + 1) W1 V → Sl fT V B A n ps) := fun V hv => (hp.up HB.out hB).up hv (Nat.le_succ_of_le hB)
  have hBs : B ≤ w.heap.size := hB
  obtain ⟨c0, c1⟩ := HC.out W1 HB1.out
  have hnn : ((n : Int) != (n : Int)) = false := by simp
  clear hi hz0 hz1 hz2 hG hb hs hn hT1 hT4 hM1 hM4 hM5 hM6 hpw hds hdl hps hpl hp hT2 hT3
  go_enter Tryz.func203, Tryz.ntmps203
  go_upto_region 1 with fail
  rw [← HWE.out]
  go_upto_region 6 with (first
    | (go_at_call 243; (with_reducible refine (HD.out _).mono ?_); rintro e w2 ⟨v2, rfl, ho, hb2⟩; (have HB2 := Lib.hid (HB1.out.trans (hb2.mono (Nat.le_of_eq HS.out.symm)))); (obtain ⟨A2, c2, rfl, _, hs2, _⟩ := ho.shape); (rw [HDL.out]); (have HSD : Hid (Sl I w2 w2.heap.size A2 n ds) := ⟨HDL.out, hs2⟩); clear ho hb2 hs2)
    | (at_make; (refine wpList_make_row w2 (o := ⟨some 30, _, _, _, _, _⟩) rfl (.tmp 29) (.tmp 29) 24 rfl 9 i0 (.string ⟨#[]⟩) Tryz.underlying24 HI.out HZ0.out HZ1.out rfl .i64 .i64 n rfl rfl (by rw [HZ2.out]; omega) (by omega) ?_)))
  obtain ⟨bv, hbv⟩ : ∃ b, b = w2.heap.size := ⟨_, rfl⟩
  obtain ⟨W3, hW3⟩ : ∃ W : World, W = w2.alloc (.cells (madeCells #[.string ⟨#[]⟩] n) 9) := ⟨_, rfl⟩
  have hb23 : Below w2.heap.size w2 W3 := by rw [hW3]; exact (Below.refl _ _).alloc (Nat.le_refl _) _
  have hsz3 : W3.heap.size = bv + 1 := by rw [hW3, hbv]; simp
  have hw2 : w.heap.size + 1 ≤ bv := by rw [hbv]; exact HS.out ▸ HB2.out.size
  have hB3 : Below (w.heap.size + 1) W1 W3 := HB2.out.trans (hb23.mono (hbv ▸ hw2))
  have HB3 := Lib.hid hB3
  have HDK : Hid (∀ V, Below bv W3 V → V.cell? ⟨w.heap.size, 0, none⟩ = some (.int .i64 b) ∧ V.cell? ⟨w.heap.size, 1, none⟩ = some (.int .i64 32) ∧ Sl I V bv A2 n ds ∧ Sl fT V B A n ps ∧ Below (w.heap.size + 1) W1 V) := fun V hv => by
    have hw : Below (w.heap.size + 1) W1 V := hB3.trans (hv.mono hw2)
    obtain ⟨k0, k1⟩ := HC.out V hw
    have hsd := (HSD.out.up hb23 (Nat.le_refl _))
    rw [← hbv] at hsd
    exact ⟨k0, k1, hsd.up hv (Nat.le_refl _), HP.out V hw, hw⟩
  have hrow : ∃ cs, W3.heap[bv]? = some (.cells cs 9 (0, 0)) ∧ cs.toList = (endsF β ds ps 0 ++ List.replicate n baNo).map fT := ⟨_, by rw [hW3, hbv]; exact heap_alloc_new w2 _, by
    apply List.ext_getElem?
    intro j
    rw [Array.getElem?_toList]
    have hs : (madeCells #[Value.string ⟨#[]⟩] n).size = n := by simp [madeCells]
    by_cases hj : j < n
    · rw [Array.getElem?_eq_getElem (by omega)]
      simp [madeCells, endsF, hj, Nat.mod_one, baNo]
    · rw [Array.getElem?_eq_none (by omega), List.getElem?_eq_none (by simp [endsF]; omega)]⟩
  have HROW := Lib.hid hrow
  have HBW : Hid (Below bv W3 W3) := Below.refl _ _
  have HW2 := Lib.hid hw2
  have HZ3 : Hid (bv < W3.heap.size) := by show _ < _; omega
  rw [← hW3, ← hbv]
  clear hbv hW3 hb23 hrow HSD HB2 hB3 hsz3 c0 c1 HP HC HB1 hw2
  go_loopw [33] (fun i wr => ∃ (k : Nat), k ≤ n ∧ i = .int .i64 k ∧ Hid (Below bv W3 wr) ∧ Hid (∃ cs, wr.heap[bv]? = some (.cells cs 9 (0, 0)) ∧ cs.toList = (endsF β ds ps k ++ List.replicate (n - k) baNo).map fT)) (fun i _ => n - (intOf i).toNat)
  case atStart => exact ⟨0, by omega, rfl, HBW, HROW⟩
  case round =>
    clear HBW HROW
    obtain ⟨k, hk, rfl, HBr, ROW⟩ := hrel
    by_cases hlt : k < n
    · have hkI : (k : Int) < (n : Int) := by omega
      have hk0 : (0 : Int) ≤ (k : Int) := by omega
      obtain ⟨c0, c1, hsd, hsp, hbw⟩ := HDK.out wr HBr.out
      obtain ⟨bd, od, dI, hAd, _, hgd, kd⟩ := hsd.2.at_ (k := k) (by rw [HDL.out]; exact hlt)
      obtain ⟨bp, op, x, hAp, _, hgp, kp⟩ := hsp.2.at_ (k := k) (by rw [HPL.out]; exact hlt)
      obtain ⟨d, rfl⟩ : ∃ d : Nat, dI = (d : Int) := ⟨dI.toNat, by have := (HDR.out dI (List.mem_of_getElem? hgd)).1; omega⟩
      have hdM : d ≤ M := by have := (HDR.out _ (List.mem_of_getElem? hgd)).2; omega
      have hx32 : x.size = 32 := HPS.out x (List.mem_of_getElem? hgp)
      have HK : Hid (∀ V, Below bv W3 V → V.cell? ⟨w.heap.size, 0, none⟩ = some (.int .i64 b) ∧ V.cell? ⟨w.heap.size, 1, none⟩ = some (.int .i64 32) ∧ V.cell? ⟨bd, od + k, none⟩ = some (.int .i64 (d : Int))) := fun V hv => by
        obtain ⟨c0, c1, hsd, _, _⟩ := HDK.out V hv
        obtain ⟨b2, o2, x2, e2, _, g2, k2⟩ := hsd.2.at_ (k := k) (by rw [HDL.out]; exact hlt)
        rw [hAd] at e2
        cases e2
        rw [hgd] at g2
        cases g2
        exact ⟨c0, c1, k2⟩
      have HCH : Hid (∀ V, Below bv W3 V → Calls Tryz.prog 244 #[.int .i64 k, .int .i64 d, .int .i64 M, .string x] V fun e w' => e = .returned (.tuple #[.string (chF k d (M - d) x), .int .i64 0]) ∧ Below V.heap.size V w') := fun V hv => chain_any k d M (by omega) hdM (by omega) x hx32 V (HG.out.on (HB.out.trans ((HDK.out V hv).2.2.2.2.mono (Nat.le_succ _))))
      have HNX : Hid (endsF β ds ps (k + 1) = endsF β ds ps k ++ [chF k d (M - d) x]) := by
        show _ = _
        rw [endsF_succ, getD_of hgd, getD_of hgp, HM1.out]
        rfl
      obtain ⟨cv, hcv⟩ : ∃ c, chF k d (M - d) x = c := ⟨_, rfl⟩
      rw [hcv] at HCH HNX
      have HBc := HBr
      subst hAd
      subst hAp
      clear hsd hsp hbw hgd hgp hx32 hcv
      go_upto_region 8 with fail
      refine wp_region_held_drew (S := (fun w' => w'.cell? ⟨w.heap.size, 0, none⟩ = some (.int .i64 b) ∧ w'.cell? ⟨w.heap.size, 1, none⟩ = some (.int .i64 32) ∧ w'.cell? ⟨bd, od + k, none⟩ = some (.int .i64 (d : Int)))) (by kernel_rfl) (by first | exact HK.out _ HB6.out | exact HK.out _ HBc.out | exact HK.out _ (by repeat (first | exact HBc.out | exact Below.refl _ _ | refine Below.drew ?_ | refine below_dN' ?_ _ | refine below_drewN' ?_ _)) | go_keep) (fun hHeld => ?_)
      refine tkH (i := 0) (v := ?r0v) (y := (Or.inl ⟨by rfl, ?r0y⟩)) (h := ?r0r)
      case r0y => (intro w hSw; (try dsimp only at hSw); go_simp; try (with_reducible rfl))
      try simp only [pt]
      refine tkH (i := 1) (v := ?r1v) (y := (Or.inl ⟨by rfl, ?r1y⟩)) (h := ?r1r)
      case r1y => (intro w hSw; (try dsimp only at hSw); go_simp; try (with_reducible rfl))
      try simp only [pt]
      refine tkH (i := 2) (v := ?r2v) (y := (Or.inl ⟨by rfl, ?r2y⟩)) (h := ?r2r)
      case r2y => (intro w hSw; (try dsimp only at hSw); go_simp; try (with_reducible rfl))
      try simp only [pt]
      refine tkH (i := 3) (v := ?r3v) (y := (Or.inl ⟨by rfl, ?r3y⟩)) (h := ?r3r)
      case r3y => (intro w hSw; (try dsimp only at hSw); go_simp; try (with_reducible rfl))
      try simp only [pt]
      refine tkH (i := 4) (v := ?r4v) (y := (Or.inl ⟨by rfl, ?r4y⟩)) (h := ?r4r)
      case r4y => (intro w hSw; (try dsimp only at hSw); go_simp; try (with_reducible rfl))
      try simp only [pt]
      refine tkH (i := 5) (v := ?r5v) (y := (Or.inl ⟨by rfl, ?r5y⟩)) (h := ?r5r)
      case r5y => (intro w hSw; (try dsimp only at hSw); go_simp; try (with_reducible rfl))
      try simp only [pt]
      refine tkH (i := 6) (v := ?r6v) (y := (Or.inl ⟨by rfl, ?r6y⟩)) (h := ?r6r)
      case r6y => (intro w hSw; (try dsimp only at hSw); go_simp; try (with_reducible rfl))
      try simp only [pt]
      refine tkH (i := 7) (v := ?r7v) (y := (Or.inl ⟨by rfl, ?r7y⟩)) (h := ?r7r)
      case r7y => (intro w hSw; (try dsimp only at hSw); go_simp; try (with_reducible rfl))
      try simp only [pt]
      refine tkH (i := 9) (v := ?r8v) (y := (Or.inl ⟨by rfl, ?r8y⟩)) (h := ?r8r)
      case r8y => (intro w hSw; (try dsimp only at hSw); go_simp; try (with_reducible rfl))
      try simp only [pt]
      refine wpAnyH_ready (rs := [8]) (by kernel_rfl) (by simp) ?_
      refine AllReadyH.cons (by simp only [List.getElem?_toArray, List.getElem?_cons_succ, List.getElem?_cons_zero]; rfl) (fun K hK => ?_) (AllReadyH.nil)
      (go_simp; go_at_call 245; (with_reducible refine (HL.out _).mono ?_); rintro e w4 ⟨rfl, hb4⟩; (have HB4 : Hid (Below bv wr w4) := Below.trans (B := bv) (by repeat (first | exact Below.refl _ _ | refine Below.drew ?_ | refine below_dN' ?_ _ | refine below_drewN' ?_ _)) (Below.mono hb4 (Nat.le_trans (Nat.le_of_lt HZ3.out) HBr.out.size))); (have HBc : Hid (Below bv W3 w4) := HBr.out.trans HB4.out); (have hrw : w4.heap[bv]? = wr.heap[bv]? := (Below.trans (B := wr.heap.size) (by repeat (first | exact Below.refl _ _ | refine Below.drew ?_ | refine below_dN' ?_ _ | refine below_drewN' ?_ _)) hb4).block bv (Nat.lt_of_lt_of_le HZ3.out HBr.out.size)); (have HRW := Lib.hid hrw); (have HS4 : Hid (bv < w4.heap.size) := Nat.lt_of_lt_of_le (Nat.lt_of_lt_of_le HZ3.out HBr.out.size) hb4.size); clear hb4 hrw; go_wp2_with fail)
      refine hK.out _ _ (by first | exact HK.out _ HB6.out | exact HK.out _ HBc.out | exact HK.out _ (by repeat (first | exact HBc.out | exact Below.refl _ _ | refine Below.drew ?_ | refine below_dN' ?_ _ | refine below_drewN' ?_ _)) | go_keep) (fun hHeldr9 => ?_)
      clear hK K hHeld
      try simp only [pt]
      refine wpAnyH_ready (rs := [10]) (by kernel_rfl) (by simp) ?_
      refine AllReadyH.cons (by simp only [List.getElem?_toArray, List.getElem?_cons_succ, List.getElem?_cons_zero]; rfl) (fun K hK => ?_) (AllReadyH.nil)
      (go_simp; go_at_call 244; (with_reducible refine (HCH.out _ HBc.out).mono ?_); rintro e w5 ⟨rfl, hb5⟩; (have hrw5 : w5.heap[bv]? = wr.heap[bv]? := (hb5.block bv HS4.out).trans HRW.out); (have HBc : Hid (Below bv W3 w5) := HBc.out.trans (hb5.mono (Nat.le_of_lt HS4.out))); (obtain ⟨cs, q1, q2⟩ := ROW.out); (rw [← hrw5] at q1); (have hcs : cs.size = n := by rw [← Array.length_toList, q2, List.length_map, List.length_append, endsF_len, List.length_replicate]; omega); (obtain ⟨u, hu⟩ : ∃ u, cs[k]? = some u := ⟨_, Array.getElem?_eq_getElem (by omega)⟩); (have hcl : w5.cell? ⟨bv, k, none⟩ = some u := by rw [cell_of_row w5 bv k _ _ _ q1]; exact hu); (have hfr := frozen_of_row w5 bv k _ _ q1); (have Q1 := Lib.hid q1); (have Q2 := Lib.hid q2); (have HB6 : Hid (Below bv W3 (w5.setCell ⟨bv, k, none⟩ (.string cv))) := HBc.out.setCell (Nat.le_refl _) _); clear hb5 hrw5 q1 q2 hcs hu; go_wp2_with fail)
      refine hK.out _ _ (by first | exact HK.out _ HB6.out | exact HK.out _ HBc.out | exact HK.out _ (by repeat (first | exact HBc.out | exact Below.refl _ _ | refine Below.drew ?_ | refine below_dN' ?_ _ | refine below_drewN' ?_ _)) | go_keep) (fun hHeldr10 => ?_)
      clear hK K hHeldr9
      try simp only [pt]
      refine tkH (i := 11) (v := ?r11v) (y := (Or.inl ⟨by rfl, ?r11y⟩)) (h := ?r11r)
      case r11y => (intro w hSw; (try dsimp only at hSw); go_simp; try (with_reducible rfl))
      try simp only [pt]
      refine tkH (i := 12) (v := ?r12v) (y := (Or.inl ⟨by rfl, ?r12y⟩)) (h := ?r12r)
      case r12y => (intro w hSw; (try dsimp only at hSw); go_simp; try (with_reducible rfl))
      try simp only [pt]
      refine tkH (i := 13) (v := ?r13v) (y := (Or.inl ⟨by rfl, ?r13y⟩)) (h := ?r13r)
      case r13y => (intro w hSw; (try dsimp only at hSw); go_simp; try (with_reducible rfl))
      try simp only [pt]
      refine tkH (i := 14) (v := ?r14v) (y := (Or.inl ⟨by rfl, ?r14y⟩)) (h := ?r14r)
      case r14y => (intro w hSw; (try dsimp only at hSw); go_simp; try (with_reducible rfl))
      try simp only [pt]
      refine wpAnyH_ready (rs := [15]) (by kernel_rfl) (by simp) ?_
      refine AllReadyH.cons (by simp only [List.getElem?_toArray, List.getElem?_cons_succ, List.getElem?_cons_zero]; rfl) (fun K hK => ?_) (AllReadyH.nil)
      go_simp
      refine hK.out _ _ (by first | exact HK.out _ HB6.out | exact HK.out _ HBc.out | exact HK.out _ (by repeat (first | exact HBc.out | exact Below.refl _ _ | refine Below.drew ?_ | refine below_dN' ?_ _ | refine below_drewN' ?_ _)) | go_keep) (fun hHeldr15 => ?_)
      clear hK K hHeldr10
      try simp only [pt]
      refine tkH (i := 16) (v := ?r16v) (y := (Or.inl ⟨by rfl, ?r16y⟩)) (h := ?r16r)
      case r16y => (intro w hSw; (try dsimp only at hSw); go_simp; try (with_reducible rfl))
      try simp only [pt]
      refine wpAnyH_done (by kernel_rfl) ?_ _
      clear hcl hfr
      go_wp2_with fail
      refine ⟨?rel, ?measure⟩
      case rel =>
        refine ⟨k + 1, by omega, by go_num, HB6, ?_⟩
        rw [HNX.out]
        refine ⟨_, heap_setCell_same w5 bv k _ _ (.string cv) Q1.out, ?_⟩
        rw [Array.toList_setIfInBounds, Q2.out, show n - k = (n - (k + 1)) + 1 by omega]
        have := set_mid (endsF β ds ps k) cv (n - (k + 1))
        rw [endsF_len] at this
        exact this
      case measure => (simp [intOf] <;> omega)
    · obtain rfl : k = n := by omega
      obtain ⟨cs, q1, q2⟩ := ROW.out
      rw [Nat.sub_self, List.replicate_zero, List.append_nil] at q2
      have hb6 := (HDK.out wr HBr.out).2.2.2.2
      have hbo := HB.out.trans (hb6.mono (Nat.le_succ _))
      have HPK : Hid (Calls Tryz.prog 246 #[.slice (some ⟨bv, 0, none⟩) k k] wr fun e w' => e = .returned (.string (baOf (shaB (pbL ++ jnL (endsF β ds ps k))))) ∧ Below wr.heap.size wr w') :=
        pubkey_any _ k k wr.heap.size (endsF β ds ps k) wr (HG.out.on hbo) (row_sl q1 q2 (endsF_len _ _ _ _)) (Nat.le_refl _) (Nat.le_refl _) hn1 (by omega) HES.out
      have HBO := Lib.hid hbo
      clear q1 q2 hb6 hbo
      go_wp2_with (go_at_call 246; (with_reducible refine HPK.out.mono ?_); rintro e w6 ⟨rfl, hb6⟩; (have HB6 := Lib.hid (HBO.out.trans (hb6.mono HBO.out.size))); clear hb6)
      go_ret2
      exact ⟨rfl, HB6.out⟩
end Go.Proofs.YtpdledjgbgalcaaGreatDoor
