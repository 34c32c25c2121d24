/- Replace, done. -/
import Derived.Test.YtkeicjokekmkpaaGreatRe
namespace Go.Proofs.YtkeicjokekmkpaaGreat
open Go.RowKit Mb
set_option linter.unusedVariables false
set_option linter.unusedSimpArgs false

theorem fifteen_of {w : World} {b : Nat} {v : Vlt} {A : Option Addr} {n c : Nat} (h : w.heap[b]? = some (oV v A n c)) :
    w.cell? ⟨b, 0, none⟩ = some (.int .i64 v.num) ∧ w.cell? ⟨b, 1, none⟩ = some (.slice A n c) ∧ w.cell? ⟨b, 2, none⟩ = some (.int .i64 v.data) ∧ w.cell? ⟨b, 3, none⟩ = some (.int .i64 v.total) ∧ w.cell? ⟨b, 4, none⟩ = some (.int .i64 v.thr) ∧ w.cell? ⟨b, 5, none⟩ = some (.string v.print) ∧ w.cell? ⟨b, 6, none⟩ = some (.int .i64 v.cmin) ∧ w.cell? ⟨b, 7, none⟩ = some (.int .i64 v.cmax) ∧ w.cell? ⟨b, 8, none⟩ = some (.int .i64 v.cwin) ∧ w.cell? ⟨b, 9, none⟩ = some (.int .i64 v.cbits) ∧ w.cell? ⟨b, 10, none⟩ = some (.int .u64 v.cseed) ∧ w.cell? ⟨b, 11, none⟩ = some (.int .i64 v.ra) ∧ w.cell? ⟨b, 12, none⟩ = some (.int .i64 v.rb) ∧ w.cell? ⟨b, 13, none⟩ = some (.int .i64 v.rc) ∧ w.cell? ⟨b, 14, none⟩ = some (.int .i64 v.rd) := by
  refine ⟨?_, ?_, ?_, ?_, ?_, ?_, ?_, ?_, ?_, ?_, ?_, ?_, ?_, ?_, ?_⟩ <;> (rw [cell_of_row w b _ _ _ _ h]; rfl)
theorem get_idx : ∀ {l : List Int} {a : Int}, a ∈ l → l[l.idxOf a]? = some a
  | [], _, h => by cases h
  | z :: l, a, h => by
    by_cases hz : z = a
    · subst hz; simp
    · rw [idx_ne hz, List.getElem?_cons_succ]
      exact get_idx (by
        rcases List.mem_cons.1 h with h | h
        · exact absurd h.symm hz
        · exact h)
set_option maxRecDepth 20000 in
set_option maxHeartbeats 4000000 in
theorem replace_ok (g : Nat) (lab : Nat → Nat) (S : Cst) (v a b : Int) (w : World) (hC : Cir w lab g S) (hI : Inv S.s) (x : Vlt) (hv : vltOf S.s v = some x) (ca : x.ws.contains a = true) (hb : hasB S.s b = true) (aa : actI S.s a = false) (ab : actI S.s b = true) (cb : x.ws.contains b = false) (hch : S.chs.length ≤ 1000000) :
    Calls Tryz.prog 17 #[fG g, .int .i64 v, .int .i64 a, .int .i64 b] w (MutP { S with s := repS S.s v a b, chs := S.chs ++ [.rep v a b] } lab g (.int .i64 0) w) := by
  have h12 := hI.v12
  have hn12 := hI.n12
  obtain ⟨hg, hv0, hv1⟩ := vltOf_get hv
  have hxm := List.mem_of_getElem? hg
  have hw3 := hI.ws3 x hxm
  have hwr := hI.wsr x hxm
  have HVC := Lib.hid (vault_yes g lab S v x w hC (by omega) hv (by omega))
  obtain ⟨k, rfl⟩ : ∃ k : Nat, v = k := ⟨v.toNat, by omega⟩
  rw [show ((k : Int)).toNat = k by omega] at hg
  have HC := Lib.hid hC
  have HGK := Lib.hid hg
  have HKN : Hid (k < S.s.vs.length) := by show _ < _; omega
  have HAM : Hid (a ∈ x.ws) := by show _ ∈ _; simpa using ca
  obtain ⟨j0, hj, hy0, hy1, hy2⟩ := info_parts Tryz.infoC
  have HJ := Lib.hid hj
  have HY0 := Lib.hid hy0
  have HY1 := Lib.hid hy1
  have HY2 := Lib.hid hy2
  have HK3 : Hid ((S.chs.length + 1) * 16 ≤ 140737488355328) := by show _ ≤ _; omega
  have HK4 : Hid (S.chs.length + 1 ≤ maxLen) := by show _ ≤ _; unfold maxLen; omega
  clear hj hy0 hy1 hy2
  have HW3 := Lib.hid hw3
  have HCA := Lib.hid ca
  have HHB := Lib.hid hb
  have HAA := Lib.hid aa
  have HAH : Hid (hasB S.s a = true) := hasB_iff.2 (hwr a (by simpa using ca))
  have HAB := Lib.hid ab
  have HCB := Lib.hid cb
  clear hC hv hI hg hxm hw3 hwr hv0 hv1 ca hb aa ab cb
  go_enter Tryz.func17, Tryz.ntmps17
  go_wp2_with fail
  refine HVC.out.mono ?_
  rintro e w1 ⟨A0, n0, c0, rfl, ho, hb⟩
  obtain ⟨A9, c9, e9, hc9, hs9, _⟩ := Own.shape (f := I) ho
  obtain ⟨rfl, rfl, rfl⟩ : A0 = A9 ∧ n0 = x.ws.length ∧ c0 = c9 := by simpa using e9
  obtain ⟨V, hV⟩ : ∃ V : World, V = w1.alloc (oV x A0 x.ws.length c0) := ⟨_, rfl⟩
  have hbV : Below w.heap.size w V := by rw [hV]; exact hb.alloc hb.size _
  have hVG : V.heap[w1.heap.size]? = some (oV x A0 x.ws.length c0) := by rw [hV]; exact heap_alloc_new w1 _
  have hv1 : V.cell? ⟨w1.heap.size, 1, none⟩ = some (.slice A0 x.ws.length c0) := by rw [cell_of_row V _ _ _ _ _ hVG]; rfl
  have hVO : Own I 3 V w.heap.size (.slice A0 x.ws.length c0) x.ws := by rw [hV]; exact ho.alloc _
  have hVS : Sl I V V.heap.size A0 x.ws.length x.ws := by
    obtain ⟨A8, c8, e8, _, hs8, _⟩ := Own.shape (f := I) hVO
    obtain ⟨rfl, _⟩ : A0 = A8 ∧ c0 = c8 := by simpa using e8
    exact ⟨rfl, hs8⟩
  have hCV := HC.out.on hbV
  obtain ⟨vm, vv, bm, vfm, vfv, vc, ps1, ps2, hPV⟩ := id hCV
  have K1 : Hid (Calls Tryz.prog 60 #[.slice A0 x.ws.length c0, .int .i64 a] V fun e w' => e = .returned (.bool true) ∧ V = w') := HCA.out ▸ contI_any A0 _ c0 x.ws a V _ hVS (by have := HW3.out; omega)
  have HH : Hid (Calls Tryz.prog 61 #[fG g, .int .i64 b] V fun e w' => e = .returned (.bool true) ∧ V = w') := HHB.out ▸ has_cir g lab S b V hCV (by omega)
  have AA : Hid (Calls Tryz.prog 59 #[fG g, .int .i64 a] V fun e w' => e = .returned (.bool false) ∧ V = w') := HAA.out ▸ act_cir g lab S a V hCV (by omega) HAH.out
  have AB : Hid (Calls Tryz.prog 59 #[fG g, .int .i64 b] V fun e w' => e = .returned (.bool true) ∧ V = w') := HAB.out ▸ act_cir g lab S b V hCV (by omega) HHB.out
  have K2 : Hid (Calls Tryz.prog 60 #[.slice A0 x.ws.length c0, .int .i64 b] V fun e w' => e = .returned (.bool false) ∧ V = w') := HCB.out ▸ contI_any A0 _ c0 x.ws b V _ hVS (by have := HW3.out; omega)
  have HBV := Lib.hid hbV
  have HPV := Lib.hid hPV
  obtain ⟨gw, rfl⟩ : ∃ gw, A0 = some ⟨gw, 0, none⟩ := by
    rcases hVO.2 with ⟨_, h0⟩ | ⟨gw, _, _, h1, _⟩
    · have := List.length_pos_of_mem HAM.out; omega
    · simp at h1; exact ⟨gw, h1.1⟩
  have HGW1 : Hid (gw < w1.heap.size) := (World.ownsRow.lt ho gw rfl).2
  have HGB : Hid (w.heap.size ≤ gw) := (World.ownsRow.lt hVO gw rfl).1
  have HIX : Hid (Calls Tryz.prog 63 #[.slice (some ⟨gw, 0, none⟩) x.ws.length c0, .int .i64 a] V.drew fun e w' => e = .returned (.int .i64 (x.ws.idxOf a : Nat)) ∧ V.drew = w') := idxI_any _ _ c0 x.ws a V.drew _ (hVS.up (Below.refl _ _).drew (Nat.le_refl _)) (by have := HW3.out; omega) HAM.out
  have HV := Lib.hid hV
  have HVG := Lib.hid hVG
  have HVO := Lib.hid hVO
  have HVS := Lib.hid hVS
  clear ho hb e9 hc9 hs9 hbV hVG hVO hVS hCV hPV hV
  go_wp2_with (first | (go_at_call 60; (try rw [← HV.out]); (first | (with_reducible refine K1.out.mono ?_) | (with_reducible refine K2.out.mono ?_)); rintro e w5 ⟨rfl, rfl⟩) | (go_at_call 61; (try rw [← HV.out]); (first | (with_reducible refine HH.out.mono ?_)); rintro e w5 ⟨rfl, rfl⟩) | (go_at_call 59; (try rw [← HV.out]); (first | (with_reducible refine AA.out.mono ?_) | (with_reducible refine AB.out.mono ?_)); rintro e w5 ⟨rfl, rfl⟩) | (refine wpList_store_new (o := ⟨none, .store 68 (.tmp 9) (.tmp 15), _, _, _, _⟩) rfl 68 (.tmp 9) (.tmp 15) rfl 68 _ (cV x A0 x.ws.length c0) rfl rfl Tryz.sizeV rfl (cV_one _ _ _ _) ?_))
  obtain ⟨i, hi⟩ : ∃ z, x.ws.idxOf a = z := ⟨_, rfl⟩
  have hil : i < x.ws.length := by rw [← hi]; exact List.idxOf_lt_length_of_mem HAM.out
  rw [hi] at HIX
  have HI := Lib.hid hi
  have hne : gw ≠ w1.heap.size := Nat.ne_of_lt HGW1.out
  have hne' : w1.heap.size ≠ gw := fun e => hne e.symm
  have hxs : V.cell? ⟨gw, i, none⟩ = some (.int .i64 a) := by
    rw [World.ownsRow.cellAt HVO.out i (by omega), List.getElem?_map, ← hi, get_idx HAM.out]
    rfl
  have hxf : V.frozen? ⟨gw, i, none⟩ = false := World.ownsRow.frozenAt HVO.out i
  clear hi
  go_still_tail 8, (by kernel_rfl)
  still_call (same_of HIX.out)
  repeat still_step
  refine wpStill_nil ?_
  change wpList _ _ _ _ _ V.drew
  go_wp2_with fail
  clear hv1 hxs hxf
  obtain ⟨V2, hV2⟩ : ∃ U : World, U = (V.setCell ⟨gw, i, none⟩ (.int .i64 b)).drew := ⟨_, rfl⟩
  have hst := World.ownsRow.stored HVO.out i (.int .i64 b)
  have hO2 : Own I 3 V2 w.heap.size (.slice (some ⟨gw, 0, none⟩) x.ws.length c0) (x.ws.set i b) := by
    rw [hV2]
    unfold Own
    rw [List.length_set, List.map_set]
    exact hst.1
  have hG2 : V.grownBy V2 (some gw) := by rw [hV2]; exact ⟨rfl, rfl, rfl, hst.2.size, hst.2.block⟩
  rw [← hV2]
  have HG2 := Lib.hid hG2
  have HSO := Lib.hid (sortI_any gw x.ws.length c0 w.heap.size (x.ws.set i b) V2 hO2 (by rw [List.length_set]; have := HW3.out; omega))
  clear hO2 hst hG2 hV2
  refine HSO.out.mono ?_
  rintro e V3 ⟨rfl, hO3, hG3⟩
  have HO3 : Hid (Own I 3 V3 w.heap.size (.slice (some ⟨gw, 0, none⟩) x.ws.length c0) (repV a b x).ws) := by
    show Own _ _ _ _ _ (repW x.ws a b)
    unfold repW
    rw [HI.out]
    exact hO3
  have hG : V.grownBy V3 (some gw) := ⟨hG3.os.trans HG2.out.os, hG3.tape.trans HG2.out.tape, hG3.output.trans HG2.out.output, Nat.le_trans HG2.out.size hG3.size, fun j hj hn => (hG3.block j (Nat.lt_of_lt_of_le hj HG2.out.size) hn).trans (HG2.out.block j hj hn)⟩
  have hl0 : lab gw = 0 := HC.out.top gw HGB.out
  have hB3 : Below w.heap.size w V3 := HBV.out.grown hG HBV.out.size (fun j hj => by injection hj with hj; rw [← hj]; exact HGB.out)
  have hVG3 := (hG.block _ (lt_of_block HVG.out) (fun e => hne (by injection e with e; exact e.symm))).trans HVG.out
  have hP3 := HPV.out.same (fun j hj => hG.block j (HPV.out.lt hj) (fun e => hj (by injection e with e; rw [e]; exact hl0))) hG.size
  have hps : ps1.length = S.s.vs.length := by rw [← hP3.evs, List.length_map]
  obtain ⟨gv, cv, rfl⟩ : ∃ gv cv, vv = .slice (some ⟨gv, 0, none⟩) S.s.vs.length cv := by
    rcases hP3.vs.row.2 with ⟨_, h0⟩ | ⟨gv, cv, _, h1, _⟩
    · have := HKN.out; omega
    · rw [hps] at h1; exact ⟨gv, cv, h1⟩
  obtain ⟨A6, c6, rfl, hcc6, _, _⟩ := hP3.ch.shape
  have hc1 : V3.cell? ⟨g, 1, none⟩ = some (.slice (some ⟨gv, 0, none⟩) S.s.vs.length cv) := by rw [cell_of_row V3 g _ _ _ _ hP3.cell]; rfl
  obtain ⟨y0, y1, y2, y3, y4, y5, y6, y7, y8, y9, y10, y11, y12, y13, y14⟩ := fifteen_of hVG3
  have hkn := HKN.out
  have hki0 : (0 : Int) ≤ (k : Int) := by omega
  have hki1 : (k : Int) < (S.s.vs.length : Int) := by omega
  have HP3 := Lib.hid hP3
  have HB3 := Lib.hid hB3
  have HPS := Lib.hid hps
  have HL0 := Lib.hid hl0
  have HTH : Hid (V3.drew.there gv (k * 15) 15) := (hP3.vs.row.drew).there fP_len (by rw [hps]; exact HKN.out)
  clear hO3 hG3 hG hl0 hB3 hVG3 hP3 hps hne hne' hcc6
  go_wp2_with fail
  go_still_tail 7, (by kernel_rfl)
  change wpList _ _ _ _ _ V3.drew
  refine wpList_store_mid (op := ⟨none, .store 68 (.tmp 62) (.tmp 61), _, _, _, _⟩) rfl 68 (.tmp 62) (.tmp 61) rfl gv (k * 15) (cV x (some ⟨gw, 0, none⟩) x.ws.length c0) (by first | rfl | (simp [Act.eval, Act.put]; done)) (by rfl) HTH.out Tryz.sizeV (cV_one _ _ _ _) ?_
  clear hc1 y0 y1 y2 y3 y4 y5 y6 y7 y8 y9 y10 y11 y12 y13 y14 HTH
  obtain ⟨V4, hV4⟩ : ∃ U : World, U = V3.drew.setCells gv (k * 15) (cV x (some ⟨gw, 0, none⟩) x.ws.length c0).toList := ⟨_, rfl⟩
  have h4 := (HP3.out.on (Below.refl _ _).drew).setV (k := k) (y := (repV a b x, ⟨some ⟨gw, 0, none⟩, x.ws.length, c0⟩)) (by rw [HPS.out]; exact HKN.out) (World.ownsRow.mono (HO3.out.drewN 1) (Nat.zero_le _)) (fun j hj => by injection hj with hj; rw [← hj]; exact HL0.out)
  rw [show V3.drew.setCells gv (k * 15) (fP (repV a b x, (⟨some ⟨gw, 0, none⟩, x.ws.length, c0⟩ : Hd))) = V4 from hV4.symm] at h4
  rw [← hV4]
  obtain ⟨hP4, hG4, hlv⟩ := h4
  have hF4 : Fr w lab V4 (fun j => if (fS (⟨some ⟨gw, 0, none⟩, x.ws.length, c0⟩ : Hd)).ownBlock = some j then 4 else lab j) :=
    ⟨hG4.os.trans HB3.out.os, hG4.tape.trans HB3.out.tape, hG4.output.trans HB3.out.output, Nat.le_trans HB3.out.size hG4.size, fun j hj => by
      show (if _ then _ else _) = _
      rw [if_neg (fun e => by injection e with e; have e1 : gw = j := e; have := HGB.out; omega)], fun j hj h0 => (hG4.block j (Nat.lt_of_lt_of_le hj HB3.out.size) (fun e => by injection e with e; rw [e, hlv] at h0; cases h0)).trans (HB3.out.block j hj)⟩
  have HP4 := Lib.hid hP4
  have HF4 := Lib.hid hF4
  have hc6 : V4.cell? ⟨g, 6, none⟩ = some (.slice A6 S.chs.length c6) := by rw [cell_of_row V4 g _ _ _ _ hP4.cell]; rfl
  have HVS : Hid (S.s.vs.set k (repV a b x) = S.s.vs.modify k (repV a b)) := by
    show _ = _
    apply List.ext_getElem?
    intro j
    rw [List.getElem?_modify, List.getElem?_set]
    by_cases hj : k = j
    · subst hj
      rw [HGK.out, if_pos rfl, if_pos HKN.out]
      simp
    · simp [hj]
  clear hP4 hF4 hG4 hV4 hlv
  go_wp2_with ((refine wpList_app1 (f := fC) (o := ⟨some 74, _, _, _, _, _⟩) rfl (.tmp 67) (.tmp 73) 79 rfl 86 j0 .nilIface 16 Tryz.underlying79 HJ.out HY0.out HY1.out HY2.out rfl (.slice A6 S.chs.length c6) S.chs 0 (by rfl) HP4.out.ch (.rep k a b) 1 (by rfl) fC_one HK3.out HK4.out (Nat.zero_le _) ?_); intro v5 w5 HO5 HG5 HV5; (obtain ⟨A9, c9, hv9, _, _, _⟩ := HO5.out.shape); (rw [List.length_append, List.length_singleton] at hv9); subst hv9; (have hst : w5.cell? ⟨g, 6, none⟩ = some (.slice A6 S.chs.length c6) := by rw [cell_of_row w5 g _ _ _ _ (grown_cell HP4.out HG5.out HP4.out.lch (by decide))]; rfl); (have hfr : w5.frozen? ⟨g, 6, none⟩ = false := frozen_of_row w5 g 6 _ _ (grown_cell HP4.out HG5.out HP4.out.lch (by decide))); clear hc6)
  clear hst hfr
  have HP5 := Lib.hid (HP4.out.addC (x := .rep k a b) HG5.out HO5.out HV5.out)
  have HF5 := Lib.hid (turn_fr (i := 6) (u := .slice A9 (S.chs.length + 1) c9) HG5.out HP4.out.lch (by decide) HP4.out.lg)
  go_ret
  have HE : repS S.s k a b = { S.s with vs := S.s.vs.set k (repV a b x) } := by unfold repS; rw [HVS.out]; rfl
  rw [HE]
  exact ⟨rfl, _, ⟨_, _, _, _, _, _, _, _, HP5.out⟩, HF4.out.trans HF5.out⟩
end Go.Proofs.YtkeicjokekmkpaaGreat
