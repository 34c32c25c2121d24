/- matrix: Rank, Inverse. -/
import Derived.Test.YtpbeaghghlfiaaaB7
namespace Go.Proofs.Ytpbeaghghlfiaaa
open Go.RowKit Go.Lib
set_option linter.unusedVariables false
set_option linter.unusedSimpArgs false
theorem Mat.keep' {w w' : World} {g g2 : Nat} {hs : List Hd} {m : Mt} {cs : Array Value} {t : TypeId} {fr : Nat × Nat} (h : Mat w g hs m) (hb : But (fun i => i = g2) w w') (hg : w.heap[g2]? = some (.cells cs t fr)) (h8 : T8 ≠ t) (hne : g ≠ g2) : Mat w' g hs m where
  cells := by
    obtain ⟨cur, h1, h2⟩ := h.cells
    exact ⟨cur, (hb.block g h.lt hne).trans h1, h2⟩
  len := h.len
  rows := fun k hd r h1 h2 => (h.rows k hd r h1 h2).but hb hg h8
theorem run_slice_from {P : Program} (t e : Nat) (i : TypeInfo) (ht : P.underlying t = some (.slice e)) (hi : P.info? e = some i) (hs : i.size = 1) (b off n c m : Nat) (h2 : m ≤ n) (h3 : n ≤ c) (hc : c ≠ m) (w : World) :
    (Instr.slice t (.slice (some ⟨b, off, none⟩) n c) (some (.int .i64 (m : Int))) none none).run P w = .ok (.slice (some ⟨b, off + m, none⟩) (n - m) (c - m)) w := by
  simp [Instr.slice, run_underlying ht, Instr.sliceBounds, run_sliceBound w .i64 (m : Int) n _ (by omega) (by omega), sizeOf, typeInfo, hi, hs, hc, Addr.add]
theorem idP_ok (n : Nat) : MtOk n (idP n) := fun r hr => by
  obtain ⟨k, hk, rfl⟩ := List.mem_map.1 hr
  refine ⟨by simp [unitv], fun x hx => ?_⟩
  unfold unitv at hx
  rcases List.mem_or_eq_of_mem_set hx with h | h
  · rw [List.eq_of_mem_replicate h]; omega
  · subst h; omega
theorem idP_len (n : Nat) : (idP n).length = n := by simp [idP]
set_option maxRecDepth 100000 in
theorem rank_any (A1 : Option Addr) (N c1 n1 B : Nat) (m : Mt) (w : World) (h1 : SLL fN w B A1 N m) (hB : B ≤ w.heap.size) (hm : MtOk n1 m) (hN0 : 0 < N) (hN : N ≤ 64) (hn1 : n1 ≤ 64) :
    Calls Try.prog 13 #[.slice A1 N c1] w fun e w' => e = .returned (.int .i64 (redP n1 0 m []).2.length) ∧ Below w.heap.size w w' := by
  have HV := Lib.hid (valid_yes A1 N c1 B n1 m w h1 (fun r hr => (hm r hr).1) hN hn1)
  have HE := Lib.hid (elim0_any A1 N c1 n1 B m w h1 hB hm hN0 hN hn1)
  obtain ⟨R, hR⟩ : ∃ R, redP n1 0 m [] = R := ⟨_, rfl⟩
  rw [hR] at HE ⊢
  clear h1 hB hm hN0 hN hn1 hR
  go_enter Try.func13, Try.ntmps13
  go_upto_region 3 with (go_at_call 28; (with_reducible refine HV.out.mono ?_); rintro e w' ⟨rfl, rfl⟩)
  go_wp2_with (go_at_call 29; (with_reducible refine HE.out.mono ?_); rintro e w1 ⟨h, g, c, hs, pv, p, rfl, hg, hm, hp, hb⟩; (obtain ⟨pa, pc, hpv, hpc⟩ := hp.shape'); subst hpv; (have k1 : w1.cell? ⟨h, 1, none⟩ = some (.slice pa R.2.length pc) := (by rw [cell_of_row w1 h _ _ _ _ hg]; rfl)); (have HB := Lib.hid hb); clear hg hm hp hb hpc)
  go_ret
  exact ⟨rfl, HB.out⟩
set_option maxRecDepth 100000 in
set_option maxHeartbeats 4000000 in
theorem inverse_any (A1 : Option Addr) (N c1 B : Nat) (m : Mt) (w : World) (h1 : SLL fN w B A1 N m) (hB : B ≤ w.heap.size) (hm : MtOk N m) (hN0 : 0 < N) (hN : N ≤ 64) (hp : (elimP m).2.length = N) (hl : (elimP m).1.length = N) (hok : MtOk (N + N) (elimP m).1) :
    Calls Try.prog 44 #[.slice A1 N c1] w (MaP2 (invP m) w) := by
  have hml : m.length = N := h1.choose_spec.2.1
  have HV := Lib.hid (valid_yes A1 N c1 B N m w h1 (fun r hr => (hm r hr).1) hN hN)
  have HC1 : Hid (Calls Try.prog 33 #[.slice A1 N c1] w fun e w' => e = .returned (.int .i64 N) ∧ w = w') := by
    have h := columns_any A1 N c1 B m w h1
    rw [colsN_eq (by omega) (fun r hr => (hm r hr).1)] at h
    exact h
  have HID := Lib.hid (identity_any N hN w)
  have HEL : Hid (∀ V A c, Below w.heap.size w V → SLL fN V V.heap.size A N (idP N) → Calls Try.prog 29 #[.slice A1 N c1, .slice A N c] V (ElP N (elimP m) V)) := fun V A c hv hi => by
    have q := elimR_any A1 A N c1 c N N V.heap.size m (idP N) V ((h1.up hv hB).more (Nat.le_trans hB hv.size)) hi (Nat.le_refl _) hm (idP_ok N) hN0 hN hN hN
    have e : elimP m = redP N 0 (joinP m (idP N)) [] := by unfold elimP; rw [hml]
    rw [e]
    exact q
  obtain ⟨R, hR⟩ : ∃ R, elimP m = R := ⟨_, rfl⟩
  have hinv : invP m = R.1.map (List.drop N) := by unfold invP; rw [hR, hml]
  rw [hinv]
  rw [hR] at HEL hp hl hok
  have HPL := Lib.hid hp
  have HL := Lib.hid hl
  have HOK := Lib.hid hok
  have HN0 := Lib.hid hN0
  have HNN := Lib.hid hN
  have hNI : (N : Int) ≤ 64 := by omega
  have hmk : Hid (∀ w, (Instr.makeSlice 22 (.int .i64 (N : Int)) (.int .i64 (N : Int))).run Try.prog w = .ok (.slice (some ⟨w.heap.size, 0, none⟩) N N) (w.alloc (.cells (Array.replicate N (.slice none 0 0)) TR))) := fun w => run_makeR N (by omega) w
  obtain ⟨i0, hi, hi1, hi2, hi3⟩ := info_parts Try.infoB8
  have HI := Lib.hid hi
  have HI1 := Lib.hid hi1
  have HI2 := Lib.hid hi2
  have HI3 := Lib.hid hi3
  obtain ⟨f, hf⟩ : ∃ f : List Nat → List Nat, f = List.drop N := ⟨_, rfl⟩
  have HFE := Lib.hid hf
  rw [← hf]
  have hnn : ¬ ((N : Int) < (N : Int)) := by omega
  clear h1 hB hm hN0 hN hp hl hok hml hR hinv hi hi1 hi2 hi3 hf
  go_enter Try.func44, Try.ntmps44
  go_upto_region 3 with (first
    | (go_at_call 28; (with_reducible refine HV.out.mono ?_); rintro e w' ⟨rfl, rfl⟩)
    | (go_at_call 33; (with_reducible refine HC1.out.mono ?_); rintro e w' ⟨rfl, rfl⟩))
  clear HV HC1
  go_upto_region 4 with (first
    | (go_at_call 14; (with_reducible refine HID.out.mono ?_); rintro e w1 ⟨he, hz, hb1⟩; rw [idP_len] at he; subst he; (have HE2 := Lib.hid (HEL.out w1 (some ⟨w.heap.size, 0, none⟩) N hb1 (by have q := hz.mat.sll; rw [idP_len] at q; exact q))); (have HB1 := Lib.hid hb1); clear hz hb1)
    | (go_at_call 29; (with_reducible refine HE2.out.mono ?_); rintro e w2 ⟨h, g, c, hs, pv, p, rfl, hg, hm2, hp2, hb2⟩; (obtain ⟨pa, pc, hpv, hpc⟩ := hp2.shape'); rw [HPL.out] at hpv; subst hpv; (have HG2 := Lib.hid hg); (have HM2 := Lib.hid hm2); (have HB2 : Hid (Below w.heap.size w w2) := HB1.out.trans (hb2.mono HB1.out.size)); clear hg hm2 hp2 hb2 hpc))
  have k0 : w2.cell? ⟨h, 0, none⟩ = some (.slice (some ⟨g, 0, none⟩) N c) := by rw [cell_of_row w2 h _ _ _ _ HG2.out]; rfl
  have k1 : w2.cell? ⟨h, 1, none⟩ = some (.slice pa N pc) := by rw [cell_of_row w2 h _ _ _ _ HG2.out]; rfl
  have hmk2 := hmk.out w2
  obtain ⟨W3, hW3⟩ : ∃ W, W = w2.alloc (.cells (Array.replicate N (Value.slice none 0 0)) TR) := ⟨_, rfl⟩
  have hb3 : Below w2.heap.size w2 W3 := by rw [hW3]; exact (Below.refl _ _).alloc (Nat.le_refl _) _
  have hg3 : W3.heap[w2.heap.size]? = some (.cells (rowA fS (List.replicate N ⟨none, 0, 0⟩)) TR (0, 0)) := by rw [hW3, ← replicate_hd]; exact heap_alloc_new w2 _
  have hM3 : Mat W3 w2.heap.size (List.replicate N ⟨none, 0, 0⟩) (fill f [] R.1 0) := by
    rw [fill_zero, HL.out]
    refine ⟨⟨_, hg3, fun k hd hk => by rw [List.getElem?_toArray, List.getElem?_map, hk]; rfl⟩, by simp, fun k hd r q1 q2 => ?_⟩
    have e1 := List.eq_of_mem_replicate (List.mem_of_getElem? q1)
    have e2 := List.eq_of_mem_replicate (List.mem_of_getElem? q2)
    subst e1 e2
    exact ⟨Nat.le_refl _, rfl, fun h => absurd h (by simp)⟩
  rw [← hW3] at hmk2
  have HM3 := Lib.hid hM3
  have HME := Lib.hid (HM2.out.on hb3)
  have HG3 : Hid (W3.heap[h]? = some (.cells (cE g N c (.slice pa N pc) p) TE (0, 0))) := (hb3.block _ (lt_block HG2.out)).trans HG2.out
  have HB3 : Hid (Below w.heap.size w W3) := HB2.out.trans (hb3.mono HB2.out.size)
  have HNE : Hid (g ≠ w2.heap.size) := Nat.ne_of_lt HM2.out.lt
  have HGS : Hid (w.heap.size ≤ w2.heap.size) := HB2.out.size
  have k2 : W3.cell? ⟨h, 0, none⟩ = some (.slice (some ⟨g, 0, none⟩) N c) := by rw [cell_of_row W3 h _ _ _ _ HG3.out]; rfl
  clear hW3 hb3 hg3 hM3 HID HEL
  go_wp2_with fail
  clear k0 k1 k2 hmk2
  go_loopw [39] (fun i wr => ∃ (k : Nat) (hs2 : List Hd), k ≤ N ∧ i = .int .i64 k ∧ Hid (Below w.heap.size w wr) ∧ Hid (Mat wr g hs R.1) ∧ Hid (Mat wr w2.heap.size hs2 (fill f [] R.1 k))) (fun i _ => N - (intOf i).toNat)
  case atStart => exact ⟨0, _, Nat.zero_le _, rfl, HB3, HME, HM3⟩
  case round =>
    clear HB3 HME HM3
    obtain ⟨k, hs2, hk, rfl, HB, HME, HM⟩ := hrel
    by_cases hlt : k < N
    · have hkI : (k : Int) < (N : Int) := by omega
      obtain ⟨ra, rn, rc, rk, hhk, hrk, hck, hxk⟩ := HME.out.at_ (k := k) (by rw [HL.out]; exact hlt)
      have hro := HOK.out.get hrk
      obtain rfl : N + N = rn := hro.1.symm.trans hxk.2.1
      obtain ⟨rb, ro, rfl, hrb, hrat⟩ := hxk.sl.2 (by omega)
      have hrc : N + N ≤ rc := hxk.1
      have hsl := run_slice_from (P := Try.prog) 30 T8 i0 Try.underlying30 HI.out HI2.out rb ro (N + N) rc N (by omega) hrc (by omega) (wr.alloc (.cells #[] T8))
      rw [show N + N - N = N by omega] at hsl
      have HST := Lib.hid (fill_step f [] hrk)
      have hfk : f rk = rk.drop N := by rw [HFE.out]
      have hfl : (f rk).length = N := by rw [hfk, List.length_drop, hro.1]; omega
      have HS1 : Hid (Sl fN (wr.alloc (.cells #[] T8)) wr.heap.size (some ⟨rb, ro + N, none⟩) N (f rk)) := by
        refine ⟨hfl, fun _ => ⟨rb, ro + N, rfl, hrb, fun j x hx => ?_⟩⟩
        rw [hfk, List.getElem?_drop] at hx
        have q := hrat (N + j) x hx
        rw [← Nat.add_assoc] at q
        exact (World.cell?_of_block (Below.heap_alloc wr _ _ hrb)).trans q
      have HO0 : Hid (Own fN T8 (wr.alloc (.cells #[] T8)) wr.heap.size (.slice (some ⟨wr.heap.size, 0, none⟩) 0 0) ([] : List Nat)) := World.ownsRow_made wr #[] 0 (Nat.le_refl _) (Nat.zero_le _) (by simp)
      have HL1 : Hid ((([] : List Nat).length + (f rk).length) * 1 ≤ 140737488355328) := by show (0 + (f rk).length) * 1 ≤ _; rw [hfl]; have := HNN.out; omega
      have HL1m : Hid (([] : List Nat).length + (f rk).length ≤ maxLen) := by show 0 + (f rk).length ≤ _; rw [hfl]; have := HNN.out; unfold maxLen; omega
      have HSZ : Hid (wr.heap.size ≤ (wr.alloc (.cells #[] T8)).heap.size) := by show _ ≤ _; simp
      have HFL := Lib.hid hfl
      have HKL : Hid (k < (fill f [] R.1 k).length) := by show _ < _; rw [fill_len _ _ _ (by rw [HL.out]; exact hk), HL.out]; exact hlt
      clear hhk hrk hxk hro hrb hrat hrc hfk hfl
      obtain ⟨cur, hcur, hcs⟩ := HM.out.cells
      have HCU := Lib.hid hcur
      have hcl : k < cur.size := by
        obtain ⟨x, hx⟩ := get_ex (xs := hs2) (k := k) (by rw [HM.out.len]; exact HKL.out)
        exact (Array.getElem?_eq_some_iff.1 (hcs k x hx)).1
      clear hcur hcs
      go_upto_region 11 with (first
        | (at_builtin; (refine wpList_app (o := ⟨some 51, _, _, _, _, _⟩) (f := fN) rfl (.tmp 46) (.tmp 50) 30 rfl T8 i0 (.int .u8 0) 1 Try.underlying30 HI.out HI1.out HI2.out HI3.out rfl (.slice (some ⟨wr.heap.size, 0, none⟩) 0 0) ([] : List Nat) wr.heap.size (by rfl) HO0.out (some ⟨rb, ro + N, none⟩) N (rc - N) wr.heap.size (f rk) (by rfl) HS1.out fN1 HL1.out HL1m.out HSZ.out ?_); intro v5 W5 HO5 HG5 HV5; (have HB5 : Hid (Below wr.heap.size wr W5) := ((Below.refl _ wr).alloc (Nat.le_refl _) _).trans (grown_below HG5.out (fun q hq => by injection hq with hq; subst hq; exact Nat.le_refl _) HSZ.out)); (have HO5' : Hid (Own fN T8 W5 wr.heap.size v5 (f rk)) := HO5.out); (obtain ⟨hd, hhd, hx5, hn5⟩ := RowX.of_own HO5'.out); (obtain ⟨da, dn, dc⟩ := hd); (have hhd' : v5 = .slice da dn dc := hhd); clear hhd; subst hhd'; (have HX5 := Lib.hid hx5); (have HCU5 : Hid (W5.heap[w2.heap.size]? = some (.cells cur TR (0, 0))) := (HB5.out.block _ (lt_block HCU.out)).trans HCU.out); clear hx5 hn5)
        | ((with_reducible refine wpList_store_at1 rfl 30 (.tmp 52) (.tmp 51) rfl w2.heap.size TR k cur (.slice da dn dc) rfl rfl HCU5.out hcl Try.sizeR rfl ?_); intro W6 HG6 HB6))
      have HM6 : Hid (Mat W6 w2.heap.size (hs2.set k ⟨da, dn, dc⟩) (fill f [] R.1 (k + 1))) := by
        show Mat ..
        rw [← HST.out]
        exact (HM.out.on HB5.out).put HCU5.out HG6.out HB6.out HX5.out
      have HME6 := Lib.hid ((HME.out.on HB5.out).keep' HB6.out HCU5.out (by decide) HNE.out)
      have HBw5 : Hid (Below w.heap.size w W5) := HB.out.trans (HB5.out.mono HB.out.size)
      have HBw6 : Hid (Below w.heap.size w W6) := HB6.out.below HBw5.out HBw5.out.size (fun i hi => by subst hi; exact HGS.out)
      clear hsl
      go_wp2_with fail
      go_roundw
      case rel => exact ⟨k + 1, _, by omega, by go_num, HBw6, HME6, HM6⟩
      case measure => simp [intOf]; omega
    · obtain rfl : k = N := by omega
      have HE := fill_all f [] R.1
      rw [HL.out] at HE
      rw [HE] at HM
      have HLM : Hid ((R.1.map f).length = k) := by show _ = _; rw [List.length_map]; exact HL.out
      clear HE
      go_wp2_with fail
      go_ret2
      exact ⟨_, hs2, by rw [HLM.out]; rfl, HGS.out, HM.out, HB.out⟩
end Go.Proofs.Ytpbeaghghlfiaaa
