/- Encode: the walk. -/
import Derived.Test.YtkeicjokekmkpaaGreatMf
import Derived.Test.YtkeicjokekmkpaaGreatEw
namespace Go.Proofs.YtkeicjokekmkpaaGreat
open Go.RowKit Mb
set_option linter.unusedVariables false
set_option linter.unusedSimpArgs false

section
variable {w w' : World} {lab : Nat → Nat} {g : Nat} {S : Cst}
theorem Cir.fmem (h : Cir w lab g S) : ∃ A c, w.cell? ⟨g, 4, none⟩ = some (.slice A S.fm.length c) ∧ SlN fM 5 w w.heap.size A S.fm.length S.fm := by
  obtain ⟨vm, vv, bm, vfm, vfv, vc, ps1, ps2, h⟩ := h
  obtain ⟨A, c, rfl, hc, hs, _⟩ := h.fm.shape fM_len
  exact ⟨A, c, by rw [cell_of_row w g _ _ _ _ h.cell]; rfl, hs⟩
theorem Cir.fvlt (h : Cir w lab g S) : ∃ A c ps, w.cell? ⟨g, 5, none⟩ = some (.slice A S.fv.length c) ∧ VIn w w.heap.size A S.fv.length ps ∧ ps.map Prod.fst = S.fv ∧ (∀ p ∈ ps, p.2.n = p.1.ws.length) := by
  obtain ⟨vm, vv, bm, vfm, vfv, vc, ps1, ps2, h⟩ := h
  obtain ⟨A, c, rfl, hc, hv⟩ := h.fv.vin
  have hl : ps2.length = S.fv.length := by rw [← h.efv, List.length_map]
  rw [hl] at hv
  refine ⟨A, c, ps2, by rw [cell_of_row w g _ _ _ _ h.cell, ← hl]; rfl, hv, h.efv, fun p hp => ((hv.2 p hp).1).symm⟩
theorem Cir.chl (h : Cir w lab g S) : ∃ A c, w.cell? ⟨g, 6, none⟩ = some (.slice A S.chs.length c) ∧ SL fC w w.heap.size A S.chs := by
  obtain ⟨vm, vv, bm, vfm, vfv, vc, ps1, ps2, h⟩ := h
  obtain ⟨A, c, rfl, hc, hs, _⟩ := h.ch.shape
  exact ⟨A, c, by rw [cell_of_row w g _ _ _ _ h.cell]; rfl, hs⟩
theorem Wc.below0 {base b : Nat} {o : Obj} {bs : List Int} {V : World} (h : Wc b base (.slice none 0 0) (w.alloc o) bs V) (hb : w.heap.size ≤ b) : Below w.heap.size w V := by
  obtain ⟨v1, h1, h2, h3⟩ := h
  have hw : Below w.heap.size w (w.alloc o) := (Below.refl _ _).alloc (Nat.le_refl _) _
  refine hw.trans ⟨h2.os, h2.tape, h2.output, h2.size, fun k hk => h2.block k (by simp; omega) ?_⟩
  rintro (h | h)
  · omega
  · simp [Value.ownBlock] at h
end
theorem Tryz.sizeMm : (Tryz.prog.info? 40).map (·.size) = some 5 := by kernel_rfl
/-- The five cells of a member in a row. -/
theorem mem5 {w : World} {b off k : Nat} {m : Mem} (h : ∀ j v, (fM m)[j]? = some v → w.cell? ⟨b, off + (k * 5 + j), none⟩ = some v) :
    w.cell? ⟨b, off + k * 5, none⟩ = some (.int .i64 m.dev) ∧ w.cell? ⟨b, off + k * 5 + 1, none⟩ = some (.string m.name) ∧ w.cell? ⟨b, off + k * 5 + 2, none⟩ = some (.string m.pub) ∧ w.cell? ⟨b, off + k * 5 + 3, none⟩ = some (.int .i64 m.quota) ∧ w.cell? ⟨b, off + k * 5 + 4, none⟩ = some (.bool m.exp) := by
  refine ⟨?_, ?_, ?_, ?_, ?_⟩
  · exact h 0 _ rfl
  · rw [Nat.add_assoc]; exact h 1 _ rfl
  · rw [Nat.add_assoc]; exact h 2 _ rfl
  · rw [Nat.add_assoc]; exact h 3 _ rfl
  · rw [Nat.add_assoc]; exact h 4 _ rfl
theorem vlt15 {w : World} {b off k : Nat} {p : VP} (h : ∀ j v, (fP p)[j]? = some v → w.cell? ⟨b, off + (k * 15 + j), none⟩ = some v) :
    w.cell? ⟨b, off + k * 15, none⟩ = some (.int .i64 p.1.num) ∧ w.cell? ⟨b, off + k * 15 + 1, none⟩ = some (.slice p.2.a p.2.n p.2.c) ∧ w.cell? ⟨b, off + k * 15 + 2, none⟩ = some (.int .i64 p.1.data) ∧ w.cell? ⟨b, off + k * 15 + 3, none⟩ = some (.int .i64 p.1.total) ∧ w.cell? ⟨b, off + k * 15 + 4, none⟩ = some (.int .i64 p.1.thr) ∧ w.cell? ⟨b, off + k * 15 + 5, none⟩ = some (.string p.1.print) ∧ w.cell? ⟨b, off + k * 15 + 6, none⟩ = some (.int .i64 p.1.cmin) ∧ w.cell? ⟨b, off + k * 15 + 7, none⟩ = some (.int .i64 p.1.cmax) ∧ w.cell? ⟨b, off + k * 15 + 8, none⟩ = some (.int .i64 p.1.cwin) ∧ w.cell? ⟨b, off + k * 15 + 9, none⟩ = some (.int .i64 p.1.cbits) ∧ w.cell? ⟨b, off + k * 15 + 10, none⟩ = some (.int .u64 p.1.cseed) ∧ w.cell? ⟨b, off + k * 15 + 11, none⟩ = some (.int .i64 p.1.ra) ∧ w.cell? ⟨b, off + k * 15 + 12, none⟩ = some (.int .i64 p.1.rb) ∧ w.cell? ⟨b, off + k * 15 + 13, none⟩ = some (.int .i64 p.1.rc) ∧ w.cell? ⟨b, off + k * 15 + 14, none⟩ = some (.int .i64 p.1.rd) := by
  refine ⟨?_, ?_, ?_, ?_, ?_, ?_, ?_, ?_, ?_, ?_, ?_, ?_, ?_, ?_, ?_⟩
  · exact h 0 _ rfl
  · rw [Nat.add_assoc]; exact h 1 _ rfl
  · rw [Nat.add_assoc]; exact h 2 _ rfl
  · rw [Nat.add_assoc]; exact h 3 _ rfl
  · rw [Nat.add_assoc]; exact h 4 _ rfl
  · rw [Nat.add_assoc]; exact h 5 _ rfl
  · rw [Nat.add_assoc]; exact h 6 _ rfl
  · rw [Nat.add_assoc]; exact h 7 _ rfl
  · rw [Nat.add_assoc]; exact h 8 _ rfl
  · rw [Nat.add_assoc]; exact h 9 _ rfl
  · rw [Nat.add_assoc]; exact h 10 _ rfl
  · rw [Nat.add_assoc]; exact h 11 _ rfl
  · rw [Nat.add_assoc]; exact h 12 _ rfl
  · rw [Nat.add_assoc]; exact h 13 _ rfl
  · rw [Nat.add_assoc]; exact h 14 _ rfl
theorem ta_adm (m : Mem) (w : World) : (Instr.typeAssert (fC (.adm m)) 86 88 true).run Tryz.prog w = .ok (.tuple #[aM m, .bool true]) w := by
  simp [Instr.typeAssert, fC, go_sem]
abbrev zMm : Value := .agg #[.int .i64 0, .string ⟨#[]⟩, .string ⟨#[]⟩, .int .i64 0, .bool false]
theorem ta_bal1 (a b : Int) (w : World) : (Instr.typeAssert (fC (.bal a b)) 86 88 true).run Tryz.prog w = .ok (.tuple #[zMm, .bool false]) w := by
  simp [Instr.typeAssert, fC, go_sem]
theorem ta_bal2 (a b : Int) (w : World) : (Instr.typeAssert (fC (.bal a b)) 86 90 true).run Tryz.prog w = .ok (.tuple #[.agg #[.int .i64 a, .int .i64 b], .bool true]) w := by
  simp [Instr.typeAssert, fC, go_sem]
theorem ta_rep1 (v a b : Int) (w : World) : (Instr.typeAssert (fC (.rep v a b)) 86 88 true).run Tryz.prog w = .ok (.tuple #[zMm, .bool false]) w := by
  simp [Instr.typeAssert, fC, go_sem]
theorem ta_rep2 (v a b : Int) (w : World) : (Instr.typeAssert (fC (.rep v a b)) 86 90 true).run Tryz.prog w = .ok (.tuple #[.agg #[.int .i64 0, .int .i64 0], .bool false]) w := by
  simp [Instr.typeAssert, fC, go_sem]
theorem ta_rep3 (v a b : Int) (w : World) : (Instr.typeAssert (fC (.rep v a b)) 86 92 true).run Tryz.prog w = .ok (.tuple #[.agg #[.int .i64 v, .int .i64 a, .int .i64 b], .bool true]) w := by
  simp [Instr.typeAssert, fC, go_sem]
theorem Tryz.size_adm : (Tryz.prog.info? 88).map (·.size) = some 5 := by kernel_rfl
theorem Tryz.size_bal : (Tryz.prog.info? 90).map (·.size) = some 2 := by kernel_rfl
theorem Tryz.size_rep : (Tryz.prog.info? 92).map (·.size) = some 3 := by kernel_rfl
theorem adm_of {w : World} {k : Nat} {m : Mem} (h : w.heap[k]? = some (.cells (fM m).toArray 88 (0, 0))) : w.cell? ⟨k, 0, none⟩ = some (.int .i64 m.dev) ∧ w.cell? ⟨k, 1, none⟩ = some (.string m.name) ∧ w.cell? ⟨k, 2, none⟩ = some (.string m.pub) ∧ w.cell? ⟨k, 3, none⟩ = some (.int .i64 m.quota) ∧ w.cell? ⟨k, 4, none⟩ = some (.bool m.exp) := by
  refine ⟨?_, ?_, ?_, ?_, ?_⟩ <;> (rw [cell_of_row w k _ _ _ _ h]; rfl)
theorem Wc.join {g base : Nat} {v v1 : Value} {w0 w1 w2 : World} {bs : List Int} (k2 : But (foot g v) w0 w1) (k3 : NewRow v v1 w0) (h : Wc g base v1 w1 bs w2) : Wc g base v w0 bs w2 := by
  obtain ⟨v2, h1, h2, h3⟩ := h
  exact ⟨v2, h1, k2.wr k3 h2, k3.trans h3 k2.size⟩
/-- How long the parts are. -/
theorem part1 {S : Cst} (h : EInv S) (k : Nat) : (enc S.fm.length ++ (S.fm.take k).flatMap encM).length ≤ 900 := by
  have h1 := flat_le encM 68 (S.fm.take k) fun m hm => encM_len (h.ms m (List.mem_of_mem_take hm))
  have h2 := enc_len S.fm.length
  have h3 := h.fm
  rw [List.length_take] at h1
  rw [List.length_append]
  have : min k S.fm.length ≤ 12 := by omega
  have := Nat.mul_le_mul_left 68 this
  omega
theorem part2 {S : Cst} (h : EInv S) (k : Nat) : (enc S.fv.length ++ (S.fv.take k).flatMap encVt).length ≤ 2500 := by
  have h1 := flat_le encVt 200 (S.fv.take k) fun m hm => encVt_len (h.vs m (List.mem_of_mem_take hm))
  have h2 := enc_len S.fv.length
  have h3 := h.fv
  rw [List.length_take] at h1
  rw [List.length_append]
  have : min k S.fv.length ≤ 12 := by omega
  have := Nat.mul_le_mul_left 200 this
  omega
theorem part3 {S : Cst} (h : EInv S) (hc : S.chs.length ≤ 5000) (k : Nat) : (enc S.chs.length ++ (S.chs.take k).flatMap encX).length ≤ 391000 := by
  have h1 := flat_le encX 78 (S.chs.take k) fun m hm => encX_len (h.ch m (List.mem_of_mem_take hm))
  have h2 := enc_len S.chs.length
  rw [List.length_take] at h1
  rw [List.length_append]
  have : min k S.chs.length ≤ 5000 := by omega
  have := Nat.mul_le_mul_left 78 this
  omega
set_option maxRecDepth 20000 in
set_option maxHeartbeats 4000000 in
theorem encode_any (gc : Nat) (lab : Nat → Nat) (S : Cst) (w : World) (hC : Cir w lab gc S) (hE : EInv S) (hch : S.chs.length ≤ 5000) :
    Calls Tryz.prog 9 #[fG gc] w (Slc fB (encC S) w) := by
  obtain ⟨A1, k1, d1, hs1⟩ := hC.fmem
  obtain ⟨A2, k2, ps, d2, hs2, hps, hpn⟩ := hC.fvlt
  obtain ⟨A3, k3, d3, hs3⟩ := hC.chl
  have d4 := hC.quo
  have hgc := hC.lt
  obtain ⟨n1, hn1⟩ : ∃ n, S.fm.length = n := ⟨_, rfl⟩
  obtain ⟨n2, hn2⟩ : ∃ n, S.fv.length = n := ⟨_, rfl⟩
  obtain ⟨n3, hn3⟩ : ∃ n, S.chs.length = n := ⟨_, rfl⟩
  rw [hn1] at d1 hs1
  rw [hn2] at d2 hs2
  rw [hn3] at d3
  have HN1 := Lib.hid hn1
  have HN2 := Lib.hid hn2
  have HN3 := Lib.hid hn3
  have hn12 : n1 ≤ 12 := by rw [← hn1]; exact hE.fm
  have hv12 : n2 ≤ 12 := by rw [← hn2]; exact hE.fv
  have hc5 : n3 ≤ 5000 := by rw [← hn3]; exact hch
  have HS1 := Lib.hid hs1
  have HS2 := Lib.hid hs2
  have HS3 := Lib.hid hs3
  have HPS := Lib.hid hps
  have HPN := Lib.hid hpn
  have HE := Lib.hid hE
  have HCH := Lib.hid hch
  have hcells : ∀ bs V, Wc w.heap.size (w.heap.size + 1) (.slice none 0 0) (w.alloc (.cells #[.slice none 0 0, .int .i64 0] 134)) bs V → Below w.heap.size w V ∧ V.cell? ⟨gc, 4, none⟩ = some (.slice A1 n1 k1) ∧ V.cell? ⟨gc, 5, none⟩ = some (.slice A2 n2 k2) ∧ V.cell? ⟨gc, 6, none⟩ = some (.slice A3 n3 k3) ∧ V.cell? ⟨gc, 2, none⟩ = some (.int .i64 S.s.q) := fun bs V h => by
    have hb := h.below0 (Nat.le_refl _)
    exact ⟨hb, (hb.cell (p := ⟨gc, _, none⟩) hgc).trans d1, (hb.cell (p := ⟨gc, _, none⟩) hgc).trans d2, (hb.cell (p := ⟨gc, _, none⟩) hgc).trans d3, (hb.cell (p := ⟨gc, _, none⟩) hgc).trans d4⟩
  have HCE := Lib.hid hcells
  clear hn1 hn2 hn3 hs1 hs2 hs3 hps hpn hE hch d1 d2 d3 d4 hcells hC
  go_enter Tryz.func9, Tryz.ntmps9
  go_wp2_with fail
  refine (newWriter_any w).mono ?_
  rintro e V1 ⟨rfl, hV1⟩
  obtain ⟨V0, hV0⟩ : ∃ V, V = w.alloc (.cells #[.slice none 0 0, .int .i64 0] 134) := ⟨_, rfl⟩
  have hv0s : w.heap.size ≤ V0.heap.size := by rw [hV0]; simp
  have H1 : Hid (Wc w.heap.size (w.heap.size + 1) (.slice none 0 0) V0 [] V1) := by show Wc _ _ _ _ _ _; rw [← hV1, ← hV0, hV0]; exact Wc.start (Wr.new w)
  rw [← hV0] at HCE
  obtain ⟨gw, hgw⟩ : ∃ g, g = w.heap.size := ⟨_, rfl⟩
  have HGW := Lib.hid hgw
  rw [← hgw] at H1 HCE hv0s ⊢
  have HV0S := Lib.hid hv0s
  clear hV1 hV0 hgw hv0s
  obtain ⟨hb, d1, d2, d3, d4⟩ := HCE.out _ _ H1.out
  have HC1 := Lib.hid (H1.out.step (P := Tryz.prog) (fun v' hv' _ => wcount_any gw (gw + 1) v' _ n1 V1 hv' (by omega) (by simp)))
  clear hb
  go_wp2_with fail
  refine HC1.out.mono ?_
  rintro e V2 ⟨rfl, h⟩
  rw [List.nil_append] at h
  have H2 := Lib.hid h
  clear h d1 d2 d3 d4
  obtain ⟨hb, d1, d2, d3, d4⟩ := HCE.out _ _ H2.out
  clear hb
  go_wp2_with fail
  clear d1 d2 d3 d4
  go_loopw [30] (fun i wr => ∃ k : Nat, k ≤ n1 ∧ i = .int .i64 k ∧ Hid (Wc gw (gw + 1) (.slice none 0 0) V0 (enc n1 ++ (S.fm.take k).flatMap encM) wr)) (fun i _ => n1 - (intOf i).toNat)
  case atStart => exact ⟨0, Nat.zero_le _, rfl, by show Wc _ _ _ _ _ _; rw [List.take_zero, List.flatMap_nil, List.append_nil]; exact H2.out⟩
  case round =>
    obtain ⟨k, hk, rfl, HK⟩ := hrel
    obtain ⟨hb, d1, d2, d3, d4⟩ := HCE.out _ _ HK.out
    have HBK := Lib.hid hb
    clear hb
    by_cases hlt : k < n1
    · -- PART M
      obtain ⟨b, off, m, hA, hbB, hmk, hcell⟩ := (HS1.out.up HBK.out (Nat.le_of_eq HGW.out.symm)).at_ hlt
      subst hA
      obtain ⟨c0, c1, c2, c3, c4⟩ := mem5 hcell
      have hmo := HE.out.ms m (List.mem_of_getElem? hmk)
      have HT : Hid ((enc n1 ++ (S.fm.take k).flatMap encM) ++ encM m = enc n1 ++ (S.fm.take (k + 1)).flatMap encM) := by
        show _ = _
        rw [take_snoc hmk, flat_snoc, List.append_assoc]
      have hbl := part1 HE.out k
      rw [HN1.out] at hbl
      obtain ⟨W2, hW2⟩ : ∃ W2 : World, W2 = wr.alloc (.cells #[.int .i64 m.dev, .string m.name, .string m.pub, .int .i64 m.quota, .bool m.exp] 40) := ⟨_, rfl⟩
      have HC := Lib.hid ((HK.out.alloc (.cells #[.int .i64 m.dev, .string m.name, .string m.pub, .int .i64 m.quota, .bool m.exp] 40)).step (P := Tryz.prog) (fun v' hv' _ => wmem_any gw (gw + 1) v' _ m _ hv' hmo (by omega)))
      rw [← hW2] at HC
      have HW2 := Lib.hid hW2
      clear hcell hmk hmo hbl hbB hW2
      go_wp2_with (refine wpList_store_new (o := ⟨none, .store 40 (.tmp 5) (.tmp 33), _, _, _, _⟩) rfl 40 (.tmp 5) (.tmp 33) rfl 40 _ #[.int .i64 m.dev, .string m.name, .string m.pub, .int .i64 m.quota, .bool m.exp] rfl rfl Tryz.sizeMm rfl rfl ?_)
      rw [← HW2.out]
      refine HC.out.mono ?_
      rintro e w3 ⟨rfl, h⟩
      rw [HT.out] at h
      have H3 := Lib.hid h
      clear h c0 c1 c2 c3 c4 d1 d2 d3 d4
      go_wp2_with fail
      go_roundw
      case rel => exact ⟨k + 1, by omega, by go_num, H3⟩
      case measure => simp [intOf]; omega
      -- END M
    · obtain rfl : k = n1 := by omega
      have HE1 : Hid (Wc gw (gw + 1) (.slice none 0 0) V0 (enc k ++ S.fm.flatMap encM) wr) := by
        have h := HK.out
        rw [List.take_of_length_le (by have := HN1.out; omega)] at h
        exact h
      have hb1 := part1 HE.out k
      rw [List.take_of_length_le (by have := HN1.out; omega), HN1.out] at hb1
      obtain ⟨B1, hB1⟩ : ∃ B, enc k ++ S.fm.flatMap encM = B := ⟨_, rfl⟩
      have HB1 := Lib.hid hB1
      rw [hB1] at HE1 hb1
      have HC2 := Lib.hid (HE1.out.step (P := Tryz.prog) (fun v' hv' _ => wcount_any gw (gw + 1) v' _ n2 wr hv' (by omega) (by omega)))
      clear hB1 HK HBK
      go_wp2_with fail
      refine HC2.out.mono ?_
      rintro e V3 ⟨rfl, h⟩
      have H3 := Lib.hid h
      clear h d1 d2 d3 d4
      obtain ⟨hb, d1, d2, d3, d4⟩ := HCE.out _ _ H3.out
      clear hb
      go_wp2_with fail
      clear d1 d2 d3 d4
      go_loopw [52] (fun i wr => ∃ k : Nat, k ≤ n2 ∧ i = .int .i64 k ∧ Hid (Wc gw (gw + 1) (.slice none 0 0) V0 (B1 ++ (enc n2 ++ (S.fv.take k).flatMap encVt)) wr)) (fun i _ => n2 - (intOf i).toNat)
      case atStart => exact ⟨0, Nat.zero_le _, rfl, by show Wc _ _ _ _ _ _; rw [List.take_zero, List.flatMap_nil, List.append_nil]; exact H3.out⟩
      case round =>
        obtain ⟨k, hk, rfl, HK⟩ := hrel
        obtain ⟨hb, d1, d2, d3, d4⟩ := HCE.out _ _ HK.out
        have HBK := Lib.hid hb
        clear hb
        by_cases hlt : k < n2
        · -- PART V
          obtain ⟨b, off, p, hA, hbB, hpk, hcell⟩ := (HS2.out.1.up HBK.out (Nat.le_of_eq HGW.out.symm)).at_ hlt
          subst hA
          obtain ⟨c0, c1, c2, c3, c4, c5, c6, c7, c8, c9, c10, c11, c12, c13, c14⟩ := vlt15 hcell
          have hpm := List.mem_of_getElem? hpk
          have hvk : S.fv[k]? = some p.1 := by rw [← HPS.out, List.getElem?_map, hpk]; rfl
          have hvo := HE.out.vs p.1 (List.mem_of_getElem? hvk)
          have hws := HS2.out.2 p hpm
          have HT : Hid ((B1 ++ (enc n2 ++ (S.fv.take k).flatMap encVt)) ++ encVt p.1 = B1 ++ (enc n2 ++ (S.fv.take (k + 1)).flatMap encVt)) := by
            show _ = _
            rw [take_snoc hvk, flat_snoc]
            simp only [List.append_assoc]
          have hbl := part2 HE.out k
          rw [HN2.out] at hbl
          obtain ⟨W2, hW2⟩ : ∃ W2 : World, W2 = wr.alloc (oV p.1 p.2.a p.2.n p.2.c) := ⟨_, rfl⟩
          have hbw : Below w.heap.size w W2 := by
            rw [← HGW.out, hW2]
            exact HBK.out.alloc (Nat.le_trans (Nat.le_of_eq HGW.out) HBK.out.size) _
          have HC := Lib.hid ((HK.out.alloc (oV p.1 p.2.a p.2.n p.2.c)).step (P := Tryz.prog) (fun v' hv' hn => wvlt_any gw (gw + 1) v' _ p.1 p.2.a p.2.n p.2.c _ hv' hvo (hW2 ▸ (hws.up hbw (Nat.le_refl _)).more' hbw.size) (fun a ha h0 => by
            obtain ⟨b3, off3, e3, hlt3, _⟩ := hws.2 h0
            rw [ha] at e3
            cases e3
            rintro (h5 | h5)
            · have := HGW.out; simp only at h5; omega
            · rcases hn with h6 | ⟨j, h6, hj⟩
              · rw [h6] at h5; simp [Value.ownBlock] at h5
              · rw [h6] at h5; injection h5 with h5; have := HGW.out; have := HV0S.out; simp only at h5; omega) (by simp only [List.length_append] at hbl ⊢; omega)))
          rw [← hW2] at HC
          have HW2 := Lib.hid hW2
          clear hcell hpk hpm hvk hvo hws hbl hbB hW2 hbw
          go_wp2_with (refine wpList_store_new (o := ⟨none, .store 68 (.tmp 7) (.tmp 55), _, _, _, _⟩) rfl 68 (.tmp 7) (.tmp 55) rfl 68 _ #[.int .i64 p.1.num, .slice p.2.a p.2.n p.2.c, .int .i64 p.1.data, .int .i64 p.1.total, .int .i64 p.1.thr, .string p.1.print, .int .i64 p.1.cmin, .int .i64 p.1.cmax, .int .i64 p.1.cwin, .int .i64 p.1.cbits, .int .u64 p.1.cseed, .int .i64 p.1.ra, .int .i64 p.1.rb, .int .i64 p.1.rc, .int .i64 p.1.rd] rfl rfl Tryz.sizeV rfl rfl ?_)
          rw [← HW2.out]
          refine HC.out.mono ?_
          rintro e w3 ⟨rfl, h⟩
          rw [HT.out] at h
          have H4 := Lib.hid h
          clear h c0 c1 c2 c3 c4 c5 c6 c7 c8 c9 c10 c11 c12 c13 c14 d1 d2 d3 d4
          go_wp2_with fail
          go_roundw
          case rel => exact ⟨k + 1, by omega, by go_num, H4⟩
          case measure => simp [intOf]; omega
          -- END V
        · obtain rfl : n2 = k := by omega
          have HE2 : Hid (Wc gw (gw + 1) (.slice none 0 0) V0 (B1 ++ (enc n2 ++ S.fv.flatMap encVt)) wr) := by
            have h := HK.out
            rw [List.take_of_length_le (by have := HN2.out; omega)] at h
            exact h
          have hb2 := part2 HE.out n2
          rw [List.take_of_length_le (by have := HN2.out; omega), HN2.out] at hb2
          obtain ⟨B2, hB2⟩ : ∃ B, enc n2 ++ S.fv.flatMap encVt = B := ⟨_, rfl⟩
          have HB2 := Lib.hid hB2
          rw [hB2] at HE2 hb2
          have hb3 := encL_len [S.s.q]
          simp only [List.length_cons, List.length_nil] at hb3
          have HC3 := Lib.hid (HE2.out.ints [S.s.q] 3 1 1 rfl (fun x hx => by obtain rfl := List.mem_singleton.1 hx; exact HE.out.q) (by decide) (by simp only [List.length_append]; omega))
          clear hB2 HK HBK
          go_wp2_with fail
          refine HC3.out.mono ?_
          rintro e V5 ⟨rfl, h⟩
          have H5 := Lib.hid h
          clear h d1 d2 d3 d4
          obtain ⟨hb, d1, d2, d3, d4⟩ := HCE.out _ _ H5.out
          have HC4 := Lib.hid (H5.out.step (P := Tryz.prog) (fun v' hv' _ => wcount_any gw (gw + 1) v' _ n3 V5 hv' (by omega) (by simp only [List.length_append]; omega)))
          clear hb
          go_wp2_with fail
          refine HC4.out.mono ?_
          rintro e V6 ⟨rfl, h⟩
          have H6 := Lib.hid h
          clear h d1 d2 d3 d4
          obtain ⟨hb, d1, d2, d3, d4⟩ := HCE.out _ _ H6.out
          clear hb
          go_wp2_with fail
          clear d1 d2 d3 d4
          go_loopw [79] (fun i wr => ∃ k : Nat, k ≤ n3 ∧ i = .int .i64 k ∧ Hid (Wc gw (gw + 1) (.slice none 0 0) V0 (((B1 ++ B2) ++ encL [S.s.q]) ++ (enc n3 ++ (S.chs.take k).flatMap encX)) wr)) (fun i _ => n3 - (intOf i).toNat)
          case atStart => exact ⟨0, Nat.zero_le _, rfl, by show Wc _ _ _ _ _ _; rw [List.take_zero, List.flatMap_nil, List.append_nil]; exact H6.out⟩
          case round =>
            obtain ⟨k, hk, rfl, HK⟩ := hrel
            obtain ⟨hb, d1, d2, d3, d4⟩ := HCE.out _ _ HK.out
            have HBK := Lib.hid hb
            clear hb
            have hb4 := part3 HE.out HCH.out k
            rw [HN3.out] at hb4
            by_cases hlt : k < n3
            · obtain ⟨b, off, x, hA, hbB, hxk, hcell⟩ := (HS3.out.up HBK.out (Nat.le_of_eq HGW.out.symm)).at_ (k := k) (by rw [HN3.out]; exact hlt)
              subst hA
              have hxo := HE.out.ch x (List.mem_of_getElem? hxk)
              have HT : Hid ((((B1 ++ B2) ++ encL [S.s.q]) ++ (enc n3 ++ (S.chs.take k).flatMap encX)) ++ encX x = ((B1 ++ B2) ++ encL [S.s.q]) ++ (enc n3 ++ (S.chs.take (k + 1)).flatMap encX)) := by
                show _ = _
                rw [take_snoc hxk, flat_snoc]
                simp only [List.append_assoc]
              obtain ⟨B3, hB3⟩ : ∃ B, ((B1 ++ B2) ++ encL [S.s.q]) ++ (enc n3 ++ (S.chs.take k).flatMap encX) = B := ⟨_, rfl⟩
              have hb5 : B3.length ≤ 400000 := by rw [← hB3]; simp only [List.length_append] at hb4 ⊢; omega
              rw [hB3] at HT HK
              clear hxk hbB hB3 hb4
              cases x with
              | adm m =>
                -- PART A
                have HX : Hid (mOk m) := hxo
                have ta1 := ta_adm m
                obtain ⟨v1, q1, q2, q3⟩ := HK.out
                obtain ⟨W2, hW2⟩ : ∃ W2 : World, W2 = wr.alloc (.cells #[.int .i64 m.dev, .string m.name, .string m.pub, .int .i64 m.quota, .bool m.exp] 88) := ⟨_, rfl⟩
                have hK2 : W2.heap[wr.heap.size]? = some (.cells (fM m).toArray 88 (0, 0)) := by rw [hW2]; exact heap_alloc_new wr _
                have hkeep : ∀ bs' V, Wc gw (gw + 1) v1 W2 bs' V → V.heap[wr.heap.size]? = some (.cells (fM m).toArray 88 (0, 0)) := fun bs' V h => (h.keep q1.fresh (lt_of_block hK2)).trans hK2
                have hz : Wc gw (gw + 1) v1 W2 B3 W2 := by rw [hW2]; exact Wc.start (q1.alloc _)
                have hjoin : ∀ bs' V, Wc gw (gw + 1) v1 W2 bs' V → Wc gw (gw + 1) (.slice none 0 0) V0 bs' V := fun bs' V h => Wc.join q2 q3 (by rw [hW2] at h; exact h.behind)
                have HJ := Lib.hid hjoin
                have HKE := Lib.hid hkeep
                have hsz : W2.heap.size = wr.heap.size + 1 := by rw [hW2]; simp
                have hc0 := hz.ints [1] 3 1 1 rfl (fun x hx => by obtain rfl := List.mem_singleton.1 hx; exact ⟨by decide, by decide⟩) (by decide) (by omega)
                rw [hsz] at hc0
                have HC : Hid (Calls Tryz.prog 31 #[.pointer (some ⟨gw, 0, none⟩), .slice (some ⟨wr.heap.size + 1, 0, none⟩) 1 1] (W2.alloc (.cells #[.int .i64 1] 3)) fun e w' => e = .returned (.tuple #[]) ∧ Wc gw (gw + 1) v1 W2 (B3 ++ encL [1]) w') := hc0
                have HW2 := Lib.hid hW2
                have HTX : Hid ((B3 ++ encL [1]) ++ encM m = B3 ++ encX (.adm m)) := by show _ = _; rw [List.append_assoc]; rfl
                clear hxo q1 q2 q3 hK2 hkeep hz hjoin hW2 hsz hc0
                go_wp2_with fail
                rw [← HW2.out]
                refine HC.out.mono ?_
                rintro e w3 ⟨rfl, h⟩
                obtain ⟨c0, c1, c2, c3, c4⟩ := adm_of (HKE.out _ _ h)
                have hb6 := encL_len [1]
                simp only [List.length_cons, List.length_nil] at hb6
                have HC6 := Lib.hid (h.step (P := Tryz.prog) (fun v' hv' _ => wmem_any gw (gw + 1) v' _ m w3 hv' HX.out (by rw [List.length_append]; omega)))
                clear h
                go_wp2_with fail
                refine HC6.out.mono ?_
                rintro e w4 ⟨rfl, h⟩
                rw [HTX.out, HT.out] at h
                have H4 := Lib.hid (HJ.out _ _ h)
                clear h c0 c1 c2 c3 c4 d1 d2 d3 d4 ta1
                go_wp2_with fail
                go_roundw
                case rel => exact ⟨k + 1, by omega, by go_num, H4⟩
                case measure => simp [intOf]; omega
                -- END A
              | bal a b =>
                -- PART B
                have ta1 := ta_bal1 a b
                have ta2 := ta_bal2 a b
                have hxl : ∀ x ∈ [2, a, b], nOk x := by
                  intro x hx
                  simp only [List.mem_cons, List.not_mem_nil, or_false] at hx
                  rcases hx with rfl | rfl | rfl
                  · exact ⟨by decide, by decide⟩
                  · exact hxo.1
                  · exact hxo.2
                have hsz : (wr.alloc (.cells #[.int .i64 a, .int .i64 b] 90)).heap.size = wr.heap.size + 1 := by simp
                have hc0 := (HK.out.alloc (.cells #[.int .i64 a, .int .i64 b] 90)).ints [2, a, b] 3 3 3 rfl hxl (by decide) (by omega)
                rw [hsz] at hc0
                have HC : Hid (Calls Tryz.prog 31 #[.pointer (some ⟨gw, 0, none⟩), .slice (some ⟨wr.heap.size + 1, 0, none⟩) 3 3] ((wr.alloc (.cells #[.int .i64 a, .int .i64 b] 90)).alloc (.cells #[.int .i64 2, .int .i64 a, .int .i64 b] 3)) fun e w' => e = .returned (.tuple #[]) ∧ Wc gw (gw + 1) (.slice none 0 0) V0 (B3 ++ encL [2, a, b]) w') := hc0
                have HTX : Hid (B3 ++ encL [2, a, b] = B3 ++ encX (.bal a b)) := rfl
                clear hxo hxl hsz hc0
                go_wp2_with fail
                refine HC.out.mono ?_
                rintro e w4 ⟨rfl, h⟩
                rw [HTX.out, HT.out] at h
                have H4 := Lib.hid h
                clear h d1 d2 d3 d4
                go_wp2_with fail
                go_roundw
                case rel => exact ⟨k + 1, by omega, by go_num, H4⟩
                case measure => simp [intOf]; omega
                -- END B
              | rep v a b =>
                -- PART R
                have ta1 := ta_rep1 v a b
                have ta2 := ta_rep2 v a b
                have ta3 := ta_rep3 v a b
                have hxl : ∀ x ∈ [3, v, a, b], nOk x := by
                  intro x hx
                  simp only [List.mem_cons, List.not_mem_nil, or_false] at hx
                  rcases hx with rfl | rfl | rfl | rfl
                  · exact ⟨by decide, by decide⟩
                  · exact hxo.1
                  · exact hxo.2.1
                  · exact hxo.2.2
                have hsz : (wr.alloc (.cells #[.int .i64 v, .int .i64 a, .int .i64 b] 92)).heap.size = wr.heap.size + 1 := by simp
                have hc0 := (HK.out.alloc (.cells #[.int .i64 v, .int .i64 a, .int .i64 b] 92)).ints [3, v, a, b] 3 4 4 rfl hxl (by decide) (by omega)
                rw [hsz] at hc0
                have HC : Hid (Calls Tryz.prog 31 #[.pointer (some ⟨gw, 0, none⟩), .slice (some ⟨wr.heap.size + 1, 0, none⟩) 4 4] ((wr.alloc (.cells #[.int .i64 v, .int .i64 a, .int .i64 b] 92)).alloc (.cells #[.int .i64 3, .int .i64 v, .int .i64 a, .int .i64 b] 3)) fun e w' => e = .returned (.tuple #[]) ∧ Wc gw (gw + 1) (.slice none 0 0) V0 (B3 ++ encL [3, v, a, b]) w') := hc0
                have HTX : Hid (B3 ++ encL [3, v, a, b] = B3 ++ encX (.rep v a b)) := rfl
                clear hxo hxl hsz hc0
                go_wp2_with fail
                refine HC.out.mono ?_
                rintro e w4 ⟨rfl, h⟩
                rw [HTX.out, HT.out] at h
                have H4 := Lib.hid h
                clear h d1 d2 d3 d4
                go_wp2_with fail
                go_roundw
                case rel => exact ⟨k + 1, by omega, by go_num, H4⟩
                case measure => simp [intOf]; omega
                -- END R
            · obtain rfl : n3 = k := by omega
              have HE3 : Hid (Wc gw (gw + 1) (.slice none 0 0) V0 (encC S) wr) := by
                have h := HK.out
                rw [List.take_of_length_le (by have := HN3.out; omega), ← HB1.out, ← HB2.out] at h
                show Wc _ _ _ _ _ _
                unfold encC
                rw [HN1.out, HN2.out, HN3.out]
                simp only [List.append_assoc] at h ⊢
                exact h
              obtain ⟨v9, hw9, _, _⟩ := HE3.out
              have HD := Lib.hid (wdone_any gw (gw + 1) v9 (encC S) wr hw9 (by have := encC_len HE.out HCH.out; omega))
              clear hw9 hb4
              go_wp2_with fail
              refine HD.out.mono ?_
              rintro e V9 ⟨A9, n9, c9, rfl, q1, q2, q3⟩
              have Q1 := Lib.hid q1
              have Q2 := Lib.hid q2
              have Q3 := Lib.hid q3
              clear q1 q2 q3
              go_wp2_with fail
              go_ret
              exact ⟨A9, n9, c9, rfl, Q1.out, Q2.out, (HGW.out ▸ HBK.out : Below w.heap.size w wr).trans (Q3.out.mono HBK.out.size)⟩
end Go.Proofs.YtkeicjokekmkpaaGreat
