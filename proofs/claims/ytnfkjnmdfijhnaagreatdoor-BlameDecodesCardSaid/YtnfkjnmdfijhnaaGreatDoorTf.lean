/- The law of what entries contain, walked. -/
import Derived.Test.YtnfkjnmdfijhnaaGreatDoorMu
import Derived.Test.YtnfkjnmdfijhnaaGreatDoorS5
import Derived.Test.YtnfkjnmdfijhnaaGreatDoorQ6
import Derived.Test.YtnfkjnmdfijhnaaGreatDoorZf
namespace Go.Proofs.YtnfkjnmdfijhnaaGreatDoor
open Go.RowKit Go.Lib
set_option linter.unusedVariables false
set_option linter.unusedSimpArgs false

abbrev cE (dv sq k dy : Int) (A : Option Addr) (n c : Nat) (pr : ByteArray) : Array Value := #[.int .i64 dv, .int .i64 sq, .int .i64 k, .int .i64 dy, .slice A n c, .string pr]
theorem Tryz.sizeEn : (Tryz.prog.info? 45).map (·.size) = some 6 := by kernel_rfl
theorem cE_size (dv sq k dy : Int) (A : Option Addr) (n c : Nat) (pr : ByteArray) : (Tryz.prog.info? 45).map (·.size) = some (cE dv sq k dy A n c pr).size := Tryz.sizeEn
set_option maxRecDepth 100000 in
set_option maxHeartbeats 4000000 in
theorem decodes_long (dv sq k dy : Int) (pr : ByteArray) (A : Option Addr) (n c : Nat) (w : World) (hG : Glob w) (hn : 12000 < n) :
    Calls Tryz.prog 4 #[.agg #[.int .i64 dv, .int .i64 sq, .int .i64 k, .int .i64 dy, .slice A n c, .string pr]] w fun e w' => e = .returned (.bool true) ∧ Below w.heap.size w w' := by
  have hnI : (12000 : Int) < (n : Int) := by omega
  have hb : Below w.heap.size w (w.alloc (.cells #[.int .i64 dv, .int .i64 sq, .int .i64 k, .int .i64 dy, .slice A n c, .string pr] 45)) := (Below.refl _ _).alloc (Nat.le_refl _) _
  have HAW := Lib.hid (awake_any _ (hG.on hb))
  have HB := Lib.hid hb
  clear hb
  go_enter Tryz.func4, Tryz.ntmps4
  go_wp2_with (go_at_call 6; (with_reducible refine HAW.out.mono ?_); rintro e V2 ⟨rfl, bb⟩; (have B2 := Lib.hid bb); clear bb)
  go_ret
  exact ⟨rfl, HB.out.trans (B2.out.mono HB.out.size)⟩
set_option maxRecDepth 100000 in
set_option maxHeartbeats 16000000 in
theorem decodes_any (dv sq k dy : Int) (pr : ByteArray) (A : Option Addr) (n c B : Nat) (bs : List Int) (w : World) (hG : Glob w) (hx : Sl fB w B A n bs) (hB : B ≤ w.heap.size) (hnc : n ≤ c) (hb : Byt bs) (hn : n ≤ 12000) :
    Calls Tryz.prog 4 #[.agg #[.int .i64 dv, .int .i64 sq, .int .i64 k, .int .i64 dy, .slice A n c, .string pr]] w fun e w' => e = .returned (.bool true) ∧ Below w.heap.size w w' := by
  have hnI : ¬ (12000 : Int) < (n : Int) := by omega
  have hl : bs.length = n := hx.1
  have hk : RK bs n c := ⟨hb, by omega, hnc⟩
  obtain ⟨W1, hW1⟩ : ∃ W1 : World, W1 = w.alloc (.cells #[.int .i64 dv, .int .i64 sq, .int .i64 k, .int .i64 dy, .slice A n c, .string pr] 45) := ⟨_, rfl⟩
  have hb1 : Below w.heap.size w W1 := by rw [hW1]; exact (Below.refl _ _).alloc (Nat.le_refl _) _
  have hge : W1.heap[w.heap.size]? = some (.cells #[.int .i64 dv, .int .i64 sq, .int .i64 k, .int .i64 dy, .slice A n c, .string pr] 45 (0, 0)) := by rw [hW1]; exact heap_alloc_new w _
  have hs1 : W1.heap.size = w.heap.size + 1 := by rw [hW1]; simp
  have HE : Hid (∀ V, Below W1.heap.size W1 V → V.heap[w.heap.size]? = some (.cells (cE dv sq k dy A n c pr) 45 (0, 0))) := fun V h => (h.block _ (by omega)).trans hge
  have HS : Hid (∀ V, Below W1.heap.size W1 V → Sl fB V B A n bs ∧ B ≤ V.heap.size) := fun V h => ⟨(hx.up hb1 hB).up h (Nat.le_trans hB hb1.size), Nat.le_trans (Nat.le_trans hB hb1.size) h.size⟩
  obtain ⟨f, hf⟩ : ∃ f, acF k dv sq bs = f := ⟨_, rfl⟩
  obtain ⟨f2, hf2⟩ : ∃ f, aqF k bs = f := ⟨_, rfl⟩
  obtain ⟨f3, hf3⟩ : ∃ f, mtF k bs = f := ⟨_, rfl⟩
  have H13 : Hid (∀ V, Below W1.heap.size W1 V → Calls Tryz.prog 13 #[.agg #[.int .i64 dv, .int .i64 sq, .int .i64 k, .int .i64 dy, .slice A n c, .string pr]] V (AcPost f V)) := fun V h => hf ▸ dac_u k dv sq dy pr A n c B bs V (HS.out V h).1 (HS.out V h).2 hk
  have H14 : Hid (∀ V, Below W1.heap.size W1 V → Calls Tryz.prog 14 #[.agg #[.int .i64 dv, .int .i64 sq, .int .i64 k, .int .i64 dy, .slice A n c, .string pr]] V (AcPost f V)) := fun V h => hf ▸ rac_u k dv sq dy pr A n c B bs V (HS.out V h).1 (HS.out V h).2 hk (by omega)
  have H10 : Hid (∀ V, Below W1.heap.size W1 V → Calls Tryz.prog 10 #[.agg #[.int .i64 dv, .int .i64 sq, .int .i64 k, .int .i64 dy, .slice A n c, .string pr]] V (AqPost f2 V)) := fun V h => hf2 ▸ daq_u k dv sq dy pr A n c B bs V (HS.out V h).1 (HS.out V h).2 hk
  have H16 : Hid (∀ V, Below W1.heap.size W1 V → Calls Tryz.prog 16 #[.agg #[.int .i64 dv, .int .i64 sq, .int .i64 k, .int .i64 dy, .slice A n c, .string pr]] V (AqPost f2 V)) := fun V h => hf2 ▸ raq_u k dv sq dy pr A n c B bs V (HS.out V h).1 (HS.out V h).2 hk
  have H17 : Hid (∀ V, Below W1.heap.size W1 V → Calls Tryz.prog 17 #[.agg #[.int .i64 dv, .int .i64 sq, .int .i64 k, .int .i64 dy, .slice A n c, .string pr]] V (MtPost f3 V)) := fun V h => hf3 ▸ dmt_u k dv sq dy pr A n c B bs V (HS.out V h).1 (HS.out V h).2 hk
  have H18 : Hid (∀ V, Below W1.heap.size W1 V → Calls Tryz.prog 18 #[.agg #[.int .i64 dv, .int .i64 sq, .int .i64 k, .int .i64 dy, .slice A n c, .string pr]] V (MtPost f3 V)) := fun V h => hf3 ▸ rmt_u k dv sq dy pr A n c B bs V (HS.out V h).1 (HS.out V h).2 hk
  have HAW : Hid (∀ V, Below W1.heap.size W1 V → Calls Tryz.prog 6 #[] V fun e w' => e = .returned (.bool true) ∧ Below V.heap.size V w') := fun V h => awake_any V ((hG.on hb1).on h)
  have k4 : W1.cell? ⟨w.heap.size, 4, none⟩ = some (.slice A n c) := by rw [cell_of_row W1 _ _ _ _ _ hge]; rfl
  have HB : Hid (Below W1.heap.size W1 W1) := Below.refl _ _
  have HB1 := Lib.hid hb1
  have HWE := Lib.hid hW1
  unfold AcPost at H13 H14
  unfold AqPost at H10 H16
  unfold MtPost at H17 H18
  obtain ⟨er, d, q, R, st, ix, no, an, ps, qs, rs⟩ := f
  obtain ⟨er2, d2, q2, ps1, px, xs, ys⟩ := f2
  obtain ⟨er3, q3, vs⟩ := f3
  dsimp only at H13 H14 H10 H16 H17 H18
  clear hf hf2 hf3 hx hb hW1 hb1 hge hs1 hk hl hB
  go_enter Tryz.func4, Tryz.ntmps4
  go_upto_region 1 with fail
  rw [← HWE.out]
  go_upto_region 3 with fail
  clear k4
  go_upto_region 4 with (first
    | (with_reducible refine wpList_load_row (o := ⟨some 27, _, _, _, _, _⟩) rfl 45 (.tmp 1) rfl w.heap.size rfl 45 (cE dv sq k dy A n c pr) _ _ (HE.out _ HB.out) Tryz.underlying45 rfl (cE_size _ _ _ _ _ _ _ _) ?_)
    | (go_at_call 13; (with_reducible refine (H13.out _ HB.out).mono ?_); rintro e V1 ⟨pa, pb, pc, rfl, hs, hn, bb⟩; (have L1 := Lib.hid hs); (have N1 := Lib.hid hn); (have HB1a := Lib.hid (HB.out.trans (bb.mono HB.out.size))); clear hs hn bb)
    | ((with_reducible refine wpList_store_but (o := ⟨none, _, _, _, _, _⟩) rfl 39 (.tmp 3) (.tmp 29) rfl V1.heap.size 39 zA (cA d q (rHd R pa pb pc) st ix no an) (by kernel_rfl) rfl (heap_alloc_new V1 _) (cA_size _ _ _ _ _ _ _) (by kernel_rfl) (cA_one _ _ _ _ _ _ _) ?_); intro V2 HG2 HB2))
  have B12 : Hid (Below V1.heap.size V1 V2) := ((Below.refl V1.heap.size V1).alloc (Nat.le_refl _) _).trans (HB2.out.below (by simp) (fun i hi => by subst hi; exact Nat.le_refl _))
  have HBx : Hid (Below W1.heap.size W1 V2) := HB1a.out.trans (B12.out.mono HB1a.out.size)
  clear HB HB1a HB2 H13
  have HB := HBx
  clear HBx
  go_upto_region 5 with (first
    | (with_reducible refine wpList_load_row (o := ⟨some 32, _, _, _, _, _⟩) rfl 45 (.tmp 1) rfl w.heap.size rfl 45 (cE dv sq k dy A n c pr) _ _ (HE.out _ HB.out) Tryz.underlying45 rfl (cE_size _ _ _ _ _ _ _ _) ?_)
    | (go_at_call 14; (with_reducible refine (H14.out _ HB.out).mono ?_); rintro e V3 ⟨qa, qb, qc, rfl, hs, hn, bb⟩; (have L3 := Lib.hid hs); (have N3 := Lib.hid hn); (have B23 := Lib.hid bb); clear hs hn bb)
    | ((with_reducible refine wpList_store_but (o := ⟨none, _, _, _, _, _⟩) rfl 51 (.tmp 5) (.tmp 34) rfl V3.heap.size 51 zA (cA d q (rHd R qa qb qc) st ix no an) (by kernel_rfl) rfl (heap_alloc_new V3 _) (cA_sizeR _ _ _ _ _ _ _) (by kernel_rfl) (cA_one _ _ _ _ _ _ _) ?_); intro V4 HG4 HB4))
  have B34 : Hid (Below V3.heap.size V3 V4) := ((Below.refl V3.heap.size V3).alloc (Nat.le_refl _) _).trans (HB4.out.below (by simp) (fun i hi => by subst hi; exact Nat.le_refl _))
  have B24 : Hid (Below V2.heap.size V2 V4) := B23.out.trans (B34.out.mono B23.out.size)
  have B14 : Hid (Below V1.heap.size V1 V4) := B12.out.trans (B24.out.mono B12.out.size)
  have HBx : Hid (Below W1.heap.size W1 V4) := HB.out.trans (B24.out.mono HB.out.size)
  clear HB HB4 H14
  have HB := HBx
  clear HBx
  have HGA : Hid (V4.heap[V1.heap.size]? = some (.cells (cA d q (rHd R pa pb pc) st ix no an) 39 (0, 0))) := (B24.out.block _ (lt_of_block HG2.out)).trans HG2.out
  have HSM : Hid (Calls Tryz.prog 15 #[.agg (cA d q (rHd R pa pb pc) st ix no an), .agg (cA d q (rHd R qa qb qc) st ix no an)] V4 fun e w' => e = .returned (.bool true) ∧ Below V4.heap.size V4 w') := by
    have l1 : Sl fT V4 V4.heap.size pa.a pa.n ps ∧ Sl fT V4 V4.heap.size pb.a pb.n qs ∧ Sl fT V4 V4.heap.size pc.a pc.n rs := ⟨(L1.out.1.up B14.out (Nat.le_refl _)).more' B14.out.size, (L1.out.2.1.up B14.out (Nat.le_refl _)).more' B14.out.size, (L1.out.2.2.up B14.out (Nat.le_refl _)).more' B14.out.size⟩
    have l3 : Sl fT V4 V4.heap.size qa.a qa.n ps ∧ Sl fT V4 V4.heap.size qb.a qb.n qs ∧ Sl fT V4 V4.heap.size qc.a qc.n rs := ⟨(L3.out.1.up B34.out (Nat.le_refl _)).more' B34.out.size, (L3.out.2.1.up B34.out (Nat.le_refl _)).more' B34.out.size, (L3.out.2.2.up B34.out (Nat.le_refl _)).more' B34.out.size⟩
    have e1 : qa.n = pa.n := by rw [← l3.1.1, ← l1.1.1]
    have e2 : qb.n = pb.n := by rw [← l3.2.1.1, ← l1.2.1.1]
    have e3 : qc.n = pc.n := by rw [← l3.2.2.1, ← l1.2.2.1]
    have := same45_any d q (rHd R pa pb pc) qa qb qc st ix no an ps qs rs V4.heap.size V4 l1 (by rw [e1, e2, e3] at l3; exact l3) (Nat.le_refl _) N1.out
    show Calls _ _ #[.agg (cA d q (rHd R pa pb pc) st ix no an), .agg #[.int .i64 d, .int .i64 q, .int .i64 R.hd, .int .i64 R.vt, .string R.s, .int .i64 R.ix, .int .i64 R.sz, .int .i64 R.dy, .int .i64 R.sr, .int .i64 R.ct, .int .i64 R.pl, .string R.rt, .slice qa.a qa.n qa.c, .int .i64 R.si, .slice qb.a qb.n qb.c, .slice qc.a qc.n qc.c, .string st, .int .i64 ix, .string no, .string an]] _ _
    rw [e1, e2, e3]
    exact this
  clear L1 L3 N1 N3 B12 B23 B34 B24 B14 HG2
  go_upto_region 7 with (first
    | (with_reducible refine wpList_load_mid_w (op := ⟨some 40, _, _, _, _, _⟩) (by kernel_rfl) 39 (.tmp 3) rfl V1.heap.size 0 rfl (cA d q (rHd R pa pb pc) st ix no an).toList _ (rangeA HGA.out) Tryz.underlying39 rfl (sizeAL _ _ _ _ _ _ _) ?_)
    | (with_reducible refine wpList_load_mid_w (op := ⟨some 41, _, _, _, _, _⟩) (by kernel_rfl) 51 (.tmp 5) rfl V3.heap.size 0 rfl (cA d q (rHd R qa qb qc) st ix no an).toList _ (rangeA HG4.out) Tryz.underlying51 rfl (sizeALR _ _ _ _ _ _ _) ?_)
    | (go_at_call 15; (with_reducible refine HSM.out.mono ?_); rintro e V5 ⟨rfl, bb⟩; (have HB5 := Lib.hid (HB.out.trans (bb.mono HB.out.size))); clear bb))
  clear HB HSM HGA HG4
  have HB := HB5
  clear HB5
  go_upto_region 8 with (first
    | (with_reducible refine wpList_load_row (o := ⟨some 46, _, _, _, _, _⟩) rfl 45 (.tmp 1) rfl w.heap.size rfl 45 (cE dv sq k dy A n c pr) _ _ (HE.out _ HB.out) Tryz.underlying45 rfl (cE_size _ _ _ _ _ _ _ _) ?_)
    | (go_at_call 10; (with_reducible refine (H10.out _ HB.out).mono ?_); rintro e V6 ⟨hd1, hq1, rfl, sx, sy, hm, bb⟩; (have X1 := Lib.hid sx); (have Y1 := Lib.hid sy); (have M1 := Lib.hid hm); (have HB1a := Lib.hid (HB.out.trans (bb.mono HB.out.size))); clear sx sy hm bb)
    | ((with_reducible refine wpList_store_but (o := ⟨none, _, _, _, _, _⟩) rfl 27 (.tmp 9) (.tmp 50) rfl V6.heap.size 27 zPc (cPc ⟨ps1, px, hd1, hq1⟩) (by kernel_rfl) rfl (heap_alloc_new V6 _) (pc4_size _) (by kernel_rfl) (pc4_one _) ?_); intro V7 HG7 HB7))
  have B12 : Hid (Below V6.heap.size V6 V7) := ((Below.refl V6.heap.size V6).alloc (Nat.le_refl _) _).trans (HB7.out.below (by simp) (fun i hi => by subst hi; exact Nat.le_refl _))
  have HBx : Hid (Below W1.heap.size W1 V7) := HB1a.out.trans (B12.out.mono HB1a.out.size)
  clear HB HB1a HB7 H10
  have HB := HBx
  clear HBx
  go_upto_region 9 with (first
    | (with_reducible refine wpList_load_row (o := ⟨some 53, _, _, _, _, _⟩) rfl 45 (.tmp 1) rfl w.heap.size rfl 45 (cE dv sq k dy A n c pr) _ _ (HE.out _ HB.out) Tryz.underlying45 rfl (cE_size _ _ _ _ _ _ _ _) ?_)
    | (go_at_call 16; (with_reducible refine (H16.out _ HB.out).mono ?_); rintro e V8 ⟨hd2, hq2, rfl, sx, sy, hm, bb⟩; (have X2 := Lib.hid sx); (have Y2 := Lib.hid sy); (have B78 := Lib.hid bb); clear sx sy hm bb)
    | ((with_reducible refine wpList_store_but (o := ⟨none, _, _, _, _, _⟩) rfl 27 (.tmp 13) (.tmp 57) rfl V8.heap.size 27 zPc (cPc ⟨ps1, px, hd2, hq2⟩) (by kernel_rfl) rfl (heap_alloc_new V8 _) (pc4_size _) (by kernel_rfl) (pc4_one _) ?_); intro V9 HG9 HB9))
  have B89 : Hid (Below V8.heap.size V8 V9) := ((Below.refl V8.heap.size V8).alloc (Nat.le_refl _) _).trans (HB9.out.below (by simp) (fun i hi => by subst hi; exact Nat.le_refl _))
  have B79 : Hid (Below V7.heap.size V7 V9) := B78.out.trans (B89.out.mono B78.out.size)
  have B69 : Hid (Below V6.heap.size V6 V9) := B12.out.trans (B79.out.mono B12.out.size)
  have HBx : Hid (Below W1.heap.size W1 V9) := HB.out.trans (B79.out.mono HB.out.size)
  clear HB HB9 H16
  have HB := HBx
  clear HBx
  have HGC : Hid (V9.heap[V6.heap.size]? = some (.cells (cPc ⟨ps1, px, hd1, hq1⟩) 27 (0, 0))) := (B79.out.block _ (lt_of_block HG7.out)).trans HG7.out
  have HSP : Hid (Calls Tryz.prog 12 #[.agg (cPc ⟨ps1, px, hd1, hq1⟩), .agg (cPc ⟨ps1, px, hd2, hq2⟩)] V9 fun e w' => e = .returned (.bool true) ∧ Below V9.heap.size V9 w') := by
    have x1 : Sl fB V9 V9.heap.size hd1.a hd1.n xs := (X1.out.up B69.out (Nat.le_refl _)).more' B69.out.size
    have y1 : Sl fT V9 V9.heap.size hq1.a hq1.n ys := (Y1.out.up B69.out (Nat.le_refl _)).more' B69.out.size
    have x2 : Sl fB V9 V9.heap.size hd2.a hd2.n xs := (X2.out.up B89.out (Nat.le_refl _)).more' B89.out.size
    have y2 : Sl fT V9 V9.heap.size hq2.a hq2.n ys := (Y2.out.up B89.out (Nat.le_refl _)).more' B89.out.size
    have e1 : hd2.n = hd1.n := by rw [← x2.1, ← x1.1]
    have e2 : hq2.n = hq1.n := by rw [← y2.1, ← y1.1]
    show Calls _ _ #[.agg (cPc ⟨ps1, px, hd1, hq1⟩), .agg #[.string ps1, .int .i64 px, .slice hd2.a hd2.n hd2.c, .slice hq2.a hq2.n hq2.c]] _ _
    rw [e1] at x2 ⊢
    rw [e2] at y2 ⊢
    exact samePiece_any ps1 px hd1.a hd2.a hq1.a hq2.a hd1.n hd1.c hd2.c hq1.n hq1.c hq2.c xs ys V9.heap.size V9 x1 x2 y1 y2 (Nat.le_refl _) M1.out
  clear X1 Y1 M1 X2 Y2 B12 B78 B89 B79 B69 HG7
  go_upto_region 11 with (first
    | (with_reducible refine wpList_load_mid_w (op := ⟨some 73, _, _, _, _, _⟩) (by kernel_rfl) 27 (.tmp 9) rfl V6.heap.size 0 rfl (cPc ⟨ps1, px, hd1, hq1⟩).toList _ (range4 HGC.out) Tryz.underlying27 rfl (size4L _) ?_)
    | (with_reducible refine wpList_load_mid_w (op := ⟨some 74, _, _, _, _, _⟩) (by kernel_rfl) 27 (.tmp 13) rfl V8.heap.size 0 rfl (cPc ⟨ps1, px, hd2, hq2⟩).toList _ (range4 HG9.out) Tryz.underlying27 rfl (size4L _) ?_)
    | (go_at_call 12; (with_reducible refine HSP.out.mono ?_); rintro e V10 ⟨rfl, bb⟩; (have HB10 := Lib.hid (HB.out.trans (bb.mono HB.out.size))); clear bb))
  clear HB HSP HGC HG9
  have HB := HB10
  clear HB10
  go_upto_region 12 with (first
    | (with_reducible refine wpList_load_row (o := ⟨some 79, _, _, _, _, _⟩) rfl 45 (.tmp 1) rfl w.heap.size rfl 45 (cE dv sq k dy A n c pr) _ _ (HE.out _ HB.out) Tryz.underlying45 rfl (cE_size _ _ _ _ _ _ _ _) ?_)
    | (go_at_call 17; (with_reducible refine (H17.out _ HB.out).mono ?_); rintro e V11 ⟨Am, nm, cm, rfl, sv, hm, bb⟩; (have S1 := Lib.hid sv); (have M1 := Lib.hid hm); (have HB1a := Lib.hid (HB.out.trans (bb.mono HB.out.size))); clear sv hm bb))
  clear HB H17
  have HB := HB1a
  clear HB1a
  go_upto_region 13 with (first
    | (with_reducible refine wpList_load_row (o := ⟨some 85, _, _, _, _, _⟩) rfl 45 (.tmp 1) rfl w.heap.size rfl 45 (cE dv sq k dy A n c pr) _ _ (HE.out _ HB.out) Tryz.underlying45 rfl (cE_size _ _ _ _ _ _ _ _) ?_)
    | (go_at_call 18; (with_reducible refine (H18.out _ HB.out).mono ?_); rintro e V12 ⟨An, nn, cn, rfl, sv, hm, bb⟩; (have S2 := Lib.hid sv); (have M2 := Lib.hid hm); (have BB := Lib.hid bb); (have HB1a := Lib.hid (HB.out.trans (bb.mono HB.out.size))); clear sv hm bb))
  clear HB H18
  have HB := HB1a
  clear HB1a
  have HIN : Hid (∀ V, Below V12.heap.size V12 V → Calls Tryz.prog 19 #[.slice Am nm cm, .slice An nn cn] V fun e w' => e = .returned (.bool true) ∧ Below V.heap.size V w') := fun V h => by
    have x1 : Sl I V V.heap.size Am nm vs := (((S1.out.up BB.out (Nat.le_refl _)).more' BB.out.size).up h (Nat.le_refl _)).more' h.size
    have x2 : Sl I V V.heap.size An nn vs := (S2.out.up h (Nat.le_refl _)).more' h.size
    refine (ints_any Am An nm nn vs vs cm cn V V.heap.size x1 x2 M1.out M2.out).mono ?_
    rintro e w' ⟨g1, r, g2⟩
    subst g2
    exact ⟨by rw [g1]; simp, below_drewN' (Below.refl _ _) _⟩
  go_wp2_with (first
    | (go_at_call 6; (with_reducible refine (HAW.out _ HB.out).mono ?_); rintro e V13 ⟨rfl, bb⟩; (have HB13 := Lib.hid (HB.out.trans (bb.mono HB.out.size))); (have HI := Lib.hid (HIN.out V13 bb)); clear bb)
    | (go_at_call 19; (with_reducible refine HI.out.mono ?_); rintro e V14 ⟨rfl, bb⟩; (have HB14 := Lib.hid (HB13.out.trans (bb.mono HB13.out.size))); clear bb))
  go_ret
  exact ⟨rfl, HB1.out.trans (HB14.out.mono HB1.out.size)⟩
end Go.Proofs.YtnfkjnmdfijhnaaGreatDoor
