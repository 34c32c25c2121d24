/- The law Encodes. -/
import Derived.Test.YtkeicjokekmkpaaGreatLd
import Derived.Test.YtkeicjokekmkpaaGreatLn
import Derived.Test.YtkeicjokekmkpaaGreatApy
import Derived.Test.YtkeicjokekmkpaaGreatRe5
namespace Go.Proofs.YtkeicjokekmkpaaGreat
open Go.RowKit Mb
set_option linter.unusedVariables false
set_option linter.unusedSimpArgs false

theorem sln_inj {α : Type} {f : α → List Value} {s : Nat} (hf : ∀ x y, f x = f y → x = y) (hs : ∀ x, (f x).length = s) {w : World} {B B' n : Nat} {A : Option Addr} {xs ys : List α} (h : SlN f s w B A n xs) (k : SlN f s w B' A n ys) : xs = ys := by
  have hl : xs.length = ys.length := by rw [h.1, k.1]
  refine List.ext_getElem hl fun i h1 h2 => ?_
  obtain ⟨b, off, e, _, hc⟩ := h.2 (by omega)
  obtain ⟨b', off', e', _, hc'⟩ := k.2 (by omega)
  rw [e] at e'
  cases e'
  refine hf _ _ (List.ext_getElem (by rw [hs, hs]) fun j g1 g2 => ?_)
  have a1 := hc i _ (List.getElem?_eq_getElem h1) j _ (List.getElem?_eq_getElem g1)
  have a2 := hc' i _ (List.getElem?_eq_getElem h2) j _ (List.getElem?_eq_getElem g2)
  rw [a1] at a2
  exact Option.some.inj a2
theorem fX_inj : ∀ x y, fX x = fX y → x = y := fun x y h => by
  obtain ⟨k, ⟨d, n, p, q, e⟩, v, a, b⟩ := x
  obtain ⟨k', ⟨d', n', p', q', e'⟩, v', a', b'⟩ := y
  simp only [fX, List.cons.injEq, Value.int.injEq, Value.string.injEq, Value.bool.injEq, true_and, and_true] at h
  obtain ⟨rfl, rfl, rfl, rfl, rfl, rfl, rfl, rfl, rfl⟩ := h
  rfl
theorem chg_kx (x : Chn) : chg (kx x) = chg x := by
  unfold chg kx
  by_cases h1 : x.kind = 1
  · simp [h1]
  · by_cases h2 : x.kind = 2
    · simp [h2]
    · simp [h1, h2]
theorem kd_kx (x : Chn) : KdOk (kx x) := by
  unfold KdOk kx
  by_cases h : x.kind = 1 ∨ x.kind = 2
  · rw [if_pos h]; rcases h with h | h <;> simp [h]
  · rw [if_neg h]; exact .inr (.inr rfl)
/-- A circle's seven cells, one after another. -/
theorem set_far {W V w4 : World} {gm i : Nat} {u : Value} {cs : Array Value} {t : TypeId} (h : V.heap[gm]? = some (.cells cs t (0, 0)) ∧ Below gm w4 V ∧ W.grownBy V (some gm)) : (V.setCell ⟨gm, i, none⟩ u).heap[gm]? = some (.cells (cs.setIfInBounds i u) t (0, 0)) ∧ Below gm w4 (V.setCell ⟨gm, i, none⟩ u) ∧ W.grownBy (V.setCell ⟨gm, i, none⟩ u) (some gm) :=
  ⟨setCell_row h.1, h.2.1.setCell (Nat.le_refl _) u, ⟨h.2.2.os, h.2.2.tape, h.2.2.output, by simpa [World.setCell] using h.2.2.size, fun k hk hne => (Below.heap_setCell _ _ _ _ (fun e => hne (by rw [e]))).trans (h.2.2.block k hk hne)⟩⟩
theorem set7 {W w4 : World} {gm : Nat} {r r' : RV} (h : W.heap[gm]? = some r.obj) (hb : Below gm w4 W) : (((((((W.setCell ⟨gm, 0, none⟩ (.slice r'.a1.a r'.a1.n r'.a1.c)).setCell ⟨gm, 1, none⟩ (.slice r'.a2.a r'.a2.n r'.a2.c)).setCell ⟨gm, 2, none⟩ (.int .i64 r'.q)).setCell ⟨gm, 3, none⟩ (.slice r'.a3.a r'.a3.n r'.a3.c)).setCell ⟨gm, 4, none⟩ (.slice r'.a4.a r'.a4.n r'.a4.c)).setCell ⟨gm, 5, none⟩ (.slice r'.a5.a r'.a5.n r'.a5.c)).setCell ⟨gm, 6, none⟩ (.slice r'.a6.a r'.a6.n r'.a6.c)).heap[gm]? = some r'.obj ∧ Below gm w4 (((((((W.setCell ⟨gm, 0, none⟩ (.slice r'.a1.a r'.a1.n r'.a1.c)).setCell ⟨gm, 1, none⟩ (.slice r'.a2.a r'.a2.n r'.a2.c)).setCell ⟨gm, 2, none⟩ (.int .i64 r'.q)).setCell ⟨gm, 3, none⟩ (.slice r'.a3.a r'.a3.n r'.a3.c)).setCell ⟨gm, 4, none⟩ (.slice r'.a4.a r'.a4.n r'.a4.c)).setCell ⟨gm, 5, none⟩ (.slice r'.a5.a r'.a5.n r'.a5.c)).setCell ⟨gm, 6, none⟩ (.slice r'.a6.a r'.a6.n r'.a6.c)) ∧ W.grownBy (((((((W.setCell ⟨gm, 0, none⟩ (.slice r'.a1.a r'.a1.n r'.a1.c)).setCell ⟨gm, 1, none⟩ (.slice r'.a2.a r'.a2.n r'.a2.c)).setCell ⟨gm, 2, none⟩ (.int .i64 r'.q)).setCell ⟨gm, 3, none⟩ (.slice r'.a3.a r'.a3.n r'.a3.c)).setCell ⟨gm, 4, none⟩ (.slice r'.a4.a r'.a4.n r'.a4.c)).setCell ⟨gm, 5, none⟩ (.slice r'.a5.a r'.a5.n r'.a5.c)).setCell ⟨gm, 6, none⟩ (.slice r'.a6.a r'.a6.n r'.a6.c)) (some gm) := by
  have a0 : W.heap[gm]? = some (.cells r.cells 34 (0, 0)) ∧ Below gm w4 W ∧ W.grownBy W (some gm) := ⟨h, hb, World.grownBy.refl W _⟩
  have a1 := set_far (i := 0) (u := (.slice r'.a1.a r'.a1.n r'.a1.c : Value)) a0
  have a2 := set_far (i := 1) (u := (.slice r'.a2.a r'.a2.n r'.a2.c : Value)) a1
  have a3 := set_far (i := 2) (u := (.int .i64 r'.q : Value)) a2
  have a4 := set_far (i := 3) (u := (.slice r'.a3.a r'.a3.n r'.a3.c : Value)) a3
  have a5 := set_far (i := 4) (u := (.slice r'.a4.a r'.a4.n r'.a4.c : Value)) a4
  have a6 := set_far (i := 5) (u := (.slice r'.a5.a r'.a5.n r'.a5.c : Value)) a5
  have a7 := set_far (i := 6) (u := (.slice r'.a6.a r'.a6.n r'.a6.c : Value)) a6
  refine ⟨?_, a7.2⟩
  have h9 := a7.1
  simp only [RV.cells, List.setIfInBounds_toArray, List.set_cons_zero, List.set_cons_succ] at h9
  exact h9
/-- The reference's circle in its box gm, behind k changes. -/
def EnR (w4 : World) (gm : Nat) (r0 : RV) (T : Cst) (k : Nat) (w : World) : Prop :=
  ∃ (r : RV) (ys : List Chn), Below gm w4 w ∧ w.heap[gm]? = some r.obj ∧ RefQ (fun j => j ≠ gm) w r T.s ∧ r.a1 = r0.a1 ∧ r.a2 = r0.a2 ∧ SlN fX 9 w w.heap.size r.a3.a r.a3.n ys ∧ ys.map chg = T.chs ∧ (∀ y ∈ ys, KdOk y) ∧ r.a3.n ≤ k
theorem enr_start {w3 w4 w5 : World} {ps : List VP} {ms : List Mem} {q : Int} {r : RV} (hr : RefC w4 w4.heap.size r (S0 ms ps q).s) (hf : FarR w3 w4 r ps) (h5 : Below w4.heap.size w4 w5) (hg : w5.heap[w4.heap.size]? = some r.obj) : EnR w4 w4.heap.size r (S0 ms ps q) 0 w5 := by
  obtain ⟨f1, f2, f3, f4, f5⟩ := hf
  have hlo : ∀ {n : Nat}, n < w4.heap.size → n ≠ w4.heap.size := fun h => Nat.ne_of_lt h
  have hv := (f5.up h5 (Nat.le_refl _)).more h5.size
  refine ⟨r, [], h5, hg, ⟨hr.on h5, fun hn => ?_, fun hn ad e => ?_, fun hn ad e => ?_, fun hn => ?_, ⟨ps, hv, rfl, fun p hp hn ad e => ?_⟩⟩, rfl, rfl, ?_, rfl, (fun y hy => by cases hy), ?_⟩
  · rw [f3] at hn; exact absurd hn (by decide)
  · exact hlo (hr.ms.low (by rw [hr.ms.1]; exact hn) e)
  · exact hlo (f5.1.low (by rw [f5.1.1]; exact hn) e)
  · rw [f4] at hn; exact absurd hn (by decide)
  · exact hlo ((f5.2 p hp).low hn e)
  · rw [f3]; exact SlN.nil
  · rw [f3]; exact Nat.le_refl _
theorem enr_step {w4 wr V w8 w9 : World} {gm k : Nat} {r0 r r' : RV} {S : Cst} {x : Chn} {ys : List Chn} (h1 : r.a1 = r0.a1) (h2 : r.a2 = r0.a2) (h3 : SlN fX 9 wr wr.heap.size r.a3.a r.a3.n ys) (h4 : ys.map chg = S.chs)
    (h5 : ∀ y ∈ ys, KdOk y) (h6 : r.a3.n ≤ k) (hV : Below wr.heap.size wr V) (hR8 : RefQ (fun j => j ≠ gm) w8 r' (playS S.s x)) (hn8 : r'.a3.n ≤ r.a3.n + 1) (hb8 : Below V.heap.size V w8) (hk8 : ApK r S.s x V r' w8)
    (hg9 : w9.heap[gm]? = some r'.obj) (hb9 : Below gm w4 w9) (hgr : w8.grownBy w9 (some gm)) : EnR w4 gm r0 (playC S x) (k + 1) w9 := by
  have hkeep : ∀ j, j < w8.heap.size → j ≠ gm → w9.heap[j]? = w8.heap[j]? := fun j hj hP => hgr.block j hj (fun e => hP (Option.some.inj e))
  have hR9 : RefQ (fun j => j ≠ gm) w9 r' (playC S x).s := hR8.keep hgr.size hkeep fun _ _ h => h
  have h3V : SlN fX 9 V V.heap.size r.a3.a r.a3.n ys := (h3.up hV (Nat.le_refl _)).more hV.size
  rcases hk8 with ⟨hpe, rfl⟩ | ⟨h0, a1, a2, xs, s1, s2⟩
  · refine ⟨r', ys, hb9, hg9, hR9, h1, h2, ?_, ?_, h5, by omega⟩
    · have h38 : SlN fX 9 w8 w8.heap.size r'.a3.a r'.a3.n ys := (h3V.up hb8 (Nat.le_refl _)).more hb8.size
      exact h38.keep (P := fun j => j ≠ gm) (fun hn => hR8.p3 (h38.1 ▸ hn)) hgr.size hkeep
    · rw [playC_no hpe]; exact h4
  · obtain rfl := sln_inj fX_inj fX_len s1 h3V
    refine ⟨r', xs ++ [kx x], hb9, hg9, hR9, a1.trans h1, a2.trans h2, s2.keep (P := fun j => j ≠ gm) (fun hn => hR8.p3 (s2.1 ▸ hn)) hgr.size hkeep, ?_, fun y hy => ?_, by omega⟩
    · rw [playC_yes h0, List.map_append, h4]; simp [chg_kx]
    · rcases List.mem_append.1 hy with hy | hy
      · exact h5 y hy
      · obtain rfl := List.mem_singleton.1 hy; exact kd_kx x
set_option maxRecDepth 20000 in
set_option maxHeartbeats 16000000 in
theorem lawEncodes_any (A : Option Addr) (n c : Nat) (A' : Option Addr) (n' c' : Nat) (q : Int) (A'' : Option Addr) (n'' c'' : Nat) (ms : List Mem) (ps : List VP) (xs : List Chn) (w : World) (hx : InSet w A n c A' n' c' A'' n'' c'' ms ps xs) :
    Calls Tryz.prog 3 #[aSet A n c A' n' c' q A'' n'' c''] w (BoolB true w) := by
  obtain ⟨W, hW⟩ : ∃ W : World, W = w.alloc (oSet A n c A' n' c' q A'' n'' c'') := ⟨_, rfl⟩
  have hB : Below w.heap.size w W := by rw [hW]; exact (Below.refl _ _).alloc (Nat.le_refl _) _
  have hG : W.heap[w.heap.size]? = some (oSet A n c A' n' c' q A'' n'' c'') := by rw [hW]; exact heap_alloc_new w _
  have HX := Lib.hid (hx.on hB)
  have HB := Lib.hid hB
  have HG := Lib.hid hG
  have HW := Lib.hid hW
  have HGL := Lib.hid (lt_of_block hG)
  clear hx hB hG hW
  go_enter Tryz.func3, Tryz.ntmps3
  go_wp2_with fail
  refine (show Calls Tryz.prog 4 _ _ (BoolB true W) from HW.out ▸ awake_any W).mono ?_
  rintro e w1 ⟨rfl, hb⟩
  have HB1 : Hid (Below W.heap.size W w1) := hb
  obtain ⟨s0, s1, s2, s3⟩ := four_of ((hb.block _ HGL.out).trans HG.out)
  clear hb
  go_wp2_with fail
  refine (small_any A n c A' n' c' q A'' n'' c'' w1).mono ?_
  rintro e w2 ⟨rfl, hb⟩
  have HB2 : Hid (Below W.heap.size W w2) := HB1.out.trans (hb.mono HB1.out.size)
  clear hb s0 s1 s2 s3
  obtain ⟨sm, hsm⟩ : ∃ z, smallB n n' n'' = z := ⟨_, rfl⟩
  rw [hsm]
  cases sm
  · clear hsm
    go_wp2_with fail
    go_ret
    exact ⟨rfl, HB.out.trans (HB2.out.mono HB.out.size)⟩
  have hn : n ≤ 14 ∧ n' ≤ 14 ∧ n'' ≤ 40 := by unfold smallB at hsm; simpa using hsm
  obtain ⟨hn1, hn2, hn3⟩ := hn
  clear hsm
  have HX2 := Lib.hid (HX.out.on HB2.out)
  have HBU := Lib.hid (built_any A n c A' n' c' q A'' n'' c'' ms ps xs w2 HX2.out hn3)
  obtain ⟨s0, s1, s2, s3⟩ := four_of ((HB2.out.block _ HGL.out).trans HG.out)
  go_wp2_with fail
  refine HBU.out.mono ?_
  rintro e w3 h1
  clear s0 s1 s2 s3
  rcases h1 with ⟨h0, g, lab, rfl, hC, hl, hb⟩ | ⟨h0, he, h2⟩
  · have HI0 : Hid (Inv (S0 ms ps q).s) := newE_inv h0
    have HE0 : Hid (EInv (S0 ms ps q)) := newE_einv h0
    have HC3 : Hid (Cir w3 lab g (playsC (S0 ms ps q) xs)) := hC
    have HB3 : Hid (Below W.heap.size W w3) := HB2.out.trans (hb.mono HB2.out.size)
    have HRN := Lib.hid (rnew_set q (HX.out.on HB3.out))
    have H0 := Lib.hid h0
    have hxl : xs.length = n'' := HX.out.fxs.1
    have HXL := Lib.hid hxl
    obtain ⟨s0, s1, s2, s3⟩ := four_of ((HB3.out.block _ HGL.out).trans HG.out)
    clear hC hl hb h0 hxl
    go_wp2_with fail
    refine HRN.out.mono ?_
    rintro e w4 h1
    clear s0 s1 s2 s3
    rcases h1 with ⟨_, r0, rfl, hR, hb, hf, hkp⟩ | ⟨h5, _⟩
    · obtain ⟨w5, hw5⟩ : ∃ V : World, V = w4.alloc r0.obj := ⟨_, rfl⟩
      have HW5 := Lib.hid hw5
      obtain ⟨gm, hgm⟩ : ∃ k, w4.heap.size = k := ⟨_, rfl⟩
      have HREL : Hid (EnR w4 gm r0 (S0 ms ps q) 0 w5) := by
        have h5 := enr_start (w5 := w5) hR hf (by rw [hw5]; exact (Below.refl _ _).alloc (Nat.le_refl _) _) (by rw [hw5]; exact heap_alloc_new w4 _)
        rw [hgm] at h5
        exact h5
      have HKP : Hid (KepR w4 r0 ms ps) := hkp
      have HB4 : Hid (Below w3.heap.size w3 w4) := hb
      have HB34 : Hid (Below W.heap.size W w4) := HB3.out.trans (hb.mono HB3.out.size)
      have HGMW : Hid (W.heap.size ≤ gm) := by show _ ≤ _; rw [← hgm]; exact HB34.out.size
      have HGM := Lib.hid hgm
      clear hR hb hw5 hf hgm hkp
      go_wp2_with (refine wpList_store_new (o := ⟨none, .store 34 (.tmp 5) (.tmp 31), _, _, _, _⟩) rfl 34 (.tmp 5) (.tmp 31) rfl 34 _ r0.cells rfl rfl Tryz.sizeR rfl (RV.one r0) ?_)
      rw [HGM.out, show w4.alloc (.cells r0.cells 34) = w5 from HW5.out.symm]
      go_loopw [7] (fun i wr => ∃ k : Nat, k ≤ n'' ∧ i = .int .i64 k ∧ Hid (EnR w4 gm r0 (playsC (S0 ms ps q) (xs.take k)) k wr)) (fun i _ => n'' - (intOf i).toNat)
      case atStart => exact ⟨0, Nat.zero_le _, rfl, HREL⟩
      case round =>
        obtain ⟨k, hk, rfl, hrl⟩ := hrel
        clear HREL HW5
        obtain ⟨r, ys, hBk, hgb, hR, ha1, ha2, hys, hch, hkd, h3n⟩ := hrl.out
        have HBg : Hid (Below gm w4 wr) := hBk
        have HBk : Hid (Below W.heap.size W wr) := HB34.out.trans (hBk.mono HGMW.out)
        have HG0 := Lib.hid hgb
        have HR := Lib.hid hR
        have HA1 := Lib.hid ha1
        have HA2 := Lib.hid ha2
        have HYS := Lib.hid hys
        have HCHS := Lib.hid hch
        have HKD := Lib.hid hkd
        clear hrl hBk hgb hR ha1 ha2 hys hch hkd
        obtain ⟨s0, s1, s2, s3⟩ := four_of ((HBk.out.block _ HGL.out).trans HG.out)
        obtain ⟨z0, z1, z2, z3, z4, z5, z6⟩ := seven_of HG0.out
        by_cases hlt : k < n''
        · -- PART round
          have hXk := HX.out.on HBk.out
          obtain ⟨b, off, x, hA'', hbB, hxk, hcell⟩ := hXk.fxs.at_ hlt
          subst hA''
          have HXZ := Lib.hid (hXk.xz x (List.mem_of_getElem? hxk))
          have HTK : Hid (playsC (S0 ms ps q) (xs.take (k + 1)) = playC (playsC (S0 ms ps q) (xs.take k)) x) := by show _ = _; rw [take_snoc hxk, playsC_snoc]
          obtain ⟨S, hS⟩ : ∃ S, playsC (S0 ms ps q) (xs.take k) = S := ⟨_, rfl⟩
          have HIV : Hid (Inv S.s) := hS ▸ playsC_inv HI0.out (xs.take k)
          rw [hS] at HTK HR HCHS
          obtain ⟨c0, c1, c2, c3, c4, c5, cc6, c7, c8⟩ := nine hcell
          have HGLT : Hid (gm < wr.heap.size) := lt_of_block HG0.out
          have HAP : Hid (∀ V, Below wr.heap.size wr V → Calls Tryz.prog 8 #[r.val, aCh x] V (ApP (fun j => j ≠ gm) r S.s x V)) := fun V hV => rapply_any r S.s x V _ (fun j hj => by have := HGLT.out; have := hV.size; omega) (HR.out.on hV) HIV.out (by omega) HXZ.out.1 HXZ.out.2
          clear hXk hcell hxk hS hbB
          go_wp2_with fail
          go_region_law (first
            | (go_simp; go_at_call 8; (with_reducible (refine (HAP.out _ (by repeat (first | exact Below.refl _ _ | refine Below.drew ?_ | refine below_dN' ?_ _))).mono ?_)); rintro e w8 ⟨r', rfl, hR8, hn8, hb8, hk8⟩; (have HBV : Hid (∃ V, Below wr.heap.size wr V ∧ Below V.heap.size V w8 ∧ ApK r S.s x V r' w8) := ⟨_, by repeat (first | exact Below.refl _ _ | refine Below.drew ?_ | refine below_dN' ?_ _), hb8, hk8⟩); (have HB8 : Hid (Below wr.heap.size wr w8) := Below.trans (by repeat (first | exact Below.refl _ _ | refine Below.drew ?_ | refine below_dN' ?_ _)) hb8); (have HR8 := Lib.hid hR8); (have HN8 := Lib.hid hn8); (have HG8 : Hid (w8.heap[gm]? = some (.cells r.cells 34 (0, 0))) := (HB8.out.block _ HGLT.out).trans HG0.out); (have HB48 : Hid (Below gm w4 w8) := HBg.out.trans (HB8.out.mono (Nat.le_of_lt HGLT.out))); clear hR8 hn8 hb8 hk8; (obtain ⟨g0, g1, g2, g3, g4, g5, g6⟩ := seven_of (r := r) HG8.out); (have f0 := frozen_of_row w8 gm 0 _ _ HG8.out); (have f1 := frozen_of_row w8 gm 1 _ _ HG8.out); (have f2 := frozen_of_row w8 gm 2 _ _ HG8.out); (have f3 := frozen_of_row w8 gm 3 _ _ HG8.out); (have f4 := frozen_of_row w8 gm 4 _ _ HG8.out); (have f5 := frozen_of_row w8 gm 5 _ _ HG8.out); (have f6 := frozen_of_row w8 gm 6 _ _ HG8.out); (try go_simp)))
          all_goals
            clear s0 s1 s2 s3 z0 z1 z2 z3 z4 z5 z6 c0 c1 c2 c3 c4 c5 cc6 c7 c8
            go_wp2_with fail
            go_roundw
            case rel => exact ⟨k + 1, by omega, by go_num, by obtain ⟨V, v1, v2, v3⟩ := HBV.out; show EnR _ _ _ _ _ _; rw [HTK.out]; have h9 := set7 (r' := r') HG8.out HB48.out; exact enr_step HA1.out HA2.out HYS.out HCHS.out HKD.out h3n v1 HR8.out HN8.out v2 v3 h9.1 h9.2.1 h9.2.2⟩
            case measure => simp [intOf]; omega
          -- END round
        · obtain rfl : k = n'' := by omega
          rw [List.take_of_length_le (by have := HXL.out; omega)] at HR HCHS
          -- PART enc
          have HXS : Hid (∃ S, S = playsC (S0 ms ps q) xs) := ⟨_, rfl⟩
          obtain ⟨S, hS⟩ := HXS.out
          clear HXS
          rw [← hS] at HR HCHS HC3
          have HI : Hid (Inv S.s) := hS ▸ playsC_inv HI0.out xs
          have HE : Hid (EInv S) := hS ▸ playsC_einv HE0.out HI0.out xs
          have HRC : Hid (Rch (S00 ms (ps.map Prod.fst) q) S) := hS ▸ Rch.plays Rch.zero xs
          have HCH : Hid (S.chs.length ≤ 40) := by
            show _ ≤ _
            have h5 := playsC_chs (S0 ms ps q) xs
            rw [← hS] at h5
            simp only [List.length_nil] at h5
            have := HXL.out
            omega
          have HFM : Hid (S.fm = ms ∧ S.fv = ps.map Prod.fst) := ⟨HRC.out.first.1, HRC.out.first.2.1⟩
          have HCw : Hid (Cir wr lab g S) := HC3.out.on (HB4.out.trans (HBg.out.mono (by rw [← HGM.out]; exact HB4.out.size)))
          have HDE : Hid (dec (encC S) = some S) := dec_enc H0.out HRC.out (Nat.le_trans HCH.out (by decide))
          have HEL := Lib.hid (encC_len HE.out (Nat.le_trans HCH.out (by decide)))
          have HEN := Lib.hid (encode_any g lab S wr HCw.out HE.out (Nat.le_trans HCH.out (by decide)))
          clear hS
          go_wp2_with fail
          refine HEN.out.mono ?_
          rintro e w5 ⟨A6, n6, c6, rfl, _, ho, hb⟩
          have HB5 : Hid (Below wr.heap.size wr w5) := hb
          have HO5 := Lib.hid ho
          have HG5 : Hid (w5.heap[gm]? = some r.obj) := (hb.block _ (lt_of_block HG0.out)).trans HG0.out
          obtain ⟨sz, hz0⟩ : ∃ s, s = baOf (encC S) := ⟨_, rfl⟩
          have HZ0 := Lib.hid hz0
          have HCV : Hid (∀ V, Below w5.heap.size w5 V → (convert 43 9 (.slice A6 n6 c6)).run Tryz.prog V = .ok (.string sz) V) := fun V h => by
            rw [hz0]
            exact conv_bytes (HO5.out.up h (Nat.le_refl _))
          have hcv0 := HCV.out w5 (Below.refl _ _)
          have hcv1 := HCV.out w5.drew ((Below.refl _ _).drew)
          have hzz : (sz.toList != sz.toList) = false := by simp
          have HRE : Hid (∀ V, Below w5.heap.size w5 V → Calls Tryz.prog 10 #[r.val] V fun e w' => ∃ v, e = .returned v ∧ Own fB 5 w' V.heap.size v (encC S) ∧ Below V.heap.size V w') := fun V hV => by
            have hb4 : Below gm w4 V := HBg.out.trans ((HB5.out.trans (hV.mono HB5.out.size)).mono (Nat.le_of_lt (lt_of_block HG0.out)))
            have hbr : Below wr.heap.size wr V := HB5.out.trans (hV.mono HB5.out.size)
            have hgs : gm ≤ V.heap.size := by have h6 := hb4.size; rw [HGM.out] at h6; exact h6
            have k1 := (HKP.out.1.up hb4 (Nat.le_of_eq HGM.out)).more (Nat.le_trans (Nat.le_of_eq HGM.out) hgs)
            have k2 := (HKP.out.2.up hb4 (Nat.le_of_eq HGM.out)).more (Nat.le_trans (Nat.le_of_eq HGM.out) hgs)
            rw [← HA1.out] at k1
            rw [← HA2.out] at k2
            exact rcenc_any r S ps ys V HR.out.ref.q (HFM.out.1.symm ▸ k1) k2 HFM.out.2.symm ((HYS.out.up hbr (Nat.le_refl _)).more hbr.size) HCHS.out HKD.out HE.out (Nat.le_trans HCH.out (by decide))
          clear z0 z1 z2 z3 z4 z5 z6
          obtain ⟨z0', z1, z2, z3, z4, z5, z6⟩ := seven_of HG5.out
          clear ho hb hz0 s0 s1 s2 s3
          go_wp2_with fail
          go_region_law ((go_simp; go_at_call 10; (with_reducible (refine (HRE.out _ (by repeat (first | exact Below.refl _ _ | refine Below.drew ?_ | refine below_dN' ?_ _))).mono ?_)); rintro e w6 ⟨v6, rfl, ho6, hb6⟩; (obtain ⟨A9, c9, rfl, _, hs9, _⟩ := ho6.shape); (have HB6 : Hid (Below w5.heap.size w5 w6) := Below.trans (by repeat (first | exact Below.refl _ _ | refine Below.drew ?_ | refine below_dN' ?_ _)) hb6); (have hcv6 := HCV.out w6 HB6.out); (have hcv7 := HCV.out w6.drew HB6.out.drew); (have hce6 := conv_bytes (w := w6) (c := c9) ⟨rfl, hs9⟩); (have hce7 := conv_bytes (w := w6.drew) (c := c9) ⟨rfl, hs9⟩); (rw [← HZ0.out] at hce6 hce7); clear ho6 hb6 hs9; (try go_simp)))
          all_goals
            have HB56 : Hid (Below wr.heap.size wr w6) := HB5.out.trans (HB6.out.mono HB5.out.size)
            have HDC : Hid (∀ V, Below w6.heap.size w6 V → Calls Tryz.prog 11 #[.slice A6 n6 c6] V (DecP (encC S) V)) := fun V hV =>
              decode_any A6 n6 c6 (encC S) V ((HO5.out.up (HB6.out.trans (hV.mono HB6.out.size)) (Nat.le_refl _)).more' (HB6.out.trans (hV.mono HB6.out.size)).size) (by have h6 := HEL.out; rw [HO5.out.1] at h6; omega) (encC_rng S)
            clear hcv0 hcv1 hcv6 hcv7 hce6 hce7 z0' z1 z2 z3 z4 z5 z6 hzz
            go_wp2_with fail
            refine (HDC.out _ (by repeat (first | exact Below.refl _ _ | refine Below.drew ?_ | refine below_dN' ?_ _))).mono ?_
            rintro e w8 h8
            rcases h8 with ⟨S', g2, lab2, hd, rfl, hC2, hl2, hb2⟩ | ⟨hd, rfl, hb2⟩
            · rw [HDE.out] at hd
              obtain rfl := Option.some.inj hd
              have HB8 : Hid (Below wr.heap.size wr w8) := HB56.out.trans ((Below.trans (by repeat (first | exact Below.refl _ _ | refine Below.drew ?_ | refine below_dN' ?_ _)) hb2).mono HB56.out.size)
              have HSM := Lib.hid (same_any g2 lab2 S r w8 hC2 HI.out (HR.out.ref.on HB8.out))
              obtain ⟨z0', z1, z2, z3, z4, z5, z6⟩ := seven_of ((HB8.out.block _ (lt_of_block HG0.out)).trans HG0.out)
              clear hd hC2 hl2 hb2
              go_wp2_with fail
              refine HSM.out.mono ?_
              rintro e w9 ⟨rfl, hb9⟩
              have HB9 : Hid (Below w.heap.size w w9) := HB.out.trans ((HBk.out.trans ((HB8.out.trans (hb9.mono HB8.out.size)).mono HBk.out.size)).mono HB.out.size)
              clear hb9 z0' z1 z2 z3 z4 z5 z6
              go_wp2_with fail
              go_ret
              exact ⟨rfl, HB9.out⟩
            · rw [HDE.out] at hd; cases hd
          -- END enc
    · exact absurd H0.out h5
  · subst he
    have HB3 : Hid (Below W.heap.size W w3) := HB2.out.trans (h2.mono HB2.out.size)
    clear h2 h0
    go_wp2_with fail
    go_ret
    exact ⟨rfl, HB.out.trans (HB3.out.mono HB.out.size)⟩
end Go.Proofs.YtkeicjokekmkpaaGreat
