/-
  The row's proof: for every input the law returns true and its arguments read as before. No condition. The shell is the guide's proof-skeleton.mjs's, turned to this law's parameters; the walk is ours.
-/
import Derived.Test.YtafhpomoobdmdaaRows
import Derived.Test.YtafhpomoobdmdaaOp
import Derived.WalkKit
import Derived.ProofKit
import Derived.OpenShut
import Derived.ShutString
import Derived.ChangeOld
import Derived.Below
import Derived.Test.YtafhpomoobdmdaaLn
import Derived.Test.YtafhpomoobdmdaaLe
import Derived.Test.YtafhpomoobdmdaaApy
namespace Go.Proofs.Ytafhpomoobdmdaa
open Go.RowKit Mb
set_option linter.unusedVariables false
set_option linter.unusedSimpArgs false

theorem Cir.grown {w w' : World} {lab : Nat → Nat} {g b : Nat} {S : Cst} (h : Cir w lab g S) (hg : w.grownBy w' (some b)) (hb : lab b = 0) : Cir w' lab g S := by
  obtain ⟨vm, vv, bm, vfm, vfv, vc, ps1, ps2, h⟩ := h
  exact ⟨vm, vv, bm, vfm, vfv, vc, ps1, ps2, h.same (fun k hk => hg.block k (h.lt hk) (fun e => hk (by rw [Option.some.inj e]; exact hb))) hg.size⟩
theorem step_store_far {P : Program} {w : World} {ops : Array Oper} {o : Oper} {a : Act} {K : Act → World → Prop} {Q : Exit → Act → World → Prop} {E : Prop} (hgd : o.guard = none) (ty : TypeId) (x y : Operand) (ho : o.op = .store ty x y)
    (g : Nat) (t : TypeId) (old cells : Array Value) (hx : a.eval x = .pointer (some ⟨g, 0, none⟩)) (hy : a.eval y = .agg cells) (hg : w.heap[g]? = some (.cells old t (0, 0))) (hi : (P.info? ty).map (·.size) = some cells.size)
    (hs : old.size = cells.size) (h1 : cells.all (·.oneCell') = true) (B : Nat) (w0 : World) (hb : Below B w0 w) (hB : B ≤ g)
    (h : ∀ w', Hid (w'.heap[g]? = some (.cells cells t (0, 0))) → Hid (Below B w0 w') → Hid (w.grownBy w' (some g)) → K (a.put o.dst undef) w') :
    if Region.wanted o (yielded ops a.tmps) = true then Oper.wp P o a w K Q else E := by
  have hw : Region.wanted o (yielded ops a.tmps) = true := by simp [Region.wanted, hgd]
  rw [if_pos hw]
  exact wp_store_row ty x y ho g cells hx hy t old hg hi hs h1 (h _ (setRow_heap w g _ _ t _ hg) (below_setRow hb hB _) ⟨rfl, rfl, rfl, by simp [World.setRow], fun k _ hk => setRow_other w g k cells (fun e => hk (by rw [e]))⟩)
/-- The circle, and the reference's in a box of its own. -/
def PlRel (W : World) (g gm : Nat) (S : Cst) (k : Nat) (w : World) : Prop :=
  ∃ (lab : Nat → Nat) (r : RV), Cir w lab g S ∧ Below W.heap.size W w ∧ (∀ j, j < W.heap.size → lab j = 0) ∧ w.heap[gm]? = some r.obj ∧ lab gm = 0 ∧ RefQ (fun j => lab j = 0 ∧ j ≠ gm) w r S.s ∧ r.a3.n ≤ k
theorem plrel_start {W w2 w3 w4 w5 : World} {lab0 : Nat → Nat} {g : Nat} {r : RV} {ps : List VP} {ms : List Mem} {q : Int} (hB2 : Below W.heap.size W w2) (hl : ∀ k, k < w2.heap.size → lab0 k = 0) (hB3 : Below W.heap.size W w3) (hC : Cir w3 lab0 g (S0 ms ps q)) (hr : RefC w4 w4.heap.size r (S0 ms ps q).s) (hb : Below w3.heap.size w3 w4)
    (hf : FarR w3 w4 r ps) (hps : ∀ p ∈ ps, Sl I W W.heap.size p.2.a p.2.n p.1.ws) (h5 : Below w4.heap.size w4 w5) (hg : w5.heap[w4.heap.size]? = some r.obj) : PlRel W g w4.heap.size (S0 ms ps q) 0 w5 := by
  obtain ⟨f1, f2, f3, f4, f5⟩ := hf
  have hB4 := hB3.trans (hb.mono hB3.size)
  have htop := hC.top
  refine ⟨lab0, r, (hC.on hb).on h5, hB4.trans (h5.mono hB4.size), fun j hj => hl j (Nat.lt_of_lt_of_le hj hB2.size), hg, htop _ hb.size, ?_, by rw [f3]; exact Nat.le_refl _⟩
  have hv := (f5.up h5 (Nat.le_refl _)).more h5.size
  refine ⟨hr.on h5, fun hn => ?_, fun hn ad e => ?_, fun hn ad e => ?_, fun hn => ?_, ⟨ps, hv, rfl, fun p hp hn ad e => ?_⟩⟩
  · rw [f3] at hn; exact absurd hn (by decide)
  · exact ⟨htop _ (f1 ad e), Nat.ne_of_lt (hr.ms.low (by rw [hr.ms.1]; exact hn) e)⟩
  · exact ⟨htop _ (f2 ad e), Nat.ne_of_lt (f5.1.low (by rw [f5.1.1]; exact hn) e)⟩
  · rw [f4] at hn; exact absurd hn (by decide)
  · have := (hps p hp).low hn e
    exact ⟨hl _ (Nat.lt_of_lt_of_le this hB2.size), by have := hB4.size; omega⟩
/-- Whom a vote that counts is against, behind it. -/
theorem voted_exp {S : St} {x : Chn} (hI : Inv S) (hk : x.kind = 2) (h0 : playE S x = 0) : ∃ (b : Nat) (m : Mem), x.b = b ∧ (playS S x).ms[b]? = some m ∧ m.exp = playB S x := by
  have h1 : playE S x = votE S x.a x.b := by unfold playE; rw [hk]; rfl
  rw [h1] at h0
  obtain ⟨ha, hb, aa, hne, ab, hv⟩ := votE_ok h0
  have hb' := hasB_iff.1 hb
  have hS : playS S x = votS S x.a x.b := by unfold playS; rw [h1, h0, hk]; rfl
  have hP : playB S x = outB S x.a x.b := by unfold playB; rw [hk, h0]; simp
  obtain ⟨m, hm⟩ := get_ex (show x.b.toNat < (votS S x.a x.b).ms.length by rw [votS_len]; omega)
  refine ⟨x.b.toNat, m, by omega, by rw [hS]; exact hm, ?_⟩
  rw [actB_get hm, votS_act, show actB S x.b.toNat = true from ab, hP]
  simp
set_option maxRecDepth 20000 in
set_option maxHeartbeats 8000000 in
theorem lawPlays_any (A : Option Addr) (n c : Nat) (A' : Option Addr) (n' c' : Nat) (q : Int) (A'' : Option Addr) (n'' c'' : Nat) (ms : List Mem) (ps : List VP) (xs : List Chn) (w : World) (hx : InSet w A n c A' n' c' A'' n'' c'' ms ps xs) :
    Calls Try.prog 6 #[aSet A n c A' n' c' q A'' n'' c''] w (BoolB true w) := by
  obtain ⟨W, hW⟩ : ∃ W : World, W = w.alloc (oSet A n c A' n' c' q A'' n'' c'') := ⟨_, rfl⟩
  have hB : Below w.heap.size w W := by rw [hW]; exact (Below.refl _ _).alloc (Nat.le_refl _) _
  have hG : W.heap[w.heap.size]? = some (oSet A n c A' n' c' q A'' n'' c'') := by rw [hW]; exact heap_alloc_new w _
  have HX := Lib.hid (hx.on hB)
  have HB := Lib.hid hB
  have HG := Lib.hid hG
  have HW := Lib.hid hW
  have HGL := Lib.hid (lt_of_block hG)
  clear hx hB hG hW
  go_enter Try.func6, Try.ntmps6
  go_wp2_with fail
  refine (show Calls Try.prog 7 _ _ (BoolB true W) from HW.out ▸ awake_any W).mono ?_
  rintro e w1 ⟨rfl, hb⟩
  have HB1 : Hid (Below W.heap.size W w1) := hb
  obtain ⟨s0, s1, s2, s3⟩ := four_of ((hb.block _ HGL.out).trans HG.out)
  clear hb
  go_wp2_with fail
  refine (small_any A n c A' n' c' q A'' n'' c'' w1).mono ?_
  rintro e w2 ⟨rfl, hb⟩
  have HB2 : Hid (Below W.heap.size W w2) := HB1.out.trans (hb.mono HB1.out.size)
  clear hb s0 s1 s2 s3
  obtain ⟨sm, hsm⟩ : ∃ z, smallB n n' n'' = z := ⟨_, rfl⟩
  rw [hsm]
  cases sm
  · clear hsm
    go_wp2_with fail
    go_ret
    exact ⟨rfl, HB.out.trans (HB2.out.mono HB.out.size)⟩
  have hn : n ≤ 14 ∧ n' ≤ 14 ∧ n'' ≤ 40 := by unfold smallB at hsm; simpa using hsm
  obtain ⟨hn1, hn2, hn3⟩ := hn
  clear hsm
  have HX2 := Lib.hid (HX.out.on HB2.out)
  have HN := Lib.hid (new_set q HX2.out)
  obtain ⟨s0, s1, s2, s3⟩ := four_of ((HB2.out.block _ HGL.out).trans HG.out)
  go_wp2_with fail
  refine HN.out.mono ?_
  rintro e w3 h1
  clear s0 s1 s2 s3
  rcases h1 with ⟨h0, h1⟩ | ⟨h0, rfl, h2⟩
  · obtain ⟨g, lab0, rfl, hC, hl, _, hb⟩ := h1.cir
    have HI0 : Hid (Inv (S0 ms ps q).s) := newE_inv h0
    have HC3 : Hid (Cir w3 lab0 g (S0 ms ps q)) := hC
    have HL0 : Hid (∀ k, k < w2.heap.size → lab0 k = 0) := hl
    have HB3 : Hid (Below W.heap.size W w3) := HB2.out.trans (hb.mono HB2.out.size)
    have H0 := Lib.hid h0
    have HR := Lib.hid (rnew_set q (HX.out.on HB3.out))
    obtain ⟨s0, s1, s2, s3⟩ := four_of ((HB3.out.block _ HGL.out).trans HG.out)
    clear h1 hC hl hb h0
    go_wp2_with fail
    refine HR.out.mono ?_
    rintro e w4 h1
    clear s0 s1 s2 s3
    rcases h1 with ⟨_, r0, rfl, hR, hb, hf⟩ | ⟨h5, _⟩
    · obtain ⟨w5, hw5⟩ : ∃ V : World, V = w4.alloc r0.obj := ⟨_, rfl⟩
      have HW5 := Lib.hid hw5
      obtain ⟨gm, hgm⟩ : ∃ k, w4.heap.size = k := ⟨_, rfl⟩
      have HREL : Hid (PlRel W g gm (S0 ms ps q) 0 w5) := by
        have h5 := plrel_start (w5 := w5) HB2.out HL0.out HB3.out HC3.out hR hb hf (fun p hp => (HX.out.vk p hp).1) (by rw [hw5]; exact (Below.refl _ _).alloc (Nat.le_refl _) _) (by rw [hw5]; exact heap_alloc_new w4 _)
        rw [hgm] at h5
        exact h5
      have HGMW : Hid (W.heap.size ≤ gm) := by show _ ≤ _; rw [← hgm]; exact (HB3.out.trans (hb.mono HB3.out.size)).size
      have HGM := Lib.hid hgm
      clear hR hb hw5 hf hgm
      go_wp2_with (refine wpList_store_new (o := ⟨none, .store 57 (.tmp 5) (.tmp 36), _, _, _, _⟩) rfl 57 (.tmp 5) (.tmp 36) rfl 57 _ r0.cells rfl rfl Try.sizeR rfl (RV.one r0) ?_)
      rw [HGM.out, show w4.alloc (.cells r0.cells 57) = w5 from HW5.out.symm]
      go_loopw [7] (fun i wr => ∃ k : Nat, k ≤ n'' ∧ i = .int .i64 k ∧ Hid (PlRel W g gm (playsC (S0 ms ps q) (xs.take k)) k wr)) (fun i _ => n'' - (intOf i).toNat)
      case atStart => exact ⟨0, Nat.zero_le _, rfl, HREL⟩
      case round =>
        obtain ⟨k, hk, rfl, hrl⟩ := hrel
        clear HREL HC3 HR HW5
        obtain ⟨lab, r, hC, hBk, hl, hgm, hlg, hR, h3n⟩ := hrl.out
        have HC := Lib.hid hC
        have HBk := Lib.hid hBk
        have HL := Lib.hid hl
        have HG0 := Lib.hid hgm
        have HLG := Lib.hid hlg
        have HR := Lib.hid hR
        clear hrl hC hBk hl hgm hlg hR
        obtain ⟨s0, s1, s2, s3⟩ := four_of ((HBk.out.block _ HGL.out).trans HG.out)
        by_cases hlt : k < n''
        · have hXk := HX.out.on HBk.out
          obtain ⟨b, off, x, hA'', hbB, hxk, hcell⟩ := HX.out.fxs.at_ hlt
          subst hA''
          have HXZ := Lib.hid (hXk.xz x (List.mem_of_getElem? hxk))
          have HTK : Hid (playsC (S0 ms ps q) (xs.take (k + 1)) = playC (playsC (S0 ms ps q) (xs.take k)) x) := by show _ = _; rw [take_snoc hxk, playsC_snoc]
          obtain ⟨S, hS⟩ : ∃ S, playsC (S0 ms ps q) (xs.take k) = S := ⟨_, rfl⟩
          have hlen : (xs.take k).length ≤ 40 := by rw [List.length_take]; omega
          have HCH : Hid (S.chs.length ≤ 40) := by show _ ≤ _; have := playsC_chs (S0 ms ps q) (xs.take k); rw [hS] at this; simp at this; omega
          have HVL : Hid (S.s.votes.length ≤ 40) := by show _ ≤ _; have := playsC_votes (S0 ms ps q) (xs.take k); rw [hS] at this; simp at this; omega
          have HIV : Hid (Inv S.s) := hS ▸ playsC_inv HI0.out (xs.take k)
          rw [hS] at HC HTK HR
          have HXC : Hid (∀ V, Below W.heap.size W V → ∀ j v, (fX x)[j]? = some v → V.cell? ⟨b, off + (k * 9 + j), none⟩ = some v) := fun V hV j v hv => (hV.cell (p := ⟨b, off + (k * 9 + j), none⟩) hbB).trans (hcell j v hv)
          have HPL := Lib.hid (play_any g lab S x wr HC.out HIV.out (Nat.le_trans HCH.out (by decide)) (Nat.le_trans HVL.out (by decide)) HXZ.out.1 HXZ.out.2)
          obtain ⟨c0, c1, c2, c3, c4, c5, cc6, c7, c8⟩ := nine (HXC.out wr HBk.out)
          clear hXk hcell hxk hlen hS
          go_wp2_with fail
          refine HPL.out.mono ?_
          rintro e w7 ⟨rfl, lab7, hC7, hF7⟩
          obtain ⟨bd, hbd⟩ : ∃ z, playB S.s x = z := ⟨_, rfl⟩
          obtain ⟨pe, hpe⟩ : ∃ z, playE S.s x = z := ⟨_, rfl⟩
          rw [hbd, hpe]
          unfold votR
          have HBD := Lib.hid hbd
          have HPE := Lib.hid hpe
          have HC7 := Lib.hid hC7
          have HI7 : Hid (Inv (playC S x).s) := playS_inv HIV.out
          have HB7 : Hid (Below W.heap.size W w7) := HBk.out.trans (hF7.below HBk.out.size HL.out)
          have HL7 : Hid (∀ j, j < W.heap.size → lab7 j = 0) := fun j hj => (hF7.keep j (Nat.lt_of_lt_of_le hj HBk.out.size)).trans (HL.out j hj)
          have hgl := lt_of_block HG0.out
          have HG7 : Hid (w7.heap[gm]? = some r.obj) := (hF7.block gm hgl HLG.out).trans HG0.out
          have HLG7 : Hid (lab7 gm = 0) := (hF7.keep gm hgl).trans HLG.out
          have HR7 : Hid (RefQ (fun j => lab7 j = 0 ∧ j ≠ gm) w7 r S.s) := HR.out.keep hF7.size (fun j hj hP => hF7.block j hj hP.1) (fun j hj hP => ⟨(hF7.keep j hj).trans hP.1, hP.2⟩)
          have HTOP : Hid (∀ j, w7.heap.size ≤ j → lab7 j = 0 ∧ j ≠ gm) := fun j hj => ⟨HC7.out.top j hj, by have := lt_of_block HG7.out; omega⟩
          have HAP : Hid (∀ V, Below w7.heap.size w7 V → Calls Try.prog 21 #[r.val, aCh x] V (ApP (fun j => (lab7 j = 0 ∧ j ≠ gm) ∧ (j < w7.heap.size ∨ V.heap.size ≤ j)) r S.s x V)) := fun V hV => rapply_any r S.s x V _ (fun j hj => ⟨HTOP.out j (Nat.le_trans hV.size hj), .inr hj⟩) (HR7.out.keep hV.size (fun j hj _ => hV.block j hj) (fun j hj h => ⟨h, .inl hj⟩)) HIV.out (by omega) HXZ.out.1 HXZ.out.2
          have HSV : Hid (∀ w' : World, Below w7.heap.size w7 w' → w'.cell? ⟨gm, 0, none⟩ = some (.slice r.a1.a r.a1.n r.a1.c) ∧ w'.cell? ⟨gm, 1, none⟩ = some (.slice r.a2.a r.a2.n r.a2.c) ∧ w'.cell? ⟨gm, 2, none⟩ = some (.int .i64 r.q) ∧ w'.cell? ⟨gm, 3, none⟩ = some (.slice r.a3.a r.a3.n r.a3.c) ∧ w'.cell? ⟨gm, 4, none⟩ = some (.slice r.a4.a r.a4.n r.a4.c) ∧ w'.cell? ⟨gm, 5, none⟩ = some (.slice r.a5.a r.a5.n r.a5.c) ∧ w'.cell? ⟨gm, 6, none⟩ = some (.slice r.a6.a r.a6.n r.a6.c) ∧ w'.cell? ⟨w.heap.size, 3, none⟩ = some (.slice (some ⟨b, off, none⟩) n'' c'') ∧ w'.cell? ⟨b, off + k * 9, none⟩ = some (.int .i64 x.kind) ∧ w'.cell? ⟨b, off + k * 9 + 1, none⟩ = some (.int .i64 x.m.dev) ∧ w'.cell? ⟨b, off + k * 9 + 2, none⟩ = some (.string x.m.name) ∧ w'.cell? ⟨b, off + k * 9 + 3, none⟩ = some (.string x.m.pub) ∧ w'.cell? ⟨b, off + k * 9 + 4, none⟩ = some (.int .i64 x.m.quota) ∧ w'.cell? ⟨b, off + k * 9 + 5, none⟩ = some (.bool x.m.exp) ∧ w'.cell? ⟨b, off + k * 9 + 6, none⟩ = some (.int .i64 x.v) ∧ w'.cell? ⟨b, off + k * 9 + 7, none⟩ = some (.int .i64 x.a) ∧ w'.cell? ⟨b, off + k * 9 + 8, none⟩ = some (.int .i64 x.b)) := fun V hV => by
            obtain ⟨z0, z1, z2, z3, z4, z5, z6⟩ := seven_of ((hV.block _ (lt_of_block HG7.out)).trans HG7.out)
            obtain ⟨s0, s1, s2, s3⟩ := four_of (((HB7.out.trans (hV.mono HB7.out.size)).block _ HGL.out).trans HG.out)
            obtain ⟨c0, c1, c2, c3, c4, c5, cc6, c7, c8⟩ := nine (HXC.out V (HB7.out.trans (hV.mono HB7.out.size)))
            exact ⟨z0, z1, z2, z3, z4, z5, z6, s3, c0, c1, c2, c3, c4, c5, cc6, c7, c8⟩
          clear hC7 hF7 hbd hpe c0 c1 c2 c3 c4 c5 cc6 c7 c8 s0 s1 s2 s3 hgl
          obtain ⟨c0, c1, c2, c3, c4, c5, cc6, c7, c8⟩ := nine (HXC.out w7 HB7.out)
          obtain ⟨s0, s1, s2, s3⟩ := four_of ((HB7.out.block _ HGL.out).trans HG.out)
          obtain ⟨z0, z1, z2, z3, z4, z5, z6⟩ := seven_of HG7.out
          go_upto_region 11 with fail
          clear c0 c1 c2 c3 c4 c5 cc6 c7 c8 s0 s1 s2 s3 z0 z1 z2 z3 z4 z5 z6
          go_cut [10, 11] from 59 to 68 (fun v10 v11 wx => ∃ (r' : RV) (g10 : Nat), v10 = .pointer (some ⟨g10, 0, none⟩) ∧ v11 = .int .i64 pe ∧ Hid (wx.heap[g10]? = some r'.obj) ∧ Hid (RefQ (fun j => lab7 j = 0 ∧ j ≠ gm) wx r' (playS S.s x)) ∧ r'.a3.n ≤ k + 1 ∧ Hid (Below w7.heap.size w7 wx) ∧ Hid (w7.heap.size ≤ g10))
          case first =>
            refine wp_region_held_drew (S := (fun w' => w'.cell? ⟨gm, 0, none⟩ = some (.slice r.a1.a r.a1.n r.a1.c) ∧ w'.cell? ⟨gm, 1, none⟩ = some (.slice r.a2.a r.a2.n r.a2.c) ∧ w'.cell? ⟨gm, 2, none⟩ = some (.int .i64 r.q) ∧ w'.cell? ⟨gm, 3, none⟩ = some (.slice r.a3.a r.a3.n r.a3.c) ∧ w'.cell? ⟨gm, 4, none⟩ = some (.slice r.a4.a r.a4.n r.a4.c) ∧ w'.cell? ⟨gm, 5, none⟩ = some (.slice r.a5.a r.a5.n r.a5.c) ∧ w'.cell? ⟨gm, 6, none⟩ = some (.slice r.a6.a r.a6.n r.a6.c) ∧ w'.cell? ⟨w.heap.size, 3, none⟩ = some (.slice (some ⟨b, off, none⟩) n'' c'') ∧ w'.cell? ⟨b, off + k * 9, none⟩ = some (.int .i64 x.kind) ∧ w'.cell? ⟨b, off + k * 9 + 1, none⟩ = some (.int .i64 x.m.dev) ∧ w'.cell? ⟨b, off + k * 9 + 2, none⟩ = some (.string x.m.name) ∧ w'.cell? ⟨b, off + k * 9 + 3, none⟩ = some (.string x.m.pub) ∧ w'.cell? ⟨b, off + k * 9 + 4, none⟩ = some (.int .i64 x.m.quota) ∧ w'.cell? ⟨b, off + k * 9 + 5, none⟩ = some (.bool x.m.exp) ∧ w'.cell? ⟨b, off + k * 9 + 6, none⟩ = some (.int .i64 x.v) ∧ w'.cell? ⟨b, off + k * 9 + 7, none⟩ = some (.int .i64 x.a) ∧ w'.cell? ⟨b, off + k * 9 + 8, none⟩ = some (.int .i64 x.b))) (by kernel_rfl) (by exact HSV.out _ (by (repeat (first | exact Below.refl _ _ | exact HB8.out | exact hb9.out | refine below_al ?_ _ | refine Below.drew ?_ | refine below_dN' ?_ _)))) (fun hHeld => ?_)
            refine wpAnyH_take (i := 0) (v := ?q1v) (by simp only [List.getElem?_toArray, List.getElem?_cons_zero]; rfl) (by kernel_rfl) (by kernel_rfl) (by kernel_rfl) (by exact fun _ _ _ h => h) (Or.inl ⟨by rfl, ?q1y⟩) (by assumption) ?q1r
            case q1y => (intro w hSw; (try dsimp only at hSw); go_simp; try (with_reducible rfl))
            try simp only [Act.put, List.setIfInBounds_toArray, List.set_cons_zero, List.set_cons_succ]
            refine wpAnyH_take (i := 1) (v := ?q2v) (by simp only [List.getElem?_toArray, List.getElem?_cons_succ, List.getElem?_cons_zero]; rfl) (by kernel_rfl) (by kernel_rfl) (by kernel_rfl) (by exact fun _ _ _ h => h) (Or.inl ⟨by rfl, ?q2y⟩) (by assumption) ?q2r
            case q2y => (intro w hSw; (try dsimp only at hSw); go_simp; try (with_reducible rfl))
            try simp only [Act.put, List.setIfInBounds_toArray, List.set_cons_zero, List.set_cons_succ]
            refine wpAnyH_take (i := 2) (v := ?q3v) (by simp only [List.getElem?_toArray, List.getElem?_cons_succ, List.getElem?_cons_zero]; rfl) (by kernel_rfl) (by kernel_rfl) (by kernel_rfl) (by exact fun _ _ _ h => h) (Or.inl ⟨by rfl, ?q3y⟩) (by assumption) ?q3r
            case q3y => (intro w hSw; (try dsimp only at hSw); go_simp; try (with_reducible rfl))
            try simp only [Act.put, List.setIfInBounds_toArray, List.set_cons_zero, List.set_cons_succ]
            refine wpAnyH_take (i := 3) (v := ?q4v) (by simp only [List.getElem?_toArray, List.getElem?_cons_succ, List.getElem?_cons_zero]; rfl) (by kernel_rfl) (by kernel_rfl) (by kernel_rfl) (by exact fun _ _ _ h => h) (Or.inl ⟨by rfl, ?q4y⟩) (by assumption) ?q4r
            case q4y => (intro w hSw; (try dsimp only at hSw); go_simp; try (with_reducible rfl))
            try simp only [Act.put, List.setIfInBounds_toArray, List.set_cons_zero, List.set_cons_succ]
            refine wpAnyH_take (i := 4) (v := ?q5v) (by simp only [List.getElem?_toArray, List.getElem?_cons_succ, List.getElem?_cons_zero]; rfl) (by kernel_rfl) (by kernel_rfl) (by kernel_rfl) (by exact fun _ _ _ h => h) (Or.inl ⟨by rfl, ?q5y⟩) (by assumption) ?q5r
            case q5y => (intro w hSw; (try dsimp only at hSw); go_simp; try (with_reducible rfl))
            try simp only [Act.put, List.setIfInBounds_toArray, List.set_cons_zero, List.set_cons_succ]
            refine wpAnyH_take (i := 5) (v := ?q6v) (by simp only [List.getElem?_toArray, List.getElem?_cons_succ, List.getElem?_cons_zero]; rfl) (by kernel_rfl) (by kernel_rfl) (by kernel_rfl) (by exact fun _ _ _ h => h) (Or.inl ⟨by rfl, ?q6y⟩) (by assumption) ?q6r
            case q6y => (intro w hSw; (try dsimp only at hSw); go_simp; try (with_reducible rfl))
            try simp only [Act.put, List.setIfInBounds_toArray, List.set_cons_zero, List.set_cons_succ]
            refine wpAnyH_ready (rs := [6, 10]) (by kernel_rfl) (by simp) ?_
            refine AllReadyH.cons (by simp only [List.getElem?_toArray, List.getElem?_cons_succ, List.getElem?_cons_zero]; rfl) (fun K hK => ?_) (AllReadyH.cons (by simp only [List.getElem?_toArray, List.getElem?_cons_succ, List.getElem?_cons_zero]; rfl) (fun K hK => ?_) (AllReadyH.nil))
            · (go_simp; (with_reducible refine (HAP.out _ (by (repeat (first | exact Below.refl _ _ | exact HB8.out | exact hb9.out | refine below_al ?_ _ | refine Below.drew ?_ | refine below_dN' ?_ _)))).mono ?_); rintro e w8 ⟨r', rfl, hR8, hn8, hb8⟩; (rw [HPE.out]); (have HB8 : Hid (Below w7.heap.size w7 w8) := Below.trans (by (repeat (first | exact Below.refl _ _ | exact HB8.out | exact hb9.out | refine below_al ?_ _ | refine Below.drew ?_ | refine below_dN' ?_ _))) (hb8.mono (by first | exact Nat.le_refl _ | (simp <;> omega)))); (have HR8 := Lib.hid hR8); (have HN8 : Hid (r'.a3.n ≤ k + 1) := Nat.le_trans hn8 (Nat.succ_le_succ h3n)); (first | (have HZ8 : Hid (w8.heap[w7.heap.size]? = some zAO) := (hb8.block _ (by simp)).trans (by first | exact heap_alloc_new _ _ | exact heap_new_at (by simp))) | skip); clear hR8 hn8 hb8; go_wp2_with fail)
              refine hK.out _ _ (by exact HSV.out _ (by (repeat (first | exact Below.refl _ _ | exact HB8.out | exact hb9.out | refine below_al ?_ _ | refine Below.drew ?_ | refine below_dN' ?_ _)))) (fun hHeldq7 => ?_)
              clear hK K hHeld
              try simp only [Act.put, List.setIfInBounds_toArray, List.set_cons_zero, List.set_cons_succ]
              refine wpAnyH_take (i := 7) (v := ?q8v) (by simp only [List.getElem?_toArray, List.getElem?_cons_succ, List.getElem?_cons_zero]; rfl) (by kernel_rfl) (by kernel_rfl) (by kernel_rfl) (by exact fun _ _ _ h => h) (Or.inl ⟨by rfl, ?q8y⟩) (by assumption) ?q8r
              case q8y => (intro w hSw; (try dsimp only at hSw); go_simp; try (with_reducible rfl))
              try simp only [Act.put, List.setIfInBounds_toArray, List.set_cons_zero, List.set_cons_succ]
              refine wpAnyH_take (i := 8) (v := ?q9v) (by simp only [List.getElem?_toArray, List.getElem?_cons_succ, List.getElem?_cons_zero]; rfl) (by kernel_rfl) (by kernel_rfl) (by kernel_rfl) (by exact fun _ _ _ h => h) (Or.inl ⟨by rfl, ?q9y⟩) (by assumption) ?q9r
              case q9y => (intro w hSw; (try dsimp only at hSw); go_simp; try (with_reducible rfl))
              try simp only [Act.put, List.setIfInBounds_toArray, List.set_cons_zero, List.set_cons_succ]
              refine wpAnyH_take (i := 9) (v := ?q10v) (by simp only [List.getElem?_toArray, List.getElem?_cons_succ, List.getElem?_cons_zero]; rfl) (by kernel_rfl) (by kernel_rfl) (by kernel_rfl) (by exact fun _ _ _ h => h) (Or.inl ⟨by rfl, ?q10y⟩) (by assumption) ?q10r
              case q10y => (intro w hSw; (try dsimp only at hSw); go_simp; try (with_reducible rfl))
              try simp only [Act.put, List.setIfInBounds_toArray, List.set_cons_zero, List.set_cons_succ]
              refine wpAnyH_ready (rs := [10]) (by kernel_rfl) (by simp) ?_
              refine AllReadyH.cons (by simp only [List.getElem?_toArray, List.getElem?_cons_succ, List.getElem?_cons_zero]; rfl) (fun K hK => ?_) (AllReadyH.nil)
              go_simp
              refine hK.out _ _ (by exact HSV.out _ (by (repeat (first | exact Below.refl _ _ | exact HB8.out | exact hb9.out | refine below_al ?_ _ | refine Below.drew ?_ | refine below_dN' ?_ _)))) (fun hHeldq11 => ?_)
              clear hK K hHeldq7
              try simp only [Act.put, List.setIfInBounds_toArray, List.set_cons_zero, List.set_cons_succ]
              refine wpAnyH_ready (rs := [11]) (by kernel_rfl) (by simp) ?_
              refine AllReadyH.cons (by simp only [List.getElem?_toArray, List.getElem?_cons_succ, List.getElem?_cons_zero]; rfl) (fun K hK => ?_) (AllReadyH.nil)
              (first | (refine step_store_far rfl 57 (.tmp 10) (.tmp 67) rfl w8.heap.size 57 _ r'.cells rfl rfl (heap_alloc_new w8 _) Try.sizeR rfl (RV.one r') w7.heap.size w7 (by (repeat (first | exact Below.refl _ _ | exact HB8.out | exact hb9.out | refine below_al ?_ _ | refine Below.drew ?_ | refine below_dN' ?_ _))) HB8.out.size ?_) | (refine step_store_far rfl 57 (.tmp 10) (.tmp 67) rfl w7.heap.size 57 _ r'.cells rfl rfl HZ8.out Try.sizeR rfl (RV.one r') w7.heap.size w7 (by (repeat (first | exact Below.refl _ _ | exact HB8.out | exact hb9.out | refine below_al ?_ _ | refine Below.drew ?_ | refine below_dN' ?_ _))) (Nat.le_refl _) ?_)); intro w9 HG9 hb9 HZ9
              refine hK.out _ _ (by exact HSV.out _ (by (repeat (first | exact Below.refl _ _ | exact HB8.out | exact hb9.out | refine below_al ?_ _ | refine Below.drew ?_ | refine below_dN' ?_ _)))) (fun hHeldq12 => ?_)
              clear hK K hHeldq11
              try simp only [Act.put, List.setIfInBounds_toArray, List.set_cons_zero, List.set_cons_succ]
              refine wpAnyH_take (i := 12) (v := ?q13v) (by simp only [List.getElem?_toArray, List.getElem?_cons_succ, List.getElem?_cons_zero]; rfl) (by kernel_rfl) (by kernel_rfl) (by kernel_rfl) (by exact fun _ _ _ h => h) (Or.inl ⟨by rfl, ?q13y⟩) (by assumption) ?q13r
              case q13y => (intro w hSw; (try dsimp only at hSw); go_simp; try (with_reducible rfl))
              try simp only [Act.put, List.setIfInBounds_toArray, List.set_cons_zero, List.set_cons_succ]
              refine wpAnyH_done (by kernel_rfl) ?_ _
              go_wp2_with fail
              go_meet
              case rel => first | exact ⟨r', _, rfl, rfl, HG9, (HR8.out.on (((Below.refl _ _).alloc (Nat.le_refl _) _).trans (grown_below HZ9.out (fun k hk => by have := Option.some.inj hk; omega) (by simp)))).keep (Nat.le_refl _) (fun _ _ _ => rfl) (fun _ _ h => h.1), HN8.out, hb9, HB8.out.size⟩ | exact ⟨r', _, rfl, rfl, HG9, HR8.out.keep HZ9.out.size (fun j hj hP => HZ9.out.block j hj (fun e => by have e' := Option.some.inj e; rcases hP.2 with h | h <;> (first | omega | (simp at h; omega)))) (fun _ _ h => h.1), HN8.out, hb9, Nat.le_refl _⟩
            · go_simp
              refine hK.out _ _ (by exact HSV.out _ (by (repeat (first | exact Below.refl _ _ | exact HB8.out | exact hb9.out | refine below_al ?_ _ | refine Below.drew ?_ | refine below_dN' ?_ _)))) (fun hHeldq14 => ?_)
              clear hK K hHeld
              try simp only [Act.put, List.setIfInBounds_toArray, List.set_cons_zero, List.set_cons_succ]
              refine wpAnyH_ready (rs := [6]) (by kernel_rfl) (by simp) ?_
              refine AllReadyH.cons (by simp only [List.getElem?_toArray, List.getElem?_cons_succ, List.getElem?_cons_zero]; rfl) (fun K hK => ?_) (AllReadyH.nil)
              (go_simp; (with_reducible refine (HAP.out _ (by (repeat (first | exact Below.refl _ _ | exact HB8.out | exact hb9.out | refine below_al ?_ _ | refine Below.drew ?_ | refine below_dN' ?_ _)))).mono ?_); rintro e w8 ⟨r', rfl, hR8, hn8, hb8⟩; (rw [HPE.out]); (have HB8 : Hid (Below w7.heap.size w7 w8) := Below.trans (by (repeat (first | exact Below.refl _ _ | exact HB8.out | exact hb9.out | refine below_al ?_ _ | refine Below.drew ?_ | refine below_dN' ?_ _))) (hb8.mono (by first | exact Nat.le_refl _ | (simp <;> omega)))); (have HR8 := Lib.hid hR8); (have HN8 : Hid (r'.a3.n ≤ k + 1) := Nat.le_trans hn8 (Nat.succ_le_succ h3n)); (first | (have HZ8 : Hid (w8.heap[w7.heap.size]? = some zAO) := (hb8.block _ (by simp)).trans (by first | exact heap_alloc_new _ _ | exact heap_new_at (by simp))) | skip); clear hR8 hn8 hb8; go_wp2_with fail)
              refine hK.out _ _ (by exact HSV.out _ (by (repeat (first | exact Below.refl _ _ | exact HB8.out | exact hb9.out | refine below_al ?_ _ | refine Below.drew ?_ | refine below_dN' ?_ _)))) (fun hHeldq15 => ?_)
              clear hK K hHeldq14
              try simp only [Act.put, List.setIfInBounds_toArray, List.set_cons_zero, List.set_cons_succ]
              refine wpAnyH_take (i := 7) (v := ?q16v) (by simp only [List.getElem?_toArray, List.getElem?_cons_succ, List.getElem?_cons_zero]; rfl) (by kernel_rfl) (by kernel_rfl) (by kernel_rfl) (by exact fun _ _ _ h => h) (Or.inl ⟨by rfl, ?q16y⟩) (by assumption) ?q16r
              case q16y => (intro w hSw; (try dsimp only at hSw); go_simp; try (with_reducible rfl))
              try simp only [Act.put, List.setIfInBounds_toArray, List.set_cons_zero, List.set_cons_succ]
              refine wpAnyH_take (i := 8) (v := ?q17v) (by simp only [List.getElem?_toArray, List.getElem?_cons_succ, List.getElem?_cons_zero]; rfl) (by kernel_rfl) (by kernel_rfl) (by kernel_rfl) (by exact fun _ _ _ h => h) (Or.inl ⟨by rfl, ?q17y⟩) (by assumption) ?q17r
              case q17y => (intro w hSw; (try dsimp only at hSw); go_simp; try (with_reducible rfl))
              try simp only [Act.put, List.setIfInBounds_toArray, List.set_cons_zero, List.set_cons_succ]
              refine wpAnyH_take (i := 9) (v := ?q18v) (by simp only [List.getElem?_toArray, List.getElem?_cons_succ, List.getElem?_cons_zero]; rfl) (by kernel_rfl) (by kernel_rfl) (by kernel_rfl) (by exact fun _ _ _ h => h) (Or.inl ⟨by rfl, ?q18y⟩) (by assumption) ?q18r
              case q18y => (intro w hSw; (try dsimp only at hSw); go_simp; try (with_reducible rfl))
              try simp only [Act.put, List.setIfInBounds_toArray, List.set_cons_zero, List.set_cons_succ]
              refine wpAnyH_ready (rs := [11]) (by kernel_rfl) (by simp) ?_
              refine AllReadyH.cons (by simp only [List.getElem?_toArray, List.getElem?_cons_succ, List.getElem?_cons_zero]; rfl) (fun K hK => ?_) (AllReadyH.nil)
              (first | (refine step_store_far rfl 57 (.tmp 10) (.tmp 67) rfl w8.heap.size 57 _ r'.cells rfl rfl (heap_alloc_new w8 _) Try.sizeR rfl (RV.one r') w7.heap.size w7 (by (repeat (first | exact Below.refl _ _ | exact HB8.out | exact hb9.out | refine below_al ?_ _ | refine Below.drew ?_ | refine below_dN' ?_ _))) HB8.out.size ?_) | (refine step_store_far rfl 57 (.tmp 10) (.tmp 67) rfl w7.heap.size 57 _ r'.cells rfl rfl HZ8.out Try.sizeR rfl (RV.one r') w7.heap.size w7 (by (repeat (first | exact Below.refl _ _ | exact HB8.out | exact hb9.out | refine below_al ?_ _ | refine Below.drew ?_ | refine below_dN' ?_ _))) (Nat.le_refl _) ?_)); intro w9 HG9 hb9 HZ9
              refine hK.out _ _ (by exact HSV.out _ (by (repeat (first | exact Below.refl _ _ | exact HB8.out | exact hb9.out | refine below_al ?_ _ | refine Below.drew ?_ | refine below_dN' ?_ _)))) (fun hHeldq19 => ?_)
              clear hK K hHeldq15
              try simp only [Act.put, List.setIfInBounds_toArray, List.set_cons_zero, List.set_cons_succ]
              refine wpAnyH_take (i := 12) (v := ?q20v) (by simp only [List.getElem?_toArray, List.getElem?_cons_succ, List.getElem?_cons_zero]; rfl) (by kernel_rfl) (by kernel_rfl) (by kernel_rfl) (by exact fun _ _ _ h => h) (Or.inl ⟨by rfl, ?q20y⟩) (by assumption) ?q20r
              case q20y => (intro w hSw; (try dsimp only at hSw); go_simp; try (with_reducible rfl))
              try simp only [Act.put, List.setIfInBounds_toArray, List.set_cons_zero, List.set_cons_succ]
              refine wpAnyH_done (by kernel_rfl) ?_ _
              go_wp2_with fail
              go_meet
              case rel => first | exact ⟨r', _, rfl, rfl, HG9, (HR8.out.on (((Below.refl _ _).alloc (Nat.le_refl _) _).trans (grown_below HZ9.out (fun k hk => by have := Option.some.inj hk; omega) (by simp)))).keep (Nat.le_refl _) (fun _ _ _ => rfl) (fun _ _ h => h.1), HN8.out, hb9, HB8.out.size⟩ | exact ⟨r', _, rfl, rfl, HG9, HR8.out.keep HZ9.out.size (fun j hj hP => HZ9.out.block j hj (fun e => by have e' := Option.some.inj e; rcases hP.2 with h | h <;> (first | omega | (simp at h; omega)))) (fun _ _ h => h.1), HN8.out, hb9, Nat.le_refl _⟩
          case rest =>
          obtain ⟨r', g10, rfl, rfl, HG10a, HR9, hn8, HB9, HG10b⟩ := hcut
          have HBW9 : Hid (Below W.heap.size W wc) := HB7.out.trans (HB9.out.mono HB7.out.size)
          have HC9 := Lib.hid (HC7.out.on HB9.out)
          have HN8 : Hid (r'.a3.n ≤ k + 1) := hn8
          have HG9 : Hid (wc.heap[gm]? = some r.obj) := (HB9.out.block gm (lt_of_block HG7.out)).trans HG7.out
          obtain ⟨z0, z1, z2, z3, z4, z5, z6⟩ := seven_of HG10a.out
          clear hn8
          go_upto_region 13 with (refine wpList_store_far (o := ⟨none, .store 57 (.tmp 5) (.tmp 69), _, _, _, _⟩) rfl 57 (.tmp 5) (.tmp 69) rfl gm 57 r.cells r'.cells rfl rfl HG9.out Try.sizeR rfl (RV.one r') W.heap.size W HBW9.out HGMW.out ?_; intro w10 HG10 hb10 HZ10)
          clear z0 z1 z2 z3 z4 z5 z6
          have HB10 : Hid (Below W.heap.size W w10) := hb10
          have HC10 := Lib.hid (HC9.out.grown HZ10.out HLG7.out)
          have HR10 : Hid (RefQ (fun j => lab7 j = 0 ∧ j ≠ gm) w10 r' (playS S.s x)) := HR9.out.keep HZ10.out.size (fun j hj hP => HZ10.out.block j hj (fun e => hP.2 (Option.some.inj e))) (fun _ _ h => h)
          clear hb10 HZ10
          try simp only [Act.put, List.setIfInBounds_toArray, List.set_cons_zero, List.set_cons_succ]
          go_cut [12] from 70 to 93 (fun v wx => v = .bool bd ∧ Hid (∃ nq, wx = w10.drewN nq))
          case first =>
            obtain ⟨c0, c1, c2, c3, c4, c5, cc6, c7, c8⟩ := nine (HXC.out w10 HB10.out)
            obtain ⟨s0, s1, s2, s3⟩ := four_of ((HB10.out.block _ HGL.out).trans HG.out)
            obtain ⟨z0, z1, z2, z3, z4, z5, z6⟩ := seven_of HG10.out
            by_cases hk2 : x.kind = 2
            · have e2 : (x.kind == 2) = true := by simp [hk2]
              by_cases hp0 : pe = 0
              · subst hp0
                obtain ⟨bb, m, hxb, hm, hme⟩ := voted_exp HIV.out hk2 HPE.out
                rw [HBD.out] at hme
                have hml := (List.getElem?_eq_some_iff.1 hm).1
                obtain ⟨b4, o4, m', ha4, hb4, hmk, hcell⟩ := HR10.out.ref.ms.at_ (k := bb) (by rw [← HR10.out.ref.ms.1]; exact hml)
                have hmm : m = m' := by rw [hm] at hmk; exact Option.some.inj hmk
                subst hmm
                have hx5 : w10.cell? ⟨b4, o4 + (bb * 5 + 4), none⟩ = some (.bool bd) := by rw [← hme]; exact hcell 4 _ rfl
                have hln : (playS S.s x).ms.length = r'.a4.n := HR10.out.ref.ms.1
                have hbl : bb < r'.a4.n := by rw [← hln]; exact hml
                have hbl' : (bb : Int) < (r'.a4.n : Int) := by omega
                rw [hxb] at c8
                rw [ha4] at z4
                rw [← Nat.add_assoc] at hx5
                clear hk2 hm hme hcell hmk ha4 hln hxb
                go_quiet (fail)
                go_wp2
                go_meet
                case rel => exact ⟨rfl, Lib.hid ⟨_, rfl⟩⟩
              · have e0 : (pe == 0) = false := by simp [hp0]
                have hbf : bd = false := by
                  rw [← HBD.out]
                  unfold playB
                  have h5 := HPE.out
                  unfold playE at h5
                  rw [hk2] at h5 ⊢
                  simp only [show ¬ (2 : Int) = 1 by decide, if_true, if_false] at h5
                  rw [h5]
                  simp [hp0]
                subst hbf
                clear hk2 hp0
                go_quiet (fail)
                go_wp2
                go_meet
                case rel => exact ⟨rfl, Lib.hid ⟨_, rfl⟩⟩
            · have e2 : (x.kind == 2) = false := by simp [hk2]
              have hbf : bd = false := by
                rw [← HBD.out]
                unfold playB
                simp [hk2]
              subst hbf
              clear hk2
              go_quiet (fail)
              go_wp2
              go_meet
              case rel => exact ⟨rfl, Lib.hid ⟨_, rfl⟩⟩
          case rest =>
            obtain ⟨rfl, hnq⟩ := hcut
            obtain ⟨nq, hwx⟩ := hnq.out
            subst hwx
            have HBn : Hid (Below w10.heap.size w10 (w10.drewN nq)) := below_dN' (Below.refl _ _) nq
            have HSM := Lib.hid (same_any g lab7 (playC S x) r' (w10.drewN nq) (HC10.out.on HBn.out) HI7.out (HR10.out.ref.on HBn.out))
            obtain ⟨z0, z1, z2, z3, z4, z5, z6⟩ := seven_of ((HBn.out.block _ (lt_of_block HG10.out)).trans HG10.out)
            clear hnq
            go_wp2_with (go_at_call 20; refine HSM.out.mono ?_; rintro e w11 ⟨rfl, hb11⟩)
            go_roundw
            case rel => exact ⟨k + 1, by omega, by go_num, by show PlRel _ _ _ _ _ _; rw [HTK.out]; exact ⟨lab7, r', (HC10.out.on HBn.out).on hb11, HB10.out.trans ((HBn.out.trans (hb11.mono HBn.out.size)).mono HB10.out.size), HL7.out, (hb11.block _ (Nat.lt_of_lt_of_le (lt_of_block HG10.out) HBn.out.size)).trans ((HBn.out.block _ (lt_of_block HG10.out)).trans HG10.out), HLG7.out, (HR10.out.on HBn.out).on hb11, HN8.out⟩⟩
            case measure => simp [intOf]; omega
        · obtain rfl : k = n'' := by omega
          go_wp2_with fail
          go_ret
          exact ⟨rfl, HB.out.trans (HBk.out.mono HB.out.size)⟩
    · exact absurd H0.out h5
  · have HB3 : Hid (Below W.heap.size W w3) := HB2.out.trans (h2.mono HB2.out.size)
    obtain ⟨ne, hne⟩ : ∃ z, newE ms (ps.map Prod.fst) q = z := ⟨_, rfl⟩
    have hnz : ne ≠ 0 := hne ▸ h0
    have hnz' : (ne == 0) = false := by simpa using hnz
    have H0 := Lib.hid h0
    have HNE := Lib.hid hne
    rw [hne]
    have HR := Lib.hid (rnew_set q (HX.out.on HB3.out))
    obtain ⟨s0, s1, s2, s3⟩ := four_of ((HB3.out.block _ HGL.out).trans HG.out)
    clear h0 h2 hne
    go_wp2_with fail
    refine HR.out.mono ?_
    rintro e w4 h1
    clear s0 s1 s2 s3
    rcases h1 with ⟨h5, _⟩ | ⟨_, r, rfl, hb⟩
    · exact absurd h5 H0.out
    · rw [HNE.out]
      have HB4 : Hid (Below W.heap.size W w4) := HB3.out.trans (hb.mono HB3.out.size)
      have HB5 : Hid (Below W.heap.size W (w4.alloc r.obj)) := HB4.out.alloc HB4.out.size _
      clear hb
      obtain ⟨w5, hw5⟩ : ∃ V : World, V = w4.alloc r.obj := ⟨_, rfl⟩
      rw [← hw5] at HB5
      have HW5 := Lib.hid hw5
      clear hw5
      go_wp2_with (refine wpList_store_new (o := ⟨none, .store 57 (.tmp 5) (.tmp 36), _, _, _, _⟩) rfl 57 (.tmp 5) (.tmp 36) rfl 57 _ r.cells rfl rfl Try.sizeR rfl (RV.one r) ?_)
      rw [show w4.alloc (.cells r.cells 57) = w5 from HW5.out.symm]
      go_loopw [7] (fun i wr => i = .int .i64 0 ∧ Hid (Below W.heap.size W wr)) (fun _ _ => 0)
      case atStart => exact ⟨rfl, HB5⟩
      case round =>
        obtain ⟨rfl, HBr⟩ := hrel
        obtain ⟨s0, s1, s2, s3⟩ := four_of ((HBr.out.block _ HGL.out).trans HG.out)
        by_cases h0 : 0 < n''
        · have h0' : (0 : Int) < (n'' : Int) := by omega
          go_wp2_with fail
          go_ret
          exact ⟨rfl, HB.out.trans (HBr.out.mono HB.out.size)⟩
        · have h0' : ¬ (0 : Int) < (n'' : Int) := by omega
          go_wp2_with fail
          go_ret
          exact ⟨rfl, HB.out.trans (HBr.out.mono HB.out.size)⟩
end Go.Proofs.Ytafhpomoobdmdaa
namespace Go.Proofs.Ytafhpomoobdmdaa.membershipPlays
open Go.ChangeShapes Go.WideShapes Go.ChangeAt Go.RowKit
open Go.ChangeMaps (open_string shut_string)
set_option linter.unusedVariables false

theorem own : ownKnob Try.prog.godebug = none := by kernel_rfl
theorem laidOut : laidOutB Try.prog = true := by kernel_rfl

/-! The row's step. -/
set_option maxRecDepth 100000 in
theorem lifted (os : Os) (started : os.Started) (H : Type) (enc : TypeId × Value → H) :
    ReturnsInHanded {} Try.checked os 6 .any (Rows.membershipPlaysSpec.pre6 enc Try.prog Try.f6 Rows.membershipPlaysRow.domain false) (Rows.membershipPlaysSpec.post enc Try.prog Try.f6 false true false false) := by
  refine returnsInHanded_of_change (C := Try.checked) own started (by kernel_rfl) Try.func6
    (ChangeSpec.witness6 (enc := enc) (C := Try.checked) false ⟨#[], #[.agg #[.slice none 0 0, .slice none 0 0, .int .i64 0, .slice none 0 0]], []⟩ 8 (by kernel_rfl) (by kernel_rfl) (by kernel_rfl) (by kernel_rfl)) ?_
  intro W base args ds gs before hval0 hW hcnd _
  have hval : ∀ (j : Nat) t v, Try.f6.params[j]? = some t → args[j]? = some v → Value.okWide Try.prog W .any base t v := hval0
  have hW' := hW
  obtain ⟨p, q, hA0, hV, rfl, hfz, hnd⟩ := hW
  have hA : DataW.TrodAll enc Try.prog W 0 (fun _ => true) true Try.f6.params.toList args.toList ds p := hA0
  rw [Try.params6] at hA hval
  obtain ⟨v0, vs0, d0, ds0, p0, q0, hargs, rfl, rfl, h0, r0⟩ := trodAll_cons hA
  obtain ⟨rfl, rfl, rfl⟩ := trodAll_nil r0
  obtain rfl : args = #[v0] := by cases args; simp_all
  obtain ⟨rfl, rfl⟩ := trodVars_none hV
  have k0 := h0
  have lt0 : ∀ x ∈ p0, x.block < W.heap.size := by obtain ⟨m, hm⟩ := k0; exact DataW.trod_lt m _ _ _ hm
  obtain ⟨A, n, c, A', n', c', qq, A'', n'', c'', ms, ps, xs, rfl, hin⟩ := in_set (hval 0 26 v0 rfl rfl) h0
  clear hA0 hval0
  refine (lawPlays_any A n c A' n' c' qq A'' n'' c'' ms ps xs W hin).mono fun e W' ⟨he, bel⟩ => ?_
  subst he
  exact ⟨_, rfl, _, _, _, [], _, [], hW', trodAll_mk1 (shut_bool Try.underlying4 _), (trodAll_cons_mk (Below.trod laidOut (by kernel_rfl) (of_decide_eq_true (by kernel_rfl)) k0 bel lt0) trodAll_mk0), rfl, bel.frame _, fun h => by cases h⟩

theorem over : Rows.membershipPlaysRow.holds Try.pinned (OpenSpec.ofChange Rows.membershipPlaysSpec) :=
  OpenClaim.holds_of_wide 6 Try.f6 rfl rfl rfl rfl rfl rfl rfl ⟨rfl, rfl, rfl, rfl, rfl⟩ rfl rfl rfl rfl rfl (by kernel_rfl) Try.func6 (by kernel_rfl)
    (of_decide_eq_true (by kernel_rfl)) (by unfold Func.isWrapper; first | (rw [if_pos (by decide +kernel)]; kernel_rfl) | (rw [if_neg (by decide +kernel)]; exact ⟨rfl, rfl⟩))
    (fun os started H enc _ => lifted os started H enc)

/-- The statement. -/
theorem proved : Rows.MembershipPlaysSaid := over
#print axioms proved
end Go.Proofs.Ytafhpomoobdmdaa.membershipPlays
