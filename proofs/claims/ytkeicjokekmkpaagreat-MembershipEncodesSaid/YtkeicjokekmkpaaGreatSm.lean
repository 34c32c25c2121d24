/- same: a circle is that of the reference. -/

import Derived.Test.YtkeicjokekmkpaaGreatRp
namespace Go.Proofs.YtkeicjokekmkpaaGreat
open Go.RowKit Mb
set_option linter.unusedVariables false
set_option linter.unusedSimpArgs false

theorem neqSelfM (m : Mem) (w : World) : (binOp .neq 40 (aM m) (aM m)).run Tryz.prog w = .ok (.bool false) w := by
  rw [run_neq_struct, eqSelfM]; rfl
set_option maxRecDepth 20000 in
set_option maxHeartbeats 8000000 in
theorem same_any (g : Nat) (lab : Nat → Nat) (S : Cst) (r : RV) (w : World) (hC : Cir w lab g S) (hI : Inv S.s) (hR : RefC w w.heap.size r S.s) :
    Calls Tryz.prog 12 #[fG g, r.val] w (BoolB true w) := by
  obtain ⟨W, hW⟩ : ∃ W : World, W = w.alloc r.obj := ⟨_, rfl⟩
  have hB : Below w.heap.size w W := by rw [hW]; exact (Below.refl _ _).alloc (Nat.le_refl _) _
  have hG : W.heap[w.heap.size]? = some r.obj := by rw [hW]; exact heap_alloc_new w _
  have h12 := hI.n12
  have hv12 := hI.v12
  have hnl := hR.ms.1
  have HCW : Hid (∀ V, Below W.heap.size W V → Cir V lab g S) := fun V h => (hC.on hB).on h
  have HRW : Hid (∀ V, Below W.heap.size W V → RefC V V.heap.size r S.s) := fun V h => (hR.on hB).on h
  have HF : Hid (∀ V, Below W.heap.size W V → V.heap[w.heap.size]? = some r.obj) := fun V h => (h.block _ (lt_of_block hG)).trans hG
  have HI := Lib.hid hI
  have HB := Lib.hid hB
  have HW := Lib.hid hW
  have HNL : Hid (S.s.ms.length = r.a4.n) := hnl
  have HVL : Hid (S.s.vs.length = r.a5.n) := by
    obtain ⟨ps, hv, hp⟩ := hR.vs
    show _ = _
    rw [← hp, List.length_map, hv.1.1]
  clear hC hI hR hB hG hW hnl
  go_enter Tryz.func12, Tryz.ntmps12
  go_wp2_with fail
  rw [← HW.out]
  refine (members_cir g lab S W (HCW.out W (Below.refl _ _)) (Nat.le_trans h12 (by decide))).mono ?_
  rintro e w1 ⟨v5, rfl, ho, hb⟩
  have HB1 : Hid (Below W.heap.size W w1) := hb
  obtain ⟨A5, c5, hv5, _, hs5, _⟩ := ho.shape fM_len
  subst hv5
  have HS5 : Hid (SlN fM 5 w1 w1.heap.size A5 S.s.ms.length S.s.ms) := hs5
  clear ho hb hs5
  go_wp2_with fail
  refine (vaults_cir g lab S w1 (HCW.out w1 HB1.out) HI.out).mono ?_
  rintro e w2 ⟨v6, ps6, rfl, hr, hp6, hb⟩
  have HB2 : Hid (Below W.heap.size W w2) := HB1.out.trans (hb.mono HB1.out.size)
  obtain ⟨A6, c6, hv6, _, hvi⟩ := hr.vin
  subst hv6
  have HS5 := Lib.hid ((HS5.out.up hb (Nat.le_refl _)).more hb.size)
  have hl6 : ps6.length = S.s.vs.length := by rw [← hp6, List.length_map]
  have HVI : Hid (VIn w2 w2.heap.size A6 ps6.length ps6) := hvi
  have HP6 : Hid (ps6.map Prod.fst = S.s.vs) := hp6
  rw [hl6] at HVI ⊢
  clear hr hp6 hb hvi hl6
  have HACT : Hid (∀ V, Below W.heap.size W V → Calls Tryz.prog 18 #[fG g] V (OwnI (activeL S.s) V)) := fun V h => active_cir g lab S V (HCW.out V h) (Nat.le_trans h12 (by decide))
  have HRAC : Hid (∀ V, Below W.heap.size W V → Calls Tryz.prog 47 #[r.val] V (OwnI (activeL S.s) V)) := fun V h => rActive_any r S.s V (HRW.out V h) (Nat.le_trans h12 (by decide))
  have hal : (activeL S.s).length ≤ 12 := by
    have h6 := List.length_filter_le (fun v => actB S.s v) (List.range S.s.ms.length)
    rw [List.length_range] at h6
    unfold activeL
    rw [List.length_map]
    omega
  have e1 : ((S.s.ms.length : Int) != (r.a4.n : Int)) = false := by rw [HNL.out]; simp
  have e2 : ((S.s.vs.length : Int) != (r.a5.n : Int)) = false := by rw [HVL.out]; simp
  obtain ⟨z0, z1, z2, z3, z4, z5, z6⟩ := seven_of (HF.out w2 HB2.out)
  go_wp2_with fail
  go_region_held3 (fun w' => w'.cell? ⟨w.heap.size, 0, none⟩ = some ((.slice r.a1.a r.a1.n r.a1.c)) ∧ w'.cell? ⟨w.heap.size, 1, none⟩ = some ((.slice r.a2.a r.a2.n r.a2.c)) ∧ w'.cell? ⟨w.heap.size, 2, none⟩ = some ((.int .i64 r.q)) ∧ w'.cell? ⟨w.heap.size, 3, none⟩ = some ((.slice r.a3.a r.a3.n r.a3.c)) ∧ w'.cell? ⟨w.heap.size, 4, none⟩ = some ((.slice r.a4.a r.a4.n r.a4.c)) ∧ w'.cell? ⟨w.heap.size, 5, none⟩ = some ((.slice r.a5.a r.a5.n r.a5.c)) ∧ w'.cell? ⟨w.heap.size, 6, none⟩ = some ((.slice r.a6.a r.a6.n r.a6.c))) (first | exact seven_of (HF.out w5 HB5.out) | exact seven_of (HF.out w4 HB4.out) | exact seven_of (HF.out w3 HB3.out) | exact seven_of (HF.out w2 HB2.out)) (first | (go_at_call 18; refine (HACT.out _ (by first | exact HB2.out | exact HB2.out.drew | exact below_dN' HB2.out _)).mono ?_; rintro e w3 ⟨v3, rfl, ho3, hb3⟩; (have HB3 : Hid (Below W.heap.size W w3) := Below.trans (by first | exact HB2.out | exact HB2.out.drew | exact below_dN' HB2.out _) (hb3.mono (by first | exact HB2.out.size | exact HB2.out.drew.size))); (have HB23 : Hid (Below w2.heap.size w2 w3) := Below.trans (by first | exact Below.refl _ _ | exact (Below.refl _ _).drew | exact below_dN' (Below.refl _ _) _) (hb3.mono (by first | exact Nat.le_refl _ | exact Nat.le_of_eq rfl))); (obtain ⟨A3, c3, hv3, _, hs3, _⟩ := Own.shape (f := I) ho3); subst hv3; (have HS3 : Hid (Sl I w3 w3.heap.size A3 (activeL S.s).length (activeL S.s)) := ⟨rfl, hs3⟩); clear ho3 hb3 hs3) | (go_at_call 47; refine (HRAC.out _ (by first | exact HB3.out | exact HB3.out.drew | exact below_dN' HB3.out _)).mono ?_; rintro e w4 ⟨v4, rfl, ho4, hb4⟩; (have HB4 : Hid (Below W.heap.size W w4) := Below.trans (by first | exact HB3.out | exact HB3.out.drew | exact below_dN' HB3.out _) (hb4.mono (by first | exact HB3.out.size | exact HB3.out.drew.size))); (have HB34 : Hid (Below w3.heap.size w3 w4) := Below.trans (by first | exact Below.refl _ _ | exact (Below.refl _ _).drew | exact below_dN' (Below.refl _ _) _) (hb4.mono (by first | exact Nat.le_refl _ | exact Nat.le_of_eq rfl))); (obtain ⟨A4, c4, hv4, _, hs4, _⟩ := Own.shape (f := I) ho4); subst hv4; (have HS4 : Hid (Sl I w4 w4.heap.size A4 (activeL S.s).length (activeL S.s)) := ⟨rfl, hs4⟩); (have HS3 := Lib.hid ((HS3.out.up hb4 (Nat.le_refl _)).more' hb4.size)); clear ho4 hb4 hs4) | (go_at_call 15; (have hsm := sameI_any A3 A4 _ _ (activeL S.s) (activeL S.s) c3 c4 w4 _ HS3.out HS4.out (by omega) (by omega)); refine hsm.mono ?_; rintro e w5 ⟨he5, r5, hw5⟩; (have he5' : e = .returned (.bool true) := by rw [he5]; simp); subst he5'; (have HB5 : Hid (Below W.heap.size W w5) := by show Below _ _ _; rw [hw5]; exact below_dN' HB4.out _); (have HB25 : Hid (Below w2.heap.size w2 w5) := by show Below _ _ _; rw [hw5]; exact below_dN' (HB23.out.trans (HB34.out.mono HB23.out.size)) _); clear he5 hsm hw5))
  clear z0 z1 z2 z3 z4 z5 z6 e1 e2
  have hrn : r.a4.n ≤ 12 := by rw [← HNL.out]; exact h12
  go_wp2_with fail
  go_loopw [7] (fun i wr => ∃ d : Int, -1 ≤ d ∧ d ≤ (r.a4.n : Int) + 1 ∧ i = .int .i64 d ∧ Hid (Below w5.heap.size w5 wr)) (fun i _ => ((r.a4.n : Int) + 2 - intOf i).toNat)
  case atStart => exact ⟨-1, by omega, by omega, rfl, Below.refl _ _⟩
  case round =>
    obtain ⟨d, hd0, hd1, rfl, HBr⟩ := hrel
    have HBw : Hid (Below W.heap.size W wr) := HB5.out.trans (HBr.out.mono HB5.out.size)
    obtain ⟨z0, z1, z2, z3, z4, z5, z6⟩ := seven_of (HF.out wr HBw.out)
    by_cases hlt : d ≤ (r.a4.n : Int)
    · cases hh : hasB S.s d
      · as_aux_lemma =>
          have HMN : Hid (Calls Tryz.prog 48 #[fG g, .int .i64 d] wr fun e w' => e = .returned (.tuple #[.agg #[.int .i64 0, .string ⟨#[]⟩, .string ⟨#[]⟩, .int .i64 0, .bool false], .int .i64 4]) ∧ Below wr.heap.size wr w') := member_no g lab S d wr (HCW.out wr HBw.out) (Nat.le_trans h12 (by decide)) hh
          have HHH := Lib.hid hh
          have heq : ∀ w, (Op.equalIn 10000 40 (.agg #[.int .i64 0, .string ⟨#[]⟩, .string ⟨#[]⟩, .int .i64 0, .bool false]) (.agg #[.int .i64 0, .string ⟨#[]⟩, .string ⟨#[]⟩, .int .i64 0, .bool false])).run Tryz.prog w = .ok true w := fun w => eqSelfM zM w
          clear hh
          go_wp2_with fail
          refine HMN.out.mono ?_
          rintro e w6 ⟨rfl, hb⟩
          obtain ⟨X, hX⟩ : ∃ X : World, X = w6.alloc (.cells #[.int .i64 0, .string ⟨#[]⟩, .string ⟨#[]⟩, .int .i64 0, .bool false] 40) := ⟨_, rfl⟩
          have hBX : Below wr.heap.size wr X := by rw [hX]; exact hb.alloc hb.size _
          have HXG : Hid (X.heap[w6.heap.size]? = some (cM zM)) := by show _ = _; rw [hX]; exact heap_alloc_new w6 _
          have HBX : Hid (Below W.heap.size W X) := HBw.out.trans (hBX.mono HBw.out.size)
          have HBX5 : Hid (Below w5.heap.size w5 X) := HBr.out.trans (hBX.mono HBr.out.size)
          have HX := Lib.hid hX
          clear hb hX hBX z0 z1 z2 z3 z4 z5 z6
          go_wp2_with (refine wpList_store_new (o := ⟨none, .store 40 (.tmp 8) (.tmp 56), _, _, _, _⟩) rfl 40 (.tmp 8) (.tmp 56) rfl 40 _ #[.int .i64 0, .string ⟨#[]⟩, .string ⟨#[]⟩, .int .i64 0, .bool false] rfl rfl Tryz.sizeM rfl (cMa_one zM) ?_)
          refine (show Calls Tryz.prog 49 _ _ (OwnI2 [] 4 X) from HX.out ▸ votes_no g lab S d X (HCW.out X HBX.out) (Nat.le_trans h12 (by decide)) HHH.out).mono ?_
          rintro e w7 ⟨v10, rfl, ho, hb⟩
          obtain ⟨A10, c10, hv10, _, _, _⟩ := Own.shape (f := I) ho
          rw [List.length_nil] at hv10
          subst hv10
          have HB7 : Hid (Below W.heap.size W w7) := HBX.out.trans (hb.mono HBX.out.size)
          have HB75 : Hid (Below w5.heap.size w5 w7) := HBX5.out.trans (hb.mono HBX5.out.size)
          have HG7 : Hid (w7.heap[w6.heap.size]? = some (cM zM)) := (hb.block _ (lt_of_block HXG.out)).trans HXG.out
          obtain ⟨z0, z1, z2, z3, z4, z5, z6⟩ := seven_of (HF.out w7 HB7.out)
          clear ho hb
          go_wp2_with fail
          have hIs := ris_any r S.s d w7 (HRW.out w7 HB7.out)
          rw [HHH.out] at hIs
          refine hIs.mono ?_
          rintro e w8 ⟨rfl, hb⟩
          have HB8 : Hid (Below W.heap.size W w8) := HB7.out.trans (hb.mono HB7.out.size)
          have HB85 : Hid (Below w5.heap.size w5 w8) := HB75.out.trans (hb.mono HB75.out.size)
          obtain ⟨x0, x1, x2, x3, x4⟩ := mfive_of ((hb.block _ (lt_of_block HG7.out)).trans HG7.out)
          simp only [zM] at x0 x1 x2 x3 x4
          clear hb hIs z0 z1 z2 z3 z4 z5 z6
          go_wp2_with fail
          go_roundw
          case rel => exact ⟨d + 1, by omega, by omega, by go_num, HB85⟩
          case measure => simp [intOf]; omega
      · as_aux_lemma =>
          have hd := hasB_iff.1 hh
          obtain ⟨k, rfl⟩ : ∃ k : Nat, d = k := ⟨d.toNat, by omega⟩
          have hk : k < S.s.ms.length := by omega
          obtain ⟨m, hm⟩ := get_ex hk
          have HMN : Hid (Calls Tryz.prog 48 #[fG g, .int .i64 (k : Int)] wr fun e w' => e = .returned (.tuple #[aM m, .int .i64 0]) ∧ Below wr.heap.size wr w') := member_yes g lab S k m wr (HCW.out wr HBw.out) (Nat.le_trans h12 (by decide)) hh (by rw [show ((k : Int)).toNat = k by omega]; exact hm)
          have HHH := Lib.hid hh
          have HMM := Lib.hid hm
          have heq : ∀ w, (Op.equalIn 10000 40 (aM m) (aM m)).run Tryz.prog w = .ok true w := fun w => eqSelfM m w
          clear hh hm hd
          go_wp2_with fail
          refine HMN.out.mono ?_
          rintro e w6 ⟨rfl, hb⟩
          obtain ⟨X, hX⟩ : ∃ X : World, X = w6.alloc (cM m) := ⟨_, rfl⟩
          have hBX : Below wr.heap.size wr X := by rw [hX]; exact hb.alloc hb.size _
          have HXG : Hid (X.heap[w6.heap.size]? = some (cM m)) := by show _ = _; rw [hX]; exact heap_alloc_new w6 _
          have HBX : Hid (Below W.heap.size W X) := HBw.out.trans (hBX.mono HBw.out.size)
          have HBX5 : Hid (Below w5.heap.size w5 X) := HBr.out.trans (hBX.mono HBr.out.size)
          have HX := Lib.hid hX
          clear hb hX hBX z0 z1 z2 z3 z4 z5 z6
          go_wp2_with (refine wpList_store_new (o := ⟨none, .store 40 (.tmp 8) (.tmp 56), _, _, _, _⟩) rfl 40 (.tmp 8) (.tmp 56) rfl 40 _ (cMa m) rfl rfl Tryz.sizeM rfl (cMa_one m) ?_)
          refine (show Calls Tryz.prog 49 _ _ (OwnI2 (counting S.s k) 0 X) from HX.out ▸ votes_yes g lab S k X (HCW.out X HBX.out) (Nat.le_trans h12 (by decide)) HHH.out).mono ?_
          rintro e w7 ⟨v10, rfl, ho, hb⟩
          obtain ⟨A10, c10, hv10, _, hs10, _⟩ := Own.shape (f := I) ho
          subst hv10
          have HS10 : Hid (SL I w7 w7.heap.size A10 (counting S.s k)) := hs10
          have HB7 : Hid (Below W.heap.size W w7) := HBX.out.trans (hb.mono HBX.out.size)
          have HB75 : Hid (Below w5.heap.size w5 w7) := HBX5.out.trans (hb.mono HBX5.out.size)
          have HG7 : Hid (w7.heap[w6.heap.size]? = some (cM m)) := (hb.block _ (lt_of_block HXG.out)).trans HXG.out
          obtain ⟨z0, z1, z2, z3, z4, z5, z6⟩ := seven_of (HF.out w7 HB7.out)
          clear ho hb hs10
          go_wp2_with fail
          have hIs := ris_any r S.s k w7 (HRW.out w7 HB7.out)
          rw [HHH.out] at hIs
          refine hIs.mono ?_
          rintro e w8 ⟨rfl, hb⟩
          have HB8 : Hid (Below W.heap.size W w8) := HB7.out.trans (hb.mono HB7.out.size)
          have HB85 : Hid (Below w5.heap.size w5 w8) := HB75.out.trans (hb.mono HB75.out.size)
          have HS10 : Hid (SL I w8 w8.heap.size A10 (counting S.s k)) := (HS10.out.up hb (Nat.le_refl _)).more hb.size
          have HG8 : Hid (w8.heap[w6.heap.size]? = some (cM m)) := (hb.block _ (lt_of_block HG7.out)).trans HG7.out
          obtain ⟨b4, o4, m4, ha4, hb4, hm4, hc4⟩ := (HRW.out w8 HB8.out).ms.at_ (k := k) (by rw [← HNL.out]; exact hk)
          obtain rfl : m4 = m := Option.some.inj (hm4.symm.trans HMM.out)
          obtain ⟨b5, o5, m5, ha5, hb5, hm5, hc5⟩ := ((HS5.out.up (show Below w2.heap.size w2 w8 from HB25.out.trans (HB85.out.mono HB25.out.size)) (Nat.le_refl _))).at_ hk
          obtain rfl : m5 = m4 := Option.some.inj (hm5.symm.trans HMM.out)
          obtain ⟨p0, p1, p2, p3, p4⟩ := five hc4
          obtain ⟨q0, q1, q2, q3, q4⟩ := five hc5
          have HP := Lib.hid (And.intro p0 (And.intro p1 (And.intro p2 (And.intro p3 p4))))
          have HQ := Lib.hid (And.intro q0 (And.intro q1 (And.intro q2 (And.intro q3 q4))))
          have HB5L : Hid (b5 < w8.heap.size) := block_lt_of_cell q0
          have hcl := counting_le12 HI.out (k : Int)
          have HCT : Hid (∀ V, Below W.heap.size W V → Calls Tryz.prog 25 #[r.val, .int .i64 (k : Int)] V (OwnI (counting S.s k) V)) := fun V h => rCount_any r S.s k V (HRW.out V h) (Nat.le_trans h12 (by decide)) (Nat.le_trans (votes_bound HI.out) (by decide)) HI.out.nd
          have HB4L : Hid (b4 < w8.heap.size) := hb4
          have hkn : k < r.a4.n := by rw [← HNL.out]; exact hk
          clear hb hIs z0 z1 z2 z3 z4 z5 z6 hb4 hm4 hc4 hb5 hm5 hc5 p0 p1 p2 p3 p4 q0 q1 q2 q3 q4
          obtain ⟨r1, r2, rq, r3, ⟨r4a, r4n, r4c⟩, r5, r6⟩ := r
          dsimp only at *
          subst ha4
          subst ha5
          have hk0 : (0 : Int) ≤ (k : Int) := by omega
          have hk1 : (k : Int) < (S.s.ms.length : Int) := by omega
          have hk2 : (k : Int) < (r4n : Int) := by omega
          go_wp2_with fail
          go_region_held3 (fun w' => (w'.cell? ⟨w.heap.size, 0, none⟩ = some ((.slice r1.a r1.n r1.c)) ∧ w'.cell? ⟨w.heap.size, 1, none⟩ = some ((.slice r2.a r2.n r2.c)) ∧ w'.cell? ⟨w.heap.size, 2, none⟩ = some ((.int .i64 rq)) ∧ w'.cell? ⟨w.heap.size, 3, none⟩ = some ((.slice r3.a r3.n r3.c)) ∧ w'.cell? ⟨w.heap.size, 4, none⟩ = some ((.slice (some ⟨b4, o4, none⟩) r4n r4c)) ∧ w'.cell? ⟨w.heap.size, 5, none⟩ = some ((.slice r5.a r5.n r5.c)) ∧ w'.cell? ⟨w.heap.size, 6, none⟩ = some ((.slice r6.a r6.n r6.c))) ∧ (w'.cell? ⟨w6.heap.size, 0, none⟩ = some (.int .i64 m5.dev) ∧ w'.cell? ⟨w6.heap.size, 1, none⟩ = some (.string m5.name) ∧ w'.cell? ⟨w6.heap.size, 2, none⟩ = some (.string m5.pub) ∧ w'.cell? ⟨w6.heap.size, 3, none⟩ = some (.int .i64 m5.quota) ∧ w'.cell? ⟨w6.heap.size, 4, none⟩ = some (.bool m5.exp)) ∧ (w'.cell? ⟨b4, o4 + k * 5, none⟩ = some (.int .i64 m5.dev) ∧ w'.cell? ⟨b4, o4 + k * 5 + 1, none⟩ = some (.string m5.name) ∧ w'.cell? ⟨b4, o4 + k * 5 + 2, none⟩ = some (.string m5.pub) ∧ w'.cell? ⟨b4, o4 + k * 5 + 3, none⟩ = some (.int .i64 m5.quota) ∧ w'.cell? ⟨b4, o4 + k * 5 + 4, none⟩ = some (.bool m5.exp)) ∧ (w'.cell? ⟨b5, o5 + k * 5, none⟩ = some (.int .i64 m5.dev) ∧ w'.cell? ⟨b5, o5 + k * 5 + 1, none⟩ = some (.string m5.name) ∧ w'.cell? ⟨b5, o5 + k * 5 + 2, none⟩ = some (.string m5.pub) ∧ w'.cell? ⟨b5, o5 + k * 5 + 3, none⟩ = some (.int .i64 m5.quota) ∧ w'.cell? ⟨b5, o5 + k * 5 + 4, none⟩ = some (.bool m5.exp))) (first | (have HBB : Below w8.heap.size w8 _ := HB98.out; exact ⟨seven_of (HF.out _ HB9.out), mfive_of ((HBB.block _ (lt_of_block HG8.out)).trans HG8.out), ⟨(HBB.cell (p := ⟨b4, o4 + k * 5, none⟩) HB4L.out).trans HP.out.1, (HBB.cell (p := ⟨b4, o4 + k * 5 + 1, none⟩) HB4L.out).trans HP.out.2.1, (HBB.cell (p := ⟨b4, o4 + k * 5 + 2, none⟩) HB4L.out).trans HP.out.2.2.1, (HBB.cell (p := ⟨b4, o4 + k * 5 + 3, none⟩) HB4L.out).trans HP.out.2.2.2.1, (HBB.cell (p := ⟨b4, o4 + k * 5 + 4, none⟩) HB4L.out).trans HP.out.2.2.2.2⟩, ⟨(HBB.cell (p := ⟨b5, o5 + k * 5, none⟩) HB5L.out).trans HQ.out.1, (HBB.cell (p := ⟨b5, o5 + k * 5 + 1, none⟩) HB5L.out).trans HQ.out.2.1, (HBB.cell (p := ⟨b5, o5 + k * 5 + 2, none⟩) HB5L.out).trans HQ.out.2.2.1, (HBB.cell (p := ⟨b5, o5 + k * 5 + 3, none⟩) HB5L.out).trans HQ.out.2.2.2.1, (HBB.cell (p := ⟨b5, o5 + k * 5 + 4, none⟩) HB5L.out).trans HQ.out.2.2.2.2⟩⟩) | (have HBB : Below w8.heap.size w8 _ := Below.refl _ _; exact ⟨seven_of (HF.out _ HB8.out), mfive_of ((HBB.block _ (lt_of_block HG8.out)).trans HG8.out), ⟨(HBB.cell (p := ⟨b4, o4 + k * 5, none⟩) HB4L.out).trans HP.out.1, (HBB.cell (p := ⟨b4, o4 + k * 5 + 1, none⟩) HB4L.out).trans HP.out.2.1, (HBB.cell (p := ⟨b4, o4 + k * 5 + 2, none⟩) HB4L.out).trans HP.out.2.2.1, (HBB.cell (p := ⟨b4, o4 + k * 5 + 3, none⟩) HB4L.out).trans HP.out.2.2.2.1, (HBB.cell (p := ⟨b4, o4 + k * 5 + 4, none⟩) HB4L.out).trans HP.out.2.2.2.2⟩, ⟨(HBB.cell (p := ⟨b5, o5 + k * 5, none⟩) HB5L.out).trans HQ.out.1, (HBB.cell (p := ⟨b5, o5 + k * 5 + 1, none⟩) HB5L.out).trans HQ.out.2.1, (HBB.cell (p := ⟨b5, o5 + k * 5 + 2, none⟩) HB5L.out).trans HQ.out.2.2.1, (HBB.cell (p := ⟨b5, o5 + k * 5 + 3, none⟩) HB5L.out).trans HQ.out.2.2.2.1, (HBB.cell (p := ⟨b5, o5 + k * 5 + 4, none⟩) HB5L.out).trans HQ.out.2.2.2.2⟩⟩)) (first | (go_at_call 25; refine (HCT.out _ (by first | exact HB8.out | exact HB8.out.drew | exact below_dN' HB8.out _)).mono ?_; rintro e w9 ⟨v9, rfl, ho9, hb9⟩; (have HB98 : Hid (Below w8.heap.size w8 w9) := Below.trans (by first | exact Below.refl _ _ | exact (Below.refl _ _).drew | exact below_dN' (Below.refl _ _) _) (hb9.mono (by first | exact Nat.le_refl _ | exact Nat.le_of_eq rfl))); (have HB9 : Hid (Below W.heap.size W w9) := HB8.out.trans (HB98.out.mono HB8.out.size)); (have HB95 : Hid (Below w5.heap.size w5 w9) := HB85.out.trans (HB98.out.mono HB85.out.size)); (obtain ⟨A9, c9, hv9, _, hs9, _⟩ := Own.shape (f := I) ho9); subst hv9; (have HS9 : Hid (Sl I w9 w9.heap.size A9 (counting S.s k).length (counting S.s k)) := ⟨rfl, hs9⟩); (have HS10 : Hid (Sl I w9 w9.heap.size A10 (counting S.s k).length (counting S.s k)) := ⟨rfl, (HS10.out.up HB98.out (Nat.le_refl _)).more HB98.out.size⟩); clear ho9 hb9 hs9) | (go_at_call 15; (have hsm := sameI_any A10 A9 _ _ (counting S.s k) (counting S.s k) c10 c9 w9 _ HS10.out HS9.out (by omega) (by omega)); refine hsm.mono ?_; rintro e w10 ⟨he, rr, hw⟩; (have he' : e = .returned (.bool true) := by rw [he]; simp); subst he'; (have HB98 : Hid (Below w8.heap.size w8 w10) := by show Below _ _ _; rw [hw]; exact below_dN' HB98.out _); (have HB9 : Hid (Below W.heap.size W w10) := HB8.out.trans (HB98.out.mono HB8.out.size)); (have HB95 : Hid (Below w5.heap.size w5 w10) := HB85.out.trans (HB98.out.mono HB85.out.size)); clear he hsm hw))
          go_wp2_with fail
          go_roundw
          case rel => exact ⟨(k : Int) + 1, by omega, by omega, by go_num, HB95⟩
          case measure => simp [intOf]; omega
    · clear z0 z1 z2 z3 z4 z5 z6
      have hrv : r.a5.n ≤ 12 := by rw [← HVL.out]; exact hv12
      have HBr0 := HBr
      obtain ⟨z0, z1, z2, z3, z4, z5, z6⟩ := seven_of (HF.out wr HBw.out)
      go_wp2_with fail
      clear z0 z1 z2 z3 z4 z5 z6
      go_loopw [12] (fun i w' => ∃ d : Int, -1 ≤ d ∧ d ≤ (r.a5.n : Int) + 1 ∧ i = .int .i64 d ∧ Hid (Below w5.heap.size w5 w')) (fun i _ => ((r.a5.n : Int) + 2 - intOf i).toNat)
      case atStart => exact ⟨-1, by omega, by omega, rfl, HBr⟩
      case round =>
        clear HBw HBr HBr0
        obtain ⟨v, hv0, hv1, rfl, HBr⟩ := hrel
        have HBw : Hid (Below W.heap.size W wr) := HB5.out.trans (HBr.out.mono HB5.out.size)
        obtain ⟨z0, z1, z2, z3, z4, z5, z6⟩ := seven_of (HF.out wr HBw.out)
        by_cases hlt2 : v ≤ (r.a5.n : Int)
        · cases hvl : vltOf S.s v with
          | none => as_aux_lemma =>
              have HVN : Hid (Calls Tryz.prog 51 #[fG g, .int .i64 v] wr fun e w' => e = .returned (.tuple #[.agg #[.int .i64 0, .slice none 0 0, .int .i64 0, .int .i64 0, .int .i64 0, .string ⟨#[]⟩, .int .i64 0, .int .i64 0, .int .i64 0, .int .i64 0, .int .u64 0, .int .i64 0, .int .i64 0, .int .i64 0, .int .i64 0], .int .i64 4]) ∧ Below wr.heap.size wr w') := vault_no g lab S v wr (HCW.out wr HBw.out) (Nat.le_trans hv12 (by decide)) hvl
              have HVV := Lib.hid hvl
              clear hvl
              go_wp2_with fail
              refine HVN.out.mono ?_
              rintro e w6 ⟨rfl, hb⟩
              obtain ⟨X, hX⟩ : ∃ X : World, X = w6.alloc (.cells #[.int .i64 0, .slice none 0 0, .int .i64 0, .int .i64 0, .int .i64 0, .string ⟨#[]⟩, .int .i64 0, .int .i64 0, .int .i64 0, .int .i64 0, .int .u64 0, .int .i64 0, .int .i64 0, .int .i64 0, .int .i64 0] 68) := ⟨_, rfl⟩
              have hBX : Below wr.heap.size wr X := by rw [hX]; exact hb.alloc hb.size _
              have HBX : Hid (Below W.heap.size W X) := HBw.out.trans (hBX.mono HBw.out.size)
              have HBX5 : Hid (Below w5.heap.size w5 X) := HBr.out.trans (hBX.mono HBr.out.size)
              have HX := Lib.hid hX
              clear hb hX hBX z0 z1 z2 z3 z4 z5 z6
              go_wp2_with (refine wpList_store_new (o := ⟨none, .store 68 (.tmp 13) (.tmp 126), _, _, _, _⟩) rfl 68 (.tmp 13) (.tmp 126) rfl 68 _ #[.int .i64 0, .slice none 0 0, .int .i64 0, .int .i64 0, .int .i64 0, .string ⟨#[]⟩, .int .i64 0, .int .i64 0, .int .i64 0, .int .i64 0, .int .u64 0, .int .i64 0, .int .i64 0, .int .i64 0, .int .i64 0] rfl rfl Tryz.sizeV rfl (cV_one zV none 0 0) ?_)
              refine (show Calls Tryz.prog 52 _ _ (OwnI2 [] 4 X) from HX.out ▸ wri_no g lab S v X (HCW.out X HBX.out) (Nat.le_trans hv12 (by decide)) HVV.out).mono ?_
              rintro e w7 ⟨v10, rfl, ho, hb⟩
              obtain ⟨A10, c10, hv10, _, _, _⟩ := Own.shape (f := I) ho
              rw [List.length_nil] at hv10
              subst hv10
              have HB7 : Hid (Below W.heap.size W w7) := HBX.out.trans (hb.mono HBX.out.size)
              have HB75 : Hid (Below w5.heap.size w5 w7) := HBX5.out.trans (hb.mono HBX5.out.size)
              clear ho hb
              go_wp2_with fail
              refine (hol_no g lab S v w7 (HCW.out w7 HB7.out) (Nat.le_trans hv12 (by decide)) HVV.out).mono ?_
              rintro e w8 ⟨v11, rfl, ho, hb⟩
              obtain ⟨A11, c11, hv11, _, _, _⟩ := Own.shape (f := I) ho
              rw [List.length_nil] at hv11
              subst hv11
              have HB8 : Hid (Below W.heap.size W w8) := HB7.out.trans (hb.mono HB7.out.size)
              have HB85 : Hid (Below w5.heap.size w5 w8) := HB75.out.trans (hb.mono HB75.out.size)
              obtain ⟨z0, z1, z2, z3, z4, z5, z6⟩ := seven_of (HF.out w8 HB8.out)
              clear ho hb
              go_wp2_with fail
              have hHs := rhas_any r S.s v w8 (HRW.out w8 HB8.out)
              rw [HVV.out] at hHs
              refine (show Calls Tryz.prog 53 #[r.val, .int .i64 v] w8 (BoolB false w8) from hHs).mono ?_
              rintro e w9 ⟨rfl, hb⟩
              have HB95 : Hid (Below w5.heap.size w5 w9) := HB85.out.trans (hb.mono HB85.out.size)
              clear hb hHs z0 z1 z2 z3 z4 z5 z6
              go_wp2_with fail
              go_roundw
              case rel => exact ⟨v + 1, by omega, by omega, by go_num, HB95⟩
              case measure => simp [intOf]; omega
          | some x => as_aux_lemma =>
              obtain ⟨hvg, hv0', hv1'⟩ := vltOf_get hvl
              obtain ⟨kv, rfl⟩ : ∃ kv : Nat, v = kv := ⟨v.toNat, by omega⟩
              rw [show ((kv : Nat) : Int).toNat = kv by omega] at hvg
              have hx3 := HI.out.ws3 x (List.mem_of_getElem? hvg)
              have HVY := Lib.hid (vault_yes g lab S kv x wr (HCW.out wr HBw.out) (Nat.le_trans hv12 (by decide)) hvl (by omega))
              have HVV := Lib.hid hvl
              have HXK := Lib.hid hvg
              have hkl : kv < S.s.vs.length := by omega
              clear hvl hvg hv0' hv1'
              go_wp2_with fail
              refine HVY.out.mono ?_
              rintro e w6 ⟨A0, n0, c0, rfl, ho, hb⟩
              obtain ⟨A0', c0', e0, _, hs0, _⟩ := Own.shape (f := I) ho
              obtain ⟨rfl, rfl, rfl⟩ : A0 = A0' ∧ n0 = x.ws.length ∧ c0 = c0' := by simpa using e0
              obtain ⟨X, hX⟩ : ∃ X : World, X = w6.alloc (oV x A0 x.ws.length c0) := ⟨_, rfl⟩
              have hB6X : Below w6.heap.size w6 X := by rw [hX]; exact (Below.refl _ _).alloc (Nat.le_refl _) _
              have hBX : Below wr.heap.size wr X := hb.trans (hB6X.mono hb.size)
              have HXG : Hid (X.heap[w6.heap.size]? = some (oV x A0 x.ws.length c0)) := by show _ = _; rw [hX]; exact heap_alloc_new w6 _
              have HS0 : Hid (SL I X X.heap.size A0 x.ws) := (hs0.up hB6X (Nat.le_refl _)).more hB6X.size
              have HBX : Hid (Below W.heap.size W X) := HBw.out.trans (hBX.mono HBw.out.size)
              have HBX5 : Hid (Below w5.heap.size w5 X) := HBr.out.trans (hBX.mono HBr.out.size)
              have HX := Lib.hid hX
              clear ho hb e0 hs0 hX hBX hB6X z0 z1 z2 z3 z4 z5 z6
              go_wp2_with (refine wpList_store_new (o := ⟨none, .store 68 (.tmp 13) (.tmp 126), _, _, _, _⟩) rfl 68 (.tmp 13) (.tmp 126) rfl 68 _ (cV x A0 x.ws.length c0) rfl rfl Tryz.sizeV rfl (cV_one _ _ _ _) ?_)
              refine (show Calls Tryz.prog 52 _ _ (OwnI2 (wrL S.s x.ws) 0 X) from HX.out ▸ wri_yes g lab S kv x X (HCW.out X HBX.out) (Nat.le_trans hv12 (by decide)) (Nat.le_trans h12 (by decide)) HVV.out (by omega)).mono ?_
              rintro e w7 ⟨v10, rfl, ho, hb⟩
              obtain ⟨A10, c10, hv10, _, hs10, _⟩ := Own.shape (f := I) ho
              subst hv10
              have HS10 : Hid (SL I w7 w7.heap.size A10 (wrL S.s x.ws)) := hs10
              have HB7 : Hid (Below W.heap.size W w7) := HBX.out.trans (hb.mono HBX.out.size)
              have HBX7 : Hid (Below X.heap.size X w7) := hb
              clear ho hb hs10
              go_wp2_with fail
              refine (hol_yes g lab S kv x w7 (HCW.out w7 HB7.out) (Nat.le_trans hv12 (by decide)) (Nat.le_trans h12 (by decide)) HVV.out (by omega)).mono ?_
              rintro e w8 ⟨v11, rfl, ho, hb⟩
              obtain ⟨A11, c11, hv11, _, hs11, _⟩ := Own.shape (f := I) ho
              subst hv11
              have HB8 : Hid (Below W.heap.size W w8) := HB7.out.trans (hb.mono HB7.out.size)
              have HBX8 : Hid (Below X.heap.size X w8) := HBX7.out.trans (hb.mono HBX7.out.size)
              have HS10 : Hid (SL I w8 w8.heap.size A10 (wrL S.s x.ws)) := (HS10.out.up hb (Nat.le_refl _)).more hb.size
              have HS11 : Hid (SL I w8 w8.heap.size A11 (hoL S.s x.ws)) := hs11
              obtain ⟨z0, z1, z2, z3, z4, z5, z6⟩ := seven_of (HF.out w8 HB8.out)
              clear ho hb hs11
              go_wp2_with fail
              have hHs := rhas_any r S.s kv w8 (HRW.out w8 HB8.out)
              rw [HVV.out] at hHs
              refine (show Calls Tryz.prog 53 #[r.val, .int .i64 (kv : Int)] w8 (BoolB true w8) from hHs).mono ?_
              rintro e w9 ⟨rfl, hb⟩
              have HB9 : Hid (Below W.heap.size W w9) := HB8.out.trans (hb.mono HB8.out.size)
              have HBX9 : Hid (Below X.heap.size X w9) := HBX8.out.trans (hb.mono HBX8.out.size)
              have HB95 : Hid (Below w5.heap.size w5 w9) := HBX5.out.trans (HBX9.out.mono HBX5.out.size)
              have HS10 : Hid (SL I w9 w9.heap.size A10 (wrL S.s x.ws)) := (HS10.out.up hb (Nat.le_refl _)).more hb.size
              have HS11 : Hid (SL I w9 w9.heap.size A11 (hoL S.s x.ws)) := (HS11.out.up hb (Nat.le_refl _)).more hb.size
              have HS0 : Hid (SL I w9 w9.heap.size A0 x.ws) := (HS0.out.up HBX9.out (Nat.le_refl _)).more HBX9.out.size
              have HG9 : Hid (w9.heap[w6.heap.size]? = some (oV x A0 x.ws.length c0)) := (HBX9.out.block _ (lt_of_block HXG.out)).trans HXG.out
              obtain ⟨ps4, hvi4, hps4⟩ := (HRW.out w9 HB9.out).vs
              obtain ⟨b4, o4, p4, ha4, hb4, hp4, hc4⟩ := hvi4.1.at_ (k := kv) (by rw [← HVL.out]; exact hkl)
              have hpx4 : p4.1 = x := by
                have h5 := HXK.out
                rw [← hps4, List.getElem?_map, hp4] at h5
                exact Option.some.inj h5
              have hvi6 := (HVI.out.up (show Below w2.heap.size w2 w9 from HB25.out.trans (HB95.out.mono HB25.out.size)) (Nat.le_refl _)).more (Nat.le_trans HB25.out.size HB95.out.size)
              obtain ⟨b6, o6, p6, ha6, hb6, hp6, hc6⟩ := hvi6.1.at_ (k := kv) (by first | exact hkl | omega)
              have hpx6 : p6.1 = x := by
                have h5 := HXK.out
                rw [← HP6.out, List.getElem?_map, hp6] at h5
                exact Option.some.inj h5
              have hsw4 := hvi4.2 p4 (List.mem_of_getElem? hp4)
              have hsw6 := hvi6.2 p6 (List.mem_of_getElem? hp6)
              obtain ⟨p41, p4a, p4n, p4c⟩ := p4
              obtain ⟨p61, p6a, p6n, p6c⟩ := p6
              simp only at hpx4 hpx6 hsw4 hsw6
              subst hpx4
              have hpx6' : p61 = p41 := hpx6
              subst hpx6'
              have HC4 := Lib.hid (fun (V : World) (h : Below w9.heap.size w9 V) => fifteen (w := V) (b := b4) (off := o4) (k := kv) (x := (p61, ⟨p4a, p4n, p4c⟩)) (fun j v hv => (h.cell (p := ⟨b4, o4 + (kv * 15 + j), none⟩) hb4).trans (hc4 j v hv)))
              have HC6 := Lib.hid (fun (V : World) (h : Below w9.heap.size w9 V) => fifteen (w := V) (b := b6) (off := o6) (k := kv) (x := (p61, ⟨p6a, p6n, p6c⟩)) (fun j v hv => (h.cell (p := ⟨b6, o6 + (kv * 15 + j), none⟩) hb6).trans (hc6 j v hv)))
              have HC0 := Lib.hid (fun (V : World) (h : Below w9.heap.size w9 V) => vfifteen_of ((h.block _ (lt_of_block HG9.out)).trans HG9.out))
              have HC7 := Lib.hid (fun (V : World) (h : Below w9.heap.size w9 V) => seven_of (HF.out V (HB9.out.trans (h.mono HB9.out.size))))
              have HSV1 : Hid (∀ V, Below w9.heap.size w9 V → Calls Tryz.prog 54 #[aV p61 A0 p61.ws.length c0, aV p61 p4a p4n p4c] V (BoolB true V)) := fun V h => sameV_any p61 A0 p4a _ c0 p4n p4c V ⟨rfl, (HS0.out.up h (Nat.le_refl _)).more h.size⟩ ((hsw4.up h (Nat.le_refl _)).more' h.size) (by omega)
              have HSV2 : Hid (∀ V, Below w9.heap.size w9 V → Calls Tryz.prog 54 #[aV p61 p6a p6n p6c, aV p61 A0 p61.ws.length c0] V (BoolB true V)) := fun V h => sameV_any p61 p6a A0 p6n p6c _ c0 V ((hsw6.up h (Nat.le_refl _)).more' h.size) ⟨rfl, (HS0.out.up h (Nat.le_refl _)).more h.size⟩ (by omega)
              have HRT : Hid (∀ V, Below w9.heap.size w9 V → Calls Tryz.prog 55 #[r.val, .int .i64 (kv : Int), .bool true] V (OwnI (wrL S.s p61.ws) V)) := fun V h => by
                have h5 := rRole_any r S.s kv p61 true HVV.out (by omega) V (HRW.out V (HB9.out.trans (h.mono HB9.out.size))) (Nat.le_trans h12 (by decide))
                rwa [roleL_true] at h5
              have HRF : Hid (∀ V, Below w9.heap.size w9 V → Calls Tryz.prog 55 #[r.val, .int .i64 (kv : Int), .bool false] V (OwnI (hoL S.s p61.ws) V)) := fun V h => by
                have h5 := rRole_any r S.s kv p61 false HVV.out (by omega) V (HRW.out V (HB9.out.trans (h.mono HB9.out.size))) (Nat.le_trans h12 (by decide))
                rwa [roleL_false] at h5
              have hlw : (wrL S.s p61.ws).length + (hoL S.s p61.ws).length = (activeL S.s).length := roles_len _ _
              have hkn5 : kv < r.a5.n := by rw [← HVL.out]; exact hkl
              clear hb hHs z0 z1 z2 z3 z4 z5 z6 hps4 hvi4 hb4 hp4 hc4 hvi6 hb6 hp6 hc6 hsw4 hsw6
              obtain ⟨r1, r2, rq, r3, r4, ⟨r5a, r5n, r5c⟩, r6⟩ := r
              dsimp only at *
              subst ha4
              subst ha6
              have hk0 : (0 : Int) ≤ (kv : Int) := by omega
              have hk1 : (kv : Int) < (S.s.vs.length : Int) := by omega
              have hk2 : (kv : Int) < (r5n : Int) := by omega
              go_wp2_with fail
              go_region_held3 (fun w' => (w'.cell? ⟨w.heap.size, 0, none⟩ = some ((.slice r1.a r1.n r1.c)) ∧ w'.cell? ⟨w.heap.size, 1, none⟩ = some ((.slice r2.a r2.n r2.c)) ∧ w'.cell? ⟨w.heap.size, 2, none⟩ = some ((.int .i64 rq)) ∧ w'.cell? ⟨w.heap.size, 3, none⟩ = some ((.slice r3.a r3.n r3.c)) ∧ w'.cell? ⟨w.heap.size, 4, none⟩ = some ((.slice r4.a r4.n r4.c)) ∧ w'.cell? ⟨w.heap.size, 5, none⟩ = some ((.slice (some ⟨b4, o4, none⟩) r5n r5c)) ∧ w'.cell? ⟨w.heap.size, 6, none⟩ = some ((.slice r6.a r6.n r6.c))) ∧ (w'.cell? ⟨w6.heap.size, 0, none⟩ = some (.int .i64 p61.num) ∧ w'.cell? ⟨w6.heap.size, 1, none⟩ = some (.slice A0 p61.ws.length c0) ∧ w'.cell? ⟨w6.heap.size, 2, none⟩ = some (.int .i64 p61.data) ∧ w'.cell? ⟨w6.heap.size, 3, none⟩ = some (.int .i64 p61.total) ∧ w'.cell? ⟨w6.heap.size, 4, none⟩ = some (.int .i64 p61.thr) ∧ w'.cell? ⟨w6.heap.size, 5, none⟩ = some (.string p61.print) ∧ w'.cell? ⟨w6.heap.size, 6, none⟩ = some (.int .i64 p61.cmin) ∧ w'.cell? ⟨w6.heap.size, 7, none⟩ = some (.int .i64 p61.cmax) ∧ w'.cell? ⟨w6.heap.size, 8, none⟩ = some (.int .i64 p61.cwin) ∧ w'.cell? ⟨w6.heap.size, 9, none⟩ = some (.int .i64 p61.cbits) ∧ w'.cell? ⟨w6.heap.size, 10, none⟩ = some (.int .u64 p61.cseed) ∧ w'.cell? ⟨w6.heap.size, 11, none⟩ = some (.int .i64 p61.ra) ∧ w'.cell? ⟨w6.heap.size, 12, none⟩ = some (.int .i64 p61.rb) ∧ w'.cell? ⟨w6.heap.size, 13, none⟩ = some (.int .i64 p61.rc) ∧ w'.cell? ⟨w6.heap.size, 14, none⟩ = some (.int .i64 p61.rd)) ∧ (w'.cell? ⟨b4, o4 + kv * 15, none⟩ = some (.int .i64 p61.num) ∧ w'.cell? ⟨b4, o4 + kv * 15 + 1, none⟩ = some (.slice p4a p4n p4c) ∧ w'.cell? ⟨b4, o4 + kv * 15 + 2, none⟩ = some (.int .i64 p61.data) ∧ w'.cell? ⟨b4, o4 + kv * 15 + 3, none⟩ = some (.int .i64 p61.total) ∧ w'.cell? ⟨b4, o4 + kv * 15 + 4, none⟩ = some (.int .i64 p61.thr) ∧ w'.cell? ⟨b4, o4 + kv * 15 + 5, none⟩ = some (.string p61.print) ∧ w'.cell? ⟨b4, o4 + kv * 15 + 6, none⟩ = some (.int .i64 p61.cmin) ∧ w'.cell? ⟨b4, o4 + kv * 15 + 7, none⟩ = some (.int .i64 p61.cmax) ∧ w'.cell? ⟨b4, o4 + kv * 15 + 8, none⟩ = some (.int .i64 p61.cwin) ∧ w'.cell? ⟨b4, o4 + kv * 15 + 9, none⟩ = some (.int .i64 p61.cbits) ∧ w'.cell? ⟨b4, o4 + kv * 15 + 10, none⟩ = some (.int .u64 p61.cseed) ∧ w'.cell? ⟨b4, o4 + kv * 15 + 11, none⟩ = some (.int .i64 p61.ra) ∧ w'.cell? ⟨b4, o4 + kv * 15 + 12, none⟩ = some (.int .i64 p61.rb) ∧ w'.cell? ⟨b4, o4 + kv * 15 + 13, none⟩ = some (.int .i64 p61.rc) ∧ w'.cell? ⟨b4, o4 + kv * 15 + 14, none⟩ = some (.int .i64 p61.rd)) ∧ (w'.cell? ⟨b6, o6 + kv * 15, none⟩ = some (.int .i64 p61.num) ∧ w'.cell? ⟨b6, o6 + kv * 15 + 1, none⟩ = some (.slice p6a p6n p6c) ∧ w'.cell? ⟨b6, o6 + kv * 15 + 2, none⟩ = some (.int .i64 p61.data) ∧ w'.cell? ⟨b6, o6 + kv * 15 + 3, none⟩ = some (.int .i64 p61.total) ∧ w'.cell? ⟨b6, o6 + kv * 15 + 4, none⟩ = some (.int .i64 p61.thr) ∧ w'.cell? ⟨b6, o6 + kv * 15 + 5, none⟩ = some (.string p61.print) ∧ w'.cell? ⟨b6, o6 + kv * 15 + 6, none⟩ = some (.int .i64 p61.cmin) ∧ w'.cell? ⟨b6, o6 + kv * 15 + 7, none⟩ = some (.int .i64 p61.cmax) ∧ w'.cell? ⟨b6, o6 + kv * 15 + 8, none⟩ = some (.int .i64 p61.cwin) ∧ w'.cell? ⟨b6, o6 + kv * 15 + 9, none⟩ = some (.int .i64 p61.cbits) ∧ w'.cell? ⟨b6, o6 + kv * 15 + 10, none⟩ = some (.int .u64 p61.cseed) ∧ w'.cell? ⟨b6, o6 + kv * 15 + 11, none⟩ = some (.int .i64 p61.ra) ∧ w'.cell? ⟨b6, o6 + kv * 15 + 12, none⟩ = some (.int .i64 p61.rb) ∧ w'.cell? ⟨b6, o6 + kv * 15 + 13, none⟩ = some (.int .i64 p61.rc) ∧ w'.cell? ⟨b6, o6 + kv * 15 + 14, none⟩ = some (.int .i64 p61.rd))) (first | exact ⟨HC7.out wf HBf.out, HC0.out wf HBf.out, HC4.out wf HBf.out, HC6.out wf HBf.out⟩ | exact ⟨HC7.out we HBe.out, HC0.out we HBe.out, HC4.out we HBe.out, HC6.out we HBe.out⟩ | exact ⟨HC7.out wd HBd.out, HC0.out wd HBd.out, HC4.out wd HBd.out, HC6.out wd HBd.out⟩ | exact ⟨HC7.out wc HBc.out, HC0.out wc HBc.out, HC4.out wc HBc.out, HC6.out wc HBc.out⟩ | exact ⟨HC7.out wb HBb.out, HC0.out wb HBb.out, HC4.out wb HBb.out, HC6.out wb HBb.out⟩ | exact ⟨HC7.out wa HBa.out, HC0.out wa HBa.out, HC4.out wa HBa.out, HC6.out wa HBa.out⟩ | exact ⟨HC7.out w9 (Below.refl _ _), HC0.out w9 (Below.refl _ _), HC4.out w9 (Below.refl _ _), HC6.out w9 (Below.refl _ _)⟩) (first | ((have hq9 := HBe.out); clear hq9; go_at_call 15; (have hsm := sameI_any A11 Ae _ _ (hoL S.s p61.ws) (hoL S.s p61.ws) c11 ce we _ ⟨rfl, (HS11.out.up HBe.out (Nat.le_refl _)).more HBe.out.size⟩ HSe.out (by omega) (by omega)); refine hsm.mono ?_; rintro e wf ⟨he, rr, hw⟩; (have he' : e = .returned (.bool true) := by rw [he]; simp); subst he'; (have HBf : Hid (Below w9.heap.size w9 wf) := by show Below _ _ _; rw [hw]; exact below_dN' HBe.out _); clear he hsm hw) | ((have hq9 := HBd.out); clear hq9; go_at_call 55; refine (HRF.out _ (by first | exact HBd.out | exact HBd.out.drew | exact below_dN' HBd.out _)).mono ?_; rintro e we ⟨ve, rfl, hoe, hbe⟩; (have HBe : Hid (Below w9.heap.size w9 we) := Below.trans (by first | exact HBd.out | exact HBd.out.drew | exact below_dN' HBd.out _) (hbe.mono (by first | exact HBd.out.size | exact HBd.out.drew.size))); (obtain ⟨Ae, ce, hve, _, hse, _⟩ := Own.shape (f := I) hoe); subst hve; (have HSe : Hid (Sl I we we.heap.size Ae (hoL S.s p61.ws).length (hoL S.s p61.ws)) := ⟨rfl, hse⟩); clear hoe hbe hse) | ((have hq9 := HBc.out); clear hq9; go_at_call 15; (have hsm := sameI_any A10 Ac _ _ (wrL S.s p61.ws) (wrL S.s p61.ws) c10 cc wc _ ⟨rfl, (HS10.out.up HBc.out (Nat.le_refl _)).more HBc.out.size⟩ HSc.out (by omega) (by omega)); refine hsm.mono ?_; rintro e wd ⟨he, rr, hw⟩; (have he' : e = .returned (.bool true) := by rw [he]; simp); subst he'; (have HBd : Hid (Below w9.heap.size w9 wd) := by show Below _ _ _; rw [hw]; exact below_dN' HBc.out _); clear he hsm hw) | ((have hq9 := HBb.out); clear hq9; go_at_call 55; refine (HRT.out _ (by first | exact HBb.out | exact HBb.out.drew | exact below_dN' HBb.out _)).mono ?_; rintro e wc ⟨vc, rfl, hoc, hbc⟩; (have HBc : Hid (Below w9.heap.size w9 wc) := Below.trans (by first | exact HBb.out | exact HBb.out.drew | exact below_dN' HBb.out _) (hbc.mono (by first | exact HBb.out.size | exact HBb.out.drew.size))); (obtain ⟨Ac, cc, hvc, _, hsc, _⟩ := Own.shape (f := I) hoc); subst hvc; (have HSc : Hid (Sl I wc wc.heap.size Ac (wrL S.s p61.ws).length (wrL S.s p61.ws)) := ⟨rfl, hsc⟩); clear hoc hbc hsc) | ((have hq9 := HBa.out); clear hq9; go_at_call 54; refine (HSV2.out _ (by first | exact HBa.out | exact HBa.out.drew | exact below_dN' HBa.out _)).mono ?_; rintro e wb ⟨rfl, hbb⟩; (have HBb : Hid (Below w9.heap.size w9 wb) := Below.trans (by first | exact HBa.out | exact HBa.out.drew | exact below_dN' HBa.out _) (hbb.mono (by first | exact HBa.out.size | exact HBa.out.drew.size))); clear hbb) | (go_at_call 54; refine (HSV1.out _ (by first | exact Below.refl _ _ | exact (Below.refl _ _).drew | exact below_dN' (Below.refl _ _) _)).mono ?_; rintro e wa ⟨rfl, hba⟩; (have HBa : Hid (Below w9.heap.size w9 wa) := Below.trans (by first | exact Below.refl _ _ | exact (Below.refl _ _).drew | exact below_dN' (Below.refl _ _) _) (hba.mono (by first | exact Nat.le_refl _ | exact Nat.le_of_eq rfl))); clear hba))
              go_wp2_with fail
              go_roundw
              case rel => exact ⟨(kv : Int) + 1, by omega, by omega, by go_num, HB95.out.trans (HBf.out.mono HB95.out.size)⟩
              case measure => simp [intOf]; omega
        · go_wp2
          go_ret
          exact ⟨rfl, HB.out.trans (HBw.out.mono HB.out.size)⟩
end Go.Proofs.YtkeicjokekmkpaaGreat
