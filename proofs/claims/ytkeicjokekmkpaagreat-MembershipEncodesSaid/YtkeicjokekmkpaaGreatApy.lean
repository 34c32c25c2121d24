/- The reference's Apply. -/
import Derived.Test.YtkeicjokekmkpaaGreatMq
namespace Go.Proofs.YtkeicjokekmkpaaGreat
open Go.RowKit Mb
set_option linter.unusedVariables false
set_option linter.unusedSimpArgs false

set_option maxRecDepth 20000 in
set_option maxHeartbeats 16000000 in
theorem rapply_any (r : RV) (S : St) (x : Chn) (w : World) (P : Nat → Prop) (hP : ∀ k, w.heap.size ≤ k → P k) (hC : RefQ P w r S) (hI : Inv S) (h3 : r.a3.n ≤ 900) (hs : x.m.name.size ≤ 9223372036854775807) (hp : x.m.pub.size ≤ 9223372036854775807) :
    Calls Tryz.prog 8 #[r.val, aCh x] w (ApP P r S x w) := by
  obtain ⟨W, hW⟩ : ∃ W : World, W = ((w.alloc r.obj).alloc (oXr x)).alloc zAO := ⟨_, rfl⟩
  have hBX : BX w W r x := by rw [hW]; exact BX.intro w r x
  have HCK := Lib.hid (rcheck_any r S x W (hC.ref.on hBX.bel) hI hs hp)
  have HC := Lib.hid hC
  have HP := Lib.hid hP
  have HI := Lib.hid hI
  have HBX := Lib.hid hBX
  have HW := Lib.hid hW
  have HS : Hid (x.m.name.size ≤ 9223372036854775807 ∧ x.m.pub.size ≤ 9223372036854775807) := ⟨hs, hp⟩
  obtain ⟨z0, z1, z2, z3, z4, z5, z6⟩ := hBX.seven
  obtain ⟨y0, y1, y2, y3, y4, y5, y6, y7, y8⟩ := hBX.nine
  rw [hW] at z0 z1 z2 z3 z4 z5 z6 y0 y1 y2 y3 y4 y5 y6 y7 y8
  obtain ⟨r1, r2, rq, r3, r4, r5, r6⟩ := r
  dsimp only at *
  clear hC hI hBX hW hs hp hP
  go_enter Tryz.func8, Tryz.ntmps8
  go_wp2_with fail
  refine (show Calls Tryz.prog 24 _ _ (IntP (playE S x) W) from HW.out ▸ HCK.out).mono ?_
  rintro e w1 ⟨rfl, hb⟩
  clear z0 z1 z2 z3 z4 z5 z6 y0 y1 y2 y3 y4 y5 y6 y7 y8
  have HBX1 := Lib.hid (HBX.out.on hb)
  clear hb
  obtain ⟨pe, hpe⟩ : ∃ z, playE S x = z := ⟨_, rfl⟩
  rw [hpe]
  have HPE := Lib.hid hpe
  clear hpe
  obtain ⟨z0, z1, z2, z3, z4, z5, z6⟩ := HBX1.out.seven
  obtain ⟨y0, y1, y2, y3, y4, y5, y6, y7, y8⟩ := HBX1.out.nine
  by_cases hz : pe = 0
  · subst hz
    go_upto_region 4 with fail
    obtain ⟨xs, hxs, hxl⟩ := HC.out.ref.ch
    obtain ⟨x0, hi0, hi1, hi2, hi3⟩ := info_parts Tryz.infoX
    have HI0 := Lib.hid hi0
    have HI1 := Lib.hid hi1
    have HI2 := Lib.hid hi2
    have HI3 := Lib.hid hi3
    have HXN : Hid (xs.length = r3.n) := hxs.1
    have HX0 : Hid (SlN fX 9 w w.heap.size r3.a r3.n xs) := hxs
    have HXS : Hid (∀ V, Below w1.heap.size w1 V → SlN fX 9 V w1.heap.size r3.a r3.n xs) := fun V h => ((hxs.up HBX1.out.bel (Nat.le_refl _)).more HBX1.out.bel.size).up h (Nat.le_refl _)
    have HEX : Hid (OwnN fX 9 42 (w1.alloc (.cells #[] 42)) w1.heap.size (.slice (some ⟨w1.heap.size, 0, none⟩) 0 0) []) := own_empty w1
    have HEY : Hid (∀ o, OwnN fX 9 42 ((w1.alloc o).alloc (.cells #[] 42)) w1.heap.size (.slice (some ⟨w1.heap.size + 1, 0, none⟩) 0 0) []) := fun o => own_empty2 w1 o
    have hn3 := hxs.1
    have HK1 : Hid ((([] : List Chn).length + xs.length) * 88 ≤ 140737488355328) := by show _ ≤ _; simp; omega
    have HK2 : Hid (([] : List Chn).length + xs.length ≤ maxLen) := by show _ ≤ _; simp [maxLen]; omega
    have HK3 : Hid ((([] ++ xs : List Chn).length + [x].length) * 88 ≤ 140737488355328) := by show _ ≤ _; simp; omega
    have HK4 : Hid (([] ++ xs : List Chn).length + [x].length ≤ maxLen) := by show _ ≤ _; simp [maxLen]; omega
    have HLX : Hid (([] ++ xs ++ [x] : List Chn).length = r3.n + 1) := by show _ = _; simp; omega
    have hl1 : w.heap.size < w1.heap.size := by have := HBX1.out.lt; omega
    have hl2 : w.heap.size + 1 < w1.heap.size := by have := HBX1.out.lt; omega
    clear hxs hxl hi0 hi1 hi2 hi3 hn3
    go_cut [] from 16 (fun wx => ∃ h3 : Hd, h3.n = r3.n + 1 ∧ AR3 w wx ⟨r1, r2, rq, h3, r4, r5, r6⟩ x (xs ++ [x]))
    case first =>
      -- PART c1
      go_region_law (first | ((refine step_appE fX_len (by omega) rfl (.tmp 16) (.tmp 18) 24 rfl 42 x0 _ 88 Tryz.underlying24 HI0.out HI1.out HI2.out HI3.out Tryz.zsX [] w1.heap.size ?_ xs ?_ fX_one HK1.out HK2.out ?_ ?_); (repeat (first | exact HEX.out | exact HEY.out _ | refine OwnN.drewN ?_ _ | refine OwnN.drew ?_ | refine OwnN.alloc ?_ _)); (refine ⟨w1.heap.size, r3.a, r3.n, r3.c, rfl, HXS.out _ ?_⟩; (repeat (first | exact Below.refl _ _ | refine below_al ?_ _ | refine Below.drew ?_ | refine below_dN' ?_ _))); (first | exact Nat.le_refl _ | (simp <;> omega)); (intro v1 w2 HO1 HG1 HL1; (have HBa : Hid (Below w1.heap.size w1 w2) := HL1.out _ _ (by (repeat (first | exact Below.refl _ _ | refine below_al ?_ _ | refine Below.drew ?_ | refine below_dN' ?_ _))) (Nat.le_refl _) (by first | exact Nat.le_refl _ | (simp <;> omega))); (have HBX2 := Lib.hid (HBX1.out.on HBa.out)); (obtain ⟨y0, y1, y2, y3, y4, y5, y6, y7, y8⟩ := HBX2.out.nine); (have hl3 : w.heap.size < w2.heap.size := by have := HBX2.out.lt; omega); (have hl4 : w.heap.size + 1 < w2.heap.size := by have := HBX2.out.lt; omega); (first | (have HN1 : Hid (w2.heap[w1.heap.size]? = some (oXr x)) := keptN (k := w1.heap.size) (g := w1.heap.size + 1) HG1.out (.inl rfl) (by omega) (by first | exact (Below.heap_alloc _ _ _ (by simp)).trans (heap_alloc_new _ _) | exact heap_alloc_new _ _)) | (have HN1 : Hid (w2.heap[w1.heap.size + 1]? = some (oXr x)) := keptN (k := w1.heap.size + 1) (g := w1.heap.size) HG1.out (.inl rfl) (by omega) (by exact heap_new_at (by simp))) | skip))) | ((refine step_appE fX_len (by omega) rfl (.tmp 19) (.tmp 21) 24 rfl 42 x0 _ 88 Tryz.underlying24 HI0.out HI1.out HI2.out HI3.out Tryz.zsX ([] ++ xs) w1.heap.size ?_ [x] ?_ fX_one HK3.out HK4.out ?_ ?_); (repeat (first | exact HO1.out | refine OwnN.drewN ?_ _ | refine OwnN.drew ?_ | refine OwnN.alloc ?_ _)); (first | exact ⟨w2.heap.size, some ⟨w1.heap.size, 0, none⟩, 1, 1, rfl, SlN.of_block (f := fX) (t := 42) (fr := (0, 0)) HN1.out (by have := HBa.out.size; have := lt_of_block HN1.out; omega)⟩ | exact ⟨w2.heap.size, some ⟨w1.heap.size + 1, 0, none⟩, 1, 1, rfl, SlN.of_block (f := fX) (t := 42) (fr := (0, 0)) HN1.out (lt_of_block HN1.out)⟩ | exact ⟨w2.heap.size + 1, some ⟨w2.heap.size, 0, none⟩, 1, 1, rfl, new_fX w2 x⟩); (first | exact HBa.out.size | exact Nat.le_trans HBa.out.size (by simp)); (intro v2 w3 HO2 HG2 HL2; (have HBb : Hid (Below w1.heap.size w1 w3) := HL2.out _ _ (by (repeat (first | exact Below.refl _ _ | exact HBa.out | refine below_al ?_ _ | refine Below.drew ?_ | refine below_dN' ?_ _))) (Nat.le_refl _) (by first | exact HBa.out.size | exact Nat.le_trans HBa.out.size (by simp))); (have HBX3 := Lib.hid (HBX1.out.on HBb.out)); (obtain ⟨A3, c3, hv2, _, _, _⟩ := HO2.out.shape fX_len); (rw [HLX.out] at hv2); subst hv2; (have hst := HBX3.out.seven.2.2.2.1); (have hfr := HBX3.out.fr 3))))
      all_goals
        go_wp2_with fail
        go_meet
        case rel => exact ⟨⟨A3, r3.n + 1, c3⟩, rfl, HBX3.out.set 3 _ rfl, OwnN.set (HO2.out.down HBX1.out.lt) (by omega)⟩
      -- END c1
    case rest =>
      obtain ⟨h3, hn3, hA⟩ := hcut
      have HA3 := Lib.hid hA
      have HN3 := Lib.hid hn3
      have HL3 : Hid ((xs ++ [x]).length = r3.n + 1) := by show _ = _; rw [List.length_append, HXN.out]; rfl
      clear HXS HEX HEY HK1 HK2 HK3 HK4 HLX hl1 hl2 z0 z1 z2 z3 z4 z5 z6 y0 y1 y2 y3 y4 y5 y6 y7 y8 HI0 HI1 HI2 HI3
      clear hA hn3
      obtain ⟨z0, z1, z2, z3, z4, z5, z6⟩ := HA3.out.bx.seven
      have HMS : Hid (SlN fM 5 wc wc.heap.size r4.a r4.n S.ms) := (HC.out.ref.ms.up HA3.out.bx.bel (Nat.le_refl _)).more HA3.out.bx.bel.size
      have HMN : Hid (S.ms.length = r4.n) := HC.out.ref.ms.1
      have h12 : r4.n ≤ 12 := by rw [← HMN.out]; exact HI.out.n12
      obtain ⟨i0, hi, hz0, hz1, hz2⟩ := info_parts Tryz.infoM
      have HM0 := Lib.hid hi
      have HM1 := Lib.hid hz0
      have HM2 := Lib.hid hz1
      have HM3 := Lib.hid hz2
      have HE1 : Hid (OwnN fM 5 40 (wc.alloc (.cells #[] 40)) wc.heap.size (.slice (some ⟨wc.heap.size, 0, none⟩) 0 0) []) := own_empty wc
      have HK1 : Hid ((([] : List Mem).length + r4.n) * 56 ≤ 140737488355328) := by show _ ≤ _; simp; omega
      have HK2 : Hid (([] : List Mem).length + r4.n ≤ maxLen) := by show _ ≤ _; simp [maxLen]; omega
      clear hi hz0 hz1 hz2
      go_upto_region 5 with fail
      go_cut [] from 16 (fun wx => ∃ h4 : Hd, h4.n = r4.n ∧ AR4 w wx ⟨r1, r2, rq, h3, h4, r5, r6⟩ x (xs ++ [x]) S.ms)
      case first =>
        -- PART c2
        have hlc : w.heap.size < wc.heap.size := by have := HA3.out.bx.lt; omega
        go_wp2_with (at_builtin; refine wpList_appN fM_len (by omega) (o := ⟨some 27, _, _, _, _, _⟩) rfl (.tmp 24) (.tmp 26) 22 rfl 40 i0 _ 56 Tryz.underlying22 HM0.out HM1.out HM2.out HM3.out Tryz.zsM (.slice (some ⟨wc.heap.size, 0, none⟩) 0 0) [] wc.heap.size (by rfl) HE1.out r4.a r4.n r4.c wc.heap.size S.ms (by rfl) (HMS.out.up ((Below.refl _ _).alloc (Nat.le_refl _) _) (Nat.le_refl _)) fM_one HK1.out HK2.out (by simp) ?_; intro v5 w5 HO5 HG5 _; (have HB5 : Hid (Below wc.heap.size wc w5) := ((Below.refl _ _).alloc (Nat.le_refl _) _).trans (grown_below HG5.out (by simp [Value.ownBlock]) (by simp))); (have HO5 : Hid (OwnN fM 5 40 w5 wc.heap.size v5 S.ms) := HO5); (obtain ⟨A4, c4, hv5, _, _, _⟩ := HO5.out.shape fM_len); (rw [HMN.out] at hv5); subst hv5; (have hst := (HA3.out.bx.on HB5.out).seven.2.2.2.2.1); (have hfr := (HA3.out.bx.on HB5.out).fr 4); clear z0 z1 z2 z3 z4 z5 z6)
        go_meet
        case rel => exact ⟨⟨A4, r4.n, c4⟩, rfl, HA3.out.mem HB5.out HO5.out⟩
        -- END c2
      case rest =>
        obtain ⟨h4, hn4, hA⟩ := hcut
        have HA4 := Lib.hid hA
        have HN4 := Lib.hid hn4
        clear hA hn4 HMS HM0 HM1 HM2 HM3 HE1 HK1 HK2 z0 z1 z2 z3 z4 z5 z6
        obtain ⟨ps, hvi, hps, hpw⟩ := HC.out.vs
        have HVI := Lib.hid hvi
        have HPS := Lib.hid hps
        have HPW := Lib.hid hpw
        have HVN : Hid (ps.length = r5.n) := hvi.1.1
        have HVL : Hid (r5.n = S.vs.length) := by show _ = _; rw [← hps, List.length_map]; exact hvi.1.1.symm
        have h15 : r5.n ≤ 12 := by rw [HVL.out]; exact HI.out.v12
        have HVS : Hid (SlN fP 15 wc wc.heap.size r5.a r5.n ps) := (hvi.1.up HA4.out.bx.bel (Nat.le_refl _)).more HA4.out.bx.bel.size
        clear hvi hps hpw
        obtain ⟨z0, z1, z2, z3, z4, z5, z6⟩ := HA4.out.bx.seven
        obtain ⟨i0, hi, hz0, hz1, hz2⟩ := info_parts Tryz.infoV
        have HM0 := Lib.hid hi
        have HM1 := Lib.hid hz0
        have HM2 := Lib.hid hz1
        have HM3 := Lib.hid hz2
        have HE1 : Hid (OwnN fP 15 68 (wc.alloc (.cells #[] 68)) wc.heap.size (.slice (some ⟨wc.heap.size, 0, none⟩) 0 0) []) := own_empty wc
        have HK1 : Hid ((([] : List VP).length + r5.n) * 144 ≤ 140737488355328) := by show _ ≤ _; simp; omega
        have HK2 : Hid (([] : List VP).length + r5.n ≤ maxLen) := by show _ ≤ _; simp [maxLen]; omega
        clear hi hz0 hz1 hz2
        go_upto_region 6 with fail
        go_cut [] from 16 (fun wx => ∃ h5 : Hd, h5.n = r5.n ∧ AR w wx ⟨r1, r2, rq, h3, h4, h5, r6⟩ x (xs ++ [x]) S.ms ps)
        case first =>
          -- PART c3
          have hlc : w.heap.size < wc.heap.size := by have := HA4.out.bx.lt; omega
          go_wp2_with (at_builtin; refine wpList_appN fP_len (by omega) (o := ⟨some 32, _, _, _, _, _⟩) rfl (.tmp 29) (.tmp 31) 23 rfl 68 i0 _ 144 Tryz.underlying23 HM0.out HM1.out HM2.out HM3.out Tryz.zsV (.slice (some ⟨wc.heap.size, 0, none⟩) 0 0) [] wc.heap.size (by rfl) HE1.out r5.a r5.n r5.c wc.heap.size ps (by rfl) (HVS.out.up ((Below.refl _ _).alloc (Nat.le_refl _) _) (Nat.le_refl _)) fP_one HK1.out HK2.out (by simp) ?_; intro v5 w5 HO5 HG5 _; (have HB5 : Hid (Below wc.heap.size wc w5) := ((Below.refl _ _).alloc (Nat.le_refl _) _).trans (grown_below HG5.out (by simp [Value.ownBlock]) (by simp))); (have HO5 : Hid (OwnN fP 15 68 w5 wc.heap.size v5 ps) := HO5); (obtain ⟨A5, c5, hv5, _, _, _⟩ := HO5.out.shape fP_len); (rw [HVN.out] at hv5); subst hv5; (have hst := (HA4.out.bx.on HB5.out).seven.2.2.2.2.2.1); (have hfr := (HA4.out.bx.on HB5.out).fr 5); clear z0 z1 z2 z3 z4 z5 z6)
          go_meet
          case rel => exact ⟨⟨A5, r5.n, c5⟩, rfl, HA4.out.vlt HB5.out HO5.out⟩
          -- END c3
        case rest =>
          obtain ⟨h5, hn5, hA⟩ := hcut
          have HA := Lib.hid hA
          have HN5 := Lib.hid hn5
          clear hA hn5 HVS HM0 HM1 HM2 HM3 HE1 HK1 HK2 z0 z1 z2 z3 z4 z5 z6
          obtain ⟨z0, z1, z2, z3, z4, z5, z6⟩ := HA.out.bx.seven
          obtain ⟨y0, y1, y2, y3, y4, y5, y6, y7, y8⟩ := HA.out.bx.nine
          by_cases hk : x.kind = 1
          · -- PART wa
            have e1 : (x.kind == 1) = true := by simp [hk]
            have HKE : Hid (playS S x = admS S x.m) := by show _ = _; unfold playS; rw [HPE.out, if_pos rfl, if_pos hk]
            have HKX : Hid (xs ++ [x] = xs ++ [kx x]) := by show _ = _; unfold kx; rw [if_pos (.inl hk)]
            obtain ⟨i0, hi, hz0, hz1, hz2⟩ := info_parts Tryz.infoM
            have HM0 := Lib.hid hi
            have HM1 := Lib.hid hz0
            have HM2 := Lib.hid hz1
            have HM3 := Lib.hid hz2
            clear hi hz0 hz1 hz2
            have HK1 : Hid ((S.ms.length + 1) * 56 ≤ 140737488355328) := by show _ ≤ _; have := HI.out.n12; omega
            have HK2 : Hid (S.ms.length + 1 ≤ maxLen) := by show _ ≤ _; have := HI.out.n12; unfold maxLen; omega
            have HLM : Hid ((S.ms ++ [x.m]).length = r4.n + 1) := by show _ = _; rw [List.length_append, HMN.out]; rfl
            clear hk
            go_upto_region 22 with (at_builtin; refine wpList_appN1 fM_len (by omega) (o := ⟨some 91, _, _, _, _, _⟩) rfl (.tmp 87) (.tmp 90) 22 rfl 40 i0 _ 56 Tryz.underlying22 HM0.out HM1.out HM2.out HM3.out Tryz.zsM (.slice h4.a h4.n h4.c) S.ms (w.heap.size + 3) (by rfl) HA.out.o4 x.m 1 (by rfl) fM_one HK1.out HK2.out HA.out.bx.lt ?_; intro v5 w5 HO5 HG5 HU5; (obtain ⟨A4, c4, hv5, _, _, _⟩ := HO5.out.shape fM_len); (rw [HLM.out] at hv5); subst hv5; (have HBX5 := Lib.hid (HA.out.bx.grown HG5.out (fun k hk => (World.ownsRow.lt HA.out.o4 k hk).1))); (have HAz := Lib.hid (AR.addM HA.out HG5.out HO5.out HU5.out)); (have hfr := HBX5.out.fr 4); clear z0 z1 z2 z3 z4 z5 z6 y0 y1 y2 y3 y4 y5 y6 y7 y8; obtain ⟨z0, z1, z2, z3, z4, z5, z6⟩ := HBX5.out.seven)
            go_wp2_with ((refine wpList_store_far (o := ⟨none, .store 34 (.tmp 4) (.tmp 121), _, _, _, _⟩) rfl 34 (.tmp 4) (.tmp 121) rfl (w.heap.size + 2) 34 _ (⟨r1, r2, rq, h3, ⟨A4, r4.n + 1, c4⟩, h5, r6⟩ : RV).cells rfl rfl HAz.out.bx.new Tryz.sizeR rfl (RV.one _) w.heap.size w HAz.out.bx.bel (by omega) ?_); intro w9 HG9 hb9 HB9)
            exact bodyPost_ret (ret_cell_tmpS (cs := (⟨r1, r2, rq, h3, ⟨A4, r4.n + 1, c4⟩, h5, r6⟩ : RV).cells) rfl rfl HG9.out Tryz.underlying34 rfl Tryz.sizeR) rfl ⟨(⟨r1, r2, rq, h3, ⟨A4, r4.n + 1, c4⟩, h5, r6⟩ : RV), by rw [HPE.out]; rfl, by rw [HKE.out]; exact AR.done (S' := admS S x.m) HP.out HAz.out (by rw [HL3.out]; omega) (HN3.out.trans HL3.out.symm) HLM.out.symm (HN5.out.trans HVN.out.symm) (VIn.far HVI.out HPW.out HAz.out.bx.bel) (HC.out.vfar HAz.out.bx.bel).1 (HC.out.vfar HAz.out.bx.bel).2 HC.out.ref.q rfl HPS.out HB9.out, (by show h3.n ≤ r3.n + 1; rw [HN3.out]; exact Nat.le_refl _), hb9, .inr ⟨HPE.out, rfl, rfl, xs, HX0.out, AR.ch3 HAz.out HB9.out HKX.out⟩⟩
            -- END wa
          · by_cases hk2 : x.kind = 2
            · -- PART wb
              have e1 : (x.kind == 1) = false := by simp [hk]
              have e2 : (x.kind == 2) = true := by simp [hk2]
              have HKE : Hid (playS S x = votS S x.a x.b) := by show _ = _; unfold playS; rw [HPE.out, if_pos rfl, if_neg hk, if_pos hk2]
              have HKX : Hid (xs ++ [x] = xs ++ [kx x]) := by show _ = _; unfold kx; rw [if_pos (.inr hk2)]
              have HVE : Hid (votE S x.a x.b = 0) := by show _ = _; have h := HPE.out; unfold playE at h; rw [if_neg hk, if_pos hk2] at h; exact h
              obtain ⟨i0, hi, hz0, hz1, hz2⟩ := info_parts Tryz.infoT
              have HM0 := Lib.hid hi
              have HM1 := Lib.hid hz0
              have HM2 := Lib.hid hz1
              have HM3 := Lib.hid hz2
              clear hi hz0 hz1 hz2
              have hvb := votes_bound HI.out
              have hvn : S.votes.length = r6.n := HC.out.ref.vt.1
              have HK1 : Hid ((([] : List (Int × Int)).length + S.votes.length) * 16 ≤ 140737488355328) := by show _ ≤ _; simp; omega
              have HK2 : Hid (([] : List (Int × Int)).length + S.votes.length ≤ maxLen) := by show _ ≤ _; simp [maxLen]; omega
              have HK3 : Hid ((([] ++ S.votes : List (Int × Int)).length + [(x.a, x.b)].length) * 16 ≤ 140737488355328) := by show _ ≤ _; simp; omega
              have HK4 : Hid (([] ++ S.votes : List (Int × Int)).length + [(x.a, x.b)].length ≤ maxLen) := by show _ ≤ _; simp [maxLen]; omega
              have HLT : Hid (([] ++ S.votes ++ [(x.a, x.b)] : List (Int × Int)).length = r6.n + 1) := by show _ = _; simp; omega
              have HVX : Hid (∀ V, Below wc.heap.size wc V → SlN fT 2 V wc.heap.size r6.a r6.n S.votes) := fun V h => ((HC.out.ref.vt.up HA.out.bx.bel (Nat.le_refl _)).more HA.out.bx.bel.size).up h (Nat.le_refl _)
              have HEX : Hid (OwnN fT 2 70 (wc.alloc (.cells #[] 70)) wc.heap.size (.slice (some ⟨wc.heap.size, 0, none⟩) 0 0) []) := own_empty wc
              have HEY : Hid (∀ o, OwnN fT 2 70 ((wc.alloc o).alloc (.cells #[] 70)) wc.heap.size (.slice (some ⟨wc.heap.size + 1, 0, none⟩) 0 0) []) := fun o => own_empty2 wc o
              have HBX1 := Lib.hid HA.out.bx
              have hl1 : w.heap.size < wc.heap.size := by have := HBX1.out.lt; omega
              have hl2 : w.heap.size + 1 < wc.heap.size := by have := HBX1.out.lt; omega
              clear hk hk2 hvb hvn
              go_upto_region 19 with fail
              go_cut [] from 16 (fun wx => ∃ h6 : Hd, h6.n = r6.n + 1 ∧ AR w wx ⟨r1, r2, rq, h3, h4, h5, h6⟩ x (xs ++ [x]) S.ms ps ∧ OwnN fT 2 70 wx (w.heap.size + 3) (fS h6) (S.votes ++ [(x.a, x.b)]) ∧ Apt (fS h4) (fS h6))
              case first =>
                -- PART wb1
                refine wp_region_held_drew (S := (fun w' => w'.cell? ⟨w.heap.size + 1, 0, none⟩ = some (.int .i64 x.kind) ∧ w'.cell? ⟨w.heap.size + 1, 1, none⟩ = some (.int .i64 x.m.dev) ∧ w'.cell? ⟨w.heap.size + 1, 2, none⟩ = some (.string x.m.name) ∧ w'.cell? ⟨w.heap.size + 1, 3, none⟩ = some (.string x.m.pub) ∧ w'.cell? ⟨w.heap.size + 1, 4, none⟩ = some (.int .i64 x.m.quota) ∧ w'.cell? ⟨w.heap.size + 1, 5, none⟩ = some (.bool x.m.exp) ∧ w'.cell? ⟨w.heap.size + 1, 6, none⟩ = some (.int .i64 x.v) ∧ w'.cell? ⟨w.heap.size + 1, 7, none⟩ = some (.int .i64 x.a) ∧ w'.cell? ⟨w.heap.size + 1, 8, none⟩ = some (.int .i64 x.b))) (by kernel_rfl) (by (first | (refine (HBX1.out.on ?_).nine; (solve | (repeat (first | exact Below.refl _ _ | exact HBb.out | exact HBa.out | refine below_al ?_ _ | refine Below.drew ?_ | refine below_dN' ?_ _)))))) (fun hHeld => ?_)
                refine wpAnyH_take (i := 1) (v := ?q1v) (by simp only [List.getElem?_toArray, List.getElem?_cons_succ, List.getElem?_cons_zero]; rfl) (by kernel_rfl) (by kernel_rfl) (by kernel_rfl) (by exact fun _ _ _ h => h) (Or.inl ⟨by rfl, ?q1y⟩) (by assumption) ?q1r
                case q1y => (intro w hSw; (try dsimp only at hSw); go_simp; try (with_reducible rfl))
                try simp only [Act.put, List.setIfInBounds_toArray, List.set_cons_zero, List.set_cons_succ]
                refine wpAnyH_take (i := 4) (v := ?q2v) (by simp only [List.getElem?_toArray, List.getElem?_cons_succ, List.getElem?_cons_zero]; rfl) (by kernel_rfl) (by kernel_rfl) (by kernel_rfl) (by exact fun _ _ _ h => h) (Or.inl ⟨by rfl, ?q2y⟩) (by assumption) ?q2r
                case q2y => (intro w hSw; (try dsimp only at hSw); go_simp; try (with_reducible rfl))
                try simp only [Act.put, List.setIfInBounds_toArray, List.set_cons_zero, List.set_cons_succ]
                refine wpAnyH_take (i := 5) (v := ?q3v) (by simp only [List.getElem?_toArray, List.getElem?_cons_succ, List.getElem?_cons_zero]; rfl) (by kernel_rfl) (by kernel_rfl) (by kernel_rfl) (by exact fun _ _ _ h => h) (Or.inl ⟨by rfl, ?q3y⟩) (by assumption) ?q3r
                case q3y => (intro w hSw; (try dsimp only at hSw); go_simp; try (with_reducible rfl))
                try simp only [Act.put, List.setIfInBounds_toArray, List.set_cons_zero, List.set_cons_succ]
                refine wpAnyH_take (i := 6) (v := ?q4v) (by simp only [List.getElem?_toArray, List.getElem?_cons_succ, List.getElem?_cons_zero]; rfl) (by kernel_rfl) (by kernel_rfl) (by kernel_rfl) (by exact fun _ _ _ h => h) (Or.inl ⟨by rfl, ?q4y⟩) (by assumption) ?q4r
                case q4y => (intro w hSw; (try dsimp only at hSw); go_simp; try (with_reducible rfl))
                try simp only [Act.put, List.setIfInBounds_toArray, List.set_cons_zero, List.set_cons_succ]
                refine wpAnyH_take (i := 7) (v := ?q5v) (by simp only [List.getElem?_toArray, List.getElem?_cons_succ, List.getElem?_cons_zero]; rfl) (by kernel_rfl) (by kernel_rfl) (by kernel_rfl) (by exact fun _ _ _ h => h) (Or.inl ⟨by rfl, ?q5y⟩) (by assumption) ?q5r
                case q5y => (intro w hSw; (try dsimp only at hSw); go_simp; try (with_reducible rfl))
                try simp only [Act.put, List.setIfInBounds_toArray, List.set_cons_zero, List.set_cons_succ]
                refine wpAnyH_take (i := 8) (v := ?q6v) (by simp only [List.getElem?_toArray, List.getElem?_cons_succ, List.getElem?_cons_zero]; rfl) (by kernel_rfl) (by kernel_rfl) (by kernel_rfl) (by exact fun _ _ _ h => h) (Or.inl ⟨by rfl, ?q6y⟩) (by assumption) ?q6r
                case q6y => (intro w hSw; (try dsimp only at hSw); go_simp; try (with_reducible rfl))
                try simp only [Act.put, List.setIfInBounds_toArray, List.set_cons_zero, List.set_cons_succ]
                refine wpAnyH_ready (rs := [0, 2, 9]) (by kernel_rfl) (by simp) ?_
                refine AllReadyH.cons (by simp only [List.getElem?_toArray, List.getElem?_cons_zero]; rfl) (fun K hK => ?_) (AllReadyH.cons (by simp only [List.getElem?_toArray, List.getElem?_cons_succ, List.getElem?_cons_zero]; rfl) (fun K hK => ?_) (AllReadyH.cons (by simp only [List.getElem?_toArray, List.getElem?_cons_succ, List.getElem?_cons_zero]; rfl) (fun K hK => ?_) (AllReadyH.nil)))
                · go_simp
                  refine hK.out _ _ (by (first | (refine (HBX1.out.on ?_).nine; (solve | (repeat (first | exact Below.refl _ _ | exact HBb.out | exact HBa.out | refine below_al ?_ _ | refine Below.drew ?_ | refine below_dN' ?_ _)))) | (exact (BX.set (r' := ⟨r1, r2, rq, h3, h4, h5, ⟨A6, r6.n + 1, c6⟩⟩) HBX3.out 6 _ rfl).nine))) (fun hHeldq7 => ?_)
                  clear hK K hHeld
                  try simp only [Act.put, List.setIfInBounds_toArray, List.set_cons_zero, List.set_cons_succ]
                  refine wpAnyH_ready (rs := [2, 9]) (by kernel_rfl) (by simp) ?_
                  refine AllReadyH.cons (by simp only [List.getElem?_toArray, List.getElem?_cons_succ, List.getElem?_cons_zero]; rfl) (fun K hK => ?_) (AllReadyH.cons (by simp only [List.getElem?_toArray, List.getElem?_cons_succ, List.getElem?_cons_zero]; rfl) (fun K hK => ?_) (AllReadyH.nil))
                  · go_simp
                    refine hK.out _ _ (by (first | (refine (HBX1.out.on ?_).nine; (solve | (repeat (first | exact Below.refl _ _ | exact HBb.out | exact HBa.out | refine below_al ?_ _ | refine Below.drew ?_ | refine below_dN' ?_ _)))) | (exact (BX.set (r' := ⟨r1, r2, rq, h3, h4, h5, ⟨A6, r6.n + 1, c6⟩⟩) HBX3.out 6 _ rfl).nine))) (fun hHeldq8 => ?_)
                    clear hK K hHeldq7
                    try simp only [Act.put, List.setIfInBounds_toArray, List.set_cons_zero, List.set_cons_succ]
                    refine wpAnyH_ready (rs := [3, 9]) (by kernel_rfl) (by simp) ?_
                    refine AllReadyH.cons (by simp only [List.getElem?_toArray, List.getElem?_cons_succ, List.getElem?_cons_zero]; rfl) (fun K hK => ?_) (AllReadyH.cons (by simp only [List.getElem?_toArray, List.getElem?_cons_succ, List.getElem?_cons_zero]; rfl) (fun K hK => ?_) (AllReadyH.nil))
                    · ((refine step_appE fT_len (by omega) rfl (.tmp 95) (.tmp 97) 32 rfl 70 i0 _ 16 Tryz.underlying32 HM0.out HM1.out HM2.out HM3.out Tryz.zsT [] wc.heap.size ?_ S.votes ?_ fT_one HK1.out HK2.out ?_ ?_); (repeat (first | exact HEX.out | exact HEY.out _ | refine OwnN.drewN ?_ _ | refine OwnN.drew ?_ | refine OwnN.alloc ?_ _)); (refine ⟨wc.heap.size, r6.a, r6.n, r6.c, rfl, HVX.out _ ?_⟩; (repeat (first | exact Below.refl _ _ | refine below_al ?_ _ | refine Below.drew ?_ | refine below_dN' ?_ _))); (first | exact Nat.le_refl _ | (simp <;> omega)); (intro v1 w2 HO1 HG1 HL1; (have HBa : Hid (Below wc.heap.size wc w2) := HL1.out _ _ (by (repeat (first | exact Below.refl _ _ | refine below_al ?_ _ | refine Below.drew ?_ | refine below_dN' ?_ _))) (Nat.le_refl _) (by first | exact Nat.le_refl _ | (simp <;> omega))); (have HBX2 := Lib.hid (HBX1.out.on HBa.out)); (obtain ⟨y0, y1, y2, y3, y4, y5, y6, y7, y8⟩ := HBX2.out.nine); (have hl3 : w.heap.size < w2.heap.size := by have := HBX2.out.lt; omega); (have hl4 : w.heap.size + 1 < w2.heap.size := by have := HBX2.out.lt; omega); (first | (have HN1 : Hid (w2.heap[wc.heap.size]? = some (oT x.a x.b)) := keptN (k := wc.heap.size) (g := wc.heap.size + 1) HG1.out (.inl rfl) (by omega) (by first | exact (Below.heap_alloc _ _ _ (by simp)).trans (heap_alloc_new _ _) | exact heap_alloc_new _ _)) | (have HN1 : Hid (w2.heap[wc.heap.size + 1]? = some (oT x.a x.b)) := keptN (k := wc.heap.size + 1) (g := wc.heap.size) HG1.out (.inl rfl) (by omega) (by exact heap_new_at (by simp))) | skip)))
                      refine hK.out _ _ (by (first | (refine (HBX1.out.on ?_).nine; (solve | (repeat (first | exact Below.refl _ _ | exact HBb.out | exact HBa.out | refine below_al ?_ _ | refine Below.drew ?_ | refine below_dN' ?_ _)))) | (exact (BX.set (r' := ⟨r1, r2, rq, h3, h4, h5, ⟨A6, r6.n + 1, c6⟩⟩) HBX3.out 6 _ rfl).nine))) (fun hHeldq9 => ?_)
                      clear hK K hHeldq8
                      try simp only [Act.put, List.setIfInBounds_toArray, List.set_cons_zero, List.set_cons_succ]
                      refine wpAnyH_ready (rs := [9]) (by kernel_rfl) (by simp) ?_
                      refine AllReadyH.cons (by simp only [List.getElem?_toArray, List.getElem?_cons_succ, List.getElem?_cons_zero]; rfl) (fun K hK => ?_) (AllReadyH.nil)
                      go_simp
                      refine hK.out _ _ (by (first | (refine (HBX1.out.on ?_).nine; (solve | (repeat (first | exact Below.refl _ _ | exact HBb.out | exact HBa.out | refine below_al ?_ _ | refine Below.drew ?_ | refine below_dN' ?_ _)))) | (exact (BX.set (r' := ⟨r1, r2, rq, h3, h4, h5, ⟨A6, r6.n + 1, c6⟩⟩) HBX3.out 6 _ rfl).nine))) (fun hHeldq10 => ?_)
                      clear hK K hHeldq9
                      try simp only [Act.put, List.setIfInBounds_toArray, List.set_cons_zero, List.set_cons_succ]
                      refine wpAnyH_ready (rs := [10]) (by kernel_rfl) (by simp) ?_
                      refine AllReadyH.cons (by simp only [List.getElem?_toArray, List.getElem?_cons_succ, List.getElem?_cons_zero]; rfl) (fun K hK => ?_) (AllReadyH.nil)
                      ((refine step_appE fT_len (by omega) rfl (.tmp 98) (.tmp 104) 32 rfl 70 i0 _ 16 Tryz.underlying32 HM0.out HM1.out HM2.out HM3.out Tryz.zsT ([] ++ S.votes) wc.heap.size ?_ [(x.a, x.b)] ?_ fT_one HK3.out HK4.out ?_ ?_); (repeat (first | exact HO1.out | refine OwnN.drewN ?_ _ | refine OwnN.drew ?_ | refine OwnN.alloc ?_ _)); (first | exact ⟨w2.heap.size, some ⟨wc.heap.size, 0, none⟩, 1, 1, rfl, SlN.of_block (f := fT) (t := 70) (fr := (0, 0)) HN1.out (by have := HBa.out.size; have := lt_of_block HN1.out; omega)⟩ | exact ⟨w2.heap.size, some ⟨wc.heap.size + 1, 0, none⟩, 1, 1, rfl, SlN.of_block (f := fT) (t := 70) (fr := (0, 0)) HN1.out (lt_of_block HN1.out)⟩ | exact ⟨w2.heap.size + 1, some ⟨w2.heap.size, 0, none⟩, 1, 1, rfl, new_fT w2 x.a x.b⟩); (first | exact HBa.out.size | exact Nat.le_trans HBa.out.size (by simp)); (intro v2 w3 HO2 HG2 HL2; (have HBb : Hid (Below wc.heap.size wc w3) := HL2.out _ _ (by (repeat (first | exact Below.refl _ _ | exact HBa.out | refine below_al ?_ _ | refine Below.drew ?_ | refine below_dN' ?_ _))) (Nat.le_refl _) (by first | exact HBa.out.size | exact Nat.le_trans HBa.out.size (by simp))); (have HBX3 := Lib.hid (HBX1.out.on HBb.out)); (obtain ⟨A6, c6, hv2, _, _, _⟩ := HO2.out.shape fT_len); (rw [HLT.out] at hv2); subst hv2; (have hst := HBX3.out.seven.2.2.2.2.2.2); (have hfr := HBX3.out.fr 6)))
                      refine hK.out _ _ (by (first | (refine (HBX1.out.on ?_).nine; (solve | (repeat (first | exact Below.refl _ _ | exact HBb.out | exact HBa.out | refine below_al ?_ _ | refine Below.drew ?_ | refine below_dN' ?_ _)))) | (exact (BX.set (r' := ⟨r1, r2, rq, h3, h4, h5, ⟨A6, r6.n + 1, c6⟩⟩) HBX3.out 6 _ rfl).nine))) (fun hHeldq11 => ?_)
                      clear hK K hHeldq10
                      try simp only [Act.put, List.setIfInBounds_toArray, List.set_cons_zero, List.set_cons_succ]
                      refine wpAnyH_take (i := 11) (v := ?q12v) (by simp only [List.getElem?_toArray, List.getElem?_cons_succ, List.getElem?_cons_zero]; rfl) (by kernel_rfl) (by kernel_rfl) (by kernel_rfl) (by exact fun _ _ _ h => h) (Or.inl ⟨by rfl, ?q12y⟩) (by assumption) ?q12r
                      case q12y => (intro w hSw; (try dsimp only at hSw); go_simp; try (with_reducible rfl))
                      try simp only [Act.put, List.setIfInBounds_toArray, List.set_cons_zero, List.set_cons_succ]
                      refine wpAnyH_ready (rs := [12]) (by kernel_rfl) (by simp) ?_
                      refine AllReadyH.cons (by simp only [List.getElem?_toArray, List.getElem?_cons_succ, List.getElem?_cons_zero]; rfl) (fun K hK => ?_) (AllReadyH.nil)
                      go_simp
                      refine hK.out _ _ (by (first | (refine (HBX1.out.on ?_).nine; (solve | (repeat (first | exact Below.refl _ _ | exact HBb.out | exact HBa.out | refine below_al ?_ _ | refine Below.drew ?_ | refine below_dN' ?_ _)))) | (exact (BX.set (r' := ⟨r1, r2, rq, h3, h4, h5, ⟨A6, r6.n + 1, c6⟩⟩) HBX3.out 6 _ rfl).nine))) (fun hHeldq13 => ?_)
                      clear hK K hHeldq11
                      try simp only [Act.put, List.setIfInBounds_toArray, List.set_cons_zero, List.set_cons_succ]
                      refine wpAnyH_done (by kernel_rfl) ?_ _
                      go_wp2_with fail
                      go_meet
                      case rel => exact ⟨⟨A6, r6.n + 1, c6⟩, rfl, AR.vts HA.out HBb.out, OwnN.set (HO2.out.down HBX1.out.lt) (by omega), apt_new HA.out.o4 HO2.out⟩
                    · go_simp
                      refine hK.out _ _ (by (first | (refine (HBX1.out.on ?_).nine; (solve | (repeat (first | exact Below.refl _ _ | exact HBb.out | exact HBa.out | refine below_al ?_ _ | refine Below.drew ?_ | refine below_dN' ?_ _)))) | (exact (BX.set (r' := ⟨r1, r2, rq, h3, h4, h5, ⟨A6, r6.n + 1, c6⟩⟩) HBX3.out 6 _ rfl).nine))) (fun hHeldq14 => ?_)
                      clear hK K hHeldq8
                      try simp only [Act.put, List.setIfInBounds_toArray, List.set_cons_zero, List.set_cons_succ]
                      refine wpAnyH_ready (rs := [3]) (by kernel_rfl) (by simp) ?_
                      refine AllReadyH.cons (by simp only [List.getElem?_toArray, List.getElem?_cons_succ, List.getElem?_cons_zero]; rfl) (fun K hK => ?_) (AllReadyH.nil)
                      ((refine step_appE fT_len (by omega) rfl (.tmp 95) (.tmp 97) 32 rfl 70 i0 _ 16 Tryz.underlying32 HM0.out HM1.out HM2.out HM3.out Tryz.zsT [] wc.heap.size ?_ S.votes ?_ fT_one HK1.out HK2.out ?_ ?_); (repeat (first | exact HEX.out | exact HEY.out _ | refine OwnN.drewN ?_ _ | refine OwnN.drew ?_ | refine OwnN.alloc ?_ _)); (refine ⟨wc.heap.size, r6.a, r6.n, r6.c, rfl, HVX.out _ ?_⟩; (repeat (first | exact Below.refl _ _ | refine below_al ?_ _ | refine Below.drew ?_ | refine below_dN' ?_ _))); (first | exact Nat.le_refl _ | (simp <;> omega)); (intro v1 w2 HO1 HG1 HL1; (have HBa : Hid (Below wc.heap.size wc w2) := HL1.out _ _ (by (repeat (first | exact Below.refl _ _ | refine below_al ?_ _ | refine Below.drew ?_ | refine below_dN' ?_ _))) (Nat.le_refl _) (by first | exact Nat.le_refl _ | (simp <;> omega))); (have HBX2 := Lib.hid (HBX1.out.on HBa.out)); (obtain ⟨y0, y1, y2, y3, y4, y5, y6, y7, y8⟩ := HBX2.out.nine); (have hl3 : w.heap.size < w2.heap.size := by have := HBX2.out.lt; omega); (have hl4 : w.heap.size + 1 < w2.heap.size := by have := HBX2.out.lt; omega); (first | (have HN1 : Hid (w2.heap[wc.heap.size]? = some (oT x.a x.b)) := keptN (k := wc.heap.size) (g := wc.heap.size + 1) HG1.out (.inl rfl) (by omega) (by first | exact (Below.heap_alloc _ _ _ (by simp)).trans (heap_alloc_new _ _) | exact heap_alloc_new _ _)) | (have HN1 : Hid (w2.heap[wc.heap.size + 1]? = some (oT x.a x.b)) := keptN (k := wc.heap.size + 1) (g := wc.heap.size) HG1.out (.inl rfl) (by omega) (by exact heap_new_at (by simp))) | skip)))
                      refine hK.out _ _ (by (first | (refine (HBX1.out.on ?_).nine; (solve | (repeat (first | exact Below.refl _ _ | exact HBb.out | exact HBa.out | refine below_al ?_ _ | refine Below.drew ?_ | refine below_dN' ?_ _)))) | (exact (BX.set (r' := ⟨r1, r2, rq, h3, h4, h5, ⟨A6, r6.n + 1, c6⟩⟩) HBX3.out 6 _ rfl).nine))) (fun hHeldq15 => ?_)
                      clear hK K hHeldq14
                      try simp only [Act.put, List.setIfInBounds_toArray, List.set_cons_zero, List.set_cons_succ]
                      refine wpAnyH_ready (rs := [10]) (by kernel_rfl) (by simp) ?_
                      refine AllReadyH.cons (by simp only [List.getElem?_toArray, List.getElem?_cons_succ, List.getElem?_cons_zero]; rfl) (fun K hK => ?_) (AllReadyH.nil)
                      ((refine step_appE fT_len (by omega) rfl (.tmp 98) (.tmp 104) 32 rfl 70 i0 _ 16 Tryz.underlying32 HM0.out HM1.out HM2.out HM3.out Tryz.zsT ([] ++ S.votes) wc.heap.size ?_ [(x.a, x.b)] ?_ fT_one HK3.out HK4.out ?_ ?_); (repeat (first | exact HO1.out | refine OwnN.drewN ?_ _ | refine OwnN.drew ?_ | refine OwnN.alloc ?_ _)); (first | exact ⟨w2.heap.size, some ⟨wc.heap.size, 0, none⟩, 1, 1, rfl, SlN.of_block (f := fT) (t := 70) (fr := (0, 0)) HN1.out (by have := HBa.out.size; have := lt_of_block HN1.out; omega)⟩ | exact ⟨w2.heap.size, some ⟨wc.heap.size + 1, 0, none⟩, 1, 1, rfl, SlN.of_block (f := fT) (t := 70) (fr := (0, 0)) HN1.out (lt_of_block HN1.out)⟩ | exact ⟨w2.heap.size + 1, some ⟨w2.heap.size, 0, none⟩, 1, 1, rfl, new_fT w2 x.a x.b⟩); (first | exact HBa.out.size | exact Nat.le_trans HBa.out.size (by simp)); (intro v2 w3 HO2 HG2 HL2; (have HBb : Hid (Below wc.heap.size wc w3) := HL2.out _ _ (by (repeat (first | exact Below.refl _ _ | exact HBa.out | refine below_al ?_ _ | refine Below.drew ?_ | refine below_dN' ?_ _))) (Nat.le_refl _) (by first | exact HBa.out.size | exact Nat.le_trans HBa.out.size (by simp))); (have HBX3 := Lib.hid (HBX1.out.on HBb.out)); (obtain ⟨A6, c6, hv2, _, _, _⟩ := HO2.out.shape fT_len); (rw [HLT.out] at hv2); subst hv2; (have hst := HBX3.out.seven.2.2.2.2.2.2); (have hfr := HBX3.out.fr 6)))
                      refine hK.out _ _ (by (first | (refine (HBX1.out.on ?_).nine; (solve | (repeat (first | exact Below.refl _ _ | exact HBb.out | exact HBa.out | refine below_al ?_ _ | refine Below.drew ?_ | refine below_dN' ?_ _)))) | (exact (BX.set (r' := ⟨r1, r2, rq, h3, h4, h5, ⟨A6, r6.n + 1, c6⟩⟩) HBX3.out 6 _ rfl).nine))) (fun hHeldq16 => ?_)
                      clear hK K hHeldq15
                      try simp only [Act.put, List.setIfInBounds_toArray, List.set_cons_zero, List.set_cons_succ]
                      refine wpAnyH_take (i := 11) (v := ?q17v) (by simp only [List.getElem?_toArray, List.getElem?_cons_succ, List.getElem?_cons_zero]; rfl) (by kernel_rfl) (by kernel_rfl) (by kernel_rfl) (by exact fun _ _ _ h => h) (Or.inl ⟨by rfl, ?q17y⟩) (by assumption) ?q17r
                      case q17y => (intro w hSw; (try dsimp only at hSw); go_simp; try (with_reducible rfl))
                      try simp only [Act.put, List.setIfInBounds_toArray, List.set_cons_zero, List.set_cons_succ]
                      refine wpAnyH_ready (rs := [12]) (by kernel_rfl) (by simp) ?_
                      refine AllReadyH.cons (by simp only [List.getElem?_toArray, List.getElem?_cons_succ, List.getElem?_cons_zero]; rfl) (fun K hK => ?_) (AllReadyH.nil)
                      go_simp
                      refine hK.out _ _ (by (first | (refine (HBX1.out.on ?_).nine; (solve | (repeat (first | exact Below.refl _ _ | exact HBb.out | exact HBa.out | refine below_al ?_ _ | refine Below.drew ?_ | refine below_dN' ?_ _)))) | (exact (BX.set (r' := ⟨r1, r2, rq, h3, h4, h5, ⟨A6, r6.n + 1, c6⟩⟩) HBX3.out 6 _ rfl).nine))) (fun hHeldq18 => ?_)
                      clear hK K hHeldq16
                      try simp only [Act.put, List.setIfInBounds_toArray, List.set_cons_zero, List.set_cons_succ]
                      refine wpAnyH_done (by kernel_rfl) ?_ _
                      go_wp2_with fail
                      go_meet
                      case rel => exact ⟨⟨A6, r6.n + 1, c6⟩, rfl, AR.vts HA.out HBb.out, OwnN.set (HO2.out.down HBX1.out.lt) (by omega), apt_new HA.out.o4 HO2.out⟩
                  · go_simp
                    refine hK.out _ _ (by (first | (refine (HBX1.out.on ?_).nine; (solve | (repeat (first | exact Below.refl _ _ | exact HBb.out | exact HBa.out | refine below_al ?_ _ | refine Below.drew ?_ | refine below_dN' ?_ _)))) | (exact (BX.set (r' := ⟨r1, r2, rq, h3, h4, h5, ⟨A6, r6.n + 1, c6⟩⟩) HBX3.out 6 _ rfl).nine))) (fun hHeldq19 => ?_)
                    clear hK K hHeldq7
                    try simp only [Act.put, List.setIfInBounds_toArray, List.set_cons_zero, List.set_cons_succ]
                    refine wpAnyH_ready (rs := [2]) (by kernel_rfl) (by simp) ?_
                    refine AllReadyH.cons (by simp only [List.getElem?_toArray, List.getElem?_cons_succ, List.getElem?_cons_zero]; rfl) (fun K hK => ?_) (AllReadyH.nil)
                    go_simp
                    refine hK.out _ _ (by (first | (refine (HBX1.out.on ?_).nine; (solve | (repeat (first | exact Below.refl _ _ | exact HBb.out | exact HBa.out | refine below_al ?_ _ | refine Below.drew ?_ | refine below_dN' ?_ _)))) | (exact (BX.set (r' := ⟨r1, r2, rq, h3, h4, h5, ⟨A6, r6.n + 1, c6⟩⟩) HBX3.out 6 _ rfl).nine))) (fun hHeldq20 => ?_)
                    clear hK K hHeldq19
                    try simp only [Act.put, List.setIfInBounds_toArray, List.set_cons_zero, List.set_cons_succ]
                    refine wpAnyH_ready (rs := [3]) (by kernel_rfl) (by simp) ?_
                    refine AllReadyH.cons (by simp only [List.getElem?_toArray, List.getElem?_cons_succ, List.getElem?_cons_zero]; rfl) (fun K hK => ?_) (AllReadyH.nil)
                    ((refine step_appE fT_len (by omega) rfl (.tmp 95) (.tmp 97) 32 rfl 70 i0 _ 16 Tryz.underlying32 HM0.out HM1.out HM2.out HM3.out Tryz.zsT [] wc.heap.size ?_ S.votes ?_ fT_one HK1.out HK2.out ?_ ?_); (repeat (first | exact HEX.out | exact HEY.out _ | refine OwnN.drewN ?_ _ | refine OwnN.drew ?_ | refine OwnN.alloc ?_ _)); (refine ⟨wc.heap.size, r6.a, r6.n, r6.c, rfl, HVX.out _ ?_⟩; (repeat (first | exact Below.refl _ _ | refine below_al ?_ _ | refine Below.drew ?_ | refine below_dN' ?_ _))); (first | exact Nat.le_refl _ | (simp <;> omega)); (intro v1 w2 HO1 HG1 HL1; (have HBa : Hid (Below wc.heap.size wc w2) := HL1.out _ _ (by (repeat (first | exact Below.refl _ _ | refine below_al ?_ _ | refine Below.drew ?_ | refine below_dN' ?_ _))) (Nat.le_refl _) (by first | exact Nat.le_refl _ | (simp <;> omega))); (have HBX2 := Lib.hid (HBX1.out.on HBa.out)); (obtain ⟨y0, y1, y2, y3, y4, y5, y6, y7, y8⟩ := HBX2.out.nine); (have hl3 : w.heap.size < w2.heap.size := by have := HBX2.out.lt; omega); (have hl4 : w.heap.size + 1 < w2.heap.size := by have := HBX2.out.lt; omega); (first | (have HN1 : Hid (w2.heap[wc.heap.size]? = some (oT x.a x.b)) := keptN (k := wc.heap.size) (g := wc.heap.size + 1) HG1.out (.inl rfl) (by omega) (by first | exact (Below.heap_alloc _ _ _ (by simp)).trans (heap_alloc_new _ _) | exact heap_alloc_new _ _)) | (have HN1 : Hid (w2.heap[wc.heap.size + 1]? = some (oT x.a x.b)) := keptN (k := wc.heap.size + 1) (g := wc.heap.size) HG1.out (.inl rfl) (by omega) (by exact heap_new_at (by simp))) | skip)))
                    refine hK.out _ _ (by (first | (refine (HBX1.out.on ?_).nine; (solve | (repeat (first | exact Below.refl _ _ | exact HBb.out | exact HBa.out | refine below_al ?_ _ | refine Below.drew ?_ | refine below_dN' ?_ _)))) | (exact (BX.set (r' := ⟨r1, r2, rq, h3, h4, h5, ⟨A6, r6.n + 1, c6⟩⟩) HBX3.out 6 _ rfl).nine))) (fun hHeldq21 => ?_)
                    clear hK K hHeldq20
                    try simp only [Act.put, List.setIfInBounds_toArray, List.set_cons_zero, List.set_cons_succ]
                    refine wpAnyH_ready (rs := [10]) (by kernel_rfl) (by simp) ?_
                    refine AllReadyH.cons (by simp only [List.getElem?_toArray, List.getElem?_cons_succ, List.getElem?_cons_zero]; rfl) (fun K hK => ?_) (AllReadyH.nil)
                    ((refine step_appE fT_len (by omega) rfl (.tmp 98) (.tmp 104) 32 rfl 70 i0 _ 16 Tryz.underlying32 HM0.out HM1.out HM2.out HM3.out Tryz.zsT ([] ++ S.votes) wc.heap.size ?_ [(x.a, x.b)] ?_ fT_one HK3.out HK4.out ?_ ?_); (repeat (first | exact HO1.out | refine OwnN.drewN ?_ _ | refine OwnN.drew ?_ | refine OwnN.alloc ?_ _)); (first | exact ⟨w2.heap.size, some ⟨wc.heap.size, 0, none⟩, 1, 1, rfl, SlN.of_block (f := fT) (t := 70) (fr := (0, 0)) HN1.out (by have := HBa.out.size; have := lt_of_block HN1.out; omega)⟩ | exact ⟨w2.heap.size, some ⟨wc.heap.size + 1, 0, none⟩, 1, 1, rfl, SlN.of_block (f := fT) (t := 70) (fr := (0, 0)) HN1.out (lt_of_block HN1.out)⟩ | exact ⟨w2.heap.size + 1, some ⟨w2.heap.size, 0, none⟩, 1, 1, rfl, new_fT w2 x.a x.b⟩); (first | exact HBa.out.size | exact Nat.le_trans HBa.out.size (by simp)); (intro v2 w3 HO2 HG2 HL2; (have HBb : Hid (Below wc.heap.size wc w3) := HL2.out _ _ (by (repeat (first | exact Below.refl _ _ | exact HBa.out | refine below_al ?_ _ | refine Below.drew ?_ | refine below_dN' ?_ _))) (Nat.le_refl _) (by first | exact HBa.out.size | exact Nat.le_trans HBa.out.size (by simp))); (have HBX3 := Lib.hid (HBX1.out.on HBb.out)); (obtain ⟨A6, c6, hv2, _, _, _⟩ := HO2.out.shape fT_len); (rw [HLT.out] at hv2); subst hv2; (have hst := HBX3.out.seven.2.2.2.2.2.2); (have hfr := HBX3.out.fr 6)))
                    refine hK.out _ _ (by (first | (refine (HBX1.out.on ?_).nine; (solve | (repeat (first | exact Below.refl _ _ | exact HBb.out | exact HBa.out | refine below_al ?_ _ | refine Below.drew ?_ | refine below_dN' ?_ _)))) | (exact (BX.set (r' := ⟨r1, r2, rq, h3, h4, h5, ⟨A6, r6.n + 1, c6⟩⟩) HBX3.out 6 _ rfl).nine))) (fun hHeldq22 => ?_)
                    clear hK K hHeldq21
                    try simp only [Act.put, List.setIfInBounds_toArray, List.set_cons_zero, List.set_cons_succ]
                    refine wpAnyH_take (i := 11) (v := ?q23v) (by simp only [List.getElem?_toArray, List.getElem?_cons_succ, List.getElem?_cons_zero]; rfl) (by kernel_rfl) (by kernel_rfl) (by kernel_rfl) (by exact fun _ _ _ h => h) (Or.inl ⟨by rfl, ?q23y⟩) (by assumption) ?q23r
                    case q23y => (intro w hSw; (try dsimp only at hSw); go_simp; try (with_reducible rfl))
                    try simp only [Act.put, List.setIfInBounds_toArray, List.set_cons_zero, List.set_cons_succ]
                    refine wpAnyH_ready (rs := [12]) (by kernel_rfl) (by simp) ?_
                    refine AllReadyH.cons (by simp only [List.getElem?_toArray, List.getElem?_cons_succ, List.getElem?_cons_zero]; rfl) (fun K hK => ?_) (AllReadyH.nil)
                    go_simp
                    refine hK.out _ _ (by (first | (refine (HBX1.out.on ?_).nine; (solve | (repeat (first | exact Below.refl _ _ | exact HBb.out | exact HBa.out | refine below_al ?_ _ | refine Below.drew ?_ | refine below_dN' ?_ _)))) | (exact (BX.set (r' := ⟨r1, r2, rq, h3, h4, h5, ⟨A6, r6.n + 1, c6⟩⟩) HBX3.out 6 _ rfl).nine))) (fun hHeldq24 => ?_)
                    clear hK K hHeldq22
                    try simp only [Act.put, List.setIfInBounds_toArray, List.set_cons_zero, List.set_cons_succ]
                    refine wpAnyH_done (by kernel_rfl) ?_ _
                    go_wp2_with fail
                    go_meet
                    case rel => exact ⟨⟨A6, r6.n + 1, c6⟩, rfl, AR.vts HA.out HBb.out, OwnN.set (HO2.out.down HBX1.out.lt) (by omega), apt_new HA.out.o4 HO2.out⟩
                · go_simp
                  refine hK.out _ _ (by (first | (refine (HBX1.out.on ?_).nine; (solve | (repeat (first | exact Below.refl _ _ | exact HBb.out | exact HBa.out | refine below_al ?_ _ | refine Below.drew ?_ | refine below_dN' ?_ _)))) | (exact (BX.set (r' := ⟨r1, r2, rq, h3, h4, h5, ⟨A6, r6.n + 1, c6⟩⟩) HBX3.out 6 _ rfl).nine))) (fun hHeldq25 => ?_)
                  clear hK K hHeld
                  try simp only [Act.put, List.setIfInBounds_toArray, List.set_cons_zero, List.set_cons_succ]
                  refine wpAnyH_ready (rs := [0, 9]) (by kernel_rfl) (by simp) ?_
                  refine AllReadyH.cons (by simp only [List.getElem?_toArray, List.getElem?_cons_zero]; rfl) (fun K hK => ?_) (AllReadyH.cons (by simp only [List.getElem?_toArray, List.getElem?_cons_succ, List.getElem?_cons_zero]; rfl) (fun K hK => ?_) (AllReadyH.nil))
                  · go_simp
                    refine hK.out _ _ (by (first | (refine (HBX1.out.on ?_).nine; (solve | (repeat (first | exact Below.refl _ _ | exact HBb.out | exact HBa.out | refine below_al ?_ _ | refine Below.drew ?_ | refine below_dN' ?_ _)))) | (exact (BX.set (r' := ⟨r1, r2, rq, h3, h4, h5, ⟨A6, r6.n + 1, c6⟩⟩) HBX3.out 6 _ rfl).nine))) (fun hHeldq26 => ?_)
                    clear hK K hHeldq25
                    try simp only [Act.put, List.setIfInBounds_toArray, List.set_cons_zero, List.set_cons_succ]
                    refine wpAnyH_ready (rs := [3, 9]) (by kernel_rfl) (by simp) ?_
                    refine AllReadyH.cons (by simp only [List.getElem?_toArray, List.getElem?_cons_succ, List.getElem?_cons_zero]; rfl) (fun K hK => ?_) (AllReadyH.cons (by simp only [List.getElem?_toArray, List.getElem?_cons_succ, List.getElem?_cons_zero]; rfl) (fun K hK => ?_) (AllReadyH.nil))
                    · ((refine step_appE fT_len (by omega) rfl (.tmp 95) (.tmp 97) 32 rfl 70 i0 _ 16 Tryz.underlying32 HM0.out HM1.out HM2.out HM3.out Tryz.zsT [] wc.heap.size ?_ S.votes ?_ fT_one HK1.out HK2.out ?_ ?_); (repeat (first | exact HEX.out | exact HEY.out _ | refine OwnN.drewN ?_ _ | refine OwnN.drew ?_ | refine OwnN.alloc ?_ _)); (refine ⟨wc.heap.size, r6.a, r6.n, r6.c, rfl, HVX.out _ ?_⟩; (repeat (first | exact Below.refl _ _ | refine below_al ?_ _ | refine Below.drew ?_ | refine below_dN' ?_ _))); (first | exact Nat.le_refl _ | (simp <;> omega)); (intro v1 w2 HO1 HG1 HL1; (have HBa : Hid (Below wc.heap.size wc w2) := HL1.out _ _ (by (repeat (first | exact Below.refl _ _ | refine below_al ?_ _ | refine Below.drew ?_ | refine below_dN' ?_ _))) (Nat.le_refl _) (by first | exact Nat.le_refl _ | (simp <;> omega))); (have HBX2 := Lib.hid (HBX1.out.on HBa.out)); (obtain ⟨y0, y1, y2, y3, y4, y5, y6, y7, y8⟩ := HBX2.out.nine); (have hl3 : w.heap.size < w2.heap.size := by have := HBX2.out.lt; omega); (have hl4 : w.heap.size + 1 < w2.heap.size := by have := HBX2.out.lt; omega); (first | (have HN1 : Hid (w2.heap[wc.heap.size]? = some (oT x.a x.b)) := keptN (k := wc.heap.size) (g := wc.heap.size + 1) HG1.out (.inl rfl) (by omega) (by first | exact (Below.heap_alloc _ _ _ (by simp)).trans (heap_alloc_new _ _) | exact heap_alloc_new _ _)) | (have HN1 : Hid (w2.heap[wc.heap.size + 1]? = some (oT x.a x.b)) := keptN (k := wc.heap.size + 1) (g := wc.heap.size) HG1.out (.inl rfl) (by omega) (by exact heap_new_at (by simp))) | skip)))
                      refine hK.out _ _ (by (first | (refine (HBX1.out.on ?_).nine; (solve | (repeat (first | exact Below.refl _ _ | exact HBb.out | exact HBa.out | refine below_al ?_ _ | refine Below.drew ?_ | refine below_dN' ?_ _)))) | (exact (BX.set (r' := ⟨r1, r2, rq, h3, h4, h5, ⟨A6, r6.n + 1, c6⟩⟩) HBX3.out 6 _ rfl).nine))) (fun hHeldq27 => ?_)
                      clear hK K hHeldq26
                      try simp only [Act.put, List.setIfInBounds_toArray, List.set_cons_zero, List.set_cons_succ]
                      refine wpAnyH_ready (rs := [9]) (by kernel_rfl) (by simp) ?_
                      refine AllReadyH.cons (by simp only [List.getElem?_toArray, List.getElem?_cons_succ, List.getElem?_cons_zero]; rfl) (fun K hK => ?_) (AllReadyH.nil)
                      go_simp
                      refine hK.out _ _ (by (first | (refine (HBX1.out.on ?_).nine; (solve | (repeat (first | exact Below.refl _ _ | exact HBb.out | exact HBa.out | refine below_al ?_ _ | refine Below.drew ?_ | refine below_dN' ?_ _)))) | (exact (BX.set (r' := ⟨r1, r2, rq, h3, h4, h5, ⟨A6, r6.n + 1, c6⟩⟩) HBX3.out 6 _ rfl).nine))) (fun hHeldq28 => ?_)
                      clear hK K hHeldq27
                      try simp only [Act.put, List.setIfInBounds_toArray, List.set_cons_zero, List.set_cons_succ]
                      refine wpAnyH_ready (rs := [10]) (by kernel_rfl) (by simp) ?_
                      refine AllReadyH.cons (by simp only [List.getElem?_toArray, List.getElem?_cons_succ, List.getElem?_cons_zero]; rfl) (fun K hK => ?_) (AllReadyH.nil)
                      ((refine step_appE fT_len (by omega) rfl (.tmp 98) (.tmp 104) 32 rfl 70 i0 _ 16 Tryz.underlying32 HM0.out HM1.out HM2.out HM3.out Tryz.zsT ([] ++ S.votes) wc.heap.size ?_ [(x.a, x.b)] ?_ fT_one HK3.out HK4.out ?_ ?_); (repeat (first | exact HO1.out | refine OwnN.drewN ?_ _ | refine OwnN.drew ?_ | refine OwnN.alloc ?_ _)); (first | exact ⟨w2.heap.size, some ⟨wc.heap.size, 0, none⟩, 1, 1, rfl, SlN.of_block (f := fT) (t := 70) (fr := (0, 0)) HN1.out (by have := HBa.out.size; have := lt_of_block HN1.out; omega)⟩ | exact ⟨w2.heap.size, some ⟨wc.heap.size + 1, 0, none⟩, 1, 1, rfl, SlN.of_block (f := fT) (t := 70) (fr := (0, 0)) HN1.out (lt_of_block HN1.out)⟩ | exact ⟨w2.heap.size + 1, some ⟨w2.heap.size, 0, none⟩, 1, 1, rfl, new_fT w2 x.a x.b⟩); (first | exact HBa.out.size | exact Nat.le_trans HBa.out.size (by simp)); (intro v2 w3 HO2 HG2 HL2; (have HBb : Hid (Below wc.heap.size wc w3) := HL2.out _ _ (by (repeat (first | exact Below.refl _ _ | exact HBa.out | refine below_al ?_ _ | refine Below.drew ?_ | refine below_dN' ?_ _))) (Nat.le_refl _) (by first | exact HBa.out.size | exact Nat.le_trans HBa.out.size (by simp))); (have HBX3 := Lib.hid (HBX1.out.on HBb.out)); (obtain ⟨A6, c6, hv2, _, _, _⟩ := HO2.out.shape fT_len); (rw [HLT.out] at hv2); subst hv2; (have hst := HBX3.out.seven.2.2.2.2.2.2); (have hfr := HBX3.out.fr 6)))
                      refine hK.out _ _ (by (first | (refine (HBX1.out.on ?_).nine; (solve | (repeat (first | exact Below.refl _ _ | exact HBb.out | exact HBa.out | refine below_al ?_ _ | refine Below.drew ?_ | refine below_dN' ?_ _)))) | (exact (BX.set (r' := ⟨r1, r2, rq, h3, h4, h5, ⟨A6, r6.n + 1, c6⟩⟩) HBX3.out 6 _ rfl).nine))) (fun hHeldq29 => ?_)
                      clear hK K hHeldq28
                      try simp only [Act.put, List.setIfInBounds_toArray, List.set_cons_zero, List.set_cons_succ]
                      refine wpAnyH_take (i := 11) (v := ?q30v) (by simp only [List.getElem?_toArray, List.getElem?_cons_succ, List.getElem?_cons_zero]; rfl) (by kernel_rfl) (by kernel_rfl) (by kernel_rfl) (by exact fun _ _ _ h => h) (Or.inl ⟨by rfl, ?q30y⟩) (by assumption) ?q30r
                      case q30y => (intro w hSw; (try dsimp only at hSw); go_simp; try (with_reducible rfl))
                      try simp only [Act.put, List.setIfInBounds_toArray, List.set_cons_zero, List.set_cons_succ]
                      refine wpAnyH_ready (rs := [12]) (by kernel_rfl) (by simp) ?_
                      refine AllReadyH.cons (by simp only [List.getElem?_toArray, List.getElem?_cons_succ, List.getElem?_cons_zero]; rfl) (fun K hK => ?_) (AllReadyH.nil)
                      go_simp
                      refine hK.out _ _ (by (first | (refine (HBX1.out.on ?_).nine; (solve | (repeat (first | exact Below.refl _ _ | exact HBb.out | exact HBa.out | refine below_al ?_ _ | refine Below.drew ?_ | refine below_dN' ?_ _)))) | (exact (BX.set (r' := ⟨r1, r2, rq, h3, h4, h5, ⟨A6, r6.n + 1, c6⟩⟩) HBX3.out 6 _ rfl).nine))) (fun hHeldq31 => ?_)
                      clear hK K hHeldq29
                      try simp only [Act.put, List.setIfInBounds_toArray, List.set_cons_zero, List.set_cons_succ]
                      refine wpAnyH_done (by kernel_rfl) ?_ _
                      go_wp2_with fail
                      go_meet
                      case rel => exact ⟨⟨A6, r6.n + 1, c6⟩, rfl, AR.vts HA.out HBb.out, OwnN.set (HO2.out.down HBX1.out.lt) (by omega), apt_new HA.out.o4 HO2.out⟩
                    · go_simp
                      refine hK.out _ _ (by (first | (refine (HBX1.out.on ?_).nine; (solve | (repeat (first | exact Below.refl _ _ | exact HBb.out | exact HBa.out | refine below_al ?_ _ | refine Below.drew ?_ | refine below_dN' ?_ _)))) | (exact (BX.set (r' := ⟨r1, r2, rq, h3, h4, h5, ⟨A6, r6.n + 1, c6⟩⟩) HBX3.out 6 _ rfl).nine))) (fun hHeldq32 => ?_)
                      clear hK K hHeldq26
                      try simp only [Act.put, List.setIfInBounds_toArray, List.set_cons_zero, List.set_cons_succ]
                      refine wpAnyH_ready (rs := [3]) (by kernel_rfl) (by simp) ?_
                      refine AllReadyH.cons (by simp only [List.getElem?_toArray, List.getElem?_cons_succ, List.getElem?_cons_zero]; rfl) (fun K hK => ?_) (AllReadyH.nil)
                      ((refine step_appE fT_len (by omega) rfl (.tmp 95) (.tmp 97) 32 rfl 70 i0 _ 16 Tryz.underlying32 HM0.out HM1.out HM2.out HM3.out Tryz.zsT [] wc.heap.size ?_ S.votes ?_ fT_one HK1.out HK2.out ?_ ?_); (repeat (first | exact HEX.out | exact HEY.out _ | refine OwnN.drewN ?_ _ | refine OwnN.drew ?_ | refine OwnN.alloc ?_ _)); (refine ⟨wc.heap.size, r6.a, r6.n, r6.c, rfl, HVX.out _ ?_⟩; (repeat (first | exact Below.refl _ _ | refine below_al ?_ _ | refine Below.drew ?_ | refine below_dN' ?_ _))); (first | exact Nat.le_refl _ | (simp <;> omega)); (intro v1 w2 HO1 HG1 HL1; (have HBa : Hid (Below wc.heap.size wc w2) := HL1.out _ _ (by (repeat (first | exact Below.refl _ _ | refine below_al ?_ _ | refine Below.drew ?_ | refine below_dN' ?_ _))) (Nat.le_refl _) (by first | exact Nat.le_refl _ | (simp <;> omega))); (have HBX2 := Lib.hid (HBX1.out.on HBa.out)); (obtain ⟨y0, y1, y2, y3, y4, y5, y6, y7, y8⟩ := HBX2.out.nine); (have hl3 : w.heap.size < w2.heap.size := by have := HBX2.out.lt; omega); (have hl4 : w.heap.size + 1 < w2.heap.size := by have := HBX2.out.lt; omega); (first | (have HN1 : Hid (w2.heap[wc.heap.size]? = some (oT x.a x.b)) := keptN (k := wc.heap.size) (g := wc.heap.size + 1) HG1.out (.inl rfl) (by omega) (by first | exact (Below.heap_alloc _ _ _ (by simp)).trans (heap_alloc_new _ _) | exact heap_alloc_new _ _)) | (have HN1 : Hid (w2.heap[wc.heap.size + 1]? = some (oT x.a x.b)) := keptN (k := wc.heap.size + 1) (g := wc.heap.size) HG1.out (.inl rfl) (by omega) (by exact heap_new_at (by simp))) | skip)))
                      refine hK.out _ _ (by (first | (refine (HBX1.out.on ?_).nine; (solve | (repeat (first | exact Below.refl _ _ | exact HBb.out | exact HBa.out | refine below_al ?_ _ | refine Below.drew ?_ | refine below_dN' ?_ _)))) | (exact (BX.set (r' := ⟨r1, r2, rq, h3, h4, h5, ⟨A6, r6.n + 1, c6⟩⟩) HBX3.out 6 _ rfl).nine))) (fun hHeldq33 => ?_)
                      clear hK K hHeldq32
                      try simp only [Act.put, List.setIfInBounds_toArray, List.set_cons_zero, List.set_cons_succ]
                      refine wpAnyH_ready (rs := [10]) (by kernel_rfl) (by simp) ?_
                      refine AllReadyH.cons (by simp only [List.getElem?_toArray, List.getElem?_cons_succ, List.getElem?_cons_zero]; rfl) (fun K hK => ?_) (AllReadyH.nil)
                      ((refine step_appE fT_len (by omega) rfl (.tmp 98) (.tmp 104) 32 rfl 70 i0 _ 16 Tryz.underlying32 HM0.out HM1.out HM2.out HM3.out Tryz.zsT ([] ++ S.votes) wc.heap.size ?_ [(x.a, x.b)] ?_ fT_one HK3.out HK4.out ?_ ?_); (repeat (first | exact HO1.out | refine OwnN.drewN ?_ _ | refine OwnN.drew ?_ | refine OwnN.alloc ?_ _)); (first | exact ⟨w2.heap.size, some ⟨wc.heap.size, 0, none⟩, 1, 1, rfl, SlN.of_block (f := fT) (t := 70) (fr := (0, 0)) HN1.out (by have := HBa.out.size; have := lt_of_block HN1.out; omega)⟩ | exact ⟨w2.heap.size, some ⟨wc.heap.size + 1, 0, none⟩, 1, 1, rfl, SlN.of_block (f := fT) (t := 70) (fr := (0, 0)) HN1.out (lt_of_block HN1.out)⟩ | exact ⟨w2.heap.size + 1, some ⟨w2.heap.size, 0, none⟩, 1, 1, rfl, new_fT w2 x.a x.b⟩); (first | exact HBa.out.size | exact Nat.le_trans HBa.out.size (by simp)); (intro v2 w3 HO2 HG2 HL2; (have HBb : Hid (Below wc.heap.size wc w3) := HL2.out _ _ (by (repeat (first | exact Below.refl _ _ | exact HBa.out | refine below_al ?_ _ | refine Below.drew ?_ | refine below_dN' ?_ _))) (Nat.le_refl _) (by first | exact HBa.out.size | exact Nat.le_trans HBa.out.size (by simp))); (have HBX3 := Lib.hid (HBX1.out.on HBb.out)); (obtain ⟨A6, c6, hv2, _, _, _⟩ := HO2.out.shape fT_len); (rw [HLT.out] at hv2); subst hv2; (have hst := HBX3.out.seven.2.2.2.2.2.2); (have hfr := HBX3.out.fr 6)))
                      refine hK.out _ _ (by (first | (refine (HBX1.out.on ?_).nine; (solve | (repeat (first | exact Below.refl _ _ | exact HBb.out | exact HBa.out | refine below_al ?_ _ | refine Below.drew ?_ | refine below_dN' ?_ _)))) | (exact (BX.set (r' := ⟨r1, r2, rq, h3, h4, h5, ⟨A6, r6.n + 1, c6⟩⟩) HBX3.out 6 _ rfl).nine))) (fun hHeldq34 => ?_)
                      clear hK K hHeldq33
                      try simp only [Act.put, List.setIfInBounds_toArray, List.set_cons_zero, List.set_cons_succ]
                      refine wpAnyH_take (i := 11) (v := ?q35v) (by simp only [List.getElem?_toArray, List.getElem?_cons_succ, List.getElem?_cons_zero]; rfl) (by kernel_rfl) (by kernel_rfl) (by kernel_rfl) (by exact fun _ _ _ h => h) (Or.inl ⟨by rfl, ?q35y⟩) (by assumption) ?q35r
                      case q35y => (intro w hSw; (try dsimp only at hSw); go_simp; try (with_reducible rfl))
                      try simp only [Act.put, List.setIfInBounds_toArray, List.set_cons_zero, List.set_cons_succ]
                      refine wpAnyH_ready (rs := [12]) (by kernel_rfl) (by simp) ?_
                      refine AllReadyH.cons (by simp only [List.getElem?_toArray, List.getElem?_cons_succ, List.getElem?_cons_zero]; rfl) (fun K hK => ?_) (AllReadyH.nil)
                      go_simp
                      refine hK.out _ _ (by (first | (refine (HBX1.out.on ?_).nine; (solve | (repeat (first | exact Below.refl _ _ | exact HBb.out | exact HBa.out | refine below_al ?_ _ | refine Below.drew ?_ | refine below_dN' ?_ _)))) | (exact (BX.set (r' := ⟨r1, r2, rq, h3, h4, h5, ⟨A6, r6.n + 1, c6⟩⟩) HBX3.out 6 _ rfl).nine))) (fun hHeldq36 => ?_)
                      clear hK K hHeldq34
                      try simp only [Act.put, List.setIfInBounds_toArray, List.set_cons_zero, List.set_cons_succ]
                      refine wpAnyH_done (by kernel_rfl) ?_ _
                      go_wp2_with fail
                      go_meet
                      case rel => exact ⟨⟨A6, r6.n + 1, c6⟩, rfl, AR.vts HA.out HBb.out, OwnN.set (HO2.out.down HBX1.out.lt) (by omega), apt_new HA.out.o4 HO2.out⟩
                  · go_simp
                    refine hK.out _ _ (by (first | (refine (HBX1.out.on ?_).nine; (solve | (repeat (first | exact Below.refl _ _ | exact HBb.out | exact HBa.out | refine below_al ?_ _ | refine Below.drew ?_ | refine below_dN' ?_ _)))) | (exact (BX.set (r' := ⟨r1, r2, rq, h3, h4, h5, ⟨A6, r6.n + 1, c6⟩⟩) HBX3.out 6 _ rfl).nine))) (fun hHeldq37 => ?_)
                    clear hK K hHeldq25
                    try simp only [Act.put, List.setIfInBounds_toArray, List.set_cons_zero, List.set_cons_succ]
                    refine wpAnyH_ready (rs := [0]) (by kernel_rfl) (by simp) ?_
                    refine AllReadyH.cons (by simp only [List.getElem?_toArray, List.getElem?_cons_zero]; rfl) (fun K hK => ?_) (AllReadyH.nil)
                    go_simp
                    refine hK.out _ _ (by (first | (refine (HBX1.out.on ?_).nine; (solve | (repeat (first | exact Below.refl _ _ | exact HBb.out | exact HBa.out | refine below_al ?_ _ | refine Below.drew ?_ | refine below_dN' ?_ _)))) | (exact (BX.set (r' := ⟨r1, r2, rq, h3, h4, h5, ⟨A6, r6.n + 1, c6⟩⟩) HBX3.out 6 _ rfl).nine))) (fun hHeldq38 => ?_)
                    clear hK K hHeldq37
                    try simp only [Act.put, List.setIfInBounds_toArray, List.set_cons_zero, List.set_cons_succ]
                    refine wpAnyH_ready (rs := [3]) (by kernel_rfl) (by simp) ?_
                    refine AllReadyH.cons (by simp only [List.getElem?_toArray, List.getElem?_cons_succ, List.getElem?_cons_zero]; rfl) (fun K hK => ?_) (AllReadyH.nil)
                    ((refine step_appE fT_len (by omega) rfl (.tmp 95) (.tmp 97) 32 rfl 70 i0 _ 16 Tryz.underlying32 HM0.out HM1.out HM2.out HM3.out Tryz.zsT [] wc.heap.size ?_ S.votes ?_ fT_one HK1.out HK2.out ?_ ?_); (repeat (first | exact HEX.out | exact HEY.out _ | refine OwnN.drewN ?_ _ | refine OwnN.drew ?_ | refine OwnN.alloc ?_ _)); (refine ⟨wc.heap.size, r6.a, r6.n, r6.c, rfl, HVX.out _ ?_⟩; (repeat (first | exact Below.refl _ _ | refine below_al ?_ _ | refine Below.drew ?_ | refine below_dN' ?_ _))); (first | exact Nat.le_refl _ | (simp <;> omega)); (intro v1 w2 HO1 HG1 HL1; (have HBa : Hid (Below wc.heap.size wc w2) := HL1.out _ _ (by (repeat (first | exact Below.refl _ _ | refine below_al ?_ _ | refine Below.drew ?_ | refine below_dN' ?_ _))) (Nat.le_refl _) (by first | exact Nat.le_refl _ | (simp <;> omega))); (have HBX2 := Lib.hid (HBX1.out.on HBa.out)); (obtain ⟨y0, y1, y2, y3, y4, y5, y6, y7, y8⟩ := HBX2.out.nine); (have hl3 : w.heap.size < w2.heap.size := by have := HBX2.out.lt; omega); (have hl4 : w.heap.size + 1 < w2.heap.size := by have := HBX2.out.lt; omega); (first | (have HN1 : Hid (w2.heap[wc.heap.size]? = some (oT x.a x.b)) := keptN (k := wc.heap.size) (g := wc.heap.size + 1) HG1.out (.inl rfl) (by omega) (by first | exact (Below.heap_alloc _ _ _ (by simp)).trans (heap_alloc_new _ _) | exact heap_alloc_new _ _)) | (have HN1 : Hid (w2.heap[wc.heap.size + 1]? = some (oT x.a x.b)) := keptN (k := wc.heap.size + 1) (g := wc.heap.size) HG1.out (.inl rfl) (by omega) (by exact heap_new_at (by simp))) | skip)))
                    refine hK.out _ _ (by (first | (refine (HBX1.out.on ?_).nine; (solve | (repeat (first | exact Below.refl _ _ | exact HBb.out | exact HBa.out | refine below_al ?_ _ | refine Below.drew ?_ | refine below_dN' ?_ _)))) | (exact (BX.set (r' := ⟨r1, r2, rq, h3, h4, h5, ⟨A6, r6.n + 1, c6⟩⟩) HBX3.out 6 _ rfl).nine))) (fun hHeldq39 => ?_)
                    clear hK K hHeldq38
                    try simp only [Act.put, List.setIfInBounds_toArray, List.set_cons_zero, List.set_cons_succ]
                    refine wpAnyH_ready (rs := [10]) (by kernel_rfl) (by simp) ?_
                    refine AllReadyH.cons (by simp only [List.getElem?_toArray, List.getElem?_cons_succ, List.getElem?_cons_zero]; rfl) (fun K hK => ?_) (AllReadyH.nil)
                    ((refine step_appE fT_len (by omega) rfl (.tmp 98) (.tmp 104) 32 rfl 70 i0 _ 16 Tryz.underlying32 HM0.out HM1.out HM2.out HM3.out Tryz.zsT ([] ++ S.votes) wc.heap.size ?_ [(x.a, x.b)] ?_ fT_one HK3.out HK4.out ?_ ?_); (repeat (first | exact HO1.out | refine OwnN.drewN ?_ _ | refine OwnN.drew ?_ | refine OwnN.alloc ?_ _)); (first | exact ⟨w2.heap.size, some ⟨wc.heap.size, 0, none⟩, 1, 1, rfl, SlN.of_block (f := fT) (t := 70) (fr := (0, 0)) HN1.out (by have := HBa.out.size; have := lt_of_block HN1.out; omega)⟩ | exact ⟨w2.heap.size, some ⟨wc.heap.size + 1, 0, none⟩, 1, 1, rfl, SlN.of_block (f := fT) (t := 70) (fr := (0, 0)) HN1.out (lt_of_block HN1.out)⟩ | exact ⟨w2.heap.size + 1, some ⟨w2.heap.size, 0, none⟩, 1, 1, rfl, new_fT w2 x.a x.b⟩); (first | exact HBa.out.size | exact Nat.le_trans HBa.out.size (by simp)); (intro v2 w3 HO2 HG2 HL2; (have HBb : Hid (Below wc.heap.size wc w3) := HL2.out _ _ (by (repeat (first | exact Below.refl _ _ | exact HBa.out | refine below_al ?_ _ | refine Below.drew ?_ | refine below_dN' ?_ _))) (Nat.le_refl _) (by first | exact HBa.out.size | exact Nat.le_trans HBa.out.size (by simp))); (have HBX3 := Lib.hid (HBX1.out.on HBb.out)); (obtain ⟨A6, c6, hv2, _, _, _⟩ := HO2.out.shape fT_len); (rw [HLT.out] at hv2); subst hv2; (have hst := HBX3.out.seven.2.2.2.2.2.2); (have hfr := HBX3.out.fr 6)))
                    refine hK.out _ _ (by (first | (refine (HBX1.out.on ?_).nine; (solve | (repeat (first | exact Below.refl _ _ | exact HBb.out | exact HBa.out | refine below_al ?_ _ | refine Below.drew ?_ | refine below_dN' ?_ _)))) | (exact (BX.set (r' := ⟨r1, r2, rq, h3, h4, h5, ⟨A6, r6.n + 1, c6⟩⟩) HBX3.out 6 _ rfl).nine))) (fun hHeldq40 => ?_)
                    clear hK K hHeldq39
                    try simp only [Act.put, List.setIfInBounds_toArray, List.set_cons_zero, List.set_cons_succ]
                    refine wpAnyH_take (i := 11) (v := ?q41v) (by simp only [List.getElem?_toArray, List.getElem?_cons_succ, List.getElem?_cons_zero]; rfl) (by kernel_rfl) (by kernel_rfl) (by kernel_rfl) (by exact fun _ _ _ h => h) (Or.inl ⟨by rfl, ?q41y⟩) (by assumption) ?q41r
                    case q41y => (intro w hSw; (try dsimp only at hSw); go_simp; try (with_reducible rfl))
                    try simp only [Act.put, List.setIfInBounds_toArray, List.set_cons_zero, List.set_cons_succ]
                    refine wpAnyH_ready (rs := [12]) (by kernel_rfl) (by simp) ?_
                    refine AllReadyH.cons (by simp only [List.getElem?_toArray, List.getElem?_cons_succ, List.getElem?_cons_zero]; rfl) (fun K hK => ?_) (AllReadyH.nil)
                    go_simp
                    refine hK.out _ _ (by (first | (refine (HBX1.out.on ?_).nine; (solve | (repeat (first | exact Below.refl _ _ | exact HBb.out | exact HBa.out | refine below_al ?_ _ | refine Below.drew ?_ | refine below_dN' ?_ _)))) | (exact (BX.set (r' := ⟨r1, r2, rq, h3, h4, h5, ⟨A6, r6.n + 1, c6⟩⟩) HBX3.out 6 _ rfl).nine))) (fun hHeldq42 => ?_)
                    clear hK K hHeldq40
                    try simp only [Act.put, List.setIfInBounds_toArray, List.set_cons_zero, List.set_cons_succ]
                    refine wpAnyH_done (by kernel_rfl) ?_ _
                    go_wp2_with fail
                    go_meet
                    case rel => exact ⟨⟨A6, r6.n + 1, c6⟩, rfl, AR.vts HA.out HBb.out, OwnN.set (HO2.out.down HBX1.out.lt) (by omega), apt_new HA.out.o4 HO2.out⟩
                · go_simp
                  refine hK.out _ _ (by (first | (refine (HBX1.out.on ?_).nine; (solve | (repeat (first | exact Below.refl _ _ | exact HBb.out | exact HBa.out | refine below_al ?_ _ | refine Below.drew ?_ | refine below_dN' ?_ _)))) | (exact (BX.set (r' := ⟨r1, r2, rq, h3, h4, h5, ⟨A6, r6.n + 1, c6⟩⟩) HBX3.out 6 _ rfl).nine))) (fun hHeldq43 => ?_)
                  clear hK K hHeld
                  try simp only [Act.put, List.setIfInBounds_toArray, List.set_cons_zero, List.set_cons_succ]
                  refine wpAnyH_ready (rs := [0, 2]) (by kernel_rfl) (by simp) ?_
                  refine AllReadyH.cons (by simp only [List.getElem?_toArray, List.getElem?_cons_zero]; rfl) (fun K hK => ?_) (AllReadyH.cons (by simp only [List.getElem?_toArray, List.getElem?_cons_succ, List.getElem?_cons_zero]; rfl) (fun K hK => ?_) (AllReadyH.nil))
                  · go_simp
                    refine hK.out _ _ (by (first | (refine (HBX1.out.on ?_).nine; (solve | (repeat (first | exact Below.refl _ _ | exact HBb.out | exact HBa.out | refine below_al ?_ _ | refine Below.drew ?_ | refine below_dN' ?_ _)))) | (exact (BX.set (r' := ⟨r1, r2, rq, h3, h4, h5, ⟨A6, r6.n + 1, c6⟩⟩) HBX3.out 6 _ rfl).nine))) (fun hHeldq44 => ?_)
                    clear hK K hHeldq43
                    try simp only [Act.put, List.setIfInBounds_toArray, List.set_cons_zero, List.set_cons_succ]
                    refine wpAnyH_ready (rs := [2]) (by kernel_rfl) (by simp) ?_
                    refine AllReadyH.cons (by simp only [List.getElem?_toArray, List.getElem?_cons_succ, List.getElem?_cons_zero]; rfl) (fun K hK => ?_) (AllReadyH.nil)
                    go_simp
                    refine hK.out _ _ (by (first | (refine (HBX1.out.on ?_).nine; (solve | (repeat (first | exact Below.refl _ _ | exact HBb.out | exact HBa.out | refine below_al ?_ _ | refine Below.drew ?_ | refine below_dN' ?_ _)))) | (exact (BX.set (r' := ⟨r1, r2, rq, h3, h4, h5, ⟨A6, r6.n + 1, c6⟩⟩) HBX3.out 6 _ rfl).nine))) (fun hHeldq45 => ?_)
                    clear hK K hHeldq44
                    try simp only [Act.put, List.setIfInBounds_toArray, List.set_cons_zero, List.set_cons_succ]
                    refine wpAnyH_ready (rs := [3]) (by kernel_rfl) (by simp) ?_
                    refine AllReadyH.cons (by simp only [List.getElem?_toArray, List.getElem?_cons_succ, List.getElem?_cons_zero]; rfl) (fun K hK => ?_) (AllReadyH.nil)
                    ((refine step_appE fT_len (by omega) rfl (.tmp 95) (.tmp 97) 32 rfl 70 i0 _ 16 Tryz.underlying32 HM0.out HM1.out HM2.out HM3.out Tryz.zsT [] wc.heap.size ?_ S.votes ?_ fT_one HK1.out HK2.out ?_ ?_); (repeat (first | exact HEX.out | exact HEY.out _ | refine OwnN.drewN ?_ _ | refine OwnN.drew ?_ | refine OwnN.alloc ?_ _)); (refine ⟨wc.heap.size, r6.a, r6.n, r6.c, rfl, HVX.out _ ?_⟩; (repeat (first | exact Below.refl _ _ | refine below_al ?_ _ | refine Below.drew ?_ | refine below_dN' ?_ _))); (first | exact Nat.le_refl _ | (simp <;> omega)); (intro v1 w2 HO1 HG1 HL1; (have HBa : Hid (Below wc.heap.size wc w2) := HL1.out _ _ (by (repeat (first | exact Below.refl _ _ | refine below_al ?_ _ | refine Below.drew ?_ | refine below_dN' ?_ _))) (Nat.le_refl _) (by first | exact Nat.le_refl _ | (simp <;> omega))); (have HBX2 := Lib.hid (HBX1.out.on HBa.out)); (obtain ⟨y0, y1, y2, y3, y4, y5, y6, y7, y8⟩ := HBX2.out.nine); (have hl3 : w.heap.size < w2.heap.size := by have := HBX2.out.lt; omega); (have hl4 : w.heap.size + 1 < w2.heap.size := by have := HBX2.out.lt; omega); (first | (have HN1 : Hid (w2.heap[wc.heap.size]? = some (oT x.a x.b)) := keptN (k := wc.heap.size) (g := wc.heap.size + 1) HG1.out (.inl rfl) (by omega) (by first | exact (Below.heap_alloc _ _ _ (by simp)).trans (heap_alloc_new _ _) | exact heap_alloc_new _ _)) | (have HN1 : Hid (w2.heap[wc.heap.size + 1]? = some (oT x.a x.b)) := keptN (k := wc.heap.size + 1) (g := wc.heap.size) HG1.out (.inl rfl) (by omega) (by exact heap_new_at (by simp))) | skip)))
                    refine hK.out _ _ (by (first | (refine (HBX1.out.on ?_).nine; (solve | (repeat (first | exact Below.refl _ _ | exact HBb.out | exact HBa.out | refine below_al ?_ _ | refine Below.drew ?_ | refine below_dN' ?_ _)))) | (exact (BX.set (r' := ⟨r1, r2, rq, h3, h4, h5, ⟨A6, r6.n + 1, c6⟩⟩) HBX3.out 6 _ rfl).nine))) (fun hHeldq46 => ?_)
                    clear hK K hHeldq45
                    try simp only [Act.put, List.setIfInBounds_toArray, List.set_cons_zero, List.set_cons_succ]
                    refine wpAnyH_ready (rs := [10]) (by kernel_rfl) (by simp) ?_
                    refine AllReadyH.cons (by simp only [List.getElem?_toArray, List.getElem?_cons_succ, List.getElem?_cons_zero]; rfl) (fun K hK => ?_) (AllReadyH.nil)
                    ((refine step_appE fT_len (by omega) rfl (.tmp 98) (.tmp 104) 32 rfl 70 i0 _ 16 Tryz.underlying32 HM0.out HM1.out HM2.out HM3.out Tryz.zsT ([] ++ S.votes) wc.heap.size ?_ [(x.a, x.b)] ?_ fT_one HK3.out HK4.out ?_ ?_); (repeat (first | exact HO1.out | refine OwnN.drewN ?_ _ | refine OwnN.drew ?_ | refine OwnN.alloc ?_ _)); (first | exact ⟨w2.heap.size, some ⟨wc.heap.size, 0, none⟩, 1, 1, rfl, SlN.of_block (f := fT) (t := 70) (fr := (0, 0)) HN1.out (by have := HBa.out.size; have := lt_of_block HN1.out; omega)⟩ | exact ⟨w2.heap.size, some ⟨wc.heap.size + 1, 0, none⟩, 1, 1, rfl, SlN.of_block (f := fT) (t := 70) (fr := (0, 0)) HN1.out (lt_of_block HN1.out)⟩ | exact ⟨w2.heap.size + 1, some ⟨w2.heap.size, 0, none⟩, 1, 1, rfl, new_fT w2 x.a x.b⟩); (first | exact HBa.out.size | exact Nat.le_trans HBa.out.size (by simp)); (intro v2 w3 HO2 HG2 HL2; (have HBb : Hid (Below wc.heap.size wc w3) := HL2.out _ _ (by (repeat (first | exact Below.refl _ _ | exact HBa.out | refine below_al ?_ _ | refine Below.drew ?_ | refine below_dN' ?_ _))) (Nat.le_refl _) (by first | exact HBa.out.size | exact Nat.le_trans HBa.out.size (by simp))); (have HBX3 := Lib.hid (HBX1.out.on HBb.out)); (obtain ⟨A6, c6, hv2, _, _, _⟩ := HO2.out.shape fT_len); (rw [HLT.out] at hv2); subst hv2; (have hst := HBX3.out.seven.2.2.2.2.2.2); (have hfr := HBX3.out.fr 6)))
                    refine hK.out _ _ (by (first | (refine (HBX1.out.on ?_).nine; (solve | (repeat (first | exact Below.refl _ _ | exact HBb.out | exact HBa.out | refine below_al ?_ _ | refine Below.drew ?_ | refine below_dN' ?_ _)))) | (exact (BX.set (r' := ⟨r1, r2, rq, h3, h4, h5, ⟨A6, r6.n + 1, c6⟩⟩) HBX3.out 6 _ rfl).nine))) (fun hHeldq47 => ?_)
                    clear hK K hHeldq46
                    try simp only [Act.put, List.setIfInBounds_toArray, List.set_cons_zero, List.set_cons_succ]
                    refine wpAnyH_take (i := 11) (v := ?q48v) (by simp only [List.getElem?_toArray, List.getElem?_cons_succ, List.getElem?_cons_zero]; rfl) (by kernel_rfl) (by kernel_rfl) (by kernel_rfl) (by exact fun _ _ _ h => h) (Or.inl ⟨by rfl, ?q48y⟩) (by assumption) ?q48r
                    case q48y => (intro w hSw; (try dsimp only at hSw); go_simp; try (with_reducible rfl))
                    try simp only [Act.put, List.setIfInBounds_toArray, List.set_cons_zero, List.set_cons_succ]
                    refine wpAnyH_ready (rs := [12]) (by kernel_rfl) (by simp) ?_
                    refine AllReadyH.cons (by simp only [List.getElem?_toArray, List.getElem?_cons_succ, List.getElem?_cons_zero]; rfl) (fun K hK => ?_) (AllReadyH.nil)
                    go_simp
                    refine hK.out _ _ (by (first | (refine (HBX1.out.on ?_).nine; (solve | (repeat (first | exact Below.refl _ _ | exact HBb.out | exact HBa.out | refine below_al ?_ _ | refine Below.drew ?_ | refine below_dN' ?_ _)))) | (exact (BX.set (r' := ⟨r1, r2, rq, h3, h4, h5, ⟨A6, r6.n + 1, c6⟩⟩) HBX3.out 6 _ rfl).nine))) (fun hHeldq49 => ?_)
                    clear hK K hHeldq47
                    try simp only [Act.put, List.setIfInBounds_toArray, List.set_cons_zero, List.set_cons_succ]
                    refine wpAnyH_done (by kernel_rfl) ?_ _
                    go_wp2_with fail
                    go_meet
                    case rel => exact ⟨⟨A6, r6.n + 1, c6⟩, rfl, AR.vts HA.out HBb.out, OwnN.set (HO2.out.down HBX1.out.lt) (by omega), apt_new HA.out.o4 HO2.out⟩
                  · go_simp
                    refine hK.out _ _ (by (first | (refine (HBX1.out.on ?_).nine; (solve | (repeat (first | exact Below.refl _ _ | exact HBb.out | exact HBa.out | refine below_al ?_ _ | refine Below.drew ?_ | refine below_dN' ?_ _)))) | (exact (BX.set (r' := ⟨r1, r2, rq, h3, h4, h5, ⟨A6, r6.n + 1, c6⟩⟩) HBX3.out 6 _ rfl).nine))) (fun hHeldq50 => ?_)
                    clear hK K hHeldq43
                    try simp only [Act.put, List.setIfInBounds_toArray, List.set_cons_zero, List.set_cons_succ]
                    refine wpAnyH_ready (rs := [0]) (by kernel_rfl) (by simp) ?_
                    refine AllReadyH.cons (by simp only [List.getElem?_toArray, List.getElem?_cons_zero]; rfl) (fun K hK => ?_) (AllReadyH.nil)
                    go_simp
                    refine hK.out _ _ (by (first | (refine (HBX1.out.on ?_).nine; (solve | (repeat (first | exact Below.refl _ _ | exact HBb.out | exact HBa.out | refine below_al ?_ _ | refine Below.drew ?_ | refine below_dN' ?_ _)))) | (exact (BX.set (r' := ⟨r1, r2, rq, h3, h4, h5, ⟨A6, r6.n + 1, c6⟩⟩) HBX3.out 6 _ rfl).nine))) (fun hHeldq51 => ?_)
                    clear hK K hHeldq50
                    try simp only [Act.put, List.setIfInBounds_toArray, List.set_cons_zero, List.set_cons_succ]
                    refine wpAnyH_ready (rs := [3]) (by kernel_rfl) (by simp) ?_
                    refine AllReadyH.cons (by simp only [List.getElem?_toArray, List.getElem?_cons_succ, List.getElem?_cons_zero]; rfl) (fun K hK => ?_) (AllReadyH.nil)
                    ((refine step_appE fT_len (by omega) rfl (.tmp 95) (.tmp 97) 32 rfl 70 i0 _ 16 Tryz.underlying32 HM0.out HM1.out HM2.out HM3.out Tryz.zsT [] wc.heap.size ?_ S.votes ?_ fT_one HK1.out HK2.out ?_ ?_); (repeat (first | exact HEX.out | exact HEY.out _ | refine OwnN.drewN ?_ _ | refine OwnN.drew ?_ | refine OwnN.alloc ?_ _)); (refine ⟨wc.heap.size, r6.a, r6.n, r6.c, rfl, HVX.out _ ?_⟩; (repeat (first | exact Below.refl _ _ | refine below_al ?_ _ | refine Below.drew ?_ | refine below_dN' ?_ _))); (first | exact Nat.le_refl _ | (simp <;> omega)); (intro v1 w2 HO1 HG1 HL1; (have HBa : Hid (Below wc.heap.size wc w2) := HL1.out _ _ (by (repeat (first | exact Below.refl _ _ | refine below_al ?_ _ | refine Below.drew ?_ | refine below_dN' ?_ _))) (Nat.le_refl _) (by first | exact Nat.le_refl _ | (simp <;> omega))); (have HBX2 := Lib.hid (HBX1.out.on HBa.out)); (obtain ⟨y0, y1, y2, y3, y4, y5, y6, y7, y8⟩ := HBX2.out.nine); (have hl3 : w.heap.size < w2.heap.size := by have := HBX2.out.lt; omega); (have hl4 : w.heap.size + 1 < w2.heap.size := by have := HBX2.out.lt; omega); (first | (have HN1 : Hid (w2.heap[wc.heap.size]? = some (oT x.a x.b)) := keptN (k := wc.heap.size) (g := wc.heap.size + 1) HG1.out (.inl rfl) (by omega) (by first | exact (Below.heap_alloc _ _ _ (by simp)).trans (heap_alloc_new _ _) | exact heap_alloc_new _ _)) | (have HN1 : Hid (w2.heap[wc.heap.size + 1]? = some (oT x.a x.b)) := keptN (k := wc.heap.size + 1) (g := wc.heap.size) HG1.out (.inl rfl) (by omega) (by exact heap_new_at (by simp))) | skip)))
                    refine hK.out _ _ (by (first | (refine (HBX1.out.on ?_).nine; (solve | (repeat (first | exact Below.refl _ _ | exact HBb.out | exact HBa.out | refine below_al ?_ _ | refine Below.drew ?_ | refine below_dN' ?_ _)))) | (exact (BX.set (r' := ⟨r1, r2, rq, h3, h4, h5, ⟨A6, r6.n + 1, c6⟩⟩) HBX3.out 6 _ rfl).nine))) (fun hHeldq52 => ?_)
                    clear hK K hHeldq51
                    try simp only [Act.put, List.setIfInBounds_toArray, List.set_cons_zero, List.set_cons_succ]
                    refine wpAnyH_ready (rs := [10]) (by kernel_rfl) (by simp) ?_
                    refine AllReadyH.cons (by simp only [List.getElem?_toArray, List.getElem?_cons_succ, List.getElem?_cons_zero]; rfl) (fun K hK => ?_) (AllReadyH.nil)
                    ((refine step_appE fT_len (by omega) rfl (.tmp 98) (.tmp 104) 32 rfl 70 i0 _ 16 Tryz.underlying32 HM0.out HM1.out HM2.out HM3.out Tryz.zsT ([] ++ S.votes) wc.heap.size ?_ [(x.a, x.b)] ?_ fT_one HK3.out HK4.out ?_ ?_); (repeat (first | exact HO1.out | refine OwnN.drewN ?_ _ | refine OwnN.drew ?_ | refine OwnN.alloc ?_ _)); (first | exact ⟨w2.heap.size, some ⟨wc.heap.size, 0, none⟩, 1, 1, rfl, SlN.of_block (f := fT) (t := 70) (fr := (0, 0)) HN1.out (by have := HBa.out.size; have := lt_of_block HN1.out; omega)⟩ | exact ⟨w2.heap.size, some ⟨wc.heap.size + 1, 0, none⟩, 1, 1, rfl, SlN.of_block (f := fT) (t := 70) (fr := (0, 0)) HN1.out (lt_of_block HN1.out)⟩ | exact ⟨w2.heap.size + 1, some ⟨w2.heap.size, 0, none⟩, 1, 1, rfl, new_fT w2 x.a x.b⟩); (first | exact HBa.out.size | exact Nat.le_trans HBa.out.size (by simp)); (intro v2 w3 HO2 HG2 HL2; (have HBb : Hid (Below wc.heap.size wc w3) := HL2.out _ _ (by (repeat (first | exact Below.refl _ _ | exact HBa.out | refine below_al ?_ _ | refine Below.drew ?_ | refine below_dN' ?_ _))) (Nat.le_refl _) (by first | exact HBa.out.size | exact Nat.le_trans HBa.out.size (by simp))); (have HBX3 := Lib.hid (HBX1.out.on HBb.out)); (obtain ⟨A6, c6, hv2, _, _, _⟩ := HO2.out.shape fT_len); (rw [HLT.out] at hv2); subst hv2; (have hst := HBX3.out.seven.2.2.2.2.2.2); (have hfr := HBX3.out.fr 6)))
                    refine hK.out _ _ (by (first | (refine (HBX1.out.on ?_).nine; (solve | (repeat (first | exact Below.refl _ _ | exact HBb.out | exact HBa.out | refine below_al ?_ _ | refine Below.drew ?_ | refine below_dN' ?_ _)))) | (exact (BX.set (r' := ⟨r1, r2, rq, h3, h4, h5, ⟨A6, r6.n + 1, c6⟩⟩) HBX3.out 6 _ rfl).nine))) (fun hHeldq53 => ?_)
                    clear hK K hHeldq52
                    try simp only [Act.put, List.setIfInBounds_toArray, List.set_cons_zero, List.set_cons_succ]
                    refine wpAnyH_take (i := 11) (v := ?q54v) (by simp only [List.getElem?_toArray, List.getElem?_cons_succ, List.getElem?_cons_zero]; rfl) (by kernel_rfl) (by kernel_rfl) (by kernel_rfl) (by exact fun _ _ _ h => h) (Or.inl ⟨by rfl, ?q54y⟩) (by assumption) ?q54r
                    case q54y => (intro w hSw; (try dsimp only at hSw); go_simp; try (with_reducible rfl))
                    try simp only [Act.put, List.setIfInBounds_toArray, List.set_cons_zero, List.set_cons_succ]
                    refine wpAnyH_ready (rs := [12]) (by kernel_rfl) (by simp) ?_
                    refine AllReadyH.cons (by simp only [List.getElem?_toArray, List.getElem?_cons_succ, List.getElem?_cons_zero]; rfl) (fun K hK => ?_) (AllReadyH.nil)
                    go_simp
                    refine hK.out _ _ (by (first | (refine (HBX1.out.on ?_).nine; (solve | (repeat (first | exact Below.refl _ _ | exact HBb.out | exact HBa.out | refine below_al ?_ _ | refine Below.drew ?_ | refine below_dN' ?_ _)))) | (exact (BX.set (r' := ⟨r1, r2, rq, h3, h4, h5, ⟨A6, r6.n + 1, c6⟩⟩) HBX3.out 6 _ rfl).nine))) (fun hHeldq55 => ?_)
                    clear hK K hHeldq53
                    try simp only [Act.put, List.setIfInBounds_toArray, List.set_cons_zero, List.set_cons_succ]
                    refine wpAnyH_done (by kernel_rfl) ?_ _
                    go_wp2_with fail
                    go_meet
                    case rel => exact ⟨⟨A6, r6.n + 1, c6⟩, rfl, AR.vts HA.out HBb.out, OwnN.set (HO2.out.down HBX1.out.lt) (by omega), apt_new HA.out.o4 HO2.out⟩
                -- END wb1
              case rest =>
                -- PART wb2
                obtain ⟨h6, hn6, hA6, hO6, hap⟩ := hcut
                have HN46 := Lib.hid hap
                have HN4' : Hid (h4.n = S.ms.length) := HN4.out.trans HMN.out.symm
                obtain ⟨A4, n4, c4⟩ := h4
                have hmp : 0 < S.ms.length := by
                  have h5 := hasB_iff.1 (votE_ok HVE.out).2.1
                  omega
                obtain ⟨g4, hg4⟩ := OwnN.blk fM_len hA6.o4 hmp
                dsimp only at *
                obtain rfl : A4 = some ⟨g4, 0, none⟩ := hg4
                obtain rfl : n4 = r4.n := HN4.out
                clear hmp
                have HA6 := Lib.hid hA6
                have HN6 := Lib.hid hn6
                have HO6 := Lib.hid hO6
                clear hap HVX HEX HEY HBX1 hl1 hl2 HM0 HM1 HM2 HM3 HK1 HK2 HK3 HK4 HLT z0 z1 z2 z3 z4 z5 z6 y0 y1 y2 y3 y4 y5 y6 y7 y8 hA6 hn6 hO6
                obtain ⟨hva, hvb, haa, hne, hab, hvv⟩ := votE_ok HVE.out
                obtain ⟨hb0, hb1⟩ := hasB_iff.1 hvb
                obtain ⟨b, hxb⟩ : ∃ b : Nat, x.b = b := ⟨x.b.toNat, by omega⟩
                have HXB := Lib.hid hxb
                rw [hxb] at hb1
                have hb2 : b < S.ms.length := by omega
                obtain ⟨m, hm⟩ := get_ex hb2
                have HM := Lib.hid hm
                have HME : Hid (m.exp = false) := by
                  show _ = _
                  rw [actB_get' hm]
                  have h5 := hab
                  unfold actI at h5
                  rw [hxb, show ((b : Nat) : Int).toNat = b by omega] at h5
                  rw [h5]; rfl
                have HLEN : Hid ((S.votes ++ [(x.a, x.b)]).length ≤ 1000) := by show _ ≤ _; have := votes_bound HI.out; simp; omega
                have HND : Hid ((vot1 S x.a x.b).votes.Nodup) := by show List.Nodup _; have h5 := (votS_inv HI.out HVE.out).nd; rw [votS_votes] at h5; exact h5
                have HSV : Hid (SlN fT 2 wc wc.heap.size h6.a h6.n (vot1 S x.a x.b).votes) := OwnN.sl fT_len HO6.out
                have HFV : Hid (0 < h6.n → ∀ ad, h6.a = some ad → P ad.block ∧ ad.block ≠ w.heap.size + 2) := fun _ ad e => by have := (World.ownsRow.lt HO6.out ad.block (by show (Value.slice h6.a h6.n h6.c).ownBlock = _; rw [e]; rfl)).1; exact ⟨HP.out _ (by omega), by omega⟩
                have HRC : Hid (RefC wc wc.heap.size ⟨r1, r2, rq, h3, ⟨some ⟨g4, 0, none⟩, r4.n, c4⟩, h5, h6⟩ (vot1 S x.a x.b)) := (AR.refq (P := fun _ => True) (fun _ _ => trivial) HA6.out (by rw [HL3.out]; omega) (HN3.out.trans HL3.out.symm) HMN.out.symm (HN5.out.trans HVN.out.symm) (fun p hp => ⟨(VIn.far (P := P) HVI.out HPW.out HA6.out.bx.bel p hp).1, fun _ _ _ => trivial⟩) HSV.out (fun _ _ _ => trivial) HC.out.ref.q rfl HPS.out).ref
                have HCT : Hid (∀ V, Below wc.heap.size wc V → Calls Tryz.prog 25 #[(⟨r1, r2, rq, h3, ⟨some ⟨g4, 0, none⟩, r4.n, c4⟩, h5, h6⟩ : RV).val, .int .i64 (b : Int)] V (OwnI (counting (vot1 S x.a x.b) x.b) V)) := fun V h => by
                  rw [← HXB.out]
                  exact rCount_any _ (vot1 S x.a x.b) x.b V (HRC.out.on h) (Nat.le_trans HI.out.n12 (by decide)) HLEN.out HND.out
                have HF7 : Hid (∀ V, Below wc.heap.size wc V → BX w V ⟨r1, r2, rq, h3, ⟨some ⟨g4, 0, none⟩, r4.n, c4⟩, h5, h6⟩ x) := fun V h => HA6.out.bx.on h
                obtain ⟨ob, hob⟩ : ∃ z, outB S x.a x.b = z := ⟨_, rfl⟩
                have HOB := Lib.hid hob
                have HLE : Hid (decide (rq ≤ ((counting (vot1 S x.a x.b) x.b).length : Int)) = ob) := by show _ = _; rw [← hob, show rq = S.q from HC.out.ref.q]; rfl
                obtain ⟨z0, z1, z2, z3, z4, z5, z6⟩ := HA6.out.bx.seven
                obtain ⟨y0, y1, y2, y3, y4, y5, y6, y7, y8⟩ := HA6.out.bx.nine
                rw [HXB.out] at y8
                clear hva hvb haa hne hab hvv hb0 hxb hm hob
                go_wp2_with fail
                go_region_held3 (fun w' => w'.cell? ⟨w.heap.size, 0, none⟩ = some (.slice r1.a r1.n r1.c) ∧ w'.cell? ⟨w.heap.size, 1, none⟩ = some (.slice r2.a r2.n r2.c) ∧ w'.cell? ⟨w.heap.size, 2, none⟩ = some (.int .i64 rq) ∧ w'.cell? ⟨w.heap.size, 3, none⟩ = some (.slice h3.a h3.n h3.c) ∧ w'.cell? ⟨w.heap.size, 4, none⟩ = some (.slice (some ⟨g4, 0, none⟩) r4.n c4) ∧ w'.cell? ⟨w.heap.size, 5, none⟩ = some (.slice h5.a h5.n h5.c) ∧ w'.cell? ⟨w.heap.size, 6, none⟩ = some (.slice h6.a h6.n h6.c) ∧ w'.cell? ⟨w.heap.size + 1, 8, none⟩ = some (.int .i64 (b : Int))) (first | (obtain ⟨a0, a1, a2, a3, a4, a5, a6⟩ := (HF7.out w9 HB9.out).seven; obtain ⟨_, _, _, _, _, _, _, _, b8⟩ := (HF7.out w9 HB9.out).nine; rw [HXB.out] at b8; exact ⟨a0, a1, a2, a3, a4, a5, a6, b8⟩) | (obtain ⟨a0, a1, a2, a3, a4, a5, a6⟩ := (HF7.out wc (Below.refl _ _)).seven; obtain ⟨_, _, _, _, _, _, _, _, b8⟩ := (HF7.out wc (Below.refl _ _)).nine; rw [HXB.out] at b8; exact ⟨a0, a1, a2, a3, a4, a5, a6, b8⟩)) ((go_at_call 25; refine (HCT.out _ (by (repeat (first | exact Below.refl _ _ | exact HB9.out | refine below_al ?_ _ | refine Below.drew ?_ | refine below_dN' ?_ _)))).mono ?_; rintro e w9 ⟨v9, rfl, ho9, hb9⟩; (have HB9 : Hid (Below wc.heap.size wc w9) := Below.trans (by (repeat (first | exact Below.refl _ _ | exact HB9.out | refine below_al ?_ _ | refine Below.drew ?_ | refine below_dN' ?_ _))) (hb9.mono (by first | exact Nat.le_refl _ | exact Nat.le_of_eq rfl))); (obtain ⟨A9, c9, hv9, _, hs9, _⟩ := Own.shape (f := I) ho9); subst hv9; clear ho9 hb9 hs9))
                have HA9 := Lib.hid (HA6.out.on HB9.out)
                have HO9 : Hid (OwnN fT 2 70 w9 (w.heap.size + 3) (.slice h6.a h6.n h6.c) (S.votes ++ [(x.a, x.b)])) := HO6.out.on HB9.out
                have HSW : Hid (SlN fT 2 w9 w9.heap.size h6.a h6.n (S.votes ++ [(x.a, x.b)])) := OwnN.sl fT_len HO9.out
                clear z0 z1 z2 z3 z4 z5 z6 y0 y1 y2 y3 y4 y5 y6 y7 y8
                obtain ⟨z0, z1, z2, z3, z4, z5, z6⟩ := HA9.out.bx.seven
                obtain ⟨y0, y1, y2, y3, y4, y5, y6, y7, y8⟩ := HA9.out.bx.nine
                rw [HXB.out] at y8
                cases ob
                · have hle : decide (rq ≤ ((counting (vot1 S x.a x.b) x.b).length : Int)) = false := HLE.out
                  have hle' : ¬ rq ≤ ((counting (vot1 S x.a x.b) x.b).length : Int) := of_decide_eq_false hle
                  replace HKE : Hid (playS S x = vot1 S x.a x.b) := HKE.out.trans (by unfold votS; rw [HOB.out]; rfl)
                  go_upto_region 22 with fail
                  go_wp2_with ((refine wpList_store_far (o := ⟨none, .store 34 (.tmp 4) (.tmp 121), _, _, _, _⟩) rfl 34 (.tmp 4) (.tmp 121) rfl (w.heap.size + 2) 34 _ (⟨r1, r2, rq, h3, ⟨some ⟨g4, 0, none⟩, r4.n, c4⟩, h5, h6⟩ : RV).cells rfl rfl HA9.out.bx.new Tryz.sizeR rfl (RV.one _) w.heap.size w HA9.out.bx.bel (by omega) ?_); intro w9 HG9 hb9 HB9)
                  exact bodyPost_ret (ret_cell_tmpS (cs := (⟨r1, r2, rq, h3, ⟨some ⟨g4, 0, none⟩, r4.n, c4⟩, h5, h6⟩ : RV).cells) rfl rfl HG9.out Tryz.underlying34 rfl Tryz.sizeR) rfl ⟨(⟨r1, r2, rq, h3, ⟨some ⟨g4, 0, none⟩, r4.n, c4⟩, h5, h6⟩ : RV), by rw [HPE.out]; rfl, by rw [HKE.out]; exact AR.done (S' := vot1 S x.a x.b) HP.out HA9.out (by rw [HL3.out]; omega) (HN3.out.trans HL3.out.symm) HMN.out.symm (HN5.out.trans HVN.out.symm) (VIn.far HVI.out HPW.out HA9.out.bx.bel) HSW.out HFV.out HC.out.ref.q rfl HPS.out HB9.out, (by show h3.n ≤ r3.n + 1; rw [HN3.out]; exact Nat.le_refl _), hb9, .inr ⟨HPE.out, rfl, rfl, xs, HX0.out, AR.ch3 HA9.out HB9.out HKX.out⟩⟩
                · have hle : decide (rq ≤ ((counting (vot1 S x.a x.b) x.b).length : Int)) = true := HLE.out
                  have hle' : rq ≤ ((counting (vot1 S x.a x.b) x.b).length : Int) := of_decide_eq_true hle
                  replace HKE : Hid (playS S x = { vot1 S x.a x.b with ms := expel S.ms b }) := HKE.out.trans (by unfold votS; rw [HOB.out, show x.b.toNat = b by have := HXB.out; omega]; rfl)
                  obtain ⟨hx, hxf⟩ := OwnN.cell fM_len HA9.out.o4 (k := b) (j := 4) (by decide) HM.out
                  replace hx : w9.cell? ⟨g4, b * 5 + 4, none⟩ = some (.bool false) := hx.trans (by rw [← HME.out]; rfl)
                  have hbn : b < r4.n := by rw [← HMN.out]; exact hb2
                  have hbn' : (b : Int) < (r4.n : Int) := by omega
                  have hne : ¬ g4 = w.heap.size := by have := (World.ownsRow.lt HA9.out.o4 g4 rfl).1; omega
                  have HAx := Lib.hid (AR.expel HA9.out HM.out)
                  have HSX : Hid (SlN fT 2 (w9.setCell ⟨g4, b * 5 + 4, none⟩ (.bool true)) (w9.setCell ⟨g4, b * 5 + 4, none⟩ (.bool true)).heap.size h6.a h6.n (S.votes ++ [(x.a, x.b)])) := OwnN.sl fT_len (setCell_same HO9.out fun k hk => by rintro rfl; exact HN46.out _ rfl hk)
                  go_upto_region 22 with fail
                  clear z0 z1 z2 z3 z4 z5 z6 y0 y1 y2 y3 y4 y5 y6 y7 y8
                  obtain ⟨z0, z1, z2, z3, z4, z5, z6⟩ := HAx.out.bx.seven
                  go_wp2_with ((refine wpList_store_far (o := ⟨none, .store 34 (.tmp 4) (.tmp 121), _, _, _, _⟩) rfl 34 (.tmp 4) (.tmp 121) rfl (w.heap.size + 2) 34 _ (⟨r1, r2, rq, h3, ⟨some ⟨g4, 0, none⟩, r4.n, c4⟩, h5, h6⟩ : RV).cells rfl rfl HAx.out.bx.new Tryz.sizeR rfl (RV.one _) w.heap.size w HAx.out.bx.bel (by omega) ?_); intro w9 HG9 hb9 HB9)
                  exact bodyPost_ret (ret_cell_tmpS (cs := (⟨r1, r2, rq, h3, ⟨some ⟨g4, 0, none⟩, r4.n, c4⟩, h5, h6⟩ : RV).cells) rfl rfl HG9.out Tryz.underlying34 rfl Tryz.sizeR) rfl ⟨(⟨r1, r2, rq, h3, ⟨some ⟨g4, 0, none⟩, r4.n, c4⟩, h5, h6⟩ : RV), by rw [HPE.out]; rfl, by rw [HKE.out]; exact AR.done (S' := { vot1 S x.a x.b with ms := expel S.ms b }) HP.out HAx.out (by rw [HL3.out]; omega) (HN3.out.trans HL3.out.symm) (by rw [List.length_set]; exact HMN.out.symm) (HN5.out.trans HVN.out.symm) (VIn.far HVI.out HPW.out HAx.out.bx.bel) HSX.out HFV.out HC.out.ref.q (expel_set HM.out) HPS.out HB9.out, (by show h3.n ≤ r3.n + 1; rw [HN3.out]; exact Nat.le_refl _), hb9, .inr ⟨HPE.out, rfl, rfl, xs, HX0.out, AR.ch3 HAx.out HB9.out HKX.out⟩⟩
                -- END wb2
              -- END wb
            · -- PART wc
              have e1 : (x.kind == 1) = false := by simp [hk]
              have e2 : (x.kind == 2) = false := by simp [hk2]
              have HKE : Hid (playS S x = repS S x.v x.a x.b) := by show _ = _; unfold playS; rw [HPE.out, if_pos rfl, if_neg hk, if_neg hk2]
              have HKX : Hid ((xs ++ [x]).set r3.n { x with kind := 3 } = xs ++ [kx x]) := by show _ = _; unfold kx; rw [if_neg (fun h => h.elim hk hk2)]; exact set_last HXN.out
              have HRE : Hid (repE S x.v x.a x.b = 0) := by show _ = _; have h := HPE.out; unfold playE at h; rw [if_neg hk, if_neg hk2] at h; exact h
              obtain ⟨y, hy1, hy2, hy3, hy4, hy5, hy6⟩ := repE_ok HRE.out
              obtain ⟨hvg, hv0, hv1⟩ := vltOf_get hy1
              have hyS : selN (pickB y.ws x.a x.b) S.ms.length = repW y.ws x.a x.b := rep_sel HI.out HRE.out hy1
              have hy3w : y.ws.length ≤ 3 := HI.out.ws3 y (List.mem_of_getElem? hvg)
              obtain ⟨kv, hkv⟩ : ∃ kv : Nat, x.v = kv := ⟨x.v.toNat, by omega⟩
              have HKV := Lib.hid hkv
              have hkp : kv < ps.length := by
                have h5 := HVN.out
                have h6 := HVL.out
                omega
              obtain ⟨pv, hpv⟩ := get_ex hkp
              have hpy : pv.1 = y := by
                rw [hkv, show ((kv : Nat) : Int).toNat = kv by omega] at hvg
                rw [← HPS.out, List.getElem?_map, hpv] at hvg
                exact Option.some.inj hvg
              subst hpy
              have HPV := Lib.hid hpv
              have HSEL := Lib.hid hyS
              have HSW : Hid (Sl I w w.heap.size pv.2.a pv.2.n pv.1.ws) := by have h5 := HVI.out.2 pv (List.mem_of_getElem? hpv); exact h5
              have HYL := Lib.hid hy3w
              obtain ⟨A3, n3, c3⟩ := h3
              obtain ⟨g3, hg3⟩ := OwnN.blk fX_len HA.out.o3 (by rw [HL3.out]; omega)
              obtain ⟨A4, n4, c4⟩ := h4
              obtain ⟨A5, n5, c5⟩ := h5
              obtain ⟨g5, hg5⟩ := OwnN.blk fP_len HA.out.o5 (by omega)
              dsimp only at *
              obtain rfl : A3 = some ⟨g3, 0, none⟩ := hg3
              obtain rfl : A5 = some ⟨g5, 0, none⟩ := hg5
              obtain rfl : n3 = r3.n + 1 := HN3.out
              obtain rfl : n5 = r5.n := HN5.out
              obtain rfl : n4 = r4.n := HN4.out
              have HXL : Hid ((xs ++ [x])[r3.n]? = some x) := by show _ = _; rw [← HXN.out, List.getElem?_append_right (Nat.le_refl _), Nat.sub_self]; rfl
              obtain ⟨W1, hW1⟩ : ∃ V : World, V = wc.setCell ⟨g3, r3.n * 9, none⟩ (.int .i64 3) := ⟨_, rfl⟩
              have HAK : Hid (AR w W1 ⟨r1, r2, rq, ⟨some ⟨g3, 0, none⟩, r3.n + 1, c3⟩, ⟨A4, r4.n, c4⟩, ⟨some ⟨g5, 0, none⟩, r5.n, c5⟩, r6⟩ x ((xs ++ [x]).set r3.n { x with kind := 3 }) S.ms ps) := by rw [hW1]; exact AR.kind HA.out HXL.out
              have hx3 := (OwnN.cell fX_len HA.out.o3 (x := x) (k := r3.n) (j := 0) (by omega) HXL.out)
              rw [Nat.add_zero] at hx3
              obtain ⟨hx3, hx3f⟩ := hx3
              replace hx3 : wc.cell? ⟨g3, r3.n * 9, none⟩ = some (.int .i64 x.kind) := hx3
              have HW1 := Lib.hid hW1
              clear hk hk2 hy1 hy2 hy3 hy4 hy5 hy6 hvg hv0 hv1 hyS hy3w hkv hpv hW1
              go_wp2_with fail
              rw [show wc.setCell ⟨g3, r3.n * 9, none⟩ (.int .i64 3) = W1 from HW1.out.symm]
              clear z0 z1 z2 z3 z4 z5 z6 y0 y1 y2 y3 y4 y5 y6 y7 y8 hx3 hx3f
              have hws : W1.heap.size = wc.heap.size := by rw [HW1.out]; simp [World.setCell]
              have HWL : Hid (w.heap.size + 3 ≤ W1.heap.size) := HAK.out.bx.lt
              have HO : Hid (Own I 3 (W1.alloc (.cells #[] 3)) W1.heap.size (.slice (some ⟨wc.heap.size, 0, none⟩) 0 0) []) := by rw [← hws]; exact World.ownsRow_lit W1 #[] 0 (Nat.le_refl _) (by unfold maxLen; omega) rfl
              have HBW : Hid (Below W1.heap.size W1 (W1.alloc (.cells #[] 3))) := (Below.refl _ _).alloc (Nat.le_refl _) _
              obtain ⟨i0, hi, hz0, hz1, hz2⟩ := info_parts Tryz.infoInt
              have HM0 := Lib.hid hi
              have HM1 := Lib.hid hz0
              have HM2 := Lib.hid hz1
              have HM3 := Lib.hid hz2
              clear hi hz0 hz1 hz2
              clear hws
              go_loopw [7, 8] (fun u i wr => ∃ k : Nat, k ≤ r4.n ∧ i = .int .i64 k ∧ Hid (Own I 3 wr W1.heap.size u (selN (pickB pv.1.ws x.a x.b) k)) ∧ Hid (Below W1.heap.size W1 wr)) (fun _ i _ => r4.n - (intOf i).toNat)
              case atStart => exact ⟨0, Nat.zero_le _, rfl, HO, HBW⟩
              case round =>
                obtain ⟨k, hk, rfl, HO0, HB0⟩ := hrel
                clear HO HBW
                have HAR := Lib.hid (HAK.out.on HB0.out)
                obtain ⟨z0, z1, z2, z3, z4, z5, z6⟩ := HAR.out.bx.seven
                obtain ⟨y0, y1, y2, y3, y4, y5, y6, y7, y8⟩ := HAR.out.bx.nine
                rw [HKV.out] at y6
                obtain ⟨hvc, hvf⟩ := OwnN.cell fP_len HAR.out.o5 (k := kv) (j := 1) (by decide) HPV.out
                replace hvc : wr.cell? ⟨g5, kv * 15 + 1, none⟩ = some (.slice pv.2.a pv.2.n pv.2.c) := hvc
                have hkp' : kv < r5.n := by have := HVN.out; omega
                have hkp2 : (kv : Int) < (r5.n : Int) := by omega
                by_cases hlt : k < r4.n
                · have hsl := selN_len (pickB pv.1.ws x.a x.b) k
                  have HK1 : Hid (((selN (pickB pv.1.ws x.a x.b) k).length + 1) * 8 ≤ 140737488355328) := by show _ ≤ _; omega
                  have HK2 : Hid ((selN (pickB pv.1.ws x.a x.b) k).length + 1 ≤ maxLen) := by show _ ≤ _; unfold maxLen; omega
                  have HSZ : Hid (W1.heap.size ≤ wr.heap.size) := HB0.out.size
                  clear hsl
                  by_cases hkb : (k : Int) = x.b
                  · have eb : ((k : Int) == x.b) = true := by simp [hkb]
                    have HN : Hid (selN (pickB pv.1.ws x.a x.b) (k + 1) = selN (pickB pv.1.ws x.a x.b) k ++ [(k : Int)]) := by show _ = _; rw [selN_succ]; simp [pickB, hkb]
                    clear hkb
                    go_wp2_with (at_builtin; with_reducible refine wpList_app1 (o := ⟨some 76, _, _, _, _, _⟩) rfl (.tmp 73) (.tmp 75) 49 rfl 3 i0 (.int .i64 0) 8 Tryz.underlying49 HM0.out HM1.out HM2.out HM3.out rfl _ _ W1.heap.size rfl HO0.out (k : Int) 1 rfl I1 HK1.out HK2.out HSZ.out ?_; intro v6 w6 HO6 HG6 HV6)
                    go_roundw
                    case rel => exact ⟨k + 1, by omega, by go_num, by show Own _ _ _ _ _ _; rw [HN.out]; exact HO6.out, HO0.out.below HB0.out (Nat.le_refl _) HB0.out.size HG6.out⟩
                    case measure => simp [intOf]; omega
                  · have eb : ((k : Int) == x.b) = false := by simp [hkb]
                    by_cases hka : (k : Int) = x.a
                    · have ea : ((k : Int) != x.a) = false := by simp [hka]
                      have HN : Hid (selN (pickB pv.1.ws x.a x.b) (k + 1) = selN (pickB pv.1.ws x.a x.b) k) := by
                        have hp : pickB pv.1.ws x.a x.b k = false := by unfold pickB; rw [decide_eq_false hkb, decide_eq_false (fun h => h hka)]; rfl
                        show _ = _
                        rw [selN_succ, hp]; simp
                      clear hka hkb
                      go_wp2_with fail
                      go_roundw
                      case rel => exact ⟨k + 1, by omega, by go_num, by show Own _ _ _ _ _ _; rw [HN.out]; exact HO0.out, HB0⟩
                      case measure => simp [intOf]; omega
                    · have ea : ((k : Int) != x.a) = true := by simp [hka]
                      obtain ⟨cb, hcb⟩ : ∃ z, pv.1.ws.contains (k : Int) = z := ⟨_, rfl⟩
                      have HPK : Hid (pickB pv.1.ws x.a x.b k = cb) := by show _ = _; unfold pickB; rw [decide_eq_false hkb, decide_eq_true hka, hcb]; simp
                      have HSI : Hid (Sl I wr w.heap.size pv.2.a pv.2.n pv.1.ws) := HSW.out.up (HAK.out.bx.bel.trans (HB0.out.mono (by have := HWL.out; omega))) (Nat.le_refl _)
                      have HIN : Hid (Calls Tryz.prog 26 #[.slice pv.2.a pv.2.n pv.2.c, .int .i64 (k : Int)] wr fun e w' => e = .returned (.bool cb) ∧ wr = w') := hcb ▸ inI_any _ _ pv.1.ws _ k wr _ HSI.out (by have := HYL.out; have := HSW.out.1; omega)
                      clear hka hkb hcb
                      cases cb
                      · have HN : Hid (selN (pickB pv.1.ws x.a x.b) (k + 1) = selN (pickB pv.1.ws x.a x.b) k) := by show _ = _; rw [selN_succ, HPK.out]; simp
                        go_wp2_with ((go_at_call 26; refine HIN.out.mono ?_; rintro e w7 ⟨rfl, rfl⟩))
                        go_roundw
                        case rel => exact ⟨k + 1, by omega, by go_num, by show Own _ _ _ _ _ _; rw [HN.out]; exact HO0.out, HB0⟩
                        case measure => simp [intOf]; omega
                      · have HN : Hid (selN (pickB pv.1.ws x.a x.b) (k + 1) = selN (pickB pv.1.ws x.a x.b) k ++ [(k : Int)]) := by show _ = _; rw [selN_succ, HPK.out]; simp
                        go_wp2_with (first | (go_at_call 26; refine HIN.out.mono ?_; rintro e w7 ⟨rfl, rfl⟩) | (at_builtin; with_reducible refine wpList_app1 (o := ⟨some 76, _, _, _, _, _⟩) rfl (.tmp 73) (.tmp 75) 49 rfl 3 i0 (.int .i64 0) 8 Tryz.underlying49 HM0.out HM1.out HM2.out HM3.out rfl _ _ W1.heap.size rfl HO0.out (k : Int) 1 rfl I1 HK1.out HK2.out HSZ.out ?_; intro v6 w6 HO6 HG6 HV6))
                        go_roundw
                        case rel => exact ⟨k + 1, by omega, by go_num, by show Own _ _ _ _ _ _; rw [HN.out]; exact HO6.out, HO0.out.below HB0.out (Nat.le_refl _) HB0.out.size HG6.out⟩
                        case measure => simp [intOf]; omega
                · obtain rfl : k = r4.n := by omega
                  have HOF : Hid (Own I 3 wr W1.heap.size u7 (repW pv.1.ws x.a x.b)) := by
                    have h := HO0.out
                    rw [← HMN.out, HSEL.out] at h
                    exact h
                  obtain ⟨An, cn, hu7, _, _, _⟩ := Own.shape (f := I) HOF.out
                  obtain ⟨ln, hln⟩ : ∃ z, (repW pv.1.ws x.a x.b).length = z := ⟨_, rfl⟩
                  rw [hln] at hu7
                  subst hu7
                  have HLN := Lib.hid hln
                  have HAz := Lib.hid (AR.wrs (a := An) (m := ln) (e := cn) (ws := repW pv.1.ws x.a x.b) HAR.out HPV.out)
                  have hg5 := (World.ownsRow.lt HAR.out.o5 g5 rfl).1
                  have hne : ¬ g5 = w.heap.size := by omega
                  have HG5 : Hid (g5 < W1.heap.size) := (World.ownsRow.lt HAK.out.o5 g5 rfl).2
                  have HOZ : Hid (Own I 3 (wr.setCell ⟨g5, kv * 15 + 1, none⟩ (.slice An ln cn)) W1.heap.size (.slice An ln cn) (repW pv.1.ws x.a x.b)) := Own.same HOF.out fun j hj => Below.heap_setCell wr ⟨g5, kv * 15 + 1, none⟩ (.slice An ln cn) j (fun e => by have e' : j = g5 := e; have := (World.ownsRow.lt HOF.out j hj).1; have := HG5.out; omega)
                  clear hln hg5 HO0
                  go_upto_region 22 with fail
                  clear z0 z1 z2 z3 z4 z5 z6 y0 y1 y2 y3 y4 y5 y6 y7 y8
                  obtain ⟨z0, z1, z2, z3, z4, z5, z6⟩ := HAz.out.bx.seven
                  go_wp2_with ((refine wpList_store_far (o := ⟨none, .store 34 (.tmp 4) (.tmp 121), _, _, _, _⟩) rfl 34 (.tmp 4) (.tmp 121) rfl (w.heap.size + 2) 34 _ (⟨r1, r2, rq, ⟨some ⟨g3, 0, none⟩, r3.n + 1, c3⟩, ⟨A4, r4.n, c4⟩, ⟨some ⟨g5, 0, none⟩, r5.n, c5⟩, r6⟩ : RV).cells rfl rfl HAz.out.bx.new Tryz.sizeR rfl (RV.one _) w.heap.size w HAz.out.bx.bel (by omega) ?_); intro w9 HG9 hb9 HB9)
                  have hvw : ∀ p ∈ ps.set kv (({ pv.1 with ws := repW pv.1.ws x.a x.b }, ⟨An, ln, cn⟩) : VP), Sl I (wr.setCell ⟨g5, kv * 15 + 1, none⟩ (.slice An ln cn)) (wr.setCell ⟨g5, kv * 15 + 1, none⟩ (.slice An ln cn)).heap.size p.2.a p.2.n p.1.ws ∧ (0 < p.1.ws.length → ∀ ad, p.2.a = some ad → P ad.block ∧ ad.block ≠ w.heap.size + 2) := fun p hp => by
                    rcases mem_set_or hp with rfl | hp
                    · obtain ⟨A', c', h1, _, h2, _⟩ := Own.shape (f := I) HOZ.out
                      rw [HLN.out] at h1
                      obtain ⟨rfl, _⟩ : An = A' ∧ True := by simp at h1; exact ⟨h1.1, trivial⟩
                      refine ⟨⟨HLN.out, h2⟩, fun _ ad e => ?_⟩
                      have h3 := (World.ownsRow.lt HOZ.out ad.block (by show (Value.slice An ln cn).ownBlock = _; rw [show An = some ad from e]; rfl)).1
                      have h4 := HWL.out
                      exact ⟨HP.out _ (by omega), by omega⟩
                    · exact VIn.far HVI.out HPW.out HAz.out.bx.bel p hp
                  exact bodyPost_ret (ret_cell_tmpS (cs := (⟨r1, r2, rq, ⟨some ⟨g3, 0, none⟩, r3.n + 1, c3⟩, ⟨A4, r4.n, c4⟩, ⟨some ⟨g5, 0, none⟩, r5.n, c5⟩, r6⟩ : RV).cells) rfl rfl HG9.out Tryz.underlying34 rfl Tryz.sizeR) rfl ⟨(⟨r1, r2, rq, ⟨some ⟨g3, 0, none⟩, r3.n + 1, c3⟩, ⟨A4, r4.n, c4⟩, ⟨some ⟨g5, 0, none⟩, r5.n, c5⟩, r6⟩ : RV), by rw [HPE.out]; rfl, by rw [HKE.out]; exact AR.done (S' := repS S x.v x.a x.b) HP.out HAz.out (by rw [List.length_set, HL3.out]; omega) (by rw [List.length_set]; exact HL3.out.symm) HMN.out.symm (by rw [List.length_set]; exact HVN.out.symm) hvw (HC.out.vfar HAz.out.bx.bel).1 (HC.out.vfar HAz.out.bx.bel).2 HC.out.ref.q rfl (by show _ = S.vs.modify x.v.toNat (repV x.a x.b); rw [HKV.out, show ((kv : Nat) : Int).toNat = kv by omega, ← HPS.out]; exact map_set_modify (f := repV x.a x.b) HPV.out) HB9.out, (Nat.le_refl _), hb9, .inr ⟨HPE.out, rfl, rfl, xs, HX0.out, AR.ch3 HAz.out HB9.out HKX.out⟩⟩
              -- END wc
  · obtain ⟨hz', _⟩ : pe ≠ 0 ∧ True := ⟨hz, trivial⟩
    go_wp2_with ((refine wpList_store_far (o := ⟨none, .store 34 (.tmp 4) (.tmp 14), _, _, _, _⟩) rfl 34 (.tmp 4) (.tmp 14) rfl (w.heap.size + 2) 34 _ (⟨r1, r2, rq, r3, r4, r5, r6⟩ : RV).cells rfl rfl HBX1.out.new Tryz.sizeR rfl (RV.one _) w.heap.size w HBX1.out.bel (by omega) ?_); intro w9 HG9 hb9 HB9)
    exact bodyPost_ret (ret_cell_tmpS (cs := (⟨r1, r2, rq, r3, r4, r5, r6⟩ : RV).cells) rfl rfl HG9.out Tryz.underlying34 rfl Tryz.sizeR) rfl ⟨⟨r1, r2, rq, r3, r4, r5, r6⟩, by rw [HPE.out]; rfl, by rw [playS_no (by rw [HPE.out]; exact hz)]; exact HC.out.on hb9, Nat.le_succ _, hb9, .inl ⟨by rw [HPE.out]; exact hz, rfl⟩⟩
end Go.Proofs.YtkeicjokekmkpaaGreat
