/- The reference's Encode: the list of values, and its bytes. -/
import Derived.Test.YtkeicjokekmkpaaGreatRe4x
import Derived.Test.YtkeicjokekmkpaaGreatMq
namespace Go.Proofs.YtkeicjokekmkpaaGreat
open Go.RowKit Mb
set_option linter.unusedVariables false
set_option linter.unusedSimpArgs false

theorem atc {W : World} {g : Nat} {cs : Array Value} {t : TypeId} {fr : Nat × Nat} (h : W.heap[g]? = some (.cells cs t fr)) (i : Nat) (v : Value) (hv : cs[i]? = some v) : W.cell? ⟨g, i, none⟩ = some v := by
  rw [cell_of_row W g i _ _ _ h]; exact hv
theorem nb_of {n : Int} (h : nOk n) : 0 ≤ n ∧ n ≤ 9223372036854775807 := ⟨h.1, by have := h.2; omega⟩
theorem Tryz.sizeXr : (Tryz.prog.info? 42).map (·.size) = some 9 := by kernel_rfl
/-- A change's kind as Apply keeps it. -/
def KdOk (x : Chn) : Prop := x.kind = 1 ∨ x.kind = 2 ∨ x.kind = 3
set_option maxRecDepth 100000 in
set_option maxHeartbeats 16000000 in
theorem rcenc_any (r : RV) (S : Cst) (ps : List VP) (ys : List Chn) (w : World) (hq : r.q = S.s.q) (hm : SlN fM 5 w w.heap.size r.a1.a r.a1.n S.fm) (hv : VIn w w.heap.size r.a2.a r.a2.n ps) (hps : ps.map Prod.fst = S.fv)
    (hc : SlN fX 9 w w.heap.size r.a3.a r.a3.n ys) (hys : ys.map chg = S.chs) (hk : ∀ y ∈ ys, KdOk y) (hE : EInv S) (hch : S.chs.length ≤ 900) :
    Calls Tryz.prog 10 #[r.val] w fun e w' => ∃ v, e = .returned v ∧ Own fB 5 w' w.heap.size v (encC S) ∧ Below w.heap.size w w' := by
  have hn1 : r.a1.n ≤ 12 := by rw [← hm.1]; exact hE.fm
  have hpl : ps.length = S.fv.length := by rw [← hps, List.length_map]
  have hyl : ys.length = S.chs.length := by rw [← hys, List.length_map]
  have hn2 : r.a2.n ≤ 12 := by rw [← hv.1.1, hpl]; exact hE.fv
  have hn3 : r.a3.n ≤ 900 := by rw [← hc.1, hyl]; exact hch
  have HN1 : Hid (S.fm.length = r.a1.n) := hm.1
  have HN2 : Hid (S.fv.length = r.a2.n) := hpl ▸ hv.1.1
  have HN3 : Hid (S.chs.length = r.a3.n) := hyl ▸ hc.1
  obtain ⟨W0, hW0⟩ : ∃ W0 : World, W0 = w.alloc r.obj := ⟨_, rfl⟩
  have hg0 : W0.heap[w.heap.size]? = some r.obj := by rw [hW0]; exact heap_alloc_new w _
  have hb0 : Below w.heap.size w W0 := by rw [hW0]; exact (Below.refl _ _).alloc (Nat.le_refl _) _
  have HQ := Lib.hid hq
  have HM := Lib.hid hm
  have HV := Lib.hid hv
  have HPS := Lib.hid hps
  have HC := Lib.hid hc
  have HYS := Lib.hid hys
  have HK := Lib.hid hk
  have HE := Lib.hid hE
  have HCH := Lib.hid hch
  have HW0 := Lib.hid hW0
  have HG0 := Lib.hid hg0
  have HB0 := Lib.hid hb0
  clear hq hm hv hps hc hys hk hE hch hW0 hg0 hb0 hpl hyl
  go_enter Tryz.func10, Tryz.ntmps10
  go_wp2_with fail
  rw [← HW0.out]
  refine (rcount_any r.a1.n W0).mono ?_
  rintro e W1 ⟨rfl, b1⟩
  have HVA0 : Hid (VA w (W1.alloc (.cells (fVl (vC r.a1.n)).toArray tVl)) r w.heap.size r.obj (.slice (some ⟨W1.heap.size, 0, none⟩) 1 1) [vC r.a1.n]) :=
    VA.start ((b1.block _ (lt_of_block HG0.out)).trans HG0.out) (HB0.out.trans (b1.mono HB0.out.size)) rfl rfl (by omega)
  clear b1
  go_wp2_with fail
  go_loopw [3, 4] (fun u i wr => ∃ (k : Nat) (acc : List Vl), k ≤ r.a1.n ∧ i = .int .i64 k ∧ Hid (VA w wr r w.heap.size r.obj u acc) ∧ Hid (acc = [vC r.a1.n] ++ (S.fm.take k).flatMap vlM) ∧ acc.length ≤ 1 + 3 * k) (fun _ i _ => r.a1.n - (intOf i).toNat)
  case atStart => exact ⟨0, [vC r.a1.n], Nat.zero_le _, rfl, HVA0, by show _ = _; simp, by simp⟩
  case round =>
    obtain ⟨k, acc, hk, rfl, HVA, HACC, hal⟩ := hrel
    obtain ⟨s0, s1, s2, s3, s4, s5, s6⟩ := seven_of HVA.out.box
    by_cases hlt : k < r.a1.n
    · -- PART mem
      obtain ⟨b, off, m, hA, hbB, hmk, hcell⟩ := (HM.out.up HVA.out.bel (Nat.le_refl _)).at_ hlt
      rw [hA] at s0
      obtain ⟨c0, c1, c2, c3, c4⟩ := five hcell
      have HMQ := Lib.hid (nb_of (HE.out.ms m (List.mem_of_getElem? hmk)).2.2)
      have HT : Hid (acc ++ vlM m = [vC r.a1.n] ++ (S.fm.take (k + 1)).flatMap vlM) := by
        show _ = _
        rw [HACC.out, take_snoc hmk, List.flatMap_append]; simp
      clear hA hcell hmk hbB
      go_wp2_with fail
      refine (rmember_any m _ HMQ.out.1 HMQ.out.2).mono ?_
      rintro e W6 ⟨A6, c6, rfl, hs6, b6⟩
      have HVA := Lib.hid (HVA.out.on b6)
      have HS6 := Lib.hid hs6
      have HL : Hid (acc.length + (vlM m).length ≤ 200000) := by show _ ≤ _; simp only [vlM, List.length_cons, List.length_nil]; omega
      clear b6 hs6 s0 s1 s2 s3 s4 s5 s6 c0 c1 c2 c3 c4
      go_wp2_with (at_builtin; (refine wpList_vapp (w := w) (r := r) (g2 := w.heap.size) (o2 := r.obj) (acc := acc) (o := ⟨some 31, _, _, _, _, _⟩) rfl (.tmp 24) (.tmp 30) rfl HVA.out (by rfl) (vlM m) ⟨_, A6, 3, c6, (by rfl), HS6.out⟩ HL.out ?_; intro u1 W7 HVA))
      go_roundw
      case rel => exact ⟨k + 1, _, by omega, by go_num, HVA, HT, by rw [List.length_append]; simp only [vlM, List.length_cons, List.length_nil]; omega⟩
      case measure => simp [intOf]; omega
      -- END mem
    · obtain rfl : k = r.a1.n := by omega
      have HA1 : Hid (acc = [vC r.a1.n] ++ S.fm.flatMap vlM) := by
        have h := HACC.out
        rw [List.take_of_length_le (by have := HN1.out; omega)] at h
        exact h
      clear HACC HVA0
      -- PART tail
      go_wp2_with fail
      refine (rcount_any r.a2.n _).mono ?_
      rintro e W6 ⟨rfl, b6⟩
      have HVA := Lib.hid (HVA.out.on b6)
      have HL : Hid (acc.length + [vC r.a2.n].length ≤ 200000) := by show _ ≤ _; simp only [List.length_cons, List.length_nil]; omega
      clear b6 s0 s1 s2 s3 s4 s5 s6
      go_wp2_with (at_builtin; (refine wpList_vapp (w := w) (r := r) (g2 := w.heap.size) (o2 := r.obj) (acc := acc) (o := ⟨some 38, _, _, _, _, _⟩) rfl (.tmp 32) (.tmp 37) rfl (HVA.out.alloc _) (by rfl) [vC r.a2.n] ⟨_, _, 1, 1, (by rfl), new_rows rfl rfl⟩ HL.out ?_; intro u1 W7 HVA))
      obtain ⟨B1, hB1⟩ : ∃ z, z = acc ++ [vC r.a2.n] := ⟨_, rfl⟩
      rw [← hB1] at HVA
      have hbl1 : B1.length ≤ 40 := by rw [hB1, List.length_append]; simp only [List.length_cons, List.length_nil]; omega
      have HB1 : Hid (B1 = [vC r.a1.n] ++ S.fm.flatMap vlM ++ [vC r.a2.n]) := by show _ = _; rw [hB1, HA1.out]
      clear hB1 HA1 hal HL
      go_loopw [3, 5] (fun u i wr => ∃ (k : Nat) (acc : List Vl), k ≤ r.a2.n ∧ i = .int .i64 k ∧ Hid (VA w wr r w.heap.size r.obj u acc) ∧ Hid (acc = B1 ++ (S.fv.take k).flatMap vlV) ∧ acc.length ≤ 40 + 16 * k) (fun _ i _ => r.a2.n - (intOf i).toNat)
      case atStart => exact ⟨0, B1, Nat.zero_le _, rfl, HVA, by show _ = _; simp, by omega⟩
      case round =>
        clear HVA
        obtain ⟨k, acc, hk, rfl, HVA, HACC, hal⟩ := hrel
        obtain ⟨s0, s1, s2, s3, s4, s5, s6⟩ := seven_of HVA.out.box
        by_cases hlt : k < r.a2.n
        · -- PART vlt
          obtain ⟨b, off, p, hA, hbB, hpk, hcell⟩ := (HV.out.1.up HVA.out.bel (Nat.le_refl _)).at_ hlt
          rw [hA] at s1
          obtain ⟨c0, c1, c2, c3, c4, c5, c6, c7, c8, c9, c10, c11, c12, c13, c14⟩ := fifteen hcell
          have hpm := List.mem_of_getElem? hpk
          have hvk : S.fv[k]? = some p.1 := by rw [← HPS.out, List.getElem?_map, hpk]; rfl
          have hvo := HE.out.vs p.1 (List.mem_of_getElem? hvk)
          have HWS := Lib.hid (HV.out.2 p hpm)
          have hwn : p.2.n ≤ 3 := by rw [← HWS.out.1]; exact hvo.1
          have HWN : Hid (p.1.ws.length = p.2.n) := HWS.out.1
          have HWO : Hid (∀ x ∈ p.1.ws, 0 ≤ x ∧ x ≤ 9223372036854775807) := fun x hx => nb_of (hvo.2.1 x hx)
          have n2 := Lib.hid (nb_of (hvo.2.2.1 p.1.data (by simp)))
          have n3 := Lib.hid (nb_of (hvo.2.2.1 p.1.total (by simp)))
          have n4 := Lib.hid (nb_of (hvo.2.2.1 p.1.thr (by simp)))
          have n6 := Lib.hid (nb_of (hvo.2.2.2.2.1 p.1.cmin (by simp)))
          have n7 := Lib.hid (nb_of (hvo.2.2.2.2.1 p.1.cmax (by simp)))
          have n8 := Lib.hid (nb_of (hvo.2.2.2.2.1 p.1.cwin (by simp)))
          have n9 := Lib.hid (nb_of (hvo.2.2.2.2.1 p.1.cbits (by simp)))
          have n11 := Lib.hid (nb_of (hvo.2.2.2.2.2 p.1.ra (by simp)))
          have n12 := Lib.hid (nb_of (hvo.2.2.2.2.2 p.1.rb (by simp)))
          have n13 := Lib.hid (nb_of (hvo.2.2.2.2.2 p.1.rc (by simp)))
          have n14 := Lib.hid (nb_of (hvo.2.2.2.2.2 p.1.rd (by simp)))
          have HT : Hid (∀ z : List Vl, z = acc ++ [vC p.2.n] ++ p.1.ws.map vN ++ [vN p.1.data, vN p.1.total, vN p.1.thr, vS p.1.print] ++ [vN p.1.cmin, vN p.1.cmax, vN p.1.cwin, vN p.1.cbits] ++ [vN p.1.ra, vN p.1.rb, vN p.1.rc, vN p.1.rd] → z = B1 ++ (S.fv.take (k + 1)).flatMap vlV) := by
            intro z hz
            rw [hz, HACC.out, take_snoc hvk, List.flatMap_append, ← HWN.out]; simp [vlV]
          obtain ⟨W2, hW2⟩ : ∃ W2 : World, W2 = wr.alloc (oV p.1 p.2.a p.2.n p.2.c) := ⟨_, rfl⟩
          have HVA2 : Hid (VA w W2 r wr.heap.size (oV p.1 p.2.a p.2.n p.2.c) u3 acc) := by rw [hW2]; exact HVA.out.new _
          have HW2 := Lib.hid hW2
          clear hA hcell hpk hpm hvk hvo hbB hW2
          go_wp2_with (refine wpList_store_new (o := ⟨none, .store 68 (.tmp 6) (.tmp 50), _, _, _, _⟩) rfl 68 (.tmp 6) (.tmp 50) rfl 68 _ #[.int .i64 p.1.num, .slice p.2.a p.2.n p.2.c, .int .i64 p.1.data, .int .i64 p.1.total, .int .i64 p.1.thr, .string p.1.print, .int .i64 p.1.cmin, .int .i64 p.1.cmax, .int .i64 p.1.cwin, .int .i64 p.1.cbits, .int .u64 p.1.cseed, .int .i64 p.1.ra, .int .i64 p.1.rb, .int .i64 p.1.rc, .int .i64 p.1.rd] rfl rfl Tryz.sizeV rfl rfl ?_)
          rw [← HW2.out]
          clear HVA
          have HVA := HVA2
          clear HVA2
          refine (rcount_any p.2.n W2).mono ?_
          rintro e W6 ⟨rfl, b6⟩
          have HVA := Lib.hid (HVA.out.on b6)
          have HL : Hid (acc.length + [vC p.2.n].length ≤ 200000) := by show _ ≤ _; simp only [List.length_cons, List.length_nil]; omega
          have e1 := atc HVA.out.two 1 _ rfl
          clear b6 s0 s1 s2 s3 s4 s5 s6 c0 c1 c2 c3 c4 c5 c6 c7 c8 c9 c10 c11 c12 c13 c14
          go_wp2_with (at_builtin; (refine wpList_vapp (w := w) (r := r) (g2 := wr.heap.size) (o2 := oV p.1 p.2.a p.2.n p.2.c) (acc := acc) (o := ⟨some 57, _, _, _, _, _⟩) rfl (.tmp 51) (.tmp 56) rfl (HVA.out.alloc _) (by rfl) [vC p.2.n] ⟨_, _, 1, 1, (by rfl), new_rows rfl rfl⟩ HL.out ?_; intro u1 W7 HVA))
          obtain ⟨B2, hB2⟩ : ∃ z, z = acc ++ [vC p.2.n] := ⟨_, rfl⟩
          rw [← hB2] at HVA HT
          have hbl2 : B2.length ≤ 41 + 16 * k := by rw [hB2, List.length_append]; simp only [List.length_cons, List.length_nil]; omega
          clear e1 hB2 HL HACC hal
          obtain ⟨gv, hgv⟩ : ∃ g, g = wr.heap.size := ⟨_, rfl⟩
          rw [← hgv] at HVA ⊢
          clear hgv
          go_loopw [3, 7] (fun u i wv => ∃ (j : Nat) (acc : List Vl), j ≤ p.2.n ∧ i = .int .i64 j ∧ Hid (VA w wv r gv (oV p.1 p.2.a p.2.n p.2.c) u acc) ∧ Hid (acc = B2 ++ (p.1.ws.take j).map vN) ∧ acc.length ≤ 41 + 16 * k + j) (fun _ i _ => p.2.n - (intOf i).toNat)
          case atStart => exact ⟨0, B2, Nat.zero_le _, rfl, HVA, by show _ = _; simp, by omega⟩
          case round =>
            clear HVA
            obtain ⟨j, acc, hj, rfl, HVA, HACC, hal⟩ := hrel
            have e1 := atc HVA.out.two 1 _ rfl
            by_cases hlj : j < p.2.n
            · -- PART ws
              obtain ⟨b, off, x, hA, hbB, hxj, hcell⟩ := (HWS.out.up HVA.out.bel (Nat.le_refl _)).2.at_ (by rw [HWN.out]; exact hlj)
              rw [hA] at e1
              have HXN := Lib.hid (HWO.out x (List.mem_of_getElem? hxj))
              have HT2 : Hid (acc ++ [vN x] = B2 ++ (p.1.ws.take (j + 1)).map vN) := by
                show _ = _
                rw [HACC.out, take_snoc hxj]; simp
              have HL : Hid (acc.length + [vN x].length ≤ 200000) := by show _ ≤ _; simp only [List.length_cons, List.length_nil]; omega
              clear hA hbB hxj
              go_wp2_with fail
              refine (rnumber_any x _ HXN.out.1 HXN.out.2).mono ?_
              rintro e W6 ⟨rfl, b6⟩
              have HVA := Lib.hid (HVA.out.on b6)
              clear b6 hcell
              go_wp2_with (at_builtin; (refine wpList_vapp (w := w) (r := r) (g2 := gv) (o2 := oV p.1 p.2.a p.2.n p.2.c) (acc := acc) (o := ⟨some 73, _, _, _, _, _⟩) rfl (.tmp 65) (.tmp 72) rfl (HVA.out.alloc _) (by rfl) [vN x] ⟨_, _, 1, 1, (by rfl), new_rows rfl rfl⟩ HL.out ?_; intro u1 W7 HVA))
              go_roundw
              case rel => exact ⟨j + 1, _, by omega, by go_num, HVA, HT2, by rw [List.length_append]; simp only [List.length_cons, List.length_nil]; omega⟩
              case measure => simp [intOf]; omega
              -- END ws
            · obtain rfl : j = p.2.n := by omega
              have HA2 : Hid (acc = B2 ++ p.1.ws.map vN) := by
                have h := HACC.out
                rw [List.take_of_length_le (by have := HWN.out; omega)] at h
                exact h
              rw [← HA2.out] at HT
              clear HACC HA2
              -- PART rest
              have f2 := atc HVA.out.two 2 _ rfl
              have f3 := atc HVA.out.two 3 _ rfl
              have f4 := atc HVA.out.two 4 _ rfl
              have f5 := atc HVA.out.two 5 _ rfl
              have HL : Hid (acc.length + [vN p.1.data, vN p.1.total, vN p.1.thr, vS p.1.print].length ≤ 200000) := by show _ ≤ _; simp only [List.length_cons, List.length_nil]; omega
              go_wp2_with fail
              go_region_held3 (fun w' => w'.cell? ⟨gv, 2, none⟩ = some (.int .i64 p.1.data) ∧ w'.cell? ⟨gv, 3, none⟩ = some (.int .i64 p.1.total) ∧ w'.cell? ⟨gv, 4, none⟩ = some (.int .i64 p.1.thr) ∧ w'.cell? ⟨gv, 5, none⟩ = some (.string p.1.print)) (first | exact ⟨atc HVA.out.two 2 _ rfl, atc HVA.out.two 3 _ rfl, atc HVA.out.two 4 _ rfl, atc HVA.out.two 5 _ rfl⟩ | go_keep) (first
                | (go_at_call 35; (with_reducible (refine (rnumber_any p.1.data _ n2.out.1 n2.out.2).mono ?_)); rintro e W6 ⟨rfl, b6⟩; (have HVA := Lib.hid (HVA.out.on (Below.trans (by repeat (first | exact Below.refl _ _ | refine Below.drew ?_ | refine below_dN' ?_ _)) b6))); clear b6)
                | (go_at_call 35; (with_reducible (refine (rnumber_any p.1.total _ n3.out.1 n3.out.2).mono ?_)); rintro e W6 ⟨rfl, b6⟩; (have HVA := Lib.hid (HVA.out.on (Below.trans (by repeat (first | exact Below.refl _ _ | refine Below.drew ?_ | refine below_dN' ?_ _)) b6))); clear b6)
                | (go_at_call 35; (with_reducible (refine (rnumber_any p.1.thr _ n4.out.1 n4.out.2).mono ?_)); rintro e W6 ⟨rfl, b6⟩; (have HVA := Lib.hid (HVA.out.on (Below.trans (by repeat (first | exact Below.refl _ _ | refine Below.drew ?_ | refine below_dN' ?_ _)) b6))); clear b6)
                | ((refine step_vapp (w := w) (r := r) (g2 := gv) (o2 := oV p.1 p.2.a p.2.n p.2.c) (acc := acc) (by rfl) (.tmp 74) (.tmp 87) (by rfl) (by first | exact HVA.out.alloc _ | exact HVA.out.drew.alloc _ | exact (HVA.out.drewN _).alloc _ | exact (HVA.out.alloc _).drew | exact (HVA.out.alloc _).drewN _ | exact HVA.out | exact HVA.out.drew) (by rfl) [vN p.1.data, vN p.1.total, vN p.1.thr, vS p.1.print] ⟨_, _, 4, 4, (by rfl), new_rows rfl rfl⟩ HL.out ?_); (intro u1 W7 HVA)))
              obtain ⟨B4, hB4⟩ : ∃ z, z = acc ++ [vN p.1.data, vN p.1.total, vN p.1.thr, vS p.1.print] := ⟨_, rfl⟩
              rw [← hB4] at HVA HT
              have hbl4 : B4.length ≤ 48 + 16 * k := by rw [hB4, List.length_append]; simp only [List.length_cons, List.length_nil]; omega
              clear hB4 HL f2 f3 f4 f5 e1 hal
              have f6 := atc HVA.out.two 6 _ rfl
              have f7 := atc HVA.out.two 7 _ rfl
              have f8 := atc HVA.out.two 8 _ rfl
              have f9 := atc HVA.out.two 9 _ rfl
              have HL : Hid (B4.length + [vN p.1.cmin, vN p.1.cmax, vN p.1.cwin, vN p.1.cbits].length ≤ 200000) := by show _ ≤ _; simp only [List.length_cons, List.length_nil]; omega
              go_wp2_with fail
              go_region_held3 (fun w' => w'.cell? ⟨gv, 6, none⟩ = some (.int .i64 p.1.cmin) ∧ w'.cell? ⟨gv, 7, none⟩ = some (.int .i64 p.1.cmax) ∧ w'.cell? ⟨gv, 8, none⟩ = some (.int .i64 p.1.cwin) ∧ w'.cell? ⟨gv, 9, none⟩ = some (.int .i64 p.1.cbits)) (first | exact ⟨atc HVA.out.two 6 _ rfl, atc HVA.out.two 7 _ rfl, atc HVA.out.two 8 _ rfl, atc HVA.out.two 9 _ rfl⟩ | go_keep) (first
                | (go_at_call 35; (with_reducible (refine (rnumber_any p.1.cmin _ n6.out.1 n6.out.2).mono ?_)); rintro e W6 ⟨rfl, b6⟩; (have HVA := Lib.hid (HVA.out.on (Below.trans (by repeat (first | exact Below.refl _ _ | refine Below.drew ?_ | refine below_dN' ?_ _)) b6))); clear b6)
                | (go_at_call 35; (with_reducible (refine (rnumber_any p.1.cmax _ n7.out.1 n7.out.2).mono ?_)); rintro e W6 ⟨rfl, b6⟩; (have HVA := Lib.hid (HVA.out.on (Below.trans (by repeat (first | exact Below.refl _ _ | refine Below.drew ?_ | refine below_dN' ?_ _)) b6))); clear b6)
                | (go_at_call 35; (with_reducible (refine (rnumber_any p.1.cwin _ n8.out.1 n8.out.2).mono ?_)); rintro e W6 ⟨rfl, b6⟩; (have HVA := Lib.hid (HVA.out.on (Below.trans (by repeat (first | exact Below.refl _ _ | refine Below.drew ?_ | refine below_dN' ?_ _)) b6))); clear b6)
                | (go_at_call 35; (with_reducible (refine (rnumber_any p.1.cbits _ n9.out.1 n9.out.2).mono ?_)); rintro e W6 ⟨rfl, b6⟩; (have HVA := Lib.hid (HVA.out.on (Below.trans (by repeat (first | exact Below.refl _ _ | refine Below.drew ?_ | refine below_dN' ?_ _)) b6))); clear b6)
                | ((refine step_vapp (w := w) (r := r) (g2 := gv) (o2 := oV p.1 p.2.a p.2.n p.2.c) (acc := B4) (by rfl) (.tmp 89) (.tmp 106) (by rfl) (by first | exact HVA.out.alloc _ | exact HVA.out.drew.alloc _ | exact (HVA.out.drewN _).alloc _ | exact (HVA.out.alloc _).drew | exact (HVA.out.alloc _).drewN _ | exact HVA.out | exact HVA.out.drew) (by rfl) [vN p.1.cmin, vN p.1.cmax, vN p.1.cwin, vN p.1.cbits] ⟨_, _, 4, 4, (by rfl), new_rows rfl rfl⟩ HL.out ?_); (intro u1 W7 HVA)))
              obtain ⟨B5, hB5⟩ : ∃ z, z = B4 ++ [vN p.1.cmin, vN p.1.cmax, vN p.1.cwin, vN p.1.cbits] := ⟨_, rfl⟩
              rw [← hB5] at HVA HT
              have hbl5 : B5.length ≤ 52 + 16 * k := by rw [hB5, List.length_append]; simp only [List.length_cons, List.length_nil]; omega
              clear hB5 HL f6 f7 f8 f9
              have f11 := atc HVA.out.two 11 _ rfl
              have f12 := atc HVA.out.two 12 _ rfl
              have f13 := atc HVA.out.two 13 _ rfl
              have f14 := atc HVA.out.two 14 _ rfl
              have HL : Hid (B5.length + [vN p.1.ra, vN p.1.rb, vN p.1.rc, vN p.1.rd].length ≤ 200000) := by show _ ≤ _; simp only [List.length_cons, List.length_nil]; omega
              go_wp2_with fail
              go_region_held3 (fun w' => w'.cell? ⟨gv, 11, none⟩ = some (.int .i64 p.1.ra) ∧ w'.cell? ⟨gv, 12, none⟩ = some (.int .i64 p.1.rb) ∧ w'.cell? ⟨gv, 13, none⟩ = some (.int .i64 p.1.rc) ∧ w'.cell? ⟨gv, 14, none⟩ = some (.int .i64 p.1.rd)) (first | exact ⟨atc HVA.out.two 11 _ rfl, atc HVA.out.two 12 _ rfl, atc HVA.out.two 13 _ rfl, atc HVA.out.two 14 _ rfl⟩ | go_keep) (first
                | (go_at_call 35; (with_reducible (refine (rnumber_any p.1.ra _ n11.out.1 n11.out.2).mono ?_)); rintro e W6 ⟨rfl, b6⟩; (have HVA := Lib.hid (HVA.out.on (Below.trans (by repeat (first | exact Below.refl _ _ | refine Below.drew ?_ | refine below_dN' ?_ _)) b6))); clear b6)
                | (go_at_call 35; (with_reducible (refine (rnumber_any p.1.rb _ n12.out.1 n12.out.2).mono ?_)); rintro e W6 ⟨rfl, b6⟩; (have HVA := Lib.hid (HVA.out.on (Below.trans (by repeat (first | exact Below.refl _ _ | refine Below.drew ?_ | refine below_dN' ?_ _)) b6))); clear b6)
                | (go_at_call 35; (with_reducible (refine (rnumber_any p.1.rc _ n13.out.1 n13.out.2).mono ?_)); rintro e W6 ⟨rfl, b6⟩; (have HVA := Lib.hid (HVA.out.on (Below.trans (by repeat (first | exact Below.refl _ _ | refine Below.drew ?_ | refine below_dN' ?_ _)) b6))); clear b6)
                | (go_at_call 35; (with_reducible (refine (rnumber_any p.1.rd _ n14.out.1 n14.out.2).mono ?_)); rintro e W6 ⟨rfl, b6⟩; (have HVA := Lib.hid (HVA.out.on (Below.trans (by repeat (first | exact Below.refl _ _ | refine Below.drew ?_ | refine below_dN' ?_ _)) b6))); clear b6)
                | ((refine step_vapp (w := w) (r := r) (g2 := gv) (o2 := oV p.1 p.2.a p.2.n p.2.c) (acc := B5) (by rfl) (.tmp 108) (.tmp 125) (by rfl) (by first | exact HVA.out.alloc _ | exact HVA.out.drew.alloc _ | exact (HVA.out.drewN _).alloc _ | exact (HVA.out.alloc _).drew | exact (HVA.out.alloc _).drewN _ | exact HVA.out | exact HVA.out.drew) (by rfl) [vN p.1.ra, vN p.1.rb, vN p.1.rc, vN p.1.rd] ⟨_, _, 4, 4, (by rfl), new_rows rfl rfl⟩ HL.out ?_); (intro u1 W7 HVA)))
              obtain ⟨B6, hB6⟩ : ∃ z, z = B5 ++ [vN p.1.ra, vN p.1.rb, vN p.1.rc, vN p.1.rd] := ⟨_, rfl⟩
              rw [← hB6] at HVA HT
              have hbl6 : B6.length ≤ 56 + 16 * k := by rw [hB6, List.length_append]; simp only [List.length_cons, List.length_nil]; omega
              clear hB6 HL f11 f12 f13 f14
              go_wp2_with fail
              go_roundw
              case rel => exact ⟨k + 1, B6, by omega, by go_num, HVA.out.drop, HT.out _ rfl, by omega⟩
              case measure => simp [intOf]; omega
              -- END rest
          -- END vlt
        · obtain rfl : k = r.a2.n := by omega
          have HA2 : Hid (acc = B1 ++ S.fv.flatMap vlV) := by
            have h := HACC.out
            rw [List.take_of_length_le (by have := HN2.out; omega)] at h
            exact h
          clear HACC
          -- PART chs
          have HQN := Lib.hid (nb_of (HQ.out ▸ HE.out.q : nOk r.q))
          have HL : Hid (acc.length + [vN r.q, vC r.a3.n].length ≤ 200000) := by show _ ≤ _; simp only [List.length_cons, List.length_nil]; omega
          go_wp2_with fail
          go_region_held3 (fun w' => w'.cell? ⟨w.heap.size, 2, none⟩ = some (.int .i64 r.q) ∧ w'.cell? ⟨w.heap.size, 3, none⟩ = some (.slice r.a3.a r.a3.n r.a3.c)) (first | exact ⟨atc HVA.out.box 2 _ rfl, atc HVA.out.box 3 _ rfl⟩ | go_keep) (first
            | (go_at_call 35; (with_reducible (refine (rnumber_any r.q _ HQN.out.1 HQN.out.2).mono ?_)); rintro e W6 ⟨rfl, b6⟩; (have HVA := Lib.hid (HVA.out.on (Below.trans (by repeat (first | exact Below.refl _ _ | refine Below.drew ?_ | refine below_dN' ?_ _)) b6))); clear b6)
            | (go_at_call 33; (with_reducible (refine (rcount_any r.a3.n _).mono ?_)); rintro e W6 ⟨rfl, b6⟩; (have HVA := Lib.hid (HVA.out.on (Below.trans (by repeat (first | exact Below.refl _ _ | refine Below.drew ?_ | refine below_dN' ?_ _)) b6))); clear b6)
            | ((refine step_vapp (w := w) (r := r) (g2 := w.heap.size) (o2 := r.obj) (acc := acc) (by rfl) (.tmp 127) (.tmp 135) (by rfl) (by first | exact HVA.out.alloc _ | exact HVA.out.drew.alloc _ | exact (HVA.out.drewN _).alloc _ | exact (HVA.out.alloc _).drew | exact (HVA.out.alloc _).drewN _ | exact HVA.out | exact HVA.out.drew) (by rfl) [vN r.q, vC r.a3.n] ⟨_, _, 2, 2, (by rfl), new_rows rfl rfl⟩ HL.out ?_); (intro u1 W7 HVA)))
          obtain ⟨B3, hB3⟩ : ∃ z, z = acc ++ [vN r.q, vC r.a3.n] := ⟨_, rfl⟩
          rw [← hB3] at HVA
          have hbl3 : B3.length ≤ 300 := by rw [hB3, List.length_append]; simp only [List.length_cons, List.length_nil]; omega
          have HB3 : Hid (B3 = [vC r.a1.n] ++ S.fm.flatMap vlM ++ [vC r.a2.n] ++ S.fv.flatMap vlV ++ [vN r.q, vC r.a3.n]) := by show _ = _; rw [hB3, HA2.out, HB1.out]
          clear hB3 HA2 hal HL s0 s1 s2 s3 s4 s5 s6
          go_wp2_with fail
          go_loopw [3, 8] (fun u i wr => ∃ (k : Nat) (acc : List Vl), k ≤ r.a3.n ∧ i = .int .i64 k ∧ Hid (VA w wr r w.heap.size r.obj u acc) ∧ Hid (acc = B3 ++ (S.chs.take k).flatMap vlX) ∧ acc.length ≤ 300 + 4 * k) (fun _ i _ => r.a3.n - (intOf i).toNat)
          case atStart => exact ⟨0, B3, Nat.zero_le _, rfl, HVA, by show _ = _; simp, by omega⟩
          case round =>
            clear HVA
            obtain ⟨k, acc, hk, rfl, HVA, HACC, hal⟩ := hrel
            obtain ⟨s0, s1, s2, s3, s4, s5, s6⟩ := seven_of HVA.out.box
            by_cases hlt : k < r.a3.n
            · -- PART chg
              obtain ⟨b, off, x, hA, hbB, hxk, hcell⟩ := (HC.out.up HVA.out.bel (Nat.le_refl _)).at_ hlt
              rw [hA] at s3
              obtain ⟨c0, c1, c2, c3, c4, c5, c6, c7, c8⟩ := nine hcell
              have hck : S.chs[k]? = some (chg x) := by rw [← HYS.out, List.getElem?_map, hxk]; rfl
              have HXO := Lib.hid (HE.out.ch _ (List.mem_of_getElem? hck))
              have HKX := Lib.hid (HK.out x (List.mem_of_getElem? hxk))
              have HT : Hid (acc ++ vlX (chg x) = B3 ++ (S.chs.take (k + 1)).flatMap vlX) := by
                show _ = _
                rw [HACC.out, take_snoc hck, List.flatMap_append]; simp
              have HKN : Hid (0 ≤ x.kind ∧ x.kind ≤ 9223372036854775807) := by
                rcases HKX.out with h | h | h <;> (rw [h]; exact ⟨by decide, by decide⟩)
              obtain ⟨W2, hW2⟩ : ∃ W2 : World, W2 = wr.alloc (oXr x) := ⟨_, rfl⟩
              have HVA2 : Hid (VA w W2 r wr.heap.size (oXr x) u3 acc) := by rw [hW2]; exact HVA.out.new _
              have HW2 := Lib.hid hW2
              clear hA hcell hxk hck hbB hW2
              go_wp2_with (refine wpList_store_new (o := ⟨none, .store 42 (.tmp 9) (.tmp 148), _, _, _, _⟩) rfl 42 (.tmp 9) (.tmp 148) rfl 42 _ (fX x).toArray rfl rfl Tryz.sizeXr rfl rfl ?_)
              rw [← HW2.out]
              clear HVA
              have HVA := HVA2
              clear HVA2
              refine (rnumber_any x.kind W2 HKN.out.1 HKN.out.2).mono ?_
              rintro e W6 ⟨rfl, b6⟩
              have HVA := Lib.hid (HVA.out.on b6)
              have HL : Hid (acc.length + [vN x.kind].length ≤ 200000) := by show _ ≤ _; simp only [List.length_cons, List.length_nil]; omega
              obtain ⟨gx, hgx⟩ : ∃ g, g = wr.heap.size := ⟨_, rfl⟩
              rw [← hgx] at HVA ⊢
              clear hgx b6 s0 s1 s2 s3 s4 s5 s6 c0 c1 c2 c3 c4 c5 c6 c7 c8
              obtain ⟨kd, m, xv, xa, xb⟩ := x
              rcases HKX.out with h | h | h
              · -- PART adm
                dsimp only at h
                subst h
                have HMQ := Lib.hid (nb_of (HXO.out : mOk m).2.2)
                have e0 := atc HVA.out.two 0 _ rfl
                go_wp2_with (at_builtin; (refine wpList_vapp (w := w) (r := r) (g2 := gx) (o2 := oXr ⟨1, m, xv, xa, xb⟩) (acc := acc) (o := ⟨some 154, _, _, _, _, _⟩) rfl (.tmp 149) (.tmp 153) rfl (HVA.out.alloc _) (by rfl) [vN 1] ⟨_, _, 1, 1, (by rfl), new_rows rfl rfl⟩ HL.out ?_; intro u1 W7 HVA; (have e0 := atc HVA.out.two 0 _ rfl); (have e1 := atc HVA.out.two 1 _ rfl); (have e2 := atc HVA.out.two 2 _ rfl); (have e3 := atc HVA.out.two 3 _ rfl); (have e4 := atc HVA.out.two 4 _ rfl); (have e5 := atc HVA.out.two 5 _ rfl)))
                obtain ⟨B4, hB4⟩ : ∃ z, z = acc ++ [vN 1] := ⟨_, rfl⟩
                rw [← hB4] at HVA
                have hbl4 : B4.length ≤ 301 + 4 * k := by rw [hB4, List.length_append]; simp only [List.length_cons, List.length_nil]; omega
                have HB4 : Hid (∀ (z : List Vl), vlX (chg ⟨1, m, xv, xa, xb⟩) = vN 1 :: z → B4 ++ z = B3 ++ (S.chs.take (k + 1)).flatMap vlX) := by
                  intro z hz
                  rw [← HT.out, hz, hB4]; simp
                clear hB4 HL HACC hal HT
                refine (rmember_any m _ HMQ.out.1 HMQ.out.2).mono ?_
                rintro e W6 ⟨A6, c6, rfl, hs6, b6⟩
                have HVA := Lib.hid (HVA.out.on b6)
                have HS6 := Lib.hid hs6
                have HL : Hid (B4.length + (vlM m).length ≤ 200000) := by show _ ≤ _; simp only [vlM, List.length_cons, List.length_nil]; omega
                clear b6 hs6 e0 e1 e2 e3 e4 e5
                go_wp2_with (at_builtin; (refine wpList_vapp (w := w) (r := r) (g2 := gx) (o2 := oXr ⟨1, m, xv, xa, xb⟩) (acc := B4) (o := ⟨some 175, _, _, _, _, _⟩) rfl (.tmp 171) (.tmp 174) rfl HVA.out (by rfl) (vlM m) ⟨_, A6, 3, c6, (by rfl), HS6.out⟩ HL.out ?_; intro u1 W7 HVA))
                go_roundw
                case rel => exact ⟨k + 1, _, by omega, by go_num, HVA.out.drop, HB4.out _ rfl, by rw [List.length_append]; simp only [vlM, List.length_cons, List.length_nil]; omega⟩
                case measure => simp [intOf]; omega
                -- END adm
              · -- PART bal
                dsimp only at h
                subst h
                have e0 := atc HVA.out.two 0 _ rfl
                go_wp2_with (at_builtin; (refine wpList_vapp (w := w) (r := r) (g2 := gx) (o2 := oXr ⟨2, m, xv, xa, xb⟩) (acc := acc) (o := ⟨some 154, _, _, _, _, _⟩) rfl (.tmp 149) (.tmp 153) rfl (HVA.out.alloc _) (by rfl) [vN 2] ⟨_, _, 1, 1, (by rfl), new_rows rfl rfl⟩ HL.out ?_; intro u1 W7 HVA; (have e0 := atc HVA.out.two 0 _ rfl)))
                obtain ⟨B4, hB4⟩ : ∃ z, z = acc ++ [vN 2] := ⟨_, rfl⟩
                rw [← hB4] at HVA
                have hbl4 : B4.length ≤ 301 + 4 * k := by rw [hB4, List.length_append]; simp only [List.length_cons, List.length_nil]; omega
                have HB4 : Hid (∀ (z : List Vl), vlX (chg ⟨2, m, xv, xa, xb⟩) = vN 2 :: z → B4 ++ z = B3 ++ (S.chs.take (k + 1)).flatMap vlX) := by
                  intro z hz
                  rw [← HT.out, hz, hB4]; simp
                clear hB4 HL HACC hal HT
                have hxo : nOk xa ∧ nOk xb := HXO.out
                have na := Lib.hid (nb_of hxo.1)
                have nb := Lib.hid (nb_of hxo.2)
                have e3 := atc HVA.out.two 7 _ rfl
                have e4 := atc HVA.out.two 8 _ rfl
                have HL : Hid (B4.length + [vN xa, vN xb].length ≤ 200000) := by show _ ≤ _; simp only [List.length_cons, List.length_nil]; omega
                clear hxo
                go_wp2_with fail
                go_region_held3 (fun w' => w'.cell? ⟨gx, 7, none⟩ = some (.int .i64 xa) ∧ w'.cell? ⟨gx, 8, none⟩ = some (.int .i64 xb)) (first | exact ⟨atc HVA.out.two 7 _ rfl, atc HVA.out.two 8 _ rfl⟩ | go_keep) (first
                  | (go_at_call 35; (with_reducible (refine (rnumber_any xa _ na.out.1 na.out.2).mono ?_)); rintro e W6 ⟨rfl, b6⟩; (have HVA := Lib.hid (HVA.out.on (Below.trans (by repeat (first | exact Below.refl _ _ | refine Below.drew ?_ | refine below_dN' ?_ _)) b6))); clear b6)
                  | (go_at_call 35; (with_reducible (refine (rnumber_any xb _ nb.out.1 nb.out.2).mono ?_)); rintro e W6 ⟨rfl, b6⟩; (have HVA := Lib.hid (HVA.out.on (Below.trans (by repeat (first | exact Below.refl _ _ | refine Below.drew ?_ | refine below_dN' ?_ _)) b6))); clear b6)
                  | ((refine step_vapp (w := w) (r := r) (g2 := gx) (o2 := oXr ⟨2, m, xv, xa, xb⟩) (acc := B4) (by rfl) (.tmp 178) (.tmp 185) (by rfl) (by first | exact HVA.out.alloc _ | exact HVA.out.drew.alloc _ | exact (HVA.out.drewN _).alloc _ | exact (HVA.out.alloc _).drew | exact (HVA.out.alloc _).drewN _ | exact HVA.out | exact HVA.out.drew) (by rfl) [vN xa, vN xb] ⟨_, _, 2, 2, (by rfl), new_rows rfl rfl⟩ HL.out ?_); (intro u1 W7 HVA)))
                clear e0 e3 e4
                go_wp2_with fail
                go_roundw
                case rel => exact ⟨k + 1, _, by omega, by go_num, HVA.out.drop, HB4.out _ rfl, by rw [List.length_append]; simp only [List.length_cons, List.length_nil]; omega⟩
                case measure => simp [intOf]; omega
                -- END bal
              · -- PART rep
                dsimp only at h
                subst h
                have e0 := atc HVA.out.two 0 _ rfl
                go_wp2_with (at_builtin; (refine wpList_vapp (w := w) (r := r) (g2 := gx) (o2 := oXr ⟨3, m, xv, xa, xb⟩) (acc := acc) (o := ⟨some 154, _, _, _, _, _⟩) rfl (.tmp 149) (.tmp 153) rfl (HVA.out.alloc _) (by rfl) [vN 3] ⟨_, _, 1, 1, (by rfl), new_rows rfl rfl⟩ HL.out ?_; intro u1 W7 HVA; (have e0 := atc HVA.out.two 0 _ rfl)))
                obtain ⟨B4, hB4⟩ : ∃ z, z = acc ++ [vN 3] := ⟨_, rfl⟩
                rw [← hB4] at HVA
                have hbl4 : B4.length ≤ 301 + 4 * k := by rw [hB4, List.length_append]; simp only [List.length_cons, List.length_nil]; omega
                have HB4 : Hid (∀ (z : List Vl), vlX (chg ⟨3, m, xv, xa, xb⟩) = vN 3 :: z → B4 ++ z = B3 ++ (S.chs.take (k + 1)).flatMap vlX) := by
                  intro z hz
                  rw [← HT.out, hz, hB4]; simp
                clear hB4 HL HACC hal HT
                have hxo : nOk xv ∧ nOk xa ∧ nOk xb := HXO.out
                have nv := Lib.hid (nb_of hxo.1)
                have na := Lib.hid (nb_of hxo.2.1)
                have nb := Lib.hid (nb_of hxo.2.2)
                have e2 := atc HVA.out.two 6 _ rfl
                have e3 := atc HVA.out.two 7 _ rfl
                have e4 := atc HVA.out.two 8 _ rfl
                have HL : Hid (B4.length + [vN xv, vN xa, vN xb].length ≤ 200000) := by show _ ≤ _; simp only [List.length_cons, List.length_nil]; omega
                clear hxo
                go_wp2_with fail
                go_region_held3 (fun w' => w'.cell? ⟨gx, 6, none⟩ = some (.int .i64 xv) ∧ w'.cell? ⟨gx, 7, none⟩ = some (.int .i64 xa) ∧ w'.cell? ⟨gx, 8, none⟩ = some (.int .i64 xb)) (first | exact ⟨atc HVA.out.two 6 _ rfl, atc HVA.out.two 7 _ rfl, atc HVA.out.two 8 _ rfl⟩ | go_keep) (first
                  | (go_at_call 35; (with_reducible (refine (rnumber_any xv _ nv.out.1 nv.out.2).mono ?_)); rintro e W6 ⟨rfl, b6⟩; (have HVA := Lib.hid (HVA.out.on (Below.trans (by repeat (first | exact Below.refl _ _ | refine Below.drew ?_ | refine below_dN' ?_ _)) b6))); clear b6)
                  | (go_at_call 35; (with_reducible (refine (rnumber_any xa _ na.out.1 na.out.2).mono ?_)); rintro e W6 ⟨rfl, b6⟩; (have HVA := Lib.hid (HVA.out.on (Below.trans (by repeat (first | exact Below.refl _ _ | refine Below.drew ?_ | refine below_dN' ?_ _)) b6))); clear b6)
                  | (go_at_call 35; (with_reducible (refine (rnumber_any xb _ nb.out.1 nb.out.2).mono ?_)); rintro e W6 ⟨rfl, b6⟩; (have HVA := Lib.hid (HVA.out.on (Below.trans (by repeat (first | exact Below.refl _ _ | refine Below.drew ?_ | refine below_dN' ?_ _)) b6))); clear b6)
                  | ((refine step_vapp (w := w) (r := r) (g2 := gx) (o2 := oXr ⟨3, m, xv, xa, xb⟩) (acc := B4) (by rfl) (.tmp 157) (.tmp 167) (by rfl) (by first | exact HVA.out.alloc _ | exact HVA.out.drew.alloc _ | exact (HVA.out.drewN _).alloc _ | exact (HVA.out.alloc _).drew | exact (HVA.out.alloc _).drewN _ | exact HVA.out | exact HVA.out.drew) (by rfl) [vN xv, vN xa, vN xb] ⟨_, _, 3, 3, (by rfl), new_rows rfl rfl⟩ HL.out ?_); (intro u1 W7 HVA)))
                clear e0 e2 e3 e4
                go_wp2_with fail
                go_roundw
                case rel => exact ⟨k + 1, _, by omega, by go_num, HVA.out.drop, HB4.out _ rfl, by rw [List.length_append]; simp only [List.length_cons, List.length_nil]; omega⟩
                case measure => simp [intOf]; omega
                -- END rep
              -- END chg
            · obtain rfl : k = r.a3.n := by omega
              have HA3 : Hid (acc = vlC S) := by
                have h := HACC.out
                rw [List.take_of_length_le (by have := HN3.out; omega), HB3.out] at h
                show _ = _
                rw [h]
                unfold vlC
                rw [HN1.out, HN2.out, HN3.out, ← HQ.out]
                simp only [List.append_assoc]
              -- PART fin
              obtain ⟨A9, c9, hu, hs9⟩ := HVA.out.row
              obtain ⟨n9, hn9⟩ : ∃ n, acc.length = n := ⟨_, rfl⟩
              rw [hn9] at hu hs9
              rw [HA3.out] at hs9
              have HEN := Lib.hid (rencode_any (vlC S) A9 n9 c9 wr hs9 (vlOk_all HE.out (by have := HCH.out; omega)) (by rw [flat_C]; have := encC_len HE.out (by have := HCH.out; omega); omega) (by omega))
              subst hu
              clear hs9 hn9
              go_wp2_with fail
              refine HEN.out.mono ?_
              rintro e W9 ⟨v9, rfl, h9, b9⟩
              have HO9 := Lib.hid h9
              have HB9 : Hid (Below w.heap.size w W9) := HVA.out.bel.trans (b9.mono HVA.out.bel.size)
              have HS9 : Hid (w.heap.size ≤ wr.heap.size) := HVA.out.bel.size
              clear h9 b9 s0 s1 s2 s3 s4 s5 s6
              go_wp2_with fail
              go_ret
              exact ⟨v9, rfl, by have h := HO9.out; rw [flat_C] at h; exact World.ownsRow.mono h HS9.out, HB9.out⟩
              -- END fin
          -- END chs
      -- END tail
end Go.Proofs.YtkeicjokekmkpaaGreat
