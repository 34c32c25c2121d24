/- retention.divide, Keep, Drop. -/
import Derived.Test.YtfffhdclbdmfnaaWhy
import Derived.Test.YtfffhdclbdmfnaaSet
import Derived.Test.YtfffhdclbdmfnaaLeaf3
namespace Go.Proofs.Ytfffhdclbdmfnaa
open Go.RowKit Ret
set_option linter.unusedVariables false
set_option linter.unusedSimpArgs false

/-- Two rows of the call's own, one of which has been appended to, lie apart still. -/
theorem own_apart {f : Int → Value} {e : TypeId} {w : World} {base : Nat} {u v v' : Value} {xs : List Int} (hu : Own f e w base u xs) (h : u.ownBlock = none ∨ u.ownBlock ≠ v.ownBlock) (hv : v'.ownBlock = v.ownBlock ∨ ∃ g, v'.ownBlock = some g ∧ w.heap.size ≤ g) : u.ownBlock = none ∨ u.ownBlock ≠ v'.ownBlock := by
  rcases h with h | h
  · exact .inl h
  · rcases hv with hv | ⟨g, hv, hg⟩
    · exact .inr (by rw [hv]; exact h)
    · refine .inr (fun he => ?_)
      rw [hv] at he
      have := (World.ownsRow.lt hu g he).2
      omega
theorem own_apart' {f : Int → Value} {e : TypeId} {w : World} {base : Nat} {u v v' : Value} {xs : List Int} (hu : Own f e w base u xs) (h : u.ownBlock = none ∨ u.ownBlock ≠ v.ownBlock) (hv : v'.ownBlock = v.ownBlock ∨ ∃ g, v'.ownBlock = some g ∧ w.heap.size ≤ g) : v'.ownBlock = none ∨ v'.ownBlock ≠ u.ownBlock := by
  rcases own_apart hu h hv with h' | h'
  · cases hb : v'.ownBlock with
    | none => exact .inl rfl
    | some g => exact .inr (by rw [h']; simp)
  · exact .inr (fun he => h' he.symm)
/-- The days that divide hands back. -/
def DivP (k d : List Int) (er : Int) (w : World) (e : Ending) (w' : World) : Prop :=
  ∃ A n c A' n' c', e = .returned (.tuple #[.slice A n c, .slice A' n' c', .int .i64 er]) ∧ n ≤ c ∧ n' ≤ c' ∧ Sl I w' w'.heap.size A n k ∧ Sl I w' w'.heap.size A' n' d ∧ Below w.heap.size w w'

set_option maxRecDepth 20000 in
set_option maxHeartbeats 2000000 in
theorem divide_no (a b c d : Int) (A A' : Option Addr) (n n' cp cp' : Nat) (xs ys : List Int) (w : World) (hx : Sl I w w.heap.size A n xs) (hy : Sl I w w.heap.size A' n' ys) (hn : n ≤ 100000) (hn' : n' ≤ 100000) (hb : argB a b c d xs ys = false) :
    Calls Try.prog 39 #[fR a b c d, .slice A n cp, .slice A' n' cp'] w (DivP [] [] 1 w) := by
  have hb0 : Below w.heap.size w (w.alloc (.cells #[.int .i64 a, .int .i64 b, .int .i64 c, .int .i64 d] 23)) := (Below.refl _ _).alloc (Nat.le_refl _) _
  have HC := Lib.hid (chk_any a b c d A A' n n' cp cp' xs ys (w.alloc (.cells #[.int .i64 a, .int .i64 b, .int .i64 c, .int .i64 d] 23)) ((hx.up hb0 (Nat.le_refl _)).more' (by simp)) ((hy.up hb0 (Nat.le_refl _)).more' (by simp)) (by omega) (by omega))
  rw [argE, hb] at HC
  have HB0 := Lib.hid hb0
  clear hx hy hb hb0
  go_enter Try.func39, Try.ntmps39
  go_wp2_with fail
  refine HC.out.mono ?_
  rintro e w1 ⟨rfl, hb1⟩
  have HB1 : Hid (Below w.heap.size w w1) := HB0.out.trans (hb1.mono (by simp))
  clear hb1
  go_wp2_with fail
  go_ret3
  exact ⟨none, 0, 0, none, 0, 0, rfl, Nat.le_refl _, Nat.le_refl _, ⟨rfl, SL.nil⟩, ⟨rfl, SL.nil⟩, HB1.out⟩

set_option maxRecDepth 20000 in
set_option maxHeartbeats 4000000 in
theorem divide_yes (nm : Nums) (h1 : nm.a ≤ 1000) (h2 : nm.b ≤ 1000) (h3 : nm.c ≤ 1000) (h4 : nm.d ≤ 1000) (A A' : Option Addr) (n n' cp cp' : Nat) (xs ys : List Int) (w : World) (hx : Sl I w w.heap.size A n xs) (hy : Sl I w w.heap.size A' n' ys) (hn : n ≤ 100000) (hn' : n' ≤ 100000) (hb : argB nm.a nm.b nm.c nm.d xs ys = true) :
    Calls Try.prog 39 #[fR nm.a nm.b nm.c nm.d, .slice A n cp, .slice A' n' cp'] w (DivP (keptL nm xs ys) (dropL nm xs ys) 0 w) := by
  obtain ⟨W0, hW0⟩ : ∃ W0 : World, W0 = w.alloc (.cells #[.int .i64 nm.a, .int .i64 nm.b, .int .i64 nm.c, .int .i64 nm.d] 23) := ⟨_, rfl⟩
  have hb0 : Below w.heap.size w W0 := by rw [hW0]; exact (Below.refl _ _).alloc (Nat.le_refl _) _
  have hg0 : W0.heap[w.heap.size]? = some (.cells #[.int .i64 nm.a, .int .i64 nm.b, .int .i64 nm.c, .int .i64 nm.d] 23 (0, 0)) := by rw [hW0]; exact heap_alloc_new w _
  have HX0 : Hid (Sl I W0 W0.heap.size A n xs) := (hx.up hb0 (Nat.le_refl _)).more' hb0.size
  have HY0 : Hid (Sl I W0 W0.heap.size A' n' ys) := (hy.up hb0 (Nat.le_refl _)).more' hb0.size
  have HC := Lib.hid (chk_any nm.a nm.b nm.c nm.d A A' n n' cp cp' xs ys W0 HX0.out HY0.out (by omega) (by omega))
  rw [argE, hb] at HC
  simp only [if_true] at HC
  unfold argB at hb
  simp only [Bool.and_eq_true] at hb
  obtain ⟨_, hbx, hby⟩ := hb
  have HXO : Hid (∀ x ∈ xs, okD x) := allOk hbx
  have HYO : Hid (∀ x ∈ ys, okD x) := allOk hby
  have HB0 := Lib.hid hb0
  have HG0 := Lib.hid hg0
  have hlx : xs.length = n := hx.1
  have HLX := Lib.hid hlx
  have hly : ys.length = n' := hy.1
  have HLY := Lib.hid hly
  clear hx hy hb0 hg0 hbx hby hlx hly
  obtain ⟨zs, hzs⟩ := to_days (srt xs) (fun x hx => HXO.out x ((srt_mem x xs).1 hx))
  obtain ⟨hs, hhs⟩ := to_days ys HYO.out
  have HZS := Lib.hid hzs
  have HHS := Lib.hid hhs
  have hlz : zs.length ≤ 100000 := by
    have h1 := srt_len xs
    rw [← hzs] at h1
    simp at h1
    have := HLX.out
    omega
  have hlh : hs.length = n' := by
    have := HLY.out
    rw [← hhs] at this
    simpa using this
  subst hlh
  clear hzs hhs
  go_enter Try.func39, Try.ntmps39
  go_wp2_with fail
  rw [← hW0]
  clear hW0
  refine HC.out.mono ?_
  rintro e w1 ⟨rfl, hb1⟩
  have HB1 : Hid (Below w.heap.size w w1) := HB0.out.trans (hb1.mono HB0.out.size)
  have HX1 := Lib.hid (HX0.out.up hb1 (Nat.le_refl _) |>.more' hb1.size)
  have HY1 := Lib.hid (HY0.out.up hb1 (Nat.le_refl _) |>.more' hb1.size)
  have HG1 : Hid (w1.heap[w.heap.size]? = some (.cells #[.int .i64 nm.a, .int .i64 nm.b, .int .i64 nm.c, .int .i64 nm.d] 23 (0, 0))) := (hb1.block _ (lt_of_block HG0.out)).trans HG0.out
  clear hb1
  go_wp2_with fail
  refine (set_any A n cp xs w1 HX1.out (by omega)).mono ?_
  rintro e w2 ⟨v2, rfl, ho2, hb2⟩
  have HB2 : Hid (Below w.heap.size w w2) := HB1.out.trans (hb2.mono HB1.out.size)
  have HY2 := Lib.hid (HY1.out.up hb2 (Nat.le_refl _) |>.more' hb2.size)
  have HG2 : Hid (w2.heap[w.heap.size]? = some (.cells #[.int .i64 nm.a, .int .i64 nm.b, .int .i64 nm.c, .int .i64 nm.d] 23 (0, 0))) := (hb2.block _ (lt_of_block HG1.out)).trans HG1.out
  obtain ⟨A2, c2, rfl, hc2, hs2, _⟩ := ho2.shape
  have HLZ : Hid ((srt xs).length = zs.length) := by show _ = _; rw [← HZS.out]; simp
  have HS2 : Hid (Sl I w2 w2.heap.size A2 zs.length (dys zs)) := ⟨by simp, by rw [HZS.out]; exact hs2⟩
  clear ho2 hb2 hs2 hc2
  rw [HLZ.out]
  have g0 := cell_of_row w2 w.heap.size 0 _ _ _ HG2.out
  have g1 := cell_of_row w2 w.heap.size 1 _ _ _ HG2.out
  have g2 := cell_of_row w2 w.heap.size 2 _ _ _ HG2.out
  have g3 := cell_of_row w2 w.heap.size 3 _ _ _ HG2.out
  simp at g0 g1 g2 g3
  go_wp2_with fail
  refine (reasons_any nm.a nm.b nm.c nm.d h1 h2 h3 h4 A2 A' c2 cp' zs hs w2 HS2.out (by rw [HHS.out]; exact HY2.out) hlz (by omega)).mono ?_
  rintro e w3 ⟨bm, m, rfl, hm3, hb3⟩
  have HM3 : Hid (MapI Try.prog 3 3 w3 bm m (fun y => whyF zs hs nm.a nm.b nm.c nm.d y)) := hm3
  have HB3 : Hid (Below w.heap.size w w3) := HB2.out.trans (hb3.mono HB2.out.size)
  have HS3 : Hid (Sl I w3 w3.heap.size A2 zs.length (dys zs)) := (HS2.out.up hb3 (Nat.le_refl _)).more' hb3.size
  have hbm := hm3.lt
  obtain ⟨i0, hi, hz0, hz1, hz2⟩ := info_parts Try.infoInt
  have HI := Lib.hid hi
  have HZ0 := Lib.hid hz0
  have HZ1 := Lib.hid hz1
  have HZ2 := Lib.hid hz2
  have HRS : Hid (∀ y ∈ dys zs, whyF zs hs nm.a nm.b nm.c nm.d y = rsn nm xs ys y) := fun y hy => by
    have hz : Asc (dys zs) := by rw [HZS.out]; exact srt_asc xs
    have h := whyF_rsn zs hs nm.a nm.b nm.c nm.d hz y hy
    rw [HHS.out] at h
    rw [h]
    exact rsn_congr (fun x => by rw [HZS.out]; exact srt_mem x xs) y
  clear hm3 hb3 hi hz0 hz1 hz2 g0 g1 g2 g3
  go_wp2
  go_loopw [31, 12, 13] (fun i u v wr => ∃ j : Nat, j ≤ zs.length ∧ i = .int .i64 j ∧ Hid (Own I 3 wr w3.heap.size u (((dys zs).take j).filter fun y => decide (rsn nm xs ys y ≠ 0))) ∧ Hid (Own I 3 wr w3.heap.size v (((dys zs).take j).filter fun y => decide (rsn nm xs ys y = 0))) ∧ Hid (u.ownBlock = none ∨ u.ownBlock ≠ v.ownBlock) ∧ Hid (v.ownBlock = none ∨ v.ownBlock ≠ u.ownBlock) ∧ Hid (Below w3.heap.size w3 wr)) (fun i _ _ _ => zs.length - (intOf i).toNat)
  case atStart => exact ⟨0, Nat.zero_le _, rfl, Own.nil, Own.nil, .inl rfl, .inl rfl, Below.refl _ _⟩
  case round =>
    obtain ⟨j, hj, rfl, HU, HV, HD1, HD2, HBW⟩ := hrel
    have hszw := HBW.out.size
    by_cases hlt : j < zs.length
    · have hsl := HS3.out.up HBW.out (Nat.le_refl _)
      obtain ⟨bb, off, y, rfl, hbb, hyk, hcy⟩ := hsl.2.at_ (k := j) (by rw [List.length_map]; omega)
      have HYK := Lib.hid hyk
      have hym : y ∈ dys zs := List.mem_of_getElem? hyk
      have hyd : okD y := by
        obtain ⟨z, hz, rfl⟩ := List.mem_map.1 hym
        exact z.2
      have HWF : Hid ((Lit.int .i64 y).wf = true) := int_wf (by unfold okD at hyd; omega)
      have hl := (HM3.out.block (HBW.out.block bm hbm)).look (mt := 44) Try.underlying3 Try.underlying44 Try.underlying3 zeroI y HWF.out
      obtain ⟨r, hr⟩ : ∃ r, rsn nm xs ys y = r := ⟨_, rfl⟩
      have hwr : whyF zs hs nm.a nm.b nm.c nm.d y = r := (HRS.out y hym).trans hr
      simp only [hwr] at hl
      have HR := Lib.hid hr
      have HL1 : Hid (((((dys zs).take j).filter fun y => decide (rsn nm xs ys y ≠ 0)).length + 1) * 8 ≤ 140737488355328) := by
        show _ ≤ _
        have h1 := List.length_filter_le (fun y => decide (rsn nm xs ys y ≠ 0)) ((dys zs).take j)
        rw [List.length_take] at h1
        omega
      have HL2 : Hid ((((dys zs).take j).filter fun y => decide (rsn nm xs ys y ≠ 0)).length + 1 ≤ maxLen) := by
        show _ ≤ _
        have h1 := List.length_filter_le (fun y => decide (rsn nm xs ys y ≠ 0)) ((dys zs).take j)
        rw [List.length_take] at h1
        unfold maxLen
        omega
      have HK1 : Hid (((((dys zs).take j).filter fun y => decide (rsn nm xs ys y = 0)).length + 1) * 8 ≤ 140737488355328) := by
        show _ ≤ _
        have h1 := List.length_filter_le (fun y => decide (rsn nm xs ys y = 0)) ((dys zs).take j)
        rw [List.length_take] at h1
        omega
      have HK2 : Hid ((((dys zs).take j).filter fun y => decide (rsn nm xs ys y = 0)).length + 1 ≤ maxLen) := by
        show _ ≤ _
        have h1 := List.length_filter_le (fun y => decide (rsn nm xs ys y = 0)) ((dys zs).take j)
        rw [List.length_take] at h1
        unfold maxLen
        omega
      have HSZ := Lib.hid hszw
      clear hsl hyk hym hyd hr hwr
      by_cases h0 : r = 0
      · have hb0 : (r != 0) = false := by simp [h0]
        have HF1 : Hid (((dys zs).take (j + 1)).filter (fun y => decide (rsn nm xs ys y ≠ 0)) = ((dys zs).take j).filter (fun y => decide (rsn nm xs ys y ≠ 0))) := by
          show _ = _
          rw [take_snoc HYK.out, List.filter_append]
          simp [HR.out, h0]
        have HF2 : Hid (((dys zs).take (j + 1)).filter (fun y => decide (rsn nm xs ys y = 0)) = ((dys zs).take j).filter (fun y => decide (rsn nm xs ys y = 0)) ++ [y]) := by
          show _ = _
          rw [take_snoc HYK.out, List.filter_append]
          simp [HR.out, h0]
        clear h0
        go_wp2_with (with_reducible refine wpList_app1 (o := ⟨some 46, _, _, _, _, _⟩) rfl (.tmp 43) (.tmp 45) 26 rfl 3 i0 (.int .i64 0) 8 Try.underlying26 HI.out HZ0.out HZ1.out HZ2.out rfl _ _ w3.heap.size rfl HV.out y 1 rfl I1 HK1.out HK2.out HSZ.out ?_; intro v6 w6 HO6 HG6 HV6)
        go_roundw
        case rel =>
          refine ⟨j + 1, by omega, by go_num, by show Own _ _ _ _ _ _; rw [HF1.out]; exact HU.out.kept HG6.out HD1.out, by show Own _ _ _ _ _ _; rw [HF2.out]; exact HO6.out, ?_, ?_, HV.out.below HBW.out (Nat.le_refl _) HSZ.out HG6.out⟩
          · exact own_apart HU.out HD1.out HV6.out
          · exact own_apart' HU.out HD1.out HV6.out
        case measure => simp [intOf]; omega
      · have hb0 : (r != 0) = true := by simp [h0]
        have HF1 : Hid (((dys zs).take (j + 1)).filter (fun y => decide (rsn nm xs ys y ≠ 0)) = ((dys zs).take j).filter (fun y => decide (rsn nm xs ys y ≠ 0)) ++ [y]) := by
          show _ = _
          rw [take_snoc HYK.out, List.filter_append]
          simp [HR.out, h0]
        have HF2 : Hid (((dys zs).take (j + 1)).filter (fun y => decide (rsn nm xs ys y = 0)) = ((dys zs).take j).filter (fun y => decide (rsn nm xs ys y = 0))) := by
          show _ = _
          rw [take_snoc HYK.out, List.filter_append]
          simp [HR.out, h0]
        clear h0
        go_wp2_with (with_reducible refine wpList_app1 (o := ⟨some 42, _, _, _, _, _⟩) rfl (.tmp 39) (.tmp 41) 26 rfl 3 i0 (.int .i64 0) 8 Try.underlying26 HI.out HZ0.out HZ1.out HZ2.out rfl _ _ w3.heap.size rfl HU.out y 1 rfl I1 HL1.out HL2.out HSZ.out ?_; intro v6 w6 HO6 HG6 HV6)
        go_roundw
        case rel =>
          refine ⟨j + 1, by omega, by go_num, by show Own _ _ _ _ _ _; rw [HF1.out]; exact HO6.out, by show Own _ _ _ _ _ _; rw [HF2.out]; exact HV.out.kept HG6.out HD2.out, ?_, ?_, HU.out.below HBW.out (Nat.le_refl _) HSZ.out HG6.out⟩
          · exact own_apart' HV.out HD2.out HV6.out
          · exact own_apart HV.out HD2.out HV6.out
        case measure => simp [intOf]; omega
    · obtain rfl : j = zs.length := by omega
      have HU2 := HU.out
      have HV2 := HV.out
      rw [List.take_of_length_le (by simp), HZS.out] at HU2 HV2
      obtain ⟨A5, c5, rfl, hc5, hs5, _⟩ := HU2.shape
      obtain ⟨A6, c6, rfl, hc6, hs6, _⟩ := HV2.shape
      have HS5 := Lib.hid hs5
      have HS6 := Lib.hid hs6
      have HC5 := Lib.hid hc5
      have HC6 := Lib.hid hc6
      clear hc5 hs5 hc6 hs6 HU2 HV2
      go_wp2
      go_ret3
      exact ⟨_, _, _, _, _, _, rfl, HC5.out, HC6.out, ⟨rfl, HS5.out⟩, ⟨rfl, HS6.out⟩, HB3.out.trans (HBW.out.mono HB3.out.size)⟩
end Go.Proofs.Ytfffhdclbdmfnaa
