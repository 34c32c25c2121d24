/- combine with max. -/
import Derived.Test.YtalclofogengpaaCombHd
namespace Go.Proofs.Ytalclofogengpaa
open Go.RowKit
set_option maxHeartbeats 1000000 in
theorem comb_max (A : Option Addr) (n : Nat) (vs : List (List Int)) (c : Nat) (w : World) (B : Nat) (hx : SLL I w B A n vs) (hB : B ≤ w.heap.size) (hn : n ≤ 1000000) (hlen : ∀ v ∈ vs, v.length ≤ 1000000) :
    Calls Try.prog 42 #[.func (.func 43) #[] #[], .slice A n c] w (CombPost max vs w) := by
  have hb0 : Below w.heap.size w (w.alloc (.cells Z12.toArray 57)) := (Below.refl _ _).alloc (Nat.le_refl _) _
  have HX := Lib.hid hx
  have HN : Hid (vs.length = n) := by obtain ⟨_, _, h, _⟩ := hx; exact h
  have HG : Hid ((w.alloc (.cells Z12.toArray 57)).heap[w.heap.size]? = some (.cells (av (accN max vs 0)) 57 (0, 0))) := heap_alloc_new w _
  have HB0 := Lib.hid hb0
  have HL := Lib.hid hlen
  clear hx hb0 hlen
  go_enter Try.func42, Try.ntmps42
  go_wp2
  go_loopw [14] (fun i wr => ∃ k : Nat, k ≤ n ∧ i = .int .i64 k ∧ Hid ((vs.take k).all validB = true) ∧ Hid (wr.heap[w.heap.size]? = some (.cells (av (accN max vs k)) 57 (0, 0))) ∧ w.heap.size < wr.heap.size ∧ Hid (Below w.heap.size w wr)) (fun i _ => n - (intOf i).toNat)
  case atStart => exact ⟨0, Nat.zero_le _, rfl, by show _ = _; simp, HG, by simp, HB0⟩
  case round =>
    obtain ⟨wo, rfl⟩ : ∃ wo : World, wo = wr := ⟨_, rfl⟩
    obtain ⟨k, hk, rfl, HV, HGk, hsz, HBk⟩ := hrel
    clear HG HB0
    by_cases hlt : k < n
    · obtain ⟨b, off, a, m, cc, v, rfl, hbB, hv, hcell, hsl⟩ := (HX.out.up HBk.out hB).at_ hlt
      have HSL := Lib.hid hsl
      have Hv := Lib.hid hv
      have hvl : v.length ≤ 1000000 := HL.out v (List.mem_of_getElem? hv)
      have hm : m ≤ 1000000 := by rw [← hsl.1]; exact hvl
      clear hsl hv
      by_cases hval : validB v = true
      · have HVal := Lib.hid hval
        have HP := Lib.hid (pad_len_of hval)
        have HS : Hid ((Try.prog.info? 57).map (·.size) = some (av (pad v)).size) := by show _ = _; rw [av_size, HP.out]; exact Try.size57
        have HS2 : Hid (Z12.toArray.size = (av (pad v)).size) := by show _ = _; rw [av_size, HP.out]; rfl
        have HAL := Lib.hid (accN_len max vs k (by rw [HN.out]; omega) HV.out)
        have HS3 : Hid ((av (accN max vs k)).size = (av (pad v)).size) := by show _ = _; rw [av_size, av_size, HP.out, HAL.out]
        clear hval
        by_cases h0 : k = 0
        · subst h0
          rw [Nat.add_zero] at hcell
          go_wp2_with (first
            | (go_at_call 39; refine (padded_yes _ _ v _ _ B HSL.out (by omega) HVal.out).mono ?_; rintro e w1 ⟨rfl, hb1⟩
               have HB1 := Lib.hid hb1
               have hs1 := hb1.size
               clear hb1)
            | (with_reducible refine wpList_store_far (o := ⟨none, .store 57 (.tmp 9) (.tmp 22), _, _, _, _⟩) rfl 57 (.tmp 9) (.tmp 22) rfl w1.heap.size 57 Z12.toArray (av (pad v)) rfl rfl (heap_alloc_new w1 _) HS.out HS2.out (av_one _) w1.heap.size w1 ((Below.refl _ _).alloc (Nat.le_refl _) _) (Nat.le_refl _) ?_
               intro w2 HG2 hb2 _
               have HB2 := Lib.hid hb2
               have hs2 := hb2.size
               clear hb2)
            | (with_reducible refine wpList_load_row (o := ⟨some 28, _, _, _, _, _⟩) rfl 57 (.tmp 9) rfl w1.heap.size rfl 57 (av (pad v)) (0, 0) _ HG2.out Try.underlying57 rfl HS.out ?_)
            | (with_reducible refine wpList_store_far (o := ⟨none, .store 57 (.tmp 6) (.tmp 28), _, _, _, _⟩) rfl 57 (.tmp 6) (.tmp 28) rfl w.heap.size 57 (av (accN max vs 0)) (av (pad v)) rfl rfl (((HB2.out.block _ (by omega)).trans (HB1.out.block _ hsz)).trans HGk.out) HS.out HS3.out (av_one _) w.heap.size w (HBk.out.trans ((HB1.out.mono (by omega)).trans (HB2.out.mono (by omega)))) (Nat.le_refl _) ?_
               intro wx HG6 hbx hgx
               have HG9 : Hid (wx.heap[w1.heap.size]? = some (.cells (av (pad v)) 57 (0, 0))) := (hgx.out.block _ (lt_of_block HG2.out) (fun e => by injection e; omega)).trans HG2.out
               have HBx := Lib.hid hbx
               have HACC : Hid (accN max vs (0 + 1) = mix max (pad v) (pad v) 12) := by show _ = _; rw [accN, if_pos rfl, getD_of Hv.out]
               clear hbx hgx HG2))
          go_loopw [29] (fun i wy => ∃ j : Nat, j ≤ 12 ∧ i = .int .i64 j ∧ Hid (wy.heap[w.heap.size]? = some (.cells (av (mix max (pad v) (pad v) j)) 57 (0, 0))) ∧ Hid (wy.heap[w1.heap.size]? = some (.cells (av (pad v)) 57 (0, 0))) ∧ Hid (Below w.heap.size w wy) ∧ w1.heap.size < wy.heap.size) (fun i _ => 12 - (intOf i).toNat)
          case atStart => exact ⟨0, by omega, rfl, HG6, HG9, HBx, lt_of_block HG9.out⟩
          case round =>
            obtain ⟨j, hj, rfl, HY6, HY9, HBy, hys⟩ := hrel
            clear HG6 HG9 HBx
            by_cases hj12 : j < 12
            · obtain ⟨rj, hrj⟩ := get_ex (xs := (pad v)) (k := j) (by have := HP.out; omega)
              obtain ⟨xj, hxj⟩ := get_ex (xs := pad v) (k := j) (by rw [HP.out]; omega)
              have hc6 := At.zero (f := I) (At.of_block HY6.out) ((mix_past max (pad v) (pad v) j j (Nat.le_refl _)).trans hrj)
              have hf6 := frozen_of_row wr w.heap.size j _ _ HY6.out
              have hc9 := At.zero (f := I) (At.of_block HY9.out) hxj
              have HM : Hid (mix max (pad v) (pad v) (j + 1) = (mix max (pad v) (pad v) j).set j (max rj xj)) := congr (congrArg (fun p q => (mix max (pad v) (pad v) j).set j (max p q)) (getD_of hrj)) (getD_of hxj)
              clear hrj hxj
              go_wp2
              go_still_tail 10, (by kernel_rfl)
              still_call (same_of (max_any _ _ _))
              repeat still_step
              refine wpStill_nil ?_
              change wpList _ _ _ _ _ wr.drew
              go_wp2
              go_roundw
              case rel => exact ⟨j + 1, by omega, by go_num, by
                show _ = _
                rw [HM.out, ← av_set]
                exact heap_setCell_same wr.drew _ _ _ _ _ HY6.out, (heap_setCell_other wr.drew _ _ _ (by show w1.heap.size ≠ w.heap.size; omega)).trans HY9.out, (HBy.out.drew).setCell (Nat.le_refl _) _, by simpa using hys⟩
              case measure => simp [intOf]; omega
            · obtain rfl : j = 12 := by omega
              go_wp2
              go_roundw
              case rel => exact ⟨0 + 1, by omega, by go_num, by
                show _ = _
                rw [take_snoc Hv.out, List.all_append, HV.out]; simp [HVal.out], by show _ = _; rw [HACC.out]; exact HY6.out, by omega, HBy⟩
              case measure => simp [intOf]; omega
        · have h0' : ((k : Int) == 0) = false := by simpa using h0
          go_wp2_with (first
            | (go_at_call 39; refine (padded_yes _ _ v _ _ B HSL.out (by omega) HVal.out).mono ?_; rintro e w1 ⟨rfl, hb1⟩
               have HB1 := Lib.hid hb1
               have hs1 := hb1.size
               clear hb1)
            | (with_reducible refine wpList_store_far (o := ⟨none, .store 57 (.tmp 9) (.tmp 22), _, _, _, _⟩) rfl 57 (.tmp 9) (.tmp 22) rfl w1.heap.size 57 Z12.toArray (av (pad v)) rfl rfl (heap_alloc_new w1 _) HS.out HS2.out (av_one _) w1.heap.size w1 ((Below.refl _ _).alloc (Nat.le_refl _) _) (Nat.le_refl _) ?_
               intro wx HG9 hbx _
               have HG6 : Hid (wx.heap[w.heap.size]? = some (.cells (av (accN max vs k)) 57 (0, 0))) := ((hbx.block _ (by omega)).trans (HB1.out.block _ hsz)).trans HGk.out
               have HBx : Hid (Below w.heap.size w wx) := HBk.out.trans ((HB1.out.mono (by omega)).trans (hbx.mono (by omega)))
               have HACC : Hid (accN max vs (k + 1) = mix max (accN max vs k) (pad v) 12) := by show _ = _; rw [accN, if_neg h0, getD_of Hv.out]
               clear hbx))
          go_loopw [29] (fun i wy => ∃ j : Nat, j ≤ 12 ∧ i = .int .i64 j ∧ Hid (wy.heap[w.heap.size]? = some (.cells (av (mix max (accN max vs k) (pad v) j)) 57 (0, 0))) ∧ Hid (wy.heap[w1.heap.size]? = some (.cells (av (pad v)) 57 (0, 0))) ∧ Hid (Below w.heap.size w wy) ∧ w1.heap.size < wy.heap.size) (fun i _ => 12 - (intOf i).toNat)
          case atStart => exact ⟨0, by omega, rfl, HG6, HG9, HBx, lt_of_block HG9.out⟩
          case round =>
            obtain ⟨j, hj, rfl, HY6, HY9, HBy, hys⟩ := hrel
            clear HG6 HG9 HBx
            by_cases hj12 : j < 12
            · obtain ⟨rj, hrj⟩ := get_ex (xs := (accN max vs k)) (k := j) (by have := HAL.out; omega)
              obtain ⟨xj, hxj⟩ := get_ex (xs := pad v) (k := j) (by rw [HP.out]; omega)
              have hc6 := At.zero (f := I) (At.of_block HY6.out) ((mix_past max (accN max vs k) (pad v) j j (Nat.le_refl _)).trans hrj)
              have hf6 := frozen_of_row wr w.heap.size j _ _ HY6.out
              have hc9 := At.zero (f := I) (At.of_block HY9.out) hxj
              have HM : Hid (mix max (accN max vs k) (pad v) (j + 1) = (mix max (accN max vs k) (pad v) j).set j (max rj xj)) := congr (congrArg (fun p q => (mix max (accN max vs k) (pad v) j).set j (max p q)) (getD_of hrj)) (getD_of hxj)
              clear hrj hxj
              go_wp2
              go_still_tail 10, (by kernel_rfl)
              still_call (same_of (max_any _ _ _))
              repeat still_step
              refine wpStill_nil ?_
              change wpList _ _ _ _ _ wr.drew
              go_wp2
              go_roundw
              case rel => exact ⟨j + 1, by omega, by go_num, by
                show _ = _
                rw [HM.out, ← av_set]
                exact heap_setCell_same wr.drew _ _ _ _ _ HY6.out, (heap_setCell_other wr.drew _ _ _ (by show w1.heap.size ≠ w.heap.size; omega)).trans HY9.out, (HBy.out.drew).setCell (Nat.le_refl _) _, by simpa using hys⟩
              case measure => simp [intOf]; omega
            · obtain rfl : j = 12 := by omega
              go_wp2
              go_roundw
              case rel => exact ⟨k + 1, by omega, by go_num, by
                show _ = _
                rw [take_snoc Hv.out, List.all_append, HV.out]; simp [HVal.out], by show _ = _; rw [HACC.out]; exact HY6.out, by omega, HBy⟩
              case measure => simp [intOf]; omega
      · have hval' : validB v = false := by simpa using hval
        have HVal := Lib.hid hval'
        clear hval hval'
        go_wp2_with (first
          | (go_at_call 39; refine (padded_no _ _ v _ _ B HSL.out (by omega) (by omega) HVal.out).mono ?_; rintro e w1 ⟨rfl, hb1⟩
             have HB1 := Lib.hid hb1
             have hs1 := hb1.size
             clear hb1))
        go_ret2
        exact .inr ⟨all_false_of Hv.out HVal.out, none, 0, 0, rfl, Nat.le_refl _, ⟨rfl, SL.nil⟩, HBk.out.trans ((HB1.out.mono (by omega)).trans (((Below.refl _ _).alloc (by omega) _)))⟩
    · obtain rfl : k = n := by omega
      have HVA := Lib.hid (all_take_all (by rw [HN.out]; omega) HV.out)
      have HAL := Lib.hid (accN_len max vs k (by rw [HN.out]; omega) HV.out)
      have HS : Hid ((Try.prog.info? 57).map (·.size) = some (av (accN max vs k)).size) := by show _ = _; rw [av_size, HAL.out]; exact Try.size57
      go_wp2_with (first
        | (with_reducible refine wpList_load_row (o := ⟨some 44, _, _, _, _, _⟩) rfl 57 (.tmp 6) rfl w.heap.size rfl 57 (av (accN max vs k)) (0, 0) _ HGk.out Try.underlying57 rfl HS.out ?_)
        | (go_at_call 46; refine (normal_any _ _ HAL.out).mono ?_; rintro e w1 ⟨A', n', c', rfl, h1, h2, h3⟩))
      go_ret2
      exact .inl ⟨HVA.out, A', n', c', rfl, h1, by rw [HN.out]; exact h2, HBk.out.trans (h3.mono (by omega))⟩
end Go.Proofs.Ytalclofogengpaa
