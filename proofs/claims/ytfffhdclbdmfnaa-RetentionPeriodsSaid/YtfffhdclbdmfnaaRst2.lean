/- The reference: Sorted, walked. -/
import Derived.Test.YtfffhdclbdmfnaaRst
namespace Go.Proofs.Ytfffhdclbdmfnaa
open Go.RowKit Ret
set_option linter.unusedVariables false
set_option linter.unusedSimpArgs false

set_option maxRecDepth 20000 in
set_option maxHeartbeats 4000000 in
theorem rsorted_any (A : Option Addr) (n c : Nat) (xs : List Int) (w : World) (hx : Sl I w w.heap.size A n xs) (hn : n ≤ 1000000) :
    Calls Try.prog 38 #[.slice A n c] w (OwnI (srt xs) w) := by
  obtain ⟨i0, hi, hz0, hz1, hz2⟩ := info_parts Try.infoInt
  have HI := Lib.hid hi
  have HZ0 := Lib.hid hz0
  have HZ1 := Lib.hid hz1
  have HZ2 := Lib.hid hz2
  have HX := Lib.hid hx
  have HLEN : Hid (xs.length = n) := hx.1
  have HO : Hid (Own I 3 (w.alloc (.cells #[] 3)) w.heap.size (.slice (some ⟨w.heap.size, 0, none⟩) 0 0) (srt (xs.take 0))) := World.ownsRow_lit w #[] 0 (Nat.le_refl _) (by unfold maxLen; omega) rfl
  have HB : Hid (Below w.heap.size w (w.alloc (.cells #[] 3))) := (Below.refl _ _).alloc (Nat.le_refl _) _
  clear hi hz0 hz1 hz2 hx
  go_enter Try.func38, Try.ntmps38
  go_wp2
  go_loopw [3, 10] (fun v i wr => ∃ j : Nat, j ≤ n ∧ i = .int .i64 j ∧ Hid (Own I 3 wr w.heap.size v (srt (xs.take j))) ∧ Hid (Below w.heap.size w wr)) (fun _ i _ => n - (intOf i).toNat)
  case atStart => exact ⟨0, Nat.zero_le _, rfl, HO, HB⟩
  case round =>
    obtain ⟨j, hj, rfl, HO0, HB0⟩ := hrel
    clear HO HB
    by_cases hlt : j < n
    · have hsl := HX.out.up HB0.out (Nat.le_refl _)
      obtain ⟨b, off, x, rfl, _, hxk, hc⟩ := hsl.2.at_ (k := j) (by have := HLEN.out; omega)
      obtain ⟨L, hL⟩ : ∃ L, srt (xs.take j) = L := ⟨_, rfl⟩
      have hll := srt_take_len xs j
      rw [hL] at HO0 hll
      have HLN : Hid (srt (xs.take (j + 1)) = ins x L) := by show _ = _; rw [take_snoc hxk, srt_snoc, hL]
      obtain ⟨A1, c1, rfl, hc1, hs1, _⟩ := HO0.out.shape
      have HS := Lib.hid hs1
      clear hsl hxk hL hs1
      go_wp2
      go_loop [6] (fun q => ∃ q' : Nat, q' ≤ L.length ∧ q = .int .i64 q' ∧ Hid (∀ y ∈ L.take q', y < x)) (fun q => L.length - (intOf q).toNat)
      case atStart => exact ⟨0, Nat.zero_le _, rfl, by show ∀ y ∈ _, _; simp⟩
      case round =>
        obtain ⟨q, hq, rfl, HQ⟩ := hrel
        by_cases hq2 : q < L.length
        · obtain ⟨b1, off1, y, hA1, _, hyk, hcy⟩ := HS.out.at_ (k := q) hq2
          have HYK := Lib.hid hyk
          clear hyk
          by_cases h1 : y < x
          · have HQ2 : Hid (∀ z ∈ L.take (q + 1), z < x) := by
              show ∀ z ∈ _, _
              rw [take_snoc HYK.out]
              intro z hz
              rcases List.mem_append.1 hz with hz | hz
              · exact HQ.out z hz
              · obtain rfl := List.mem_singleton.1 hz
                exact h1
            subst hA1
            go_wp2
            go_round
            case rel => exact ⟨q + 1, by omega, by go_num, HQ2⟩
            case measure => simp [intOf]; omega
          · by_cases h2 : y = x
            · have hb2 : (y != x) = false := by simp [h2]
              have HTH : Hid (ins x L = L) := ins_there HQ.out (by rw [HYK.out, h2])
              have HO1 := HO0.out
              rw [← HTH.out, ← HLN.out] at HO1
              have HO2 : Hid (Own I 3 wr w.heap.size (.slice A1 L.length c1) (srt (xs.take (j + 1)))) := by
                show Own _ _ _ _ _ _
                rw [HLN.out, HTH.out]
                exact HO0.out
              clear HO1 h2
              subst hA1
              go_wp2
              go_roundw
              case rel => exact ⟨j + 1, by omega, by go_num, HO2, HB0⟩
              case measure => simp [intOf]; omega
            · have hb2 : (y != x) = true := by simp [h2]
              clear h2
              subst hA1
              have HNQ : Hid (∀ z, L[q]? = some z → x < z) := fun z hz => by
                have h3 : y = z := by simpa using HYK.out.symm.trans hz
                have h4 := bne_iff_ne.1 hb2
                omega
              have hq3 : q ≤ c1 := by omega
              have HNW : Hid (ins x L = (L.take q ++ [x]) ++ L.drop q) := ins_new HQ.out HNQ.out
              obtain ⟨A2, hA2⟩ : ∃ A2 : Option Addr, (if c1 = q then ((some ⟨b1, off1, none⟩) : Option Addr) else Option.map (fun a : Addr => a.add q) (some ⟨b1, off1, none⟩)) = A2 := ⟨_, rfl⟩
              have hslT : ∀ w, (Instr.slice 26 (.slice (some ⟨b1, off1, none⟩) L.length c1) none (some (.int .i64 (q : Int))) none).run Try.prog w = .ok (.slice (some ⟨b1, off1, none⟩) q c1) w := fun w => run_slice_to (P := Try.prog) 26 3 i0 Try.underlying26 HI.out (some ⟨b1, off1, none⟩) L.length c1 .i64 (q : Int) q rfl (by omega) w
              have hslF : ∀ w, (Instr.slice 26 (.slice (some ⟨b1, off1, none⟩) L.length c1) (some (.int .i64 (q : Int))) none none).run Try.prog w = .ok (.slice A2 (L.length - q) (c1 - q)) w := fun w => by rw [run_slice_from (P := Try.prog) 26 3 i0 Try.underlying26 HI.out HZ1.out (some ⟨b1, off1, none⟩) L.length c1 .i64 (q : Int) q rfl (by omega) (by omega) w, hA2]
              have HT : Hid (∀ W, Below wr.heap.size wr W → Sl I W wr.heap.size (some ⟨b1, off1, none⟩) q (L.take q)) := fun W h => ⟨by rw [List.length_take]; omega, (HS.out.take_ q).up h (Nat.le_refl _)⟩
              have HD : Hid (∀ W, Below wr.heap.size wr W → Sl I W wr.heap.size A2 (L.length - q) (L.drop q)) := fun W h => ⟨by simp, hA2 ▸ (SL.cut HS.out hc1).up h (Nat.le_refl _)⟩
              have HE : Hid (∀ (W : World) (k : Nat), W.heap.size = k → wr.heap.size ≤ k → Own I 3 (W.alloc (.cells #[] 3)) wr.heap.size (.slice (some ⟨k, 0, none⟩) 0 0) []) := fun W k e h => by subst e; exact World.ownsRow_lit W #[] 0 h (by unfold maxLen; omega) rfl
              have HK1 : Hid ((([] : List Int).length + (L.take q).length) * 8 ≤ 140737488355328) := by show _ ≤ _; simp; omega
              have HK2 : Hid (([] : List Int).length + (L.take q).length ≤ maxLen) := by show _ ≤ _; simp [maxLen]; omega
              have HK3 : Hid ((([] ++ L.take q).length + [x].length) * 8 ≤ 140737488355328) := by show _ ≤ _; simp; omega
              have HK4 : Hid (([] ++ L.take q).length + [x].length ≤ maxLen) := by show _ ≤ _; simp [maxLen]; omega
              have HK5 : Hid (((([] ++ L.take q) ++ [x]).length + (L.drop q).length) * 8 ≤ 140737488355328) := by show _ ≤ _; simp; omega
              have HK6 : Hid ((([] ++ L.take q) ++ [x]).length + (L.drop q).length ≤ maxLen) := by show _ ≤ _; simp [maxLen]; omega
              have e0 : (0 : Int) ≤ (q : Int) := by omega
              have e1 : (q : Int) ≤ (L.length : Int) := by omega
              have e2 : (q : Int) ≤ (c1 : Int) := by omega
              clear hA2
              go_wp2
              go_region_held3 (fun w' => True) (trivial) (first | (refine step_app (.tmp 40) (.tmp 43) 26 rfl rfl 3 i0 (.int .i64 0) 8 Try.underlying26 HI.out HZ0.out HZ1.out HZ2.out rfl [] wr.heap.size ?_ (L.take q) ?_ I1 HK1.out HK2.out ?_ ?_; (first | exact HE.out _ _ (by simp) (by omega) | exact (HE.out _ _ (by simp) (by omega)).alloc _); (refine ⟨wr.heap.size, (some ⟨b1, off1, none⟩), q, c1, rfl, HT.out _ ?_⟩; (repeat (first | exact Below.refl _ _ | exact HB1.out | exact HB2.out | refine Below.alloc ?_ (by simp <;> omega) _ | refine Below.alloc ?_ HB1.out.size _ | refine Below.drew ?_ | refine below_dN ?_ _))); (simp <;> omega); (intro v1 w1 HO1 HG1 HV1 HL1; (have HB1 : Hid (Below wr.heap.size wr w1) := HL1.out _ _ (by (repeat (first | exact Below.refl _ _ | exact HB1.out | exact HB2.out | refine Below.alloc ?_ (by simp <;> omega) _ | refine Below.alloc ?_ HB1.out.size _ | refine Below.drew ?_ | refine below_dN ?_ _))) (Nat.le_refl _)); (first | (have HX1 := Lib.hid (kept_one (x := x) (g := wr.heap.size) (gx := wr.heap.size + 1) HG1.out (by omega) (heap_new_at (by simp)))) | (have HX1 := Lib.hid (kept_one (x := x) (g := wr.heap.size + 1) (gx := wr.heap.size) HG1.out (by omega) ((Below.heap_alloc _ _ _ (by simp)).trans (heap_new_at (by simp))))) | skip))) | (refine step_app (.tmp 44) (.tmp 46) 26 rfl rfl 3 i0 (.int .i64 0) 8 Try.underlying26 HI.out HZ0.out HZ1.out HZ2.out rfl ([] ++ L.take q) wr.heap.size ?_ [x] ?_ I1 HK3.out HK4.out ?_ ?_; (first | exact HO1.out | exact HO1.out.alloc _); (first | exact ⟨w1.heap.size, some ⟨wr.heap.size + 1, 0, none⟩, 1, 1, rfl, HX1.out⟩ | exact ⟨w1.heap.size, some ⟨wr.heap.size, 0, none⟩, 1, 1, rfl, HX1.out⟩ | exact ⟨w1.heap.size + 1, some ⟨w1.heap.size, 0, none⟩, 1, 1, rfl, new_one _ _ _⟩); (first | exact HB1.out.size | exact Nat.le_trans HB1.out.size (by simp <;> omega)); (intro v2 w2 HO2 HG2 HV2 HL2; (have HB2 : Hid (Below wr.heap.size wr w2) := HL2.out _ _ (by (repeat (first | exact Below.refl _ _ | exact HB1.out | exact HB2.out | refine Below.alloc ?_ (by simp <;> omega) _ | refine Below.alloc ?_ HB1.out.size _ | refine Below.drew ?_ | refine below_dN ?_ _))) (Nat.le_refl _)))) | (refine step_app (.tmp 47) (.tmp 50) 26 rfl rfl 3 i0 (.int .i64 0) 8 Try.underlying26 HI.out HZ0.out HZ1.out HZ2.out rfl (([] ++ L.take q) ++ [x]) wr.heap.size HO2.out (L.drop q) ⟨wr.heap.size, A2, L.length - q, c1 - q, rfl, HD.out _ HB2.out⟩ I1 HK5.out HK6.out HB2.out.size ?_; (intro v3 w3 HO3 HG3 HV3 HL3)) | fail)
              all_goals
                have HO4 : Hid (Own I 3 w3 w.heap.size v3 (srt (xs.take (j + 1)))) := by
                  show Own _ _ _ _ _ _
                  rw [HLN.out, HNW.out]
                  exact HO3.out.mono HB0.out.size
                have HB4 : Hid (Below w.heap.size w w3) := HL3.out _ _ (HB0.out.trans (HB2.out.mono HB0.out.size)) HB0.out.size
                go_wp2
                go_roundw
                case rel => exact ⟨j + 1, by omega, by go_num, HO4, HB4⟩
                case measure => simp [intOf]; omega

        · obtain rfl : q = L.length := by omega
          have HNQ : Hid (∀ z, L[L.length]? = some z → x < z) := fun z hz => by simp at hz
          have hq3 : L.length ≤ c1 := by omega
          have HNW : Hid (ins x L = (L.take L.length ++ [x]) ++ L.drop L.length) := ins_new HQ.out HNQ.out
          obtain ⟨A2, hA2⟩ : ∃ A2 : Option Addr, (if c1 = L.length then (A1 : Option Addr) else Option.map (fun a : Addr => a.add L.length) A1) = A2 := ⟨_, rfl⟩
          have hslT : ∀ w, (Instr.slice 26 (.slice A1 L.length c1) none (some (.int .i64 (L.length : Int))) none).run Try.prog w = .ok (.slice A1 L.length c1) w := fun w => run_slice_to (P := Try.prog) 26 3 i0 Try.underlying26 HI.out A1 L.length c1 .i64 (L.length : Int) L.length rfl (by omega) w
          have hslF : ∀ w, (Instr.slice 26 (.slice A1 L.length c1) (some (.int .i64 (L.length : Int))) none none).run Try.prog w = .ok (.slice A2 (L.length - L.length) (c1 - L.length)) w := fun w => by rw [run_slice_from (P := Try.prog) 26 3 i0 Try.underlying26 HI.out HZ1.out A1 L.length c1 .i64 (L.length : Int) L.length rfl (by omega) (by omega) w, hA2]
          have HT : Hid (∀ W, Below wr.heap.size wr W → Sl I W wr.heap.size A1 L.length (L.take L.length)) := fun W h => ⟨by rw [List.length_take]; omega, (HS.out.take_ L.length).up h (Nat.le_refl _)⟩
          have HD : Hid (∀ W, Below wr.heap.size wr W → Sl I W wr.heap.size A2 (0) (L.drop L.length)) := fun W h => ⟨by simp, hA2 ▸ (SL.cut HS.out hc1).up h (Nat.le_refl _)⟩
          have HE : Hid (∀ (W : World) (k : Nat), W.heap.size = k → wr.heap.size ≤ k → Own I 3 (W.alloc (.cells #[] 3)) wr.heap.size (.slice (some ⟨k, 0, none⟩) 0 0) []) := fun W k e h => by subst e; exact World.ownsRow_lit W #[] 0 h (by unfold maxLen; omega) rfl
          have HK1 : Hid ((([] : List Int).length + (L.take L.length).length) * 8 ≤ 140737488355328) := by show _ ≤ _; simp; omega
          have HK2 : Hid (([] : List Int).length + (L.take L.length).length ≤ maxLen) := by show _ ≤ _; simp [maxLen]; omega
          have HK3 : Hid ((([] ++ L.take L.length).length + [x].length) * 8 ≤ 140737488355328) := by show _ ≤ _; simp; omega
          have HK4 : Hid (([] ++ L.take L.length).length + [x].length ≤ maxLen) := by show _ ≤ _; simp [maxLen]; omega
          have HK5 : Hid (((([] ++ L.take L.length) ++ [x]).length + (L.drop L.length).length) * 8 ≤ 140737488355328) := by show _ ≤ _; simp; omega
          have HK6 : Hid ((([] ++ L.take L.length) ++ [x]).length + (L.drop L.length).length ≤ maxLen) := by show _ ≤ _; simp [maxLen]; omega
          have e0 : (0 : Int) ≤ (L.length : Int) := by omega
          have e1 : (L.length : Int) ≤ (L.length : Int) := by omega
          have e2 : (L.length : Int) ≤ (c1 : Int) := by omega
          clear hA2
          go_wp2
          go_region_held3 (fun w' => True) (trivial) (first | (refine step_app (.tmp 40) (.tmp 43) 26 rfl rfl 3 i0 (.int .i64 0) 8 Try.underlying26 HI.out HZ0.out HZ1.out HZ2.out rfl [] wr.heap.size ?_ (L.take L.length) ?_ I1 HK1.out HK2.out ?_ ?_; (first | exact HE.out _ _ (by simp) (by omega) | exact (HE.out _ _ (by simp) (by omega)).alloc _); (refine ⟨wr.heap.size, A1, L.length, c1, rfl, HT.out _ ?_⟩; (repeat (first | exact Below.refl _ _ | exact HB1.out | exact HB2.out | refine Below.alloc ?_ (by simp <;> omega) _ | refine Below.alloc ?_ HB1.out.size _ | refine Below.drew ?_ | refine below_dN ?_ _))); (simp <;> omega); (intro v1 w1 HO1 HG1 HV1 HL1; (have HB1 : Hid (Below wr.heap.size wr w1) := HL1.out _ _ (by (repeat (first | exact Below.refl _ _ | exact HB1.out | exact HB2.out | refine Below.alloc ?_ (by simp <;> omega) _ | refine Below.alloc ?_ HB1.out.size _ | refine Below.drew ?_ | refine below_dN ?_ _))) (Nat.le_refl _)); (first | (have HX1 := Lib.hid (kept_one (x := x) (g := wr.heap.size) (gx := wr.heap.size + 1) HG1.out (by omega) (heap_new_at (by simp)))) | (have HX1 := Lib.hid (kept_one (x := x) (g := wr.heap.size + 1) (gx := wr.heap.size) HG1.out (by omega) ((Below.heap_alloc _ _ _ (by simp)).trans (heap_new_at (by simp))))) | skip))) | (refine step_app (.tmp 44) (.tmp 46) 26 rfl rfl 3 i0 (.int .i64 0) 8 Try.underlying26 HI.out HZ0.out HZ1.out HZ2.out rfl ([] ++ L.take L.length) wr.heap.size ?_ [x] ?_ I1 HK3.out HK4.out ?_ ?_; (first | exact HO1.out | exact HO1.out.alloc _); (first | exact ⟨w1.heap.size, some ⟨wr.heap.size + 1, 0, none⟩, 1, 1, rfl, HX1.out⟩ | exact ⟨w1.heap.size, some ⟨wr.heap.size, 0, none⟩, 1, 1, rfl, HX1.out⟩ | exact ⟨w1.heap.size + 1, some ⟨w1.heap.size, 0, none⟩, 1, 1, rfl, new_one _ _ _⟩); (first | exact HB1.out.size | exact Nat.le_trans HB1.out.size (by simp <;> omega)); (intro v2 w2 HO2 HG2 HV2 HL2; (have HB2 : Hid (Below wr.heap.size wr w2) := HL2.out _ _ (by (repeat (first | exact Below.refl _ _ | exact HB1.out | exact HB2.out | refine Below.alloc ?_ (by simp <;> omega) _ | refine Below.alloc ?_ HB1.out.size _ | refine Below.drew ?_ | refine below_dN ?_ _))) (Nat.le_refl _)))) | (refine step_app (.tmp 47) (.tmp 50) 26 rfl rfl 3 i0 (.int .i64 0) 8 Try.underlying26 HI.out HZ0.out HZ1.out HZ2.out rfl (([] ++ L.take L.length) ++ [x]) wr.heap.size HO2.out (L.drop L.length) ⟨wr.heap.size, A2, 0, c1 - L.length, rfl, HD.out _ HB2.out⟩ I1 HK5.out HK6.out HB2.out.size ?_; (intro v3 w3 HO3 HG3 HV3 HL3)) | fail)
          all_goals
            have HO4 : Hid (Own I 3 w3 w.heap.size v3 (srt (xs.take (j + 1)))) := by
              show Own _ _ _ _ _ _
              rw [HLN.out, HNW.out]
              exact HO3.out.mono HB0.out.size
            have HB4 : Hid (Below w.heap.size w w3) := HL3.out _ _ (HB0.out.trans (HB2.out.mono HB0.out.size)) HB0.out.size
            go_wp2
            go_roundw
            case rel => exact ⟨j + 1, by omega, by go_num, HO4, HB4⟩
            case measure => simp [intOf]; omega

    · obtain rfl : j = n := by omega
      have HO1 := HO0.out
      rw [List.take_of_length_le (by have := HLEN.out; omega)] at HO1
      have HO2 := Lib.hid HO1
      clear HO1
      go_wp2
      go_ret
      exact ⟨_, rfl, HO2.out, HB0.out⟩
end Go.Proofs.Ytfffhdclbdmfnaa
