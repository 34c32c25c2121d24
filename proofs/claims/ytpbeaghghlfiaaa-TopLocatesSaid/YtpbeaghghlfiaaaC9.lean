/- reedsolomon: differing. -/
import Derived.Test.YtpbeaghghlfiaaaC8
namespace Go.Proofs.Ytpbeaghghlfiaaa
open Go.RowKit Go.Lib
set_option linter.unusedVariables false
set_option linter.unusedSimpArgs false
def diffK (n : Nat) (P F : Mt) (os : List Nat) (Q : Mt) (k : Nat) : List Nat := diffP n P (F.take k) (os.take k) (Q.take k)
theorem diffK_zero (n : Nat) (P F : Mt) (os : List Nat) (Q : Mt) : diffK n P F os Q 0 = [] := by unfold diffK; simp [diffP]
theorem diffK_step {n : Nat} {P : Mt} : ∀ {k : Nat} {F : Mt} {os : List Nat} {Q : Mt} {f : List Nat} {o : Nat} {p : List Nat}, F[k]? = some f → os[k]? = some o → Q[k]? = some p → diffK n P F os Q (k + 1) = diffK n P F os Q k ++ (if predP n P f = p then [] else [o])
  | 0, f :: F, o :: os, p :: Q, _, _, _, h1, h2, h3 => by
    simp at h1 h2 h3
    subst h1 h2 h3
    rw [diffK_zero]
    unfold diffK
    show (if predP n P f = p then diffP n P [] [] [] else o :: diffP n P [] [] []) = _
    split <;> rfl
  | k + 1, f :: F, o :: os, p :: Q, _, _, _, h1, h2, h3 => by
    have ih := diffK_step (n := n) (P := P) (k := k) (F := F) (os := os) (Q := Q) (by simpa using h1) (by simpa using h2) (by simpa using h3)
    unfold diffK at ih ⊢
    show (if predP n P f = p then diffP n P (F.take (k + 1)) (os.take (k + 1)) (Q.take (k + 1)) else o :: diffP n P (F.take (k + 1)) (os.take (k + 1)) (Q.take (k + 1))) = (if predP n P f = p then diffP n P (F.take k) (os.take k) (Q.take k) else o :: diffP n P (F.take k) (os.take k) (Q.take k)) ++ _
    rw [ih]
    split <;> rfl
  | _, [], _, _, _, _, _, h, _, _ => by simp at h
  | _, _ :: _, [], _, _, _, _, _, h, _ => by simp at h
  | _, _ :: _, _ :: _, [], _, _, _, _, _, h => by simp at h
theorem diffP_sub (n : Nat) (P : Mt) : ∀ (F : Mt) (os : List Nat) (Q : Mt), (diffP n P F os Q).Sublist os
  | [], os, Q => by simp [diffP]
  | _ :: _, [], Q => by simp [diffP]
  | _ :: _, _ :: _, [] => by simp [diffP]
  | f :: F, o :: os, p :: Q => by
    show (if predP n P f = p then diffP n P F os Q else o :: diffP n P F os Q).Sublist (o :: os)
    split
    · exact (diffP_sub n P F os Q).cons _
    · exact (diffP_sub n P F os Q).cons_cons _
def IsP (l : List Nat) (w : World) (e : Ending) (w' : World) : Prop := ∃ A c, e = .returned (.slice A l.length c) ∧ Sl fI w' w'.heap.size A l.length l ∧ Below w.heap.size w w'
set_option maxRecDepth 100000 in
set_option maxHeartbeats 8000000 in
theorem differing_any (A1 A2 A3 A4 : Option Addr) (n c q c2 c3 c4 d len B : Nat) (P F Q : Mt) (os : List Nat) (w : World) (h1 : SLL fN w B A1 n P) (h2 : SLL fN w B A2 q F) (h3 : Sl fI w B A3 q os) (h4 : SLL fN w B A4 q Q) (hB : B ≤ w.heap.size) (hP : MtOk len P) (hF : MtOk d F) (hQ : MtOk len Q) (ha : Asc os) (hd0 : 0 < d) (hdn : d ≤ n) (hnc : n ≤ c) (hn64 : n ≤ 64) (hl : len ≤ 65536) (hq : q ≤ 8) :
    Calls Try.prog 26 #[.slice A1 n c, .slice A2 q c2, .slice A3 q c3, .slice A4 q c4] w (IsP (diffP len P F os Q) w) := by
  have hfl : F.length = q := h2.choose_spec.2.1
  have hql : Q.length = q := h4.choose_spec.2.1
  have hol := h3.1
  have hall : diffP len P F os Q = diffK len P F os Q q := by
    unfold diffK
    rw [List.take_of_length_le (by omega), List.take_of_length_le (by omega), List.take_of_length_le (by omega)]
  have hkl : ∀ k, (diffK len P F os Q k).length ≤ k := fun k => by
    have := (diffP_sub len P (F.take k) (os.take k) (Q.take k)).length_le
    unfold diffK
    rw [List.length_take] at this
    omega
  have hasc : Asc (diffK len P F os Q q) := by rw [← hall]; exact ha.sublist (diffP_sub len P F os Q)
  have HKL := Lib.hid hkl
  have HAS := Lib.hid hasc
  have H1 := Lib.hid h1
  have H2 := Lib.hid h2
  have H3 := Lib.hid h3
  have H4 := Lib.hid h4
  have HBB := Lib.hid hB
  have HPO := Lib.hid hP
  have HFO := Lib.hid hF
  have HQO := Lib.hid hQ
  have HD := Lib.hid (show 0 < d ∧ d ≤ n ∧ n ≤ c ∧ n ≤ 64 ∧ len ≤ 65536 from ⟨hd0, hdn, hnc, hn64, hl⟩)
  have HQ8 := Lib.hid hq
  have hqI : (q : Int) ≤ 8 := by omega
  obtain ⟨i0, hi, hi1, hi2, hi3⟩ := info_parts Try.infoI8
  have HI := Lib.hid hi
  have HI1 := Lib.hid hi1
  have HI2 := Lib.hid hi2
  have HI3 := Lib.hid hi3
  have HB0 : Hid (Below w.heap.size w w) := Below.refl _ _
  have HO0 : Hid (Own fI TI w w.heap.size (.slice none 0 0) (diffK len P F os Q 0)) := by show Own ..; rw [diffK_zero]; exact Own.nil
  rw [hall]
  clear h1 h2 h3 h4 hB hP hF hQ ha hd0 hdn hnc hn64 hl hq hfl hql hol hall hkl hasc hi hi1 hi2 hi3
  go_enter Try.func26, Try.ntmps26
  go_wp2_with fail
  go_loopw [9, 14] (fun v i wr => ∃ k : Nat, k ≤ q ∧ i = .int .i64 k ∧ Hid (Below w.heap.size w wr) ∧ Hid (Own fI TI wr w.heap.size v (diffK len P F os Q k))) (fun _ i _ => q - (intOf i).toNat)
  case atStart => exact ⟨0, Nat.zero_le _, rfl, HB0, HO0⟩
  case round =>
    clear HB0 HO0
    obtain ⟨k, hk, rfl, HB, HO⟩ := hrel
    obtain ⟨va, vc, hv, hvc⟩ := HO.out.shape'
    obtain ⟨L, hL⟩ : ∃ L, (diffK len P F os Q k).length = L := ⟨_, rfl⟩
    rw [hL] at hv hvc
    subst hv
    have HLL := Lib.hid hL
    have HVC := Lib.hid hvc
    clear hL hvc
    by_cases hlt : k < q
    · have hkI : (k : Int) < (q : Int) := by omega
      obtain ⟨fb, fo, fa, fc, f, hA2, hfk, hcf, hsf⟩ := (H2.out.up HB.out HBB.out).cell hlt
      have hfo := HFO.out.get hfk
      rw [hfo.1] at hcf hsf
      obtain ⟨ob, oo, pa, pc, p, hA4, hpk, hcp, hsp⟩ := (H4.out.up HB.out HBB.out).cell hlt
      have hpo := HQO.out.get hpk
      rw [hpo.1] at hcp hsp
      obtain ⟨tb, to', o, hA3, _, hok, hco⟩ := (SL.up H3.out.2 HB.out HBB.out).at_ (k := k) (by rw [H3.out.1]; exact hlt)
      subst hA2 hA4 hA3
      have HPB : Hid (ob < wr.heap.size) := World.block_lt_of_cell? wr _ hcp
      have HCP := Lib.hid hcp
      obtain ⟨s, hs⟩ : ∃ s, predP len P f = s := ⟨_, rfl⟩
      have HPR : Hid (∀ V, Below wr.heap.size wr V → Calls Try.prog 41 #[.slice A1 n c, .slice fa d fc] V (RwP s len V)) := fun V hv => by
        have t := predict_any A1 fa n c d fc len B P f V (H1.out.up (HB.out.trans (hv.mono HB.out.size)) HBB.out) (hsf.up hv (Nat.le_trans HBB.out HB.out.size)) (Nat.le_trans HBB.out (Nat.le_trans HB.out.size hv.size)) HPO.out hfo.2 HD.out.1 HD.out.2.1 HD.out.2.2.1 HD.out.2.2.2.1 HD.out.2.2.2.2
        rwa [hs] at t
      have hst := diffK_step (n := len) (P := P) hfk hok hpk
      rw [hs] at hst
      have HST := Lib.hid hst
      have HEQ0 : Hid (∀ V sa sc, Below wr.heap.size wr V → Sl fN V V.heap.size sa len s → Calls Try.prog 42 #[.slice sa len sc, .slice pa len pc] V fun e w' => e = .returned (.bool (decide (s = p))) ∧ V = w') := fun V sa sc hv hsa =>
        equal_any sa pa len len sc pc V.heap.size s p V hsa ((hsp.up hv (Nat.le_trans HBB.out HB.out.size)).more' (Nat.le_trans HBB.out (Nat.le_trans HB.out.size hv.size))) (by rw [← hs]; exact predP_bys hfo.2) hpo.2
      have HCO := Lib.hid hco
      clear hfk hfo hpk hpo hok hs hst hsf hsp
      obtain ⟨t, ht⟩ : ∃ t, decide (s = p) = t := ⟨_, rfl⟩
      rw [ht] at HEQ0
      have HT := Lib.hid ht
      clear ht
      go_wp2_with fail
      refine wp_region_held_drew (S := (fun w' : World => w'.cell? ⟨ob, oo + k, none⟩ = some (.slice pa len pc))) (by kernel_rfl) (by exact hcp) (fun hHeld => ?_)
      refine wpAnyH_take (i := 0) (v := _) (by simp only [List.getElem?_toArray, List.getElem?_cons_zero]; rfl) (by kernel_rfl) (by kernel_rfl) (by kernel_rfl) (by exact fun _ _ _ h => h) (Or.inl ⟨by rfl, by (intro w hSw; (try dsimp only at hSw); go_simp; try (with_reducible rfl))⟩) (by assumption) ?_
      try simp only [Act.put, List.setIfInBounds_toArray, List.set_cons_zero, List.set_cons_succ]
      refine wpAnyH_take (i := 1) (v := _) (by simp only [List.getElem?_toArray, List.getElem?_cons_succ, List.getElem?_cons_zero]; rfl) (by kernel_rfl) (by kernel_rfl) (by kernel_rfl) (by exact fun _ _ _ h => h) (Or.inl ⟨by rfl, by (intro w hSw; (try dsimp only at hSw); go_simp; try (with_reducible rfl))⟩) (by assumption) ?_
      try simp only [Act.put, List.setIfInBounds_toArray, List.set_cons_zero, List.set_cons_succ]
      refine wpAnyH_take (i := 3) (v := _) (by simp only [List.getElem?_toArray, List.getElem?_cons_succ, List.getElem?_cons_zero]; rfl) (by kernel_rfl) (by kernel_rfl) (by kernel_rfl) (by exact fun _ _ _ h => h) (Or.inl ⟨by rfl, by (intro w hSw; (try dsimp only at hSw); go_simp; try (with_reducible rfl))⟩) (by assumption) ?_
      try simp only [Act.put, List.setIfInBounds_toArray, List.set_cons_zero, List.set_cons_succ]
      refine wpAnyH_take (i := 4) (v := _) (by simp only [List.getElem?_toArray, List.getElem?_cons_succ, List.getElem?_cons_zero]; rfl) (by kernel_rfl) (by kernel_rfl) (by kernel_rfl) (by exact fun _ _ _ h => h) (Or.inl ⟨by rfl, by (intro w hSw; (try dsimp only at hSw); go_simp; try (with_reducible rfl))⟩) (by assumption) ?_
      try simp only [Act.put, List.setIfInBounds_toArray, List.set_cons_zero, List.set_cons_succ]
      refine wpAnyH_take (i := 5) (v := _) (by simp only [List.getElem?_toArray, List.getElem?_cons_succ, List.getElem?_cons_zero]; rfl) (by kernel_rfl) (by kernel_rfl) (by kernel_rfl) (by exact fun _ _ _ h => h) (Or.inl ⟨by rfl, by (intro w hSw; (try dsimp only at hSw); go_simp; try (with_reducible rfl))⟩) (by assumption) ?_
      try simp only [Act.put, List.setIfInBounds_toArray, List.set_cons_zero, List.set_cons_succ]
      refine wpAnyH_take (i := 6) (v := _) (by simp only [List.getElem?_toArray, List.getElem?_cons_succ, List.getElem?_cons_zero]; rfl) (by kernel_rfl) (by kernel_rfl) (by kernel_rfl) (by exact fun _ _ _ h => h) (Or.inl ⟨by rfl, by (intro w hSw; (try dsimp only at hSw); go_simp; try (with_reducible rfl))⟩) (by assumption) ?_
      try simp only [Act.put, List.setIfInBounds_toArray, List.set_cons_zero, List.set_cons_succ]
      refine wpAnyH_ready (rs := [2]) (by kernel_rfl) (by simp) ?_
      refine AllReadyH.cons (by simp only [List.getElem?_toArray, List.getElem?_cons_succ, List.getElem?_cons_zero]; rfl) (fun K hK => ?_) (AllReadyH.nil)
      (go_simp; go_at_call 41; (with_reducible refine (HPR.out _ (Below.refl _ wr).drew).mono ?_); rintro e w5 ⟨sa, sc, rfl, hs5, hb5⟩; (have HB5 : Hid (Below wr.heap.size wr w5) := (Below.refl _ wr).drew.trans hb5); (have HEQ := Lib.hid (HEQ0.out w5 sa sc HB5.out hs5)); clear hs5 hb5; go_wp2_with fail)
      refine hK.out _ _ (by exact (World.cell?_of_block (HB5.out.block _ HPB.out)).trans HCP.out) (fun hHeldz7 => ?_)
      clear hK K hHeld
      try simp only [Act.put, List.setIfInBounds_toArray, List.set_cons_zero, List.set_cons_succ]
      refine wpAnyH_ready (rs := [7]) (by kernel_rfl) (by simp) ?_
      refine AllReadyH.cons (by simp only [List.getElem?_toArray, List.getElem?_cons_succ, List.getElem?_cons_zero]; rfl) (fun K hK => ?_) (AllReadyH.nil)
      (go_simp; go_at_call 42; (with_reducible refine HEQ.out.mono ?_); rintro e w6 ⟨rfl, hw6⟩; subst hw6; go_wp2_with fail)
      refine hK.out _ _ (by exact (World.cell?_of_block (HB5.out.block _ HPB.out)).trans HCP.out) (fun hHeldz8 => ?_)
      clear hK K hHeldz7
      try simp only [Act.put, List.setIfInBounds_toArray, List.set_cons_zero, List.set_cons_succ]
      refine wpAnyH_take (i := 8) (v := _) (by simp only [List.getElem?_toArray, List.getElem?_cons_succ, List.getElem?_cons_zero]; rfl) (by kernel_rfl) (by kernel_rfl) (by kernel_rfl) (by exact fun _ _ _ h => h) (Or.inl ⟨by rfl, by (intro w hSw; (try dsimp only at hSw); go_simp; try (with_reducible rfl))⟩) (by assumption) ?_
      try simp only [Act.put, List.setIfInBounds_toArray, List.set_cons_zero, List.set_cons_succ]
      refine wpAnyH_done (by kernel_rfl) ?_ _
      skip
      have HBw5 : Hid (Below w.heap.size w w5) := HB.out.trans (HB5.out.mono HB.out.size)
      have HO5 := Lib.hid (HO.out.on HB5.out)
      have hco5 : w5.cell? ⟨tb, to' + k, none⟩ = some (fI o) := (World.cell?_of_block (HB5.out.block _ (World.block_lt_of_cell? wr _ HCO.out))).trans HCO.out
      clear hcf hcp hco HEQ
      cases t with
      | true =>
        have HO6 : Hid (Own fI TI w5 w.heap.size (.slice va L vc) (diffK len P F os Q (k + 1))) := by
          show Own ..
          rw [HST.out, if_pos (of_decide_eq_true HT.out), List.append_nil]
          exact HO5.out
        go_wp2_with fail
        go_roundw
        case rel => exact ⟨k + 1, by omega, by go_num, HBw5, HO6⟩
        case measure => simp [intOf]; omega
      | false =>
        have HL1 : Hid (((diffK len P F os Q k).length + 1) * 8 ≤ 140737488355328) := by show ((diffK len P F os Q k).length + 1) * 8 ≤ _; have := HKL.out k; omega
        have HL2 : Hid ((diffK len P F os Q k).length + 1 ≤ maxLen) := by show (diffK len P F os Q k).length + 1 ≤ _; have := HKL.out k; unfold maxLen; omega
        have HSX : Hid (diffK len P F os Q (k + 1) = diffK len P F os Q k ++ [o]) := by
          show _ = _
          rw [HST.out, if_neg (of_decide_eq_false HT.out)]
        go_wp2_with (at_builtin; (refine wpList_app1 (o := ⟨some 34, _, _, _, _, _⟩) (f := fI) rfl (.tmp 28) (.tmp 33) 33 rfl TI i0 (.int .i64 0) 8 Try.underlying33 HI.out HI1.out HI2.out HI3.out rfl (.slice va L vc) (diffK len P F os Q k) w.heap.size (by rfl) HO5.out o 1 (by rfl) (fun _ => rfl) HL1.out HL2.out HBw5.out.size ?_); intro v7 W7 HO7 HG7 HV7)
        have HB7 : Hid (Below w.heap.size w W7) := HBw5.out.trans (grown_below HG7.out (fun j hj => (World.ownsRow.lt HO5.out j hj).1) HBw5.out.size)
        rw [← HSX.out] at HO7
        go_roundw
        case rel => exact ⟨k + 1, by omega, by go_num, HB7, HO7⟩
        case measure => simp [intOf]; omega
    · obtain rfl : k = q := by omega
      have hlen : L ≤ 8 := by have := HKL.out k; rw [HLL.out] at this; have := HQ8.out; omega
      obtain ⟨va', vc', hv', hc', hsl, hlo⟩ := HO.out.shape
      rw [HLL.out] at hv' hc'
      injection hv' with e1 e2 e3
      subst e1 e3
      have HSL : Hid (Sl fI wr wr.heap.size va L (diffK len P F os Q k)) := ⟨HLL.out, hsl⟩
      have HSO := Lib.hid (sort_any va L vc wr.heap.size _ wr HSL.out HAS.out hlen)
      clear hlen hc' hsl hlo e2
      go_wp2_with (go_at_call 43; (with_reducible refine HSO.out.mono ?_); rintro e w8 ⟨rfl, q8, hq8⟩; (have HQ8' := Lib.hid hq8); clear hq8)
      go_ret
      have hb8 : Below wr.heap.size wr w8 := by rw [HQ8'.out]; exact below_dN (Below.refl _ _) _
      exact ⟨va, vc, by rw [HLL.out]; rfl, by rw [HLL.out]; exact (HSL.out.up hb8 (Nat.le_refl _)).more' hb8.size, HB.out.trans (hb8.mono HB.out.size)⟩
end Go.Proofs.Ytpbeaghghlfiaaa
