/- The reference's signatures. -/
import Derived.Test.YtpdledjgbgalcaaGreatDoorNE
namespace Go.Proofs.YtpdledjgbgalcaaGreatDoor
open Go.RowKit Go.Lib
set_option linter.unusedVariables false
set_option linter.unusedSimpArgs false
set_option maxRecDepth 100000 in
set_option maxHeartbeats 8000000 in
theorem rfits_any (b h : Int) (dg : ByteArray) (hdg : dg.size = 32) (ix : Nat) (hix : ix < 256) (Ap Aq : Option Addr) (np nq cp cq B : Nat) (ps qs : List ByteArray) (w : World) (hp : Sl fT w B Ap np ps) (hq : Sl fT w B Aq nq qs) (hB : B ≤ w.heap.size) (hn : np ≤ 300) (hm : nq ≤ 8) (hps : ∀ s ∈ ps, s.size = 32) (hqs : ∀ s ∈ qs, s.size = 32) :
    Calls Tryz.prog 159 #[.agg (cSc b h), .string dg, .agg (cSg ix Ap np cp Aq nq cq)] w fun e w' => e = .returned (.bool (sgF b h ix np nq)) ∧ Below w.heap.size w w' := by
  have HV := Lib.hid (fun W => rgvalid_any b h W)
  have HF : Hid (sgF b h ix np nq = (sgOk b h && (decide (ix < 2 ^ h.toNat) && (decide ((nq : Int) = h) && decide (np = mN b.toNat + cN b.toNat))))) := rfl
  have hdI : ((dg.size : Int) == 32) = true := by simp [hdg]
  obtain ⟨W1, hW1⟩ : ∃ W1 : World, W1 = (w.alloc (.cells (cSc b h) 26)).alloc (.cells (cSg (ix : Int) Ap np cp Aq nq cq) 33) := ⟨_, rfl⟩
  have hsz : W1.heap.size = w.heap.size + 2 := by rw [hW1]; simp
  have hge : W1.heap[w.heap.size]? = some (.cells (cSc b h) 26 (0, 0)) := by
    rw [hW1]
    exact (Below.heap_alloc _ _ _ (by simp)).trans (heap_alloc_new w _)
  have hge2 : W1.heap[w.heap.size + 1]? = some (.cells (cSg (ix : Int) Ap np cp Aq nq cq) 33 (0, 0)) := by
    rw [hW1]
    have := heap_alloc_new (w.alloc (.cells (cSc b h) 26)) (.cells (cSg (ix : Int) Ap np cp Aq nq cq) 33)
    simpa using this
  have HC : Hid (∀ V, Below (w.heap.size + 2) W1 V → V.cell? ⟨w.heap.size, 0, none⟩ = some (.int .i64 b) ∧ V.cell? ⟨w.heap.size, 1, none⟩ = some (.int .i64 h) ∧ V.cell? ⟨w.heap.size + 1, 0, none⟩ = some (.int .i64 (ix : Int)) ∧ V.cell? ⟨w.heap.size + 1, 1, none⟩ = some (.slice Ap np cp) ∧ V.cell? ⟨w.heap.size + 1, 2, none⟩ = some (.slice Aq nq cq)) := fun V hv => by
    have q := (hv.block w.heap.size (by omega)).trans hge
    have q2 := (hv.block (w.heap.size + 1) (by omega)).trans hge2
    refine ⟨?_, ?_, ?_, ?_, ?_⟩
    · rw [cell_of_row V _ _ _ _ _ q]; rfl
    · rw [cell_of_row V _ _ _ _ _ q]; rfl
    · rw [cell_of_row V _ _ _ _ _ q2]; rfl
    · rw [cell_of_row V _ _ _ _ _ q2]; rfl
    · rw [cell_of_row V _ _ _ _ _ q2]; rfl
  have HB : Hid (Below w.heap.size w W1) := by
    show Below ..
    rw [hW1]
    exact ((Below.refl _ _).alloc (Nat.le_refl _) _).alloc (by simp) _
  have HS := Lib.hid hsz
  have HWE := Lib.hid hW1
  have HB1 : Hid (Below (w.heap.size + 2) W1 W1) := Below.refl _ _
  clear hge hge2 hsz hW1
  cases hok : sgOk b h with
  | false =>
    -- PART bad
    rw [hok, Bool.false_and] at HF
    have HF2 := HF
    rw [hok] at HV
    obtain ⟨c0, c1, c2, c3, c4⟩ := HC.out W1 HB1.out
    clear hp hq hps hqs hok HF
    go_enter Tryz.func159, Tryz.ntmps159
    go_upto_region 1 with fail
    rw [← HWE.out]
    go_wp2_with fail
    refine wp_region_held_drew (S := (fun w' => w'.cell? ⟨w.heap.size, 0, none⟩ = some (.int .i64 b) ∧ w'.cell? ⟨w.heap.size, 1, none⟩ = some (.int .i64 h) ∧ w'.cell? ⟨w.heap.size + 1, 0, none⟩ = some (.int .i64 (ix : Int)) ∧ w'.cell? ⟨w.heap.size + 1, 1, none⟩ = some (.slice Ap np cp) ∧ w'.cell? ⟨w.heap.size + 1, 2, none⟩ = some (.slice Aq nq cq))) (by kernel_rfl) (by first | exact HC.out _ HBx.out | exact HC.out _ HB1.out | exact HC.out _ (by repeat (first | exact HBx.out | exact HB1.out | exact Below.refl _ _ | refine Below.drew ?_ | refine below_dN' ?_ _ | refine below_drewN' ?_ _)) | go_keep) (fun hHeld => ?_)
    refine tkH (i := 0) (v := ?rA0v) (y := (Or.inl ⟨by rfl, ?rA0y⟩)) (h := ?rA0r)
    case rA0y => (intro w hSw; (try dsimp only at hSw); go_simp; try (with_reducible rfl))
    try simp only [pt]
    refine wpAnyH_ready (rs := [1]) (by kernel_rfl) (by simp) ?_
    refine AllReadyH.cons (by simp only [List.getElem?_toArray, List.getElem?_cons_succ, List.getElem?_cons_zero]; rfl) (fun K hK => ?_) (AllReadyH.nil)
    (go_simp; go_at_call 205; (with_reducible refine (HV.out _).mono ?_); rintro e w4 ⟨rfl, hb4⟩; (have HBx : Hid (Below (w.heap.size + 2) W1 w4) := Below.trans (B := w.heap.size + 2) (by repeat (first | exact HB1.out | refine Below.drew ?_ | refine below_dN' ?_ _ | refine below_drewN' ?_ _)) (Below.mono hb4 (Nat.le_of_eq HS.out.symm))); clear hb4; go_wp2_with fail)
    refine hK.out _ _ (by first | exact HC.out _ HBx.out | exact HC.out _ HB1.out | exact HC.out _ (by repeat (first | exact HBx.out | exact HB1.out | exact Below.refl _ _ | refine Below.drew ?_ | refine below_dN' ?_ _ | refine below_drewN' ?_ _)) | go_keep) (fun hHeldrA1 => ?_)
    clear hK K hHeld
    try simp only [pt]
    refine tkH (i := 2) (v := ?rA2v) (y := (Or.inl ⟨by rfl, ?rA2y⟩)) (h := ?rA2r)
    case rA2y => (intro w hSw; (try dsimp only at hSw); go_simp; try (with_reducible rfl))
    try simp only [pt]
    refine tkH (i := 3) (v := _) (y := (Or.inr ⟨by rfl, rfl⟩)) (h := ?_)
    try simp only [pt]
    refine tkH (i := 4) (v := _) (y := (Or.inr ⟨by rfl, rfl⟩)) (h := ?_)
    try simp only [pt]
    refine tkH (i := 5) (v := _) (y := (Or.inr ⟨by rfl, rfl⟩)) (h := ?_)
    try simp only [pt]
    refine tkH (i := 6) (v := ?rA6v) (y := (Or.inl ⟨by rfl, ?rA6y⟩)) (h := ?rA6r)
    case rA6y => (intro w hSw; (try dsimp only at hSw); go_simp; try (with_reducible rfl))
    try simp only [pt]
    refine tkH (i := 7) (v := ?rA7v) (y := (Or.inl ⟨by rfl, ?rA7y⟩)) (h := ?rA7r)
    case rA7y => (intro w hSw; (try dsimp only at hSw); go_simp; try (with_reducible rfl))
    try simp only [pt]
    refine tkH (i := 8) (v := _) (y := (Or.inr ⟨by rfl, rfl⟩)) (h := ?_)
    try simp only [pt]
    refine tkH (i := 9) (v := _) (y := (Or.inr ⟨by rfl, rfl⟩)) (h := ?_)
    try simp only [pt]
    refine tkH (i := 10) (v := _) (y := (Or.inr ⟨by rfl, rfl⟩)) (h := ?_)
    try simp only [pt]
    refine tkH (i := 11) (v := ?rA11v) (y := (Or.inl ⟨by rfl, ?rA11y⟩)) (h := ?rA11r)
    case rA11y => (intro w hSw; (try dsimp only at hSw); go_simp; try (with_reducible rfl))
    try simp only [pt]
    refine tkH (i := 12) (v := ?rA12v) (y := (Or.inl ⟨by rfl, ?rA12y⟩)) (h := ?rA12r)
    case rA12y => (intro w hSw; (try dsimp only at hSw); go_simp; try (with_reducible rfl))
    try simp only [pt]
    refine tkH (i := 13) (v := _) (y := (Or.inr ⟨by rfl, rfl⟩)) (h := ?_)
    try simp only [pt]
    refine tkH (i := 14) (v := _) (y := (Or.inr ⟨by rfl, rfl⟩)) (h := ?_)
    try simp only [pt]
    refine tkH (i := 15) (v := _) (y := (Or.inr ⟨by rfl, rfl⟩)) (h := ?_)
    try simp only [pt]
    refine tkH (i := 16) (v := _) (y := (Or.inr ⟨by rfl, rfl⟩)) (h := ?_)
    try simp only [pt]
    refine tkH (i := 17) (v := _) (y := (Or.inr ⟨by rfl, rfl⟩)) (h := ?_)
    try simp only [pt]
    refine tkH (i := 18) (v := _) (y := (Or.inr ⟨by rfl, rfl⟩)) (h := ?_)
    try simp only [pt]
    refine tkH (i := 19) (v := ?rA19v) (y := (Or.inl ⟨by rfl, ?rA19y⟩)) (h := ?rA19r)
    case rA19y => (intro w hSw; (try dsimp only at hSw); go_simp; try (with_reducible rfl))
    try simp only [pt]
    refine tkH (i := 20) (v := ?rA20v) (y := (Or.inl ⟨by rfl, ?rA20y⟩)) (h := ?rA20r)
    case rA20y => (intro w hSw; (try dsimp only at hSw); go_simp; try (with_reducible rfl))
    try simp only [pt]
    refine tkH (i := 21) (v := _) (y := (Or.inr ⟨by rfl, rfl⟩)) (h := ?_)
    try simp only [pt]
    refine tkH (i := 22) (v := _) (y := (Or.inr ⟨by rfl, rfl⟩)) (h := ?_)
    try simp only [pt]
    refine tkH (i := 23) (v := _) (y := (Or.inr ⟨by rfl, rfl⟩)) (h := ?_)
    try simp only [pt]
    refine tkH (i := 24) (v := _) (y := (Or.inr ⟨by rfl, rfl⟩)) (h := ?_)
    try simp only [pt]
    refine tkH (i := 25) (v := _) (y := (Or.inr ⟨by rfl, rfl⟩)) (h := ?_)
    try simp only [pt]
    refine tkH (i := 26) (v := ?rA26v) (y := (Or.inl ⟨by rfl, ?rA26y⟩)) (h := ?rA26r)
    case rA26y => (intro w hSw; (try dsimp only at hSw); go_simp; try (with_reducible rfl))
    try simp only [pt]
    refine tkH (i := 27) (v := ?rA27v) (y := (Or.inl ⟨by rfl, ?rA27y⟩)) (h := ?rA27r)
    case rA27y => (intro w hSw; (try dsimp only at hSw); go_simp; try (with_reducible rfl))
    try simp only [pt]
    refine tkH (i := 28) (v := _) (y := (Or.inr ⟨by rfl, rfl⟩)) (h := ?_)
    try simp only [pt]
    refine tkH (i := 29) (v := _) (y := (Or.inr ⟨by rfl, rfl⟩)) (h := ?_)
    try simp only [pt]
    refine tkH (i := 30) (v := _) (y := (Or.inr ⟨by rfl, rfl⟩)) (h := ?_)
    try simp only [pt]
    refine tkH (i := 31) (v := _) (y := (Or.inr ⟨by rfl, rfl⟩)) (h := ?_)
    try simp only [pt]
    refine tkH (i := 32) (v := _) (y := (Or.inr ⟨by rfl, rfl⟩)) (h := ?_)
    try simp only [pt]
    refine tkH (i := 33) (v := _) (y := (Or.inr ⟨by rfl, rfl⟩)) (h := ?_)
    try simp only [pt]
    refine tkH (i := 34) (v := ?rA34v) (y := (Or.inl ⟨by rfl, ?rA34y⟩)) (h := ?rA34r)
    case rA34y => (intro w hSw; (try dsimp only at hSw); go_simp; try (with_reducible rfl))
    try simp only [pt]
    refine tkH (i := 35) (v := ?rA35v) (y := (Or.inl ⟨by rfl, ?rA35y⟩)) (h := ?rA35r)
    case rA35y => (intro w hSw; (try dsimp only at hSw); go_simp; try (with_reducible rfl))
    try simp only [pt]
    refine tkH (i := 36) (v := _) (y := (Or.inr ⟨by rfl, rfl⟩)) (h := ?_)
    try simp only [pt]
    refine tkH (i := 37) (v := _) (y := (Or.inr ⟨by rfl, rfl⟩)) (h := ?_)
    try simp only [pt]
    refine tkH (i := 38) (v := _) (y := (Or.inr ⟨by rfl, rfl⟩)) (h := ?_)
    try simp only [pt]
    refine tkH (i := 39) (v := ?rA39v) (y := (Or.inl ⟨by rfl, ?rA39y⟩)) (h := ?rA39r)
    case rA39y => (intro w hSw; (try dsimp only at hSw); go_simp; try (with_reducible rfl))
    try simp only [pt]
    refine tkH (i := 40) (v := ?rA40v) (y := (Or.inl ⟨by rfl, ?rA40y⟩)) (h := ?rA40r)
    case rA40y => (intro w hSw; (try dsimp only at hSw); go_simp; try (with_reducible rfl))
    try simp only [pt]
    refine wpAnyH_done (by kernel_rfl) ?_ _
    go_wp2_with fail
    go_ret
    exact ⟨by rw [HF2.out]; rfl, HB.out.trans (HBx.out.mono (Nat.le_add_right _ 2))⟩
    -- END bad
  | true =>
    obtain ⟨hbit, hh0, hh8⟩ := sgOk_bit hok
    rw [hok, Bool.true_and] at HF
    rw [hok] at HV
    obtain ⟨H, rfl⟩ : ∃ H : Nat, h = (H : Int) := ⟨h.toNat, by omega⟩
    rw [Int.toNat_natCast] at HF
    have hH8 : H ≤ 8 := by omega
    have hd0 : decide (0 ≤ (ix : Int)) = true := by simp
    obtain ⟨P, hP⟩ : ∃ P, 2 ^ H = P := ⟨_, rfl⟩
    have h256 : P ≤ 256 := by rw [← hP]; exact Nat.le_trans (Nat.pow_le_pow_right (by decide) hH8) (by decide)
    have hwP : IntKind.i64.wrap ((2 : Int) ^ H) = (P : Int) := by
      rw [show ((2 : Int) ^ H) = (P : Int) by rw [← hP]; simp]
      exact IntWalk.i64_in _ (by omega)
    rw [hP] at HF
    have HP2 := Lib.hid hP
    clear hP
    have HPR := Lib.hid (fun W => rgpar_any b H W)
    have HPT : Hid (∀ V, Below (w.heap.size + 2) W1 V → Calls Tryz.prog 206 #[.agg (cPm b), .slice Ap np cp] V fun e w' => e = .returned (.bool ((np : Int) == ((mN b.toNat + cN b.toNat : Nat) : Int))) ∧ Below V.heap.size V w') := fun V hv => rparts_any b b.toNat hbit Ap np cp B ps V ((hp.up HB.out hB).up hv (Nat.le_trans hB (Nat.le_add_right _ 2))) (Nat.le_trans (Nat.le_trans hB HB.out.size) (HS.out ▸ hv.size : W1.heap.size ≤ V.heap.size)) (by omega) hps
    have HSM : Hid (∀ V, Below (w.heap.size + 2) W1 V → Calls Tryz.prog 155 #[.slice Aq nq cq] V fun e w' => e = .returned (.bool true) ∧ V = w') := fun V hv => rsums_any Aq nq cq B qs V ((hq.up HB.out hB).up hv (Nat.le_trans hB (Nat.le_add_right _ 2))) (by omega) hqs
    obtain ⟨c0, c1, c2, c3, c4⟩ := HC.out W1 HB1.out
    clear hp hq hps hqs hok hbit
    by_cases hlt : ix < P
    · have hd1 : decide (ix < P) = true := by simp [hlt]
      have hd2 : decide ((ix : Int) < (P : Int)) = true := by simp; omega
      rw [hd1, Bool.true_and] at HF
      by_cases hT : np = mN b.toNat + cN b.toNat
      · have hTI : ((np : Int) == ((mN b.toNat + cN b.toNat : Nat) : Int)) = true := by rw [hT]; simp
        rw [hTI] at HPT
        rw [decide_eq_true hT, Bool.and_true] at HF
        clear hTI
        by_cases hnq : nq = H
        · -- PART all
          have hnI : ((nq : Int) == (H : Int)) = true := by simp [hnq]
          have HF2 : Hid (sgF b H ix np nq = true) := by show _ = _; rw [HF.out]; simp [hnq]
          clear hT HF hlt hnq
          go_enter Tryz.func159, Tryz.ntmps159
          go_upto_region 1 with fail
          rw [← HWE.out]
          go_wp2_with fail
          refine wp_region_held_drew (S := (fun w' => w'.cell? ⟨w.heap.size, 0, none⟩ = some (.int .i64 b) ∧ w'.cell? ⟨w.heap.size, 1, none⟩ = some (.int .i64 (H : Int)) ∧ w'.cell? ⟨w.heap.size + 1, 0, none⟩ = some (.int .i64 (ix : Int)) ∧ w'.cell? ⟨w.heap.size + 1, 1, none⟩ = some (.slice Ap np cp) ∧ w'.cell? ⟨w.heap.size + 1, 2, none⟩ = some (.slice Aq nq cq))) (by kernel_rfl) (by first | exact HC.out _ HBx.out | exact HC.out _ HB1.out | exact HC.out _ (by repeat (first | exact HBx.out | exact HB1.out | exact Below.refl _ _ | refine Below.drew ?_ | refine below_dN' ?_ _ | refine below_drewN' ?_ _)) | go_keep) (fun hHeld => ?_)
          refine tkH (i := 0) (v := ?rE0v) (y := (Or.inl ⟨by rfl, ?rE0y⟩)) (h := ?rE0r)
          case rE0y => (intro w hSw; (try dsimp only at hSw); go_simp; try (with_reducible rfl))
          try simp only [pt]
          refine wpAnyH_ready (rs := [1]) (by kernel_rfl) (by simp) ?_
          refine AllReadyH.cons (by simp only [List.getElem?_toArray, List.getElem?_cons_succ, List.getElem?_cons_zero]; rfl) (fun K hK => ?_) (AllReadyH.nil)
          (go_simp; go_at_call 205; (with_reducible refine (HV.out _).mono ?_); rintro e w4 ⟨rfl, hb4⟩; (have HBx : Hid (Below (w.heap.size + 2) W1 w4) := Below.trans (B := w.heap.size + 2) (by repeat (first | exact HB1.out | refine Below.drew ?_ | refine below_dN' ?_ _ | refine below_drewN' ?_ _)) (Below.mono hb4 (Nat.le_of_eq HS.out.symm))); clear hb4; go_wp2_with fail)
          refine hK.out _ _ (by first | exact HC.out _ HBx.out | exact HC.out _ HB1.out | exact HC.out _ (by repeat (first | exact HBx.out | exact HB1.out | exact Below.refl _ _ | refine Below.drew ?_ | refine below_dN' ?_ _ | refine below_drewN' ?_ _)) | go_keep) (fun hHeldrE1 => ?_)
          clear hK K hHeld
          try simp only [pt]
          refine tkH (i := 2) (v := ?rE2v) (y := (Or.inl ⟨by rfl, ?rE2y⟩)) (h := ?rE2r)
          case rE2y => (intro w hSw; (try dsimp only at hSw); go_simp; try (with_reducible rfl))
          try simp only [pt]
          refine tkH (i := 3) (v := ?rE3v) (y := (Or.inl ⟨by rfl, ?rE3y⟩)) (h := ?rE3r)
          case rE3y => (intro w hSw; (try dsimp only at hSw); go_simp; try (with_reducible rfl))
          try simp only [pt]
          refine tkH (i := 4) (v := ?rE4v) (y := (Or.inl ⟨by rfl, ?rE4y⟩)) (h := ?rE4r)
          case rE4y => (intro w hSw; (try dsimp only at hSw); go_simp; try (with_reducible rfl))
          try simp only [pt]
          refine tkH (i := 5) (v := ?rE5v) (y := (Or.inl ⟨by rfl, ?rE5y⟩)) (h := ?rE5r)
          case rE5y => (intro w hSw; (try dsimp only at hSw); go_simp; try (with_reducible rfl))
          try simp only [pt]
          refine tkH (i := 6) (v := ?rE6v) (y := (Or.inl ⟨by rfl, ?rE6y⟩)) (h := ?rE6r)
          case rE6y => (intro w hSw; (try dsimp only at hSw); go_simp; try (with_reducible rfl))
          try simp only [pt]
          refine tkH (i := 7) (v := ?rE7v) (y := (Or.inl ⟨by rfl, ?rE7y⟩)) (h := ?rE7r)
          case rE7y => (intro w hSw; (try dsimp only at hSw); go_simp; try (with_reducible rfl))
          try simp only [pt]
          refine tkH (i := 8) (v := ?rE8v) (y := (Or.inl ⟨by rfl, ?rE8y⟩)) (h := ?rE8r)
          case rE8y => (intro w hSw; (try dsimp only at hSw); go_simp; try (with_reducible rfl))
          try simp only [pt]
          refine tkH (i := 9) (v := ?rE9v) (y := (Or.inl ⟨by rfl, ?rE9y⟩)) (h := ?rE9r)
          case rE9y => (intro w hSw; (try dsimp only at hSw); go_simp; try (with_reducible rfl))
          try simp only [pt]
          refine tkH (i := 10) (v := ?rE10v) (y := (Or.inl ⟨by rfl, ?rE10y⟩)) (h := ?rE10r)
          case rE10y => (intro w hSw; (try dsimp only at hSw); go_simp; try (with_reducible rfl))
          try simp only [pt]
          refine tkH (i := 11) (v := ?rE11v) (y := (Or.inl ⟨by rfl, ?rE11y⟩)) (h := ?rE11r)
          case rE11y => (intro w hSw; (try dsimp only at hSw); go_simp; try (with_reducible rfl))
          try simp only [pt]
          refine tkH (i := 12) (v := ?rE12v) (y := (Or.inl ⟨by rfl, ?rE12y⟩)) (h := ?rE12r)
          case rE12y => (intro w hSw; (try dsimp only at hSw); go_simp; try (with_reducible rfl))
          try simp only [pt]
          refine tkH (i := 13) (v := ?rE13v) (y := (Or.inl ⟨by rfl, ?rE13y⟩)) (h := ?rE13r)
          case rE13y => (intro w hSw; (try dsimp only at hSw); go_simp; try (with_reducible rfl))
          try simp only [pt]
          refine tkH (i := 14) (v := ?rE14v) (y := (Or.inl ⟨by rfl, ?rE14y⟩)) (h := ?rE14r)
          case rE14y => (intro w hSw; (try dsimp only at hSw); go_simp; try (with_reducible rfl))
          try simp only [pt]
          refine tkH (i := 15) (v := ?rE15v) (y := (Or.inl ⟨by rfl, ?rE15y⟩)) (h := ?rE15r)
          case rE15y => (intro w hSw; (try dsimp only at hSw); go_simp; try (with_reducible rfl))
          try simp only [pt]
          refine tkH (i := 16) (v := ?rE16v) (y := (Or.inl ⟨by rfl, ?rE16y⟩)) (h := ?rE16r)
          case rE16y => (intro w hSw; (try dsimp only at hSw); go_simp; try (with_reducible rfl))
          try simp only [pt]
          refine tkH (i := 17) (v := ?rE17v) (y := (Or.inl ⟨by rfl, ?rE17y⟩)) (h := ?rE17r)
          case rE17y => (intro w hSw; (try dsimp only at hSw); go_simp; try (with_reducible rfl))
          try simp only [pt]
          refine tkH (i := 18) (v := ?rE18v) (y := (Or.inl ⟨by rfl, ?rE18y⟩)) (h := ?rE18r)
          case rE18y => (intro w hSw; (try dsimp only at hSw); go_simp; try (with_reducible rfl))
          try simp only [pt]
          refine tkH (i := 19) (v := ?rE19v) (y := (Or.inl ⟨by rfl, ?rE19y⟩)) (h := ?rE19r)
          case rE19y => (intro w hSw; (try dsimp only at hSw); go_simp; try (with_reducible rfl))
          try simp only [pt]
          refine tkH (i := 20) (v := ?rE20v) (y := (Or.inl ⟨by rfl, ?rE20y⟩)) (h := ?rE20r)
          case rE20y => (intro w hSw; (try dsimp only at hSw); go_simp; try (with_reducible rfl))
          try simp only [pt]
          refine tkH (i := 21) (v := ?rE21v) (y := (Or.inl ⟨by rfl, ?rE21y⟩)) (h := ?rE21r)
          case rE21y => (intro w hSw; (try dsimp only at hSw); go_simp; try (with_reducible rfl))
          try simp only [pt]
          refine tkH (i := 23) (v := ?rE22v) (y := (Or.inl ⟨by rfl, ?rE22y⟩)) (h := ?rE22r)
          case rE22y => (intro w hSw; (try dsimp only at hSw); go_simp; try (with_reducible rfl))
          try simp only [pt]
          refine tkH (i := 24) (v := ?rE23v) (y := (Or.inl ⟨by rfl, ?rE23y⟩)) (h := ?rE23r)
          case rE23y => (intro w hSw; (try dsimp only at hSw); go_simp; try (with_reducible rfl))
          try simp only [pt]
          refine wpAnyH_ready (rs := [22]) (by kernel_rfl) (by simp) ?_
          refine AllReadyH.cons (by simp only [List.getElem?_toArray, List.getElem?_cons_succ, List.getElem?_cons_zero]; rfl) (fun K hK => ?_) (AllReadyH.nil)
          (go_simp; go_at_call 162; (with_reducible refine (HPR.out _).mono ?_); rintro e w5 ⟨rfl, hb5⟩; (have HBx : Hid (Below (w.heap.size + 2) W1 w5) := HBx.out.trans (Below.mono hb5 (HS.out ▸ HBx.out.size))); clear hb5; go_wp2_with fail)
          refine hK.out _ _ (by first | exact HC.out _ HBx.out | exact HC.out _ HB1.out | exact HC.out _ (by repeat (first | exact HBx.out | exact HB1.out | exact Below.refl _ _ | refine Below.drew ?_ | refine below_dN' ?_ _ | refine below_drewN' ?_ _)) | go_keep) (fun hHeldrE24 => ?_)
          clear hK K hHeldrE1
          try simp only [pt]
          refine wpAnyH_ready (rs := [25]) (by kernel_rfl) (by simp) ?_
          refine AllReadyH.cons (by simp only [List.getElem?_toArray, List.getElem?_cons_succ, List.getElem?_cons_zero]; rfl) (fun K hK => ?_) (AllReadyH.nil)
          (go_simp; go_at_call 206; (with_reducible refine (HPT.out _ HBx.out).mono ?_); rintro e w6 ⟨rfl, hb6⟩; (have HBx : Hid (Below (w.heap.size + 2) W1 w6) := HBx.out.trans (Below.mono hb6 (HS.out ▸ HBx.out.size))); clear hb6; go_wp2_with fail)
          refine hK.out _ _ (by first | exact HC.out _ HBx.out | exact HC.out _ HB1.out | exact HC.out _ (by repeat (first | exact HBx.out | exact HB1.out | exact Below.refl _ _ | refine Below.drew ?_ | refine below_dN' ?_ _ | refine below_drewN' ?_ _)) | go_keep) (fun hHeldrE25 => ?_)
          clear hK K hHeldrE24
          try simp only [pt]
          refine tkH (i := 26) (v := ?rE26v) (y := (Or.inl ⟨by rfl, ?rE26y⟩)) (h := ?rE26r)
          case rE26y => (intro w hSw; (try dsimp only at hSw); go_simp; try (with_reducible rfl))
          try simp only [pt]
          refine tkH (i := 27) (v := ?rE27v) (y := (Or.inl ⟨by rfl, ?rE27y⟩)) (h := ?rE27r)
          case rE27y => (intro w hSw; (try dsimp only at hSw); go_simp; try (with_reducible rfl))
          try simp only [pt]
          refine tkH (i := 28) (v := ?rE28v) (y := (Or.inl ⟨by rfl, ?rE28y⟩)) (h := ?rE28r)
          case rE28y => (intro w hSw; (try dsimp only at hSw); go_simp; try (with_reducible rfl))
          try simp only [pt]
          refine tkH (i := 29) (v := ?rE29v) (y := (Or.inl ⟨by rfl, ?rE29y⟩)) (h := ?rE29r)
          case rE29y => (intro w hSw; (try dsimp only at hSw); go_simp; try (with_reducible rfl))
          try simp only [pt]
          refine tkH (i := 30) (v := ?rE30v) (y := (Or.inl ⟨by rfl, ?rE30y⟩)) (h := ?rE30r)
          case rE30y => (intro w hSw; (try dsimp only at hSw); go_simp; try (with_reducible rfl))
          try simp only [pt]
          refine tkH (i := 31) (v := ?rE31v) (y := (Or.inl ⟨by rfl, ?rE31y⟩)) (h := ?rE31r)
          case rE31y => (intro w hSw; (try dsimp only at hSw); go_simp; try (with_reducible rfl))
          try simp only [pt]
          refine tkH (i := 32) (v := ?rE32v) (y := (Or.inl ⟨by rfl, ?rE32y⟩)) (h := ?rE32r)
          case rE32y => (intro w hSw; (try dsimp only at hSw); go_simp; try (with_reducible rfl))
          try simp only [pt]
          refine tkH (i := 33) (v := ?rE33v) (y := (Or.inl ⟨by rfl, ?rE33y⟩)) (h := ?rE33r)
          case rE33y => (intro w hSw; (try dsimp only at hSw); go_simp; try (with_reducible rfl))
          try simp only [pt]
          refine tkH (i := 34) (v := ?rE34v) (y := (Or.inl ⟨by rfl, ?rE34y⟩)) (h := ?rE34r)
          case rE34y => (intro w hSw; (try dsimp only at hSw); go_simp; try (with_reducible rfl))
          try simp only [pt]
          refine tkH (i := 35) (v := ?rE35v) (y := (Or.inl ⟨by rfl, ?rE35y⟩)) (h := ?rE35r)
          case rE35y => (intro w hSw; (try dsimp only at hSw); go_simp; try (with_reducible rfl))
          try simp only [pt]
          refine tkH (i := 36) (v := ?rE36v) (y := (Or.inl ⟨by rfl, ?rE36y⟩)) (h := ?rE36r)
          case rE36y => (intro w hSw; (try dsimp only at hSw); go_simp; try (with_reducible rfl))
          try simp only [pt]
          refine tkH (i := 37) (v := ?rE37v) (y := (Or.inl ⟨by rfl, ?rE37y⟩)) (h := ?rE37r)
          case rE37y => (intro w hSw; (try dsimp only at hSw); go_simp; try (with_reducible rfl))
          try simp only [pt]
          refine wpAnyH_ready (rs := [38]) (by kernel_rfl) (by simp) ?_
          refine AllReadyH.cons (by simp only [List.getElem?_toArray, List.getElem?_cons_succ, List.getElem?_cons_zero]; rfl) (fun K hK => ?_) (AllReadyH.nil)
          (go_simp; go_at_call 155; (with_reducible refine (HSM.out _ HBx.out).mono ?_); rintro e w7 ⟨rfl, rfl⟩; go_wp2_with fail)
          refine hK.out _ _ (by first | exact HC.out _ HBx.out | exact HC.out _ HB1.out | exact HC.out _ (by repeat (first | exact HBx.out | exact HB1.out | exact Below.refl _ _ | refine Below.drew ?_ | refine below_dN' ?_ _ | refine below_drewN' ?_ _)) | go_keep) (fun hHeldrE38 => ?_)
          clear hK K hHeldrE25
          try simp only [pt]
          refine tkH (i := 39) (v := ?rE39v) (y := (Or.inl ⟨by rfl, ?rE39y⟩)) (h := ?rE39r)
          case rE39y => (intro w hSw; (try dsimp only at hSw); go_simp; try (with_reducible rfl))
          try simp only [pt]
          refine tkH (i := 40) (v := ?rE40v) (y := (Or.inl ⟨by rfl, ?rE40y⟩)) (h := ?rE40r)
          case rE40y => (intro w hSw; (try dsimp only at hSw); go_simp; try (with_reducible rfl))
          try simp only [pt]
          refine wpAnyH_done (by kernel_rfl) ?_ _
          go_wp2_with fail
          go_ret
          exact ⟨by rw [HF2.out]; rfl, HB.out.trans (HBx.out.mono (Nat.le_add_right _ 2))⟩
          -- END all
        · -- PART height
          have hnI : ((nq : Int) == (H : Int)) = false := by simp; omega
          have HF2 : Hid (sgF b H ix np nq = false) := by show _ = _; rw [HF.out]; simp; omega
          clear hT HF hlt hnq
          go_enter Tryz.func159, Tryz.ntmps159
          go_upto_region 1 with fail
          rw [← HWE.out]
          go_wp2_with fail
          refine wp_region_held_drew (S := (fun w' => w'.cell? ⟨w.heap.size, 0, none⟩ = some (.int .i64 b) ∧ w'.cell? ⟨w.heap.size, 1, none⟩ = some (.int .i64 (H : Int)) ∧ w'.cell? ⟨w.heap.size + 1, 0, none⟩ = some (.int .i64 (ix : Int)) ∧ w'.cell? ⟨w.heap.size + 1, 1, none⟩ = some (.slice Ap np cp) ∧ w'.cell? ⟨w.heap.size + 1, 2, none⟩ = some (.slice Aq nq cq))) (by kernel_rfl) (by first | exact HC.out _ HBx.out | exact HC.out _ HB1.out | exact HC.out _ (by repeat (first | exact HBx.out | exact HB1.out | exact Below.refl _ _ | refine Below.drew ?_ | refine below_dN' ?_ _ | refine below_drewN' ?_ _)) | go_keep) (fun hHeld => ?_)
          refine tkH (i := 0) (v := ?rD0v) (y := (Or.inl ⟨by rfl, ?rD0y⟩)) (h := ?rD0r)
          case rD0y => (intro w hSw; (try dsimp only at hSw); go_simp; try (with_reducible rfl))
          try simp only [pt]
          refine wpAnyH_ready (rs := [1]) (by kernel_rfl) (by simp) ?_
          refine AllReadyH.cons (by simp only [List.getElem?_toArray, List.getElem?_cons_succ, List.getElem?_cons_zero]; rfl) (fun K hK => ?_) (AllReadyH.nil)
          (go_simp; go_at_call 205; (with_reducible refine (HV.out _).mono ?_); rintro e w4 ⟨rfl, hb4⟩; (have HBx : Hid (Below (w.heap.size + 2) W1 w4) := Below.trans (B := w.heap.size + 2) (by repeat (first | exact HB1.out | refine Below.drew ?_ | refine below_dN' ?_ _ | refine below_drewN' ?_ _)) (Below.mono hb4 (Nat.le_of_eq HS.out.symm))); clear hb4; go_wp2_with fail)
          refine hK.out _ _ (by first | exact HC.out _ HBx.out | exact HC.out _ HB1.out | exact HC.out _ (by repeat (first | exact HBx.out | exact HB1.out | exact Below.refl _ _ | refine Below.drew ?_ | refine below_dN' ?_ _ | refine below_drewN' ?_ _)) | go_keep) (fun hHeldrD1 => ?_)
          clear hK K hHeld
          try simp only [pt]
          refine tkH (i := 2) (v := ?rD2v) (y := (Or.inl ⟨by rfl, ?rD2y⟩)) (h := ?rD2r)
          case rD2y => (intro w hSw; (try dsimp only at hSw); go_simp; try (with_reducible rfl))
          try simp only [pt]
          refine tkH (i := 3) (v := ?rD3v) (y := (Or.inl ⟨by rfl, ?rD3y⟩)) (h := ?rD3r)
          case rD3y => (intro w hSw; (try dsimp only at hSw); go_simp; try (with_reducible rfl))
          try simp only [pt]
          refine tkH (i := 4) (v := ?rD4v) (y := (Or.inl ⟨by rfl, ?rD4y⟩)) (h := ?rD4r)
          case rD4y => (intro w hSw; (try dsimp only at hSw); go_simp; try (with_reducible rfl))
          try simp only [pt]
          refine tkH (i := 5) (v := ?rD5v) (y := (Or.inl ⟨by rfl, ?rD5y⟩)) (h := ?rD5r)
          case rD5y => (intro w hSw; (try dsimp only at hSw); go_simp; try (with_reducible rfl))
          try simp only [pt]
          refine tkH (i := 6) (v := ?rD6v) (y := (Or.inl ⟨by rfl, ?rD6y⟩)) (h := ?rD6r)
          case rD6y => (intro w hSw; (try dsimp only at hSw); go_simp; try (with_reducible rfl))
          try simp only [pt]
          refine tkH (i := 7) (v := ?rD7v) (y := (Or.inl ⟨by rfl, ?rD7y⟩)) (h := ?rD7r)
          case rD7y => (intro w hSw; (try dsimp only at hSw); go_simp; try (with_reducible rfl))
          try simp only [pt]
          refine tkH (i := 8) (v := ?rD8v) (y := (Or.inl ⟨by rfl, ?rD8y⟩)) (h := ?rD8r)
          case rD8y => (intro w hSw; (try dsimp only at hSw); go_simp; try (with_reducible rfl))
          try simp only [pt]
          refine tkH (i := 9) (v := ?rD9v) (y := (Or.inl ⟨by rfl, ?rD9y⟩)) (h := ?rD9r)
          case rD9y => (intro w hSw; (try dsimp only at hSw); go_simp; try (with_reducible rfl))
          try simp only [pt]
          refine tkH (i := 10) (v := ?rD10v) (y := (Or.inl ⟨by rfl, ?rD10y⟩)) (h := ?rD10r)
          case rD10y => (intro w hSw; (try dsimp only at hSw); go_simp; try (with_reducible rfl))
          try simp only [pt]
          refine tkH (i := 11) (v := ?rD11v) (y := (Or.inl ⟨by rfl, ?rD11y⟩)) (h := ?rD11r)
          case rD11y => (intro w hSw; (try dsimp only at hSw); go_simp; try (with_reducible rfl))
          try simp only [pt]
          refine tkH (i := 12) (v := ?rD12v) (y := (Or.inl ⟨by rfl, ?rD12y⟩)) (h := ?rD12r)
          case rD12y => (intro w hSw; (try dsimp only at hSw); go_simp; try (with_reducible rfl))
          try simp only [pt]
          refine tkH (i := 13) (v := ?rD13v) (y := (Or.inl ⟨by rfl, ?rD13y⟩)) (h := ?rD13r)
          case rD13y => (intro w hSw; (try dsimp only at hSw); go_simp; try (with_reducible rfl))
          try simp only [pt]
          refine tkH (i := 14) (v := ?rD14v) (y := (Or.inl ⟨by rfl, ?rD14y⟩)) (h := ?rD14r)
          case rD14y => (intro w hSw; (try dsimp only at hSw); go_simp; try (with_reducible rfl))
          try simp only [pt]
          refine tkH (i := 15) (v := ?rD15v) (y := (Or.inl ⟨by rfl, ?rD15y⟩)) (h := ?rD15r)
          case rD15y => (intro w hSw; (try dsimp only at hSw); go_simp; try (with_reducible rfl))
          try simp only [pt]
          refine tkH (i := 16) (v := ?rD16v) (y := (Or.inl ⟨by rfl, ?rD16y⟩)) (h := ?rD16r)
          case rD16y => (intro w hSw; (try dsimp only at hSw); go_simp; try (with_reducible rfl))
          try simp only [pt]
          refine tkH (i := 17) (v := ?rD17v) (y := (Or.inl ⟨by rfl, ?rD17y⟩)) (h := ?rD17r)
          case rD17y => (intro w hSw; (try dsimp only at hSw); go_simp; try (with_reducible rfl))
          try simp only [pt]
          refine tkH (i := 18) (v := ?rD18v) (y := (Or.inl ⟨by rfl, ?rD18y⟩)) (h := ?rD18r)
          case rD18y => (intro w hSw; (try dsimp only at hSw); go_simp; try (with_reducible rfl))
          try simp only [pt]
          refine tkH (i := 19) (v := ?rD19v) (y := (Or.inl ⟨by rfl, ?rD19y⟩)) (h := ?rD19r)
          case rD19y => (intro w hSw; (try dsimp only at hSw); go_simp; try (with_reducible rfl))
          try simp only [pt]
          refine tkH (i := 20) (v := ?rD20v) (y := (Or.inl ⟨by rfl, ?rD20y⟩)) (h := ?rD20r)
          case rD20y => (intro w hSw; (try dsimp only at hSw); go_simp; try (with_reducible rfl))
          try simp only [pt]
          refine tkH (i := 21) (v := ?rD21v) (y := (Or.inl ⟨by rfl, ?rD21y⟩)) (h := ?rD21r)
          case rD21y => (intro w hSw; (try dsimp only at hSw); go_simp; try (with_reducible rfl))
          try simp only [pt]
          refine tkH (i := 23) (v := ?rD22v) (y := (Or.inl ⟨by rfl, ?rD22y⟩)) (h := ?rD22r)
          case rD22y => (intro w hSw; (try dsimp only at hSw); go_simp; try (with_reducible rfl))
          try simp only [pt]
          refine tkH (i := 24) (v := ?rD23v) (y := (Or.inl ⟨by rfl, ?rD23y⟩)) (h := ?rD23r)
          case rD23y => (intro w hSw; (try dsimp only at hSw); go_simp; try (with_reducible rfl))
          try simp only [pt]
          refine wpAnyH_ready (rs := [22]) (by kernel_rfl) (by simp) ?_
          refine AllReadyH.cons (by simp only [List.getElem?_toArray, List.getElem?_cons_succ, List.getElem?_cons_zero]; rfl) (fun K hK => ?_) (AllReadyH.nil)
          (go_simp; go_at_call 162; (with_reducible refine (HPR.out _).mono ?_); rintro e w5 ⟨rfl, hb5⟩; (have HBx : Hid (Below (w.heap.size + 2) W1 w5) := HBx.out.trans (Below.mono hb5 (HS.out ▸ HBx.out.size))); clear hb5; go_wp2_with fail)
          refine hK.out _ _ (by first | exact HC.out _ HBx.out | exact HC.out _ HB1.out | exact HC.out _ (by repeat (first | exact HBx.out | exact HB1.out | exact Below.refl _ _ | refine Below.drew ?_ | refine below_dN' ?_ _ | refine below_drewN' ?_ _)) | go_keep) (fun hHeldrD24 => ?_)
          clear hK K hHeldrD1
          try simp only [pt]
          refine wpAnyH_ready (rs := [25]) (by kernel_rfl) (by simp) ?_
          refine AllReadyH.cons (by simp only [List.getElem?_toArray, List.getElem?_cons_succ, List.getElem?_cons_zero]; rfl) (fun K hK => ?_) (AllReadyH.nil)
          (go_simp; go_at_call 206; (with_reducible refine (HPT.out _ HBx.out).mono ?_); rintro e w6 ⟨rfl, hb6⟩; (have HBx : Hid (Below (w.heap.size + 2) W1 w6) := HBx.out.trans (Below.mono hb6 (HS.out ▸ HBx.out.size))); clear hb6; go_wp2_with fail)
          refine hK.out _ _ (by first | exact HC.out _ HBx.out | exact HC.out _ HB1.out | exact HC.out _ (by repeat (first | exact HBx.out | exact HB1.out | exact Below.refl _ _ | refine Below.drew ?_ | refine below_dN' ?_ _ | refine below_drewN' ?_ _)) | go_keep) (fun hHeldrD25 => ?_)
          clear hK K hHeldrD24
          try simp only [pt]
          refine tkH (i := 26) (v := ?rD26v) (y := (Or.inl ⟨by rfl, ?rD26y⟩)) (h := ?rD26r)
          case rD26y => (intro w hSw; (try dsimp only at hSw); go_simp; try (with_reducible rfl))
          try simp only [pt]
          refine tkH (i := 27) (v := ?rD27v) (y := (Or.inl ⟨by rfl, ?rD27y⟩)) (h := ?rD27r)
          case rD27y => (intro w hSw; (try dsimp only at hSw); go_simp; try (with_reducible rfl))
          try simp only [pt]
          refine tkH (i := 28) (v := ?rD28v) (y := (Or.inl ⟨by rfl, ?rD28y⟩)) (h := ?rD28r)
          case rD28y => (intro w hSw; (try dsimp only at hSw); go_simp; try (with_reducible rfl))
          try simp only [pt]
          refine tkH (i := 29) (v := ?rD29v) (y := (Or.inl ⟨by rfl, ?rD29y⟩)) (h := ?rD29r)
          case rD29y => (intro w hSw; (try dsimp only at hSw); go_simp; try (with_reducible rfl))
          try simp only [pt]
          refine tkH (i := 30) (v := ?rD30v) (y := (Or.inl ⟨by rfl, ?rD30y⟩)) (h := ?rD30r)
          case rD30y => (intro w hSw; (try dsimp only at hSw); go_simp; try (with_reducible rfl))
          try simp only [pt]
          refine tkH (i := 31) (v := ?rD31v) (y := (Or.inl ⟨by rfl, ?rD31y⟩)) (h := ?rD31r)
          case rD31y => (intro w hSw; (try dsimp only at hSw); go_simp; try (with_reducible rfl))
          try simp only [pt]
          refine tkH (i := 32) (v := ?rD32v) (y := (Or.inl ⟨by rfl, ?rD32y⟩)) (h := ?rD32r)
          case rD32y => (intro w hSw; (try dsimp only at hSw); go_simp; try (with_reducible rfl))
          try simp only [pt]
          refine tkH (i := 33) (v := ?rD33v) (y := (Or.inl ⟨by rfl, ?rD33y⟩)) (h := ?rD33r)
          case rD33y => (intro w hSw; (try dsimp only at hSw); go_simp; try (with_reducible rfl))
          try simp only [pt]
          refine tkH (i := 34) (v := ?rD34v) (y := (Or.inl ⟨by rfl, ?rD34y⟩)) (h := ?rD34r)
          case rD34y => (intro w hSw; (try dsimp only at hSw); go_simp; try (with_reducible rfl))
          try simp only [pt]
          refine tkH (i := 35) (v := ?rD35v) (y := (Or.inl ⟨by rfl, ?rD35y⟩)) (h := ?rD35r)
          case rD35y => (intro w hSw; (try dsimp only at hSw); go_simp; try (with_reducible rfl))
          try simp only [pt]
          refine tkH (i := 36) (v := _) (y := (Or.inr ⟨by rfl, rfl⟩)) (h := ?_)
          try simp only [pt]
          refine tkH (i := 37) (v := _) (y := (Or.inr ⟨by rfl, rfl⟩)) (h := ?_)
          try simp only [pt]
          refine tkH (i := 38) (v := _) (y := (Or.inr ⟨by rfl, rfl⟩)) (h := ?_)
          try simp only [pt]
          refine tkH (i := 39) (v := ?rD39v) (y := (Or.inl ⟨by rfl, ?rD39y⟩)) (h := ?rD39r)
          case rD39y => (intro w hSw; (try dsimp only at hSw); go_simp; try (with_reducible rfl))
          try simp only [pt]
          refine tkH (i := 40) (v := ?rD40v) (y := (Or.inl ⟨by rfl, ?rD40y⟩)) (h := ?rD40r)
          case rD40y => (intro w hSw; (try dsimp only at hSw); go_simp; try (with_reducible rfl))
          try simp only [pt]
          refine wpAnyH_done (by kernel_rfl) ?_ _
          go_wp2_with fail
          go_ret
          exact ⟨by rw [HF2.out]; rfl, HB.out.trans (HBx.out.mono (Nat.le_add_right _ 2))⟩
          -- END height
      · -- PART parts
        have hTI : ((np : Int) == ((mN b.toNat + cN b.toNat : Nat) : Int)) = false := by simp; omega
        rw [hTI] at HPT
        have HF2 : Hid (sgF b H ix np nq = false) := by show _ = _; rw [HF.out, decide_eq_false hT, Bool.and_false]
        clear hT hTI HF hlt
        go_enter Tryz.func159, Tryz.ntmps159
        go_upto_region 1 with fail
        rw [← HWE.out]
        go_wp2_with fail
        refine wp_region_held_drew (S := (fun w' => w'.cell? ⟨w.heap.size, 0, none⟩ = some (.int .i64 b) ∧ w'.cell? ⟨w.heap.size, 1, none⟩ = some (.int .i64 (H : Int)) ∧ w'.cell? ⟨w.heap.size + 1, 0, none⟩ = some (.int .i64 (ix : Int)) ∧ w'.cell? ⟨w.heap.size + 1, 1, none⟩ = some (.slice Ap np cp) ∧ w'.cell? ⟨w.heap.size + 1, 2, none⟩ = some (.slice Aq nq cq))) (by kernel_rfl) (by first | exact HC.out _ HBx.out | exact HC.out _ HB1.out | exact HC.out _ (by repeat (first | exact HBx.out | exact HB1.out | exact Below.refl _ _ | refine Below.drew ?_ | refine below_dN' ?_ _ | refine below_drewN' ?_ _)) | go_keep) (fun hHeld => ?_)
        refine tkH (i := 0) (v := ?rC0v) (y := (Or.inl ⟨by rfl, ?rC0y⟩)) (h := ?rC0r)
        case rC0y => (intro w hSw; (try dsimp only at hSw); go_simp; try (with_reducible rfl))
        try simp only [pt]
        refine wpAnyH_ready (rs := [1]) (by kernel_rfl) (by simp) ?_
        refine AllReadyH.cons (by simp only [List.getElem?_toArray, List.getElem?_cons_succ, List.getElem?_cons_zero]; rfl) (fun K hK => ?_) (AllReadyH.nil)
        (go_simp; go_at_call 205; (with_reducible refine (HV.out _).mono ?_); rintro e w4 ⟨rfl, hb4⟩; (have HBx : Hid (Below (w.heap.size + 2) W1 w4) := Below.trans (B := w.heap.size + 2) (by repeat (first | exact HB1.out | refine Below.drew ?_ | refine below_dN' ?_ _ | refine below_drewN' ?_ _)) (Below.mono hb4 (Nat.le_of_eq HS.out.symm))); clear hb4; go_wp2_with fail)
        refine hK.out _ _ (by first | exact HC.out _ HBx.out | exact HC.out _ HB1.out | exact HC.out _ (by repeat (first | exact HBx.out | exact HB1.out | exact Below.refl _ _ | refine Below.drew ?_ | refine below_dN' ?_ _ | refine below_drewN' ?_ _)) | go_keep) (fun hHeldrC1 => ?_)
        clear hK K hHeld
        try simp only [pt]
        refine tkH (i := 2) (v := ?rC2v) (y := (Or.inl ⟨by rfl, ?rC2y⟩)) (h := ?rC2r)
        case rC2y => (intro w hSw; (try dsimp only at hSw); go_simp; try (with_reducible rfl))
        try simp only [pt]
        refine tkH (i := 3) (v := ?rC3v) (y := (Or.inl ⟨by rfl, ?rC3y⟩)) (h := ?rC3r)
        case rC3y => (intro w hSw; (try dsimp only at hSw); go_simp; try (with_reducible rfl))
        try simp only [pt]
        refine tkH (i := 4) (v := ?rC4v) (y := (Or.inl ⟨by rfl, ?rC4y⟩)) (h := ?rC4r)
        case rC4y => (intro w hSw; (try dsimp only at hSw); go_simp; try (with_reducible rfl))
        try simp only [pt]
        refine tkH (i := 5) (v := ?rC5v) (y := (Or.inl ⟨by rfl, ?rC5y⟩)) (h := ?rC5r)
        case rC5y => (intro w hSw; (try dsimp only at hSw); go_simp; try (with_reducible rfl))
        try simp only [pt]
        refine tkH (i := 6) (v := ?rC6v) (y := (Or.inl ⟨by rfl, ?rC6y⟩)) (h := ?rC6r)
        case rC6y => (intro w hSw; (try dsimp only at hSw); go_simp; try (with_reducible rfl))
        try simp only [pt]
        refine tkH (i := 7) (v := ?rC7v) (y := (Or.inl ⟨by rfl, ?rC7y⟩)) (h := ?rC7r)
        case rC7y => (intro w hSw; (try dsimp only at hSw); go_simp; try (with_reducible rfl))
        try simp only [pt]
        refine tkH (i := 8) (v := ?rC8v) (y := (Or.inl ⟨by rfl, ?rC8y⟩)) (h := ?rC8r)
        case rC8y => (intro w hSw; (try dsimp only at hSw); go_simp; try (with_reducible rfl))
        try simp only [pt]
        refine tkH (i := 9) (v := ?rC9v) (y := (Or.inl ⟨by rfl, ?rC9y⟩)) (h := ?rC9r)
        case rC9y => (intro w hSw; (try dsimp only at hSw); go_simp; try (with_reducible rfl))
        try simp only [pt]
        refine tkH (i := 10) (v := ?rC10v) (y := (Or.inl ⟨by rfl, ?rC10y⟩)) (h := ?rC10r)
        case rC10y => (intro w hSw; (try dsimp only at hSw); go_simp; try (with_reducible rfl))
        try simp only [pt]
        refine tkH (i := 11) (v := ?rC11v) (y := (Or.inl ⟨by rfl, ?rC11y⟩)) (h := ?rC11r)
        case rC11y => (intro w hSw; (try dsimp only at hSw); go_simp; try (with_reducible rfl))
        try simp only [pt]
        refine tkH (i := 12) (v := ?rC12v) (y := (Or.inl ⟨by rfl, ?rC12y⟩)) (h := ?rC12r)
        case rC12y => (intro w hSw; (try dsimp only at hSw); go_simp; try (with_reducible rfl))
        try simp only [pt]
        refine tkH (i := 13) (v := ?rC13v) (y := (Or.inl ⟨by rfl, ?rC13y⟩)) (h := ?rC13r)
        case rC13y => (intro w hSw; (try dsimp only at hSw); go_simp; try (with_reducible rfl))
        try simp only [pt]
        refine tkH (i := 14) (v := ?rC14v) (y := (Or.inl ⟨by rfl, ?rC14y⟩)) (h := ?rC14r)
        case rC14y => (intro w hSw; (try dsimp only at hSw); go_simp; try (with_reducible rfl))
        try simp only [pt]
        refine tkH (i := 15) (v := ?rC15v) (y := (Or.inl ⟨by rfl, ?rC15y⟩)) (h := ?rC15r)
        case rC15y => (intro w hSw; (try dsimp only at hSw); go_simp; try (with_reducible rfl))
        try simp only [pt]
        refine tkH (i := 16) (v := ?rC16v) (y := (Or.inl ⟨by rfl, ?rC16y⟩)) (h := ?rC16r)
        case rC16y => (intro w hSw; (try dsimp only at hSw); go_simp; try (with_reducible rfl))
        try simp only [pt]
        refine tkH (i := 17) (v := ?rC17v) (y := (Or.inl ⟨by rfl, ?rC17y⟩)) (h := ?rC17r)
        case rC17y => (intro w hSw; (try dsimp only at hSw); go_simp; try (with_reducible rfl))
        try simp only [pt]
        refine tkH (i := 18) (v := ?rC18v) (y := (Or.inl ⟨by rfl, ?rC18y⟩)) (h := ?rC18r)
        case rC18y => (intro w hSw; (try dsimp only at hSw); go_simp; try (with_reducible rfl))
        try simp only [pt]
        refine tkH (i := 19) (v := ?rC19v) (y := (Or.inl ⟨by rfl, ?rC19y⟩)) (h := ?rC19r)
        case rC19y => (intro w hSw; (try dsimp only at hSw); go_simp; try (with_reducible rfl))
        try simp only [pt]
        refine tkH (i := 20) (v := ?rC20v) (y := (Or.inl ⟨by rfl, ?rC20y⟩)) (h := ?rC20r)
        case rC20y => (intro w hSw; (try dsimp only at hSw); go_simp; try (with_reducible rfl))
        try simp only [pt]
        refine tkH (i := 21) (v := ?rC21v) (y := (Or.inl ⟨by rfl, ?rC21y⟩)) (h := ?rC21r)
        case rC21y => (intro w hSw; (try dsimp only at hSw); go_simp; try (with_reducible rfl))
        try simp only [pt]
        refine tkH (i := 23) (v := ?rC22v) (y := (Or.inl ⟨by rfl, ?rC22y⟩)) (h := ?rC22r)
        case rC22y => (intro w hSw; (try dsimp only at hSw); go_simp; try (with_reducible rfl))
        try simp only [pt]
        refine tkH (i := 24) (v := ?rC23v) (y := (Or.inl ⟨by rfl, ?rC23y⟩)) (h := ?rC23r)
        case rC23y => (intro w hSw; (try dsimp only at hSw); go_simp; try (with_reducible rfl))
        try simp only [pt]
        refine wpAnyH_ready (rs := [22]) (by kernel_rfl) (by simp) ?_
        refine AllReadyH.cons (by simp only [List.getElem?_toArray, List.getElem?_cons_succ, List.getElem?_cons_zero]; rfl) (fun K hK => ?_) (AllReadyH.nil)
        (go_simp; go_at_call 162; (with_reducible refine (HPR.out _).mono ?_); rintro e w5 ⟨rfl, hb5⟩; (have HBx : Hid (Below (w.heap.size + 2) W1 w5) := HBx.out.trans (Below.mono hb5 (HS.out ▸ HBx.out.size))); clear hb5; go_wp2_with fail)
        refine hK.out _ _ (by first | exact HC.out _ HBx.out | exact HC.out _ HB1.out | exact HC.out _ (by repeat (first | exact HBx.out | exact HB1.out | exact Below.refl _ _ | refine Below.drew ?_ | refine below_dN' ?_ _ | refine below_drewN' ?_ _)) | go_keep) (fun hHeldrC24 => ?_)
        clear hK K hHeldrC1
        try simp only [pt]
        refine wpAnyH_ready (rs := [25]) (by kernel_rfl) (by simp) ?_
        refine AllReadyH.cons (by simp only [List.getElem?_toArray, List.getElem?_cons_succ, List.getElem?_cons_zero]; rfl) (fun K hK => ?_) (AllReadyH.nil)
        (go_simp; go_at_call 206; (with_reducible refine (HPT.out _ HBx.out).mono ?_); rintro e w6 ⟨rfl, hb6⟩; (have HBx : Hid (Below (w.heap.size + 2) W1 w6) := HBx.out.trans (Below.mono hb6 (HS.out ▸ HBx.out.size))); clear hb6; go_wp2_with fail)
        refine hK.out _ _ (by first | exact HC.out _ HBx.out | exact HC.out _ HB1.out | exact HC.out _ (by repeat (first | exact HBx.out | exact HB1.out | exact Below.refl _ _ | refine Below.drew ?_ | refine below_dN' ?_ _ | refine below_drewN' ?_ _)) | go_keep) (fun hHeldrC25 => ?_)
        clear hK K hHeldrC24
        try simp only [pt]
        refine tkH (i := 26) (v := ?rC26v) (y := (Or.inl ⟨by rfl, ?rC26y⟩)) (h := ?rC26r)
        case rC26y => (intro w hSw; (try dsimp only at hSw); go_simp; try (with_reducible rfl))
        try simp only [pt]
        refine tkH (i := 27) (v := ?rC27v) (y := (Or.inl ⟨by rfl, ?rC27y⟩)) (h := ?rC27r)
        case rC27y => (intro w hSw; (try dsimp only at hSw); go_simp; try (with_reducible rfl))
        try simp only [pt]
        refine tkH (i := 28) (v := _) (y := (Or.inr ⟨by rfl, rfl⟩)) (h := ?_)
        try simp only [pt]
        refine tkH (i := 29) (v := _) (y := (Or.inr ⟨by rfl, rfl⟩)) (h := ?_)
        try simp only [pt]
        refine tkH (i := 30) (v := _) (y := (Or.inr ⟨by rfl, rfl⟩)) (h := ?_)
        try simp only [pt]
        refine tkH (i := 31) (v := _) (y := (Or.inr ⟨by rfl, rfl⟩)) (h := ?_)
        try simp only [pt]
        refine tkH (i := 32) (v := _) (y := (Or.inr ⟨by rfl, rfl⟩)) (h := ?_)
        try simp only [pt]
        refine tkH (i := 33) (v := _) (y := (Or.inr ⟨by rfl, rfl⟩)) (h := ?_)
        try simp only [pt]
        refine tkH (i := 34) (v := ?rC34v) (y := (Or.inl ⟨by rfl, ?rC34y⟩)) (h := ?rC34r)
        case rC34y => (intro w hSw; (try dsimp only at hSw); go_simp; try (with_reducible rfl))
        try simp only [pt]
        refine tkH (i := 35) (v := ?rC35v) (y := (Or.inl ⟨by rfl, ?rC35y⟩)) (h := ?rC35r)
        case rC35y => (intro w hSw; (try dsimp only at hSw); go_simp; try (with_reducible rfl))
        try simp only [pt]
        refine tkH (i := 36) (v := _) (y := (Or.inr ⟨by rfl, rfl⟩)) (h := ?_)
        try simp only [pt]
        refine tkH (i := 37) (v := _) (y := (Or.inr ⟨by rfl, rfl⟩)) (h := ?_)
        try simp only [pt]
        refine tkH (i := 38) (v := _) (y := (Or.inr ⟨by rfl, rfl⟩)) (h := ?_)
        try simp only [pt]
        refine tkH (i := 39) (v := ?rC39v) (y := (Or.inl ⟨by rfl, ?rC39y⟩)) (h := ?rC39r)
        case rC39y => (intro w hSw; (try dsimp only at hSw); go_simp; try (with_reducible rfl))
        try simp only [pt]
        refine tkH (i := 40) (v := ?rC40v) (y := (Or.inl ⟨by rfl, ?rC40y⟩)) (h := ?rC40r)
        case rC40y => (intro w hSw; (try dsimp only at hSw); go_simp; try (with_reducible rfl))
        try simp only [pt]
        refine wpAnyH_done (by kernel_rfl) ?_ _
        go_wp2_with fail
        go_ret
        exact ⟨by rw [HF2.out]; rfl, HB.out.trans (HBx.out.mono (Nat.le_add_right _ 2))⟩
        -- END parts
    · -- PART great
      have hd1 : decide (ix < P) = false := by simp; omega
      have hd2 : decide ((ix : Int) < (P : Int)) = false := by simp; omega
      have HF2 : Hid (sgF b H ix np nq = false) := by show _ = _; rw [HF.out, hd1]; rfl
      clear HF hlt
      go_enter Tryz.func159, Tryz.ntmps159
      go_upto_region 1 with fail
      rw [← HWE.out]
      go_wp2_with fail
      refine wp_region_held_drew (S := (fun w' => w'.cell? ⟨w.heap.size, 0, none⟩ = some (.int .i64 b) ∧ w'.cell? ⟨w.heap.size, 1, none⟩ = some (.int .i64 (H : Int)) ∧ w'.cell? ⟨w.heap.size + 1, 0, none⟩ = some (.int .i64 (ix : Int)) ∧ w'.cell? ⟨w.heap.size + 1, 1, none⟩ = some (.slice Ap np cp) ∧ w'.cell? ⟨w.heap.size + 1, 2, none⟩ = some (.slice Aq nq cq))) (by kernel_rfl) (by first | exact HC.out _ HBx.out | exact HC.out _ HB1.out | exact HC.out _ (by repeat (first | exact HBx.out | exact HB1.out | exact Below.refl _ _ | refine Below.drew ?_ | refine below_dN' ?_ _ | refine below_drewN' ?_ _)) | go_keep) (fun hHeld => ?_)
      refine tkH (i := 0) (v := ?rB0v) (y := (Or.inl ⟨by rfl, ?rB0y⟩)) (h := ?rB0r)
      case rB0y => (intro w hSw; (try dsimp only at hSw); go_simp; try (with_reducible rfl))
      try simp only [pt]
      refine wpAnyH_ready (rs := [1]) (by kernel_rfl) (by simp) ?_
      refine AllReadyH.cons (by simp only [List.getElem?_toArray, List.getElem?_cons_succ, List.getElem?_cons_zero]; rfl) (fun K hK => ?_) (AllReadyH.nil)
      (go_simp; go_at_call 205; (with_reducible refine (HV.out _).mono ?_); rintro e w4 ⟨rfl, hb4⟩; (have HBx : Hid (Below (w.heap.size + 2) W1 w4) := Below.trans (B := w.heap.size + 2) (by repeat (first | exact HB1.out | refine Below.drew ?_ | refine below_dN' ?_ _ | refine below_drewN' ?_ _)) (Below.mono hb4 (Nat.le_of_eq HS.out.symm))); clear hb4; go_wp2_with fail)
      refine hK.out _ _ (by first | exact HC.out _ HBx.out | exact HC.out _ HB1.out | exact HC.out _ (by repeat (first | exact HBx.out | exact HB1.out | exact Below.refl _ _ | refine Below.drew ?_ | refine below_dN' ?_ _ | refine below_drewN' ?_ _)) | go_keep) (fun hHeldrB1 => ?_)
      clear hK K hHeld
      try simp only [pt]
      refine tkH (i := 2) (v := ?rB2v) (y := (Or.inl ⟨by rfl, ?rB2y⟩)) (h := ?rB2r)
      case rB2y => (intro w hSw; (try dsimp only at hSw); go_simp; try (with_reducible rfl))
      try simp only [pt]
      refine tkH (i := 3) (v := ?rB3v) (y := (Or.inl ⟨by rfl, ?rB3y⟩)) (h := ?rB3r)
      case rB3y => (intro w hSw; (try dsimp only at hSw); go_simp; try (with_reducible rfl))
      try simp only [pt]
      refine tkH (i := 4) (v := ?rB4v) (y := (Or.inl ⟨by rfl, ?rB4y⟩)) (h := ?rB4r)
      case rB4y => (intro w hSw; (try dsimp only at hSw); go_simp; try (with_reducible rfl))
      try simp only [pt]
      refine tkH (i := 5) (v := ?rB5v) (y := (Or.inl ⟨by rfl, ?rB5y⟩)) (h := ?rB5r)
      case rB5y => (intro w hSw; (try dsimp only at hSw); go_simp; try (with_reducible rfl))
      try simp only [pt]
      refine tkH (i := 6) (v := ?rB6v) (y := (Or.inl ⟨by rfl, ?rB6y⟩)) (h := ?rB6r)
      case rB6y => (intro w hSw; (try dsimp only at hSw); go_simp; try (with_reducible rfl))
      try simp only [pt]
      refine tkH (i := 7) (v := ?rB7v) (y := (Or.inl ⟨by rfl, ?rB7y⟩)) (h := ?rB7r)
      case rB7y => (intro w hSw; (try dsimp only at hSw); go_simp; try (with_reducible rfl))
      try simp only [pt]
      refine tkH (i := 8) (v := ?rB8v) (y := (Or.inl ⟨by rfl, ?rB8y⟩)) (h := ?rB8r)
      case rB8y => (intro w hSw; (try dsimp only at hSw); go_simp; try (with_reducible rfl))
      try simp only [pt]
      refine tkH (i := 9) (v := ?rB9v) (y := (Or.inl ⟨by rfl, ?rB9y⟩)) (h := ?rB9r)
      case rB9y => (intro w hSw; (try dsimp only at hSw); go_simp; try (with_reducible rfl))
      try simp only [pt]
      refine tkH (i := 10) (v := ?rB10v) (y := (Or.inl ⟨by rfl, ?rB10y⟩)) (h := ?rB10r)
      case rB10y => (intro w hSw; (try dsimp only at hSw); go_simp; try (with_reducible rfl))
      try simp only [pt]
      refine tkH (i := 11) (v := ?rB11v) (y := (Or.inl ⟨by rfl, ?rB11y⟩)) (h := ?rB11r)
      case rB11y => (intro w hSw; (try dsimp only at hSw); go_simp; try (with_reducible rfl))
      try simp only [pt]
      refine tkH (i := 12) (v := ?rB12v) (y := (Or.inl ⟨by rfl, ?rB12y⟩)) (h := ?rB12r)
      case rB12y => (intro w hSw; (try dsimp only at hSw); go_simp; try (with_reducible rfl))
      try simp only [pt]
      refine tkH (i := 13) (v := ?rB13v) (y := (Or.inl ⟨by rfl, ?rB13y⟩)) (h := ?rB13r)
      case rB13y => (intro w hSw; (try dsimp only at hSw); go_simp; try (with_reducible rfl))
      try simp only [pt]
      refine tkH (i := 14) (v := ?rB14v) (y := (Or.inl ⟨by rfl, ?rB14y⟩)) (h := ?rB14r)
      case rB14y => (intro w hSw; (try dsimp only at hSw); go_simp; try (with_reducible rfl))
      try simp only [pt]
      refine tkH (i := 15) (v := ?rB15v) (y := (Or.inl ⟨by rfl, ?rB15y⟩)) (h := ?rB15r)
      case rB15y => (intro w hSw; (try dsimp only at hSw); go_simp; try (with_reducible rfl))
      try simp only [pt]
      refine tkH (i := 16) (v := ?rB16v) (y := (Or.inl ⟨by rfl, ?rB16y⟩)) (h := ?rB16r)
      case rB16y => (intro w hSw; (try dsimp only at hSw); go_simp; try (with_reducible rfl))
      try simp only [pt]
      refine tkH (i := 17) (v := ?rB17v) (y := (Or.inl ⟨by rfl, ?rB17y⟩)) (h := ?rB17r)
      case rB17y => (intro w hSw; (try dsimp only at hSw); go_simp; try (with_reducible rfl))
      try simp only [pt]
      refine tkH (i := 18) (v := ?rB18v) (y := (Or.inl ⟨by rfl, ?rB18y⟩)) (h := ?rB18r)
      case rB18y => (intro w hSw; (try dsimp only at hSw); go_simp; try (with_reducible rfl))
      try simp only [pt]
      refine tkH (i := 19) (v := ?rB19v) (y := (Or.inl ⟨by rfl, ?rB19y⟩)) (h := ?rB19r)
      case rB19y => (intro w hSw; (try dsimp only at hSw); go_simp; try (with_reducible rfl))
      try simp only [pt]
      refine tkH (i := 20) (v := ?rB20v) (y := (Or.inl ⟨by rfl, ?rB20y⟩)) (h := ?rB20r)
      case rB20y => (intro w hSw; (try dsimp only at hSw); go_simp; try (with_reducible rfl))
      try simp only [pt]
      refine tkH (i := 21) (v := _) (y := (Or.inr ⟨by rfl, rfl⟩)) (h := ?_)
      try simp only [pt]
      refine tkH (i := 22) (v := _) (y := (Or.inr ⟨by rfl, rfl⟩)) (h := ?_)
      try simp only [pt]
      refine tkH (i := 23) (v := _) (y := (Or.inr ⟨by rfl, rfl⟩)) (h := ?_)
      try simp only [pt]
      refine tkH (i := 24) (v := _) (y := (Or.inr ⟨by rfl, rfl⟩)) (h := ?_)
      try simp only [pt]
      refine tkH (i := 25) (v := _) (y := (Or.inr ⟨by rfl, rfl⟩)) (h := ?_)
      try simp only [pt]
      refine tkH (i := 26) (v := ?rB26v) (y := (Or.inl ⟨by rfl, ?rB26y⟩)) (h := ?rB26r)
      case rB26y => (intro w hSw; (try dsimp only at hSw); go_simp; try (with_reducible rfl))
      try simp only [pt]
      refine tkH (i := 27) (v := ?rB27v) (y := (Or.inl ⟨by rfl, ?rB27y⟩)) (h := ?rB27r)
      case rB27y => (intro w hSw; (try dsimp only at hSw); go_simp; try (with_reducible rfl))
      try simp only [pt]
      refine tkH (i := 28) (v := _) (y := (Or.inr ⟨by rfl, rfl⟩)) (h := ?_)
      try simp only [pt]
      refine tkH (i := 29) (v := _) (y := (Or.inr ⟨by rfl, rfl⟩)) (h := ?_)
      try simp only [pt]
      refine tkH (i := 30) (v := _) (y := (Or.inr ⟨by rfl, rfl⟩)) (h := ?_)
      try simp only [pt]
      refine tkH (i := 31) (v := _) (y := (Or.inr ⟨by rfl, rfl⟩)) (h := ?_)
      try simp only [pt]
      refine tkH (i := 32) (v := _) (y := (Or.inr ⟨by rfl, rfl⟩)) (h := ?_)
      try simp only [pt]
      refine tkH (i := 33) (v := _) (y := (Or.inr ⟨by rfl, rfl⟩)) (h := ?_)
      try simp only [pt]
      refine tkH (i := 34) (v := ?rB34v) (y := (Or.inl ⟨by rfl, ?rB34y⟩)) (h := ?rB34r)
      case rB34y => (intro w hSw; (try dsimp only at hSw); go_simp; try (with_reducible rfl))
      try simp only [pt]
      refine tkH (i := 35) (v := ?rB35v) (y := (Or.inl ⟨by rfl, ?rB35y⟩)) (h := ?rB35r)
      case rB35y => (intro w hSw; (try dsimp only at hSw); go_simp; try (with_reducible rfl))
      try simp only [pt]
      refine tkH (i := 36) (v := _) (y := (Or.inr ⟨by rfl, rfl⟩)) (h := ?_)
      try simp only [pt]
      refine tkH (i := 37) (v := _) (y := (Or.inr ⟨by rfl, rfl⟩)) (h := ?_)
      try simp only [pt]
      refine tkH (i := 38) (v := _) (y := (Or.inr ⟨by rfl, rfl⟩)) (h := ?_)
      try simp only [pt]
      refine tkH (i := 39) (v := ?rB39v) (y := (Or.inl ⟨by rfl, ?rB39y⟩)) (h := ?rB39r)
      case rB39y => (intro w hSw; (try dsimp only at hSw); go_simp; try (with_reducible rfl))
      try simp only [pt]
      refine tkH (i := 40) (v := ?rB40v) (y := (Or.inl ⟨by rfl, ?rB40y⟩)) (h := ?rB40r)
      case rB40y => (intro w hSw; (try dsimp only at hSw); go_simp; try (with_reducible rfl))
      try simp only [pt]
      refine wpAnyH_done (by kernel_rfl) ?_ _
      go_wp2_with fail
      go_ret
      exact ⟨by rw [HF2.out]; rfl, HB.out.trans (HBx.out.mono (Nat.le_add_right _ 2))⟩
      -- END great
set_option maxRecDepth 100000 in
set_option maxHeartbeats 8000000 in
theorem rgroot_any (b h : Int) (dg : ByteArray) (hdg : dg.size = 32) (ix : Nat) (hix : ix < 256) (Ap Aq : Option Addr) (np nq cp cq B : Nat) (ps qs : List ByteArray) (w : World) (hp : Sl fT w B Ap np ps) (hq : Sl fT w B Aq nq qs) (hB : B ≤ w.heap.size) (hn : np ≤ 300) (hm : nq ≤ 8) (hps : ∀ s ∈ ps, s.size = 32) (hqs : ∀ s ∈ qs, s.size = 32) :
    Calls Tryz.prog 97 #[.agg (cSc b h), .string dg, .agg (cSg ix Ap np cp Aq nq cq)] w fun e w' => ∃ r er, e = .returned (.tuple #[.string r, .int .i64 er]) ∧ (er = 0 ∧ sgF b h ix np nq = true ∧ r = sgR b dg ix ps qs ∨ er = 1 ∧ sgF b h ix np nq = false) ∧ Below w.heap.size w w' := by
  have HFI : Hid (∀ V, Below w.heap.size w V → Calls Tryz.prog 159 #[.agg (cSc b h), .string dg, .agg (cSg ix Ap np cp Aq nq cq)] V fun e w' => e = .returned (.bool (sgF b h ix np nq)) ∧ Below V.heap.size V w') := fun V hb => rfits_any b h dg hdg ix hix Ap Aq np nq cp cq B ps qs V (hp.up hb hB) (hq.up hb hB) (Nat.le_trans hB hb.size) hn hm hps hqs
  obtain ⟨W1, hW1⟩ : ∃ W1 : World, W1 = (w.alloc (.cells (cSc b h) 26)).alloc (.cells (cSg (ix : Int) Ap np cp Aq nq cq) 33) := ⟨_, rfl⟩
  have hsz : W1.heap.size = w.heap.size + 2 := by rw [hW1]; simp
  have hge : W1.heap[w.heap.size]? = some (.cells (cSc b h) 26 (0, 0)) := by
    rw [hW1]
    exact (Below.heap_alloc _ _ _ (by simp)).trans (heap_alloc_new w _)
  have hge2 : W1.heap[w.heap.size + 1]? = some (.cells (cSg (ix : Int) Ap np cp Aq nq cq) 33 (0, 0)) := by
    rw [hW1]
    have := heap_alloc_new (w.alloc (.cells (cSc b h) 26)) (.cells (cSg (ix : Int) Ap np cp Aq nq cq) 33)
    simpa using this
  have HC : Hid (∀ V, Below (w.heap.size + 2) W1 V → V.cell? ⟨w.heap.size, 0, none⟩ = some (.int .i64 b) ∧ V.cell? ⟨w.heap.size, 1, none⟩ = some (.int .i64 h) ∧ V.cell? ⟨w.heap.size + 1, 0, none⟩ = some (.int .i64 (ix : Int)) ∧ V.cell? ⟨w.heap.size + 1, 1, none⟩ = some (.slice Ap np cp) ∧ V.cell? ⟨w.heap.size + 1, 2, none⟩ = some (.slice Aq nq cq)) := fun V hv => by
    have q := (hv.block w.heap.size (by omega)).trans hge
    have q2 := (hv.block (w.heap.size + 1) (by omega)).trans hge2
    refine ⟨?_, ?_, ?_, ?_, ?_⟩
    · rw [cell_of_row V _ _ _ _ _ q]; rfl
    · rw [cell_of_row V _ _ _ _ _ q]; rfl
    · rw [cell_of_row V _ _ _ _ _ q2]; rfl
    · rw [cell_of_row V _ _ _ _ _ q2]; rfl
    · rw [cell_of_row V _ _ _ _ _ q2]; rfl
  have HB : Hid (Below w.heap.size w W1) := by
    show Below ..
    rw [hW1]
    exact ((Below.refl _ _).alloc (Nat.le_refl _) _).alloc (by simp) _
  have HS := Lib.hid hsz
  have HWE := Lib.hid hW1
  have HB1 : Hid (Below (w.heap.size + 2) W1 W1) := Below.refl _ _
  clear hge hge2 hsz hW1
  have HFC := Lib.hid (HFI.out W1 HB.out)
  obtain ⟨c0, c1, c2, c3, c4⟩ := HC.out W1 HB1.out
  rcases Bool.eq_false_or_eq_true (sgF b h ix np nq) with hf | hf
  rotate_left
  · rw [hf] at HFC
    have HF0 := Lib.hid hf
    clear hp hq hps hqs HFI hf
    go_enter Tryz.func97, Tryz.ntmps97
    go_upto_region 1 with fail
    rw [← HWE.out]
    go_wp2_with (go_at_call 159; (with_reducible refine HFC.out.mono ?_); rintro e w4 ⟨rfl, hb4⟩; (have HB4 := Lib.hid (HB.out.trans (hb4.mono HB.out.size))); clear hb4)
    go_ret2
    exact ⟨_, _, rfl, Or.inr ⟨rfl, HF0.out⟩, HB4.out⟩
  · rw [hf] at HFC
    have HF0 := Lib.hid hf
    have hfF : (sgOk b h && (decide (ix < 2 ^ h.toNat) && (decide ((nq : Int) = h) && decide (np = mN b.toNat + cN b.toNat)))) = true := hf
    simp only [Bool.and_eq_true, decide_eq_true_eq] at hfF
    obtain ⟨hok, _, _, hT⟩ := hfF
    obtain ⟨hbit, _, _⟩ := sgOk_bit hok
    have HQ : Hid (∀ V, Below (w.heap.size + 2) W1 V → Sl fT V B Aq nq qs ∧ Sl fT V B Ap np ps ∧ B ≤ V.heap.size) := fun V hv => ⟨(hq.up HB.out hB).up hv (Nat.le_trans hB (Nat.le_add_right _ 2)), (hp.up HB.out hB).up hv (Nat.le_trans hB (Nat.le_add_right _ 2)), Nat.le_trans (Nat.le_trans hB HB.out.size) (HS.out ▸ hv.size : W1.heap.size ≤ V.heap.size)⟩
    have HPR := Lib.hid (fun W => rgpar_any b h W)
    have HRC : Hid (∀ V, Below (w.heap.size + 2) W1 V → Calls Tryz.prog 161 #[.agg (cPm b), .string dg, .slice Ap np cp] V fun e w' => e = .returned (.string (pubF b.toNat (dgF b.toNat (sB dg)) ps)) ∧ Below V.heap.size V w') := fun V hv => rrecover_any b b.toNat hbit dg hdg Ap np cp B ps V (HQ.out V hv).2.1 (HQ.out V hv).2.2 hT hps
    obtain ⟨pk, hpk⟩ : ∃ z, pubF b.toNat (dgF b.toNat (sB dg)) ps = z := ⟨_, rfl⟩
    have hpk32 : pk.size = 32 := by rw [← hpk]; unfold pubF; rw [← sB_len, baOf_sB (shaB_byt _), shaB_len]
    have HRR : Hid (sgR b dg ix ps qs = clF (leafS (sB pk)) ix qs) := by show _ = _; rw [← hpk]; rfl
    rw [hpk] at HRC
    have HPK := Lib.hid hpk32
    obtain ⟨L, hL⟩ : ∃ L, leafS (sB pk) = L := ⟨_, rfl⟩
    have hL32 : L.size = 32 := by rw [← hL]; exact leafS_size2 _
    have HLF : Hid (∀ (V : World) A' c', Below (w.heap.size + 2) W1 V → Sl fB V V.heap.size A' pk.size (sB pk) → Calls Tryz.prog 157 #[.slice A' pk.size c'] V fun e w' => e = .returned (.string L) ∧ Below V.heap.size V w') := fun V A' c' hv hs => hL ▸ rleaf_any A' pk.size c' V.heap.size (sB pk) V hs (Nat.le_refl _) (by rw [HPK.out]; omega) (sB_rng pk)
    rw [hL] at HRR
    have HCL : Hid (∀ V, Below (w.heap.size + 2) W1 V → Calls Tryz.prog 160 #[.string L, .int .i64 ix, .slice Aq nq cq] V fun e w' => e = .returned (.string (clF L ix qs)) ∧ Below V.heap.size V w') := fun V hv => rclimb_any L hL32 ix hix Aq nq cq B qs V (HQ.out V hv).1 (HQ.out V hv).2.2 hm hqs
    obtain ⟨rt, hrt⟩ : ∃ r, clF L ix qs = r := ⟨_, rfl⟩
    rw [hrt] at HCL HRR
    clear hp hq hps hqs HFI hf hok hbit hT hpk hpk32 hL hL32 hrt
    go_enter Tryz.func97, Tryz.ntmps97
    go_upto_region 1 with fail
    rw [← HWE.out]
    go_wp2_with (go_at_call 159; (with_reducible refine HFC.out.mono ?_); rintro e w4 ⟨rfl, hb4⟩; (have HBx : Hid (Below (w.heap.size + 2) W1 w4) := Below.mono hb4 (Nat.le_of_eq HS.out.symm)); (obtain ⟨c0, c1, c2, c3, c4⟩ := HC.out w4 HBx.out); clear hb4)
    refine wp_region_held_drew (S := (fun w' => w'.cell? ⟨w.heap.size, 0, none⟩ = some (.int .i64 b) ∧ w'.cell? ⟨w.heap.size, 1, none⟩ = some (.int .i64 h) ∧ w'.cell? ⟨w.heap.size + 1, 0, none⟩ = some (.int .i64 (ix : Int)) ∧ w'.cell? ⟨w.heap.size + 1, 1, none⟩ = some (.slice Ap np cp) ∧ w'.cell? ⟨w.heap.size + 1, 2, none⟩ = some (.slice Aq nq cq))) (by kernel_rfl) (by first | exact HC.out _ HBx.out | exact HC.out _ HB1.out | exact HC.out _ (by repeat (first | exact HBx.out | exact HB1.out | exact Below.refl _ _ | refine Below.drew ?_ | refine below_dN' ?_ _ | refine below_drewN' ?_ _)) | go_keep) (fun hHeld => ?_)
    refine tkH (i := 0) (v := ?s0v) (y := (Or.inl ⟨by rfl, ?s0y⟩)) (h := ?s0r)
    case s0y => (intro w hSw; (try dsimp only at hSw); go_simp; try (with_reducible rfl))
    try simp only [pt]
    refine tkH (i := 2) (v := ?s1v) (y := (Or.inl ⟨by rfl, ?s1y⟩)) (h := ?s1r)
    case s1y => (intro w hSw; (try dsimp only at hSw); go_simp; try (with_reducible rfl))
    try simp only [pt]
    refine tkH (i := 3) (v := ?s2v) (y := (Or.inl ⟨by rfl, ?s2y⟩)) (h := ?s2r)
    case s2y => (intro w hSw; (try dsimp only at hSw); go_simp; try (with_reducible rfl))
    try simp only [pt]
    refine tkH (i := 4) (v := ?s3v) (y := (Or.inl ⟨by rfl, ?s3y⟩)) (h := ?s3r)
    case s3y => (intro w hSw; (try dsimp only at hSw); go_simp; try (with_reducible rfl))
    try simp only [pt]
    refine tkH (i := 8) (v := ?s4v) (y := (Or.inl ⟨by rfl, ?s4y⟩)) (h := ?s4r)
    case s4y => (intro w hSw; (try dsimp only at hSw); go_simp; try (with_reducible rfl))
    try simp only [pt]
    refine tkH (i := 9) (v := ?s5v) (y := (Or.inl ⟨by rfl, ?s5y⟩)) (h := ?s5r)
    case s5y => (intro w hSw; (try dsimp only at hSw); go_simp; try (with_reducible rfl))
    try simp only [pt]
    refine tkH (i := 10) (v := ?s6v) (y := (Or.inl ⟨by rfl, ?s6y⟩)) (h := ?s6r)
    case s6y => (intro w hSw; (try dsimp only at hSw); go_simp; try (with_reducible rfl))
    try simp only [pt]
    refine tkH (i := 11) (v := ?s7v) (y := (Or.inl ⟨by rfl, ?s7y⟩)) (h := ?s7r)
    case s7y => (intro w hSw; (try dsimp only at hSw); go_simp; try (with_reducible rfl))
    try simp only [pt]
    refine wpAnyH_ready (rs := [1]) (by kernel_rfl) (by simp) ?_
    refine AllReadyH.cons (by simp only [List.getElem?_toArray, List.getElem?_cons_succ, List.getElem?_cons_zero]; rfl) (fun K hK => ?_) (AllReadyH.nil)
    (go_simp; go_at_call 162; (with_reducible refine (HPR.out _).mono ?_); rintro e w5 ⟨rfl, hb5⟩; (have HBx : Hid (Below (w.heap.size + 2) W1 w5) := Below.trans (B := w.heap.size + 2) (by repeat (first | exact HBx.out | refine Below.drew ?_ | refine below_dN' ?_ _ | refine below_drewN' ?_ _)) (Below.mono hb5 (HS.out ▸ HBx.out.size))); clear hb5; go_wp2_with fail)
    refine hK.out _ _ (by first | exact HC.out _ HBx.out | exact HC.out _ HB1.out | exact HC.out _ (by repeat (first | exact HBx.out | exact HB1.out | exact Below.refl _ _ | refine Below.drew ?_ | refine below_dN' ?_ _ | refine below_drewN' ?_ _)) | go_keep) (fun hHelds8 => ?_)
    clear hK K hHeld
    try simp only [pt]
    refine wpAnyH_ready (rs := [5]) (by kernel_rfl) (by simp) ?_
    refine AllReadyH.cons (by simp only [List.getElem?_toArray, List.getElem?_cons_succ, List.getElem?_cons_zero]; rfl) (fun K hK => ?_) (AllReadyH.nil)
    (go_simp; go_at_call 161; (with_reducible refine (HRC.out _ HBx.out).mono ?_); rintro e w6 ⟨rfl, hb6⟩; (have HBx : Hid (Below (w.heap.size + 2) W1 w6) := HBx.out.trans (Below.mono hb6 (HS.out ▸ HBx.out.size))); clear hb6; go_wp2_with fail)
    refine hK.out _ _ (by first | exact HC.out _ HBx.out | exact HC.out _ HB1.out | exact HC.out _ (by repeat (first | exact HBx.out | exact HB1.out | exact Below.refl _ _ | refine Below.drew ?_ | refine below_dN' ?_ _ | refine below_drewN' ?_ _)) | go_keep) (fun hHelds9 => ?_)
    clear hK K hHelds8
    try simp only [pt]
    refine wpAnyH_ready (rs := [6]) (by kernel_rfl) (by simp) ?_
    refine AllReadyH.cons (by simp only [List.getElem?_toArray, List.getElem?_cons_succ, List.getElem?_cons_zero]; rfl) (fun K hK => ?_) (AllReadyH.nil)
    ((refine step_conv_sb (.tmp 18) rfl rfl pk rfl ?_); intro cb W8 hsl hcb hbl; (have HBx : Hid (Below (w.heap.size + 2) W1 W8) := HBx.out.trans (Below.mono hbl.out (HS.out ▸ HBx.out.size))); (have HLC := Lib.hid (HLF.out W8 _ cb HBx.out hsl.out)); clear hsl hcb hbl)
    refine hK.out _ _ (by first | exact HC.out _ HBx.out | exact HC.out _ HB1.out | exact HC.out _ (by repeat (first | exact HBx.out | exact HB1.out | exact Below.refl _ _ | refine Below.drew ?_ | refine below_dN' ?_ _ | refine below_drewN' ?_ _)) | go_keep) (fun hHelds10 => ?_)
    clear hK K hHelds9
    try simp only [pt]
    refine wpAnyH_ready (rs := [7]) (by kernel_rfl) (by simp) ?_
    refine AllReadyH.cons (by simp only [List.getElem?_toArray, List.getElem?_cons_succ, List.getElem?_cons_zero]; rfl) (fun K hK => ?_) (AllReadyH.nil)
    (go_simp; go_at_call 157; (with_reducible refine HLC.out.mono ?_); rintro e w9 ⟨rfl, hb9⟩; (have HBx : Hid (Below (w.heap.size + 2) W1 w9) := HBx.out.trans (Below.mono hb9 (HS.out ▸ HBx.out.size))); clear hb9; go_wp2_with fail)
    refine hK.out _ _ (by first | exact HC.out _ HBx.out | exact HC.out _ HB1.out | exact HC.out _ (by repeat (first | exact HBx.out | exact HB1.out | exact Below.refl _ _ | refine Below.drew ?_ | refine below_dN' ?_ _ | refine below_drewN' ?_ _)) | go_keep) (fun hHelds11 => ?_)
    clear hK K hHelds10
    try simp only [pt]
    refine wpAnyH_ready (rs := [12]) (by kernel_rfl) (by simp) ?_
    refine AllReadyH.cons (by simp only [List.getElem?_toArray, List.getElem?_cons_succ, List.getElem?_cons_zero]; rfl) (fun K hK => ?_) (AllReadyH.nil)
    (go_simp; go_at_call 160; (with_reducible refine (HCL.out _ HBx.out).mono ?_); rintro e w10 ⟨rfl, hb10⟩; (have HBx : Hid (Below (w.heap.size + 2) W1 w10) := HBx.out.trans (Below.mono hb10 (HS.out ▸ HBx.out.size))); clear hb10; go_wp2_with fail)
    refine hK.out _ _ (by first | exact HC.out _ HBx.out | exact HC.out _ HB1.out | exact HC.out _ (by repeat (first | exact HBx.out | exact HB1.out | exact Below.refl _ _ | refine Below.drew ?_ | refine below_dN' ?_ _ | refine below_drewN' ?_ _)) | go_keep) (fun hHelds12 => ?_)
    clear hK K hHelds11
    try simp only [pt]
    refine tkH (i := 13) (v := ?s13v) (y := (Or.inl ⟨by rfl, ?s13y⟩)) (h := ?s13r)
    case s13y => (intro w hSw; (try dsimp only at hSw); go_simp; try (with_reducible rfl))
    try simp only [pt]
    refine tkH (i := 14) (v := ?s14v) (y := (Or.inl ⟨by rfl, ?s14y⟩)) (h := ?s14r)
    case s14y => (intro w hSw; (try dsimp only at hSw); go_simp; try (with_reducible rfl))
    try simp only [pt]
    refine wpAnyH_done (by kernel_rfl) ?_ _
    go_wp2_with fail
    go_ret2
    exact ⟨_, _, rfl, Or.inl ⟨rfl, HF0.out, HRR.out.symm⟩, HB.out.trans (HBx.out.mono (Nat.le_add_right _ 2))⟩
end Go.Proofs.YtpdledjgbgalcaaGreatDoor
