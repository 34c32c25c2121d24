/- The reference's public key of parts. -/
import Derived.Test.YtpdledjgbgalcaaGreatDoorPg
namespace Go.Proofs.YtpdledjgbgalcaaGreatDoor
open Go.RowKit Go.Lib
set_option linter.unusedVariables false
set_option linter.unusedSimpArgs false
abbrev pbL : List Int := [112, 117, 98, 108, 105, 99]
theorem pbL_eq : sB "public".toUTF8 = pbL := by decide +kernel
/-- The greatest digit, as a number. -/
theorem bit_M {b : Int} {β : Nat} (hb : BitN b β) : ∃ M : Nat, 2 ^ β - 1 = M ∧ 1 ≤ M ∧ M ≤ 15 ∧ bsF β = (M : Int) + 1 ∧ lsF β = (M : Int) ∧ (2 ^ β : Nat) = M + 1 := by
  rcases hb with ⟨_, rfl⟩ | ⟨_, rfl⟩ | ⟨_, rfl⟩
  · exact ⟨1, rfl, by omega, by omega, rfl, rfl, rfl⟩
  · exact ⟨3, rfl, by omega, by omega, rfl, rfl, rfl⟩
  · exact ⟨15, rfl, by omega, by omega, rfl, rfl, rfl⟩
theorem endsF_size (β : Nat) (ds : List Int) (ps : List ByteArray) (h : ∀ s ∈ ps, s.size = 32) (n : Nat) (hn : n ≤ ps.length) : ∀ s ∈ endsF β ds ps n, s.size = 32 := by
  intro s hs
  unfold endsF at hs
  obtain ⟨i, hi, rfl⟩ := List.mem_map.1 hs
  rw [List.mem_range] at hi
  refine chF_size _ _ _ ?_ _
  rw [List.getD_eq_getElem?_getD, List.getElem?_eq_getElem (by omega)]
  exact h _ (List.getElem_mem _)
theorem jnL_len32 (ps : List ByteArray) (h : ∀ s ∈ ps, s.size = 32) : (jnL ps).length = 32 * ps.length := by
  induction ps with
  | nil => rfl
  | cons a t ih =>
    rw [show jnL (a :: t) = sB a ++ jnL t from rfl, List.length_append, sB_len, h a List.mem_cons_self, ih (fun s hs => h s (List.mem_cons_of_mem _ hs)), List.length_cons]
    omega
set_option maxRecDepth 100000 in
set_option maxHeartbeats 8000000 in
theorem rends_any (b : Int) (β : Nat) (hb : BitN b β) (Ad Ap : Option Addr) (nd np cd cp Bd : Nat) (ds : List Int) (ps : List ByteArray) (w : World) (hd : Sl I w Bd Ad nd ds) (hp : Sl fT w Bd Ap np ps) (hB : Bd ≤ w.heap.size) (hn : np = nd) (hn3 : np ≤ 300) (hdr : ∀ d ∈ ds, 0 ≤ d ∧ d ≤ 2 ^ β - 1) (hps : ∀ s ∈ ps, s.size = 32) :
    Calls Tryz.prog 207 #[.agg (cPm b), .slice Ad nd cd, .slice Ap np cp] w fun e w' => e = .returned (.string (baOf (pbL ++ jnL (endsF β ds ps np)))) ∧ Below w.heap.size w w' := by
  obtain ⟨M, hM1, hM2, hM3, hM4, hM5, hM6⟩ := bit_M hb
  have hpw : ((2 : Int) ^ β) = ((2 ^ β : Nat) : Int) := by simp
  have HDR : Hid (∀ d ∈ ds, 0 ≤ d ∧ d ≤ (M : Int)) := fun d h => by
    have := hdr d h
    rw [hpw, hM6] at this
    omega
  have HL := Lib.hid (fun W => rbase_any b β hb W)
  rw [hM4] at HL
  have hwm : IntKind.i64.wrap (M : Int) = M := IntWalk.i64_in _ (by omega)
  have HB : Hid (Below w.heap.size w (w.alloc (.cells (cPm b) 233))) := (Below.refl _ _).alloc (Nat.le_refl _) _
  obtain ⟨W1, hW1⟩ : ∃ W1 : World, W1 = w.alloc (.cells (cPm b) 233) := ⟨_, rfl⟩
  have hsz : W1.heap.size = w.heap.size + 1 := by rw [hW1]; simp
  have hge : W1.heap[w.heap.size]? = some (.cells (cPm b) 233 (0, 0)) := by rw [hW1]; exact heap_alloc_new w _
  have HC : Hid (∀ V, Below (w.heap.size + 1) W1 V → V.cell? ⟨w.heap.size, 0, none⟩ = some (.int .i64 b) ∧ V.cell? ⟨w.heap.size, 1, none⟩ = some (.int .i64 32)) := fun V hv => by
    have q := (hv.block w.heap.size (Nat.lt_succ_self _)).trans hge
    refine ⟨?_, ?_⟩ <;> (rw [cell_of_row V _ _ _ _ _ q]; rfl)
  rw [← hW1] at HB
  have HS := Lib.hid hsz
  have HWE := Lib.hid hW1
  have HB1 : Hid (Below (w.heap.size + 1) W1 W1) := Below.refl _ _
  clear hge hsz hW1
  have HD : Hid (∀ V, Below (w.heap.size + 1) W1 V → Sl I V Bd Ad nd ds ∧ Sl fT V Bd Ap np ps) := fun V hv => ⟨(hd.up HB.out hB).up hv (Nat.le_succ_of_le hB), (hp.up HB.out hB).up hv (Nat.le_succ_of_le hB)⟩
  have HPS := Lib.hid hps
  have HDL : Hid (ds.length = nd) := hd.1
  have HPL : Hid (ps.length = np) := hp.1
  have HM1 := Lib.hid hM1
  have HN := Lib.hid hn
  have HES : Hid (∀ k, k ≤ np → (endsF β ds ps k).length = k ∧ ∀ s ∈ endsF β ds ps k, s.size = 32) := fun k hk => ⟨endsF_len _ _ _ _, endsF_size β ds ps hps k (by rw [hp.1]; exact hk)⟩
  have HU0 : Hid (baOf (pbL ++ jnL (endsF β ds ps 0)) = ⟨#[112, 117, 98, 108, 105, 99]⟩) := by show baOf (pbL ++ jnL []) = _; decide +kernel
  clear hd hp hdr hps hM1 hM4 hM5 hM6 hpw hb hn
  go_enter Tryz.func207, Tryz.ntmps207
  go_upto_region 1 with fail
  rw [← HWE.out]
  go_upto_region 3 with fail
  go_loopw [7, 11] (fun u i wr => ∃ (k : Nat) (y : ByteArray), k ≤ np ∧ i = .int .i64 k ∧ u = .string y ∧ Hid (baOf (pbL ++ jnL (endsF β ds ps k)) = y) ∧ Hid (Below (w.heap.size + 1) W1 wr)) (fun _ i _ => np - (intOf i).toNat)
  case atStart => exact ⟨0, _, by omega, rfl, rfl, HU0, HB1⟩
  case round =>
    clear HU0 HB1
    obtain ⟨k, y, hk, rfl, rfl, HY, HBr⟩ := hrel
    by_cases hlt : k < np
    · have hkI : (k : Int) < (np : Int) := by omega
      have hkd : (k : Int) < (nd : Int) := by rw [← HN.out]; exact hkI
      have hk0 : (0 : Int) ≤ (k : Int) := by omega
      obtain ⟨bd, od, dI, hAd, _, hgd, _⟩ := (HD.out wr HBr.out).1.2.at_ (k := k) (by rw [HDL.out, ← HN.out]; exact hlt)
      obtain ⟨bp, op, x, hAp, _, hgp, _⟩ := (HD.out wr HBr.out).2.2.at_ (k := k) (by rw [HPL.out]; exact hlt)
      obtain ⟨d, rfl⟩ : ∃ d : Nat, dI = (d : Int) := ⟨dI.toNat, by have := (HDR.out dI (List.mem_of_getElem? hgd)).1; omega⟩
      have hdM : d ≤ M := by have := (HDR.out _ (List.mem_of_getElem? hgd)).2; omega
      have hx32 : x.size = 32 := HPS.out x (List.mem_of_getElem? hgp)
      have HK : Hid (∀ V, Below (w.heap.size + 1) W1 V → V.cell? ⟨w.heap.size, 0, none⟩ = some (.int .i64 b) ∧ V.cell? ⟨w.heap.size, 1, none⟩ = some (.int .i64 32) ∧ V.cell? ⟨bd, od + k, none⟩ = some (.int .i64 (d : Int)) ∧ V.cell? ⟨bp, op + k, none⟩ = some (.string x)) := fun V hv => by
        obtain ⟨c0, c1⟩ := HC.out V hv
        obtain ⟨b2, o2, x2, e2, _, g2, k2⟩ := (HD.out V hv).1.2.at_ (k := k) (by rw [HDL.out, ← HN.out]; exact hlt)
        obtain ⟨b3, o3, x3, e3, _, g3, k3⟩ := (HD.out V hv).2.2.at_ (k := k) (by rw [HPL.out]; exact hlt)
        rw [hAd] at e2
        cases e2
        rw [hAp] at e3
        cases e3
        rw [hgd] at g2
        cases g2
        rw [hgp] at g3
        cases g3
        exact ⟨c0, c1, k2, k3⟩
      have HCH := Lib.hid (fun W => rchain_any k d M (by omega) hdM (by omega) x hx32 W)
      have HNX : Hid (baOf (pbL ++ jnL (endsF β ds ps (k + 1))) = y ++ chF k d (M - d) x) := by
        show _ = _
        apply ba_eqU
        have hb0 : ∀ l, Byt (pbL ++ jnL l) := fun l z hz => by
          rcases List.mem_append.1 hz with hz | hz
          · (rcases List.mem_cons.1 hz with rfl | hz; · omega); (rcases List.mem_cons.1 hz with rfl | hz; · omega); (rcases List.mem_cons.1 hz with rfl | hz; · omega); (rcases List.mem_cons.1 hz with rfl | hz; · omega); (rcases List.mem_cons.1 hz with rfl | hz; · omega); (rcases List.mem_cons.1 hz with rfl | hz; · omega); cases hz
          · exact jnL_byt _ z hz
        rw [sB_app, ← HY.out, baOf_sB (hb0 _), baOf_sB (hb0 _), endsF_succ, jnL_snoc, List.append_assoc, getD_of hgd, getD_of hgp, HM1.out]
        rfl
      have hysz : y.size ≤ 10000 := by
        have h1 := HES.out k hk
        have h2 := jnL_len32 _ h1.2
        rw [h1.1] at h2
        have hb0 : Byt (pbL ++ jnL (endsF β ds ps k)) := fun z hz => by
          rcases List.mem_append.1 hz with hz | hz
          · (rcases List.mem_cons.1 hz with rfl | hz; · omega); (rcases List.mem_cons.1 hz with rfl | hz; · omega); (rcases List.mem_cons.1 hz with rfl | hz; · omega); (rcases List.mem_cons.1 hz with rfl | hz; · omega); (rcases List.mem_cons.1 hz with rfl | hz; · omega); (rcases List.mem_cons.1 hz with rfl | hz; · omega); cases hz
          · exact jnL_byt _ z hz
        rw [← HY.out, baOf_len hb0, List.length_append, h2]
        show 6 + _ ≤ _
        omega
      have hcsz := chF_size k d x hx32 (M - d)
      obtain ⟨cv, hcv⟩ : ∃ c, chF k d (M - d) x = c := ⟨_, rfl⟩
      rw [hcv] at HCH HNX hcsz
      have hll : ¬ 9223372036854775807 < y.size + cv.size := by omega
      have HBc := HBr
      subst hAd
      subst hAp
      clear hgd hgp hx32 hcsz hcv hysz
      go_upto_region 5 with fail
      refine wp_region_held_drew (S := (fun w' => w'.cell? ⟨w.heap.size, 0, none⟩ = some (.int .i64 b) ∧ w'.cell? ⟨w.heap.size, 1, none⟩ = some (.int .i64 32) ∧ w'.cell? ⟨bd, od + k, none⟩ = some (.int .i64 (d : Int)) ∧ w'.cell? ⟨bp, op + k, none⟩ = some (.string x))) (by kernel_rfl) (by first | exact HK.out _ HBd.out | exact HK.out _ HBc.out | exact HK.out _ (by repeat (first | exact HBr.out | exact Below.refl _ _ | refine Below.drew ?_ | refine below_dN' ?_ _ | refine below_drewN' ?_ _)) | go_keep) (fun hHeld => ?_)
      refine tkH (i := 0) (v := ?q0v) (y := (Or.inl ⟨by rfl, ?q0y⟩)) (h := ?q0r)
      case q0y => (intro w hSw; (try dsimp only at hSw); go_simp; try (with_reducible rfl))
      try simp only [pt]
      refine tkH (i := 1) (v := ?q1v) (y := (Or.inl ⟨by rfl, ?q1y⟩)) (h := ?q1r)
      case q1y => (intro w hSw; (try dsimp only at hSw); go_simp; try (with_reducible rfl))
      try simp only [pt]
      refine tkH (i := 2) (v := ?q2v) (y := (Or.inl ⟨by rfl, ?q2y⟩)) (h := ?q2r)
      case q2y => (intro w hSw; (try dsimp only at hSw); go_simp; try (with_reducible rfl))
      try simp only [pt]
      refine tkH (i := 3) (v := ?q3v) (y := (Or.inl ⟨by rfl, ?q3y⟩)) (h := ?q3r)
      case q3y => (intro w hSw; (try dsimp only at hSw); go_simp; try (with_reducible rfl))
      try simp only [pt]
      refine tkH (i := 4) (v := ?q4v) (y := (Or.inl ⟨by rfl, ?q4y⟩)) (h := ?q4r)
      case q4y => (intro w hSw; (try dsimp only at hSw); go_simp; try (with_reducible rfl))
      try simp only [pt]
      refine tkH (i := 5) (v := ?q5v) (y := (Or.inl ⟨by rfl, ?q5y⟩)) (h := ?q5r)
      case q5y => (intro w hSw; (try dsimp only at hSw); go_simp; try (with_reducible rfl))
      try simp only [pt]
      refine tkH (i := 6) (v := ?q6v) (y := (Or.inl ⟨by rfl, ?q6y⟩)) (h := ?q6r)
      case q6y => (intro w hSw; (try dsimp only at hSw); go_simp; try (with_reducible rfl))
      try simp only [pt]
      refine tkH (i := 9) (v := ?q7v) (y := (Or.inl ⟨by rfl, ?q7y⟩)) (h := ?q7r)
      case q7y => (intro w hSw; (try dsimp only at hSw); go_simp; try (with_reducible rfl))
      try simp only [pt]
      refine tkH (i := 10) (v := ?q8v) (y := (Or.inl ⟨by rfl, ?q8y⟩)) (h := ?q8r)
      case q8y => (intro w hSw; (try dsimp only at hSw); go_simp; try (with_reducible rfl))
      try simp only [pt]
      refine tkH (i := 11) (v := ?q9v) (y := (Or.inl ⟨by rfl, ?q9y⟩)) (h := ?q9r)
      case q9y => (intro w hSw; (try dsimp only at hSw); go_simp; try (with_reducible rfl))
      try simp only [pt]
      refine tkH (i := 12) (v := ?q10v) (y := (Or.inl ⟨by rfl, ?q10y⟩)) (h := ?q10r)
      case q10y => (intro w hSw; (try dsimp only at hSw); go_simp; try (with_reducible rfl))
      try simp only [pt]
      refine wpAnyH_ready (rs := [7]) (by kernel_rfl) (by simp) ?_
      refine AllReadyH.cons (by simp only [List.getElem?_toArray, List.getElem?_cons_succ, List.getElem?_cons_zero]; rfl) (fun K hK => ?_) (AllReadyH.nil)
      (go_simp; go_at_call 250; (with_reducible refine (HL.out _).mono ?_); rintro e w4 ⟨rfl, hb4⟩; (have HBc : Hid (Below (w.heap.size + 1) W1 w4) := HBr.out.trans (Below.mono (Below.trans (B := wr.heap.size) (by repeat (first | exact Below.refl _ _ | refine Below.drew ?_ | refine below_dN' ?_ _ | refine below_drewN' ?_ _)) hb4) (HS.out ▸ HBr.out.size))); clear hb4; go_wp2_with fail)
      refine hK.out _ _ (by first | exact HK.out _ HBd.out | exact HK.out _ HBc.out | exact HK.out _ (by repeat (first | exact HBr.out | exact Below.refl _ _ | refine Below.drew ?_ | refine below_dN' ?_ _ | refine below_drewN' ?_ _)) | go_keep) (fun hHeldq11 => ?_)
      clear hK K hHeld
      try simp only [pt]
      refine tkH (i := 8) (v := ?q12v) (y := (Or.inl ⟨by rfl, ?q12y⟩)) (h := ?q12r)
      case q12y => (intro w hSw; (try dsimp only at hSw); go_simp; try (with_reducible rfl))
      try simp only [pt]
      refine wpAnyH_ready (rs := [13]) (by kernel_rfl) (by simp) ?_
      refine AllReadyH.cons (by simp only [List.getElem?_toArray, List.getElem?_cons_succ, List.getElem?_cons_zero]; rfl) (fun K hK => ?_) (AllReadyH.nil)
      (go_simp; go_at_call 249; (with_reducible refine (HCH.out _).mono ?_); rintro e w5 ⟨rfl, hb5⟩; (have HBd : Hid (Below (w.heap.size + 1) W1 w5) := HBc.out.trans (hb5.mono (HS.out ▸ HBc.out.size))); clear hb5; go_wp2_with fail)
      refine hK.out _ _ (by first | exact HK.out _ HBd.out | exact HK.out _ HBc.out | exact HK.out _ (by repeat (first | exact HBr.out | exact Below.refl _ _ | refine Below.drew ?_ | refine below_dN' ?_ _ | refine below_drewN' ?_ _)) | go_keep) (fun hHeldq13 => ?_)
      clear hK K hHeldq11
      try simp only [pt]
      refine tkH (i := 14) (v := ?q14v) (y := (Or.inl ⟨by rfl, ?q14y⟩)) (h := ?q14r)
      case q14y => (intro w hSw; (try dsimp only at hSw); go_simp; try (with_reducible rfl))
      try simp only [pt]
      refine tkH (i := 15) (v := ?q15v) (y := (Or.inl ⟨by rfl, ?q15y⟩)) (h := ?q15r)
      case q15y => (intro w hSw; (try dsimp only at hSw); go_simp; try (with_reducible rfl))
      try simp only [pt]
      refine wpAnyH_done (by kernel_rfl) ?_ _
      go_wp2_with fail
      refine ⟨?rel, ?measure⟩
      case rel => exact ⟨k + 1, y ++ cv, by omega, by go_num, rfl, HNX, HBd⟩
      case measure => (simp [intOf] <;> omega)
    · obtain rfl : k = np := by omega
      go_wp2
      go_ret
      exact ⟨by rw [← HY.out]; rfl, HB.out.trans (HBr.out.mono (Nat.le_succ _))⟩
theorem rcheck_any (b : Int) (β : Nat) (hb : BitN b β) (w : World) : Calls Tryz.prog 248 #[.agg (cPm b)] w fun e w' => e = .returned (.int .i64 (cNI β)) ∧ Below w.heap.size w w' := by
  rcases hb with ⟨rfl, rfl⟩ | ⟨rfl, rfl⟩ | ⟨rfl, rfl⟩
  · exact rcheck_1 w
  · exact rcheck_2 w
  · exact rcheck_4 w
theorem bit_T {b : Int} {β : Nat} (hb : BitN b β) : ∃ T : Nat, mN β + cN β = T ∧ 60 ≤ T ∧ T ≤ 265 ∧ mNI β + cNI β = (T : Int) := by
  rcases hb with ⟨_, rfl⟩ | ⟨_, rfl⟩ | ⟨_, rfl⟩
  · exact ⟨265, rfl, by omega, by omega, rfl⟩
  · exact ⟨133, rfl, by omega, by omega, rfl⟩
  · exact ⟨67, rfl, by omega, by omega, rfl⟩
set_option maxRecDepth 100000 in
set_option maxHeartbeats 8000000 in
theorem rparts_any (b : Int) (β : Nat) (hb : BitN b β) (A : Option Addr) (n c B : Nat) (ps : List ByteArray) (w : World) (hp : Sl fT w B A n ps) (hB : B ≤ w.heap.size) (hn : n ≤ 1000) (hps : ∀ s ∈ ps, s.size = 32) :
    Calls Tryz.prog 206 #[.agg (cPm b), .slice A n c] w fun e w' => e = .returned (.bool ((n : Int) == ((mN β + cN β : Nat) : Int))) ∧ Below w.heap.size w w' := by
  obtain ⟨T, hT1, hT2, hT3, hT4⟩ := bit_T hb
  rw [hT1]
  have HM := Lib.hid (fun W => rmain_any b β hb W)
  have HK := Lib.hid (fun W => rcheck_any b β hb W)
  obtain ⟨m, hm⟩ : ∃ m, mNI β = m := ⟨_, rfl⟩
  obtain ⟨k0, hk0⟩ : ∃ m, cNI β = m := ⟨_, rfl⟩
  rw [hm] at HM hT4
  rw [hk0] at HK hT4
  have hwt : IntKind.i64.wrap (m + k0) = (T : Int) := by rw [hT4]; exact IntWalk.i64_in _ (by omega)
  have HPS := Lib.hid hps
  have HB : Hid (Below w.heap.size w (w.alloc (.cells (cPm b) 233))) := (Below.refl _ _).alloc (Nat.le_refl _) _
  obtain ⟨W1, hW1⟩ : ∃ W1 : World, W1 = w.alloc (.cells (cPm b) 233) := ⟨_, rfl⟩
  have hsz : W1.heap.size = w.heap.size + 1 := by rw [hW1]; simp
  have hge : W1.heap[w.heap.size]? = some (.cells (cPm b) 233 (0, 0)) := by rw [hW1]; exact heap_alloc_new w _
  have HC : Hid (∀ V, Below (w.heap.size + 1) W1 V → V.cell? ⟨w.heap.size, 0, none⟩ = some (.int .i64 b) ∧ V.cell? ⟨w.heap.size, 1, none⟩ = some (.int .i64 32)) := fun V hv => by
    have q := (hv.block w.heap.size (Nat.lt_succ_self _)).trans hge
    refine ⟨?_, ?_⟩ <;> (rw [cell_of_row V _ _ _ _ _ q]; rfl)
  rw [← hW1] at HB
  have HS := Lib.hid hsz
  have HWE := Lib.hid hW1
  have HB1 : Hid (Below (w.heap.size + 1) W1 W1) := Below.refl _ _
  clear hge hsz hW1
  have HP : Hid (∀ V, Below (w.heap.size + 1) W1 V → Sl fT V B A n ps) := fun V hv => (hp.up HB.out hB).up hv (Nat.le_succ_of_le hB)
  have HPL : Hid (ps.length = n) := hp.1
  clear hp hps hT1 hT4 hm hk0
  go_enter Tryz.func206, Tryz.ntmps206
  go_upto_region 1 with fail
  rw [← HWE.out]
  go_upto_region 2 with fail
  go_loopw [9] (fun i wr => (∃ k : Nat, k ≤ n ∧ i = .int .i64 k) ∧ W1 = wr) (fun i _ => n - (intOf i).toNat)
  case atStart => exact ⟨⟨0, by omega, rfl⟩, rfl⟩
  case round =>
    obtain ⟨⟨k, hk, rfl⟩, rfl⟩ := hrel
    by_cases hlt : k < n
    · have hkI : (k : Int) < (n : Int) := by omega
      have hkz : (0 : Int) ≤ (k : Int) := by omega
      obtain ⟨bp, op, x, rfl, _, hgp, hc⟩ := (HP.out W1 HB1.out).2.at_ (k := k) (by rw [HPL.out]; exact hlt)
      have hx32 : x.size = 32 := HPS.out x (List.mem_of_getElem? hgp)
      have hxI : ((x.size : Int) != 32) = false := by simp [hx32]
      clear hgp hx32
      go_wp2
      refine ⟨?rel, ?measure⟩
      case rel => exact ⟨⟨k + 1, by omega, by go_num⟩, by first | rfl | trivial⟩
      case measure => (simp [intOf] <;> omega)
    · obtain rfl : k = n := by omega
      obtain ⟨c0, c1⟩ := HC.out W1 HB1.out
      have HBc := HB1
      go_wp2_with fail
      go_region_held3 (fun w' => w'.cell? ⟨w.heap.size, 0, none⟩ = some (.int .i64 b) ∧ w'.cell? ⟨w.heap.size, 1, none⟩ = some (.int .i64 32)) (first | exact HC.out _ HBc.out | go_keep) (first
        | (go_at_call 247; (with_reducible (refine (HM.out _).mono ?_)); rintro e w4 ⟨rfl, hb4⟩; (have HBc := Lib.hid (HBc.out.trans (Below.mono (Below.trans (by repeat (first | exact Below.refl _ _ | refine Below.drew ?_ | refine below_drewN' ?_ _)) hb4) (HS.out ▸ HBc.out.size)))); clear hb4)
        | (go_at_call 248; (with_reducible (refine (HK.out _).mono ?_)); rintro e w4 ⟨rfl, hb4⟩; (have HBc := Lib.hid (HBc.out.trans (Below.mono (Below.trans (by repeat (first | exact Below.refl _ _ | refine Below.drew ?_ | refine below_drewN' ?_ _)) hb4) (HS.out ▸ HBc.out.size)))); clear hb4))
      go_wp2
      go_ret
      exact ⟨rfl, HB.out.trans (HBc.out.mono (Nat.le_succ _))⟩
theorem step_conv_sb {w : World} {ops : Array Oper} {o : Oper} {a : Act} {K : Act → World → Prop} {Q : Exit → Act → World → Prop} {E : Prop} (x : Operand) (ho : o.op = .convert 9 40 x) (hgd : o.guard = none) (s : ByteArray) (hx : a.eval x = .string s)
    (h : ∀ c W, Hid (Sl fB W W.heap.size (some ⟨w.heap.size, 0, none⟩) s.size (sB s)) → Hid (s.size ≤ c) → Hid (Below w.heap.size w W) → K (a.put o.dst (.slice (some ⟨w.heap.size, 0, none⟩) s.size c)) W) : if Region.wanted o (yielded ops a.tmps) = true then Oper.wp Tryz.prog o a w K Q else E := by
  have hw : Region.wanted o (yielded ops a.tmps) = true := by simp [Region.wanted, hgd]
  rw [if_pos hw]
  unfold Oper.wp execOp
  simp only [ho, hx, Sem.run_bind, run_bytes_of_string (P := Tryz.prog) w 9 40 5 s Tryz.underlying9 Tryz.underlying40 Tryz.underlying5, Result.andThen_ok]
  refine h _ _ (sl_bytesRowU (heap_alloc_new w.drew _) (by simp)) (grownCap_ge w s.size 0 _) ?_
  exact (Below.drew (Below.refl _ _)).alloc (Nat.le_refl _) _
set_option maxRecDepth 100000 in
set_option maxHeartbeats 8000000 in
theorem rrecover_any (b : Int) (β : Nat) (hb : BitN b β) (s : ByteArray) (hs : s.size = 32) (A : Option Addr) (n c B : Nat) (ps : List ByteArray) (w : World) (hp : Sl fT w B A n ps) (hB : B ≤ w.heap.size) (hn : n = mN β + cN β) (hps : ∀ s ∈ ps, s.size = 32) :
    Calls Tryz.prog 161 #[.agg (cPm b), .string s, .slice A n c] w fun e w' => e = .returned (.string (pubF β (dgF β (sB s)) ps)) ∧ Below w.heap.size w w' := by
  obtain ⟨T, hT1, hT2, hT3, hT4⟩ := bit_T hb
  have HD := Lib.hid (fun W => rdigits_any b β hb s hs W)
  have hpl : ps.length = n := hp.1
  have HE : Hid (∀ W v, Below w.heap.size w W → Own I 3 W w.heap.size v (dgF β (sB s)) → ∃ Ad cd, v = .slice Ad n cd ∧ Calls Tryz.prog 207 #[.agg (cPm b), .slice Ad n cd, .slice A n c] W fun e w' => e = .returned (.string (baOf (pbL ++ jnL (endsF β (dgF β (sB s)) ps n)))) ∧ Below W.heap.size W w') := fun W v hb1 ho => by
    obtain ⟨Ad, cd, hv, _, hs1, _⟩ := ho.shape
    rw [dgF_len, ← hn] at hv
    exact ⟨Ad, cd, hv, rends_any b β hb Ad A n n cd c W.heap.size _ ps W ⟨by rw [dgF_len, hn], hs1⟩ ((hp.up hb1 hB).more' (Nat.le_trans hB hb1.size)) (Nat.le_refl _) rfl (by omega) (dgF_rng β _) hps⟩
  have hsz : ∀ z ∈ endsF β (dgF β (sB s)) ps n, z.size = 32 := endsF_size β _ ps hps n (by omega)
  have hln := jnL_len32 _ hsz
  rw [endsF_len] at hln
  have hbyt : Byt (pbL ++ jnL (endsF β (dgF β (sB s)) ps n)) := fun z hz => by
    rcases List.mem_append.1 hz with hz | hz
    · (rcases List.mem_cons.1 hz with rfl | hz; · omega); (rcases List.mem_cons.1 hz with rfl | hz; · omega); (rcases List.mem_cons.1 hz with rfl | hz; · omega); (rcases List.mem_cons.1 hz with rfl | hz; · omega); (rcases List.mem_cons.1 hz with rfl | hz; · omega); (rcases List.mem_cons.1 hz with rfl | hz; · omega); cases hz
    · exact jnL_byt _ z hz
  have HV : Hid (pubF β (dgF β (sB s)) ps = baOf (shaB (pbL ++ jnL (endsF β (dgF β (sB s)) ps n)))) := by
    show _ = _
    unfold pubF
    rw [pbL_eq, hpl]
  have HZL : Hid ((pbL ++ jnL (endsF β (dgF β (sB s)) ps n)).length ≤ 10000) := by
    show _ ≤ _
    rw [List.length_append, hln]
    show 6 + _ ≤ _
    omega
  obtain ⟨zs, hzs⟩ : ∃ zs, pbL ++ jnL (endsF β (dgF β (sB s)) ps n) = zs := ⟨_, rfl⟩
  rw [hzs] at HE HV HZL hbyt
  have HSB : Hid (sB (baOf zs) = zs) := baOf_sB hbyt
  have HZB := Lib.hid hbyt
  have HZS : Hid ((baOf zs).size ≤ 10000) := by show _ ≤ _; rw [baOf_len hbyt]; exact HZL.out
  obtain ⟨zt, hzt⟩ : ∃ zt, baOf zs = zt := ⟨_, rfl⟩
  rw [hzt] at HE HSB HZS
  rw [HV.out]
  obtain ⟨rs, hrs⟩ : ∃ r, baOf (shaB zs) = r := ⟨_, rfl⟩
  have HSU : Hid (∀ (W : World) A' c', Sl fB W W.heap.size A' zt.size (sB zt) → Calls Tryz.prog 123 #[.slice A' zt.size c'] W fun e w' => e = .returned (.string rs) ∧ Below W.heap.size W w') := fun W A' c' h => hrs ▸ rsum_any A' _ c' W.heap.size zs W (HSB.out ▸ h) (Nat.le_refl _) (Nat.le_trans HZS.out (by omega)) hbyt
  rw [hrs]
  have HB : Hid (Below w.heap.size w (w.alloc (.cells (cPm b) 233))) := (Below.refl _ _).alloc (Nat.le_refl _) _
  obtain ⟨W1, hW1⟩ : ∃ W1 : World, W1 = w.alloc (.cells (cPm b) 233) := ⟨_, rfl⟩
  have hsz : W1.heap.size = w.heap.size + 1 := by rw [hW1]; simp
  have hge : W1.heap[w.heap.size]? = some (.cells (cPm b) 233 (0, 0)) := by rw [hW1]; exact heap_alloc_new w _
  have HC : Hid (∀ V, Below (w.heap.size + 1) W1 V → V.cell? ⟨w.heap.size, 0, none⟩ = some (.int .i64 b) ∧ V.cell? ⟨w.heap.size, 1, none⟩ = some (.int .i64 32)) := fun V hv => by
    have q := (hv.block w.heap.size (Nat.lt_succ_self _)).trans hge
    refine ⟨?_, ?_⟩ <;> (rw [cell_of_row V _ _ _ _ _ q]; rfl)
  rw [← hW1] at HB
  have HS := Lib.hid hsz
  have HWE := Lib.hid hW1
  have HB1 : Hid (Below (w.heap.size + 1) W1 W1) := Below.refl _ _
  clear hge hsz hW1
  clear hp hB hn hps hT1 hT2 hT3 hT4 hpl hsz hln hbyt hzs hzt hrs hb hs
  go_enter Tryz.func161, Tryz.ntmps161
  go_upto_region 1 with fail
  rw [← HWE.out]
  obtain ⟨c0, c1⟩ := HC.out W1 HB1.out
  go_wp2_with fail
  refine wp_region_held_drew (S := (fun w' => w'.cell? ⟨w.heap.size, 0, none⟩ = some (.int .i64 b) ∧ w'.cell? ⟨w.heap.size, 1, none⟩ = some (.int .i64 32))) (by kernel_rfl) (by first | exact HC.out _ HBx.out | exact HC.out _ HB1.out | go_keep) (fun hHeld => ?_)
  refine tkH (i := 0) (v := ?r0v) (y := (Or.inl ⟨by rfl, ?r0y⟩)) (h := ?r0r)
  case r0y => (intro w hSw; (try dsimp only at hSw); go_simp; try (with_reducible rfl))
  try simp only [pt]
  refine tkH (i := 1) (v := ?r1v) (y := (Or.inl ⟨by rfl, ?r1y⟩)) (h := ?r1r)
  case r1y => (intro w hSw; (try dsimp only at hSw); go_simp; try (with_reducible rfl))
  try simp only [pt]
  refine tkH (i := 2) (v := ?r2v) (y := (Or.inl ⟨by rfl, ?r2y⟩)) (h := ?r2r)
  case r2y => (intro w hSw; (try dsimp only at hSw); go_simp; try (with_reducible rfl))
  try simp only [pt]
  refine tkH (i := 4) (v := ?r3v) (y := (Or.inl ⟨by rfl, ?r3y⟩)) (h := ?r3r)
  case r3y => (intro w hSw; (try dsimp only at hSw); go_simp; try (with_reducible rfl))
  try simp only [pt]
  refine wpAnyH_ready (rs := [3]) (by kernel_rfl) (by simp) ?_
  refine AllReadyH.cons (by simp only [List.getElem?_toArray, List.getElem?_cons_succ, List.getElem?_cons_zero]; rfl) (fun K hK => ?_) (AllReadyH.nil)
  (go_simp; go_at_call 208; (with_reducible refine (HD.out _).mono ?_); rintro e w4 ⟨v4, rfl, ho4, hb4⟩; (have HBx : Hid (Below (w.heap.size + 1) W1 w4) := Below.trans (B := w.heap.size + 1) (by repeat (first | exact Below.refl _ _ | refine Below.drew ?_ | refine below_dN' ?_ _ | refine below_drewN' ?_ _)) (Below.mono hb4 (Nat.le_of_eq HS.out.symm))); (obtain ⟨Ad, cd, rfl, hce⟩ := HE.out w4 v4 (HB.out.trans (HBx.out.mono (Nat.le_succ _))) (ownsRow_down ho4 (by show _ ≤ W1.heap.size; rw [HS.out]; omega))); (have HCE := Lib.hid hce); clear ho4 hb4 hce; go_wp2_with fail)
  refine hK.out _ _ (by first | exact HC.out _ HBx.out | exact HC.out _ HB1.out | go_keep) (fun hHeldr4 => ?_)
  clear hK K hHeld
  try simp only [pt]
  refine wpAnyH_ready (rs := [5]) (by kernel_rfl) (by simp) ?_
  refine AllReadyH.cons (by simp only [List.getElem?_toArray, List.getElem?_cons_succ, List.getElem?_cons_zero]; rfl) (fun K hK => ?_) (AllReadyH.nil)
  (go_simp; go_at_call 207; (with_reducible refine HCE.out.mono ?_); rintro e w5 ⟨rfl, hb5⟩; (have HBx : Hid (Below (w.heap.size + 1) W1 w5) := HBx.out.trans (Below.mono hb5 (HS.out ▸ HBx.out.size))); clear hb5; go_wp2_with fail)
  refine hK.out _ _ (by first | exact HC.out _ HBx.out | exact HC.out _ HB1.out | go_keep) (fun hHeldr5 => ?_)
  clear hK K hHeldr4
  try simp only [pt]
  refine wpAnyH_ready (rs := [6]) (by kernel_rfl) (by simp) ?_
  refine AllReadyH.cons (by simp only [List.getElem?_toArray, List.getElem?_cons_succ, List.getElem?_cons_zero]; rfl) (fun K hK => ?_) (AllReadyH.nil)
  ((refine step_conv_sb (.tmp 12) rfl rfl zt rfl ?_); intro cb W6 hsl hcb hbl; (have HBx : Hid (Below (w.heap.size + 1) W1 W6) := HBx.out.trans (Below.mono hbl.out (HS.out ▸ HBx.out.size))); (have HC6 := Lib.hid (HSU.out W6 _ cb hsl.out)); clear hsl hcb hbl)
  refine hK.out _ _ (by first | exact HC.out _ HBx.out | exact HC.out _ HB1.out | go_keep) (fun hHeldr6 => ?_)
  clear hK K hHeldr5
  try simp only [pt]
  refine wpAnyH_ready (rs := [7]) (by kernel_rfl) (by simp) ?_
  refine AllReadyH.cons (by simp only [List.getElem?_toArray, List.getElem?_cons_succ, List.getElem?_cons_zero]; rfl) (fun K hK => ?_) (AllReadyH.nil)
  (go_simp; go_at_call 123; (with_reducible refine HC6.out.mono ?_); rintro e w7 ⟨rfl, hb7⟩; (have HBx : Hid (Below (w.heap.size + 1) W1 w7) := HBx.out.trans (Below.mono hb7 (HS.out ▸ HBx.out.size))); clear hb7; go_wp2_with fail)
  refine hK.out _ _ (by first | exact HC.out _ HBx.out | exact HC.out _ HB1.out | go_keep) (fun hHeldr7 => ?_)
  clear hK K hHeldr6
  try simp only [pt]
  refine tkH (i := 8) (v := ?r8v) (y := (Or.inl ⟨by rfl, ?r8y⟩)) (h := ?r8r)
  case r8y => (intro w hSw; (try dsimp only at hSw); go_simp; try (with_reducible rfl))
  try simp only [pt]
  refine wpAnyH_done (by kernel_rfl) ?_ _
  go_wp2_with fail
  go_ret
  exact ⟨rfl, HB.out.trans (HBx.out.mono (Nat.le_succ _))⟩
end Go.Proofs.YtpdledjgbgalcaaGreatDoor
