/- The reference's Verify of a piece. -/
import Derived.Test.YtpdledjgbgalcaaGreatDoorU6
namespace Go.Proofs.YtpdledjgbgalcaaGreatDoor
open Go.RowKit Go.Lib
set_option linter.unusedVariables false
set_option linter.unusedSimpArgs false
set_option maxRecDepth 100000 in
theorem psum_any (A : Option Addr) (n c B : Nat) (xs : List Int) (w : World) (hc : n ≤ c) (hx : Sl fB w B A n xs) (hB : B ≤ w.heap.size) (h0 : 0 < n) (hl : n ≤ 65536) (hxb : Byt xs) :
    Calls Tryz.prog 64 #[.slice A n c] w fun e w' => e = .returned (.string (rootF 256 (blkU (xs.length + 1) xs))) ∧ Below w.heap.size w w' := by
  have HC := Lib.hid (rof_any A n c B xs w hc hx hB h0 hl hxb)
  clear hx hxb
  go_enter Tryz.func64, Tryz.ntmps64
  go_wp2_with (go_at_call 122; (with_reducible refine HC.out.mono ?_); rintro e w1 ⟨rfl, hb1⟩; (have HB1 := Lib.hid hb1); clear hb1)
  go_ret
  exact ⟨rfl, HB1.out⟩
set_option maxRecDepth 100000 in
set_option maxHeartbeats 8000000 in
theorem gverify_any (s : ByteArray) (ix : Int) (A A' : Option Addr) (n c m c' B : Nat) (xs : List Int) (ys : List ByteArray) (w : World) (hc : n ≤ c) (hc' : m ≤ c') (hx : Sl fB w B A n xs) (hy : Sl fT w B A' m ys) (hB : B ≤ w.heap.size) (hn : n ≤ 1000000) (hm : m ≤ 1000000) (hxb : Byt xs) :
    Calls Tryz.prog 49 #[.agg #[.string s, .int .i64 ix, .slice A n c, .slice A' m c']] w fun e w' => e = .returned (.bool (vrB s ix xs ys)) ∧ Below w.heap.size w w' := by
  have hxl : xs.length = n := hx.1
  have hyl : ys.length = m := hy.1
  obtain ⟨W1, hW1⟩ : ∃ W1 : World, W1 = w.alloc (.cells #[.string s, .int .i64 ix, .slice A n c, .slice A' m c'] 42) := ⟨_, rfl⟩
  have hb1 : Below w.heap.size w W1 := by rw [hW1]; exact (Below.refl _ _).alloc (Nat.le_refl _) _
  have hg1 : W1.heap[w.heap.size]? = some (.cells #[.string s, .int .i64 ix, .slice A n c, .slice A' m c'] 42 (0, 0)) := by rw [hW1]; exact heap_alloc_new w _
  have HK : Hid (∀ V, Below W1.heap.size W1 V → V.cell? ⟨w.heap.size, 0, none⟩ = some (.string s) ∧ V.cell? ⟨w.heap.size, 1, none⟩ = some (.int .i64 ix) ∧ V.cell? ⟨w.heap.size, 2, none⟩ = some (.slice A n c) ∧ V.cell? ⟨w.heap.size, 3, none⟩ = some (.slice A' m c')) := fun V hb => by
    have q := (hb.block _ (lt_of_block hg1)).trans hg1
    refine ⟨?_, ?_, ?_, ?_⟩ <;> (rw [cell_of_row V _ _ _ _ _ q]; rfl)
  have HB1 := Lib.hid hb1
  have HWE := Lib.hid hW1
  obtain ⟨k0, k1, k2, k3⟩ := HK.out W1 (Below.refl _ _)
  have HY : Hid (∀ V, Below W1.heap.size W1 V → Sl fT V B A' m ys) := fun V hb => (hy.up hb1 hB).up hb (Nat.le_trans hB hb1.size)
  have HPS : Hid (0 < n → n ≤ 65536 → ∀ V, Below W1.heap.size W1 V → Calls Tryz.prog 64 #[.slice A n c] V fun e w' => e = .returned (.string (rootF 256 (blkU (xs.length + 1) xs))) ∧ Below V.heap.size V w') := fun h0 hl V hb => psum_any A n c B xs V hc ((hx.up hb1 hB).up hb (Nat.le_trans hB hb1.size)) (Nat.le_trans (Nat.le_trans hB hb1.size) hb.size) h0 hl hxb
  have HRO : Hid (1 ≤ m → m ≤ 16 → al32 ys = true → ∀ V, Below W1.heap.size W1 V → Calls Tryz.prog 65 #[.slice A' m c'] V fun e w' => e = .returned (.string (rootF 256 ys)) ∧ Below V.heap.size V w') := fun h1 h2 h3 V hb => rroot_any 256 A' m c' B ys V (HY.out V hb) (Nat.le_trans (Nat.le_trans hB hb1.size) hb.size) hc' (by omega) h1 (by omega) (al32_iff.1 h3)
  have HV : Hid (vrB s ix xs ys = (decide (s.size = 32 ∧ (1 ≤ ys.length ∧ ys.length ≤ 16)) && (al32 ys && (decide ((0 ≤ ix ∧ ix < (ys.length : Int)) ∧ (1 ≤ xs.length ∧ xs.length ≤ 65536)) && (decide (some (rootF 256 (blkU (xs.length + 1) xs)) = ys[ix.toNat]?) && decide (rootF 256 ys = s)))))) := rfl
  have HYL := Lib.hid hyl
  rw [hxl, hyl] at HV
  rw [hxl] at HPS
  obtain ⟨rd, hrd⟩ : ∃ r, rootF 256 (blkU (n + 1) xs) = r := ⟨_, rfl⟩
  obtain ⟨rs, hrs⟩ : ∃ r, rootF 256 ys = r := ⟨_, rfl⟩
  rw [hrd] at HPS HV
  rw [hrs] at HRO HV
  clear hx hxb hW1 hb1 hg1 hB hrd hrs hy hxl hyl
  have c0 : m = 0 ∨ 1 ≤ m := by omega
  by_cases c1 : s.size = 32
  · by_cases c3 : m ≤ 16
    · by_cases c4 : 0 ≤ ix
      · by_cases c5 : ix < (m : Int)
        · have c2 : 1 ≤ m := by omega
          by_cases c6 : 1 ≤ n
          · by_cases c7 : n ≤ 65536
            · -- PART main
              have q1 : decide (s.size = 32 ∧ 1 ≤ m ∧ m ≤ 16) = true := by simp [c1, c2, c3]
              have q2 : decide ((0 ≤ ix ∧ ix < (m : Int)) ∧ 1 ≤ n ∧ n ≤ 65536) = true := by simp [c4, c5, c6, c7]
              rw [q1, q2, Bool.true_and, Bool.true_and] at HV
              have HPS2 := Lib.hid (HPS.out c6 c7)
              have HRO2 := Lib.hid (HRO.out c2 c3)
              obtain ⟨b1, o1, x, hA1, _, hg, _⟩ := (HY.out W1 (Below.refl _ _)).2.at_ (k := ix.toNat) (by rw [HYL.out]; omega)
              rw [hg] at HV
              have HXC : Hid (∀ V, Below W1.heap.size W1 V → V.cell? ⟨b1, o1 + ix.toNat, none⟩ = some (.string x)) := fun V hb => by
                obtain ⟨b2, o2, x2, e2, _, hg2, hc2⟩ := (HY.out V hb).2.at_ (k := ix.toNat) (by rw [HYL.out]; omega)
                rw [hA1] at e2
                cases e2
                rw [hg] at hg2
                cases hg2
                exact hc2
              subst hA1
              (try (have g1 : ((s.size : Int) != 32) = false := by simp [c1])); (try (have g1 : ((s.size : Int) != 32) = true := (by simp; omega)));(try (have g3 : (16 : Int) < (m : Int) := by omega)); (try (have g3 : ¬ (16 : Int) < (m : Int) := by omega));(try (have g4 : ix < 0 := by omega)); (try (have g4 : ¬ ix < 0 := by omega));(try (have g5 : (m : Int) ≤ ix := by omega)); (try (have g5 : ¬ (m : Int) ≤ ix := by omega));(try (have g6 : (n : Int) < 1 := by omega)); (try (have g6 : ¬ (n : Int) < 1 := by omega));(try (have g7 : (65536 : Int) < (n : Int) := by omega)); (try (have g7 : ¬ (65536 : Int) < (n : Int) := by omega))
              have HBx : Hid (Below W1.heap.size W1 W1) := Below.refl _ _
              clear q1 q2 HPS HRO c1 c3 hg
              have HPS := HPS2
              go_enter Tryz.func49, Tryz.ntmps49
              go_upto_region 1 with fail
              rw [← HWE.out]
              go_upto_region 4 with fail
              go_loopw [46] (fun i wr => (∃ k : Nat, k ≤ m ∧ i = .int .i64 k ∧ Hid (∀ j, j < k → ∀ z, ys[j]? = some z → z.size = 32)) ∧ W1 = wr) (fun i _ => m - (intOf i).toNat)
              case atStart => exact ⟨⟨0, by omega, rfl, fun j hj => absurd hj (by omega)⟩, rfl⟩
              case round =>
                obtain ⟨⟨k, hk, rfl, HKK⟩, rfl⟩ := hrel
                by_cases hlt : k < m
                · obtain ⟨b2, o2, y, hA2, _, hgy, hcy⟩ := (HY.out W1 (Below.refl _ _)).2.at_ (k := k) (by rw [HYL.out]; exact hlt)
                  cases hA2
                  have hkI : (k : Int) < (m : Int) := by omega
                  have hk0 : (0 : Int) ≤ (k : Int) := by omega
                  by_cases hs : y.size = 32
                  · have hsI : ((y.size : Int) != 32) = false := by simp [hs]
                    have HK2 : Hid (∀ j, j < k + 1 → ∀ z, ys[j]? = some z → z.size = 32) := fun j hj z h => by
                      rcases Nat.lt_or_ge j k with c | c
                      · exact HKK.out j c z h
                      · obtain rfl : j = k := by omega
                        rw [hgy] at h; cases h; exact hs
                    clear hgy hs
                    go_wp2
                    refine ⟨?rel, ?measure⟩
                    case rel => exact ⟨⟨k + 1, by omega, by go_num, HK2⟩, by first | rfl | trivial⟩
                    case measure => (simp [intOf] <;> omega)
                  · have hsI : ((y.size : Int) != 32) = true := by simp; omega
                    have HN : Hid (vrB s ix xs ys = false) := by
                      show _ = _
                      rw [HV.out]
                      have : al32 ys = false := by
                        rw [Bool.eq_false_iff]
                        intro h
                        exact hs (al32_iff.1 h y (List.mem_of_getElem? hgy))
                      rw [this]
                      rfl
                    clear hgy hs
                    go_wp2
                    go_ret
                    exact ⟨by rw [HN.out]; rfl, HB1.out⟩
                · obtain rfl : m = k := by omega
                  have hal : al32 ys = true := by
                    rw [al32_iff]
                    intro z h
                    obtain ⟨j, hj, he⟩ := List.mem_iff_getElem?.1 h |> fun ⟨j, hj⟩ => (⟨j, (List.getElem?_eq_some_iff.1 hj).1, hj⟩ : ∃ j, j < ys.length ∧ ys[j]? = some z)
                    exact HKK.out j (by have := HYL.out; omega) z he
                  have HRR := Lib.hid (HRO2.out hal)
                  rw [hal, Bool.true_and] at HV
                  have HVM : Hid (vrB s ix xs ys = (decide (rd = x) && decide (rs = s))) := by
                    show _ = _
                    rw [HV.out]
                    simp
                  clear hal HV
                  cases hrx : decide (rd = x) with
                  | false =>
                    -- PART noteq
                    have hne : ¬ rd = x := of_decide_eq_false hrx
                    have hne2 : ¬ x = rd := fun h => hne h.symm
                    have hbx : (x.toList == rd.toList) = false := by rw [← beqD, decide_eq_false hne2]
                    go_upto_region 9 with fail
                    refine wp_region_held_drew (S := (fun w' => w'.cell? ⟨w.heap.size, 0, none⟩ = some (.string s) ∧ w'.cell? ⟨w.heap.size, 1, none⟩ = some (.int .i64 ix) ∧ w'.cell? ⟨w.heap.size, 2, none⟩ = some (.slice A n c) ∧ w'.cell? ⟨w.heap.size, 3, none⟩ = some (.slice (some ⟨b1, o1, none⟩) m c') ∧ w'.cell? ⟨b1, o1 + ix.toNat, none⟩ = some (.string x))) (by kernel_rfl) (by exact ⟨(HK.out _ (by repeat (first | exact HBx.out | exact Below.refl _ _ | refine Below.drew ?_ | refine below_dN' ?_ _ | refine below_drewN' ?_ _))).1, (HK.out _ (by repeat (first | exact HBx.out | exact Below.refl _ _ | refine Below.drew ?_ | refine below_dN' ?_ _ | refine below_drewN' ?_ _))).2.1, (HK.out _ (by repeat (first | exact HBx.out | exact Below.refl _ _ | refine Below.drew ?_ | refine below_dN' ?_ _ | refine below_drewN' ?_ _))).2.2.1, (HK.out _ (by repeat (first | exact HBx.out | exact Below.refl _ _ | refine Below.drew ?_ | refine below_dN' ?_ _ | refine below_drewN' ?_ _))).2.2.2, HXC.out _ (by repeat (first | exact HBx.out | exact Below.refl _ _ | refine Below.drew ?_ | refine below_dN' ?_ _ | refine below_drewN' ?_ _))⟩) (fun hHeld => ?_)
                    refine tkH (i := 0) (v := ?kA0v) (y := (Or.inl ⟨by rfl, ?kA0y⟩)) (h := ?kA0r)
                    case kA0y => (intro w hSw; (try dsimp only at hSw); go_simp; try (with_reducible rfl))
                    try simp only [pt]
                    refine tkH (i := 1) (v := ?kA1v) (y := (Or.inl ⟨by rfl, ?kA1y⟩)) (h := ?kA1r)
                    case kA1y => (intro w hSw; (try dsimp only at hSw); (obtain ⟨q0, q1, q2, q3, q4⟩ := hSw); go_simp; try (with_reducible rfl))
                    try simp only [pt]
                    refine tkH (i := 2) (v := ?kA2v) (y := (Or.inl ⟨by rfl, ?kA2y⟩)) (h := ?kA2r)
                    case kA2y => (intro w hSw; (try dsimp only at hSw); go_simp; try (with_reducible rfl))
                    try simp only [pt]
                    refine tkH (i := 3) (v := ?kA3v) (y := (Or.inl ⟨by rfl, ?kA3y⟩)) (h := ?kA3r)
                    case kA3y => (intro w hSw; (try dsimp only at hSw); go_simp; try (with_reducible rfl))
                    try simp only [pt]
                    refine tkH (i := 4) (v := ?kA4v) (y := (Or.inl ⟨by rfl, ?kA4y⟩)) (h := ?kA4r)
                    case kA4y => (intro w hSw; (try dsimp only at hSw); (obtain ⟨q0, q1, q2, q3, q4⟩ := hSw); go_simp; try (with_reducible rfl))
                    try simp only [pt]
                    refine tkH (i := 5) (v := ?kA5v) (y := (Or.inl ⟨by rfl, ?kA5y⟩)) (h := ?kA5r)
                    case kA5y => (intro w hSw; (try dsimp only at hSw); go_simp; try (with_reducible rfl))
                    try simp only [pt]
                    refine tkH (i := 6) (v := ?kA6v) (y := (Or.inl ⟨by rfl, ?kA6y⟩)) (h := ?kA6r)
                    case kA6y => (intro w hSw; (try dsimp only at hSw); (obtain ⟨q0, q1, q2, q3, q4⟩ := hSw); go_simp; try (with_reducible rfl))
                    try simp only [pt]
                    refine tkH (i := 7) (v := ?kA7v) (y := (Or.inl ⟨by rfl, ?kA7y⟩)) (h := ?kA7r)
                    case kA7y => (intro w hSw; (try dsimp only at hSw); go_simp; try (with_reducible rfl))
                    try simp only [pt]
                    refine tkH (i := 8) (v := ?kA8v) (y := (Or.inl ⟨by rfl, ?kA8y⟩)) (h := ?kA8r)
                    case kA8y => (intro w hSw; (try dsimp only at hSw); (obtain ⟨q0, q1, q2, q3, q4⟩ := hSw); go_simp; try (with_reducible rfl))
                    try simp only [pt]
                    refine wpAnyH_ready (rs := [9]) (by kernel_rfl) (by simp) ?_
                    refine AllReadyH.cons (by simp only [List.getElem?_toArray, List.getElem?_cons_succ, List.getElem?_cons_zero]; rfl) (fun K hK => ?_) (AllReadyH.nil)
                    (go_simp; go_at_call 64; (with_reducible refine (HPS.out _ (by repeat (first | exact HBx.out | exact Below.refl _ _ | refine Below.drew ?_ | refine below_dN' ?_ _ | refine below_drewN' ?_ _))).mono ?_); rintro e w5 ⟨rfl, hb5⟩; (have HBx : Hid (Below W1.heap.size W1 w5) := Below.trans (B := W1.heap.size) (by repeat (first | exact HBx.out | exact Below.refl _ _ | refine Below.drew ?_ | refine below_dN' ?_ _ | refine below_drewN' ?_ _)) (hb5.mono (by first | exact HBx.out.size | exact Nat.le_refl _))); clear hb5; go_wp2_with fail)
                    refine hK.out _ _ (by exact ⟨(HK.out _ (by repeat (first | exact HBx.out | exact Below.refl _ _ | refine Below.drew ?_ | refine below_dN' ?_ _ | refine below_drewN' ?_ _))).1, (HK.out _ (by repeat (first | exact HBx.out | exact Below.refl _ _ | refine Below.drew ?_ | refine below_dN' ?_ _ | refine below_drewN' ?_ _))).2.1, (HK.out _ (by repeat (first | exact HBx.out | exact Below.refl _ _ | refine Below.drew ?_ | refine below_dN' ?_ _ | refine below_drewN' ?_ _))).2.2.1, (HK.out _ (by repeat (first | exact HBx.out | exact Below.refl _ _ | refine Below.drew ?_ | refine below_dN' ?_ _ | refine below_drewN' ?_ _))).2.2.2, HXC.out _ (by repeat (first | exact HBx.out | exact Below.refl _ _ | refine Below.drew ?_ | refine below_dN' ?_ _ | refine below_drewN' ?_ _))⟩) (fun hHeldkA9 => ?_)
                    clear hK K hHeld
                    try simp only [pt]
                    refine tkH (i := 10) (v := ?kA10v) (y := (Or.inl ⟨by rfl, ?kA10y⟩)) (h := ?kA10r)
                    case kA10y => (intro w hSw; (try dsimp only at hSw); go_simp; try (with_reducible rfl))
                    try simp only [pt]
                    refine tkH (i := 11) (v := ?kA11v) (y := (Or.inl ⟨by rfl, ?kA11y⟩)) (h := ?kA11r)
                    case kA11y => (intro w hSw; (try dsimp only at hSw); go_simp; try (with_reducible rfl))
                    try simp only [pt]
                    refine tkH (i := 12) (v := _) (y := (Or.inr ⟨by rfl, rfl⟩)) (h := ?_)
                    try simp only [pt]
                    refine tkH (i := 13) (v := _) (y := (Or.inr ⟨by rfl, rfl⟩)) (h := ?_)
                    try simp only [pt]
                    refine tkH (i := 14) (v := _) (y := (Or.inr ⟨by rfl, rfl⟩)) (h := ?_)
                    try simp only [pt]
                    refine tkH (i := 15) (v := _) (y := (Or.inr ⟨by rfl, rfl⟩)) (h := ?_)
                    try simp only [pt]
                    refine tkH (i := 16) (v := _) (y := (Or.inr ⟨by rfl, rfl⟩)) (h := ?_)
                    try simp only [pt]
                    refine tkH (i := 17) (v := _) (y := (Or.inr ⟨by rfl, rfl⟩)) (h := ?_)
                    try simp only [pt]
                    refine tkH (i := 18) (v := _) (y := (Or.inr ⟨by rfl, rfl⟩)) (h := ?_)
                    try simp only [pt]
                    refine tkH (i := 19) (v := ?kA19v) (y := (Or.inl ⟨by rfl, ?kA19y⟩)) (h := ?kA19r)
                    case kA19y => (intro w hSw; (try dsimp only at hSw); go_simp; try (with_reducible rfl))
                    try simp only [pt]
                    refine tkH (i := 20) (v := ?kA20v) (y := (Or.inl ⟨by rfl, ?kA20y⟩)) (h := ?kA20r)
                    case kA20y => (intro w hSw; (try dsimp only at hSw); go_simp; try (with_reducible rfl))
                    try simp only [pt]
                    refine wpAnyH_done (by kernel_rfl) ?_ _
                    go_wp2_with fail
                    go_ret
                    exact ⟨by rw [HVM.out, hrx]; first | rfl | (simp; done), HB1.out.trans (HBx.out.mono HB1.out.size)⟩
                    -- END noteq
                  | true =>
                    -- PART eq
                    obtain rfl : x = rd := (of_decide_eq_true hrx).symm
                    go_upto_region 9 with fail
                    refine wp_region_held_drew (S := (fun w' => w'.cell? ⟨w.heap.size, 0, none⟩ = some (.string s) ∧ w'.cell? ⟨w.heap.size, 1, none⟩ = some (.int .i64 ix) ∧ w'.cell? ⟨w.heap.size, 2, none⟩ = some (.slice A n c) ∧ w'.cell? ⟨w.heap.size, 3, none⟩ = some (.slice (some ⟨b1, o1, none⟩) m c') ∧ w'.cell? ⟨b1, o1 + ix.toNat, none⟩ = some (.string x))) (by kernel_rfl) (by exact ⟨(HK.out _ (by repeat (first | exact HBx.out | exact Below.refl _ _ | refine Below.drew ?_ | refine below_dN' ?_ _ | refine below_drewN' ?_ _))).1, (HK.out _ (by repeat (first | exact HBx.out | exact Below.refl _ _ | refine Below.drew ?_ | refine below_dN' ?_ _ | refine below_drewN' ?_ _))).2.1, (HK.out _ (by repeat (first | exact HBx.out | exact Below.refl _ _ | refine Below.drew ?_ | refine below_dN' ?_ _ | refine below_drewN' ?_ _))).2.2.1, (HK.out _ (by repeat (first | exact HBx.out | exact Below.refl _ _ | refine Below.drew ?_ | refine below_dN' ?_ _ | refine below_drewN' ?_ _))).2.2.2, HXC.out _ (by repeat (first | exact HBx.out | exact Below.refl _ _ | refine Below.drew ?_ | refine below_dN' ?_ _ | refine below_drewN' ?_ _))⟩) (fun hHeld => ?_)
                    refine tkH (i := 0) (v := ?kB0v) (y := (Or.inl ⟨by rfl, ?kB0y⟩)) (h := ?kB0r)
                    case kB0y => (intro w hSw; (try dsimp only at hSw); go_simp; try (with_reducible rfl))
                    try simp only [pt]
                    refine tkH (i := 1) (v := ?kB1v) (y := (Or.inl ⟨by rfl, ?kB1y⟩)) (h := ?kB1r)
                    case kB1y => (intro w hSw; (try dsimp only at hSw); (obtain ⟨q0, q1, q2, q3, q4⟩ := hSw); go_simp; try (with_reducible rfl))
                    try simp only [pt]
                    refine tkH (i := 2) (v := ?kB2v) (y := (Or.inl ⟨by rfl, ?kB2y⟩)) (h := ?kB2r)
                    case kB2y => (intro w hSw; (try dsimp only at hSw); go_simp; try (with_reducible rfl))
                    try simp only [pt]
                    refine tkH (i := 3) (v := ?kB3v) (y := (Or.inl ⟨by rfl, ?kB3y⟩)) (h := ?kB3r)
                    case kB3y => (intro w hSw; (try dsimp only at hSw); go_simp; try (with_reducible rfl))
                    try simp only [pt]
                    refine tkH (i := 4) (v := ?kB4v) (y := (Or.inl ⟨by rfl, ?kB4y⟩)) (h := ?kB4r)
                    case kB4y => (intro w hSw; (try dsimp only at hSw); (obtain ⟨q0, q1, q2, q3, q4⟩ := hSw); go_simp; try (with_reducible rfl))
                    try simp only [pt]
                    refine tkH (i := 5) (v := ?kB5v) (y := (Or.inl ⟨by rfl, ?kB5y⟩)) (h := ?kB5r)
                    case kB5y => (intro w hSw; (try dsimp only at hSw); go_simp; try (with_reducible rfl))
                    try simp only [pt]
                    refine tkH (i := 6) (v := ?kB6v) (y := (Or.inl ⟨by rfl, ?kB6y⟩)) (h := ?kB6r)
                    case kB6y => (intro w hSw; (try dsimp only at hSw); (obtain ⟨q0, q1, q2, q3, q4⟩ := hSw); go_simp; try (with_reducible rfl))
                    try simp only [pt]
                    refine tkH (i := 7) (v := ?kB7v) (y := (Or.inl ⟨by rfl, ?kB7y⟩)) (h := ?kB7r)
                    case kB7y => (intro w hSw; (try dsimp only at hSw); go_simp; try (with_reducible rfl))
                    try simp only [pt]
                    refine tkH (i := 8) (v := ?kB8v) (y := (Or.inl ⟨by rfl, ?kB8y⟩)) (h := ?kB8r)
                    case kB8y => (intro w hSw; (try dsimp only at hSw); (obtain ⟨q0, q1, q2, q3, q4⟩ := hSw); go_simp; try (with_reducible rfl))
                    try simp only [pt]
                    refine wpAnyH_ready (rs := [9]) (by kernel_rfl) (by simp) ?_
                    refine AllReadyH.cons (by simp only [List.getElem?_toArray, List.getElem?_cons_succ, List.getElem?_cons_zero]; rfl) (fun K hK => ?_) (AllReadyH.nil)
                    (go_simp; go_at_call 64; (with_reducible refine (HPS.out _ (by repeat (first | exact HBx.out | exact Below.refl _ _ | refine Below.drew ?_ | refine below_dN' ?_ _ | refine below_drewN' ?_ _))).mono ?_); rintro e w5 ⟨rfl, hb5⟩; (have HBx : Hid (Below W1.heap.size W1 w5) := Below.trans (B := W1.heap.size) (by repeat (first | exact HBx.out | exact Below.refl _ _ | refine Below.drew ?_ | refine below_dN' ?_ _ | refine below_drewN' ?_ _)) (hb5.mono (by first | exact HBx.out.size | exact Nat.le_refl _))); clear hb5; go_wp2_with fail)
                    refine hK.out _ _ (by exact ⟨(HK.out _ (by repeat (first | exact HBx.out | exact Below.refl _ _ | refine Below.drew ?_ | refine below_dN' ?_ _ | refine below_drewN' ?_ _))).1, (HK.out _ (by repeat (first | exact HBx.out | exact Below.refl _ _ | refine Below.drew ?_ | refine below_dN' ?_ _ | refine below_drewN' ?_ _))).2.1, (HK.out _ (by repeat (first | exact HBx.out | exact Below.refl _ _ | refine Below.drew ?_ | refine below_dN' ?_ _ | refine below_drewN' ?_ _))).2.2.1, (HK.out _ (by repeat (first | exact HBx.out | exact Below.refl _ _ | refine Below.drew ?_ | refine below_dN' ?_ _ | refine below_drewN' ?_ _))).2.2.2, HXC.out _ (by repeat (first | exact HBx.out | exact Below.refl _ _ | refine Below.drew ?_ | refine below_dN' ?_ _ | refine below_drewN' ?_ _))⟩) (fun hHeldkB9 => ?_)
                    clear hK K hHeld
                    try simp only [pt]
                    refine tkH (i := 10) (v := ?kB10v) (y := (Or.inl ⟨by rfl, ?kB10y⟩)) (h := ?kB10r)
                    case kB10y => (intro w hSw; (try dsimp only at hSw); go_simp; try (with_reducible rfl))
                    try simp only [pt]
                    refine tkH (i := 11) (v := ?kB11v) (y := (Or.inl ⟨by rfl, ?kB11y⟩)) (h := ?kB11r)
                    case kB11y => (intro w hSw; (try dsimp only at hSw); go_simp; try (with_reducible rfl))
                    try simp only [pt]
                    refine tkH (i := 12) (v := ?kB12v) (y := (Or.inl ⟨by rfl, ?kB12y⟩)) (h := ?kB12r)
                    case kB12y => (intro w hSw; (try dsimp only at hSw); go_simp; try (with_reducible rfl))
                    try simp only [pt]
                    refine tkH (i := 13) (v := ?kB13v) (y := (Or.inl ⟨by rfl, ?kB13y⟩)) (h := ?kB13r)
                    case kB13y => (intro w hSw; (try dsimp only at hSw); (obtain ⟨q0, q1, q2, q3, q4⟩ := hSw); go_simp; try (with_reducible rfl))
                    try simp only [pt]
                    refine tkH (i := 15) (v := ?kB14v) (y := (Or.inl ⟨by rfl, ?kB14y⟩)) (h := ?kB14r)
                    case kB14y => (intro w hSw; (try dsimp only at hSw); go_simp; try (with_reducible rfl))
                    try simp only [pt]
                    refine tkH (i := 16) (v := ?kB15v) (y := (Or.inl ⟨by rfl, ?kB15y⟩)) (h := ?kB15r)
                    case kB15y => (intro w hSw; (try dsimp only at hSw); go_simp; try (with_reducible rfl))
                    try simp only [pt]
                    refine tkH (i := 17) (v := ?kB16v) (y := (Or.inl ⟨by rfl, ?kB16y⟩)) (h := ?kB16r)
                    case kB16y => (intro w hSw; (try dsimp only at hSw); (obtain ⟨q0, q1, q2, q3, q4⟩ := hSw); go_simp; try (with_reducible rfl))
                    try simp only [pt]
                    refine wpAnyH_ready (rs := [14]) (by kernel_rfl) (by simp) ?_
                    refine AllReadyH.cons (by simp only [List.getElem?_toArray, List.getElem?_cons_succ, List.getElem?_cons_zero]; rfl) (fun K hK => ?_) (AllReadyH.nil)
                    (go_simp; go_at_call 65; (with_reducible refine (HRR.out _ (by repeat (first | exact HBx.out | exact Below.refl _ _ | refine Below.drew ?_ | refine below_dN' ?_ _ | refine below_drewN' ?_ _))).mono ?_); rintro e w6 ⟨rfl, hb6⟩; (have HBx : Hid (Below W1.heap.size W1 w6) := Below.trans (B := W1.heap.size) (by repeat (first | exact HBx.out | exact Below.refl _ _ | refine Below.drew ?_ | refine below_dN' ?_ _ | refine below_drewN' ?_ _)) (hb6.mono (by first | exact HBx.out.size | exact Nat.le_refl _))); clear hb6; go_wp2_with fail)
                    refine hK.out _ _ (by exact ⟨(HK.out _ (by repeat (first | exact HBx.out | exact Below.refl _ _ | refine Below.drew ?_ | refine below_dN' ?_ _ | refine below_drewN' ?_ _))).1, (HK.out _ (by repeat (first | exact HBx.out | exact Below.refl _ _ | refine Below.drew ?_ | refine below_dN' ?_ _ | refine below_drewN' ?_ _))).2.1, (HK.out _ (by repeat (first | exact HBx.out | exact Below.refl _ _ | refine Below.drew ?_ | refine below_dN' ?_ _ | refine below_drewN' ?_ _))).2.2.1, (HK.out _ (by repeat (first | exact HBx.out | exact Below.refl _ _ | refine Below.drew ?_ | refine below_dN' ?_ _ | refine below_drewN' ?_ _))).2.2.2, HXC.out _ (by repeat (first | exact HBx.out | exact Below.refl _ _ | refine Below.drew ?_ | refine below_dN' ?_ _ | refine below_drewN' ?_ _))⟩) (fun hHeldkB17 => ?_)
                    clear hK K hHeldkB9
                    try simp only [pt]
                    refine tkH (i := 18) (v := ?kB18v) (y := (Or.inl ⟨by rfl, ?kB18y⟩)) (h := ?kB18r)
                    case kB18y => (intro w hSw; (try dsimp only at hSw); go_simp; try (with_reducible rfl))
                    try simp only [pt]
                    refine tkH (i := 19) (v := ?kB19v) (y := (Or.inl ⟨by rfl, ?kB19y⟩)) (h := ?kB19r)
                    case kB19y => (intro w hSw; (try dsimp only at hSw); go_simp; try (with_reducible rfl))
                    try simp only [pt]
                    refine tkH (i := 20) (v := ?kB20v) (y := (Or.inl ⟨by rfl, ?kB20y⟩)) (h := ?kB20r)
                    case kB20y => (intro w hSw; (try dsimp only at hSw); go_simp; try (with_reducible rfl))
                    try simp only [pt]
                    refine wpAnyH_done (by kernel_rfl) ?_ _
                    go_wp2_with fail
                    go_ret
                    exact ⟨by rw [HVM.out, hrx, beqD rs s]; first | rfl | (simp; done), HB1.out.trans (HBx.out.mono HB1.out.size)⟩
                    -- END eq
              -- END main
            · (have HF : Hid (vrB s ix xs ys = false) := (by rw [HV.out]; simp [*] : _ = _)); (try (have g1 : ((s.size : Int) != 32) = false := by simp [c1])); (try (have g1 : ((s.size : Int) != 32) = true := (by simp; omega)));(try (have g3 : (16 : Int) < (m : Int) := by omega)); (try (have g3 : ¬ (16 : Int) < (m : Int) := by omega));(try (have g4 : ix < 0 := by omega)); (try (have g4 : ¬ ix < 0 := by omega));(try (have g5 : (m : Int) ≤ ix := by omega)); (try (have g5 : ¬ (m : Int) ≤ ix := by omega));(try (have g6 : (n : Int) < 1 := by omega)); (try (have g6 : ¬ (n : Int) < 1 := by omega));(try (have g7 : (65536 : Int) < (n : Int) := by omega)); (try (have g7 : ¬ (65536 : Int) < (n : Int) := by omega)); clear HPS HRO HY HV; go_enter Tryz.func49, Tryz.ntmps49; (go_upto_region 1 with fail); rw [← HWE.out]; go_wp2; go_ret; exact ⟨by rw [HF.out]; rfl, HB1.out⟩
          · (have HF : Hid (vrB s ix xs ys = false) := (by rw [HV.out]; simp [*] : _ = _)); (try (have g1 : ((s.size : Int) != 32) = false := by simp [c1])); (try (have g1 : ((s.size : Int) != 32) = true := (by simp; omega)));(try (have g3 : (16 : Int) < (m : Int) := by omega)); (try (have g3 : ¬ (16 : Int) < (m : Int) := by omega));(try (have g4 : ix < 0 := by omega)); (try (have g4 : ¬ ix < 0 := by omega));(try (have g5 : (m : Int) ≤ ix := by omega)); (try (have g5 : ¬ (m : Int) ≤ ix := by omega));(try (have g6 : (n : Int) < 1 := by omega)); (try (have g6 : ¬ (n : Int) < 1 := by omega));(try (have g7 : (65536 : Int) < (n : Int) := by omega)); (try (have g7 : ¬ (65536 : Int) < (n : Int) := by omega)); clear HPS HRO HY HV; go_enter Tryz.func49, Tryz.ntmps49; (go_upto_region 1 with fail); rw [← HWE.out]; go_wp2; go_ret; exact ⟨by rw [HF.out]; rfl, HB1.out⟩
        · (have HF : Hid (vrB s ix xs ys = false) := (by rw [HV.out]; simp [*] : _ = _)); (try (have g1 : ((s.size : Int) != 32) = false := by simp [c1])); (try (have g1 : ((s.size : Int) != 32) = true := (by simp; omega)));(try (have g3 : (16 : Int) < (m : Int) := by omega)); (try (have g3 : ¬ (16 : Int) < (m : Int) := by omega));(try (have g4 : ix < 0 := by omega)); (try (have g4 : ¬ ix < 0 := by omega));(try (have g5 : (m : Int) ≤ ix := by omega)); (try (have g5 : ¬ (m : Int) ≤ ix := by omega));(try (have g6 : (n : Int) < 1 := by omega)); (try (have g6 : ¬ (n : Int) < 1 := by omega));(try (have g7 : (65536 : Int) < (n : Int) := by omega)); (try (have g7 : ¬ (65536 : Int) < (n : Int) := by omega)); clear HPS HRO HY HV; go_enter Tryz.func49, Tryz.ntmps49; (go_upto_region 1 with fail); rw [← HWE.out]; go_wp2; go_ret; exact ⟨by rw [HF.out]; rfl, HB1.out⟩
      · (have HF : Hid (vrB s ix xs ys = false) := (by rw [HV.out]; simp [*] : _ = _)); (try (have g1 : ((s.size : Int) != 32) = false := by simp [c1])); (try (have g1 : ((s.size : Int) != 32) = true := (by simp; omega)));(try (have g3 : (16 : Int) < (m : Int) := by omega)); (try (have g3 : ¬ (16 : Int) < (m : Int) := by omega));(try (have g4 : ix < 0 := by omega)); (try (have g4 : ¬ ix < 0 := by omega));(try (have g5 : (m : Int) ≤ ix := by omega)); (try (have g5 : ¬ (m : Int) ≤ ix := by omega));(try (have g6 : (n : Int) < 1 := by omega)); (try (have g6 : ¬ (n : Int) < 1 := by omega));(try (have g7 : (65536 : Int) < (n : Int) := by omega)); (try (have g7 : ¬ (65536 : Int) < (n : Int) := by omega)); clear HPS HRO HY HV; go_enter Tryz.func49, Tryz.ntmps49; (go_upto_region 1 with fail); rw [← HWE.out]; go_wp2; go_ret; exact ⟨by rw [HF.out]; rfl, HB1.out⟩
    · (have HF : Hid (vrB s ix xs ys = false) := (by rw [HV.out]; simp [*] : _ = _)); (try (have g1 : ((s.size : Int) != 32) = false := by simp [c1])); (try (have g1 : ((s.size : Int) != 32) = true := (by simp; omega)));(try (have g3 : (16 : Int) < (m : Int) := by omega)); (try (have g3 : ¬ (16 : Int) < (m : Int) := by omega));(try (have g4 : ix < 0 := by omega)); (try (have g4 : ¬ ix < 0 := by omega));(try (have g5 : (m : Int) ≤ ix := by omega)); (try (have g5 : ¬ (m : Int) ≤ ix := by omega));(try (have g6 : (n : Int) < 1 := by omega)); (try (have g6 : ¬ (n : Int) < 1 := by omega));(try (have g7 : (65536 : Int) < (n : Int) := by omega)); (try (have g7 : ¬ (65536 : Int) < (n : Int) := by omega)); clear HPS HRO HY HV; go_enter Tryz.func49, Tryz.ntmps49; (go_upto_region 1 with fail); rw [← HWE.out]; go_wp2; go_ret; exact ⟨by rw [HF.out]; rfl, HB1.out⟩
  · (have HF : Hid (vrB s ix xs ys = false) := (by rw [HV.out]; simp [*] : _ = _)); (try (have g1 : ((s.size : Int) != 32) = false := by simp [c1])); (try (have g1 : ((s.size : Int) != 32) = true := (by simp; omega)));(try (have g3 : (16 : Int) < (m : Int) := by omega)); (try (have g3 : ¬ (16 : Int) < (m : Int) := by omega));(try (have g4 : ix < 0 := by omega)); (try (have g4 : ¬ ix < 0 := by omega));(try (have g5 : (m : Int) ≤ ix := by omega)); (try (have g5 : ¬ (m : Int) ≤ ix := by omega));(try (have g6 : (n : Int) < 1 := by omega)); (try (have g6 : ¬ (n : Int) < 1 := by omega));(try (have g7 : (65536 : Int) < (n : Int) := by omega)); (try (have g7 : ¬ (65536 : Int) < (n : Int) := by omega)); clear HPS HRO HY HV; go_enter Tryz.func49, Tryz.ntmps49; (go_upto_region 1 with fail); rw [← HWE.out]; go_wp2; go_ret; exact ⟨by rw [HF.out]; rfl, HB1.out⟩
end Go.Proofs.YtpdledjgbgalcaaGreatDoor
