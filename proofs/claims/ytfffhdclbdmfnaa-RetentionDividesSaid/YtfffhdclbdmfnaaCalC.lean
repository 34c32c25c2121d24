/- The reference's Date, walked. -/
import Derived.Test.YtfffhdclbdmfnaaCalB
namespace Go.Proofs.Ytfffhdclbdmfnaa
open Go.RowKit Cal
set_option linter.unusedVariables false
set_option linter.unusedSimpArgs false

set_option maxRecDepth 20000 in
set_option maxHeartbeats 2000000 in
theorem rdate_any (d : Int) (w : World) (h0 : 0 ≤ d) (h1 : d ≤ 999999) : Calls Try.prog 83 #[.int .i64 d] w (DateR d w) := by
  have HCK : Hid (∀ W, Calls Try.prog 82 #[.int .i64 d] W fun e w' => e = .returned (.int .i64 0) ∧ W = w') := fun W => by
    have := rcheck_any d W
    rwa [chkI_ok h0 h1] at this
  go_enter Try.func83, Try.ntmps83
  go_wp2_with (go_at_call 82; refine (HCK.out _).mono ?_; rintro e w' ⟨rfl, rfl⟩)
  obtain ⟨W0, hW0⟩ : ∃ W0 : World, W0 = (w.alloc (.cells #[.int .i64 0, .int .i64 0, .int .i64 0] 56)).alloc (.cells #[.int .i64 2000, .int .i64 1, .int .i64 0] 56) := ⟨_, rfl⟩
  have HB0 : Hid (Below w.heap.size w W0) := by show Below _ _ _; rw [hW0]; exact ((Below.refl _ _).alloc (Nat.le_refl _) _).alloc (by simp) _
  have HG0 : Hid (W0.heap[w.heap.size + 1]? = some (.cells #[.int .i64 2000, .int .i64 1, .int .i64 0] 56 (0, 0))) := by
    show _ = _
    rw [hW0]
    have := heap_alloc_new (w.alloc (.cells #[.int .i64 0, .int .i64 0, .int .i64 0] 56)) (.cells #[.int .i64 2000, .int .i64 1, .int .i64 0] 56)
    simpa using this
  have HR0 : Hid (W0.heap[w.heap.size]? = some (.cells #[.int .i64 0, .int .i64 0, .int .i64 0] 56 (0, 0))) := by
    show _ = _
    rw [hW0, Below.heap_alloc _ _ _ (by simp)]
    exact heap_alloc_new w _
  rw [← hW0]
  clear hW0
  go_loopg [0] 2801 (fun k t wr => ∃ y : Nat, y + k = 2801 ∧ t = .int .i64 (d - bef y) ∧ Hid (bef y ≤ d) ∧ Hid (wr.heap[w.heap.size + 1]? = some (.cells #[.int .i64 (2000 + (y : Int)), .int .i64 1, .int .i64 0] 56 (0, 0))) ∧ Hid (wr.heap[w.heap.size]? = some (.cells #[.int .i64 0, .int .i64 0, .int .i64 0] 56 (0, 0))) ∧ Hid (Below w.heap.size w wr))
  case atStart => exact ⟨0, by omega, by show _ = Value.int .i64 (d - bef 0); rw [bef_zero]; simp, by show bef 0 ≤ d; rw [bef_zero]; exact h0, HG0, HR0, HB0⟩
  case round =>
    clear HG0 HB0 HR0
    obtain ⟨y, hy, rfl, HY, HG, HR, HB⟩ := hrel
    have hbd := bef_bd y (by omega)
    have hyb := HY.out
    have hsu := bef_succ y (by omega)
    obtain ⟨bf, hbf⟩ : ∃ bf, bef y = bf := ⟨_, rfl⟩
    have HBF := Lib.hid hbf
    rw [hbf] at hbd hyb hsu HY ⊢
    obtain ⟨l, hl⟩ : ∃ l, ylen (2000 + y) = l := ⟨_, rfl⟩
    have HL := Lib.hid hl
    have hlb := ylen_bd (2000 + y)
    rw [hl] at hlb hsu
    have HSU := Lib.hid hsu
    have hy28 : y ≤ 2800 := by omega
    have HLE : Hid (∀ W, Calls Try.prog 90 #[.int .i64 (2000 + (y : Int))] W fun e w' => e = .returned (.int .i64 l) ∧ W = w') := fun W => by
      rw [← hl]; exact rlength_any _ W (by omega) (by omega)
    clear hbf hl hsu
    have c0 := cell_of_row wr (w.heap.size + 1) 0 _ _ _ HG.out
    simp at c0
    have fz := frozen_of_row wr (w.heap.size + 1) 0 _ _ HG.out
    by_cases hge : l ≤ d - bf
    · go_wp2_with (go_at_call 90; refine (HLE.out _).mono ?_; rintro e w' ⟨rfl, rfl⟩)
      go_roundg (gk - 1)
      case measure => omega
      case rel =>
        have e1 : ((y + 1 : Nat) : Int) = (y : Int) + 1 := by omega
        exact ⟨y + 1, by omega, by rw [e1, HSU.out]; congr 1; omega, by show bef ((y + 1 : Nat) : Int) ≤ d; rw [e1, HSU.out]; omega, by
          show _ = _
          have := heap_setCell_same _ _ 0 _ _ (.int .i64 (2000 + (y : Int) + 1)) HG.out
          rw [this, e1, Int.add_assoc]
          rfl, (heap_setCell_other _ _ _ _ (by show w.heap.size ≠ w.heap.size + 1; omega)).trans HR.out, HB.out.setCell (by show w.heap.size ≤ w.heap.size + 1; omega) _⟩
    · have hyd : y = yOf d := year_unique (by rw [HBF.out]; exact hyb) (by rw [HSU.out]; omega) (isDate d h0 h1).y1 (isDate d h0 h1).y2
      have HYD := Lib.hid hyd
      clear hyd
      have hyl : d - bf < cum (2000 + (y : Int)) 12 := by rw [cum_12, HL.out]; omega
      have HYL := Lib.hid hyl
      clear hyl
      go_wp2_with (go_at_call 90; refine (HLE.out _).mono ?_; rintro e w' ⟨rfl, rfl⟩)
      go_loopg [0] 12 (fun k t wr => ∃ m : Nat, m + k = 12 ∧ m ≤ 11 ∧ t = .int .i64 (d - bf - cum (2000 + (y : Int)) m) ∧ Hid (cum (2000 + (y : Int)) m ≤ d - bf) ∧ Hid (wr.heap[w.heap.size + 1]? = some (.cells #[.int .i64 (2000 + (y : Int)), .int .i64 ((m : Int) + 1), .int .i64 0] 56 (0, 0))) ∧ Hid (wr.heap[w.heap.size]? = some (.cells #[.int .i64 0, .int .i64 0, .int .i64 0] 56 (0, 0))) ∧ Hid (Below w.heap.size w wr))
      case atStart => exact ⟨0, by omega, by omega, by simp [cum], by show _ ≤ _; simp only [cum]; omega, HG, HR, HB⟩
      case round =>
        clear HG HR HB c0 fz
        obtain ⟨m, hm, hm11, rfl, HC, HG, HR, HB⟩ := hrel
        have hmb := mdays_in (2000 + (y : Int)) ((m : Int) + 1) (by omega) (by omega)
        obtain ⟨v, hv⟩ : ∃ v, mdays (2000 + (y : Int)) ((m : Int) + 1) = v := ⟨_, rfl⟩
        have HDY : Hid (∀ W, Calls Try.prog 91 #[.int .i64 (2000 + (y : Int)), .int .i64 ((m : Int) + 1)] W fun e w' => e = .returned (.int .i64 v) ∧ W = w') := fun W => by
          rw [← hv]; exact rdays_any _ _ W (by omega) (by omega) (by omega) (by omega)
        have HV := Lib.hid hv
        rw [hv] at hmb
        clear hv
        have hcn := cum_nonneg (2000 + (y : Int)) m
        obtain ⟨c, hc⟩ : ∃ c, cum (2000 + (y : Int)) m = c := ⟨_, rfl⟩
        have HCM := Lib.hid hc
        rw [hc] at hcn HC ⊢
        clear hc
        have hcd := HC.out
        have c0 := cell_of_row wr (w.heap.size + 1) 0 _ _ _ HG.out
        have c1 := cell_of_row wr (w.heap.size + 1) 1 _ _ _ HG.out
        have c2 := cell_of_row wr (w.heap.size + 1) 2 _ _ _ HG.out
        simp at c0 c1 c2
        have fz := frozen_of_row wr (w.heap.size + 1) 1 _ _ HG.out
        have fz2 := frozen_of_row wr (w.heap.size + 1) 2 _ _ HG.out
        by_cases hgt : v ≤ d - bf - c
        · have hm10 : m ≤ 10 := by
            rcases Nat.lt_or_ge m 11 with h | h
            · omega
            · obtain rfl : m = 11 := by omega
              have h1 := HYL.out
              rw [cum, HCM.out] at h1
              have h2 := HV.out
              omega
          go_wp2_with (go_at_call 91; refine (HDY.out _).mono ?_; rintro e w' ⟨rfl, rfl⟩)
          go_roundg (gk - 1)
          case measure => omega
          case rel =>
            exact ⟨m + 1, by omega, by omega, by rw [cum, HCM.out, HV.out]; congr 1; omega, by show _ ≤ _; rw [cum, HCM.out, HV.out]; omega, heap_setCell_same _ _ 1 _ _ (.int .i64 ((m : Int) + 1 + 1)) HG.out, (heap_setCell_other _ _ _ _ (by show w.heap.size ≠ w.heap.size + 1; omega)).trans HR.out, HB.out.setCell (by show w.heap.size ≤ w.heap.size + 1; omega) _⟩
        · have hmd : m = mOf d := by
            have hI : IsDate d (yOf d) m := ⟨(isDate d h0 h1).y1, (isDate d h0 h1).y2, by omega, by rw [← HYD.out, HBF.out, HCM.out]; omega, by
              rw [← HYD.out, HBF.out, cum, HCM.out, HV.out]
              omega⟩
            exact (hI.eq h0 h1).2
          have HMD := Lib.hid hmd
          clear hmd
          have HSS : Hid ((Try.prog.info? 56).map (·.size) = some (#[.int .i64 (2000 + (y : Int)), .int .i64 ((m : Int) + 1), .int .i64 (d - bf - c + 1)] : Array Value).size) := Try.sizeDate
          have HOS : Hid ((#[.int .i64 0, .int .i64 0, .int .i64 0] : Array Value).size = (#[.int .i64 (2000 + (y : Int)), .int .i64 ((m : Int) + 1), .int .i64 (d - bf - c + 1)] : Array Value).size) := rfl
          have HON : Hid ((#[.int .i64 (2000 + (y : Int)), .int .i64 ((m : Int) + 1), .int .i64 (d - bf - c + 1)] : Array Value).all (·.oneCell') = true) := by show _ = _; simp [Value.oneCell']
          have HR3 : Hid ((wr.setCell ⟨w.heap.size + 1, 2, none⟩ (.int .i64 (d - bf - c + 1))).heap[w.heap.size]? = some (.cells #[.int .i64 0, .int .i64 0, .int .i64 0] 56 (0, 0))) := (heap_setCell_other _ _ _ _ (by show w.heap.size ≠ w.heap.size + 1; omega)).trans HR.out
          have HB3 : Hid (Below w.heap.size w (wr.setCell ⟨w.heap.size + 1, 2, none⟩ (.int .i64 (d - bf - c + 1)))) := HB.out.setCell (by show w.heap.size ≤ w.heap.size + 1; omega) _
          go_wp2_with (first
            | (go_at_call 91; refine (HDY.out _).mono ?_; rintro e w' ⟨rfl, rfl⟩)
            | (with_reducible refine wpList_store_far (o := ⟨none, .store 56 (.tmp 2) (.tmp 48), _, _, _, _⟩) rfl 56 (.tmp 2) (.tmp 48) rfl w.heap.size 56 #[.int .i64 0, .int .i64 0, .int .i64 0] #[.int .i64 (2000 + (y : Int)), .int .i64 ((m : Int) + 1), .int .i64 (d - bf - c + 1)] rfl rfl HR3.out HSS.out HOS.out HON.out w.heap.size w HB3.out (Nat.le_refl _) ?_; intro w7 HR7 HB7 _))
          refine bodyPost_ret (ret_cell_row rfl rfl HR7.out Try.underlying56 rfl Try.sizeDate) rfl ?_
          exact ⟨d - bf - c + 1, by rw [← HYD.out, ← HMD.out]; rfl, HB7⟩
end Go.Proofs.Ytfffhdclbdmfnaa
