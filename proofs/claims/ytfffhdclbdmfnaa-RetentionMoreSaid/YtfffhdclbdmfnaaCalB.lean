/- calendar.Date, walked. -/
import Derived.Test.YtfffhdclbdmfnaaCalA
namespace Go.Proofs.Ytfffhdclbdmfnaa
open Go.RowKit Cal
set_option linter.unusedVariables false
set_option linter.unusedSimpArgs false

theorem Try.sizeDate : (Try.prog.info? 56).map (·.size) = some 3 := by kernel_rfl
theorem ret_cell_row {P : Program} {w : World} {fn : Func} {p u : Tmp} {ty : TypeId} (hr : fn.results = #[.cell p ty, .tmp u]) {tmps : Array Value} {g : Nat} {t : TypeId} {cs : Array Value} {fr : Nat × Nat} {d : TypeDesc}
    (hp : tmps.getD p undef = .pointer (some ⟨g, 0, none⟩)) (hg : w.heap[g]? = some (.cells cs t fr)) (hu : P.underlying ty = some d) (hd : (match d with | .struct _ | .array _ _ => true | _ => false) = true) (hi : (P.info? ty).map (·.size) = some cs.size) :
    (results fn tmps).run P w = .ok (.tuple #[.agg cs, tmps.getD u undef]) w := by
  rw [results_cell_tmp hr, hp]
  simp [asAddr, Result.andThen, run_loadVar_row w g t ty cs fr _ hg hu hd hi]
theorem num_eq (n : Int) : ∃ m : Int, n = m := ⟨n, rfl⟩
/-- A date that a function hands back. -/
def DateR (d : Int) (w : World) (e : Ending) (w' : World) : Prop :=
  ∃ dd : Int, e = .returned (.tuple #[.agg #[.int .i64 (2000 + yOf d), .int .i64 (mOf d + 1), .int .i64 dd], .int .i64 0]) ∧ Below w.heap.size w w'
theorem heap_below {B : Nat} {w w' : World} (h : Below B w w') {g : Nat} (hg : g < B) {o : Obj} (ho : w.heap[g]? = some o) : w'.heap[g]? = some o := (h.block g hg).trans ho

set_option maxRecDepth 20000 in
set_option maxHeartbeats 2000000 in
theorem date_any (d : Int) (w : World) (h0 : 0 ≤ d) (h1 : d ≤ 999999) : Calls Try.prog 40 #[.int .i64 d] w (DateR d w) := by
  have HCK : Hid (∀ W, Calls Try.prog 55 #[.int .i64 d] W fun e w' => e = .returned (.int .i64 0) ∧ W = w') := fun W => by
    have := check_any d W
    rwa [chkI_ok h0 h1] at this
  go_enter Try.func40, Try.ntmps40
  go_wp2_with (go_at_call 55; refine (HCK.out _).mono ?_; rintro e w' ⟨rfl, rfl⟩)
  go_loop [5] (fun t => ∃ y : Int, 0 ≤ y ∧ y ≤ 2800 ∧ t = .int .i64 y) (fun t => (intOf t).toNat)
  case atStart => exact ⟨_, by omega, by omega, rfl⟩
  case round =>
    obtain ⟨y, hy0, hy1, rfl⟩ := hrel
    obtain ⟨b, hb⟩ : ∃ b, bef y = b := ⟨_, rfl⟩
    have HBF := Lib.hid hb
    have HCB : Hid (∀ W, Calls Try.prog 56 #[.int .i64 y] W fun e w' => e = .returned (.int .i64 b) ∧ W = w') := fun W => by
      rw [← hb]; exact before_any y W hy0 (by omega)
    have hbb := bef_bd y hy0
    rw [hb] at hbb
    have hz : y = 0 → b = 0 := fun e => by rw [← hb, e]; exact bef_zero
    clear hb
    by_cases hc : d < b
    · have hy2 : 1 ≤ y := by
        rcases Int.lt_or_le y 1 with h | h
        · have := hz (by omega); omega
        · exact h
      clear hz
      go_wp2_with (go_at_call 56; refine (HCB.out _).mono ?_; rintro e w' ⟨rfl, rfl⟩)
      go_round
      case rel => exact ⟨y - 1, by omega, by omega, rfl⟩
      case measure => simp [intOf]; omega
    · clear hz
      go_wp2_with (go_at_call 56; refine (HCB.out _).mono ?_; rintro e w' ⟨rfl, rfl⟩)
      go_loop [5] (fun t => ∃ y : Int, 0 ≤ y ∧ y ≤ 2800 ∧ Hid (bef y ≤ d) ∧ t = .int .i64 y) (fun t => 2801 - (intOf t).toNat)
      case atStart => exact ⟨y, by omega, by omega, by show _ ≤ _; rw [HBF.out]; omega, rfl⟩
      case round =>
        clear hbb HCB HBF hy0 hy1 hc
        obtain ⟨y, hy0, hy1, HY, rfl⟩ := hrel
        obtain ⟨b, hb⟩ : ∃ b, bef (y + 1) = b := ⟨_, rfl⟩
        have HBF := Lib.hid hb
        have HCB : Hid (∀ W, Calls Try.prog 56 #[.int .i64 (y + 1)] W fun e w' => e = .returned (.int .i64 b) ∧ W = w') := fun W => by
          rw [← hb]; exact before_any (y + 1) W (by omega) (by omega)
        have hbb := bef_bd (y + 1) (by omega)
        rw [hb] at hbb
        clear hb
        by_cases hc : b ≤ d
        · go_wp2_with (go_at_call 56; refine (HCB.out _).mono ?_; rintro e w' ⟨rfl, rfl⟩)
          go_round
          case rel => exact ⟨y + 1, by omega, by omega, by show _ ≤ _; rw [HBF.out]; exact hc, rfl⟩
          case measure => simp [intOf]; omega
        · obtain ⟨yn, rfl⟩ : ∃ yn : Nat, y = yn := ⟨y.toNat, by omega⟩
          obtain rfl : yn = yOf d := year_unique HY.out (by rw [HBF.out]; omega) (isDate d h0 h1).y1 (isDate d h0 h1).y2
          obtain ⟨yn, hyn⟩ : ∃ yn, yOf d = yn := ⟨_, rfl⟩
          have HYN := Lib.hid hyn
          rw [hyn] at HCB hy0 hy1 HBF HY hbb ⊢
          clear hyn
          have HCB2 : Hid (∀ W, Calls Try.prog 56 #[.int .i64 (yn : Int)] W fun e w' => e = .returned (.int .i64 (bef yn)) ∧ W = w') := fun W => before_any yn W (by omega) (by omega)
          obtain ⟨bf, hbf⟩ : ∃ bf, bef yn = bf := ⟨_, rfl⟩
          have HBN := Lib.hid hbf
          rw [hbf] at HCB2 HY
          have hlo := HY.out
          have hbd := bef_bd yn (by omega)
          rw [hbf] at hbd
          clear hbf
          go_wp2_with (first
            | (go_at_call 56; (with_reducible refine (HCB.out _).mono ?_); rintro e w' ⟨rfl, rfl⟩)
            | (go_at_call 56; (with_reducible refine (HCB2.out _).mono ?_); rintro e w' ⟨rfl, rfl⟩))
          obtain ⟨W0, hW0⟩ : ∃ W0 : World, W0 = (w.alloc (.cells #[.int .i64 0, .int .i64 0, .int .i64 0] 56)).alloc (.cells #[.int .i64 (2000 + (yn : Int)), .int .i64 1, .int .i64 (d - bf + 1)] 56) := ⟨_, rfl⟩
          have HB0 : Hid (Below w.heap.size w W0) := by show Below _ _ _; rw [hW0]; exact ((Below.refl _ _).alloc (Nat.le_refl _) _).alloc (by simp) _
          have HG0 : Hid (W0.heap[w.heap.size + 1]? = some (.cells #[.int .i64 (2000 + (yn : Int)), .int .i64 1, .int .i64 (d - bf + 1)] 56 (0, 0))) := by
            show _ = _
            rw [hW0]
            have := heap_alloc_new (w.alloc (.cells #[.int .i64 0, .int .i64 0, .int .i64 0] 56)) (.cells #[.int .i64 (2000 + (yn : Int)), .int .i64 1, .int .i64 (d - bf + 1)] 56)
            simpa using this
          have HR0 : Hid (W0.heap[w.heap.size]? = some (.cells #[.int .i64 0, .int .i64 0, .int .i64 0] 56 (0, 0))) := by
            show _ = _
            rw [hW0, Below.heap_alloc _ _ _ (by simp)]
            exact heap_alloc_new w _
          rw [← hW0]
          clear hW0
          have hyl : d - bf < cum (2000 + (yn : Int)) 12 := by
            rw [cum_12]
            have h1 := bef_succ yn (by omega)
            have h2 := HBF.out
            have h3 := HBN.out
            omega
          have HYL := Lib.hid hyl
          clear hyl
          go_loopg [44] 12 (fun k _ wr => ∃ (m : Nat) (dd : Int), m + k = 12 ∧ m ≤ 11 ∧ Hid (wr.heap[w.heap.size + 1]? = some (.cells #[.int .i64 (2000 + (yn : Int)), .int .i64 ((m : Int) + 1), .int .i64 dd] 56 (0, 0))) ∧ Hid (dd = d - bf - cum (2000 + (yn : Int)) m + 1) ∧ Hid (cum (2000 + (yn : Int)) m ≤ d - bf) ∧ Hid (wr.heap[w.heap.size]? = some (.cells #[.int .i64 0, .int .i64 0, .int .i64 0] 56 (0, 0))) ∧ Hid (Below w.heap.size w wr))
          case atStart => exact ⟨0, d - bf + 1, by omega, by omega, HG0, by show _ = _; simp [cum], by show _ ≤ _; simp only [cum]; omega, HR0, HB0⟩
          case round =>
            clear HG0 HB0 HR0
            obtain ⟨m, dd, hm, hm11, HG, HDD, HC, HR, HB⟩ := hrel
            have hmb := mdays_in (2000 + (yn : Int)) ((m : Int) + 1) (by omega) (by omega)
            obtain ⟨v, hv⟩ : ∃ v, mdays (2000 + (yn : Int)) ((m : Int) + 1) = v := ⟨_, rfl⟩
            have HDY : Hid (∀ W, Calls Try.prog 57 #[.int .i64 (2000 + (yn : Int)), .int .i64 ((m : Int) + 1)] W (IntB v W)) := fun W => by
              rw [← hv]; exact days_any _ _ W (by omega) (by omega) (by omega) (by omega)
            have HV := Lib.hid hv
            rw [hv] at hmb
            clear hv
            have hcn := cum_nonneg (2000 + (yn : Int)) m
            have hddb : 1 ≤ dd ∧ dd ≤ 1000000 := by have h1 := HDD.out; have h2 := HC.out; omega
            clear hcn
            have c0 := cell_of_row wr (w.heap.size + 1) 0 _ _ _ HG.out
            have c1 := cell_of_row wr (w.heap.size + 1) 1 _ _ _ HG.out
            have c2 := cell_of_row wr (w.heap.size + 1) 2 _ _ _ HG.out
            simp at c0 c1 c2
            have hsz : w.heap.size + 1 < wr.heap.size := lt_of_block HG.out
            go_wp2_with fail
            go_region_held3 (fun w' => w'.cell? ⟨w.heap.size + 1, 0, none⟩ = some (.int .i64 (2000 + (yn : Int))) ∧ w'.cell? ⟨w.heap.size + 1, 1, none⟩ = some (.int .i64 ((m : Int) + 1)) ∧ w'.cell? ⟨w.heap.size + 1, 2, none⟩ = some (.int .i64 dd)) (first | go_keep | exact ⟨c0', c1', c2'⟩) (first | (go_at_call 57; (refine (HDY.out _).mono ?_); rintro e w3 ⟨rfl, hb3⟩; have HB3 : Hid (Below wr.heap.size wr w3) := ((Below.refl _ _).drew).trans hb3; have c0' := (HB3.out.cell (p := ⟨w.heap.size + 1, 0, none⟩) hsz).trans c0; have c1' := (HB3.out.cell (p := ⟨w.heap.size + 1, 1, none⟩) hsz).trans c1; have c2' := (HB3.out.cell (p := ⟨w.heap.size + 1, 2, none⟩) hsz).trans c2; clear hb3))
            by_cases hgt : v < dd
            · have hm10 : m ≤ 10 := by
                rcases Nat.lt_or_ge m 11 with h | h
                · omega
                · obtain rfl : m = 11 := by omega
                  have h1 := HYL.out
                  rw [cum] at h1
                  have h2 := HV.out
                  have h3 := HDD.out
                  omega
              go_wp2_with fail
              have hsz3 : w.heap.size + 1 < w3.heap.size := by have := HB3.out.size; omega
              have fz := frozen_of_row w3 (w.heap.size + 1) 2 _ _ (heap_below HB3.out hsz HG.out)
              have HG3 : Hid (w3.heap[w.heap.size + 1]? = some (.cells #[.int .i64 (2000 + (yn : Int)), .int .i64 ((m : Int) + 1), .int .i64 dd] 56 (0, 0))) := heap_below HB3.out hsz HG.out
              have HR3 : Hid (w3.heap[w.heap.size]? = some (.cells #[.int .i64 0, .int .i64 0, .int .i64 0] 56 (0, 0))) := heap_below HB3.out (by omega) HR.out
              clear c0 c1 c2
              go_region_with (first
                | (go_at_call 57; (refine (HDY.out _).mono ?_); rintro e w5 ⟨rfl, hb5⟩
                   have HB5 : Hid (Below w3.heap.size w3 w5) := ((Below.refl _ _).drew).trans hb5
                   have d0 := (HB5.out.cell (p := ⟨w.heap.size + 1, 0, none⟩) hsz3).trans c0'
                   have d1 := (HB5.out.cell (p := ⟨w.heap.size + 1, 1, none⟩) hsz3).trans c1'
                   have d2 := (HB5.out.cell (p := ⟨w.heap.size + 1, 2, none⟩) hsz3).trans c2'
                   have fz5 := frozen_of_row w5 (w.heap.size + 1) 2 _ _ (heap_below HB5.out hsz3 HG3.out)
                   have fz51 := frozen_of_row w5 (w.heap.size + 1) 1 _ _ (heap_below HB5.out hsz3 HG3.out)
                   clear hb5))
              all_goals
                go_wp2_with fail
                go_roundg (gk - 1)
                case measure => omega
                case rel =>
                  have HG5 : w5.heap[w.heap.size + 1]? = some (.cells #[.int .i64 (2000 + (yn : Int)), .int .i64 ((m : Int) + 1), .int .i64 dd] 56 (0, 0)) := heap_below HB5.out hsz3 HG3.out
                  have HB5w : Below w.heap.size w w5 := (HB.out.trans (HB3.out.mono HB.out.size)).trans (HB5.out.mono (by omega))
                  exact ⟨m + 1, dd - v, by omega, by omega, heap_setCell_same _ _ 1 _ _ (.int .i64 ((m : Int) + 1 + 1)) (heap_setCell_same _ _ 2 _ _ (.int .i64 (dd - v)) HG5), by show _ = _; rw [cum, HV.out, HDD.out]; omega, by show _ ≤ _; rw [cum, HV.out]; have := HDD.out; omega, (heap_setCell_other _ _ _ _ (by show w.heap.size ≠ w.heap.size + 1; omega)).trans ((heap_setCell_other _ _ _ _ (by show w.heap.size ≠ w.heap.size + 1; omega)).trans (heap_below HB5.out (by omega) HR3.out)), (HB5w.setCell (by show w.heap.size ≤ w.heap.size + 1; omega) _).setCell (by show w.heap.size ≤ w.heap.size + 1; omega) _⟩
            · have HSS : Hid ((Try.prog.info? 56).map (·.size) = some (#[.int .i64 (2000 + (yn : Int)), .int .i64 ((m : Int) + 1), .int .i64 dd] : Array Value).size) := Try.sizeDate
              have HOS : Hid ((#[.int .i64 0, .int .i64 0, .int .i64 0] : Array Value).size = (#[.int .i64 (2000 + (yn : Int)), .int .i64 ((m : Int) + 1), .int .i64 dd] : Array Value).size) := rfl
              have HON : Hid ((#[.int .i64 (2000 + (yn : Int)), .int .i64 ((m : Int) + 1), .int .i64 dd] : Array Value).all (·.oneCell') = true) := by show _ = _; simp [Value.oneCell']
              have HR3 : Hid (w3.heap[w.heap.size]? = some (.cells #[.int .i64 0, .int .i64 0, .int .i64 0] 56 (0, 0))) := heap_below HB3.out (by omega) HR.out
              have HG3 : Hid (w3.heap[w.heap.size + 1]? = some (.cells #[.int .i64 (2000 + (yn : Int)), .int .i64 ((m : Int) + 1), .int .i64 dd] 56 (0, 0))) := heap_below HB3.out hsz HG.out
              have HB3w : Hid (Below w.heap.size w w3) := HB.out.trans (HB3.out.mono HB.out.size)
              have hmd : m = mOf d := by
                have hI : IsDate d (yOf d) m := ⟨(isDate d h0 h1).y1, (isDate d h0 h1).y2, by omega, by rw [HYN.out, HBN.out]; have := HC.out; omega, by
                  rw [HYN.out, HBN.out, cum]
                  have h2 := HV.out
                  have h3 := HDD.out
                  omega⟩
                exact (hI.eq h0 h1).2
              have HMD := Lib.hid hmd
              clear hmd
              go_wp2_with (with_reducible refine wpList_store_far (o := ⟨none, .store 56 (.tmp 2) (.tmp 58), _, _, _, _⟩) rfl 56 (.tmp 2) (.tmp 58) rfl w.heap.size 56 #[.int .i64 0, .int .i64 0, .int .i64 0] #[.int .i64 (2000 + (yn : Int)), .int .i64 ((m : Int) + 1), .int .i64 dd] rfl rfl HR3.out HSS.out HOS.out HON.out w.heap.size w HB3w.out (Nat.le_refl _) ?_; intro w7 HR7 HB7 _)
              refine bodyPost_ret (ret_cell_row rfl rfl HR7.out Try.underlying56 rfl Try.sizeDate) rfl ?_
              exact ⟨dd, by rw [HYN.out, ← HMD.out]; rfl, HB7⟩
end Go.Proofs.Ytfffhdclbdmfnaa
