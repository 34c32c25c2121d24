/- The examples of the chapter. -/
import Derived.Test.YtalclofogengpaaVvA
import Derived.Test.YtalclofogengpaaVvB
import Derived.Test.YtalclofogengpaaVvE
import Derived.Test.YtalclofogengpaaVvG
namespace Go.Proofs.Ytalclofogengpaa
open Go.RowKit

theorem ex_cmp1 : cmpI (pd [1]) (pd [1, 1]) = 1 := by decide
theorem ex_cmp2 : cmpI (pd [2, 0]) (pd [1, 1]) = 3 := by decide
theorem ex_merge : nrm (accN max [[2, 0, 0], [1, 1]] 2) = [2, 1] := by decide
theorem ex_miss : missL [1] [3, 0, 2] 12 = [⟨0, 2, 3⟩, ⟨2, 1, 2⟩] := by rfl
theorem ex_enc : encV [1, 0, 300, 0] = [3, 1, 0, 172, 2] := by decide

/-- 'string(b)'. -/
theorem run_conv_sl {P : Program} (src e dst : TypeId) (hs : P.underlying src = some (.slice e)) (he : P.underlying e = some (.int .u8)) (hd : P.underlying dst = some .string) (w : World) (B : Nat) (A : Option Addr) (n c : Nat) (xs : List Int) (h : Sl fB w B A n xs) :
    (convert src dst (.slice A n c)).run P w = .ok (.string (strOfNums xs)) w := by
  obtain ⟨rfl, h⟩ := h
  cases xs with
  | nil =>
    cases A with
    | none => exact run_convert_bytes_nil w src e hs he _ c dst hd
    | some ad =>
      rw [run_convert_bytes_string w src dst e _ _ c hs he hd]
      simp [Conv.bytesToString, strOfNums, loadCells, loadCellsFrom]
      rfl
  | cons x l =>
    obtain ⟨b, off, rfl, _, hc⟩ := h (by simp)
    exact run_convert_bytes_arg w src e hs he b off _ c (x :: l) rfl (fun i hi => by
      obtain ⟨z, hz⟩ := get_ex hi
      rw [hc i z hz, getD_of hz]) dst hd

/-- A literal slice of numbers in a block of its own. -/
theorem sl_lit (w : World) (xs : List Int) (t : TypeId) : Sl I (w.alloc (.cells (xs.map I).toArray t)) (w.heap.size + 1) (some ⟨w.heap.size, 0, none⟩) xs.length xs := ⟨rfl, SL.of_block (heap_alloc_new w _) (Nat.lt_succ_self _)⟩

theorem sl_one (w : World) (xs ys : List Int) (t u : TypeId) : Sl I ((w.alloc (.cells (xs.map I).toArray t)).alloc (.cells (ys.map I).toArray u)) (w.heap.size + 2) (some ⟨w.heap.size, 0, none⟩) xs.length xs :=
  ⟨rfl, SL.of_block ((Below.heap_alloc (w.alloc _) _ w.heap.size (by simp)).trans (heap_alloc_new w _)) (by omega)⟩
theorem sl_two (w : World) (xs ys : List Int) (t u : TypeId) : Sl I ((w.alloc (.cells (xs.map I).toArray t)).alloc (.cells (ys.map I).toArray u)) (w.heap.size + 2) (some ⟨w.heap.size + 1, 0, none⟩) ys.length ys :=
  ⟨rfl, SL.of_block (heap_alloc2_new w _ _) (by omega)⟩
theorem below2 (w : World) (o p : Obj) : Below w.heap.size w ((w.alloc o).alloc p) := ((Below.refl _ _).alloc (Nat.le_refl _) _).alloc (by simp) _

theorem aw_cmp (w : World) (xs ys : List Int) (n m r : Nat) (hn : xs.length = n) (hm : ys.length = m) (hn' : n ≤ 12) (hm' : m ≤ 12) (hv : (validB xs && validB ys) = true) (hr : cmpI (pd xs) (pd ys) = r) :
    Calls Try.prog 15 #[.slice (some ⟨w.heap.size, 0, none⟩) n n, .slice (some ⟨w.heap.size + 1, 0, none⟩) m m] ((w.alloc (.cells (xs.map I).toArray 3)).alloc (.cells (ys.map I).toArray 3))
      fun e w' => e = .returned (.tuple #[.int .i64 r, .int .i64 0]) ∧ Below w.heap.size w w' := by
  subst hn hm
  exact (compare_any _ _ _ _ xs ys _ _ _ _ (sl_one w xs ys 3 3) (sl_two w xs ys 3 3) (by simp) (by omega) (by omega)).mono fun e w' ⟨h, hb⟩ => ⟨by rw [h, if_pos hv, hr], (below2 w _ _).trans (hb.mono (by simp; omega))⟩

theorem aw_merge (w : World) (xs ys r : List Int) (n m : Nat) (hn : xs.length = n) (hm : ys.length = m) (hn' : n ≤ 12) (hm' : m ≤ 12) (hv : ([xs, ys].all validB) = true) (hr : nrm (accN max [xs, ys] 2) = r) :
    Calls Try.prog 20 #[.slice (some ⟨w.heap.size + 2, 0, none⟩) 2 2] (((w.alloc (.cells (xs.map I).toArray 3)).alloc (.cells (ys.map I).toArray 3)).alloc (.cells #[.slice (some ⟨w.heap.size, 0, none⟩) n n, .slice (some ⟨w.heap.size + 1, 0, none⟩) m m] 22))
      (fun e w' => ∃ A n c, e = .returned (.tuple #[.slice A n c, .int .i64 0]) ∧ Sl I w' w'.heap.size A n r ∧ Below w.heap.size w w') := by
  subst hn hm
  have hb3 : Below (w.heap.size + 2) ((w.alloc (.cells (xs.map I).toArray 3)).alloc (.cells (ys.map I).toArray 3)) (((w.alloc (.cells (xs.map I).toArray 3)).alloc (.cells (ys.map I).toArray 3)).alloc (.cells #[.slice (some ⟨w.heap.size, 0, none⟩) xs.length xs.length, .slice (some ⟨w.heap.size + 1, 0, none⟩) ys.length ys.length] 22)) := (Below.refl _ _).alloc (by simp) _
  have hsll : SLL I (((w.alloc (.cells (xs.map I).toArray 3)).alloc (.cells (ys.map I).toArray 3)).alloc (.cells #[.slice (some ⟨w.heap.size, 0, none⟩) xs.length xs.length, .slice (some ⟨w.heap.size + 1, 0, none⟩) ys.length ys.length] 22)) (w.heap.size + 3) (some ⟨w.heap.size + 2, 0, none⟩) 2 [xs, ys] := by
    refine ⟨[⟨some ⟨w.heap.size, 0, none⟩, xs.length, xs.length⟩, ⟨some ⟨w.heap.size + 1, 0, none⟩, ys.length, ys.length⟩], ⟨rfl, fun _ => ⟨w.heap.size + 2, 0, rfl, by omega, At.of_block (t := 22) (fr := (0, 0)) ?_⟩⟩, rfl, ?_⟩
    · have := heap_alloc_new ((w.alloc (.cells (xs.map I).toArray 3)).alloc (.cells (ys.map I).toArray 3)) (.cells #[.slice (some ⟨w.heap.size, 0, none⟩) xs.length xs.length, .slice (some ⟨w.heap.size + 1, 0, none⟩) ys.length ys.length] 22)
      rw [show ((w.alloc (.cells (xs.map I).toArray 3)).alloc (.cells (ys.map I).toArray 3)).heap.size = w.heap.size + 2 by simp] at this
      exact this
    · intro k h v hh hv
      match k, hh, hv with
      | 0, hh, hv =>
        simp at hh hv; subst hh; subst hv
        exact ((sl_one w xs ys 3 3).up hb3 (Nat.le_refl _)).more' (by omega)
      | 1, hh, hv =>
        simp at hh hv; subst hh; subst hv
        exact ((sl_two w xs ys 3 3).up hb3 (Nat.le_refl _)).more' (by omega)
  refine (vmerge_any _ _ [xs, ys] _ _ _ hsll (by simp) (by omega) (by simp; omega)).mono ?_
  rintro e w' (⟨_, A, n, c, rfl, _, h, hb⟩ | ⟨h0, _⟩)
  · exact ⟨A, n, c, rfl, by rw [← hr]; exact h, (below2 w _ _).trans ((hb3.mono (by omega)).trans (hb.mono (by simp; omega)))⟩
  · rw [hv] at h0; cases h0

theorem aw_miss (w : World) (xs ys : List Int) (r : List Rg) (n m : Nat) (hn : xs.length = n) (hm : ys.length = m) (hn' : n ≤ 12) (hm' : m ≤ 12) (hv : (validB xs && validB ys) = true) (hr : missL xs ys 12 = r) :
    Calls Try.prog 18 #[.slice (some ⟨w.heap.size, 0, none⟩) n n, .slice (some ⟨w.heap.size + 1, 0, none⟩) m m] ((w.alloc (.cells (xs.map I).toArray 3)).alloc (.cells (ys.map I).toArray 3))
      fun e w' => ∃ A n c, e = .returned (.tuple #[.slice A n c, .int .i64 0]) ∧ SlN fR 3 w' w'.heap.size A n r ∧ Below w.heap.size w w' := by
  subst hn hm
  refine (missing_any _ _ _ _ xs ys _ _ _ _ (sl_one w xs ys 3 3) (sl_two w xs ys 3 3) (by simp) (by omega) (by omega)).mono ?_
  rintro e w' (⟨_, A, n, c, rfl, _, h, hb⟩ | ⟨h0, _⟩)
  · exact ⟨A, n, c, rfl, by rw [← hr]; exact h, (below2 w _ _).trans (hb.mono (by simp; omega))⟩
  · rw [hv] at h0; cases h0

theorem aw_enc (w : World) (xs r : List Int) (n : Nat) (hn : xs.length = n) (hn' : n ≤ 12) (hv : validB xs = true) (hr : encV xs = r) :
    Calls Try.prog 36 #[.slice (some ⟨w.heap.size, 0, none⟩) n n] (w.alloc (.cells (xs.map I).toArray 3))
      (fun e w' => ∃ A n c, e = .returned (.tuple #[.slice A n c, .int .i64 0]) ∧ Sl fB w' w'.heap.size A n r ∧ Below w.heap.size w w') := by
  subst hn
  refine (encode_any _ _ xs _ _ _ (sl_lit w xs 3) (by simp) (by omega)).mono ?_
  rintro e w' (⟨_, A, n, c, rfl, _, h, hb⟩ | ⟨h0, _⟩)
  · exact ⟨A, n, c, rfl, by rw [← hr]; exact h, ((Below.refl _ _).alloc (Nat.le_refl _) _).trans (hb.mono (by simp))⟩
  · rw [hv] at h0; cases h0

set_option maxHeartbeats 1000000 in
theorem awake_any (w : World) : Calls Try.prog 14 #[] w fun e w' => e = .returned (.bool true) ∧ Below w.heap.size w w' := by
  go_enter Try.func14, Try.ntmps14
  go_wp2_with fail
  refine (aw_cmp w [1] [1, 1] 1 2 1 rfl rfl (by omega) (by omega) (by decide) ex_cmp1).mono ?_; rintro e w1 ⟨rfl, hb1⟩
  have HB1 := Lib.hid hb1
  clear hb1
  go_wp2_with fail
  refine (aw_cmp w1 [2, 0] [1, 1] 2 2 3 rfl rfl (by omega) (by omega) (by decide) ex_cmp2).mono ?_; rintro e w2 ⟨rfl, hb2⟩
  have HB2 : Hid (Below w.heap.size w w2) := HB1.out.trans (hb2.mono HB1.out.size)
  clear hb2
  go_wp2_with fail
  refine (aw_merge w2 [2, 0, 0] [1, 1] [2, 1] 3 2 rfl rfl (by omega) (by omega) (by decide) ex_merge).mono ?_; rintro e w3 ⟨A3, n3, c3, rfl, hs3, hb3⟩
  have HB3 : Hid (Below w.heap.size w w3) := HB2.out.trans (hb3.mono HB2.out.size)
  have HS3 := Lib.hid hs3
  clear hb3 hs3
  go_wp2_with fail
  refine (aw_miss w3 [1] [3, 0, 2] [⟨0, 2, 3⟩, ⟨2, 1, 2⟩] 1 3 rfl rfl (by omega) (by omega) (by decide) ex_miss).mono ?_; rintro e w4 ⟨A4, n4, c4, rfl, hs4, hb4⟩
  have HB4 : Hid (Below w.heap.size w w4) := HB3.out.trans (hb4.mono HB3.out.size)
  have HS3b := Lib.hid (HS3.out.up hb4 (Nat.le_refl _))
  have HS4 := Lib.hid hs4
  have hs34 := hb4.size
  clear hb4 hs4
  go_wp2_with fail
  refine (aw_enc w4 [1, 0, 300, 0] [3, 1, 0, 172, 2] 4 rfl (by omega) (by decide) ex_enc).mono ?_; rintro e w5 ⟨A5, n5, c5, rfl, hs5, hb5⟩
  have HB5 : Hid (Below w.heap.size w w5) := HB4.out.trans (hb5.mono HB4.out.size)
  have HS3c := Lib.hid (HS3b.out.up hb5 (by omega))
  have HS4c := Lib.hid (HS4.out.up hb5 (Nat.le_refl _))
  have HS5 := Lib.hid hs5
  have hs45 := hb5.size
  clear hb5 hs5
  obtain ⟨b4, off4, rfl, hlt4, hc4⟩ := HS4c.out.2 (by simp)
  have hn4 := HS4c.out.1
  have d0 := hc4 0 _ rfl 0 _ rfl
  have d1 := hc4 0 _ rfl 1 _ rfl
  have d2 := hc4 0 _ rfl 2 _ rfl
  simp at hn4 d0 d1 d2
  subst hn4
  clear hc4
  have hlt4' : b4 < w5.heap.size := by omega
  have hb6 : Below w5.heap.size w5 (w5.alloc (.cells #[.int .i64 2, .int .i64 1] 3)) := (Below.refl _ _).alloc (Nat.le_refl _) _
  have hn3 := HS3c.out.1
  simp at hn3
  subst hn3
  have HI := Lib.hid (ints_any A3 (some ⟨w5.heap.size, 0, none⟩) 2 2 [2, 1] [2, 1] c3 2 (w5.alloc (.cells #[.int .i64 2, .int .i64 1] 3)) (w5.heap.size + 1) ((HS3c.out.up hb6 (by omega)).more' (by omega)) (sl_lit w5 [2, 1] 3) (by omega) (by omega))
  have HS6 := HS5.out.up hb6 (Nat.le_refl _)
  have hconv := fun r => run_conv_sl (P := Try.prog) 50 5 9 Try.underlying50 Try.underlying5 Try.underlying9 ((w5.alloc (.cells #[.int .i64 2, .int .i64 1] 3)).drewN r) w5.heap.size A5 n5 c5 _ HS6
  have HB6 := Lib.hid hb6
  clear hb6 HS6
  go_wp2_with (go_at_call 25; refine HI.out.mono ?_; rintro e w6 ⟨rfl, r, rfl⟩)
  go_ret
  exact ⟨ret_bool (by decide +kernel), below_drewN (HB5.out.trans (HB6.out.mono HB5.out.size)) _⟩
end Go.Proofs.Ytalclofogengpaa
