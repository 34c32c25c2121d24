/- The walk of the law Missing. -/
import Derived.Test.YtalclofogengpaaLw
namespace Go.Proofs.Ytalclofogengpaa
open Go.RowKit

theorem missL_more (x y : List Int) (k : Nat) : ∀ m, ∃ t, missL x y (k + m) = missL x y k ++ t
  | 0 => ⟨[], by simp⟩
  | m + 1 => by
    obtain ⟨t, ht⟩ := missL_more x y k m
    rw [← Nat.add_assoc, missL]
    split
    · exact ⟨t ++ [_], by rw [ht, List.append_assoc]⟩
    · exact ⟨t, ht⟩
theorem missL_at' {x y : List Int} {k : Nat} (N : Nat) (hk : k < N) (h : x.getD k 0 < y.getD k 0) : (missL x y N)[(missL x y k).length]? = some ⟨k, x.getD k 0 + 1, y.getD k 0⟩ := by
  obtain ⟨m, rfl⟩ : ∃ m, N = k + 1 + m := ⟨N - (k + 1), by omega⟩
  obtain ⟨t, ht⟩ := missL_more x y (k + 1) m
  rw [missL, if_pos h] at ht
  rw [ht, List.append_assoc]
  simp
theorem missL_at {x y : List Int} {k : Nat} (hk : k < 12) (h : x.getD k 0 < y.getD k 0) : (missL x y 12)[(missL x y k).length]? = some ⟨k, x.getD k 0 + 1, y.getD k 0⟩ := missL_at' 12 hk h
theorem missing_yes (A A' : Option Addr) (n n' : Nat) (xs ys : List Int) (c c' : Nat) (w : World) (B : Nat) (hx : Sl I w B A n xs) (hy : Sl I w B A' n' ys) (hB : B ≤ w.heap.size) (hl : n ≤ 1000000) (hl' : n' ≤ 1000000) (hv : (validB xs && validB ys) = true) :
    Calls Try.prog 18 #[.slice A n c, .slice A' n' c'] w (SlcN2 fR 3 (missL xs ys 12) 0 w) :=
  (missing_any A A' n n' xs ys c c' w B hx hy hB hl hl').mono fun e w' h => by
    rcases h with ⟨_, h⟩ | ⟨h, _⟩
    · exact h
    · rw [hv] at h; cases h
theorem missing_no (A A' : Option Addr) (n n' : Nat) (xs ys : List Int) (c c' : Nat) (w : World) (B : Nat) (hx : Sl I w B A n xs) (hy : Sl I w B A' n' ys) (hB : B ≤ w.heap.size) (hl : n ≤ 1000000) (hl' : n' ≤ 1000000) (hv : (validB xs && validB ys) = false) :
    Calls Try.prog 18 #[.slice A n c, .slice A' n' c'] w (SlcN2 fR 3 ([] : List Rg) 1 w) :=
  (missing_any A A' n n' xs ys c c' w B hx hy hB hl hl').mono fun e w' h => by
    rcases h with ⟨h, _⟩ | ⟨_, h⟩
    · rw [hv] at h; cases h
    · exact h
theorem getD_inR {x : List Int} (h : validB x = true) (k : Nat) : 0 ≤ x.getD k 0 ∧ x.getD k 0 ≤ 1099511627776 := inR_getD (by simp only [validB, Bool.and_eq_true] at h; exact h.1) k

set_option maxRecDepth 20000 in
set_option maxHeartbeats 1000000 in
theorem law_missing (A A' : Option Addr) (n n' : Nat) (xs ys : List Int) (c c' : Nat) (w : World) (hx : Sl I w w.heap.size A n xs) (hy : Sl I w w.heap.size A' n' ys) :
    Calls Try.prog 4 #[.slice A n c, .slice A' n' c'] w (Law w) := by
  have HX := Lib.hid hx
  have HY := Lib.hid hy
  clear hx hy
  by_cases h1 : n ≤ 20
  · by_cases h2 : n' ≤ 20
    · have cV1 : Hid (∀ W, Sl I W w.heap.size A n xs → Calls Try.prog 16 #[.slice A n c] W fun e w' => e = .returned (.bool (validB xs)) ∧ W = w') := fun W h => rvalid_n A n xs c W _ h (by omega)
      have cV2 : Hid (∀ W, Sl I W w.heap.size A' n' ys → Calls Try.prog 16 #[.slice A' n' c'] W fun e w' => e = .returned (.bool (validB ys)) ∧ W = w') := fun W h => rvalid_n A' n' ys c' W _ h (by omega)
      by_cases hv : validB xs = true
      · by_cases hw : validB ys = true
        · have cK := Lib.hid (missing_yes A A' n n' xs ys c c' w _ HX.out HY.out (Nat.le_refl _) (by omega) (by omega) (by rw [hv, hw]; rfl))
          have HGX : Hid (∀ k, 0 ≤ xs.getD k 0 ∧ xs.getD k 0 ≤ 1099511627776) := getD_inR hv
          have HGY : Hid (∀ k, 0 ≤ ys.getD k 0 ∧ ys.getD k 0 ≤ 1099511627776) := getD_inR hw
          go_enter Try.func4, Try.ntmps4
          go_wp2_with (first
            | (go_at_call 13; refine (few_n _ _ _ _).mono ?_; rintro e w' ⟨rfl, rfl⟩)
            | (go_at_call 18; refine cK.out.mono ?_
               rintro e w1 ⟨A1, n1, c1, rfl, hc1, hsl, hb⟩
               have HB := Lib.hid hb
               have HX1 := Lib.hid (HX.out.up hb (Nat.le_refl _))
               have HY1 := Lib.hid (HY.out.up hb (Nat.le_refl _))
               have HL := Lib.hid hsl
               have hn1 : n1 ≤ 12 := by rw [← hsl.1]; exact missL_len _ _ _
               have hs1 := hb.size
               clear hb hsl)
            | (go_at_call 16; (with_reducible refine (cV1.out _ HX1.out).mono ?_); rintro e w' ⟨rfl, rfl⟩)
            | (go_at_call 16; (with_reducible refine (cV2.out _ HY1.out).mono ?_); rintro e w' ⟨rfl, rfl⟩))
          go_loopw [7, 8] (fun a i wr => ∃ k m : Nat, k ≤ 12 ∧ i = .int .i64 k ∧ a = .int .i64 m ∧ m ≤ n1 ∧ Hid ((missL xs ys k).length = m) ∧ Hid (Below w1.heap.size w1 wr)) (fun _ i _ => 12 - (intOf i).toNat)
          case atStart => exact ⟨0, 0, by omega, rfl, rfl, by omega, rfl, Below.refl _ _⟩
          case round =>
            obtain ⟨k, m, hk, rfl, rfl, hm, HM, HBk⟩ := hrel
            by_cases hlt : k < 12
            · obtain ⟨x, hxk⟩ : ∃ x, xs.getD k 0 = x := ⟨_, rfl⟩
              obtain ⟨y, hyk⟩ : ∃ y, ys.getD k 0 = y := ⟨_, rfl⟩
              have bx := HGX.out k
              have by' := HGY.out k
              rw [hxk] at bx
              rw [hyk] at by'
              have c1' : Hid (∀ W, Sl I W w.heap.size A n xs → Calls Try.prog 19 #[.slice A n c, .int .i64 (k : Int)] W fun e w' => e = .returned (.int .i64 x) ∧ W = w') := fun W h => (by rw [gv_nat, hxk] : gv xs k = x) ▸ rget_any A n xs c k W _ h (by omega)
              have c2' : Hid (∀ W, Sl I W w.heap.size A' n' ys → Calls Try.prog 19 #[.slice A' n' c', .int .i64 (k : Int)] W fun e w' => e = .returned (.int .i64 y) ∧ W = w') := fun W h => (by rw [gv_nat, hyk] : gv ys k = y) ▸ rget_any A' n' ys c' k W _ h (by omega)
              have HXr := Lib.hid (HX1.out.up HBk.out hs1)
              have HYr := Lib.hid (HY1.out.up HBk.out hs1)
              by_cases hge : y ≤ x
              · have HM2 : Hid ((missL xs ys (k + 1)).length = m) := by show _ = _; rw [missL, if_neg (by rw [hxk, hyk]; omega), HM.out]
                clear hxk hyk
                go_wp2_with (first
                  | (go_at_call 19; (with_reducible refine (c1'.out _ HXr.out).mono ?_); rintro e w' ⟨rfl, rfl⟩)
                  | (go_at_call 19; (with_reducible refine (c2'.out _ HYr.out).mono ?_); rintro e w' ⟨rfl, rfl⟩))
                go_roundw
                case rel => exact ⟨k + 1, m, by omega, by go_num, rfl, hm, HM2, HBk⟩
                case measure => simp [intOf]; omega
              · have HM2 : Hid ((missL xs ys (k + 1)).length = m + 1) := by show _ = _; rw [missL, if_pos (by rw [hxk, hyk]; omega), List.length_append, HM.out]; rfl
                have hat := missL_at (x := xs) (y := ys) hlt (by rw [hxk, hyk]; omega)
                rw [HM.out, hxk, hyk] at hat
                have hmn : m < n1 := by have := (List.getElem?_eq_some_iff.1 hat).1; rw [HL.out.1] at this; exact this
                obtain ⟨b, off, e1, hlb, hcell⟩ := (HL.out.up HBk.out (Nat.le_refl _)).2 (by rw [HL.out.1]; omega)
                subst e1
                have d0 := hcell m _ hat 0 _ rfl
                have d1 := hcell m _ hat 1 _ rfl
                have d2 := hcell m _ hat 2 _ rfl
                simp only [Nat.add_zero] at d0
                rw [← Nat.add_assoc] at d1 d2
                have HXq : Hid (∀ a, Sl I (wr.drewN a) w.heap.size A n xs) := fun a => HXr.out
                have HYq : Hid (∀ a, Sl I (wr.drewN a) w.heap.size A' n' ys) := fun a => HYr.out
                have hwr : IntKind.i64.wrap (x + 1) = x + 1 := IntWalk.i64_in _ (by omega)
                have hg1 : decide ((n1 : Int) ≤ (m : Int)) = false := by simp; omega
                have hi1 : (0 : Int) ≤ (m : Int) := by omega
                have hi2 : (m : Int) < (n1 : Int) := by omega
                clear hxk hyk hcell hat
                go_wp2_with (first
                  | (go_at_call 19; (with_reducible refine (c1'.out _ HXr.out).mono ?_); rintro e w' ⟨rfl, rfl⟩)
                  | (go_at_call 19; (with_reducible refine (c2'.out _ HYr.out).mono ?_); rintro e w' ⟨rfl, rfl⟩))
                go_quiet ((first | (go_at_call 19; with_reducible exact Calls.quiet_of_same (same_of (c1'.out _ (HXq.out _)))) | (go_at_call 19; with_reducible exact Calls.quiet_of_same (same_of (c2'.out _ (HYq.out _))))))
                go_wp2
                go_roundw
                case rel => exact ⟨k + 1, m + 1, by omega, by go_num, by go_num, hmn, HM2, below_drewN HBk.out _⟩
                case measure => simp [intOf]; omega
            · obtain rfl : k = 12 := by omega
              have hmn : m = n1 := by rw [← HM.out, HL.out.1]
              subst hmn
              go_wp2_with (go_at_call 14; refine (law_awake w _ (HB.out.trans (HBk.out.mono hs1))).mono ?_; rintro e w2 ⟨rfl, hb2⟩)
              go_ret
              exact ⟨rfl, hb2⟩
        · have hF : validB ys = false := by simpa using hw
          have cK := Lib.hid (missing_no A A' n n' xs ys c c' w _ HX.out HY.out (Nat.le_refl _) (by omega) (by omega) (by rw [hF]; rw [Bool.and_false]))
          clear hw
          go_enter Try.func4, Try.ntmps4
          go_wp2_with (first
            | (go_at_call 13; refine (few_n _ _ _ _).mono ?_; rintro e w' ⟨rfl, rfl⟩)
            | (go_at_call 18; refine cK.out.mono ?_
               rintro e w1 ⟨A1, n1, c1, rfl, hc1, hsl, hb⟩
               have hn1 : n1 = 0 := hsl.1.symm
               subst hn1
               have HB := Lib.hid hb
               have HX1 := Lib.hid (HX.out.up hb (Nat.le_refl _))
               have HY1 := Lib.hid (HY.out.up hb (Nat.le_refl _))
               clear hb hsl)
            | (go_at_call 16; (with_reducible refine (cV1.out _ HX1.out).mono ?_); rintro e w' ⟨rfl, rfl⟩)
            | (go_at_call 16; (with_reducible refine (cV2.out _ HY1.out).mono ?_); rintro e w' ⟨rfl, rfl⟩)
            | (go_at_call 14; refine (law_awake w w1 HB.out).mono ?_; rintro e w2 ⟨rfl, hb2⟩))
          go_ret
          exact ⟨rfl, hb2⟩
      · have hF : validB xs = false := by simpa using hv
        have cK := Lib.hid (missing_no A A' n n' xs ys c c' w _ HX.out HY.out (Nat.le_refl _) (by omega) (by omega) (by rw [hF]; rw [Bool.false_and]))
        clear hv
        go_enter Try.func4, Try.ntmps4
        go_wp2_with (first
          | (go_at_call 13; refine (few_n _ _ _ _).mono ?_; rintro e w' ⟨rfl, rfl⟩)
          | (go_at_call 18; refine cK.out.mono ?_
             rintro e w1 ⟨A1, n1, c1, rfl, hc1, hsl, hb⟩
             have hn1 : n1 = 0 := hsl.1.symm
             subst hn1
             have HB := Lib.hid hb
             have HX1 := Lib.hid (HX.out.up hb (Nat.le_refl _))
             have HY1 := Lib.hid (HY.out.up hb (Nat.le_refl _))
             clear hb hsl)
          | (go_at_call 16; (with_reducible refine (cV1.out _ HX1.out).mono ?_); rintro e w' ⟨rfl, rfl⟩)
          | (go_at_call 16; (with_reducible refine (cV2.out _ HY1.out).mono ?_); rintro e w' ⟨rfl, rfl⟩)
          | (go_at_call 14; refine (law_awake w w1 HB.out).mono ?_; rintro e w2 ⟨rfl, hb2⟩))
        go_ret
        exact ⟨rfl, hb2⟩
    · go_enter Try.func4, Try.ntmps4
      go_wp2_with (first
        | (go_at_call 13; refine (few_n _ _ _ _).mono ?_; rintro e w' ⟨rfl, rfl⟩)
        | (go_at_call 14; refine (law_awake w w (Below.refl _ _)).mono ?_; rintro e w2 ⟨rfl, hb2⟩
           have HB2 := Lib.hid hb2
           clear hb2))
      go_ret
      exact ⟨rfl, HB2.out⟩
  · go_enter Try.func4, Try.ntmps4
    go_wp2_with (first
      | (go_at_call 13; refine (few_n _ _ _ _).mono ?_; rintro e w' ⟨rfl, rfl⟩)
      | (go_at_call 14; refine (law_awake w w (Below.refl _ _)).mono ?_; rintro e w2 ⟨rfl, hb2⟩
         have HB2 := Lib.hid hb2
         clear hb2))
    go_ret
    exact ⟨rfl, HB2.out⟩
end Go.Proofs.Ytalclofogengpaa
