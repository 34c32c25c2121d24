/- The walk of the law CatchesUp. -/
import Derived.Test.YtalclofogengpaaTwo
import Derived.Test.YtalclofogengpaaLwB
import Derived.Test.YtalclofogengpaaVvF
namespace Go.Proofs.Ytalclofogengpaa
open Go.RowKit

theorem extT_app (x : List Int) (rs t : List Rg) (k : Nat) (h : k ≤ rs.length) : extT x (rs ++ t) k = extT x rs k := by
  induction k with
  | zero => rfl
  | succ k ih => rw [extT, extT, ih (by omega), List.getElem?_append_left (by omega)]
theorem extT_snoc (x : List Int) (rs : List Rg) (r : Rg) : extT x (rs ++ [r]) (rs.length + 1) = (extT x rs rs.length).bind fun y => extS y r := by
  rw [extT, extT_app x rs [r] _ (Nat.le_refl _)]
  simp
theorem set_self (x : List Int) (k : Nat) (v : Int) (h : x.getD k 0 = v) : x.set k v = x := by
  rcases Nat.lt_or_ge k x.length with hk | hk
  · refine ext_getD (by simp) fun j _ => ?_
    rw [set_getD _ _ _ _ hk]
    split
    · rename_i e; subst e; exact h.symm
    · rfl
  · exact List.set_eq_of_length_le hk
theorem ext_miss {h q : List Int} (hv : validB h = true) (k : Nat) (hk : k ≤ 12) : extT (pad h) (missL h q k) (missL h q k).length = some (mix max (pad h) (pad q) k) := by
  have hp := pad_len_of hv
  induction k with
  | zero => rfl
  | succ k ih =>
    have ih := ih (by omega)
    have hg : (mix max (pad h) (pad q) k).getD k 0 = h.getD k 0 := by rw [mix_getD _ _ _ _ _ (by omega), if_neg (by omega), pad_getD]
    rw [missL, mix, pad_getD, pad_getD]
    by_cases hlt : h.getD k 0 < q.getD k 0
    · rw [if_pos hlt, List.length_append, List.length_singleton, extT_snoc, ih, Option.bind_some, extS]
      show (if (mix max (pad h) (pad q) k).getD (Int.toNat k) 0 + 1 < h.getD k 0 + 1 then none else _) = _
      rw [Int.toNat_natCast, hg, if_neg (by omega)]
    · rw [if_neg hlt, ih, set_self]
      rw [hg]; omega
theorem miss_ok {h q : List Int} (hv : validB h = true) (hw : validB q = true) (k : Nat) (hk : k ≤ 12) : (missL h q k).all rgB = true := by
  induction k with
  | zero => rfl
  | succ k ih =>
    rw [missL]
    split
    · rename_i hlt
      have h1 := valid_getD hv k
      have h2 := valid_getD hw k
      rw [List.all_append, ih (by omega)]
      simp only [List.all_cons, List.all_nil, rgB, devB, Bool.true_and, Bool.and_true, Bool.and_eq_true, decide_eq_true_eq]
      omega
    · exact ih (by omega)
theorem miss_nil {x y : List Int} (N : Nat) (h : ∀ k, k < N → ¬ x.getD k 0 < y.getD k 0) : missL x y N = [] := by
  induction N with
  | zero => rfl
  | succ N ih => rw [missL, if_neg (h N (by omega)), ih fun k hk => h k (by omega)]
theorem mm_cov {h q : List Int} (hv : validB h = true) (hw : validB q = true) : missL (MM max h q) q 12 = [] := miss_nil 12 fun k _ => by rw [max_getD hv hw]; omega
theorem mm_mix {h q : List Int} (hv : validB h = true) (hw : validB q = true) : nrm (mix max (pad h) (pad q) 12) = MM max h q := by
  have h1 := pad_len_of hv
  have h2 := valid_len hv
  have h3 := valid_len hw
  refine nrm_congr fun j => ?_
  rw [mix_getD _ _ _ _ _ (by omega), zw_getD (by decide) h2 h3, pad_getD, pad_getD]
  split
  · rfl
  · rw [getD_out (x := h) (by omega), getD_out (x := q) (by omega)]; rfl
theorem cu_cmp {h q : List Int} (hv : validB h = true) (hw : validB q = true) : cmpI (pd (MM max h q)) (pd h) = if (missL h q 12).length = 0 then 0 else 2 := by
  have e1 : coversB (MM max h q) h = true := coversB_yes fun k _ => by rw [max_getD hv hw]; omega
  rw [pd_yes hv, pd_yes (MMmax_valid hv hw), cmpI, coversB_pad, coversB_pad, e1, if_pos rfl]
  by_cases hl : (missL h q 12).length = 0
  · have e2 : coversB h (MM max h q) = true := coversB_yes fun k hk => by
      rw [max_getD hv hw]
      have : ¬ h.getD k 0 < q.getD k 0 := fun hlt => by
        have h1 := missL_at hk hlt
        rw [List.getElem?_eq_none (by omega)] at h1
        cases h1
      omega
    rw [e2, if_pos rfl, if_pos hl]
  · have e2 : ¬ coversB h (MM max h q) = true := fun hc => hl (by
      rw [miss_nil 12]
      · rfl
      · intro k hk hlt
        have h3 : (MM max h q).getD k 0 = max (h.getD k 0) (q.getD k 0) := max_getD hv hw k
        rw [coversB_no hk (by rw [h3]; omega)] at hc
        cases hc)
    rw [if_neg e2, if_neg hl]
theorem ext_yes (A : Option Addr) (n : Nat) (h q : List Int) (c : Nat) (A' : Option Addr) (n' c' : Nat) (w : World) (hx : Sl I w w.heap.size A n h) (hr : SlN fR 3 w w.heap.size A' n' (missL h q 12)) (hl : n ≤ 1000000) (hl' : n' ≤ 1000000) (hv : validB h = true) (hw : validB q = true) :
    Calls Try.prog 26 #[.slice A n c, .slice A' n' c'] w (Slc2 I (MM max h q) 0 w) :=
  (vextend_any A n h c A' n' _ c' w _ hx hr (Nat.le_refl _) hl hl').mono fun e w' hh => by
    have h0 : (validB h && (missL h q 12).all rgB) = true := by rw [hv, miss_ok hv hw 12 (Nat.le_refl _)]; rfl
    rcases hh with ⟨h1, _⟩ | ⟨_, h1, _⟩ | ⟨_, y, h1, hh⟩
    · rw [h0] at h1; cases h1
    · rw [ext_miss hv 12 (Nat.le_refl _)] at h1; cases h1
    · rw [ext_miss hv 12 (Nat.le_refl _)] at h1
      cases h1
      rw [mm_mix hv hw] at hh
      exact hh
theorem cmp_yes (A A' : Option Addr) (n n' : Nat) (h q : List Int) (c c' : Nat) (w : World) (r : Int) (hx : Sl I w w.heap.size A n (MM max h q)) (hy : Sl I w w.heap.size A' n' h) (hl : n ≤ 1000000) (hl' : n' ≤ 1000000) (hv : validB h = true) (hw : validB q = true) (hr : (if (missL h q 12).length = 0 then 0 else 2) = r) :
    Calls Try.prog 15 #[.slice A n c, .slice A' n' c'] w fun e w' => e = .returned (.tuple #[.int .i64 r, .int .i64 0]) ∧ Below w.heap.size w w' := by
  have := compare_any A A' n n' _ h c c' w _ hx hy (Nat.le_refl _) hl hl'
  rw [cu_cmp hv hw, hr, MMmax_valid hv hw, hv, if_pos (by rfl)] at this
  exact this

set_option maxRecDepth 20000 in
set_option maxHeartbeats 2000000 in
theorem law_catchesup_yes (A A' : Option Addr) (n n' c c' : Nat) (h q : List Int) (w : World) (hx : Sl I w w.heap.size A n h) (hy : Sl I w w.heap.size A' n' q) (h1 : n ≤ 20) (h2 : n' ≤ 20) (hv : validB h = true) (hw : validB q = true) :
    Calls Try.prog 8 #[.slice A n c, .slice A' n' c'] w (Law w) := by
  have HX := Lib.hid hx
  have HY := Lib.hid hy
  have HV : Hid (validB h = true) := hv
  have HW : Hid (validB q = true) := hw
  have cV1 : Hid (∀ W, Sl I W W.heap.size A n h → Calls Try.prog 16 #[.slice A n c] W fun e w' => e = .returned (.bool true) ∧ W = w') := fun W hh => by rw [← HV.out]; exact rvalid_n A n h c W _ hh (by omega)
  have cV2 : Hid (∀ W, Sl I W W.heap.size A' n' q → Calls Try.prog 16 #[.slice A' n' c'] W fun e w' => e = .returned (.bool true) ∧ W = w') := fun W hh => by rw [← HW.out]; exact rvalid_n A' n' q c' W _ hh (by omega)
  have cK := Lib.hid (missing_yes A A' n n' h q c c' w _ hx hy (Nat.le_refl _) (by omega) (by omega) (by rw [hv, hw]; rfl))
  clear hx hy hv hw
  go_enter Try.func8, Try.ntmps8
  go_wp2_with (first
    | (go_at_call 13; refine (few_n _ _ _ _).mono ?_; rintro e w' ⟨rfl, rfl⟩)
    | (go_at_call 16; (with_reducible refine (cV1.out _ HX.out).mono ?_); rintro e w' ⟨rfl, rfl⟩)
    | (go_at_call 16; (with_reducible refine (cV2.out _ HY.out).mono ?_); rintro e w' ⟨rfl, rfl⟩))
  refine cK.out.mono ?_; rintro e w1 ⟨A1, n1, c1, rfl, hc1, hs, hb⟩
  have HB1 := Lib.hid hb
  have HX1 := Lib.hid (HX.out.on hb)
  have HY1 := Lib.hid (HY.out.on hb)
  have hn1 : n1 ≤ 12 := by rw [← hs.1]; exact missL_len _ _ _
  have HN1 : Hid ((missL h q 12).length = n1) := hs.1
  have HL := Lib.hid hs
  clear hs hb cK
  go_wp2_with fail
  refine (ext_yes _ _ h q _ _ _ _ _ HX1.out HL.out (by omega) (by omega) HV.out HW.out).mono ?_; rintro e w2 ⟨A2, n2, c2, rfl, hc2, hs, hb⟩
  have HB2 : Hid (Below w.heap.size w w2) := HB1.out.trans (hb.mono HB1.out.size)
  have HX2 := Lib.hid (HX1.out.on hb)
  have HY2 := Lib.hid (HY1.out.on hb)
  have hn2 : n2 ≤ 12 := by rw [← hs.1]; exact MM_len _ _ _
  have S2 := Lib.hid hs
  clear hs hb HL
  go_wp2_with fail
  refine (merge2 _ _ _ _ _ _ h q _ HX2.out HY2.out HV.out HW.out).mono ?_; rintro e w3 ⟨A3, n3, c3, rfl, hs, hc3, hb⟩
  have HB3 : Hid (Below w.heap.size w w3) := HB2.out.trans (hb.mono HB2.out.size)
  have HX3 := Lib.hid (HX2.out.on hb)
  have HY3 := Lib.hid (HY2.out.on hb)
  have S3 := Lib.hid (S2.out.on hb)
  have hn3 : n3 ≤ 12 := by rw [← hs.1]; exact MM_len _ _ _
  have T3 := Lib.hid hs
  clear hs hb
  go_wp2_with fail
  refine (missing_yes _ _ _ _ (MM max h q) q _ _ _ _ S3.out HY3.out (Nat.le_refl _) (by omega) (by omega) (by rw [MMmax_valid HV.out HW.out, HW.out]; rfl)).mono ?_; rintro e w4 ⟨A4, n4, c4, rfl, hc4, hs, hb⟩
  rw [mm_cov HV.out HW.out] at hs
  obtain rfl : 0 = n4 := hs.1
  have HB4 : Hid (Below w.heap.size w w4) := HB3.out.trans (hb.mono HB3.out.size)
  have HX4 := Lib.hid (HX3.out.on hb)
  have S4 := Lib.hid (S3.out.on hb)
  have T4 := Lib.hid (T3.out.on hb)
  clear hs hb
  obtain ⟨r, hr⟩ : ∃ r : Int, (if (missL h q 12).length = 0 then 0 else 2) = r := ⟨_, rfl⟩
  have HR := Lib.hid hr
  clear hr
  go_wp2_with fail
  refine (cmp_yes _ _ _ _ h q _ _ _ r S4.out HX4.out (by omega) (by omega) HV.out HW.out HR.out).mono ?_; rintro e w5 ⟨rfl, hb⟩
  have HB5 : Hid (Below w.heap.size w w5) := HB4.out.trans (hb.mono HB4.out.size)
  have S5 := Lib.hid (S4.out.on hb)
  have T5 := Lib.hid (T4.out.on hb)
  clear hb
  go_wp2_with fail
  refine (awake_any w5).mono ?_; rintro e w6 ⟨rfl, hb⟩
  have HB6 : Hid (Below w.heap.size w w6) := HB5.out.trans (hb.mono HB5.out.size)
  have S6 := Lib.hid (S5.out.on hb)
  have T6 := Lib.hid (T5.out.on hb)
  clear hb
  go_wp2_with fail
  refine (ints_eq _ _ _ _ (MM max h q) (MM max h q) _ _ _ S6.out T6.out (by omega) (by omega) rfl).mono ?_; rintro e w7 ⟨rfl, hb⟩
  have HB7 : Hid (Below w.heap.size w w7) := HB6.out.trans (hb.mono HB6.out.size)
  clear hb
  by_cases h0 : n1 = 0
  · obtain rfl : r = 0 := by rw [← HR.out, HN1.out, if_pos h0]
    clear HN1 HR
    subst h0
    go_wp2
    go_ret
    exact ⟨rfl, HB7.out⟩
  · obtain rfl : r = 2 := by rw [← HR.out, HN1.out, if_neg h0]
    have hnb : ((n1 : Int) == 0) = false := by simpa using h0
    clear HN1 HR
    go_wp2
    go_ret
    exact ⟨rfl, HB7.out⟩

set_option maxRecDepth 20000 in
set_option maxHeartbeats 2000000 in
theorem law_catchesup (A A' : Option Addr) (n n' c c' : Nat) (h q : List Int) (w : World) (hx : Sl I w w.heap.size A n h) (hy : Sl I w w.heap.size A' n' q) :
    Calls Try.prog 8 #[.slice A n c, .slice A' n' c'] w (Law w) := by
  by_cases h1 : n ≤ 20
  · by_cases h2 : n' ≤ 20
    · by_cases hall : validB h = true ∧ validB q = true
      · exact law_catchesup_yes A A' n n' c c' h q w hx hy h1 h2 hall.1 hall.2
      have cV1 : Hid (∀ W, Sl I W W.heap.size A n h → Calls Try.prog 16 #[.slice A n c] W fun e w' => e = .returned (.bool (validB h)) ∧ W = w') := fun W hh => rvalid_n A n h c W _ hh (by omega)
      have cV2 : Hid (∀ W, Sl I W W.heap.size A' n' q → Calls Try.prog 16 #[.slice A' n' c'] W fun e w' => e = .returned (.bool (validB q)) ∧ W = w') := fun W hh => rvalid_n A' n' q c' W _ hh (by omega)
      have HX := Lib.hid hx
      have HY := Lib.hid hy
      obtain ⟨va, hva⟩ : ∃ v, validB h = v := ⟨_, rfl⟩
      obtain ⟨vb, hvb⟩ : ∃ v, validB q = v := ⟨_, rfl⟩
      rw [hva] at cV1
      rw [hvb] at cV2
      rw [hva, hvb] at hall
      clear hva hvb hx hy
      cases va <;> cases vb
      all_goals first
        | exact absurd ⟨rfl, rfl⟩ hall
        | (clear hall
           go_enter Try.func8, Try.ntmps8
           go_wp2_with (first
             | (go_at_call 13; refine (few_n _ _ _ _).mono ?_; rintro e w' ⟨rfl, rfl⟩)
             | (go_at_call 16; (with_reducible refine (cV1.out _ HX.out).mono ?_); rintro e w' ⟨rfl, rfl⟩)
             | (go_at_call 16; (with_reducible refine (cV2.out _ HY.out).mono ?_); rintro e w' ⟨rfl, rfl⟩)
             | (go_at_call 14; refine (law_awake w w (Below.refl _ _)).mono ?_; rintro e w2 ⟨rfl, hb2⟩))
           go_ret
           exact ⟨rfl, hb2⟩)
    · go_enter Try.func8, Try.ntmps8
      go_wp2_with (first
        | (go_at_call 13; refine (few_n _ _ _ _).mono ?_; rintro e w' ⟨rfl, rfl⟩)
        | (go_at_call 14; refine (law_awake w w (Below.refl _ _)).mono ?_; rintro e w2 ⟨rfl, hb2⟩))
      go_ret
      exact ⟨rfl, hb2⟩
  · go_enter Try.func8, Try.ntmps8
    go_wp2_with (first
      | (go_at_call 13; refine (few_n _ _ _ _).mono ?_; rintro e w' ⟨rfl, rfl⟩)
      | (go_at_call 14; refine (law_awake w w (Below.refl _ _)).mono ?_; rintro e w2 ⟨rfl, hb2⟩))
    go_ret
    exact ⟨rfl, hb2⟩
end Go.Proofs.Ytalclofogengpaa
