/- The walk of the law Compares. -/
import Derived.Test.YtalclofogengpaaLw
namespace Go.Proofs.Ytalclofogengpaa
open Go.RowKit

set_option maxHeartbeats 1000000 in
theorem law_compares (A A' : Option Addr) (n n' : Nat) (xs ys : List Int) (c c' : Nat) (w : World) (hx : Sl I w w.heap.size A n xs) (hy : Sl I w w.heap.size A' n' ys) :
    Calls Try.prog 3 #[.slice A n c, .slice A' n' c'] w (Law w) := by
  have HX := Lib.hid hx
  have HY := Lib.hid hy
  clear hx hy
  by_cases h1 : n ≤ 20
  · by_cases h2 : n' ≤ 20
    · obtain ⟨va, hva⟩ : ∃ b, b = validB xs := ⟨_, rfl⟩
      obtain ⟨vb, hvb⟩ : ∃ b, b = validB ys := ⟨_, rfl⟩
      obtain ⟨b1, hb1⟩ : ∃ b, b = coversB xs ys := ⟨_, rfl⟩
      obtain ⟨b2, hb2⟩ : ∃ b, b = coversB ys xs := ⟨_, rfl⟩
      have cV1 : Hid (∀ W, Sl I W w.heap.size A n xs → Calls Try.prog 16 #[.slice A n c] W fun e w' => e = .returned (.bool va) ∧ W = w') := fun W h => by rw [hva]; exact rvalid_n A n xs c W _ h (by omega)
      have cV2 : Hid (∀ W, Sl I W w.heap.size A' n' ys → Calls Try.prog 16 #[.slice A' n' c'] W fun e w' => e = .returned (.bool vb) ∧ W = w') := fun W h => by rw [hvb]; exact rvalid_n A' n' ys c' W _ h (by omega)
      have cC1 : Hid (∀ W, Sl I W w.heap.size A n xs → Sl I W w.heap.size A' n' ys → Calls Try.prog 17 #[.slice A n c, .slice A' n' c'] W fun e w' => e = .returned (.bool b1) ∧ W = w') := fun W h h' => by rw [hb1]; exact rcovers_any A A' n n' xs ys c c' W _ h h' (by omega) (by omega)
      have cC2 : Hid (∀ W, Sl I W w.heap.size A n xs → Sl I W w.heap.size A' n' ys → Calls Try.prog 17 #[.slice A' n' c', .slice A n c] W fun e w' => e = .returned (.bool b2) ∧ W = w') := fun W h h' => by rw [hb2]; exact rcovers_any A' A n' n ys xs c' c W _ h' h (by omega) (by omega)
      obtain ⟨r, hr⟩ : ∃ r : Int, r = if b1 = true then (if b2 = true then 0 else 2) else (if b2 = true then 1 else 3) := ⟨_, rfl⟩
      have cK : Hid (Calls Try.prog 15 #[.slice A n c, .slice A' n' c'] w fun e w' => e = .returned (if (va && vb) = true then .tuple #[.int .i64 r, .int .i64 0] else .tuple #[.int .i64 0, .int .i64 1]) ∧ Below w.heap.size w w') := by
        refine (compare_any A A' n n' xs ys c c' w _ HX.out HY.out (Nat.le_refl _) (by omega) (by omega)).mono fun e w' ⟨h, h'⟩ => ⟨?_, h'⟩
        rw [h, ← hva, ← hvb]
        by_cases hv : (va && vb) = true
        · rw [if_pos hv, if_pos hv]
          simp only [Bool.and_eq_true] at hv
          have e1 : cmpI (pd xs) (pd ys) = r := by
            rw [pd_yes (hva ▸ hv.1), pd_yes (hvb ▸ hv.2), cmpI, coversB_pad, coversB_pad, ← hb1, ← hb2, hr]
          rw [e1]
        · rw [if_neg hv, if_neg hv]
      have HR := Lib.hid hr
      clear hva hvb hb1 hb2 hr
      cases va <;> cases vb
      rotate_right
      · cases b1 <;> cases b2
        all_goals
          have hr := HR.out
          simp at hr
          subst hr
          go_enter Try.func3, Try.ntmps3
          go_wp2_with (first
            | (go_at_call 13; refine (few_n _ _ _ _).mono ?_; rintro e w' ⟨rfl, rfl⟩)
            | (go_at_call 15; refine cK.out.mono ?_; rintro e w1 ⟨rfl, hb⟩
               have HB := Lib.hid hb
               have HX1 := Lib.hid (HX.out.up hb (Nat.le_refl _))
               have HY1 := Lib.hid (HY.out.up hb (Nat.le_refl _))
               clear hb)
            | (go_at_call 16; (with_reducible refine (cV1.out _ HX1.out).mono ?_); rintro e w' ⟨rfl, rfl⟩)
            | (go_at_call 16; (with_reducible refine (cV2.out _ HY1.out).mono ?_); rintro e w' ⟨rfl, rfl⟩)
            | (go_at_call 17; (with_reducible refine (cC1.out _ HX1.out HY1.out).mono ?_); rintro e w' ⟨rfl, rfl⟩)
            | (go_at_call 17; (with_reducible refine (cC2.out _ HX1.out HY1.out).mono ?_); rintro e w' ⟨rfl, rfl⟩)
            | (go_at_call 14; refine (law_awake w w1 HB.out).mono ?_; rintro e w2 ⟨rfl, hb2⟩
               have HB2 := Lib.hid hb2
               clear hb2))
          go_ret
          exact ⟨rfl, HB2.out⟩
      all_goals
        go_enter Try.func3, Try.ntmps3
        go_wp2_with (first
          | (go_at_call 13; refine (few_n _ _ _ _).mono ?_; rintro e w' ⟨rfl, rfl⟩)
          | (go_at_call 15; refine cK.out.mono ?_; rintro e w1 ⟨rfl, hb⟩
             have HB := Lib.hid hb
             have HX1 := Lib.hid (HX.out.up hb (Nat.le_refl _))
             have HY1 := Lib.hid (HY.out.up hb (Nat.le_refl _))
             clear hb)
          | (go_at_call 16; (with_reducible refine (cV1.out _ HX1.out).mono ?_); rintro e w' ⟨rfl, rfl⟩)
          | (go_at_call 16; (with_reducible refine (cV2.out _ HY1.out).mono ?_); rintro e w' ⟨rfl, rfl⟩)
          | (go_at_call 17; (with_reducible refine (cC1.out _ HX1.out HY1.out).mono ?_); rintro e w' ⟨rfl, rfl⟩)
          | (go_at_call 17; (with_reducible refine (cC2.out _ HX1.out HY1.out).mono ?_); rintro e w' ⟨rfl, rfl⟩)
          | (go_at_call 14; refine (law_awake w w1 HB.out).mono ?_; rintro e w2 ⟨rfl, hb2⟩
             have HB2 := Lib.hid hb2
             clear hb2))
        go_ret
        exact ⟨rfl, HB2.out⟩
    · go_enter Try.func3, Try.ntmps3
      go_wp2_with (first
        | (go_at_call 13; refine (few_n _ _ _ _).mono ?_; rintro e w' ⟨rfl, rfl⟩)
        | (go_at_call 14; refine (law_awake w w (Below.refl _ _)).mono ?_; rintro e w2 ⟨rfl, hb2⟩
           have HB2 := Lib.hid hb2
           clear hb2))
      go_ret
      exact ⟨rfl, HB2.out⟩
  · go_enter Try.func3, Try.ntmps3
    go_wp2_with (first
      | (go_at_call 13; refine (few_n _ _ _ _).mono ?_; rintro e w' ⟨rfl, rfl⟩)
      | (go_at_call 14; refine (law_awake w w (Below.refl _ _)).mono ?_; rintro e w2 ⟨rfl, hb2⟩
         have HB2 := Lib.hid hb2
         clear hb2))
    go_ret
    exact ⟨rfl, HB2.out⟩
end Go.Proofs.Ytalclofogengpaa
