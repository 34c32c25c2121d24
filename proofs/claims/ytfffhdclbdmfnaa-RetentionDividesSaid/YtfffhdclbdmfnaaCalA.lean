/- The calendar's leaf functions, walked: the program's and the reference's. -/
import Derived.Test.YtfffhdclbdmfnaaCal
import Derived.Test.YtfffhdclbdmfnaaWk
import Derived.Test.YtfffhdclbdmfnaaRows
import Derived.KernelRfl
import Derived.Deep.RegionWith
namespace Go.Proofs.Ytfffhdclbdmfnaa
open Go.RowKit Cal
set_option linter.unusedVariables false
set_option linter.unusedSimpArgs false

/-- The error of a number that is no day. -/
def chkI (d : Int) : Int := if d < 0 then 1 else if 999999 < d then 2 else 0
theorem chkI_ok {d : Int} (h0 : 0 ≤ d) (h1 : d ≤ 999999) : chkI d = 0 := by unfold chkI; rw [if_neg (by omega), if_neg (by omega)]
theorem check_any (d : Int) (w : World) : Calls Try.prog 55 #[.int .i64 d] w fun e w' => e = .returned (.int .i64 (chkI d)) ∧ w = w' := by
  obtain ⟨c, hc⟩ : ∃ c, chkI d = c := ⟨_, rfl⟩
  rw [hc]
  unfold chkI at hc
  by_cases h0 : d < 0
  · rw [if_pos h0] at hc
    subst hc
    go_enter Try.func55, Try.ntmps55
    go_wp2
    go_ret
    exact ⟨rfl, rfl⟩
  · rw [if_neg h0] at hc
    by_cases h1 : 999999 < d
    · rw [if_pos h1] at hc
      subst hc
      go_enter Try.func55, Try.ntmps55
      go_wp2
      go_ret
      exact ⟨rfl, rfl⟩
    · rw [if_neg h1] at hc
      subst hc
      go_enter Try.func55, Try.ntmps55
      go_wp2
      go_ret
      exact ⟨rfl, rfl⟩
theorem rcheck_any (d : Int) (w : World) : Calls Try.prog 82 #[.int .i64 d] w fun e w' => e = .returned (.int .i64 (chkI d)) ∧ w = w' := by
  obtain ⟨c, hc⟩ : ∃ c, chkI d = c := ⟨_, rfl⟩
  rw [hc]
  unfold chkI at hc
  by_cases h0 : d < 0
  · rw [if_pos h0] at hc
    subst hc
    go_enter Try.func82, Try.ntmps82
    go_wp2
    go_ret
    exact ⟨rfl, rfl⟩
  · rw [if_neg h0] at hc
    by_cases h1 : 999999 < d
    · rw [if_pos h1] at hc
      subst hc
      go_enter Try.func82, Try.ntmps82
      go_wp2
      go_ret
      exact ⟨rfl, rfl⟩
    · rw [if_neg h1] at hc
      subst hc
      go_enter Try.func82, Try.ntmps82
      go_wp2
      go_ret
      exact ⟨rfl, rfl⟩

theorem before_any (n : Int) (w : World) (h0 : 0 ≤ n) (h1 : n ≤ 10000) : Calls Try.prog 56 #[.int .i64 n] w fun e w' => e = .returned (.int .i64 (bef n)) ∧ w = w' := by
  go_enter Try.func56, Try.ntmps56
  go_wp2
  go_ret
  exact ⟨rfl, rfl⟩

theorem mod4 (y : Int) : (y % 4 == 0) = decide (y % 4 = 0) := by by_cases h : y % 4 = 0 <;> simp [h]
theorem leap_any (y : Int) (w : World) (h0 : 0 ≤ y) (h1 : y ≤ 100000) : Calls Try.prog 64 #[.int .i64 y] w fun e w' => e = .returned (.bool (leapB y)) ∧ w = w' := by
  obtain ⟨b, hb⟩ : ∃ b, leapB y = b := ⟨_, rfl⟩
  have HB := Lib.hid hb
  rw [hb]
  clear hb
  by_cases c4 : y % 4 = 0
  · have t4 : (y % 4 == 0) = true := by simp [c4]
    by_cases c1 : y % 100 = 0
    · have t1 : (y % 100 != 0) = false := by simp [c1]
      by_cases c400 : y % 400 = 0
      · have t400 : (y % 400 == 0) = true := by simp [c400]
        obtain rfl : b = true := by rw [← HB.out, leapB_iff]; omega
        clear c4 c1 c400
        go_enter Try.func64, Try.ntmps64
        go_wp2
        go_ret
        exact ⟨rfl, rfl⟩
      · have t400 : (y % 400 == 0) = false := by simp [c400]
        obtain rfl : b = false := by rw [← HB.out, ← Bool.not_eq_true, leapB_iff]; omega
        clear c4 c1 c400
        go_enter Try.func64, Try.ntmps64
        go_wp2
        go_ret
        exact ⟨rfl, rfl⟩
    · have t1 : (y % 100 != 0) = true := by simp [c1]
      obtain rfl : b = true := by rw [← HB.out, leapB_iff]; omega
      clear c4 c1
      go_enter Try.func64, Try.ntmps64
      go_wp2
      go_ret
      exact ⟨rfl, rfl⟩
  · have t4 : (y % 4 == 0) = false := by simp [c4]
    obtain rfl : b = false := by rw [← HB.out, ← Bool.not_eq_true, leapB_iff]; omega
    clear c4
    go_enter Try.func64, Try.ntmps64
    go_wp2
    go_ret
    exact ⟨rfl, rfl⟩
theorem rleap_any (y : Int) (w : World) (h0 : 0 ≤ y) (h1 : y ≤ 100000) : Calls Try.prog 93 #[.int .i64 y] w fun e w' => e = .returned (.bool (leapB y)) ∧ w = w' := by
  obtain ⟨b, hb⟩ : ∃ b, leapB y = b := ⟨_, rfl⟩
  have HB := Lib.hid hb
  rw [hb]
  clear hb
  by_cases c4 : y % 4 = 0
  · have t4 : (y % 4 == 0) = true := by simp [c4]
    by_cases c1 : y % 100 = 0
    · have t1 : (y % 100 != 0) = false := by simp [c1]
      by_cases c400 : y % 400 = 0
      · have t400 : (y % 400 == 0) = true := by simp [c400]
        obtain rfl : b = true := by rw [← HB.out, leapB_iff]; omega
        clear c4 c1 c400
        go_enter Try.func93, Try.ntmps93
        go_wp2
        go_ret
        exact ⟨rfl, rfl⟩
      · have t400 : (y % 400 == 0) = false := by simp [c400]
        obtain rfl : b = false := by rw [← HB.out, ← Bool.not_eq_true, leapB_iff]; omega
        clear c4 c1 c400
        go_enter Try.func93, Try.ntmps93
        go_wp2
        go_ret
        exact ⟨rfl, rfl⟩
    · have t1 : (y % 100 != 0) = true := by simp [c1]
      obtain rfl : b = true := by rw [← HB.out, leapB_iff]; omega
      clear c4 c1
      go_enter Try.func93, Try.ntmps93
      go_wp2
      go_ret
      exact ⟨rfl, rfl⟩
  · have t4 : (y % 4 == 0) = false := by simp [c4]
    by_cases c400 : y % 400 = 0
    · omega
    have t400 : (y % 400 == 0) = false := by simp [c400]
    obtain rfl : b = false := by rw [← HB.out, ← Bool.not_eq_true, leapB_iff]; omega
    clear c4 c400
    go_enter Try.func93, Try.ntmps93
    go_wp2
    go_ret
    exact ⟨rfl, rfl⟩
theorem rlength_any (y : Int) (w : World) (h0 : 0 ≤ y) (h1 : y ≤ 100000) : Calls Try.prog 90 #[.int .i64 y] w fun e w' => e = .returned (.int .i64 (ylen y)) ∧ w = w' := by
  have HC := Lib.hid (rleap_any y w h0 h1)
  unfold ylen
  obtain ⟨b, hb⟩ : ∃ b, leapB y = b := ⟨_, rfl⟩
  rw [hb] at HC ⊢
  clear hb
  cases b
  all_goals
    go_enter Try.func90, Try.ntmps90
    go_wp2_with fail
    refine HC.out.mono ?_; rintro e w' ⟨rfl, rfl⟩
    go_wp2
    go_ret
    exact ⟨rfl, rfl⟩

/-- A function that hands back a number, and leaves what lay. -/
def IntB (v : Int) (w : World) (e : Ending) (w' : World) : Prop := e = .returned (.int .i64 v) ∧ Below w.heap.size w w'
theorem months_at (y m : Int) (h1 : 1 ≤ m) (h2 : m ≤ 12) (hl : m = 2 → leapB y = false) : ([.int .i64 31, .int .i64 28, .int .i64 31, .int .i64 30, .int .i64 31, .int .i64 30, .int .i64 31, .int .i64 31, .int .i64 30, .int .i64 31, .int .i64 30, .int .i64 31] : List Value)[m.toNat - 1]? = some (.int .i64 (mdays y m)) := by
  have : m = 1 ∨ m = 2 ∨ m = 3 ∨ m = 4 ∨ m = 5 ∨ m = 6 ∨ m = 7 ∨ m = 8 ∨ m = 9 ∨ m = 10 ∨ m = 11 ∨ m = 12 := by omega
  rcases this with rfl | rfl | rfl | rfl | rfl | rfl | rfl | rfl | rfl | rfl | rfl | rfl
  · rfl
  · unfold mdays
    rw [if_pos rfl, hl rfl]
    rfl
  all_goals rfl
theorem days_any (y m : Int) (w : World) (h0 : 0 ≤ y) (h1 : y ≤ 100000) (hm0 : 1 ≤ m) (hm1 : m ≤ 12) : Calls Try.prog 57 #[.int .i64 y, .int .i64 m] w (IntB (mdays y m) w) := by
  have HC : Hid (∀ W, Calls Try.prog 64 #[.int .i64 y] W fun e w' => e = .returned (.bool (leapB y)) ∧ W = w') := fun W => leap_any y W h0 h1
  obtain ⟨b, hb⟩ : ∃ b, leapB y = b := ⟨_, rfl⟩
  have HBL := Lib.hid hb
  rw [hb] at HC
  clear hb
  have hc : Hid ((m = 2 → b = false) → ([.int .i64 31, .int .i64 28, .int .i64 31, .int .i64 30, .int .i64 31, .int .i64 30, .int .i64 31, .int .i64 31, .int .i64 30, .int .i64 31, .int .i64 30, .int .i64 31] : List Value)[m.toNat - 1]? = some (.int .i64 (mdays y m))) := fun h => months_at y m hm0 hm1 (fun e => by rw [HBL.out]; exact h e)
  obtain ⟨v, hv⟩ : ∃ v, mdays y m = v := ⟨_, rfl⟩
  have HV := Lib.hid hv
  rw [hv] at hc ⊢
  clear hv
  by_cases h2 : m = 2
  · have t2 : (m == 2) = true := by simp [h2]
    cases b
    · have hc0 := hc.out (fun _ => rfl)
      clear h2 hc
      go_enter Try.func57, Try.ntmps57
      go_wp2_with (go_at_call 64; refine (HC.out _).mono ?_; rintro e w' ⟨rfl, rfl⟩)
      go_ret
      exact ⟨rfl, (Below.refl _ _).alloc (Nat.le_refl _) _⟩
    · obtain rfl : v = 29 := by rw [← HV.out, mdays, if_pos h2, if_pos HBL.out]
      clear h2 hc
      go_enter Try.func57, Try.ntmps57
      go_wp2_with (go_at_call 64; refine (HC.out _).mono ?_; rintro e w' ⟨rfl, rfl⟩)
      go_ret
      exact ⟨rfl, (Below.refl _ _).alloc (Nat.le_refl _) _⟩
  · have t2 : (m == 2) = false := by simp [h2]
    have hc0 := hc.out (fun e => absurd e h2)
    clear h2 hc
    go_enter Try.func57, Try.ntmps57
    go_wp2_with (go_at_call 64; refine (HC.out _).mono ?_; rintro e w' ⟨rfl, rfl⟩)
    go_ret
    exact ⟨rfl, (Below.refl _ _).alloc (Nat.le_refl _) _⟩

theorem rdays_any (y m : Int) (w : World) (h0 : 0 ≤ y) (h1 : y ≤ 100000) (hm0 : 1 ≤ m) (hm1 : m ≤ 12) : Calls Try.prog 91 #[.int .i64 y, .int .i64 m] w fun e w' => e = .returned (.int .i64 (mdays y m)) ∧ w = w' := by
  have HC : Hid (∀ W, Calls Try.prog 93 #[.int .i64 y] W fun e w' => e = .returned (.bool (leapB y)) ∧ W = w') := fun W => rleap_any y W h0 h1
  obtain ⟨b, hb⟩ : ∃ b, leapB y = b := ⟨_, rfl⟩
  have HBL := Lib.hid hb
  rw [hb] at HC
  clear hb
  obtain ⟨v, hv⟩ : ∃ v, mdays y m = v := ⟨_, rfl⟩
  rw [hv]
  have : m = 1 ∨ m = 2 ∨ m = 3 ∨ m = 4 ∨ m = 5 ∨ m = 6 ∨ m = 7 ∨ m = 8 ∨ m = 9 ∨ m = 10 ∨ m = 11 ∨ m = 12 := by omega
  clear hm0 hm1
  rcases this with rfl | rfl | rfl | rfl | rfl | rfl | rfl | rfl | rfl | rfl | rfl | rfl
  rotate_left
  · cases b
    · obtain rfl : v = 28 := by rw [← hv, mdays, if_pos rfl, HBL.out]; rfl
      clear hv
      go_enter Try.func91, Try.ntmps91
      go_wp2_with (go_at_call 93; refine (HC.out _).mono ?_; rintro e w' ⟨rfl, rfl⟩)
      go_ret
      exact ⟨rfl, rfl⟩
    · obtain rfl : v = 29 := by rw [← hv, mdays, if_pos rfl, HBL.out]; rfl
      clear hv
      go_enter Try.func91, Try.ntmps91
      go_wp2_with (go_at_call 93; refine (HC.out _).mono ?_; rintro e w' ⟨rfl, rfl⟩)
      go_ret
      exact ⟨rfl, rfl⟩
  all_goals
    have HV := Lib.hid hv
    clear hv
    go_enter Try.func91, Try.ntmps91
    go_wp2
    go_ret
    exact ⟨by rw [← HV.out]; rfl, rfl⟩
end Go.Proofs.Ytfffhdclbdmfnaa
