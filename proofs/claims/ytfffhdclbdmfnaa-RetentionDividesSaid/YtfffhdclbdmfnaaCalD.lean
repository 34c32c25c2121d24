/- Weeks, months and years: the program's and the reference's. -/
import Derived.Test.YtfffhdclbdmfnaaCalC
import Derived.Test.YtfffhdclbdmfnaaRet
namespace Go.Proofs.Ytfffhdclbdmfnaa
open Go.RowKit Cal Ret
set_option linter.unusedVariables false
set_option linter.unusedSimpArgs false

theorem per1 (d : Int) : per 1 d = (d + 5) / 7 := rfl
theorem per2 (d : Int) : per 2 d = 12 * (yOf d : Int) + mOf d := rfl
theorem per3 (d : Int) : per 3 d = yOf d := rfl
theorem week_any (d : Int) (w : World) (hd : okD d) : Calls Try.prog 52 #[.int .i64 d] w (IntB (per 1 d) w) := by
  obtain ⟨h0, h1⟩ := hd
  have HCK : Hid (∀ W, Calls Try.prog 55 #[.int .i64 d] W fun e w' => e = .returned (.int .i64 0) ∧ W = w') := fun W => by
    have := check_any d W
    rwa [chkI_ok h0 h1] at this
  go_enter Try.func52, Try.ntmps52
  go_wp2_with (go_at_call 55; refine (HCK.out _).mono ?_; rintro e w' ⟨rfl, rfl⟩)
  go_ret
  exact ⟨rfl, Below.refl _ _⟩
theorem rweek_any (d : Int) (w : World) (hd : okD d) : Calls Try.prog 68 #[.int .i64 d] w (IntB (per 1 d) w) := by
  obtain ⟨h0, h1⟩ := hd
  have HCK : Hid (∀ W, Calls Try.prog 82 #[.int .i64 d] W fun e w' => e = .returned (.int .i64 0) ∧ W = w') := fun W => by
    have := rcheck_any d W
    rwa [chkI_ok h0 h1] at this
  go_enter Try.func68, Try.ntmps68
  go_wp2_with (go_at_call 82; refine (HCK.out _).mono ?_; rintro e w' ⟨rfl, rfl⟩)
  go_ret
  exact ⟨rfl, Below.refl _ _⟩
theorem month_any (d : Int) (w : World) (hd : okD d) : Calls Try.prog 24 #[.int .i64 d] w (IntB (per 2 d) w) := by
  obtain ⟨h0, h1⟩ := hd
  have HD : Hid (∀ W, Calls Try.prog 40 #[.int .i64 d] W (DateR d W)) := fun W => date_any d W h0 h1
  have hy := y_bd d h0 h1
  have hm := (isDate d h0 h1).m0
  rw [per2]
  obtain ⟨y, hy'⟩ : ∃ y, yOf d = y := ⟨_, rfl⟩
  obtain ⟨m, hm'⟩ : ∃ m, mOf d = m := ⟨_, rfl⟩
  unfold DateR at HD
  rw [hy', hm'] at HD
  rw [hy'] at hy ⊢
  rw [hm'] at hm ⊢
  clear hy' hm'
  go_enter Try.func24, Try.ntmps24
  go_wp2_with (go_at_call 40; refine (HD.out _).mono ?_; rintro e w' ⟨dd, rfl, hb⟩; have HB := Lib.hid hb; clear hb)
  go_ret
  exact ⟨ret_int (by omega), HB.out.alloc HB.out.size _⟩
theorem year_any (d : Int) (w : World) (hd : okD d) : Calls Try.prog 53 #[.int .i64 d] w (IntB (per 3 d) w) := by
  obtain ⟨h0, h1⟩ := hd
  have HD : Hid (∀ W, Calls Try.prog 40 #[.int .i64 d] W (DateR d W)) := fun W => date_any d W h0 h1
  have hy := y_bd d h0 h1
  have hm := (isDate d h0 h1).m0
  rw [per3]
  obtain ⟨y, hy'⟩ : ∃ y, yOf d = y := ⟨_, rfl⟩
  obtain ⟨m, hm'⟩ : ∃ m, mOf d = m := ⟨_, rfl⟩
  unfold DateR at HD
  rw [hy', hm'] at HD
  rw [hy'] at hy ⊢
  rw [hm'] at hm
  clear hy' hm'
  go_enter Try.func53, Try.ntmps53
  go_wp2_with (go_at_call 40; refine (HD.out _).mono ?_; rintro e w' ⟨dd, rfl, hb⟩; have HB := Lib.hid hb; clear hb)
  go_ret
  exact ⟨ret_int (by omega), HB.out.alloc HB.out.size _⟩
theorem rmonth_any (d : Int) (w : World) (hd : okD d) : Calls Try.prog 69 #[.int .i64 d] w (IntB (per 2 d) w) := by
  obtain ⟨h0, h1⟩ := hd
  have HD : Hid (∀ W, Calls Try.prog 83 #[.int .i64 d] W (DateR d W)) := fun W => rdate_any d W h0 h1
  have hy := y_bd d h0 h1
  have hm := (isDate d h0 h1).m0
  rw [per2]
  obtain ⟨y, hy'⟩ : ∃ y, yOf d = y := ⟨_, rfl⟩
  obtain ⟨m, hm'⟩ : ∃ m, mOf d = m := ⟨_, rfl⟩
  unfold DateR at HD
  rw [hy', hm'] at HD
  rw [hy'] at hy ⊢
  rw [hm'] at hm ⊢
  clear hy' hm'
  go_enter Try.func69, Try.ntmps69
  go_wp2_with (go_at_call 83; refine (HD.out _).mono ?_; rintro e w' ⟨dd, rfl, hb⟩; have HB := Lib.hid hb; clear hb)
  go_ret
  exact ⟨ret_int (by omega), HB.out.alloc HB.out.size _⟩
theorem ryear_any (d : Int) (w : World) (hd : okD d) : Calls Try.prog 70 #[.int .i64 d] w (IntB (per 3 d) w) := by
  obtain ⟨h0, h1⟩ := hd
  have HD : Hid (∀ W, Calls Try.prog 83 #[.int .i64 d] W (DateR d W)) := fun W => rdate_any d W h0 h1
  have hy := y_bd d h0 h1
  have hm := (isDate d h0 h1).m0
  rw [per3]
  obtain ⟨y, hy'⟩ : ∃ y, yOf d = y := ⟨_, rfl⟩
  obtain ⟨m, hm'⟩ : ∃ m, mOf d = m := ⟨_, rfl⟩
  unfold DateR at HD
  rw [hy', hm'] at HD
  rw [hy'] at hy ⊢
  rw [hm'] at hm
  clear hy' hm'
  go_enter Try.func70, Try.ntmps70
  go_wp2_with (go_at_call 83; refine (HD.out _).mono ?_; rintro e w' ⟨dd, rfl, hb⟩; have HB := Lib.hid hb; clear hb)
  go_ret
  exact ⟨ret_int (by omega), HB.out.alloc HB.out.size _⟩
end Go.Proofs.Ytfffhdclbdmfnaa
