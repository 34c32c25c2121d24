/- gf256: double, Mul, Inv. -/
import Derived.Test.YtpbeaghghlfiaaaA0
import Derived.Test.YtpbeaghghlfiaaaP7
import Derived.Test.YtpbeaghghlfiaaaRows
namespace Go.Proofs.Ytpbeaghghlfiaaa
open Go.RowKit Go.Lib
set_option linter.unusedVariables false
set_option linter.unusedSimpArgs false
theorem double_any (a : Nat) (ha : a < 256) (w : World) : Calls Try.prog 32 #[fN a] w fun e w' => e = .returned (fN (dblN a)) ∧ w = w' := by
  by_cases h : 128 ≤ a
  · have H1 : bits .and .u8 (a : Int) 128 = 128 := by rw [u8_top a ha, if_pos h]
    have H2 := Lib.hid (dbl_hi a ha h)
    clear h
    go_enter Try.func32, Try.ntmps32
    go_wp2
    go_ret
    exact ⟨ret_int H2.out, rfl⟩
  · have H1 : bits .and .u8 (a : Int) 128 = 0 := by rw [u8_top a ha, if_neg h]
    have H2 := Lib.hid (dbl_lo a ha (by omega))
    clear h
    go_enter Try.func32, Try.ntmps32
    go_wp2
    go_ret
    exact ⟨ret_int H2.out, rfl⟩
theorem mul_any (a b : Nat) (ha : a < 256) (hb : b < 256) (w : World) : Calls Try.prog 15 #[fN a, fN b] w fun e w' => e = .returned (fN (mulN a b)) ∧ w = w' := by
  have HM : Hid (mulL 8 0 a b = mulN a b) := rfl
  have HA := Lib.hid ha
  have HB := Lib.hid hb
  clear ha hb
  obtain ⟨r, hr⟩ : ∃ r, mulN a b = r := ⟨_, rfl⟩
  rw [hr] at HM
  rw [hr]
  clear hr
  go_enter Try.func15, Try.ntmps15
  go_wp2
  go_loop [0, 1, 5] (fun x y p => ∃ (k p' a' b' : Nat), x = fN a' ∧ y = fN b' ∧ p = fN p' ∧ Hid (p' < 256 ∧ a' < 256 ∧ b' < 2 ^ k ∧ k ≤ 8) ∧ Hid (mulL k p' a' b' = r)) (fun _ y _ => (intOf y).toNat)
  case atStart => exact ⟨8, 0, a, b, rfl, rfl, rfl, ⟨by decide, HA.out, HB.out, Nat.le_refl _⟩, HM⟩
  case round =>
    clear HM HA HB
    obtain ⟨k, p', a', b', rfl, rfl, rfl, HK, HM⟩ := hrel
    by_cases h0 : b' = 0
    · subst h0
      have HE : Hid (p' = r) := by have := HM.out; rwa [mulL_done] at this
      go_wp2
      go_ret
      exact ⟨by rw [HE.out]; rfl, rfl⟩
    · obtain ⟨k, rfl⟩ : ∃ k1, k = k1 + 1 := by
        have := HK.out
        cases k with
        | zero => exfalso; have h2 : (2 : Nat) ^ 0 = 1 := rfl; omega
        | succ k => exact ⟨k, rfl⟩
      have hk := HK.out
      have hp2 : (2 : Nat) ^ (k + 1) = 2 * 2 ^ k := by rw [Nat.pow_succ, Nat.mul_comm]
      have hp8 : 2 ^ (k + 1) ≤ 2 ^ 8 := Nat.pow_le_pow_right (by omega) hk.2.2.2
      have hb8 : b' < 256 := by have : (2 : Nat) ^ 8 = 256 := rfl; omega
      have HB2 : Hid (b' / 2 < 2 ^ k) := by show _ < _; omega
      have hz : ((b' : Int) == 0) = false := by simp; omega
      have hz2 : ((b' : Int) != 0) = true := by simp; omega
      have HD := fun w => double_any a' hk.2.1 w
      have HO := u8_odd hb8
      have hpa := u8_xor hk.1 hk.2.1
      have HX : Hid (p' ^^^ a' < 256) := Nat.xor_lt_two_pow (n := 8) hk.1 hk.2.1
      have HP := Lib.hid hk
      have HS : Hid (mulL k (if b' % 2 = 1 then p' ^^^ a' else p') (dblN a') (b' / 2) = r) := HM.out
      have HDD := Lib.hid HD
      have HDL : Hid (dblN a' < 256) := dblN_lt hk.2.1
      clear hk hp2 hp8 HM HK HD
      rcases Nat.mod_two_eq_zero_or_one b' with hm | hm
      · rw [hm] at HO
        rw [if_neg (by omega)] at HS
        have HMM := Lib.hid hm
        clear hm
        go_wp2_with (go_at_call 32; refine (HDD.out _).mono ?_; rintro e w' ⟨rfl, rfl⟩)
        go_round
        case rel => exact ⟨k, p', dblN a', b' / 2, rfl, by go_num, rfl, ⟨HP.out.1, HDL.out, HB2.out, by have := HP.out; omega⟩, HS⟩
        case measure => simp [intOf]; omega
      · rw [hm] at HO
        rw [if_pos hm] at HS
        have HMM := Lib.hid hm
        clear hm
        go_wp2_with (go_at_call 32; refine (HDD.out _).mono ?_; rintro e w' ⟨rfl, rfl⟩)
        go_round
        case rel => exact ⟨k, p' ^^^ a', dblN a', b' / 2, rfl, by go_num, rfl, ⟨HX.out, HDL.out, HB2.out, by have := HP.out; omega⟩, HS⟩
        case measure => simp [intOf]; omega
theorem inv_any (a : Nat) (ha : a < 256) (w : World) : Calls Try.prog 35 #[fN a] w fun e w' => (∃ r, e = .returned (.tuple #[fN (invN a), .int .i64 r])) ∧ w = w' := by
  by_cases h0 : a = 0
  · subst h0
    go_enter Try.func35, Try.ntmps35
    go_wp2
    go_ret2
    exact ⟨⟨_, rfl⟩, rfl⟩
  · have HM : Hid (invL 7 1 a = invN a) := rfl
    obtain ⟨r, hr⟩ : ∃ r, invN a = r := ⟨_, rfl⟩
    rw [hr] at HM
    rw [hr]
    have hz : ((a : Int) == 0) = false := by simp; omega
    have HA := Lib.hid ha
    have HMU : Hid (∀ a b, a < 256 → b < 256 → ∀ w, Calls Try.prog 15 #[fN a, fN b] w fun e w' => e = .returned (fN (mulN a b)) ∧ w = w') := fun a b ha hb w => mul_any a b ha hb w
    clear hr ha
    go_enter Try.func35, Try.ntmps35
    go_wp2
    go_loop [0, 4, 7] (fun x y i => ∃ (k a' i' : Nat), x = fN a' ∧ y = fN i' ∧ i = .int .i64 (k : Int) ∧ Hid (k ≤ 7 ∧ a' < 256 ∧ i' < 256) ∧ Hid (invL (7 - k) i' a' = r)) (fun _ _ i => 7 - (intOf i).toNat)
    case atStart => exact ⟨0, a, 1, rfl, rfl, rfl, ⟨by decide, HA.out, by decide⟩, HM⟩
    case round =>
      clear HM HA hz
      obtain ⟨k, a', i', rfl, rfl, rfl, HK, HM⟩ := hrel
      have hk := HK.out
      by_cases hlt : k < 7
      · have hkI : (k : Int) < 7 := by omega
        have HS : Hid (invL (7 - (k + 1)) (mulN i' (mulN a' a')) (mulN a' a') = r) := by
          have := HM.out
          rw [show 7 - k = (7 - (k + 1)) + 1 by omega] at this
          exact this
        have H1 : Hid (mulN a' a' < 256) := mulN_lt hk.2.1
        have H2 : Hid (mulN i' (mulN a' a') < 256) := mulN_lt hk.2.2
        have C1 := Lib.hid (fun w => HMU.out a' a' hk.2.1 hk.2.1 w)
        have C2 := Lib.hid (fun w => HMU.out i' (mulN a' a') hk.2.2 H1.out w)
        clear hk HM HMU
        go_wp2_with (first
          | (go_at_call 15; (with_reducible refine (C1.out _).mono ?_); rintro e w' ⟨rfl, rfl⟩)
          | (go_at_call 15; (with_reducible refine (C2.out _).mono ?_); rintro e w' ⟨rfl, rfl⟩))
        go_round
        case rel => exact ⟨k + 1, mulN a' a', mulN i' (mulN a' a'), rfl, rfl, by go_num, ⟨by omega, H1.out, H2.out⟩, HS⟩
        case measure => simp [intOf]; omega
      · obtain rfl : k = 7 := by omega
        have HE : Hid (i' = r) := HM.out
        go_wp2
        go_ret2
        exact ⟨⟨_, by rw [HE.out]; rfl⟩, rfl⟩
end Go.Proofs.Ytpbeaghghlfiaaa
