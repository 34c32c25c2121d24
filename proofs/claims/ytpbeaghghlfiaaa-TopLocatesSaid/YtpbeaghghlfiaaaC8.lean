/- Go's library: Sort of an ascending list. -/
import Derived.Test.YtpbeaghghlfiaaaC7
namespace Go.Proofs.Ytpbeaghghlfiaaa
open Go.RowKit Go.Lib
set_option linter.unusedVariables false
set_option linter.unusedSimpArgs false
set_option maxRecDepth 100000 in
set_option maxHeartbeats 4000000 in
theorem insertion_any (A : Option Addr) (n c B : Nat) (xs : List Nat) (w : World) (hx : Sl fI w B A n xs) (ha : Asc xs) (hn : n ≤ 8) : Calls Try.prog 52 #[.slice A n c, .int .i64 0, .int .i64 n] w (NoP w) := by
  have HX := Lib.hid hx
  have HA := Lib.hid ha
  have hnI : (n : Int) ≤ 8 := by omega
  have HL : Hid (∀ (x y : Nat), y ≤ x → ∀ w, Calls Try.prog 58 #[.int .i64 (x : Int), .int .i64 (y : Int)] w fun e w' => e = .returned (.bool false) ∧ w = w') := fun x y h w => less_no x y (by omega) w
  have HZ : Hid (1 ≤ 1 ∧ w = w.drewN 0) := ⟨Nat.le_refl _, rfl⟩
  clear hx ha hn
  go_enter Try.func52, Try.ntmps52
  go_wp2_with fail
  go_loopw [6] (fun i wr => ∃ (k q : Nat), i = .int .i64 k ∧ Hid (wr = w.drewN q) ∧ Hid (1 ≤ k ∧ k ≤ 8)) (fun i _ => n - (intOf i).toNat)
  case atStart => exact ⟨1, 0, rfl, rfl, ⟨by decide, by decide⟩⟩
  case round =>
    clear HZ
    obtain ⟨k, q, rfl, HW, HK⟩ := hrel
    have hk8 : (k : Int) ≤ 8 := by have := HK.out; omega
    by_cases hlt : k < n
    · have hkI : (k : Int) < (n : Int) := by omega
      obtain ⟨b, off, x, rfl, _, hxk, hck⟩ := HX.out.2.at_ (k := k) (by rw [HX.out.1]; exact hlt)
      obtain ⟨k1, hk1⟩ : ∃ k1, k - 1 = k1 := ⟨_, rfl⟩
      have hk1k : k1 < k := by have := HK.out; omega
      obtain ⟨b', off', y, hA, _, hyk, hcy⟩ := HX.out.2.at_ (k := k1) (by rw [HX.out.1]; omega)
      injection hA with hA
      injection hA with e1 e2 _
      subst e1 e2
      have hyx : y ≤ x := by
        obtain ⟨p1, p2⟩ := List.getElem?_eq_some_iff.1 hxk
        obtain ⟨q1, q2⟩ := List.getElem?_eq_some_iff.1 hyk
        have := List.pairwise_iff_getElem.1 HA.out k1 k q1 p1 hk1k
        omega
      have HLL := Lib.hid (HL.out x y hyx)
      have hkw : IntKind.i64.wrap ((k : Int) - 1) = (k1 : Int) := by rw [IntWalk.i64_in _ (by have := HK.out; omega)]; have := HK.out; omega
      have hk1I : (k1 : Int) < (n : Int) := by omega
      have hk0 : (0 : Int) < (k : Int) := by have := HK.out; omega
      have hk0N : 0 < k := by have := HK.out; omega
      have hk0d : decide ((0 : Int) < (k : Int)) = true := decide_eq_true hk0
      have hk0e : decide (0 < k) = true := decide_eq_true hk0N
      clear hk1 hk1k hxk hyk hyx
      have HCK := Lib.hid hck
      have HCY := Lib.hid hcy
      clear hck hcy
      go_upto_region 4 with fail
      obtain ⟨W0, hW0⟩ : ∃ W0, W0 = wr := ⟨_, rfl⟩
      subst hW0
      go_loopw [7] (fun j wr => ∃ q2 : Nat, j = .int .i64 k ∧ Hid (wr = w.drewN q2)) (fun _ _ => 1)
      case atStart => exact ⟨q, rfl, HW⟩
      case round =>
        obtain ⟨q2, rfl, HW2⟩ := hrel
        have hck : wr.cell? ⟨b, off + k, none⟩ = some (fI x) := by rw [HW2.out]; exact HCK.out
        have hcy : wr.cell? ⟨b, off + k1, none⟩ = some (fI y) := by rw [HW2.out]; exact HCY.out
        go_wp2_with fail
        go_quiet ((go_at_call 58; with_reducible exact Calls.quiet_of_same (same_of (HLL.out _))))
        go_wp2_with fail
        go_roundw
        case rel => exact ⟨k + 1, _, by go_num, (by show World.drewN wr _ = _; rw [HW2.out, World.drewN_drewN]), ⟨by have := HK.out; omega, by omega⟩⟩
        case measure => simp [intOf]; omega
    · have hkI : ¬ (k : Int) < (n : Int) := by omega
      have hkN : decide (k < n) = false := by simp; omega
      go_wp2_with fail
      refine bodyPost_ret (results_none rfl _ _ _) rfl ?_
      exact ⟨rfl, q, HW.out⟩
set_option maxRecDepth 100000 in
theorem pdq_any (A : Option Addr) (n c B : Nat) (r : Int) (xs : List Nat) (w : World) (hx : Sl fI w B A n xs) (ha : Asc xs) (hn : n ≤ 8) : Calls Try.prog 47 #[.slice A n c, .int .i64 0, .int .i64 n, .int .i64 r] w (NoP w) := by
  have H := Lib.hid (insertion_any A n c B xs w hx ha hn)
  have hnI : (n : Int) ≤ 8 := by omega
  have hn12 : (n : Int) ≤ 12 := by omega
  have HZ : Hid (w = w) := rfl
  clear hx ha hn
  go_enter Try.func47, Try.ntmps47
  go_wp2_with fail
  go_loopw [1, 2] (fun a b wr => a = .int .i64 0 ∧ b = .int .i64 n ∧ w = wr) (fun _ _ _ => 1)
  case atStart => exact ⟨rfl, rfl, rfl⟩
  case round =>
    obtain ⟨rfl, rfl, rfl⟩ := hrel
    go_wp2_with (go_at_call 52; (with_reducible refine H.out.mono ?_); rintro e w' ⟨rfl, q, hq⟩; (have HQ := Lib.hid hq); clear hq)
    refine bodyPost_ret (results_none rfl _ _ _) rfl ?_
    exact ⟨rfl, q, HQ.out⟩
set_option maxRecDepth 100000 in
theorem sort_any (A : Option Addr) (n c B : Nat) (xs : List Nat) (w : World) (hx : Sl fI w B A n xs) (ha : Asc xs) (hn : n ≤ 8) : Calls Try.prog 43 #[.slice A n c] w (NoP w) := by
  have H1 := Lib.hid (len_any n hn w)
  have H2 : Hid (∀ r : Int, Calls Try.prog 47 #[.slice A n c, .int .i64 0, .int .i64 n, .int .i64 r] w (NoP w)) := fun r => pdq_any A n c B r xs w hx ha hn
  have hnI : (n : Int) ≤ 8 := by omega
  clear hx ha hn
  go_enter Try.func43, Try.ntmps43
  go_wp2_with (first
    | (go_at_call 48; (with_reducible refine H1.out.mono ?_); rintro e w' ⟨⟨r, rfl⟩, rfl⟩)
    | (go_at_call 47; (with_reducible refine (H2.out _).mono ?_); rintro e w' ⟨rfl, q, hq⟩; (have HQ := Lib.hid hq); clear hq))
  refine bodyPost_ret (results_none rfl _ _ _) rfl ?_
  exact ⟨rfl, q, HQ.out⟩
end Go.Proofs.Ytpbeaghghlfiaaa
