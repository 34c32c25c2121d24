/- The errors of arguments; two lists that are equal; few. -/
import Derived.Test.YtfffhdclbdmfnaaLeaf2
namespace Go.Proofs.Ytfffhdclbdmfnaa
open Go.RowKit Cal Ret
set_option linter.unusedVariables false
set_option linter.unusedSimpArgs false

def argB (a b c d : Int) (xs ys : List Int) : Bool := rulesB a b c d && (xs.all okB && ys.all okB)
def argE (a b c d : Int) (xs ys : List Int) : Int := if argB a b c d xs ys = true then 0 else 1

set_option maxRecDepth 20000 in
theorem chk_any (a b c d : Int) (A A' : Option Addr) (n n' k k' : Nat) (xs ys : List Int) (w : World) (hx : Sl I w w.heap.size A n xs) (hy : Sl I w w.heap.size A' n' ys) (hn : n ≤ 1000000) (hn' : n' ≤ 1000000) :
    Calls Try.prog 29 #[fR a b c d, .slice A n k, .slice A' n' k'] w (IntB (argE a b c d xs ys) w) := by
  have HX := Lib.hid hx
  have HY := Lib.hid hy
  have HV : Hid (∀ W, Calls Try.prog 13 #[fR a b c d] W (BoolB (rulesB a b c d) W)) := fun W => valid_any a b c d W
  have HCX : Hid (∀ W, Below w.heap.size w W → Calls Try.prog 43 #[.slice A n k, .func (.func 42) #[] #[]] W fun e w' => e = .returned (.bool (!(xs.all okB))) ∧ W = w') := fun W h => cfunc_any _ _ _ _ _ _ (HX.out.up h (Nat.le_refl _)) hn
  have HCY : Hid (∀ W, Below w.heap.size w W → Calls Try.prog 43 #[.slice A' n' k', .func (.func 42) #[] #[]] W fun e w' => e = .returned (.bool (!(ys.all okB))) ∧ W = w') := fun W h => cfunc_any _ _ _ _ _ _ (HY.out.up h (Nat.le_refl _)) hn'
  clear hx hy
  obtain ⟨r, hr⟩ : ∃ r, argE a b c d xs ys = r := ⟨_, rfl⟩
  have HR := Lib.hid hr
  rw [hr]
  clear hr
  unfold argE argB at HR
  obtain ⟨b1, hb1⟩ : ∃ z, rulesB a b c d = z := ⟨_, rfl⟩
  obtain ⟨b2, hb2⟩ : ∃ z, xs.all okB = z := ⟨_, rfl⟩
  obtain ⟨b3, hb3⟩ : ∃ z, ys.all okB = z := ⟨_, rfl⟩
  rw [hb1] at HR HV
  rw [hb2] at HR HCX
  rw [hb3] at HR HCY
  clear hb1 hb2 hb3
  cases b1
  · obtain rfl : r = 1 := by rw [← HR.out]; rfl
    go_enter Try.func29, Try.ntmps29
    go_wp2_with (go_at_call 13; refine (HV.out _).mono ?_; rintro e w1 ⟨rfl, hb⟩; have HB := Lib.hid hb; clear hb)
    go_ret
    exact ⟨rfl, ((Below.refl _ _).alloc (Nat.le_refl _) _).trans (HB.out.mono (by simp))⟩
  · cases b2
    · obtain rfl : r = 1 := by rw [← HR.out]; rfl
      go_enter Try.func29, Try.ntmps29
      go_wp2_with (first
        | (go_at_call 13; refine (HV.out _).mono ?_; rintro e w1 ⟨rfl, hb⟩; have HB : Hid (Below w.heap.size w w1) := ((Below.refl _ _).alloc (Nat.le_refl _) _).trans (hb.mono (by simp)); clear hb)
        | (go_at_call 43; (with_reducible refine (HCX.out _ HB.out).mono ?_); rintro e w' ⟨rfl, rfl⟩))
      go_ret
      exact ⟨rfl, HB.out⟩
    · cases b3
      · obtain rfl : r = 1 := by rw [← HR.out]; rfl
        go_enter Try.func29, Try.ntmps29
        go_wp2_with (first
          | (go_at_call 13; refine (HV.out _).mono ?_; rintro e w1 ⟨rfl, hb⟩; have HB : Hid (Below w.heap.size w w1) := ((Below.refl _ _).alloc (Nat.le_refl _) _).trans (hb.mono (by simp)); clear hb)
          | (go_at_call 43; (with_reducible refine (HCX.out _ HB.out).mono ?_); rintro e w' ⟨rfl, rfl⟩)
          | (go_at_call 43; (with_reducible refine (HCY.out _ HB.out).mono ?_); rintro e w' ⟨rfl, rfl⟩))
        go_ret
        exact ⟨rfl, HB.out⟩
      · obtain rfl : r = 0 := by rw [← HR.out]; rfl
        go_enter Try.func29, Try.ntmps29
        go_wp2_with (first
          | (go_at_call 13; refine (HV.out _).mono ?_; rintro e w1 ⟨rfl, hb⟩; have HB : Hid (Below w.heap.size w w1) := ((Below.refl _ _).alloc (Nat.le_refl _) _).trans (hb.mono (by simp)); clear hb)
          | (go_at_call 43; (with_reducible refine (HCX.out _ HB.out).mono ?_); rintro e w' ⟨rfl, rfl⟩)
          | (go_at_call 43; (with_reducible refine (HCY.out _ HB.out).mono ?_); rintro e w' ⟨rfl, rfl⟩))
        go_ret
        exact ⟨rfl, HB.out⟩

set_option maxRecDepth 20000 in
theorem rchk_any (a b c d : Int) (A A' : Option Addr) (n n' k k' : Nat) (xs ys : List Int) (w : World) (hx : Sl I w w.heap.size A n xs) (hy : Sl I w w.heap.size A' n' ys) (hn : n ≤ 1000000) (hn' : n' ≤ 1000000) :
    Calls Try.prog 33 #[fR a b c d, .slice A n k, .slice A' n' k'] w (IntB (argE a b c d xs ys) w) := by
  have HX := Lib.hid hx
  have HY := Lib.hid hy
  have HV : Hid (∀ W, Calls Try.prog 14 #[fR a b c d] W (BoolB (rulesB a b c d) W)) := fun W => rvalid_any a b c d W
  have HCX : Hid (∀ W, Below w.heap.size w W → Calls Try.prog 49 #[.slice A n k] W fun e w' => e = .returned (.bool ((xs.all okB))) ∧ W = w') := fun W h => inrange_any _ _ _ _ _ _ (HX.out.up h (Nat.le_refl _)) hn
  have HCY : Hid (∀ W, Below w.heap.size w W → Calls Try.prog 49 #[.slice A' n' k'] W fun e w' => e = .returned (.bool ((ys.all okB))) ∧ W = w') := fun W h => inrange_any _ _ _ _ _ _ (HY.out.up h (Nat.le_refl _)) hn'
  clear hx hy
  obtain ⟨r, hr⟩ : ∃ r, argE a b c d xs ys = r := ⟨_, rfl⟩
  have HR := Lib.hid hr
  rw [hr]
  clear hr
  unfold argE argB at HR
  obtain ⟨b1, hb1⟩ : ∃ z, rulesB a b c d = z := ⟨_, rfl⟩
  obtain ⟨b2, hb2⟩ : ∃ z, xs.all okB = z := ⟨_, rfl⟩
  obtain ⟨b3, hb3⟩ : ∃ z, ys.all okB = z := ⟨_, rfl⟩
  rw [hb1] at HR HV
  rw [hb2] at HR HCX
  rw [hb3] at HR HCY
  clear hb1 hb2 hb3
  cases b1
  · obtain rfl : r = 1 := by rw [← HR.out]; rfl
    go_enter Try.func33, Try.ntmps33
    go_wp2_with (go_at_call 14; refine (HV.out _).mono ?_; rintro e w1 ⟨rfl, hb⟩; have HB := Lib.hid hb; clear hb)
    go_ret
    exact ⟨rfl, ((Below.refl _ _).alloc (Nat.le_refl _) _).trans (HB.out.mono (by simp))⟩
  · cases b2
    · obtain rfl : r = 1 := by rw [← HR.out]; rfl
      go_enter Try.func33, Try.ntmps33
      go_wp2_with (first
        | (go_at_call 14; refine (HV.out _).mono ?_; rintro e w1 ⟨rfl, hb⟩; have HB : Hid (Below w.heap.size w w1) := ((Below.refl _ _).alloc (Nat.le_refl _) _).trans (hb.mono (by simp)); clear hb)
        | (go_at_call 49; (with_reducible refine (HCX.out _ HB.out).mono ?_); rintro e w' ⟨rfl, rfl⟩))
      go_ret
      exact ⟨rfl, HB.out⟩
    · cases b3
      · obtain rfl : r = 1 := by rw [← HR.out]; rfl
        go_enter Try.func33, Try.ntmps33
        go_wp2_with (first
          | (go_at_call 14; refine (HV.out _).mono ?_; rintro e w1 ⟨rfl, hb⟩; have HB : Hid (Below w.heap.size w w1) := ((Below.refl _ _).alloc (Nat.le_refl _) _).trans (hb.mono (by simp)); clear hb)
          | (go_at_call 49; (with_reducible refine (HCX.out _ HB.out).mono ?_); rintro e w' ⟨rfl, rfl⟩)
          | (go_at_call 49; (with_reducible refine (HCY.out _ HB.out).mono ?_); rintro e w' ⟨rfl, rfl⟩))
        go_ret
        exact ⟨rfl, HB.out⟩
      · obtain rfl : r = 0 := by rw [← HR.out]; rfl
        go_enter Try.func33, Try.ntmps33
        go_wp2_with (first
          | (go_at_call 14; refine (HV.out _).mono ?_; rintro e w1 ⟨rfl, hb⟩; have HB : Hid (Below w.heap.size w w1) := ((Below.refl _ _).alloc (Nat.le_refl _) _).trans (hb.mono (by simp)); clear hb)
          | (go_at_call 49; (with_reducible refine (HCX.out _ HB.out).mono ?_); rintro e w' ⟨rfl, rfl⟩)
          | (go_at_call 49; (with_reducible refine (HCY.out _ HB.out).mono ?_); rintro e w' ⟨rfl, rfl⟩))
        go_ret
        exact ⟨rfl, HB.out⟩

set_option maxRecDepth 20000 in
theorem same_any (A A' : Option Addr) (n n' : Nat) (xs ys : List Int) (c c' : Nat) (w : World) (B : Nat) (hx : Sl I w B A n xs) (hy : Sl I w B A' n' ys) (hl : n ≤ 1000000) (hl' : n' ≤ 1000000) :
    Calls Try.prog 28 #[.slice A n c, .slice A' n' c'] w fun e w' => e = .returned (.bool (decide (xs = ys))) ∧ ∃ r, w' = w.drewN r := by
  obtain ⟨rfl, hx⟩ := hx
  obtain ⟨rfl, hy⟩ := hy
  have HX := Lib.hid hx
  have HY := Lib.hid hy
  clear hx hy
  by_cases he : xs.length = ys.length
  · have HE := Lib.hid he
    have hd : ((xs.length : Int) != (ys.length : Int)) = false := by simp; omega
    have hl2 : xs.length ≤ ys.length := by omega
    clear he
    go_enter Try.func28, Try.ntmps28
    go_wp2
    go_loopw [13] (fun i wr => ∃ k : Nat, k ≤ xs.length ∧ i = .int .i64 k ∧ Hid (xs.take k = ys.take k) ∧ Hid (∃ r, wr = w.drewN r)) (fun i _ => xs.length - (intOf i).toNat)
    case atStart => exact ⟨0, by omega, rfl, by show _ = _; simp, ⟨0, rfl⟩⟩
    case round =>
      obtain ⟨k, hk, rfl, HT, HR⟩ := hrel
      obtain ⟨r, hr⟩ := HR.out
      subst hr
      clear HR
      by_cases hlt : k < xs.length
      · obtain ⟨b, off, x, rfl, _, hxk, hc⟩ := HX.out.at_ (k := k) (by omega)
        obtain ⟨b', off', y, rfl, _, hyk, hc'⟩ := HY.out.at_ (k := k) (by omega)
        have hlt' : k < ys.length := by omega
        have HXk := Lib.hid hxk
        have HYk := Lib.hid hyk
        clear hxk hyk
        by_cases hne : x = y
        · subst hne
          have hb : (x != x) = false := by simp
          go_wp2
          go_quiet (fail)
          go_wp2
          go_roundw
          case rel => exact ⟨k + 1, by omega, by go_num, by show _ = _; rw [take_snoc HXk.out, take_snoc HYk.out, HT.out], _, rfl⟩
          case measure => simp [intOf]; omega
        · have hb : (x != y) = true := by simpa using hne
          have HF : Hid (decide (xs = ys) = false) := by
            show _ = _
            simp only [decide_eq_false_iff_not]
            rintro rfl
            have := HXk.out.symm.trans HYk.out
            simp at this; exact hne this
          clear hne
          go_wp2
          go_quiet (fail)
          go_wp2
          go_ret
          exact ⟨ret_bool HF.out.symm, _, World.drewN_drewN _ _ _⟩
      · have HF : Hid (decide (xs = ys) = true) := by
          show _ = _
          have := HT.out
          rw [List.take_of_length_le (by omega), List.take_of_length_le (by have := HE.out; omega)] at this
          simpa using this
        go_wp2
        go_ret
        exact ⟨ret_bool HF.out.symm, _, rfl⟩
  · have HF : Hid (decide (xs = ys) = false) := by
      show _ = _
      simp only [decide_eq_false_iff_not]
      rintro rfl
      exact he rfl
    have hd : ((xs.length : Int) != (ys.length : Int)) = true := by simp; omega
    clear he
    go_enter Try.func28, Try.ntmps28
    go_wp2
    go_ret
    exact ⟨ret_bool HF.out.symm, 0, rfl⟩

theorem few_any (A A' : Option Addr) (n n' c c' : Nat) (w : World) : Calls Try.prog 15 #[.slice A n c, .slice A' n' c'] w fun e w' => e = .returned (.bool (decide (n ≤ 40) && decide (n' ≤ 10))) ∧ w = w' := by
  by_cases h : n ≤ 40
  · go_enter Try.func15, Try.ntmps15
    go_wp2
    go_ret
    exact ⟨ret_bool (by simp [h]; omega), rfl⟩
  · go_enter Try.func15, Try.ntmps15
    go_wp2
    go_ret
    exact ⟨ret_bool (by simp [h]), rfl⟩
end Go.Proofs.Ytfffhdclbdmfnaa
