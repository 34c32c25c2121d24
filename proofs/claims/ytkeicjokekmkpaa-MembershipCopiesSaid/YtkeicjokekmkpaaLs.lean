/- Small functions of the law and of the reference. -/
import Derived.Test.YtkeicjokekmkpaaPy
import Derived.Test.YtkeicjokekmkpaaNc
import Derived.Test.YtkeicjokekmkpaaPl3
namespace Go.Proofs.Ytkeicjokekmkpaa
open Go.RowKit Mb
set_option linter.unusedVariables false
set_option linter.unusedSimpArgs false

set_option maxRecDepth 20000 in
theorem sameI_any (A A' : Option Addr) (n n' : Nat) (xs ys : List Int) (c c' : Nat) (w : World) (B : Nat) (hx : Sl I w B A n xs) (hy : Sl I w B A' n' ys) (hl : n ≤ 1000000) (hl' : n' ≤ 1000000) :
    Calls Try.prog 16 #[.slice A n c, .slice A' n' c'] w fun e w' => e = .returned (.bool (decide (xs = ys))) ∧ ∃ r, w' = w.drewN r := by
  obtain ⟨rfl, hx⟩ := hx
  obtain ⟨rfl, hy⟩ := hy
  have HX := Lib.hid hx
  have HY := Lib.hid hy
  clear hx hy
  by_cases he : xs.length = ys.length
  · have HE := Lib.hid he
    have hd : ((xs.length : Int) != (ys.length : Int)) = false := by simp; omega
    have hl2 : xs.length ≤ ys.length := by omega
    clear he
    go_enter Try.func16, Try.ntmps16
    go_wp2
    go_loopw [5] (fun i wr => ∃ k : Nat, k ≤ xs.length ∧ i = .int .i64 k ∧ Hid (xs.take k = ys.take k) ∧ Hid (∃ r, wr = w.drewN r)) (fun i _ => xs.length - (intOf i).toNat)
    case atStart => exact ⟨0, by omega, rfl, by show _ = _; simp, ⟨0, rfl⟩⟩
    case round =>
      obtain ⟨k, hk, rfl, HT, HR⟩ := hrel
      obtain ⟨r, hr⟩ := HR.out
      subst hr
      clear HR
      by_cases hlt : k < xs.length
      · obtain ⟨b, off, x, rfl, _, hxk, hc⟩ := HX.out.at_ (k := k) (by omega)
        obtain ⟨b', off', y, rfl, _, hyk, hc'⟩ := HY.out.at_ (k := k) (by omega)
        have hlt' : k < ys.length := by omega
        have HXk := Lib.hid hxk
        have HYk := Lib.hid hyk
        clear hxk hyk
        by_cases hne : x = y
        · subst hne
          have hb : (x != x) = false := by simp
          go_wp2
          go_quiet (fail)
          go_wp2
          go_roundw
          case rel => exact ⟨k + 1, by omega, by go_num, by show _ = _; rw [take_snoc HXk.out, take_snoc HYk.out, HT.out], _, rfl⟩
          case measure => simp [intOf]; omega
        · have hb : (x != y) = true := by simpa using hne
          have HF : Hid (decide (xs = ys) = false) := by
            show _ = _
            simp only [decide_eq_false_iff_not]
            rintro rfl
            have := HXk.out.symm.trans HYk.out
            simp at this; exact hne this
          clear hne
          go_wp2
          go_quiet (fail)
          go_wp2
          go_ret
          exact ⟨ret_bool HF.out.symm, _, World.drewN_drewN _ _ _⟩
      · have HF : Hid (decide (xs = ys) = true) := by
          show _ = _
          have := HT.out
          rw [List.take_of_length_le (by omega), List.take_of_length_le (by have := HE.out; omega)] at this
          simpa using this
        go_wp2
        go_ret
        exact ⟨ret_bool HF.out.symm, _, rfl⟩
  · have HF : Hid (decide (xs = ys) = false) := by
      show _ = _
      simp only [decide_eq_false_iff_not]
      rintro rfl
      exact he rfl
    have hd : ((xs.length : Int) != (ys.length : Int)) = true := by simp; omega
    clear he
    go_enter Try.func16, Try.ntmps16
    go_wp2
    go_ret
    exact ⟨ret_bool HF.out.symm, 0, rfl⟩

def keyS (b : UInt8) : ByteArray := ⟨#[b]⟩ ++ ⟨#[49, 50, 51, 52, 53, 54, 55, 56, 57, 97, 98, 99, 100, 101, 102, 48, 49, 50, 51, 52, 53, 54, 55, 56, 57, 97, 98, 99, 100, 101, 102]⟩
set_option maxRecDepth 20000 in
theorem key_any (b : UInt8) (w : World) : Calls Try.prog 44 #[.int .u8 b.toNat] w fun e w' => e = .returned (.string (keyS b)) ∧ Below w.heap.size w w' := by
  have hcv := run_convert_bytes_back (P := Try.prog) (w.alloc (.cells #[.int .u8 b.toNat] 5)) 41 9 5 ⟨w.heap.size, 0, none⟩ 1 [b] Try.underlying41 Try.underlying5 Try.underlying9 (by
    intro i hi
    have h0 := cell_of_row (w.alloc (.cells #[.int .u8 b.toNat] 5)) w.heap.size 0 _ _ _ (heap_alloc_new w _)
    obtain rfl : i = 0 := by simp at hi; omega
    rw [Addr.add_mid]
    exact h0)
  simp only [List.length_singleton] at hcv
  go_enter Try.func44, Try.ntmps44
  go_wp2
  go_ret
  exact ⟨rfl, (Below.refl _ _).alloc (Nat.le_refl _) _⟩
abbrev aSet (A : Option Addr) (n c : Nat) (A' : Option Addr) (n' c' : Nat) (q : Int) (A'' : Option Addr) (n'' c'' : Nat) : Value := .agg #[.slice A n c, .slice A' n' c', .int .i64 q, .slice A'' n'' c'']
def smallB (n n' n'' : Nat) : Bool := decide (n ≤ 14) && (decide (n' ≤ 14) && decide (n'' ≤ 40))
theorem small_any (A : Option Addr) (n c : Nat) (A' : Option Addr) (n' c' : Nat) (q : Int) (A'' : Option Addr) (n'' c'' : Nat) (w : World) : Calls Try.prog 7 #[aSet A n c A' n' c' q A'' n'' c''] w (BoolB (smallB n n' n'') w) := by
  have hb : Below w.heap.size w (w.alloc (.cells #[.slice A n c, .slice A' n' c', .int .i64 q, .slice A'' n'' c''] 26)) := (Below.refl _ _).alloc (Nat.le_refl _) _
  have HB := Lib.hid hb
  clear hb
  by_cases h1 : n ≤ 14
  · have e1 : decide ((n : Int) ≤ 14) = true := by simp; omega
    by_cases h2 : n' ≤ 14
    · have e2 : decide ((n' : Int) ≤ 14) = true := by simp; omega
      have HE : Hid (smallB n n' n'' = decide ((n'' : Int) ≤ 14 + 26)) := by show _ = _; unfold smallB; rw [Bool.eq_iff_iff]; simp [h1, h2]; omega
      go_enter Try.func7, Try.ntmps7
      go_wp2
      go_ret
      exact ⟨ret_bool (by rw [HE.out]; rfl), HB.out⟩
    · have e2 : decide ((n' : Int) ≤ 14) = false := by simp; omega
      have HE : Hid (smallB n n' n'' = false) := by show _ = _; unfold smallB; simp [h2]
      go_enter Try.func7, Try.ntmps7
      go_wp2
      go_ret
      exact ⟨ret_bool (by rw [HE.out]), HB.out⟩
  · have e1 : decide ((n : Int) ≤ 14) = false := by simp; omega
    have HE : Hid (smallB n n' n'' = false) := by show _ = _; unfold smallB; simp [h1]
    go_enter Try.func7, Try.ntmps7
    go_wp2
    go_ret
    exact ⟨ret_bool (by rw [HE.out]), HB.out⟩
end Go.Proofs.Ytkeicjokekmkpaa
