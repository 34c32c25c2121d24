/- The smallest contracts. -/
import Derived.Test.YtlnaakpcnhnccaaDoorRows
import Derived.Test.YtlnaakpcnhnccaaDoorWk
namespace Go.Proofs.YtlnaakpcnhnccaaDoor
open Go.RowKit
set_option linter.unusedVariables false
set_option linter.unusedSimpArgs false

def inR (x : Int) : Bool := decide (0 ≤ x) && decide (x ≤ 1099511627776)
def validB (xs : List Int) : Bool := xs.all inR && decide (xs.length ≤ 12)
def devB (d : Int) : Bool := decide (0 ≤ d) && decide (d < 12)

theorem inR_neg {x : Int} (h : x < 0) : inR x = false := by simp [inR]; omega
theorem inR_big {x : Int} (h : 1099511627776 < x) : inR x = false := by simp [inR]; omega
theorem inR_ok {x : Int} (h : 0 ≤ x) (h' : x ≤ 1099511627776) : inR x = true := by simp [inR, h, h']
theorem all_false_of {α : Type} {p : α → Bool} {xs : List α} {k : Nat} {x : α} (h : xs[k]? = some x) (hn : p x = false) : xs.all p = false := by
  rw [List.all_eq_false]; exact ⟨x, List.mem_of_getElem? h, by simp [hn]⟩
theorem validB_of_not {xs : List Int} {k : Nat} {x : Int} (h : xs[k]? = some x) (hn : inR x = false) : validB xs = false := by
  simp [validB, all_false_of h hn]

theorem rvalid_any (A : Option Addr) (xs : List Int) (c : Nat) (w : World) (B : Nat) (hx : SL I w B A xs) (hl : xs.length ≤ 4611686018427387904) :
    Calls Tryd.prog 8 #[.slice A xs.length c] w fun e w' => e = .returned (.bool (validB xs)) ∧ w = w' := by
  go_enter Tryd.func8, Tryd.ntmps8
  go_wp2
  go_loop [3] (fun i => ∃ k : Nat, k ≤ xs.length ∧ i = .int .i64 k ∧ (xs.take k).all inR = true) (fun i => xs.length - (intOf i).toNat)
  case atStart => exact ⟨0, Nat.zero_le _, rfl, by simp⟩
  case round =>
    obtain ⟨k, hk, rfl, hall⟩ := hrel
    have Hall := Lib.hid hall
    clear hall
    by_cases hlt : k < xs.length
    · obtain ⟨b, off, x, rfl, _, hxk, hck⟩ := hx.at_ hlt
      have Hx := Lib.hid hxk
      clear hxk
      by_cases h0 : x < 0
      · have HF := Lib.hid (validB_of_not Hx.out (inR_neg h0))
        go_wp2
        go_ret
        exact ⟨ret_bool HF.out.symm, rfl⟩
      · by_cases h1 : (1099511627776 : Int) < x
        · have HF := Lib.hid (validB_of_not Hx.out (inR_big h1))
          go_wp2
          go_ret
          exact ⟨ret_bool HF.out.symm, rfl⟩
        · have HT := Lib.hid (inR_ok (x := x) (by omega) (by omega))
          go_wp2
          go_round
          case rel => exact ⟨k + 1, by omega, by go_num, by rw [take_snoc Hx.out, List.all_append, Hall.out]; simp [HT.out]⟩
          case measure => simp [intOf]; omega
    · go_wp2
      go_ret
      exact ⟨ret_bool (by have h1 := Hall.out; rw [List.take_of_length_le (by omega)] at h1; simp [validB, h1]; omega), rfl⟩
end Go.Proofs.YtlnaakpcnhnccaaDoor
