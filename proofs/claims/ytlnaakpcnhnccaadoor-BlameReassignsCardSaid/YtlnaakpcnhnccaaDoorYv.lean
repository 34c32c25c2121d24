/- Arrays of 12 numbers; the functions on them. -/
import Derived.Test.YtlnaakpcnhnccaaDoorYb
namespace Go.Proofs.YtlnaakpcnhnccaaDoor
open Go.RowKit
set_option linter.unusedVariables false
set_option linter.unusedSimpArgs false

theorem bad_any (a : Int) (w : World) : Calls Tryd.prog 58 #[.int .i64 a] w fun e w' => e = .returned (.bool (!inR a)) ∧ w = w' := by
  by_cases h0 : a < 0
  · have HF := Lib.hid (inR_neg h0)
    go_enter Tryd.func58, Tryd.ntmps58
    go_wp2
    go_ret
    exact ⟨ret_bool (by simp [HF.out]), rfl⟩
  · by_cases h1 : (1099511627776 : Int) < a
    · have HF := Lib.hid (inR_big h1)
      go_enter Tryd.func58, Tryd.ntmps58
      go_wp2
      go_ret
      exact ⟨ret_bool (by simp [HF.out]), rfl⟩
    · have HT := Lib.hid (inR_ok (x := a) (by omega) (by omega))
      go_enter Tryd.func58, Tryd.ntmps58
      go_wp2
      go_ret
      exact ⟨ret_bool (by simp [HT.out]), rfl⟩

def IdxPost (xs : List Int) (w : World) (e : Ending) (w' : World) : Prop := ∃ r : Int, e = .returned (.int .i64 r) ∧ decide (0 ≤ r) = !(xs.all inR) ∧ w = w'

theorem index_any (A : Option Addr) (xs : List Int) (c : Nat) (w : World) (B : Nat) (hx : SL I w B A xs) (hl : xs.length ≤ 4611686018427387904) :
    Calls Tryd.prog 69 #[.slice A xs.length c, .func (.func 58) #[] #[]] w (IdxPost xs w) := by
  go_enter Tryd.func69, Tryd.ntmps69
  go_wp2
  go_loop [8] (fun i => ∃ k : Nat, k ≤ xs.length ∧ i = .int .i64 k ∧ (xs.take k).all inR = true) (fun i => xs.length - (intOf i).toNat)
  case atStart => exact ⟨0, Nat.zero_le _, rfl, by simp⟩
  case round =>
    obtain ⟨k, hk, rfl, hall⟩ := hrel
    have Hall := Lib.hid hall
    clear hall
    by_cases hlt : k < xs.length
    · obtain ⟨b, off, x, rfl, _, hxk, hck⟩ := hx.at_ hlt
      have Hx := Lib.hid hxk
      clear hxk
      by_cases h0 : inR x = true
      · go_wp2_with (go_at_call 58; refine (bad_any _ _).mono ?_; rintro e w' ⟨rfl, rfl⟩)
        go_round
        case rel => exact ⟨k + 1, by omega, by go_num, by rw [take_snoc Hx.out, List.all_append, Hall.out]; simp [h0]⟩
        case measure => simp [intOf]; omega
      · have h1 : inR x = false := by simpa using h0
        clear h0
        have HF : Hid (xs.all inR = false) := by
          exact all_false_of Hx.out h1
        go_wp2_with (go_at_call 58; refine (bad_any _ _).mono ?_; rintro e w' ⟨rfl, rfl⟩)
        go_ret
        exact ⟨_, rfl, by rw [HF.out]; simp, rfl⟩
    · go_wp2
      go_ret
      exact ⟨_, rfl, by have h1 := Hall.out; rw [List.take_of_length_le (by omega)] at h1; rw [h1]; simp, rfl⟩

theorem contains_any (A : Option Addr) (xs : List Int) (c : Nat) (w : World) (B : Nat) (hx : SL I w B A xs) (hl : xs.length ≤ 4611686018427387904) :
    Calls Tryd.prog 57 #[.slice A xs.length c, .func (.func 58) #[] #[]] w fun e w' => e = .returned (.bool (!(xs.all inR))) ∧ w = w' := by
  go_enter Tryd.func57, Tryd.ntmps57
  go_wp2_with (go_at_call 69; refine (index_any _ _ _ _ B hx hl).mono ?_; rintro e w' ⟨r, rfl, hr, rfl⟩; have HR := Lib.hid hr; clear hr)
  go_ret
  exact ⟨ret_bool HR.out, rfl⟩

theorem vvalid_any (A : Option Addr) (xs : List Int) (c : Nat) (w : World) (B : Nat) (hx : SL I w B A xs) (hl : xs.length ≤ 4611686018427387904) :
    Calls Tryd.prog 41 #[.slice A xs.length c] w fun e w' => e = .returned (.bool (validB xs)) ∧ w = w' := by
  by_cases h : xs.length ≤ 12
  · go_enter Tryd.func41, Tryd.ntmps41
    go_wp2_with (go_at_call 57; refine (contains_any _ _ _ _ B hx hl).mono ?_; rintro e w' ⟨rfl, rfl⟩)
    go_ret
    exact ⟨ret_bool (by simp [validB, h]), rfl⟩
  · go_enter Tryd.func41, Tryd.ntmps41
    go_wp2
    go_ret
    exact ⟨ret_bool (by simp [validB]; omega), rfl⟩

/-- The value of an array of numbers. -/
def av (x : List Int) : Array Value := (x.map I).toArray
theorem av_get {x : List Int} {k : Nat} (h : k < x.length) : (av x)[k]? = some (.int .i64 (x.getD k 0)) := by simp [av, h]
theorem av_size (x : List Int) : (av x).size = x.length := by simp [av]
def coversB (x y : List Int) : Bool := (List.range 12).all fun k => decide (y.getD k 0 ≤ x.getD k 0)

theorem coversB_no {x y : List Int} {k : Nat} (h : k < 12) (hn : x.getD k 0 < y.getD k 0) : coversB x y = false := by
  unfold coversB; rw [List.all_eq_false]; exact ⟨k, by simp [h], by simpa using hn⟩
theorem coversB_yes {x y : List Int} (hn : ∀ k, k < 12 → y.getD k 0 ≤ x.getD k 0) : coversB x y = true := by
  unfold coversB; rw [List.all_eq_true]; intro k hk; simpa using hn k (by simpa using hk)

/-- A block of twelve numbers. -/
def Row12 (w : World) (g : Nat) (x : List Int) : Prop := ∀ k, k < 12 → w.cell? ⟨g, k, none⟩ = some (.int .i64 (x.getD k 0))
theorem Row12.of_block {w : World} {g : Nat} {x : List Int} {fr : Nat × Nat} {t : TypeId} (hx : x.length = 12) (h : w.heap[g]? = some (.cells (av x) t fr)) : Row12 w g x := fun k hk => by
  rw [cell_of_row w g k _ _ _ h, av_get (by omega)]

end Go.Proofs.YtlnaakpcnhnccaaDoor
