/- Leaf functions of retention, its reference and its laws. -/
import Derived.Test.YtfffhdclbdmfnaaCalD
import Derived.Test.YtfffhdclbdmfnaaRet2
import Derived.Test.YtfffhdclbdmfnaaShelf
namespace Go.Proofs.Ytfffhdclbdmfnaa
open Go.RowKit Cal Ret
set_option linter.unusedVariables false
set_option linter.unusedSimpArgs false

def okB (d : Int) : Bool := decide (0 ≤ d) && decide (d ≤ 999999)
theorem okB_iff {d : Int} : okB d = true ↔ okD d := by unfold okB okD; simp
theorem okB_neg {d : Int} (h : d < 0) : okB d = false := by unfold okB; simp; omega
theorem okB_big {d : Int} (h : 999999 < d) : okB d = false := by unfold okB; simp; omega
theorem okB_ok {d : Int} (h0 : 0 ≤ d) (h1 : d ≤ 999999) : okB d = true := okB_iff.2 ⟨h0, h1⟩
theorem allOk {xs : List Int} (h : xs.all okB = true) : ∀ x ∈ xs, okD x := fun x hx => okB_iff.1 (List.all_eq_true.1 h x hx)
theorem all_false {xs : List Int} {p : Int → Bool} {k : Nat} {x : Int} (h : xs[k]? = some x) (hp : p x = false) : xs.all p = false := by
  rw [← Bool.not_eq_true, List.all_eq_true]
  intro ha
  have := ha x (List.mem_of_getElem? h)
  rw [hp] at this
  cases this

theorem bad_any (a : Int) (w : World) : Calls Try.prog 42 #[.int .i64 a] w fun e w' => e = .returned (.bool (!okB a)) ∧ w = w' := by
  by_cases h0 : a < 0
  · have HF := Lib.hid (okB_neg h0)
    go_enter Try.func42, Try.ntmps42
    go_wp2
    go_ret
    exact ⟨ret_bool (by simp [HF.out]), rfl⟩
  · by_cases h1 : (999999 : Int) < a
    · have HF := Lib.hid (okB_big h1)
      go_enter Try.func42, Try.ntmps42
      go_wp2
      go_ret
      exact ⟨ret_bool (by simp [HF.out]), rfl⟩
    · have HT := Lib.hid (okB_ok (d := a) (by omega) (by omega))
      go_enter Try.func42, Try.ntmps42
      go_wp2
      go_ret
      exact ⟨ret_bool (by simp [HT.out]), rfl⟩
def IdxPost (xs : List Int) (w : World) (e : Ending) (w' : World) : Prop := ∃ r : Int, e = .returned (.int .i64 r) ∧ decide (0 ≤ r) = !(xs.all okB) ∧ w = w'
theorem index_any (A : Option Addr) (n : Nat) (xs : List Int) (c : Nat) (w : World) (B : Nat) (hx : Sl I w B A n xs) (hl : n ≤ 1000000) :
    Calls Try.prog 58 #[.slice A n c, .func (.func 42) #[] #[]] w (IdxPost xs w) := by
  obtain ⟨hlen, hx⟩ := hx
  have HLEN := Lib.hid hlen
  clear hlen
  go_enter Try.func58, Try.ntmps58
  go_wp2
  go_loop [8] (fun i => ∃ k : Nat, k ≤ n ∧ i = .int .i64 k ∧ Hid ((xs.take k).all okB = true)) (fun i => n - (intOf i).toNat)
  case atStart => exact ⟨0, Nat.zero_le _, rfl, by show _ = _; simp⟩
  case round =>
    obtain ⟨k, hk, rfl, Hall⟩ := hrel
    by_cases hlt : k < n
    · obtain ⟨b, off, x, rfl, _, hxk, hck⟩ := hx.at_ (k := k) (by have := HLEN.out; omega)
      have Hx := Lib.hid hxk
      clear hxk
      by_cases h0 : okB x = true
      · go_wp2_with (go_at_call 42; refine (bad_any _ _).mono ?_; rintro e w' ⟨rfl, rfl⟩)
        go_round
        case rel => exact ⟨k + 1, by omega, by go_num, by show _ = _; rw [take_snoc Hx.out, List.all_append, Hall.out]; simp [h0]⟩
        case measure => simp [intOf]; omega
      · have h1 : okB x = false := by simpa using h0
        clear h0
        have HF : Hid (xs.all okB = false) := all_false Hx.out h1
        go_wp2_with (go_at_call 42; refine (bad_any _ _).mono ?_; rintro e w' ⟨rfl, rfl⟩)
        go_ret
        exact ⟨_, rfl, by rw [HF.out]; simp, rfl⟩
    · go_wp2
      go_ret
      exact ⟨_, rfl, by have h1 := Hall.out; rw [List.take_of_length_le (by have := HLEN.out; omega)] at h1; rw [h1]; simp, rfl⟩
theorem cfunc_any (A : Option Addr) (n : Nat) (xs : List Int) (c : Nat) (w : World) (B : Nat) (hx : Sl I w B A n xs) (hl : n ≤ 1000000) :
    Calls Try.prog 43 #[.slice A n c, .func (.func 42) #[] #[]] w fun e w' => e = .returned (.bool (!(xs.all okB))) ∧ w = w' := by
  go_enter Try.func43, Try.ntmps43
  go_wp2_with (go_at_call 58; refine (index_any _ _ _ _ _ B hx hl).mono ?_; rintro e w' ⟨r, rfl, hr, rfl⟩; have HR := Lib.hid hr; clear hr)
  go_ret
  exact ⟨ret_bool HR.out, rfl⟩
theorem inrange_any (A : Option Addr) (n : Nat) (xs : List Int) (c : Nat) (w : World) (B : Nat) (hx : Sl I w B A n xs) (hl : n ≤ 1000000) :
    Calls Try.prog 49 #[.slice A n c] w fun e w' => e = .returned (.bool (xs.all okB)) ∧ w = w' := by
  obtain ⟨hlen, hx⟩ := hx
  have HLEN := Lib.hid hlen
  clear hlen
  go_enter Try.func49, Try.ntmps49
  go_wp2
  go_loop [7] (fun i => ∃ k : Nat, k ≤ n ∧ i = .int .i64 k ∧ Hid ((xs.take k).all okB = true)) (fun i => n - (intOf i).toNat)
  case atStart => exact ⟨0, Nat.zero_le _, rfl, by show _ = _; simp⟩
  case round =>
    obtain ⟨k, hk, rfl, Hall⟩ := hrel
    by_cases hlt : k < n
    · obtain ⟨b, off, x, rfl, _, hxk, hck⟩ := hx.at_ (k := k) (by have := HLEN.out; omega)
      have Hx := Lib.hid hxk
      clear hxk
      by_cases h0 : x < 0
      · have HF : Hid (xs.all okB = false) := all_false Hx.out (okB_neg h0)
        go_wp2
        go_ret
        exact ⟨ret_bool HF.out.symm, rfl⟩
      · by_cases h2 : 999999 < x
        · have HF : Hid (xs.all okB = false) := all_false Hx.out (okB_big h2)
          go_wp2
          go_ret
          exact ⟨ret_bool HF.out.symm, rfl⟩
        · have HOK : Hid (okB x = true) := okB_ok (by omega) (by omega)
          go_wp2
          go_round
          case rel => exact ⟨k + 1, by omega, by go_num, by show _ = _; rw [take_snoc Hx.out, List.all_append, Hall.out]; simp [HOK.out]⟩
          case measure => simp [intOf]; omega
    · go_wp2
      go_ret
      exact ⟨ret_bool (by have h1 := Hall.out; rw [List.take_of_length_le (by have := HLEN.out; omega)] at h1; rw [h1]), rfl⟩
theorem rhas_any (A : Option Addr) (n : Nat) (xs : List Int) (c : Nat) (v : Int) (w : World) (B : Nat) (hx : Sl I w B A n xs) (hl : n ≤ 1000000) :
    Calls Try.prog 34 #[.slice A n c, .int .i64 v] w fun e w' => e = .returned (.bool (decide (v ∈ xs))) ∧ w = w' := by
  obtain ⟨hlen, hx⟩ := hx
  have HLEN := Lib.hid hlen
  clear hlen
  go_enter Try.func34, Try.ntmps34
  go_wp2
  go_loop [9] (fun i => ∃ k : Nat, k ≤ n ∧ i = .int .i64 k ∧ Hid (¬ v ∈ xs.take k)) (fun i => n - (intOf i).toNat)
  case atStart => exact ⟨0, Nat.zero_le _, rfl, by show ¬ _; simp⟩
  case round =>
    obtain ⟨k, hk, rfl, Hall⟩ := hrel
    by_cases hlt : k < n
    · obtain ⟨b, off, x, rfl, _, hxk, hck⟩ := hx.at_ (k := k) (by have := HLEN.out; omega)
      have Hx := Lib.hid hxk
      clear hxk
      by_cases h0 : x = v
      · have hb : (x == v) = true := by simp [h0]
        have HM : Hid (v ∈ xs) := by show v ∈ xs; rw [← h0]; exact List.mem_of_getElem? Hx.out
        clear h0
        go_wp2
        go_ret
        exact ⟨ret_bool (decide_eq_true HM.out).symm, rfl⟩
      · have hb : (x == v) = false := by simp [h0]
        have HN : Hid (¬ v ∈ xs.take (k + 1)) := by
          show ¬ _
          rw [take_snoc Hx.out, List.mem_append, List.mem_singleton]
          intro h
          rcases h with h | h
          · exact Hall.out h
          · exact h0 h.symm
        clear h0
        go_wp2
        go_round
        case rel => exact ⟨k + 1, by omega, by go_num, HN⟩
        case measure => simp [intOf]; omega
    · go_wp2
      go_ret
      exact ⟨ret_bool (decide_eq_false (by have h1 := Hall.out; rw [List.take_of_length_le (by have := HLEN.out; omega)] at h1; exact h1)).symm, rfl⟩
theorem lhas_any (A : Option Addr) (n : Nat) (xs : List Int) (c : Nat) (v : Int) (w : World) (B : Nat) (hx : Sl I w B A n xs) (hl : n ≤ 1000000) :
    Calls Try.prog 23 #[.slice A n c, .int .i64 v] w fun e w' => e = .returned (.bool (decide (v ∈ xs))) ∧ w = w' := by
  obtain ⟨hlen, hx⟩ := hx
  have HLEN := Lib.hid hlen
  clear hlen
  go_enter Try.func23, Try.ntmps23
  go_wp2
  go_loop [9] (fun i => ∃ k : Nat, k ≤ n ∧ i = .int .i64 k ∧ Hid (¬ v ∈ xs.take k)) (fun i => n - (intOf i).toNat)
  case atStart => exact ⟨0, Nat.zero_le _, rfl, by show ¬ _; simp⟩
  case round =>
    obtain ⟨k, hk, rfl, Hall⟩ := hrel
    by_cases hlt : k < n
    · obtain ⟨b, off, x, rfl, _, hxk, hck⟩ := hx.at_ (k := k) (by have := HLEN.out; omega)
      have Hx := Lib.hid hxk
      clear hxk
      by_cases h0 : x = v
      · have hb : (x == v) = true := by simp [h0]
        have HM : Hid (v ∈ xs) := by show v ∈ xs; rw [← h0]; exact List.mem_of_getElem? Hx.out
        clear h0
        go_wp2
        go_ret
        exact ⟨ret_bool (decide_eq_true HM.out).symm, rfl⟩
      · have hb : (x == v) = false := by simp [h0]
        have HN : Hid (¬ v ∈ xs.take (k + 1)) := by
          show ¬ _
          rw [take_snoc Hx.out, List.mem_append, List.mem_singleton]
          intro h
          rcases h with h | h
          · exact Hall.out h
          · exact h0 h.symm
        clear h0
        go_wp2
        go_round
        case rel => exact ⟨k + 1, by omega, by go_num, HN⟩
        case measure => simp [intOf]; omega
    · go_wp2
      go_ret
      exact ⟨ret_bool (decide_eq_false (by have h1 := Hall.out; rw [List.take_of_length_le (by have := HLEN.out; omega)] at h1; exact h1)).symm, rfl⟩
theorem has_any (A : Option Addr) (n : Nat) (xs : List Int) (c : Nat) (v : Int) (w : World) (B : Nat) (hx : Sl I w B A n xs) (hl : n ≤ 1000000) :
    Calls Try.prog 30 #[.slice A n c, .int .i64 v] w fun e w' => e = .returned (.bool (decide (v ∈ xs))) ∧ w = w' := by
  obtain ⟨rfl, hx⟩ := hx
  rcases Nat.eq_zero_or_pos xs.length with h0 | h0
  · obtain rfl := List.eq_nil_of_length_eq_zero h0
    exact (Try.slices_Contains_int_empty A c v w).mono fun e w' ⟨he, hw⟩ => ⟨by rw [he]; simp, hw.symm⟩
  · obtain ⟨b, off, rfl, _, hc⟩ := hx h0
    refine (Try.slices_Contains_int b off xs.length c xs v w (Nat.le_refl _) (by omega) (fun j hj => by
      rw [hc j _ (List.getElem?_eq_getElem hj), getD_of (List.getElem?_eq_getElem hj)])).mono fun e w' ⟨he, hw⟩ => ⟨by rw [he, List.take_length]; congr 2; simp, hw.symm⟩
end Go.Proofs.Ytfffhdclbdmfnaa
