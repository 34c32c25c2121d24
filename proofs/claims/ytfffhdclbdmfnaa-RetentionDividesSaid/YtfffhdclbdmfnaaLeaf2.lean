/- Rules that are valid; the errors of arguments; two lists that are equal. -/
import Derived.Test.YtfffhdclbdmfnaaLeaf
namespace Go.Proofs.Ytfffhdclbdmfnaa
open Go.RowKit Cal Ret
set_option linter.unusedVariables false
set_option linter.unusedSimpArgs false

def inN (n : Int) : Bool := decide (0 ≤ n) && decide (n ≤ 1000)
def rulesB (a b c d : Int) : Bool := inN a && (inN b && (inN c && inN d))
abbrev fR (a b c d : Int) : Value := .agg #[.int .i64 a, .int .i64 b, .int .i64 c, .int .i64 d]
theorem inN_neg {d : Int} (h : d < 0) : inN d = false := by unfold inN; simp; omega
theorem inN_big {d : Int} (h : 1000 < d) : inN d = false := by unfold inN; simp; omega
theorem inN_ok {d : Int} (h0 : 0 ≤ d) (h1 : d ≤ 1000) : inN d = true := by unfold inN; simp; omega
theorem inN_of {d : Int} (h : inN d = true) : 0 ≤ d ∧ d ≤ 1000 := by unfold inN at h; simpa using h
theorem rulesB_all (a b c d : Int) : rulesB a b c d = [a, b, c, d].all inN := by simp [rulesB]

def BoolB (v : Bool) (w : World) (e : Ending) (w' : World) : Prop := e = .returned (.bool v) ∧ Below w.heap.size w w'
set_option maxRecDepth 20000 in
theorem valid_any (a b c d : Int) (w : World) : Calls Try.prog 13 #[fR a b c d] w (BoolB (rulesB a b c d) w) := by
  rw [rulesB_all]
  obtain ⟨rb, hrb⟩ : ∃ rb, [a, b, c, d].all inN = rb := ⟨_, rfl⟩
  have HRB := Lib.hid hrb
  rw [hrb]
  clear hrb
  go_enter Try.func13, Try.ntmps13
  go_wp2
  obtain ⟨W0, hW0⟩ : ∃ W0 : World, W0 = (w.alloc (.cells #[.int .i64 a, .int .i64 b, .int .i64 c, .int .i64 d] 23)).alloc (.cells #[.int .i64 a, .int .i64 b, .int .i64 c, .int .i64 d] 3) := ⟨_, rfl⟩
  have HB0 : Hid (Below w.heap.size w W0) := by show Below _ _ _; rw [hW0]; exact ((Below.refl _ _).alloc (Nat.le_refl _) _).alloc (by simp) _
  have HG0 : Hid (W0.heap[w.heap.size + 1]? = some (.cells #[.int .i64 a, .int .i64 b, .int .i64 c, .int .i64 d] 3 (0, 0))) := by
    show _ = _
    rw [hW0]
    have := heap_alloc_new (w.alloc (.cells #[.int .i64 a, .int .i64 b, .int .i64 c, .int .i64 d] 23)) (.cells #[.int .i64 a, .int .i64 b, .int .i64 c, .int .i64 d] 3)
    simpa using this
  try rw [← hW0]
  clear hW0
  go_loop [15] (fun i => ∃ k : Nat, k ≤ 4 ∧ i = .int .i64 k ∧ Hid (([a, b, c, d].take k).all inN = true)) (fun i => 4 - (intOf i).toNat)
  case atStart => exact ⟨0, Nat.zero_le _, rfl, by show _ = _; simp⟩
  case round =>
    obtain ⟨k, hk, rfl, Hall⟩ := hrel
    by_cases hlt : k < 4
    · obtain ⟨x, hx⟩ : ∃ x, [a, b, c, d][k]? = some x := get_ex (by simpa using hlt)
      have Hx := Lib.hid hx
      have hck : W0.cell? ⟨w.heap.size + 1, k, none⟩ = some (.int .i64 x) := by
        rw [cell_of_row _ _ _ _ _ _ HG0.out]
        have : (#[Value.int .i64 a, .int .i64 b, .int .i64 c, .int .i64 d] : Array Value)[k]? = ([a, b, c, d].map I)[k]? := by simp
        rw [this, List.getElem?_map, hx]
        rfl
      clear hx
      by_cases h0 : x < 0
      · have HF : Hid ([a, b, c, d].all inN = false) := all_false Hx.out (inN_neg h0)
        go_wp2
        go_ret
        exact ⟨ret_bool (by rw [← HRB.out, HF.out]), HB0.out⟩
      · by_cases h2 : 1000 < x
        · have HF : Hid ([a, b, c, d].all inN = false) := all_false Hx.out (inN_big h2)
          go_wp2
          go_ret
          exact ⟨ret_bool (by rw [← HRB.out, HF.out]), HB0.out⟩
        · have HOK : Hid (inN x = true) := inN_ok (by omega) (by omega)
          go_wp2
          go_round
          case rel => exact ⟨k + 1, by omega, by go_num, by show _ = _; rw [take_snoc Hx.out, List.all_append, Hall.out]; simp only [List.all_cons, HOK.out, List.all_nil]; rfl⟩
          case measure => simp [intOf]; omega
    · obtain rfl : k = 4 := by omega
      go_wp2
      go_ret
      exact ⟨ret_bool (by have h1 := Hall.out; rw [List.take_of_length_le (by simp)] at h1; rw [← HRB.out, h1]), HB0.out⟩

theorem rulesB_no {a b c d x : Int} (h : x = a ∨ x = b ∨ x = c ∨ x = d) (hx : x < 0 ∨ 1000 < x) : rulesB a b c d = false := by
  have hn : inN x = false := by
    rcases hx with hx | hx
    · exact inN_neg hx
    · exact inN_big hx
  unfold rulesB
  rcases h with rfl | rfl | rfl | rfl <;> simp [hn]
theorem rulesB_yes {a b c d : Int} (h : (0 ≤ a ∧ a ≤ 1000) ∧ (0 ≤ b ∧ b ≤ 1000) ∧ (0 ≤ c ∧ c ≤ 1000) ∧ (0 ≤ d ∧ d ≤ 1000)) : rulesB a b c d = true := by
  unfold rulesB
  rw [inN_ok h.1.1 h.1.2, inN_ok h.2.1.1 h.2.1.2, inN_ok h.2.2.1.1 h.2.2.1.2, inN_ok h.2.2.2.1 h.2.2.2.2]
  rfl
set_option maxRecDepth 20000 in
theorem rvalid_any (a b c d : Int) (w : World) : Calls Try.prog 14 #[fR a b c d] w (BoolB (rulesB a b c d) w) := by
  obtain ⟨rb, hrb⟩ : ∃ rb, rulesB a b c d = rb := ⟨_, rfl⟩
  have HRB := Lib.hid hrb
  rw [hrb]
  clear hrb
  by_cases h0 : 0 ≤ a
  · by_cases h1 : a ≤ 1000
    · by_cases h2 : 0 ≤ b
      · by_cases h3 : b ≤ 1000
        · by_cases h4 : 0 ≤ c
          · by_cases h5 : c ≤ 1000
            · by_cases h6 : 0 ≤ d
              · by_cases h7 : d ≤ 1000
                · obtain rfl : rb = true := by rw [← HRB.out]; exact rulesB_yes ⟨⟨h0, h1⟩, ⟨h2, h3⟩, ⟨h4, h5⟩, ⟨h6, h7⟩⟩
                  go_enter Try.func14, Try.ntmps14
                  go_wp2
                  go_ret
                  exact ⟨rfl, (Below.refl _ _).alloc (Nat.le_refl _) _⟩
                · obtain rfl : rb = false := by rw [← HRB.out]; exact rulesB_no (x := d) (.inr (.inr (.inr rfl))) (by omega)
                  go_enter Try.func14, Try.ntmps14
                  go_wp2
                  go_ret
                  exact ⟨rfl, (Below.refl _ _).alloc (Nat.le_refl _) _⟩
              · obtain rfl : rb = false := by rw [← HRB.out]; exact rulesB_no (x := d) (.inr (.inr (.inr rfl))) (by omega)
                go_enter Try.func14, Try.ntmps14
                go_wp2
                go_ret
                exact ⟨rfl, (Below.refl _ _).alloc (Nat.le_refl _) _⟩
            · obtain rfl : rb = false := by rw [← HRB.out]; exact rulesB_no (x := c) (.inr (.inr (.inl rfl))) (by omega)
              go_enter Try.func14, Try.ntmps14
              go_wp2
              go_ret
              exact ⟨rfl, (Below.refl _ _).alloc (Nat.le_refl _) _⟩
          · obtain rfl : rb = false := by rw [← HRB.out]; exact rulesB_no (x := c) (.inr (.inr (.inl rfl))) (by omega)
            go_enter Try.func14, Try.ntmps14
            go_wp2
            go_ret
            exact ⟨rfl, (Below.refl _ _).alloc (Nat.le_refl _) _⟩
        · obtain rfl : rb = false := by rw [← HRB.out]; exact rulesB_no (x := b) (.inr (.inl rfl)) (by omega)
          go_enter Try.func14, Try.ntmps14
          go_wp2
          go_ret
          exact ⟨rfl, (Below.refl _ _).alloc (Nat.le_refl _) _⟩
      · obtain rfl : rb = false := by rw [← HRB.out]; exact rulesB_no (x := b) (.inr (.inl rfl)) (by omega)
        go_enter Try.func14, Try.ntmps14
        go_wp2
        go_ret
        exact ⟨rfl, (Below.refl _ _).alloc (Nat.le_refl _) _⟩
    · obtain rfl : rb = false := by rw [← HRB.out]; exact rulesB_no (x := a) (.inl rfl) (by omega)
      go_enter Try.func14, Try.ntmps14
      go_wp2
      go_ret
      exact ⟨rfl, (Below.refl _ _).alloc (Nat.le_refl _) _⟩
  · obtain rfl : rb = false := by rw [← HRB.out]; exact rulesB_no (x := a) (.inl rfl) (by omega)
    go_enter Try.func14, Try.ntmps14
    go_wp2
    go_ret
    exact ⟨rfl, (Below.refl _ _).alloc (Nat.le_refl _) _⟩
end Go.Proofs.Ytfffhdclbdmfnaa
