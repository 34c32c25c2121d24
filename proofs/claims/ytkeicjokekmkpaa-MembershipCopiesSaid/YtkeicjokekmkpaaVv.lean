/- Rules, cuttings and vaults that are valid. -/
import Derived.Test.YtkeicjokekmkpaaTk
namespace Go.Proofs.Ytkeicjokekmkpaa
open Go.RowKit Mb
set_option linter.unusedVariables false
set_option linter.unusedSimpArgs false

theorem all_false {xs : List Int} {p : Int → Bool} {k : Nat} {x : Int} (h : xs[k]? = some x) (hp : p x = false) : xs.all p = false := by
  rw [List.all_eq_false]
  exact ⟨x, List.mem_of_getElem? h, by simp [hp]⟩
def inN (n : Int) : Bool := decide (0 ≤ n) && decide (n ≤ 1000)
def rulesB (a b c d : Int) : Bool := inN a && (inN b && (inN c && inN d))
abbrev fR (a b c d : Int) : Value := .agg #[.int .i64 a, .int .i64 b, .int .i64 c, .int .i64 d]
theorem inN_neg {d : Int} (h : d < 0) : inN d = false := by unfold inN; simp; omega
theorem inN_big {d : Int} (h : 1000 < d) : inN d = false := by unfold inN; simp; omega
theorem inN_ok {d : Int} (h0 : 0 ≤ d) (h1 : d ≤ 1000) : inN d = true := by unfold inN; simp; omega
theorem inN_of {d : Int} (h : inN d = true) : 0 ≤ d ∧ d ≤ 1000 := by unfold inN at h; simpa using h
theorem rulesB_all (a b c d : Int) : rulesB a b c d = [a, b, c, d].all inN := by simp [rulesB]

set_option maxRecDepth 20000 in
theorem valid_any (a b c d : Int) (w : World) : Calls Try.prog 54 #[fR a b c d] w (BoolB (rulesB a b c d) w) := by
  rw [rulesB_all]
  obtain ⟨rb, hrb⟩ : ∃ rb, [a, b, c, d].all inN = rb := ⟨_, rfl⟩
  have HRB := Lib.hid hrb
  rw [hrb]
  clear hrb
  go_enter Try.func54, Try.ntmps54
  go_wp2
  obtain ⟨W0, hW0⟩ : ∃ W0 : World, W0 = (w.alloc (.cells #[.int .i64 a, .int .i64 b, .int .i64 c, .int .i64 d] 34)).alloc (.cells #[.int .i64 a, .int .i64 b, .int .i64 c, .int .i64 d] 3) := ⟨_, rfl⟩
  have HB0 : Hid (Below w.heap.size w W0) := by show Below _ _ _; rw [hW0]; exact ((Below.refl _ _).alloc (Nat.le_refl _) _).alloc (by simp) _
  have HG0 : Hid (W0.heap[w.heap.size + 1]? = some (.cells #[.int .i64 a, .int .i64 b, .int .i64 c, .int .i64 d] 3 (0, 0))) := by
    show _ = _
    rw [hW0]
    have := heap_alloc_new (w.alloc (.cells #[.int .i64 a, .int .i64 b, .int .i64 c, .int .i64 d] 34)) (.cells #[.int .i64 a, .int .i64 b, .int .i64 c, .int .i64 d] 3)
    simpa using this
  try rw [← hW0]
  clear hW0
  go_loop [15] (fun i => ∃ k : Nat, k ≤ 4 ∧ i = .int .i64 k ∧ Hid (([a, b, c, d].take k).all inN = true)) (fun i => 4 - (intOf i).toNat)
  case atStart => exact ⟨0, Nat.zero_le _, rfl, by show _ = _; simp⟩
  case round =>
    obtain ⟨k, hk, rfl, Hall⟩ := hrel
    by_cases hlt : k < 4
    · obtain ⟨x, hx⟩ : ∃ x, [a, b, c, d][k]? = some x := get_ex (by simpa using hlt)
      have Hx := Lib.hid hx
      have hck : W0.cell? ⟨w.heap.size + 1, k, none⟩ = some (.int .i64 x) := by
        rw [cell_of_row _ _ _ _ _ _ HG0.out]
        have : (#[Value.int .i64 a, .int .i64 b, .int .i64 c, .int .i64 d] : Array Value)[k]? = ([a, b, c, d].map I)[k]? := by simp
        rw [this, List.getElem?_map, hx]
        rfl
      clear hx
      by_cases h0 : x < 0
      · have HF : Hid ([a, b, c, d].all inN = false) := all_false Hx.out (inN_neg h0)
        go_wp2
        go_ret
        exact ⟨ret_bool (by rw [← HRB.out, HF.out]), HB0.out⟩
      · by_cases h2 : 1000 < x
        · have HF : Hid ([a, b, c, d].all inN = false) := all_false Hx.out (inN_big h2)
          go_wp2
          go_ret
          exact ⟨ret_bool (by rw [← HRB.out, HF.out]), HB0.out⟩
        · have HOK : Hid (inN x = true) := inN_ok (by omega) (by omega)
          go_wp2
          go_round
          case rel => exact ⟨k + 1, by omega, by go_num, by show _ = _; rw [take_snoc Hx.out, List.all_append, Hall.out]; simp only [List.all_cons, HOK.out, List.all_nil]; rfl⟩
          case measure => simp [intOf]; omega
    · obtain rfl : k = 4 := by omega
      go_wp2
      go_ret
      exact ⟨ret_bool (by have h1 := Hall.out; rw [List.take_of_length_le (by simp)] at h1; rw [← HRB.out, h1]), HB0.out⟩


def cutB (mn mx wn bt : Int) : Bool := decide (1 ≤ wn) && (decide (wn ≤ 64) && (decide (wn ≤ mn) && (decide (mn ≤ mx) && (decide (mx ≤ 32768) && (decide (0 ≤ bt) && decide (bt ≤ 20))))))
abbrev aC (mn mx wn bt sd : Int) : Value := .agg #[.int .i64 mn, .int .i64 mx, .int .i64 wn, .int .i64 bt, .int .u64 sd]
set_option maxRecDepth 20000 in
set_option maxHeartbeats 2000000 in
theorem cut_any (mn mx wn bt sd : Int) (w : World) : Calls Try.prog 53 #[aC mn mx wn bt sd] w (BoolB (cutB mn mx wn bt) w) := by
  have hb0 : Below w.heap.size w (w.alloc (.cells #[.int .i64 mn, .int .i64 mx, .int .i64 wn, .int .i64 bt, .int .u64 sd] 32)) := (Below.refl _ _).alloc (Nat.le_refl _) _
  have HB0 := Lib.hid hb0
  clear hb0
  by_cases q0 : 1 ≤ wn
  · have d0 : decide (1 ≤ wn) = true := decide_eq_true q0
    by_cases q1 : wn ≤ 64
    · have d1 : decide (wn ≤ 64) = true := decide_eq_true q1
      by_cases q2 : wn ≤ mn
      · have d2 : decide (wn ≤ mn) = true := decide_eq_true q2
        by_cases q3 : mn ≤ mx
        · have d3 : decide (mn ≤ mx) = true := decide_eq_true q3
          by_cases q4 : mx ≤ 32768
          · have d4 : decide (mx ≤ 32768) = true := decide_eq_true q4
            by_cases q5 : 0 ≤ bt
            · have d5 : decide (0 ≤ bt) = true := decide_eq_true q5
              by_cases q6 : bt ≤ 20
              · have d6 : decide (bt ≤ 20) = true := decide_eq_true q6
                have HR : Hid (cutB mn mx wn bt = true) := by show _ = _; unfold cutB; simp [q0, q1, q2, q3, q4, q5, q6]
                go_enter Try.func53, Try.ntmps53
                go_wp2
                go_ret
                exact ⟨ret_bool HR.out.symm, HB0.out⟩
              · have HR : Hid (cutB mn mx wn bt = false) := by show _ = _; unfold cutB; simp [q6]
                have d6 : decide (bt ≤ 20) = false := decide_eq_false q6
                go_enter Try.func53, Try.ntmps53
                go_wp2
                go_ret
                exact ⟨ret_bool HR.out.symm, HB0.out⟩
            · have HR : Hid (cutB mn mx wn bt = false) := by show _ = _; unfold cutB; simp [q5]
              have d5 : decide (0 ≤ bt) = false := decide_eq_false q5
              go_enter Try.func53, Try.ntmps53
              go_wp2
              go_ret
              exact ⟨ret_bool HR.out.symm, HB0.out⟩
          · have HR : Hid (cutB mn mx wn bt = false) := by show _ = _; unfold cutB; simp [q4]
            have d4 : decide (mx ≤ 32768) = false := decide_eq_false q4
            go_enter Try.func53, Try.ntmps53
            go_wp2
            go_ret
            exact ⟨ret_bool HR.out.symm, HB0.out⟩
        · have HR : Hid (cutB mn mx wn bt = false) := by show _ = _; unfold cutB; simp [q3]
          have d3 : decide (mn ≤ mx) = false := decide_eq_false q3
          go_enter Try.func53, Try.ntmps53
          go_wp2
          go_ret
          exact ⟨ret_bool HR.out.symm, HB0.out⟩
      · have HR : Hid (cutB mn mx wn bt = false) := by show _ = _; unfold cutB; simp [q2]
        have d2 : decide (wn ≤ mn) = false := decide_eq_false q2
        go_enter Try.func53, Try.ntmps53
        go_wp2
        go_ret
        exact ⟨ret_bool HR.out.symm, HB0.out⟩
    · have HR : Hid (cutB mn mx wn bt = false) := by show _ = _; unfold cutB; simp [q1]
      have d1 : decide (wn ≤ 64) = false := decide_eq_false q1
      go_enter Try.func53, Try.ntmps53
      go_wp2
      go_ret
      exact ⟨ret_bool HR.out.symm, HB0.out⟩
  · have HR : Hid (cutB mn mx wn bt = false) := by show _ = _; unfold cutB; simp [q0]
    have d0 : decide (1 ≤ wn) = false := decide_eq_false q0
    go_enter Try.func53, Try.ntmps53
    go_wp2
    go_ret
    exact ⟨ret_bool HR.out.symm, HB0.out⟩
end Go.Proofs.Ytkeicjokekmkpaa
