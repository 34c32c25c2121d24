/- has, active, Members. -/
import Derived.Test.YtkeicjokekmkpaaCs
namespace Go.Proofs.Ytkeicjokekmkpaa
open Go.RowKit Mb
set_option linter.unusedVariables false
set_option linter.unusedSimpArgs false

abbrev fG (g : Nat) : Value := .pointer (some ⟨g, 0, none⟩)
theorem has_any (g : Nat) (A : Option Addr) (n c : Nat) (d : Int) (w : World) (hg : w.cell? ⟨g, 0, none⟩ = some (.slice A n c)) (hn : n ≤ 1000000) :
    Calls Try.prog 47 #[fG g, .int .i64 d] w fun e w' => e = .returned (.bool (decide (0 ≤ d) && decide (d < n))) ∧ w = w' := by
  by_cases h0 : 0 ≤ d
  · have e0 : decide (0 ≤ d) = true := decide_eq_true h0
    go_enter Try.func47, Try.ntmps47
    go_wp2
    go_ret
    exact ⟨ret_bool (by first | rfl | (rw [e0]; simp) | simp [e0]), rfl⟩
  · have e0 : decide (0 ≤ d) = false := decide_eq_false h0
    go_enter Try.func47, Try.ntmps47
    go_wp2
    go_ret
    exact ⟨ret_bool (by first | rfl | (rw [e0]; simp) | simp [e0]), rfl⟩
theorem active_any (g : Nat) (A : Option Addr) (n c d : Nat) (ms : List Mem) (m : Mem) (w : World) (B : Nat) (hg : w.cell? ⟨g, 0, none⟩ = some (.slice A n c)) (hx : SlN fM 5 w B A n ms) (hn : n ≤ 1000000) (hm : ms[d]? = some m) :
    Calls Try.prog 34 #[fG g, .int .i64 d] w fun e w' => e = .returned (.bool (!m.exp)) ∧ w = w' := by
  have hlt : d < n := by
    have h1 := (List.getElem?_eq_some_iff.1 hm).1
    have h2 := hx.1
    omega
  obtain ⟨b, off, x, rfl, hbB, hxk, hcell⟩ := hx.at_ hlt
  obtain rfl : x = m := Option.some.inj (hxk.symm.trans hm)
  obtain ⟨c0, c1, c2, c3, c4⟩ := five hcell
  clear hcell hxk hm hx
  go_enter Try.func34, Try.ntmps34
  go_wp2
  go_ret
  exact ⟨rfl, rfl⟩
theorem members_any (g : Nat) (A : Option Addr) (n c : Nat) (ms : List Mem) (w : World) (hg : w.cell? ⟨g, 0, none⟩ = some (.slice A n c)) (hx : SlN fM 5 w w.heap.size A n ms) (hn : n ≤ 1000000) :
    Calls Try.prog 11 #[fG g] w (OwnR fM 5 44 ms w) := by
  have HC := Lib.hid (mclone_any A n c ms w hx hn)
  clear hx
  go_enter Try.func11, Try.ntmps11
  go_wp2_with fail
  refine HC.out.mono ?_
  rintro e w1 ⟨v, rfl, ho, hb⟩
  have HO := Lib.hid ho
  have HB := Lib.hid hb
  clear ho hb
  go_wp2
  go_ret
  exact ⟨v, rfl, HO.out, HB.out⟩
end Go.Proofs.Ytkeicjokekmkpaa
