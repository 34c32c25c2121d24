/- Go's library: OnesCount of a small set; Sort of an ascending list. -/
import Derived.Test.YtpbeaghghlfiaaaC6
namespace Go.Proofs.Ytpbeaghghlfiaaa
open Go.RowKit Go.Lib
set_option linter.unusedVariables false
set_option linter.unusedSimpArgs false
def pc1 (x : Nat) : Nat := (x / 2) &&& 85
def pc2 (x : Nat) : Nat := x &&& 85
def pc3 (x : Nat) : Nat := ((pc1 x + pc2 x) / 4) &&& 51
def pc4 (x : Nat) : Nat := (pc1 x + pc2 x) &&& 51
theorem pcE1 : ∀ x : Nat, x < 256 → bits .and .u64 ((x : Int) / 2) 6148914691236517205 = ((pc1 x : Nat) : Int) := by decide +kernel
theorem pcE2 : ∀ x : Nat, x < 256 → bits .and .u64 (x : Int) 6148914691236517205 = ((pc2 x : Nat) : Int) := by decide +kernel
theorem pcE3 : ∀ x : Nat, x < 256 → bits .and .u64 ((((pc1 x : Nat) : Int) + ((pc2 x : Nat) : Int)) / 4) 3689348814741910323 = ((pc3 x : Nat) : Int) := by decide +kernel
theorem pcE4 : ∀ x : Nat, x < 256 → bits .and .u64 (((pc1 x : Nat) : Int) + ((pc2 x : Nat) : Int)) 3689348814741910323 = ((pc4 x : Nat) : Int) := by decide +kernel
theorem pcE5 : ∀ x : Nat, x < 256 → bits .and .u64 ((((pc3 x : Nat) : Int) + ((pc4 x : Nat) : Int)) / 16 + (((pc3 x : Nat) : Int) + ((pc4 x : Nat) : Int))) 1085102592571150095 = ((ones x : Nat) : Int) := by decide +kernel
theorem pcL : ∀ x : Nat, x < 256 → pc1 x < 256 ∧ pc2 x < 256 ∧ pc3 x < 256 ∧ pc4 x < 256 ∧ ones x < 9 := by decide +kernel
theorem pcE6 : ∀ u : Nat, u < 9 → bits .and .i64 (u : Int) 127 = (u : Int) := by decide +kernel
set_option maxRecDepth 100000 in
theorem ones64_any (x : Nat) (hx : x < 256) (w : World) : Calls Try.prog 38 #[.int .u64 x] w fun e w' => e = .returned (.int .i64 (ones x)) ∧ w = w' := by
  have e1 := pcE1 x hx
  have e2 := pcE2 x hx
  have e3 := pcE3 x hx
  have e4 := pcE4 x hx
  have e5 := pcE5 x hx
  obtain ⟨l1, l2, l3, l4, l5⟩ := pcL x hx
  obtain ⟨y1, h1⟩ : ∃ y, pc1 x = y := ⟨_, rfl⟩
  obtain ⟨y2, h2⟩ : ∃ y, pc2 x = y := ⟨_, rfl⟩
  obtain ⟨y3, h3⟩ : ∃ y, pc3 x = y := ⟨_, rfl⟩
  obtain ⟨y4, h4⟩ : ∃ y, pc4 x = y := ⟨_, rfl⟩
  obtain ⟨u, h5⟩ : ∃ y, ones x = y := ⟨_, rfl⟩
  rw [h1] at e1 e3 e4 l1
  rw [h2] at e2 e3 e4 l2
  rw [h3] at e3 e5 l3
  rw [h4] at e4 e5 l4
  rw [h5] at e5 l5 ⊢
  have e6 := pcE6 u l5
  have b1 : (y1 : Int) < 256 := by omega
  have b2 : (y2 : Int) < 256 := by omega
  have b3 : (y3 : Int) < 256 := by omega
  have b4 : (y4 : Int) < 256 := by omega
  have b5 : (u : Int) < 9 := by omega
  have bx : (x : Int) < 256 := by omega
  have d1 : (u : Int) / 256 = 0 := by omega
  have d2 : (u : Int) / 65536 = 0 := by omega
  have d3 : (u : Int) / 4294967296 = 0 := by omega
  clear h1 h2 h3 h4 h5 l1 l2 l3 l4 l5 hx
  go_enter Try.func38, Try.ntmps38
  go_wp2_with fail
  go_ret
  exact ⟨rfl, rfl⟩
set_option maxRecDepth 100000 in
theorem ones_any (x : Nat) (hx : x < 256) (w : World) : Calls Try.prog 22 #[.int .u64 x] w fun e w' => e = .returned (.int .i64 (ones x)) ∧ w = w' := by
  have H := Lib.hid (ones64_any x hx w)
  have hxI : (x : Int) < 256 := by omega
  clear hx
  go_enter Try.func22, Try.ntmps22
  go_wp2_with (go_at_call 38; (with_reducible refine H.out.mono ?_); rintro e w' ⟨rfl, rfl⟩)
  go_ret
  exact ⟨rfl, rfl⟩
def SmI (w : World) (e : Ending) (w' : World) : Prop := (∃ r : Int, e = .returned (.int .i64 r)) ∧ w = w'
set_option maxRecDepth 100000 in
theorem len64_any (n : Nat) (hn : n ≤ 8) (w : World) : Calls Try.prog 62 #[.int .u64 n] w (SmI w) := by
  have h : n = 0 ∨ n = 1 ∨ n = 2 ∨ n = 3 ∨ n = 4 ∨ n = 5 ∨ n = 6 ∨ n = 7 ∨ n = 8 := by omega
  clear hn
  rcases h with rfl | rfl | rfl | rfl | rfl | rfl | rfl | rfl | rfl
  all_goals
    go_enter Try.func62, Try.ntmps62
    go_wp2_with fail
    go_ret
    exact ⟨⟨_, rfl⟩, rfl⟩
set_option maxRecDepth 100000 in
theorem len_any (n : Nat) (hn : n ≤ 8) (w : World) : Calls Try.prog 48 #[.int .u64 n] w (SmI w) := by
  have H := Lib.hid (len64_any n hn w)
  have hnI : (n : Int) ≤ 8 := by omega
  clear hn
  go_enter Try.func48, Try.ntmps48
  go_wp2_with (go_at_call 62; (with_reducible refine H.out.mono ?_); rintro e w' ⟨⟨r, rfl⟩, rfl⟩)
  go_ret
  exact ⟨⟨_, rfl⟩, rfl⟩
theorem isNaN_any (x : Int) (w : World) : Calls Try.prog 69 #[.int .i64 x] w fun e w' => e = .returned (.bool false) ∧ w = w' := by
  go_enter Try.func69, Try.ntmps69
  go_wp2_with fail
  go_ret
  exact ⟨rfl, rfl⟩
theorem less_no (x y : Int) (h : y ≤ x) (w : World) : Calls Try.prog 58 #[.int .i64 x, .int .i64 y] w fun e w' => e = .returned (.bool false) ∧ w = w' := by
  have H := Lib.hid (isNaN_any x w)
  have hd : decide (x < y) = false := by simp; omega
  go_enter Try.func58, Try.ntmps58
  go_wp2_with (go_at_call 69; (with_reducible refine H.out.mono ?_); rintro e w' ⟨rfl, rfl⟩)
  go_ret
  exact ⟨rfl, rfl⟩
def NoP (w : World) (e : Ending) (w' : World) : Prop := e = .returned (.tuple #[]) ∧ ∃ q, w' = w.drewN q
end Go.Proofs.Ytpbeaghghlfiaaa
