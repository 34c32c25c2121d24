/- wire.Reader: limited. -/
import Derived.Test.YtlnaakpcnhnccaaDoorWiA
namespace Go.Proofs.YtlnaakpcnhnccaaDoor
open Go.RowKit
set_option linter.unusedVariables false
set_option linter.unusedSimpArgs false

theorem numF_nonneg (bs : List Int) (k acc i p : Nat) : 0 ≤ (numF bs k acc i p).1 := by
  induction k generalizing acc i p with
  | zero => simp [numF]
  | succ k ih =>
    rw [numF]
    split
    · simp
    · split
      · exact ih _ _ _
      · split
        · simp
        · show (0 : Int) ≤ ((_ : Nat) : Int)
          omega
/-- What limited reads. -/
def limF (m : Nat) (N : Int × Int × Nat) : Int × Int × Nat := if N.2.1 = 0 then (if (m : Int) < N.1 then (0, 2, N.2.2) else (N.1, 0, N.2.2)) else (0, N.2.1, N.2.2)

set_option maxRecDepth 20000 in
theorem limited_any (g : Nat) (A : Option Addr) (n c p m : Nat) (pv er0 : Int) (bs : List Int) (w : World) (hr : Rd w g A n c p pv er0) (hx : Sl fB w g A n bs) (hb : ∀ b ∈ bs, 0 ≤ b ∧ b < 256) (hp : p ≤ n) (hn : n ≤ 1000000) (hm : m ≤ 1000000) :
    Calls Tryd.prog 56 #[.pointer (some ⟨g, 0, none⟩), .int .i64 m] w fun e w' => e = .returned (.tuple #[.int .i64 (limF m (numF bs 10 0 0 p)).1, .int .i64 (limF m (numF bs 10 0 0 p)).2.1]) ∧ Rd w' g A n c (limF m (numF bs 10 0 0 p)).2.2 pv er0 ∧ But (fun k => k = g) w w' := by
  have HC := Lib.hid (number_any g A n c p pv er0 bs w hr hx hb hp hn)
  have hv0 := numF_nonneg bs 10 0 0 p
  obtain ⟨v, er, p', hN⟩ : ∃ v er p', numF bs 10 0 0 p = (v, er, p') := ⟨_, _, _, rfl⟩
  rw [hN] at HC hv0 ⊢
  clear hr hx hb hN
  simp only at hv0
  by_cases he : er = 0
  · subst he
    by_cases hlt : (m : Int) < v
    · have HL : Hid (limF m (v, 0, p') = (0, 2, p')) := by show _ = _; simp [limF, hlt]
      rw [HL.out]
      go_enter Tryd.func56, Tryd.ntmps56
      go_wp2_with (go_at_call 38; refine HC.out.mono ?_; rintro e w1 ⟨rfl, h1, h2⟩)
      go_ret2
      exact ⟨rfl, h1, h2⟩
    · have HL : Hid (limF m (v, 0, p') = (v, 0, p')) := by show _ = _; simp [limF, hlt]
      rw [HL.out]
      go_enter Tryd.func56, Tryd.ntmps56
      go_wp2_with (go_at_call 38; refine HC.out.mono ?_; rintro e w1 ⟨rfl, h1, h2⟩)
      go_ret2
      exact ⟨rfl, h1, h2⟩
  · have HL : Hid (limF m (v, er, p') = (0, er, p')) := by show _ = _; simp [limF, he]
    have heb : (er != 0) = true := by simp [he]
    rw [HL.out]
    go_enter Tryd.func56, Tryd.ntmps56
    go_wp2_with (go_at_call 38; refine HC.out.mono ?_; rintro e w1 ⟨rfl, h1, h2⟩)
    go_ret2
    exact ⟨rfl, h1, h2⟩

set_option maxRecDepth 20000 in
theorem limc_any (a b g : Nat) (A : Option Addr) (n c p m : Nat) (pv er0 : Int) (bs : List Int) (w : World) (ha : w.heap[a]? = some (.cells #[.pointer (some ⟨g, 0, none⟩)] 62 (0, 0))) (hbk : w.heap[b]? = some (.cells #[.int .i64 m] 3 (0, 0))) (hr : Rd w g A n c p pv er0) (hx : Sl fB w g A n bs) (hb : ∀ b ∈ bs, 0 ≤ b ∧ b < 256) (hp : p ≤ n) (hn : n ≤ 1000000) (hm : m ≤ 1000000) :
    Calls Tryd.prog 55 #[.pointer (some ⟨a, 0, none⟩), .pointer (some ⟨b, 0, none⟩)] w fun e w' => e = .returned (.tuple #[.int .i64 (limF m (numF bs 10 0 0 p)).1, .int .i64 (limF m (numF bs 10 0 0 p)).2.1]) ∧ Rd w' g A n c (limF m (numF bs 10 0 0 p)).2.2 pv er0 ∧ But (fun k => k = g) w w' := by
  have HC := Lib.hid (limited_any g A n c p m pv er0 bs w hr hx hb hp hn hm)
  obtain ⟨v, er, p', hN⟩ : ∃ v er p', limF m (numF bs 10 0 0 p) = (v, er, p') := ⟨_, _, _, rfl⟩
  rw [hN] at HC ⊢
  have ca := cell_of_row w a 0 _ _ _ ha
  have cb := cell_of_row w b 0 _ _ _ hbk
  simp at ca cb
  clear hr hx hb hN ha hbk
  go_enter Tryd.func55, Tryd.ntmps55
  go_wp2_with (go_at_call 56; refine HC.out.mono ?_; rintro e w1 ⟨rfl, h1, h2⟩)
  go_ret2
  exact ⟨rfl, h1, h2⟩
end Go.Proofs.YtlnaakpcnhnccaaDoor
