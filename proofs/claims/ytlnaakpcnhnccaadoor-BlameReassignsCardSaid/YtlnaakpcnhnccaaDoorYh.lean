/- Decode: the walk. -/
import Derived.Test.YtlnaakpcnhnccaaDoorYg
namespace Go.Proofs.YtlnaakpcnhnccaaDoor
open Go.RowKit
set_option linter.unusedVariables false
set_option linter.unusedSimpArgs false

theorem OwnI.but {w w' : World} {base : Nat} {e : TypeId} {v : Value} {bs : List Int} {p : Nat → Prop} (h : Own I e w base v bs) (hb : But p w w') (hv : ∀ k, base ≤ k → ¬ p k) : Own I e w' base v bs :=
  ⟨h.1, by
    rcases h.2 with hn | ⟨g', cap, cur, rfl, hbg, hgg, rest⟩
    · exact .inl hn
    · exact .inr ⟨g', cap, cur, rfl, hbg, (hb.block g' (lt_of_block hgg) (hv g' hbg)).trans hgg, rest⟩⟩

/-- One number: whatever the error is. -/
theorem ruint_any' (g : Nat) (A : Option Addr) (n c p : Nat) (pv er : Int) (bs : List Int) (w : World) (hr : Rd w g A n c p pv er) (hx : Sl fB w g A n bs) (hb : ∀ b ∈ bs, 0 ≤ b ∧ b < 256) (hp : p ≤ n) (hn : n ≤ 1000000) :
    Calls Tryd.prog 21 #[.pointer (some ⟨g, 0, none⟩)] w fun e w' => ∃ (z pv' : Int), e = .returned (.int .u64 z) ∧ 0 ≤ z ∧ z < 18446744073709551616 ∧
      (∀ xs : List Int, (if er = 0 then (if (numF bs 10 0 0 p).2.1 = 0 then (xs ++ [IntKind.i64.wrap (numF bs 10 0 0 p).1], (numF bs 10 0 0 p).2.2, 0) else (xs ++ [0], p, (numF bs 10 0 0 p).2.1)) else (xs ++ [0], p, er)) = (xs ++ [IntKind.i64.wrap z], (if er = 0 then (if (numF bs 10 0 0 p).2.1 = 0 then (numF bs 10 0 0 p).2.2 else p) else p), (if er = 0 then (numF bs 10 0 0 p).2.1 else er))) ∧
      Rd w' g A n c (if er = 0 then (if (numF bs 10 0 0 p).2.1 = 0 then (numF bs 10 0 0 p).2.2 else p) else p) pv' (if er = 0 then (numF bs 10 0 0 p).2.1 else er) ∧ But (fun k => k = g) w w' := by
  by_cases he : er = 0
  · subst he
    refine (ruint_ok g A n c p pv bs w hr hx hb hp hn).mono ?_
    rintro e w' ⟨rfl, h1, h2⟩
    by_cases h0 : (numF bs 10 0 0 p).2.1 = 0
    · simp only [h0, if_true] at h1 ⊢
      refine ⟨_, _, rfl, numF_nonneg _ _ _ _ _, ?_, fun xs => rfl, h1, h2⟩
      obtain ⟨k, e1, _, _, _, _, h6⟩ := numF_only bs hb 10 0 0 p _ _ rfl (show numF bs 10 0 0 p = ((numF bs 10 0 0 p).1, 0, (numF bs 10 0 0 p).2.2) by rw [← h0])
      rw [e1]
      simp only [Nat.pow_zero, Nat.mul_one, Nat.zero_add] at h6 ⊢
      omega
    · simp only [h0, if_true, if_false] at h1 ⊢
      exact ⟨0, _, rfl, by omega, by omega, fun xs => rfl, h1, h2⟩
  · refine (ruint_err g A n c p pv er w hr he).mono ?_
    rintro e w' ⟨rfl, h1, h2⟩
    simp only [he, if_false]
    exact ⟨0, pv, rfl, by omega, by omega, fun xs => rfl, h1, But.of_below h2⟩
end Go.Proofs.YtlnaakpcnhnccaaDoor
