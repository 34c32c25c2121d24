/- Plainly: the reference reads what the program reads. Plainly: the reference reads the accusations and acquittals that the program reads. Plainly: the reference reads the meetings that the program reads. Both sides' decoders, said alike: whatever the entry, they hand back the same. -/
import Derived.Test.YtnfkjnmdfijhnaaGreatDoorT8
import Derived.Test.YtnfkjnmdfijhnaaGreatDoorMv
import Derived.Test.YtnfkjnmdfijhnaaGreatDoorS8
namespace Go.Proofs.YtnfkjnmdfijhnaaGreatDoor
open Go.RowKit Go.Lib
set_option linter.unusedVariables false
set_option linter.unusedSimpArgs false

section
variable {bs : List Int} {s : RS}
theorem rU_both (h : (rU bs s).2.2 = 0) : s.2 = 0 ∧ (rU bs s).2.2 = 0 := ⟨(rV_ok (show (rV s 0 (numF bs 10 0 0 s.1)).2.2 = 0 from h)).1, h⟩
theorem rN_ok {a m : Nat} (h : (rN a m bs s).2.2 = 0) : s.2 = 0 ∧ ((a : Int) ≤ (rU bs s).1 ∧ (rU bs s).1 ≤ (m : Int)) ∧ rN a m bs s = rU bs s := by
  unfold rN at h ⊢
  by_cases h1 : s.2 = 0 ∧ (rU bs s).2.2 = 0
  · rw [if_pos h1] at h ⊢
    by_cases h2 : (a : Int) ≤ (rU bs s).1 ∧ (rU bs s).1 ≤ (m : Int)
    · rw [if_pos h2]; exact ⟨h1.1, h2, rfl⟩
    · rw [if_neg h2] at h; exact absurd h (by decide : ¬ (3 : Int) = 0)
  · rw [if_neg h1] at h
    exact absurd h (rU_bad h1).2
/-- What the program read, the reference reads. -/
theorem l1 {a m : Nat} (hm : m ≤ 1099511627776) (h : (rN a m bs s).2.2 = 0) : rI2 bs s = rN a m bs s := by
  obtain ⟨_, h2, h3⟩ := rN_ok h
  rw [h3]
  unfold rI2
  rw [if_neg (by omega)]
/-- What the reference read within a range, the program reads. -/
theorem l2 {a m : Nat} (hm : m ≤ 1099511627776) (h0 : (rI2 bs s).2.2 = 0) (h : (a : Int) ≤ (rI2 bs s).1 ∧ (rI2 bs s).1 ≤ (m : Int)) : rI2 bs s = rN a m bs s := by
  have h1 := rU_both (show (rU bs s).2.2 = 0 from h0)
  unfold rI2 at h ⊢
  unfold rN
  rw [if_pos h1]
  by_cases h2 : (1099511627776 : Int) < (rU bs s).1
  · rw [if_pos h2] at h
    exact absurd h.1 (by simp only; omega)
  · rw [if_neg h2] at h ⊢
    simp only at h
    rw [if_pos h]
theorem rN_ok0 {a m : Nat} (h : (rN a m bs s).2.2 = 0) : s.2 = 0 := (rN_ok h).1
theorem rS_ok0 (h : (rS bs s).2.2 = 0) : s.2 = 0 := (rV_ok (show (rV s baNo (tkF bs 32 s.1)).2.2 = 0 from h)).1
theorem rT_ok0 {m : Nat} (h : (rT bs m s).2.2 = 0) : s.2 = 0 := (rV_ok (show (rV s baNo (blkF bs m s.1)).2.2 = 0 from h)).1
theorem rY_ok0 {m : Nat} (h : (rY bs m s).2.2 = 0) : s.2 = 0 := (rV_ok (show (rV s [] (blkL bs m s.1)).2.2 = 0 from h)).1
theorem rT_rY {m : Nat} : rT bs m s = (baOf (rY bs m s).1, (rY bs m s).2) := by
  unfold rT rY rV blkF
  split
  · split <;> rfl
  · rfl
theorem sB_rT (hb : ∀ b ∈ bs, 0 ≤ b ∧ b < 256) {m : Nat} : sB (rT bs m s).1 = (rY bs m s).1 := by
  rw [rT_rY]
  exact baOf_sB (rY_rng hb)
end
/-- The two chains are one. -/
def EqX (bs : List Int) : Prop := rx1 bs = rc1 bs ∧ rx2 bs = rc2 bs ∧ rx3 bs = rc3 bs ∧ rx4 bs = ri1 bs ∧ rx5 bs = ri2 bs ∧ rx6 bs = ri3 bs ∧ rx7 bs = ri4 bs ∧ rx8 bs = ri5 bs ∧ rx9 bs = ri6 bs ∧ rxA bs = rc5 bs ∧ rxB bs = rc7 bs ∧ rxC bs = rc8 bs ∧ rxD bs = rc9 bs ∧ rxE bs = rcA bs
theorem eqx_of_prog {bs : List Int} (h : (rcA bs).2.2 = 0) : EqX bs := by
  have h12 : (rc9 bs).2.2 = 0 := rL_ok h
  have h11 : (rc8 bs).2.2 = 0 := rL_ok h12
  have h10 : (rc7 bs).2.2 = 0 := rN_ok0 h11
  have h9 : (rc5 bs).2.2 = 0 := rS_ok0 h10
  have h8 : (ri6 bs).2.2 = 0 := rL_ok h9
  have h7 : (ri5 bs).2.2 = 0 := rN_ok0 h8
  have h6 : (ri4 bs).2.2 = 0 := rN_ok0 h7
  have h5 : (ri3 bs).2.2 = 0 := rN_ok0 h6
  have h4 : (ri2 bs).2.2 = 0 := rN_ok0 h5
  have h3 : (ri1 bs).2.2 = 0 := rN_ok0 h4
  have h2 : (rc3 bs).2.2 = 0 := rN_ok0 h3
  have h1 : (rc2 bs).2.2 = 0 := rS_ok0 h2
  have h0 : (rc1 bs).2.2 = 0 := rN_ok0 h1
  have e0 : rx1 bs = rc1 bs := l1 (by decide) h0
  have e1 : rx2 bs = rc2 bs := by unfold rx2; rw [e0]; exact l1 (by decide) h1
  have e2 : rx3 bs = rc3 bs := by unfold rx3; rw [e1]; rfl
  have e3 : rx4 bs = ri1 bs := by unfold rx4; rw [e2]; exact l1 (by decide) h3
  have e4 : rx5 bs = ri2 bs := by unfold rx5; rw [e3]; exact l1 (by decide) h4
  have e5 : rx6 bs = ri3 bs := by unfold rx6; rw [e4]; exact l1 (by decide) h5
  have e6 : rx7 bs = ri4 bs := by unfold rx7; rw [e5]; exact l1 (by decide) h6
  have e7 : rx8 bs = ri5 bs := by unfold rx8; rw [e6]; exact l1 (by decide) h7
  have e8 : rx9 bs = ri6 bs := by unfold rx9; rw [e7]; exact l1 (by decide) h8
  have e9 : rxA bs = rc5 bs := by unfold rxA; rw [e8]; rfl
  have e10 : rxB bs = rc7 bs := by unfold rxB; rw [e9]; rfl
  have e11 : rxC bs = rc8 bs := by unfold rxC; rw [e10]; exact l1 (by decide) h11
  have e12 : rxD bs = rc9 bs := by unfold rxD; rw [e11]; rfl
  have e13 : rxE bs = rcA bs := by unfold rxE; rw [e12]; rfl
  exact ⟨e0, e1, e2, e3, e4, e5, e6, e7, e8, e9, e10, e11, e12, e13⟩
theorem eqx_of_ref {bs : List Int} (h : (rxE bs).2.2 = 0) (hv : vaB (rxV bs ⟨none, 0, 0⟩ ⟨none, 0, 0⟩ ⟨none, 0, 0⟩) (rxA bs).1 (rxD bs).1 (rxE bs).1 = true) : EqX bs := by
  obtain ⟨f1, f2, f3, f4, f5, f6, f7, f8, f9, _, _, _, _, fC⟩ := vaB_facts hv
  unfold rxV at f1 f2 f4 f5 f6 f7 f8 f9 fC
  dsimp only at f1 f2 f4 f5 f6 f7 f8 f9 fC
  have h12 : (rxD bs).2.2 = 0 := rL_ok h
  have h11 : (rxC bs).2.2 = 0 := rL_ok h12
  have h10 : (rxB bs).2.2 = 0 := rI2_ok h11
  have h9 : (rxA bs).2.2 = 0 := rS_ok0 h10
  have h8 : (rx9 bs).2.2 = 0 := rL_ok h9
  have h7 : (rx8 bs).2.2 = 0 := rI2_ok h8
  have h6 : (rx7 bs).2.2 = 0 := rI2_ok h7
  have h5 : (rx6 bs).2.2 = 0 := rI2_ok h6
  have h4 : (rx5 bs).2.2 = 0 := rI2_ok h5
  have h3 : (rx4 bs).2.2 = 0 := rI2_ok h4
  have h2 : (rx3 bs).2.2 = 0 := rI2_ok h3
  have h1 : (rx2 bs).2.2 = 0 := rS_ok0 h2
  have h0 : (rx1 bs).2.2 = 0 := rI2_ok h1
  have e0 : rx1 bs = rc1 bs := l2 (by decide) h0 ⟨by have := f1.1; exact this, by have := f1.2; show (rx1 bs).1 ≤ (1099511627776 : Int); omega⟩
  have e1 : rx2 bs = rc2 bs := by
    have g1 : ((0 : Nat) : Int) ≤ (rx2 bs).1 ∧ (rx2 bs).1 ≤ ((1099511627776 : Nat) : Int) := ⟨by omega, by omega⟩
    have g2 := l2 (bs := bs) (s := (rx1 bs).2) (a := 0) (m := 1099511627776) (by decide) h1 g1
    have g3 : rx2 bs = rI2 bs (rx1 bs).2 := rfl
    rw [g3, g2, e0]; rfl
  have e2 : rx3 bs = rc3 bs := by unfold rx3; rw [e1]; rfl
  have e3 : rx4 bs = ri1 bs := by
    have g1 : ((0 : Nat) : Int) ≤ (rx4 bs).1 ∧ (rx4 bs).1 ≤ ((1099511627776 : Nat) : Int) := ⟨by omega, by omega⟩
    have g2 := l2 (bs := bs) (s := (rx3 bs).2) (a := 0) (m := 1099511627776) (by decide) h3 g1
    have g3 : rx4 bs = rI2 bs (rx3 bs).2 := rfl
    rw [g3, g2, e2]; rfl
  have e4 : rx5 bs = ri2 bs := by
    have g1 : ((0 : Nat) : Int) ≤ (rx5 bs).1 ∧ (rx5 bs).1 ≤ ((1099511627776 : Nat) : Int) := ⟨by omega, by omega⟩
    have g2 := l2 (bs := bs) (s := (rx4 bs).2) (a := 0) (m := 1099511627776) (by decide) h4 g1
    have g3 : rx5 bs = rI2 bs (rx4 bs).2 := rfl
    rw [g3, g2, e3]; rfl
  have e5 : rx6 bs = ri3 bs := by
    have g1 : ((0 : Nat) : Int) ≤ (rx6 bs).1 ∧ (rx6 bs).1 ≤ ((1099511627776 : Nat) : Int) := ⟨by omega, by omega⟩
    have g2 := l2 (bs := bs) (s := (rx5 bs).2) (a := 0) (m := 1099511627776) (by decide) h5 g1
    have g3 : rx6 bs = rI2 bs (rx5 bs).2 := rfl
    rw [g3, g2, e4]; rfl
  have e6 : rx7 bs = ri4 bs := by
    have g1 : ((0 : Nat) : Int) ≤ (rx7 bs).1 ∧ (rx7 bs).1 ≤ ((1099511627776 : Nat) : Int) := ⟨by omega, by omega⟩
    have g2 := l2 (bs := bs) (s := (rx6 bs).2) (a := 0) (m := 1099511627776) (by decide) h6 g1
    have g3 : rx7 bs = rI2 bs (rx6 bs).2 := rfl
    rw [g3, g2, e5]; rfl
  have e7 : rx8 bs = ri5 bs := by
    have g1 : ((0 : Nat) : Int) ≤ (rx8 bs).1 ∧ (rx8 bs).1 ≤ ((1099511627776 : Nat) : Int) := ⟨by omega, by omega⟩
    have g2 := l2 (bs := bs) (s := (rx7 bs).2) (a := 0) (m := 1099511627776) (by decide) h7 g1
    have g3 : rx8 bs = rI2 bs (rx7 bs).2 := rfl
    rw [g3, g2, e6]; rfl
  have e8 : rx9 bs = ri6 bs := by
    have g1 : ((0 : Nat) : Int) ≤ (rx9 bs).1 ∧ (rx9 bs).1 ≤ ((1099511627776 : Nat) : Int) := ⟨by omega, by omega⟩
    have g2 := l2 (bs := bs) (s := (rx8 bs).2) (a := 0) (m := 1099511627776) (by decide) h8 g1
    have g3 : rx9 bs = rI2 bs (rx8 bs).2 := rfl
    rw [g3, g2, e7]; rfl
  have e9 : rxA bs = rc5 bs := by unfold rxA; rw [e8]; rfl
  have e10 : rxB bs = rc7 bs := by unfold rxB; rw [e9]; rfl
  have e11 : rxC bs = rc8 bs := by
    have g1 : ((0 : Nat) : Int) ≤ (rxC bs).1 ∧ (rxC bs).1 ≤ ((1099511627776 : Nat) : Int) := ⟨by omega, by omega⟩
    have g2 := l2 (bs := bs) (s := (rxB bs).2) (a := 0) (m := 1099511627776) (by decide) h11 g1
    have g3 : rxC bs = rI2 bs (rxB bs).2 := rfl
    rw [g3, g2, e10]; rfl
  have e12 : rxD bs = rc9 bs := by unfold rxD; rw [e11]; rfl
  have e13 : rxE bs = rcA bs := by unfold rxE; rw [e12]; rfl
  exact ⟨e0, e1, e2, e3, e4, e5, e6, e7, e8, e9, e10, e11, e12, e13⟩
theorem okx_eq {bs : List Int} (h : EqX bs) : okX bs = okR bs ∧ ∀ pa pb pc, rxV bs pa pb pc = rcV bs pa pb pc := by
  obtain ⟨e0, e1, e2, e3, e4, e5, e6, e7, e8, e9, e10, e11, e12, e13⟩ := h
  refine ⟨?_, fun pa pb pc => ?_⟩
  · unfold okX okR rxV rcV
    rw [e0, e1, e2, e3, e4, e5, e6, e7, e8, e9, e10, e11, e12, e13]
    congr 1
    exact decide_eq_decide.2 rEnd_iff
  · unfold rxV rcV
    rw [e0, e1, e2, e3, e4, e5, e6, e7, e8, e10, e11]
theorem okX_okR (bs : List Int) : okX bs = okR bs := by
  by_cases h : okX bs = true
  · have h1 := h
    unfold okX at h1
    simp only [Bool.and_eq_true, decide_eq_true_eq] at h1
    exact (okx_eq (eqx_of_ref (rEnd_iff.1 h1.1).1 h1.2)).1
  · by_cases h2 : okR bs = true
    · have h1 := h2
      unfold okR at h1
      simp only [Bool.and_eq_true, decide_eq_true_eq] at h1
      exact (okx_eq (eqx_of_prog h1.1.1)).1
    · rw [Bool.not_eq_true] at h h2
      rw [h, h2]
theorem okR_eqx {bs : List Int} (h2 : okR bs = true) : EqX bs := by
  have h1 := h2
  unfold okR at h1
  simp only [Bool.and_eq_true, decide_eq_true_eq] at h1
  exact eqx_of_prog h1.1.1
end Go.Proofs.YtnfkjnmdfijhnaaGreatDoor
namespace Go.Proofs.YtnfkjnmdfijhnaaGreatDoor
open Go.RowKit Go.Lib
set_option linter.unusedVariables false
set_option linter.unusedSimpArgs false

theorem rY_more {bs : List Int} {m m' : Nat} {s : RS} (h : (rY bs m s).2.2 = 0) (hm : bs.length ≤ m') : rY bs m' s = rY bs m s := by
  obtain ⟨h1, h2, h3⟩ := rV_ok (show (rV s [] (blkL bs m s.1)).2.2 = 0 from h)
  unfold rY
  suffices e : blkL bs m' s.1 = blkL bs m s.1 by rw [e]
  obtain ⟨v, e, q, hN⟩ : ∃ v e q, numF bs 10 0 0 s.1 = (v, e, q) := ⟨_, _, _, rfl⟩
  have hv : 0 ≤ v := by have := numF_nonneg bs 10 0 0 s.1; rw [hN] at this; exact this
  have hL1 : ∀ k : Nat, ¬ (k : Int) < v → e = 0 → limF k (v, e, q) = (v, 0, q) := fun k h1 h2 => by
    unfold limF; rw [if_pos (show (v, e, q).2.1 = 0 from h2), if_neg (show ¬ (k : Int) < (v, e, q).1 from h1)]
  have hL2 : ∀ k : Nat, (k : Int) < v → e = 0 → limF k (v, e, q) = (0, 2, q) := fun k h1 h2 => by
    unfold limF; rw [if_pos (show (v, e, q).2.1 = 0 from h2), if_pos (show (k : Int) < (v, e, q).1 from h1)]
  have hL3 : ∀ k : Nat, e ≠ 0 → limF k (v, e, q) = (0, e, q) := fun k h2 => by
    unfold limF; rw [if_neg (show ¬ (v, e, q).2.1 = 0 from h2)]
  unfold blkL at h2 ⊢
  rw [hN] at h2 ⊢
  by_cases he : e = 0
  · by_cases hmv : (m : Int) < v
    · rw [hL2 m hmv he] at h2
      exact absurd (show (2 : Int) = 0 from h2) (by decide)
    · rw [hL1 m hmv he] at h2 ⊢
      have h5 : (tkL bs v.toNat q).2.1 = 0 := h2
      have hle : ¬ bs.length < q + v.toNat := fun hl => by
        unfold tkL at h5
        rw [if_pos hl] at h5
        exact absurd (show (3 : Int) = 0 from h5) (by decide)
      rw [hL1 m' (by omega) he]
  · rw [hL3 m he] at h2
    have h5 : (if e = 0 then tkL bs (0 : Int).toNat q else ([], e, q)).2.1 = 0 := h2
    rw [if_neg he] at h5
    exact absurd h5 he
section
variable {bs : List Int} (hb : ∀ b ∈ bs, 0 ≤ b ∧ b < 256)
/-- The two chains of an accusation are one. -/
def EqT (bs : List Int) : Prop := (ry1 bs).2 = (dT1 bs).2 ∧ sB (ry1 bs).1 = (dT1 bs).1 ∧ ry2 bs = rS bs (dT1 bs).2 ∧ ry3 bs = rN 0 15 bs (ry2 bs).2 ∧ dT2 bs = (((ry2 bs).1, (ry3 bs).1), (ry3 bs).2) ∧ ry4 bs = dT3 bs ∧ ry5 bs = dT4 bs
include hb
theorem eqt_prog (hl : bs.length ≤ 65536) (h : (dT4 bs).2.2 = 0) : EqT bs := by
  have h3 : (dT3 bs).2.2 = 0 := rS_ok0 h
  have h2 : (dT2 bs).2.2 = 0 := rS_ok0 h3
  have h2' : (rN 0 15 bs (rS bs (dT1 bs).2).2).2.2 = 0 := h2
  have h2s : (rS bs (dT1 bs).2).2.2 = 0 := rN_ok0 h2'
  have h1 : (dT1 bs).2.2 = 0 := rS_ok0 h2s
  have e1 : rY bs 65536 (0, 0) = dT1 bs := rY_more h1 hl
  have a1 : (ry1 bs).2 = (dT1 bs).2 := by
    show (rT bs 65536 (0, 0)).2 = _
    rw [rT_rY, e1]
  have a2 : sB (ry1 bs).1 = (dT1 bs).1 := by
    show sB (rT bs 65536 (0, 0)).1 = _
    rw [sB_rT hb, e1]
  have a3 : ry2 bs = rS bs (dT1 bs).2 := by unfold ry2; rw [a1]
  have a4 : ry3 bs = rN 0 15 bs (ry2 bs).2 := by unfold ry3; rw [a3]; exact l1 (by decide) h2'
  have a5 : dT2 bs = (((ry2 bs).1, (ry3 bs).1), (ry3 bs).2) := by rw [a4, a3]; rfl
  have a6 : ry4 bs = dT3 bs := by unfold ry4 dT3; rw [a5]
  have a7 : ry5 bs = dT4 bs := by unfold ry5 dT4; rw [a6]
  exact ⟨a1, a2, a3, a4, a5, a6, a7⟩
theorem eqt_ref (hl : bs.length ≤ 65536) (h : (ry5 bs).2.2 = 0) (hx : 0 ≤ (ry3 bs).1 ∧ (ry3 bs).1 ≤ 15) : EqT bs := by
  have h4 : (ry4 bs).2.2 = 0 := rS_ok0 h
  have h3 : (ry3 bs).2.2 = 0 := rS_ok0 h4
  have h2 : (ry2 bs).2.2 = 0 := rI2_ok h3
  have h1 : (ry1 bs).2.2 = 0 := rS_ok0 h2
  have h1' : (rY bs 65536 (0, 0)).2.2 = 0 := by
    have := h1
    unfold ry1 at this
    rw [rT_rY] at this
    exact this
  have e1 : dT1 bs = rY bs 65536 (0, 0) := rY_more h1' (Nat.le_refl _)
  have a1 : (ry1 bs).2 = (dT1 bs).2 := by
    show (rT bs 65536 (0, 0)).2 = _
    rw [rT_rY, e1]
  have a2 : sB (ry1 bs).1 = (dT1 bs).1 := by
    show sB (rT bs 65536 (0, 0)).1 = _
    rw [sB_rT hb, e1]
  have a3 : ry2 bs = rS bs (dT1 bs).2 := by unfold ry2; rw [a1]
  have a4 : ry3 bs = rN 0 15 bs (ry2 bs).2 := l2 (bs := bs) (s := (ry2 bs).2) (a := 0) (m := 15) (by decide) h3 ⟨hx.1, hx.2⟩
  have a5 : dT2 bs = (((ry2 bs).1, (ry3 bs).1), (ry3 bs).2) := by rw [a4, a3]; rfl
  have a6 : ry4 bs = dT3 bs := by unfold ry4 dT3; rw [a5]
  have a7 : ry5 bs = dT4 bs := by unfold ry5 dT4; rw [a6]
  exact ⟨a1, a2, a3, a4, a5, a6, a7⟩
theorem okt_eq (h : EqT bs) (h0 : (ry5 bs).2.2 = 0) : okY bs = okT bs ∧ tkB (ry2 bs).1 (ry3 bs).1 (ry4 bs).1 (ry5 bs).1 = true := by
  obtain ⟨a1, a2, a3, a4, a5, a6, a7⟩ := h
  have h4 : (ry4 bs).2.2 = 0 := rS_ok0 h0
  have h3 : (ry3 bs).2.2 = 0 := rS_ok0 h4
  have h2 : (ry2 bs).2.2 = 0 := rI2_ok h3
  have z5 : (ry5 bs).1.size = 32 := (rS_only hb (s := (ry4 bs).2) h0).2.1
  have z4 : (ry4 bs).1.size = 32 := (rS_only hb (s := (ry3 bs).2) h4).2.1
  have z2 : (ry2 bs).1.size = 32 := (rS_only hb (s := (ry1 bs).2) h2).2.1
  have z3 : 0 ≤ (ry3 bs).1 ∧ (ry3 bs).1 ≤ 15 := by rw [a4]; exact rN_range
  have ht : tkB (ry2 bs).1 (ry3 bs).1 (ry4 bs).1 (ry5 bs).1 = true := by
    unfold tkB idB
    simp only [Bool.and_eq_true, decide_eq_true_eq]
    exact ⟨⟨z2, z3⟩, z4, z5⟩
  refine ⟨?_, ht⟩
  unfold okY okT
  rw [ht, Bool.and_true, okX_okR, a2, ← a7]
  congr 1
  exact decide_eq_decide.2 rEnd_iff
theorem okY_okT (hl : bs.length ≤ 65536) : okY bs = okT bs := by
  by_cases h : okY bs = true
  · have h1 := h
    unfold okY at h1
    simp only [Bool.and_eq_true, decide_eq_true_eq] at h1
    have h0 := (rEnd_iff.1 h1.1).1
    exact (okt_eq hb (eqt_ref hb hl h0 (tkB_facts h1.2.2).2.1) h0).1
  · by_cases h2 : okT bs = true
    · have h1 := h2
      unfold okT at h1
      simp only [Bool.and_eq_true, decide_eq_true_eq] at h1
      have he := eqt_prog hb hl h1.1.1
      exact (okt_eq hb he (by rw [he.2.2.2.2.2.2]; exact h1.1.1)).1
    · rw [Bool.not_eq_true] at h h2
      rw [h, h2]
theorem okT_eqt (hl : bs.length ≤ 65536) (h2 : okT bs = true) : EqT bs ∧ okR (dT1 bs).1 = true := by
  have h1 := h2
  unfold okT at h1
  simp only [Bool.and_eq_true, decide_eq_true_eq] at h1
  exact ⟨eqt_prog hb hl h1.1.1, h1.2⟩
end
section
variable {bs : List Int} (hb : ∀ b ∈ bs, 0 ≤ b ∧ b < 256)
/-- The two chains of an acquittal are one. -/
def EqA (bs : List Int) : Prop := rz1 bs = dA1 bs ∧ rz2 bs = dA2 bs ∧ rz3 bs = rS bs (dA2 bs).2 ∧ rz4 bs = rN 0 15 bs (rz3 bs).2 ∧ dA3 bs = (((rz3 bs).1, (rz4 bs).1), (rz4 bs).2) ∧ (rz5 bs).2 = (dA4 bs).2 ∧ sB (rz5 bs).1 = (dA4 bs).1 ∧ rz6 bs = dA6 bs
theorem dA6_rL : dA6 bs = rL bs 16 (dA4 bs).2 := rfl
include hb
theorem eqa_tail (a1 : rz1 bs = dA1 bs) (a2 : rz2 bs = dA2 bs) (a3 : rz3 bs = rS bs (dA2 bs).2) (a4 : rz4 bs = rN 0 15 bs (rz3 bs).2) : EqA bs := by
  have a5 : dA3 bs = (((rz3 bs).1, (rz4 bs).1), (rz4 bs).2) := by rw [a4, a3]; rfl
  have a6 : (rz5 bs).2 = (dA4 bs).2 := by
    unfold rz5 dA4
    rw [rT_rY, a5]
  have a7 : sB (rz5 bs).1 = (dA4 bs).1 := by
    unfold rz5 dA4
    rw [sB_rT hb, a5]
  have a8 : rz6 bs = dA6 bs := by
    rw [dA6_rL, ← a6]; rfl
  exact ⟨a1, a2, a3, a4, a5, a6, a7, a8⟩
theorem eqa_prog (h : (dA6 bs).2.2 = 0) : EqA bs := by
  have h4 : (dA4 bs).2.2 = 0 := rL_ok h
  have h3 : (dA3 bs).2.2 = 0 := rY_ok0 h4
  have h3' : (rN 0 15 bs (rS bs (dA2 bs).2).2).2.2 = 0 := h3
  have h3s : (rS bs (dA2 bs).2).2.2 = 0 := rN_ok0 h3'
  have h2 : (dA2 bs).2.2 = 0 := rS_ok0 h3s
  have h1 : (dA1 bs).2.2 = 0 := rN_ok0 h2
  have a1 : rz1 bs = dA1 bs := l1 (by decide) h1
  have a2 : rz2 bs = dA2 bs := by unfold rz2; rw [a1]; exact l1 (by decide) h2
  have a3 : rz3 bs = rS bs (dA2 bs).2 := by unfold rz3; rw [a2]
  have a4 : rz4 bs = rN 0 15 bs (rz3 bs).2 := by unfold rz4; rw [a3]; exact l1 (by decide) h3'
  exact eqa_tail hb a1 a2 a3 a4
theorem eqa_ref (h : (rz6 bs).2.2 = 0) (hn : numB (rz1 bs).1 (rz2 bs).1 = true) (hx : 0 ≤ (rz4 bs).1 ∧ (rz4 bs).1 ≤ 15) : EqA bs := by
  unfold numB at hn
  simp only [decide_eq_true_eq] at hn
  have h5 : (rz5 bs).2.2 = 0 := rL_ok h
  have h4 : (rz4 bs).2.2 = 0 := rT_ok0 h5
  have h3 : (rz3 bs).2.2 = 0 := rI2_ok h4
  have h2 : (rz2 bs).2.2 = 0 := rS_ok0 h3
  have h1 : (rz1 bs).2.2 = 0 := rI2_ok h2
  have a1 : rz1 bs = dA1 bs := l2 (bs := bs) (s := (0, 0)) (a := 0) (m := 11) (by decide) h1 ⟨hn.1.1, hn.1.2⟩
  have a2' : rz2 bs = rN 1 1099511627776 bs (rz1 bs).2 := l2 (bs := bs) (s := (rz1 bs).2) (a := 1) (m := 1099511627776) (by decide) h2 ⟨hn.2.1, hn.2.2⟩
  have a2 : rz2 bs = dA2 bs := by rw [a2', a1]; rfl
  have a3 : rz3 bs = rS bs (dA2 bs).2 := by unfold rz3; rw [a2]
  have a4 : rz4 bs = rN 0 15 bs (rz3 bs).2 := l2 (bs := bs) (s := (rz3 bs).2) (a := 0) (m := 15) (by decide) h4 ⟨hx.1, hx.2⟩
  exact eqa_tail hb a1 a2 a3 a4
end
theorem oka_eq {bs : List Int} (h : EqA bs) (h0 : (dA6 bs).2.2 = 0) : okZ bs = okA bs := by
  obtain ⟨a1, a2, a3, a4, a5, a6, a7, a8⟩ := h
  have h4 : (dA4 bs).2.2 = 0 := rL_ok h0
  have h3 : (dA3 bs).2.2 = 0 := rY_ok0 h4
  have h3' : (rN 0 15 bs (rS bs (dA2 bs).2).2).2.2 = 0 := h3
  have h2 : (dA2 bs).2.2 = 0 := rS_ok0 (rN_ok0 h3')
  have h1 : (dA1 bs).2.2 = 0 := rN_ok0 h2
  have g1 := rN_ok (show (rN 0 11 bs (0, 0)).2.2 = 0 from h1)
  have g2 := rN_ok (show (rN 1 1099511627776 bs (dA1 bs).2).2.2 = 0 from h2)
  have hn : numB (rz1 bs).1 (rz2 bs).1 = true := by
    rw [a1, a2]
    have e1 : (dA1 bs).1 = (rU bs (0, 0)).1 := by rw [← g1.2.2]; rfl
    have e2 : (dA2 bs).1 = (rU bs (dA1 bs).2).1 := by rw [← g2.2.2]; rfl
    unfold numB
    simp only [decide_eq_true_eq]
    have := g1.2.1
    have := g2.2.1
    omega
  unfold okZ okA
  rw [hn, Bool.true_and, a5, a7, a8]
  congr 1
  exact decide_eq_decide.2 rEnd_iff
section
variable {bs : List Int} (hb : ∀ b ∈ bs, 0 ≤ b ∧ b < 256)
include hb
theorem okZ_okA : okZ bs = okA bs := by
  by_cases h : okZ bs = true
  · have h1 := h
    unfold okZ shL at h1
    simp only [Bool.and_eq_true, decide_eq_true_eq] at h1
    have h0 := (rEnd_iff.1 h1.1).1
    have he := eqa_ref hb h0 h1.2.1 h1.2.2.1.2
    exact oka_eq he (by rw [← he.2.2.2.2.2.2.2]; exact h0)
  · by_cases h2 : okA bs = true
    · have h1 := h2
      unfold okA at h1
      simp only [Bool.and_eq_true, decide_eq_true_eq] at h1
      exact oka_eq (eqa_prog hb h1.1.1) h1.1.1
    · rw [Bool.not_eq_true] at h h2
      rw [h, h2]
theorem okA_eqa (h2 : okA bs = true) : EqA bs := by
  have h1 := h2
  unfold okA at h1
  simp only [Bool.and_eq_true, decide_eq_true_eq] at h1
  exact eqa_prog hb h1.1.1
end
end Go.Proofs.YtnfkjnmdfijhnaaGreatDoor
namespace Go.Proofs.YtnfkjnmdfijhnaaGreatDoor
open Go.RowKit Go.Lib
set_option linter.unusedVariables false
set_option linter.unusedSimpArgs false

theorem rIs_only {bs : List Int} (hb : ∀ b ∈ bs, 0 ≤ b ∧ b < 256) {s : RS} : ∀ k, (rIs bs k s).2.2 = 0 → (∀ x ∈ (rIs bs k s).1, 0 ≤ x) → s.2 = 0 ∧ Ok bs s (rIs bs k s).2 (encL (rIs bs k s).1)
  | 0, h, _ => ⟨h, Ok.refl bs s⟩
  | k + 1, h, hx => by
    have h1 : (rU bs (rIs bs k s).2).2.2 = 0 := h
    obtain ⟨h2, n, h3, _, h5⟩ := rU_only hb h1
    obtain ⟨i1, i2⟩ := rIs_only hb k h2 (fun x hm => hx x (by show x ∈ (rIs bs k s).1 ++ _; exact List.mem_append_left _ hm))
    have hv : 0 ≤ (rI2 bs (rIs bs k s).2).1 := hx _ (by show _ ∈ (rIs bs k s).1 ++ [(rI2 bs (rIs bs k s).2).1]; simp)
    have he : (rI2 bs (rIs bs k s).2).1 = n := by
      unfold rI2 at hv ⊢
      dsimp only at hv ⊢
      rw [h3] at hv ⊢
      by_cases hc : (1099511627776 : Int) < (n : Int)
      · rw [if_pos hc] at hv; omega
      · rw [if_neg hc]
    refine ⟨i1, ?_⟩
    show Ok bs s (rU bs (rIs bs k s).2).2 (encL ((rIs bs k s).1 ++ [(rI2 bs (rIs bs k s).2).1]))
    rw [encL_snoc, he, Int.toNat_natCast]
    exact i2.trans h5
theorem rIs_rt {bs : List Int} {p : Nat} {v : List Int} (h : AtL bs p (encL v)) (hv : ∀ x ∈ v, 0 ≤ x ∧ x ≤ 1099511627776) : ∀ j, j ≤ v.length → rIs bs j (p, 0) = (v.take j, p + (encL (v.take j)).length, 0)
  | 0, _ => by simp [rIs, encL]
  | j + 1, hj => by
    have ih := rIs_rt h hv j (by omega)
    obtain ⟨x, hx⟩ : ∃ x, v[j]? = some x := ⟨v[j], List.getElem?_eq_getElem (by omega)⟩
    have ht : v.take (j + 1) = v.take j ++ [x] := take_snoc hx
    have hr := hv x (List.mem_of_getElem? hx)
    have hsplit : encL v = (encL (v.take j) ++ enc x.toNat) ++ encL (v.drop (j + 1)) := by
      rw [← encL_snoc, ← ht, ← encL_app, List.take_append_drop]
    rw [hsplit] at h
    have h2 := h.left.right
    have h3 := rU_rt h2 (by omega)
    have h4 : rI2 bs (p + (encL (v.take j)).length, 0) = (x, p + (encL (v.take j)).length + (enc x.toNat).length, 0) := by
      unfold rI2
      rw [h3]
      dsimp only
      rw [if_neg (by omega)]
      congr 1
      omega
    show ((rIs bs j (p, 0)).1 ++ [(rI2 bs (rIs bs j (p, 0)).2).1], (rI2 bs (rIs bs j (p, 0)).2).2) = _
    rw [ih]
    dsimp only
    rw [h4, ht, encL_snoc, List.length_append, Nat.add_assoc]
theorem nrm_of_len {v : List Int} (h : (nrm v).length = v.length) : nrm v = v := by
  unfold nrm at h ⊢
  rw [List.length_take] at h
  exact List.take_of_length_le (by omega)
/-- A meeting's body. -/
def MtB (bs : List Int) (m : Nat) (v : List Int) : Prop := m ≤ 11 ∧ validB v = true ∧ nrm v = v ∧ bs = enc m ++ (enc v.length ++ encL v)
theorem mt_prog {bs : List Int} (hb : ∀ b ∈ bs, 0 ≤ b ∧ b < 256) {q : Int} {v : List Int} (h : dmV bs = some (q, v)) : ∃ m : Nat, q = m ∧ MtB bs m v := by
  unfold dmV at h
  split at h
  · next hc =>
    obtain ⟨m, h1, _, h3, h4⟩ := (rU_only hb hc.1).2
    have h3' : (rU bs (0, 0)).2.1 = (enc m).length := by rw [h3]; exact Nat.zero_add _
    rw [h3'] at h
    cases hd : decV (bs.drop (enc m).length) with
    | none => rw [hd] at h; cases h
    | some v' =>
      rw [hd] at h
      injection h with h
      injection h with h5 h6
      subst h6
      obtain ⟨g1, g2, g3⟩ := decV_only (bs.drop (enc m).length) (fun b hm => hb b (List.mem_of_mem_drop hm)) v' hd
      refine ⟨m, by rw [← h5, h1], by have := hc.2; rw [h1] at this; omega, g1, g2, ?_⟩
      have ht : bs.take (enc m).length = enc m := by
        have := AtL.cut h4
        rw [List.drop_zero] at this
        exact this
      unfold encV at g3
      rw [g2] at g3
      rw [g3]
      conv => lhs; rw [← List.take_append_drop (enc m).length bs]
      rw [ht]
  · cases h
theorem mt_ref {bs : List Int} (hb : ∀ b ∈ bs, 0 ≤ b ∧ b < 256) (h : okM bs = true) : ∃ m : Nat, (rm1 bs).1 = m ∧ MtB bs m (rm3 bs).1 := by
  unfold okM at h
  simp only [Bool.and_eq_true, decide_eq_true_eq] at h
  obtain ⟨h1, h2, h3, h4⟩ := h
  obtain ⟨e1, e2⟩ := rEnd_iff.1 h1
  obtain ⟨s2, o3⟩ := rIs_only hb (s := (rm2 bs).2) (rm2 bs).1.toNat e1 (fun x hx => (valid_in h3 x hx).1)
  obtain ⟨s1, k, k1, k2, o2⟩ := rC_only hb (m := 12) (s := (rm1 bs).2) s2
  obtain ⟨_, m, m1, _, o1⟩ := rU_only hb (s := (0, 0)) s1
  have hq : (rm1 bs).1 = m := by
    unfold numB at h2
    simp only [decide_eq_true_eq] at h2
    have h0 := h2.1.1
    show (rI2 bs (0, 0)).1 = m
    have h0' : 0 ≤ (rI2 bs (0, 0)).1 := h0
    unfold rI2 at h0' ⊢
    dsimp only at h0' ⊢
    rw [m1] at h0' ⊢
    by_cases hc : (1099511627776 : Int) < (m : Int)
    · rw [if_pos hc] at h0'; omega
    · rw [if_neg hc]
  have hk : k = (rm3 bs).1.length := by
    have h5 : (rm3 bs).1.length = (rm2 bs).1.toNat := rIs_len bs _ _
    have h6 : (rm2 bs).1 = k := k1
    rw [h5, h6, Int.toNat_natCast]
  have hall := o1.trans (o2.trans o3)
  have hle : (rm3 bs).2.1 ≤ bs.length := rIs_le rfl _ (rC_le rfl (rI2_le rfl (Nat.zero_le _)))
  have hlen : (rm3 bs).2.1 = bs.length := by omega
  have hl2 : (enc m ++ (enc k ++ encL (rm3 bs).1)).length = bs.length := by
    have h7 : (rm3 bs).2.1 = 0 + (enc m ++ (enc k ++ encL (rm3 bs).1)).length := hall.1
    omega
  have hbs := AtL.all (xs := enc m ++ (enc k ++ encL (rm3 bs).1)) hall.2 hl2
  rw [hk] at hbs
  refine ⟨m, hq, ?_, h3, nrm_of_len h4, hbs.symm⟩
  unfold numB at h2
  simp only [decide_eq_true_eq] at h2
  rw [hq] at h2
  omega
theorem mt_both {bs : List Int} {m : Nat} {v : List Int} (h : MtB bs m v) : dmV bs = some ((m : Int), v) ∧ okM bs = true ∧ (rm1 bs).1 = m ∧ (rm3 bs).1 = v := by
  obtain ⟨hm, hv, hn, hbs⟩ := h
  have hin := valid_in hv
  have hl12 := valid_len hv
  have h0 : AtL bs 0 (enc m ++ (enc v.length ++ encL v)) := by rw [← hbs]; exact AtL.self bs
  have a1 : AtL bs 0 (enc m) := h0.left
  have a2 : AtL bs (0 + (enc m).length) (enc v.length ++ encL v) := h0.right
  have r1 := rU_rt a1 (by omega)
  have e1 : rm1 bs = ((m : Int), 0 + (enc m).length, 0) := by
    unfold rm1 rI2
    rw [r1]
    dsimp only
    rw [if_neg (by omega)]
  have e2 : rm2 bs = ((v.length : Int), 0 + (enc m).length + (enc v.length).length, 0) := by
    unfold rm2
    rw [e1]
    exact rC_rt a2.left hl12 (by decide)
  have e3 : rm3 bs = (v, 0 + (enc m).length + (enc v.length).length + (encL v).length, 0) := by
    unfold rm3
    rw [e2]
    dsimp only
    rw [Int.toNat_natCast, rIs_rt a2.right hin v.length (Nat.le_refl _), List.take_length]
  have hlen : bs.length = (enc m).length + ((enc v.length).length + (encL v).length) := by rw [hbs, List.length_append, List.length_append]
  refine ⟨?_, ?_, by rw [e1], by rw [e3]⟩
  · unfold dmV
    rw [r1]
    dsimp only
    rw [if_pos ⟨rfl, by omega⟩]
    have hd : bs.drop (0 + (enc m).length) = encV v := by
      unfold encV
      rw [hn, Nat.zero_add, hbs, List.drop_left]
    rw [hd, decV_enc v hv, hn]
    rfl
  · unfold okM
    rw [e3, e1]
    have hE : rEnd bs (0 + (enc m).length + (enc v.length).length + (encL v).length, 0) = 0 := rEnd_iff.2 ⟨rfl, by dsimp only; omega⟩
    have hN : numB (m : Int) 1 = true := by unfold numB; simp only [decide_eq_true_eq]; omega
    dsimp only
    rw [hE, hN, hv, hn]
    simp
/-- The two read the same. -/
theorem meet_eq {bs : List Int} (hb : ∀ b ∈ bs, 0 ≤ b ∧ b < 256) : (okM bs = true ∧ dmV bs = some ((rm1 bs).1, (rm3 bs).1)) ∨ (okM bs = false ∧ dmV bs = none) := by
  by_cases h : okM bs = true
  · obtain ⟨m, h1, h2⟩ := mt_ref hb h
    have h3 := mt_both h2
    exact .inl ⟨h, by rw [h3.1, h1]⟩
  · cases hd : dmV bs with
    | none => exact .inr ⟨by rw [Bool.not_eq_true] at h; exact h, rfl⟩
    | some x =>
      obtain ⟨q, v⟩ := x
      obtain ⟨m, h1, h2⟩ := mt_prog hb hd
      exact absurd (mt_both h2).2.1 h
end Go.Proofs.YtnfkjnmdfijhnaaGreatDoor
namespace Go.Proofs.YtnfkjnmdfijhnaaGreatDoor
open Go.RowKit Go.Lib
set_option linter.unusedVariables false
set_option linter.unusedSimpArgs false

/-- What is decoded of an accusation. -/
structure Ac where
  er : Int
  d : Int
  q : Int
  R : Rcp
  st : ByteArray
  ix : Int
  no : ByteArray
  an : ByteArray
  ps : List ByteArray
  qs : List ByteArray
  rs : List ByteArray
abbrev rHd (R : Rcp) (pa pb pc : Hd) : Rcp := ⟨R.hd, R.vt, R.s, R.ix, R.sz, R.dy, R.sr, R.ct, R.pl, R.rt, pa, R.si, pb, pc⟩
def h0 : Hd := ⟨none, 0, 0⟩
def acF (k d q : Int) (bs : List Int) : Ac :=
  if k = 6 then (if numB d q = true then (if okT bs = true then ⟨0, d, q, rcV (dT1 bs).1 h0 h0 h0, (dT2 bs).1.1, (dT2 bs).1.2, (dT3 bs).1, (dT4 bs).1, (rc5 (dT1 bs).1).1, (rc9 (dT1 bs).1).1, (rcA (dT1 bs).1).1⟩ else ⟨3, 0, 0, zRcp, ⟨#[]⟩, 0, ⟨#[]⟩, ⟨#[]⟩, [], [], []⟩) else ⟨3, 0, 0, zRcp, ⟨#[]⟩, 0, ⟨#[]⟩, ⟨#[]⟩, [], [], []⟩) else ⟨1, 0, 0, zRcp, ⟨#[]⟩, 0, ⟨#[]⟩, ⟨#[]⟩, [], [], []⟩
def AcPost (f : Ac) (w : World) (e : Ending) (w' : World) : Prop :=
  ∃ pa pb pc : Hd, e = .returned (.tuple #[.agg (cA f.d f.q (rHd f.R pa pb pc) f.st f.ix f.no f.an), .int .i64 f.er]) ∧ (Sl fT w' w'.heap.size pa.a pa.n f.ps ∧ Sl fT w' w'.heap.size pb.a pb.n f.qs ∧ Sl fT w' w'.heap.size pc.a pc.n f.rs) ∧ (pa.n ≤ 1000000 ∧ pb.n ≤ 1000000 ∧ pc.n ≤ 1000000) ∧ Below w.heap.size w w'
theorem Sl.nilT (w : World) (B : Nat) : Sl fT w B none 0 [] := ⟨rfl, fun h => absurd h (by simp)⟩
theorem AcPost.zero {er : Int} {w w' : World} {e : Ending} (he : e = .returned (.tuple #[.agg zA, .int .i64 er])) (hb : Below w.heap.size w w') : AcPost ⟨er, 0, 0, zRcp, ⟨#[]⟩, 0, ⟨#[]⟩, ⟨#[]⟩, [], [], []⟩ w e w' :=
  ⟨⟨none, 0, 0⟩, ⟨none, 0, 0⟩, ⟨none, 0, 0⟩, he, ⟨Sl.nilT _ _, Sl.nilT _ _, Sl.nilT _ _⟩, ⟨Nat.zero_le _, Nat.zero_le _, Nat.zero_le _⟩, hb⟩
theorem AcPost.some {d q : Int} {R : Rcp} {st : ByteArray} {ix : Int} {no an : ByteArray} {ps qs rs : List ByteArray} {base : Nat} {w w' : World} {e : Ending} (he : e = .returned (.tuple #[.agg (cA d q R st ix no an), .int .i64 0])) (ho : RcO w' base R ps qs rs) (h1 : ps.length ≤ 1000000) (h2 : qs.length ≤ 1000000) (h3 : rs.length ≤ 1000000) (hb : Below w.heap.size w w') : AcPost ⟨0, d, q, rHd R h0 h0 h0, st, ix, no, an, ps, qs, rs⟩ w e w' := by
  have hi := ho.rcIn
  refine ⟨R.pa, R.pb, R.pc, he, hi, ⟨?_, ?_, ?_⟩, hb⟩
  · have := hi.1.1; omega
  · have := hi.2.1.1; omega
  · have := hi.2.2.1; omega
section
variable (k dv sq dy : Int) (pr : ByteArray) (A : Option Addr) (n c B : Nat) (bs : List Int) (w : World) (hx : Sl fB w B A n bs) (hB : B ≤ w.heap.size) (hk : RK bs n c)
include hx hB hk
theorem dac_u : Calls Tryz.prog 13 #[.agg #[.int .i64 dv, .int .i64 sq, .int .i64 k, .int .i64 dy, .slice A n c, .string pr]] w (AcPost (acF k dv sq bs) w) := by
  unfold acF
  by_cases h6 : k = 6
  · rw [if_pos h6]
    subst h6
    by_cases hN : numB dv sq = true
    · rw [if_pos hN]
      refine (dacc_any dv sq dy pr A n c B bs w hN hx hB hk.2.1 hk.1).mono ?_
      rintro e w' (⟨h1, pa, pb, pc, h2, h3, h4⟩ | ⟨h1, h2, h3⟩)
      · rw [if_pos h1]
        exact AcPost.some (R := rcV (dT1 bs).1 pa pb pc) h2 h3 (rL_len (by decide)) (rL_len (by decide)) (rL_len (by decide)) h4
      · rw [if_neg (by rw [h1]; decide)]
        exact AcPost.zero h2 h3
    · rw [if_neg hN]
      refine (dacc_num dv sq dy pr A n c w (by rw [Bool.not_eq_true] at hN; exact hN)).mono ?_
      rintro e w' ⟨h2, h3⟩
      exact AcPost.zero h2 h3
  · rw [if_neg h6]
    refine (dacc_no dv sq k dy pr A n c w h6).mono ?_
    rintro e w' ⟨h2, h3⟩
    exact AcPost.zero h2 h3
theorem rac_u (hl : bs.length ≤ 65536) : Calls Tryz.prog 14 #[.agg #[.int .i64 dv, .int .i64 sq, .int .i64 k, .int .i64 dy, .slice A n c, .string pr]] w (AcPost (acF k dv sq bs) w) := by
  unfold acF
  by_cases h6 : k = 6
  · rw [if_pos h6]
    subst h6
    refine (racc_any dv sq dy pr A n c B bs w hx hB hk).mono ?_
    rintro e w' (⟨h1, R, h2, h3, h4, h5⟩ | ⟨h1, h2, h3⟩)
    · rw [okY_okT hk.1 hl] at h1
      simp only [Bool.and_eq_true] at h1
      rw [if_pos h1.2, if_pos h1.1]
      obtain ⟨⟨a1, a2, a3, a4, a5, a6, a7⟩, hR⟩ := okT_eqt hk.1 hl h1.1
      have hE := okR_eqx hR
      have hV := (okx_eq hE).2
      obtain ⟨e0, e1, e2, e3, e4, e5, e6, e7, e8, e9, e10, e11, e12, e13⟩ := hE
      rw [a2] at h3 h4
      rw [hV] at h3
      rw [e9, e12, e13] at h4
      have hs : (dT2 bs).1.1 = (ry2 bs).1 ∧ (dT2 bs).1.2 = (ry3 bs).1 := by rw [a5]; exact ⟨rfl, rfl⟩
      rw [← hs.1, ← hs.2, a6, a7] at h2
      have hp := AcPost.some h2 h4 (rL_len (by decide)) (rL_len (by decide)) (rL_len (by decide)) h5
      have hr : rHd R h0 h0 h0 = rcV (dT1 bs).1 h0 h0 h0 := by rw [h3]; rfl
      rw [hr] at hp
      exact hp
    · rw [okY_okT hk.1 hl] at h1
      by_cases hN : numB dv sq = true
      · rw [if_pos hN]
        rw [hN, Bool.and_true] at h1
        rw [if_neg (by rw [h1]; decide)]
        exact AcPost.zero h2 h3
      · rw [if_neg hN]
        exact AcPost.zero h2 h3
  · rw [if_neg h6]
    refine (racc_no dv sq k dy pr A n c w h6).mono ?_
    rintro e w' ⟨h2, h3⟩
    exact AcPost.zero h2 h3
end
/-- What is decoded of an acquittal. -/
structure Aq where
  er : Int
  d : Int
  q : Int
  st : ByteArray
  ix : Int
  xs : List Int
  ys : List ByteArray
def aqF (k : Int) (bs : List Int) : Aq :=
  if k = 7 then (if okA bs = true then ⟨0, (dA1 bs).1, (dA2 bs).1, (dA3 bs).1.1, (dA3 bs).1.2, (dA4 bs).1, (dA6 bs).1⟩ else ⟨3, 0, 0, ⟨#[]⟩, 0, [], []⟩) else ⟨1, 0, 0, ⟨#[]⟩, 0, [], []⟩
def AqPost (f : Aq) (w : World) (e : Ending) (w' : World) : Prop :=
  ∃ hd hq : Hd, e = .returned (.tuple #[.int .i64 f.d, .int .i64 f.q, .agg (cPc ⟨f.st, f.ix, hd, hq⟩), .int .i64 f.er]) ∧ Sl fB w' w'.heap.size hd.a hd.n f.xs ∧ Sl fT w' w'.heap.size hq.a hq.n f.ys ∧ hq.n ≤ 1000000 ∧ Below w.heap.size w w'
theorem AqPost.zero {er : Int} {w w' : World} {e : Ending} (he : e = .returned (.tuple #[.int .i64 0, .int .i64 0, .agg zPc, .int .i64 er])) (hb : Below w.heap.size w w') : AqPost ⟨er, 0, 0, ⟨#[]⟩, 0, [], []⟩ w e w' :=
  ⟨⟨none, 0, 0⟩, ⟨none, 0, 0⟩, he, ⟨rfl, fun h => absurd h (by simp)⟩, Sl.nilT _ _, Nat.zero_le _, hb⟩
theorem AqPost.some {d q : Int} {st : ByteArray} {ix : Int} {p : Pc} {xs : List Int} {ys : List ByteArray} {w w' : World} {e : Ending} (he : e = .returned (.tuple #[.int .i64 d, .int .i64 q, .agg (cPc p), .int .i64 0])) (h1 : p.s = st) (h2 : p.ix = ix) (hi : PcIn w' w'.heap.size p xs ys) (hl : ys.length ≤ 1000000) (hb : Below w.heap.size w w') : AqPost ⟨0, d, q, st, ix, xs, ys⟩ w e w' := by
  subst h1
  subst h2
  exact ⟨p.d, p.q, he, hi.1, hi.2.1, by have := hi.2.1.1; omega, hb⟩
section
variable (k dv sq dy : Int) (pr : ByteArray) (A : Option Addr) (n c B : Nat) (bs : List Int) (w : World) (hx : Sl fB w B A n bs) (hB : B ≤ w.heap.size) (hk : RK bs n c)
include hx hB hk
theorem daq_u : Calls Tryz.prog 10 #[.agg #[.int .i64 dv, .int .i64 sq, .int .i64 k, .int .i64 dy, .slice A n c, .string pr]] w (AqPost (aqF k bs) w) := by
  unfold aqF
  by_cases h7 : k = 7
  · rw [if_pos h7]
    subst h7
    refine (dacq_any dv sq dy pr A n c B bs w hx hB hk.2.1 hk.1).mono ?_
    rintro e w' (⟨h1, p, h2, h3, h4, h5, h6⟩ | ⟨h1, h2, h3⟩)
    · rw [if_pos h1]
      exact AqPost.some h4 h2 h3 h5 (by rw [dA6_rL]; exact rL_len (by decide)) h6
    · rw [if_neg (by rw [h1]; decide)]
      exact AqPost.zero h2 h3
  · rw [if_neg h7]
    refine (dacq_no dv sq k dy pr A n c w h7).mono ?_
    rintro e w' ⟨h2, h3⟩
    exact AqPost.zero h2 h3
theorem raq_u : Calls Tryz.prog 16 #[.agg #[.int .i64 dv, .int .i64 sq, .int .i64 k, .int .i64 dy, .slice A n c, .string pr]] w (AqPost (aqF k bs) w) := by
  unfold aqF
  by_cases h7 : k = 7
  · rw [if_pos h7]
    subst h7
    refine (racq_any dv sq dy pr A n c B bs w hx hB hk).mono ?_
    rintro e w' (⟨h1, p, h2, h3, h4, h5, h6⟩ | ⟨h1, h2, h3⟩)
    · rw [okZ_okA hk.1] at h1
      rw [if_pos h1]
      obtain ⟨a1, a2, a3, a4, a5, a6, a7, a8⟩ := okA_eqa hk.1 h1
      have hs : (dA3 bs).1.1 = (rz3 bs).1 ∧ (dA3 bs).1.2 = (rz4 bs).1 := by rw [a5]; exact ⟨rfl, rfl⟩
      rw [← hs.1] at h2
      rw [← hs.2] at h3
      rw [a1, a2] at h4
      rw [a7, a8] at h5
      exact AqPost.some h4 h2 h3 h5 (by rw [dA6_rL]; exact rL_len (by decide)) h6
    · rw [okZ_okA hk.1] at h1
      rw [if_neg (by rw [h1]; decide)]
      exact AqPost.zero h2 h3
  · rw [if_neg h7]
    refine (racq_no dv sq k dy pr A n c w h7).mono ?_
    rintro e w' ⟨h2, h3⟩
    exact AqPost.zero h2 h3
end
/-- What is decoded of a meeting. -/
structure Mt where
  er : Int
  q : Int
  v : List Int
def mtF (k : Int) (bs : List Int) : Mt := if k = 9 then (if okM bs = true then ⟨0, (rm1 bs).1, (rm3 bs).1⟩ else ⟨3, 0, []⟩) else ⟨1, 0, []⟩
def MtPost (f : Mt) (w : World) (e : Ending) (w' : World) : Prop :=
  ∃ A n c, e = .returned (.tuple #[.int .i64 f.q, .slice A n c, .int .i64 f.er]) ∧ Sl I w' w'.heap.size A n f.v ∧ n ≤ 1000000 ∧ Below w.heap.size w w'
theorem rm3_len (bs : List Int) : (rm3 bs).1.length ≤ 1000000 := by
  have h1 : (rm3 bs).1.length = (rm2 bs).1.toNat := rIs_len bs _ _
  have h2 : (rm2 bs).1 ≤ ((12 : Nat) : Int) := (rC_range (bs := bs) (m := 12) (s := (rm1 bs).2)).2
  omega
theorem Sl.nilI (w : World) (B : Nat) : Sl I w B none 0 [] := ⟨rfl, fun h => absurd h (by simp)⟩
section
variable (k dv sq dy : Int) (pr : ByteArray) (A : Option Addr) (n c B : Nat) (bs : List Int) (w : World) (hx : Sl fB w B A n bs) (hB : B ≤ w.heap.size) (hk : RK bs n c)
include hx hB hk
theorem dmt_u : Calls Tryz.prog 17 #[.agg #[.int .i64 dv, .int .i64 sq, .int .i64 k, .int .i64 dy, .slice A n c, .string pr]] w (MtPost (mtF k bs) w) := by
  unfold mtF
  by_cases h9 : k = 9
  · rw [if_pos h9]
    subst h9
    refine (dmt_any dv sq dy pr A n c B bs w hx hB hk).mono ?_
    rintro e w' (⟨q, v, A', n', c', h1, h2, h3, h4⟩ | ⟨h1, h2, h3⟩)
    · rcases meet_eq hk.1 with ⟨g1, g2⟩ | ⟨g1, g2⟩
      · rw [h1] at g2
        injection g2 with g2
        injection g2 with g3 g4
        subst g3
        subst g4
        rw [if_pos g1]
        exact ⟨A', n', c', h2, h3, by have := h3.1; have := rm3_len bs; omega, h4⟩
      · rw [h1] at g2; cases g2
    · rcases meet_eq hk.1 with ⟨g1, g2⟩ | ⟨g1, g2⟩
      · rw [h1] at g2; cases g2
      · rw [if_neg (by rw [g1]; decide)]
        exact ⟨none, 0, 0, h2, Sl.nilI _ _, Nat.zero_le _, h3⟩
  · rw [if_neg h9]
    refine (dmt_no dv sq k dy pr A n c w h9).mono ?_
    rintro e w' ⟨h2, h3⟩
    exact ⟨none, 0, 0, h2, Sl.nilI _ _, Nat.zero_le _, h3⟩
theorem rmt_u : Calls Tryz.prog 18 #[.agg #[.int .i64 dv, .int .i64 sq, .int .i64 k, .int .i64 dy, .slice A n c, .string pr]] w (MtPost (mtF k bs) w) := by
  unfold mtF
  by_cases h9 : k = 9
  · rw [if_pos h9]
    subst h9
    refine (rmt_any dv sq dy pr A n c B bs w hx hB hk).mono ?_
    rintro e w' (⟨h1, A', n', c', h2, h3, h4⟩ | ⟨h1, h2, h3⟩)
    · rw [if_pos h1]
      exact ⟨A', n', c', h2, h3, by have := h3.1; have := rm3_len bs; omega, h4⟩
    · rw [if_neg (by rw [h1]; decide)]
      exact ⟨none, 0, 0, h2, Sl.nilI _ _, Nat.zero_le _, h3⟩
  · rw [if_neg h9]
    refine (rmt_no dv sq k dy pr A n c w h9).mono ?_
    rintro e w' ⟨h2, h3⟩
    exact ⟨none, 0, 0, h2, Sl.nilI _ _, Nat.zero_le _, h3⟩
end
end Go.Proofs.YtnfkjnmdfijhnaaGreatDoor
