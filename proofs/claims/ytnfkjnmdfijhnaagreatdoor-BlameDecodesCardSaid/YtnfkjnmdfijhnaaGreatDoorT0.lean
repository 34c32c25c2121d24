/- The reference's number, plainly: the digits of a number, the least first. -/
import Derived.Test.YtnfkjnmdfijhnaaGreatDoorMc
namespace Go.Proofs.YtnfkjnmdfijhnaaGreatDoor
open Go.RowKit
set_option linter.unusedVariables false
set_option linter.unusedSimpArgs false

/-- The number with these digits, the least first. -/
def hor : List Int → Int
  | [] => 0
  | b :: t => (hor t * 128 + b % 128) % 18446744073709551616
theorem hor_rng (l : List Int) : 0 ≤ hor l ∧ hor l < 18446744073709551616 := by
  cases l with
  | nil => exact ⟨by decide, by decide⟩
  | cons b t => unfold hor; omega
theorem hor_enc : ∀ (k n : Nat), n < 128 ^ k → n < 18446744073709551616 → hor (encF k n) = n
  | 0, n, h, _ => by simp at h; subst h; rfl
  | k + 1, n, h, h2 => by
    have hd : n / 128 < 128 ^ k := by rw [Nat.pow_succ] at h; omega
    have ih := hor_enc k (n / 128) hd (by omega)
    rw [encF]
    split
    · simp only [hor]; omega
    · simp only [hor, ih]; omega
theorem enc_shape : ∀ (k n : Nat), n < 128 ^ k → 0 < k → ∃ L, (encF k n).length = L + 1 ∧ L < k ∧ (∃ x, (encF k n)[L]? = some x ∧ x < 128) ∧ ∀ i, i < L → ∃ x, (encF k n)[i]? = some x ∧ 128 ≤ x
  | 0, n, _, h => absurd h (by omega)
  | k + 1, n, h, _ => by
    have hd : n / 128 < 128 ^ k := by rw [Nat.pow_succ] at h; omega
    rw [encF]
    split
    · exact ⟨0, rfl, by omega, ⟨(n : Int), rfl, by omega⟩, fun i hi => absurd hi (by omega)⟩
    · have hk0 : 0 < k := by
        rcases k with _ | k
        · rw [Nat.pow_zero] at hd; omega
        · omega
      obtain ⟨L, h1, h2, ⟨x, h3, h4⟩, h5⟩ := enc_shape k (n / 128) hd hk0
      refine ⟨L + 1, by rw [List.length_cons, h1], by omega, ⟨x, h3, h4⟩, fun i hi => ?_⟩
      cases i with
      | zero => exact ⟨_, rfl, by omega⟩
      | succ i => exact h5 i (by omega)
theorem enc_shape10 {n : Nat} (h : n < 18446744073709551616) : ∃ L, (enc n).length = L + 1 ∧ L < 10 ∧ (∃ x, (enc n)[L]? = some x ∧ x < 128) ∧ ∀ i, i < L → ∃ x, (enc n)[i]? = some x ∧ 128 ≤ x := enc_shape 10 n (by omega) (by omega)
section
variable {bs : List Int} {p j : Nat}
theorem at_len (hj : ∀ i, i < j → ∀ x, bs[p + i]? = some x → 128 ≤ x) {x : Int} (hx : bs[p + j]? = some x) (hl : x < 128) {n : Nat} (hn : n < 18446744073709551616) (h : AtL bs p (enc n)) : (enc n).length = j + 1 := by
  obtain ⟨L, h1, h2, ⟨y, h3, h4⟩, h5⟩ := enc_shape10 hn
  rcases Nat.lt_trichotomy L j with c | c | c
  · have := hj L c y (by rw [h L (by omega), h3]); omega
  · omega
  · obtain ⟨z, e1, e2⟩ := h5 j c
    have := h j (by omega)
    rw [hx, e1] at this
    cases this
    omega
theorem at_no (hj : ∀ i, i < j → ∀ x, bs[p + i]? = some x → 128 ≤ x) (he : 10 ≤ j ∨ bs.length ≤ p + j) {n : Nat} (hn : n < 18446744073709551616) (h : AtL bs p (enc n)) : False := by
  obtain ⟨L, h1, h2, ⟨y, h3, h4⟩, h5⟩ := enc_shape10 hn
  rcases Nat.lt_or_ge L j with c | c
  · have := hj L c y (by rw [h L (by omega), h3]); omega
  · have := h.fits (by omega)
    omega
/-- What lies at p reads the number with these digits. -/
def segL (bs : List Int) (p j : Nat) : List Int := (bs.drop p).take j
theorem seg_len (h : p + j ≤ bs.length) : (segL bs p j).length = j := by unfold segL; rw [List.length_take, List.length_drop]; omega
theorem seg_at {i : Nat} (hi : i < j) : (segL bs p j)[i]? = bs[p + i]? := by unfold segL; rw [List.getElem?_take, if_pos hi, List.getElem?_drop]
theorem seg_drop {m : Nat} {x : Int} (hm : m < j) (hx : bs[p + m]? = some x) : (segL bs p j).drop m = x :: (segL bs p j).drop (m + 1) := by
  have h1 : (segL bs p j)[m]? = some x := by rw [seg_at hm]; exact hx
  obtain ⟨h2, h3⟩ := List.getElem?_eq_some_iff.1 h1
  rw [List.drop_eq_getElem_cons h2, h3]
theorem seg_all (h : p + j ≤ bs.length) : (segL bs p j).drop j = [] := by rw [List.drop_eq_nil_iff, seg_len h]; exact Nat.le_refl _
theorem seg_of {xs : List Int} (h : AtL bs p xs) (hl : xs.length = j) : segL bs p j = xs := by unfold segL; rw [← hl]; exact h.cut
theorem at_seg {V : Nat} (hj : ∀ i, i < j → ∀ x, bs[p + i]? = some x → 128 ≤ x) {x : Int} (hx : bs[p + j]? = some x) (hl : x < 128) (hv : hor (segL bs p (j + 1)) = V) {n : Nat} (hn : n < 18446744073709551616) (h : AtL bs p (enc n)) : enc V = segL bs p (j + 1) := by
  have h1 := at_len hj hx hl hn h
  have h2 := seg_of h h1
  have h3 : hor (enc n) = n := hor_enc 10 n (by omega) hn
  rw [h2, h3] at hv
  rw [h2]
  congr 1
  omega
/-- What the reference's number yields. -/
def nmF (bs : List Int) (p : Nat) : Int × Nat × Bool := if (numF bs 10 0 0 p).2.1 = 0 then ((numF bs 10 0 0 p).1, (numF bs 10 0 0 p).2.2, true) else (0, 0, false)
theorem nmF_at {n : Nat} (hn : n < 18446744073709551616) (h : AtL bs p (enc n)) : nmF bs p = ((n : Int), p + (enc n).length, true) := by
  unfold nmF
  rw [num_rt h hn]
  rfl
theorem nmF_no (hb : ∀ b ∈ bs, 0 ≤ b ∧ b < 256) (h : ∀ n, n < 18446744073709551616 → AtL bs p (enc n) → False) : nmF bs p = (0, 0, false) := by
  unfold nmF
  split
  · next e =>
    obtain ⟨n, _, h2, _, h4⟩ := num_only hb (show numF bs 10 0 0 p = ((numF bs 10 0 0 p).1, 0, (numF bs 10 0 0 p).2.2) by rw [← e])
    exact absurd h4 (h n h2)
  · rfl
theorem nmF_seg {V : Nat} (hb : p + (j + 1) ≤ bs.length) (hV : V < 18446744073709551616) (he : enc V = segL bs p (j + 1)) : nmF bs p = ((V : Int), p + (j + 1), true) := by
  have hl : (enc V).length = j + 1 := by rw [he]; exact seg_len hb
  rw [nmF_at hV (fun i hi => by rw [he]; exact (seg_at (by omega)).symm), hl]
end
end Go.Proofs.YtnfkjnmdfijhnaaGreatDoor
