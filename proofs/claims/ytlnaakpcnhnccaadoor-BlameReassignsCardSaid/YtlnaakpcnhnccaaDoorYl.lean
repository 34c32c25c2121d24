/- Vectors, plainly. -/
import Derived.Test.YtlnaakpcnhnccaaDoorYn
namespace Go.Proofs.YtlnaakpcnhnccaaDoor
open Go.RowKit
set_option linter.unusedVariables false
set_option linter.unusedSimpArgs false

theorem nlen_pad (xs : List Int) : ∀ m, xs.length + m ≤ (pad xs).length → nlen (pad xs) (xs.length + m) = nlen xs xs.length := by
  have hg : ∀ k, (pad xs).getD k 0 = xs.getD k 0 := by
    intro k
    simp only [pad, List.getD_eq_getElem?_getD, List.getElem?_append]
    split
    · rfl
    · rename_i h
      rw [List.getElem?_eq_none (l := xs) (by omega)]
      simp only [List.getElem?_replicate]
      split <;> rfl
  have hn : ∀ k, nlen (pad xs) k = nlen xs k := by
    intro k
    induction k with
    | zero => rfl
    | succ k ih => rw [nlen, nlen, hg, ih]
  intro m
  induction m with
  | zero => intro _; rw [Nat.add_zero, hn]
  | succ m ih =>
    intro h
    rw [← Nat.add_assoc, nlen, if_pos, ih (by omega)]
    rw [hg, List.getD_eq_getElem?_getD, List.getElem?_eq_none (by omega)]; rfl
theorem nrm_pad {xs : List Int} (h : xs.length ≤ 12) : nrm (pad xs) = nrm xs := by
  have h1 := nlen_pad xs (12 - xs.length) (by rw [pad_len h]; omega)
  have h2 : xs.length + (12 - xs.length) = 12 := by omega
  rw [h2] at h1
  rw [nrm, nrm, pad_len h, h1, pad, List.take_append_of_le_length (nlen_le _ _)]
theorem pad_getD (xs : List Int) (k : Nat) : (pad xs).getD k 0 = xs.getD k 0 := by
  simp only [pad, List.getD_eq_getElem?_getD, List.getElem?_append]
  split
  · rfl
  · rename_i h
    rw [List.getElem?_eq_none (l := xs) (by omega)]
    simp only [List.getElem?_replicate]
    split <;> rfl
theorem pd_yes {xs : List Int} (h : validB xs = true) : pd xs = pad xs := if_pos h
theorem valid_len {xs : List Int} (h : validB xs = true) : xs.length ≤ 12 := by simp [validB] at h; exact h.2

theorem inR_getD {x : List Int} (h : x.all inR = true) (k : Nat) : 0 ≤ x.getD k 0 ∧ x.getD k 0 ≤ 1099511627776 := by
  rcases Nat.lt_or_ge k x.length with hk | hk
  · obtain ⟨z, hz⟩ := get_ex hk
    rw [getD_of hz]
    have := List.all_eq_true.1 h z (List.mem_of_getElem? hz)
    simpa [inR] using this
  · rw [List.getD_eq_getElem?_getD, List.getElem?_eq_none hk]; decide
theorem pad_inR {xs : List Int} (h : validB xs = true) : (pad xs).all inR = true := by
  simp only [validB, Bool.and_eq_true] at h
  rw [pad, List.all_append, h.1, Bool.true_and, List.all_eq_true]
  intro z hz
  rw [List.eq_of_mem_replicate hz]; rfl



theorem getD_out {x : List Int} {k : Nat} (h : x.length ≤ k) : x.getD k 0 = 0 := by rw [List.getD_eq_getElem?_getD, List.getElem?_eq_none h]; rfl
theorem nlen_congr {x y : List Int} (h : ∀ j, x.getD j 0 = y.getD j 0) (n : Nat) : nlen x n = nlen y n := by
  induction n with
  | zero => rfl
  | succ n ih => rw [nlen, nlen, h, ih]
theorem nlen_out (x : List Int) (m : Nat) : nlen x (x.length + m) = nlen x x.length := by
  induction m with
  | zero => rfl
  | succ m ih => rw [← Nat.add_assoc, nlen, if_pos (getD_out (by omega)), ih]
theorem nlen_len (x : List Int) (n : Nat) : nlen x n ≤ x.length := by
  rcases Nat.lt_or_ge x.length n with h | h
  · obtain ⟨m, rfl⟩ : ∃ m, n = x.length + m := ⟨n - x.length, by omega⟩
    rw [nlen_out]; exact nlen_le _ _
  · exact Nat.le_trans (nlen_le _ _) h
theorem take_congr {x y : List Int} (h : ∀ j, x.getD j 0 = y.getD j 0) {n : Nat} (hx : n ≤ x.length) (hy : n ≤ y.length) : x.take n = y.take n := by
  apply List.ext_getElem?
  intro j
  rw [List.getElem?_take, List.getElem?_take]
  split
  · rename_i hj
    obtain ⟨a, ha⟩ := get_ex (xs := x) (k := j) (by omega)
    obtain ⟨b, hb⟩ := get_ex (xs := y) (k := j) (by omega)
    have := h j
    rw [getD_of ha, getD_of hb] at this
    rw [ha, hb, this]
  · rfl
/-- Lists with the same numbers have the same normal form. -/
theorem nrm_congr {x y : List Int} (h : ∀ j, x.getD j 0 = y.getD j 0) : nrm x = nrm y := by
  have e : nlen x x.length = nlen y y.length := by
    have h1 := nlen_out x y.length
    have h2 := nlen_out y x.length
    rw [← h1, ← h2, nlen_congr h, Nat.add_comm]
  rw [nrm, nrm, e]
  exact take_congr h (by rw [← e]; exact nlen_len _ _) (nlen_len _ _)
theorem nlen_zero {x : List Int} {n j : Nat} (h1 : nlen x n ≤ j) (h2 : j < n) : x.getD j 0 = 0 := by
  induction n with
  | zero => omega
  | succ n ih =>
    rw [nlen] at h1
    split at h1
    · rename_i h0
      by_cases hj : j = n
      · rw [hj, h0]
      · exact ih h1 (by omega)
    · omega
theorem nrm_getD (x : List Int) (j : Nat) : (nrm x).getD j 0 = x.getD j 0 := by
  rw [nrm, List.getD_eq_getElem?_getD, List.getElem?_take]
  split
  · rw [List.getD_eq_getElem?_getD]
  · rename_i h
    rcases Nat.lt_or_ge j x.length with hj | hj
    · rw [nlen_zero (x := x) (n := x.length) (by omega) hj]; rfl
    · rw [getD_out hj]; rfl
theorem nrm_nrm (x : List Int) : nrm (nrm x) = nrm x := nrm_congr (nrm_getD x)
theorem ext_getD {x y : List Int} (hl : x.length = y.length) (h : ∀ j, j < x.length → x.getD j 0 = y.getD j 0) : x = y := by
  apply List.ext_getElem?
  intro j
  rcases Nat.lt_or_ge j x.length with hj | hj
  · obtain ⟨a, ha⟩ := get_ex (xs := x) (k := j) hj
    obtain ⟨b, hb⟩ := get_ex (xs := y) (k := j) (by omega)
    have := h j hj
    rw [getD_of ha, getD_of hb] at this
    rw [ha, hb, this]
  · rw [List.getElem?_eq_none hj, List.getElem?_eq_none (by omega)]
theorem set_getD (x : List Int) (k j : Nat) (v : Int) (hk : k < x.length) : (x.set k v).getD j 0 = if j = k then v else x.getD j 0 := by
  rw [List.getD_eq_getElem?_getD, List.getElem?_set, List.getD_eq_getElem?_getD]
  by_cases h : k = j
  · subst h; rw [if_pos rfl, if_pos hk, if_pos rfl]; rfl
  · rw [if_neg h, if_neg (fun e => h e.symm)]
theorem nrm_len' (xs : List Int) : (nrm xs).length ≤ xs.length := by rw [nrm, List.length_take]; omega
/-- The join (max) or meet (min) of two vectors. -/
theorem valid_of_getD {x : List Int} (hl : x.length ≤ 12) (h : ∀ j, 0 ≤ x.getD j 0 ∧ x.getD j 0 ≤ 1099511627776) : validB x = true := by
  simp only [validB, Bool.and_eq_true, decide_eq_true_eq]
  refine ⟨List.all_eq_true.2 fun z hz => ?_, hl⟩
  obtain ⟨j, hj, rfl⟩ := List.mem_iff_getElem.1 hz
  have := h j
  rw [getD_of (List.getElem?_eq_getElem hj)] at this
  simp [inR, this]
theorem valid_getD {x : List Int} (h : validB x = true) (k : Nat) : 0 ≤ x.getD k 0 ∧ x.getD k 0 ≤ 1099511627776 := inR_getD (by simp only [validB, Bool.and_eq_true] at h; exact h.1) k
end Go.Proofs.YtlnaakpcnhnccaaDoor
