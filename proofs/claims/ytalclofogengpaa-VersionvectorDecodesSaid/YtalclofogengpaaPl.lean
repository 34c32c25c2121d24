/- Plain facts on normal forms, joins and meets: no program is walked here. -/
import Derived.Test.YtalclofogengpaaVvC
namespace Go.Proofs.Ytalclofogengpaa
open Go.RowKit

theorem getD_out {x : List Int} {k : Nat} (h : x.length ≤ k) : x.getD k 0 = 0 := by rw [List.getD_eq_getElem?_getD, List.getElem?_eq_none h]; rfl
theorem nlen_congr {x y : List Int} (h : ∀ j, x.getD j 0 = y.getD j 0) (n : Nat) : nlen x n = nlen y n := by
  induction n with
  | zero => rfl
  | succ n ih => rw [nlen, nlen, h, ih]
theorem nlen_out (x : List Int) (m : Nat) : nlen x (x.length + m) = nlen x x.length := by
  induction m with
  | zero => rfl
  | succ m ih => rw [← Nat.add_assoc, nlen, if_pos (getD_out (by omega)), ih]
theorem nlen_len (x : List Int) (n : Nat) : nlen x n ≤ x.length := by
  rcases Nat.lt_or_ge x.length n with h | h
  · obtain ⟨m, rfl⟩ : ∃ m, n = x.length + m := ⟨n - x.length, by omega⟩
    rw [nlen_out]; exact nlen_le _ _
  · exact Nat.le_trans (nlen_le _ _) h
theorem take_congr {x y : List Int} (h : ∀ j, x.getD j 0 = y.getD j 0) {n : Nat} (hx : n ≤ x.length) (hy : n ≤ y.length) : x.take n = y.take n := by
  apply List.ext_getElem?
  intro j
  rw [List.getElem?_take, List.getElem?_take]
  split
  · rename_i hj
    obtain ⟨a, ha⟩ := get_ex (xs := x) (k := j) (by omega)
    obtain ⟨b, hb⟩ := get_ex (xs := y) (k := j) (by omega)
    have := h j
    rw [getD_of ha, getD_of hb] at this
    rw [ha, hb, this]
  · rfl
/-- Lists with the same numbers have the same normal form. -/
theorem nrm_congr {x y : List Int} (h : ∀ j, x.getD j 0 = y.getD j 0) : nrm x = nrm y := by
  have e : nlen x x.length = nlen y y.length := by
    have h1 := nlen_out x y.length
    have h2 := nlen_out y x.length
    rw [← h1, ← h2, nlen_congr h, Nat.add_comm]
  rw [nrm, nrm, e]
  exact take_congr h (by rw [← e]; exact nlen_len _ _) (nlen_len _ _)
theorem nlen_zero {x : List Int} {n j : Nat} (h1 : nlen x n ≤ j) (h2 : j < n) : x.getD j 0 = 0 := by
  induction n with
  | zero => omega
  | succ n ih =>
    rw [nlen] at h1
    split at h1
    · rename_i h0
      by_cases hj : j = n
      · rw [hj, h0]
      · exact ih h1 (by omega)
    · omega
theorem nrm_getD (x : List Int) (j : Nat) : (nrm x).getD j 0 = x.getD j 0 := by
  rw [nrm, List.getD_eq_getElem?_getD, List.getElem?_take]
  split
  · rw [List.getD_eq_getElem?_getD]
  · rename_i h
    rcases Nat.lt_or_ge j x.length with hj | hj
    · rw [nlen_zero (x := x) (n := x.length) (by omega) hj]; rfl
    · rw [getD_out hj]; rfl
theorem nrm_nrm (x : List Int) : nrm (nrm x) = nrm x := nrm_congr (nrm_getD x)
theorem ext_getD {x y : List Int} (hl : x.length = y.length) (h : ∀ j, j < x.length → x.getD j 0 = y.getD j 0) : x = y := by
  apply List.ext_getElem?
  intro j
  rcases Nat.lt_or_ge j x.length with hj | hj
  · obtain ⟨a, ha⟩ := get_ex (xs := x) (k := j) hj
    obtain ⟨b, hb⟩ := get_ex (xs := y) (k := j) (by omega)
    have := h j hj
    rw [getD_of ha, getD_of hb] at this
    rw [ha, hb, this]
  · rw [List.getElem?_eq_none hj, List.getElem?_eq_none (by omega)]
theorem set_getD (x : List Int) (k j : Nat) (v : Int) (hk : k < x.length) : (x.set k v).getD j 0 = if j = k then v else x.getD j 0 := by
  rw [List.getD_eq_getElem?_getD, List.getElem?_set, List.getD_eq_getElem?_getD]
  by_cases h : k = j
  · subst h; rw [if_pos rfl, if_pos hk, if_pos rfl]; rfl
  · rw [if_neg h, if_neg (fun e => h e.symm)]
theorem mix_getD (g : Int → Int → Int) (r x : List Int) (d j : Nat) (hd : d ≤ r.length) : (mix g r x d).getD j 0 = if j < d then g (r.getD j 0) (x.getD j 0) else r.getD j 0 := by
  induction d with
  | zero => simp [mix]
  | succ d ih =>
    rw [mix, set_getD _ _ _ _ (by rw [mix_len]; omega), ih (by omega)]
    by_cases hj : j = d
    · subst hj; rw [if_pos rfl, if_pos (by omega)]
    · rw [if_neg hj]
      by_cases h2 : j < d
      · rw [if_pos h2, if_pos (by omega)]
      · rw [if_neg h2, if_neg (by omega)]
theorem zw_getD {g : Int → Int → Int} (hg : g 0 0 = 0) {x y : List Int} (hx : x.length ≤ 12) (hy : y.length ≤ 12) (j : Nat) : (zw g x y 12).getD j 0 = g (x.getD j 0) (y.getD j 0) := by
  rcases Nat.lt_or_ge j 12 with h | h
  · have : (zw g x y 12)[j]? = some (g (x.getD j 0) (y.getD j 0)) := by simp [zw, h]
    rw [getD_of this]
  · rw [getD_out (by rw [zw_len]; exact h), getD_out (x := x) (by omega), getD_out (x := y) (by omega), hg]
theorem nrm_len' (xs : List Int) : (nrm xs).length ≤ xs.length := by rw [nrm, List.length_take]; omega
/-- The join (max) or meet (min) of two vectors. -/
def MM (g : Int → Int → Int) (a b : List Int) : List Int := nrm (zw g a b 12)
theorem MM_getD {g : Int → Int → Int} (hg : g 0 0 = 0) {a b : List Int} (ha : a.length ≤ 12) (hb : b.length ≤ 12) (j : Nat) : (MM g a b).getD j 0 = g (a.getD j 0) (b.getD j 0) := by
  rw [MM, nrm_getD, zw_getD hg ha hb]
theorem MM_len (g : Int → Int → Int) (a b : List Int) : (MM g a b).length ≤ 12 := by
  have := nrm_len' (zw g a b 12)
  rw [zw_len] at this
  exact this
theorem valid_of_getD {x : List Int} (hl : x.length ≤ 12) (h : ∀ j, 0 ≤ x.getD j 0 ∧ x.getD j 0 ≤ 1099511627776) : validB x = true := by
  simp only [validB, Bool.and_eq_true, decide_eq_true_eq]
  refine ⟨List.all_eq_true.2 fun z hz => ?_, hl⟩
  obtain ⟨j, hj, rfl⟩ := List.mem_iff_getElem.1 hz
  have := h j
  rw [getD_of (List.getElem?_eq_getElem hj)] at this
  simp [inR, this]
theorem valid_getD {x : List Int} (h : validB x = true) (k : Nat) : 0 ≤ x.getD k 0 ∧ x.getD k 0 ≤ 1099511627776 := inR_getD (by simp only [validB, Bool.and_eq_true] at h; exact h.1) k
theorem max_getD {a b : List Int} (ha : validB a = true) (hb : validB b = true) (j : Nat) : (MM max a b).getD j 0 = max (a.getD j 0) (b.getD j 0) := MM_getD (by decide) (valid_len ha) (valid_len hb) j
theorem min_getD {a b : List Int} (ha : validB a = true) (hb : validB b = true) (j : Nat) : (MM min a b).getD j 0 = min (a.getD j 0) (b.getD j 0) := MM_getD (by decide) (valid_len ha) (valid_len hb) j
theorem MMmax_valid {a b : List Int} (ha : validB a = true) (hb : validB b = true) : validB (MM max a b) = true := valid_of_getD (MM_len _ _ _) fun j => by
  have h1 := valid_getD ha j
  have h2 := valid_getD hb j
  rw [max_getD ha hb]; omega
theorem MMmin_valid {a b : List Int} (ha : validB a = true) (hb : validB b = true) : validB (MM min a b) = true := valid_of_getD (MM_len _ _ _) fun j => by
  have h1 := valid_getD ha j
  have h2 := valid_getD hb j
  rw [min_getD ha hb]; omega
theorem accN_succ (g : Int → Int → Int) {vs : List (List Int)} {k : Nat} {v : List Int} (hk : vs[k]? = some v) (hv : validB v = true) (hl : k = 0 ∨ (accN g vs k).length = 12) (j : Nat) (hj : j < 12) :
    (accN g vs (k + 1)).getD j 0 = g (if k = 0 then v.getD j 0 else (accN g vs k).getD j 0) (v.getD j 0) := by
  rw [accN, getD_of hk]
  have hp := pad_len_of hv
  by_cases h0 : k = 0
  · rw [if_pos h0, if_pos h0, mix_getD _ _ _ _ _ (by omega), if_pos hj, pad_getD]
  · rw [if_neg h0, if_neg h0, mix_getD _ _ _ _ _ (by rcases hl with h | h <;> omega), if_pos hj, pad_getD]
theorem acc2 (g : Int → Int → Int) (hid : ∀ z, g z z = z) {a b : List Int} (ha : validB a = true) (hb : validB b = true) : accN g [a, b] 2 = zw g a b 12 := by
  have hall : ([a, b].take 2).all validB = true := by simp [ha, hb]
  have hall1 : ([a, b].take 1).all validB = true := by simp [ha]
  have hl2 := accN_len g [a, b] 2 (by simp) hall
  have hl1 := accN_len g [a, b] 1 (by simp) hall1
  refine ext_getD (by rw [hl2, zw_len]) fun j hj => ?_
  rw [hl2] at hj
  rw [accN_succ g (k := 1) (v := b) rfl hb (.inr hl1) j hj, if_neg (by omega), accN_succ g (k := 0) (v := a) rfl ha (.inl rfl) j hj, if_pos rfl, hid]
  have : (zw g a b 12)[j]? = some (g (a.getD j 0) (b.getD j 0)) := by simp [zw, hj]
  rw [getD_of this]
end Go.Proofs.Ytalclofogengpaa
