/- The elimination step by step, plainly. -/
import Derived.Test.YtpbeaghghlfiaaaP7
namespace Go.Proofs.Ytpbeaghghlfiaaa
set_option linter.unusedVariables false
set_option linter.unusedSimpArgs false
def clr1 (t : List Nat) (top col i : Nat) (row : List Nat) : List Nat := if i = top ∨ row.getD col 0 = 0 then row else addv (sclv (row.getD col 0) t) row
theorem clrP_get (t : List Nat) (top col : Nat) : ∀ (i k : Nat) (m : Mt), (clrP t top col i m)[k]? = (m[k]?).map (clr1 t top col (i + k))
  | i, k, [] => by simp [clrP]
  | i, 0, r :: m => by simp [clrP, clr1]
  | i, k + 1, r :: m => by
    show (clrP t top col (i + 1) m)[k]? = _
    rw [clrP_get, List.getElem?_cons_succ, show i + 1 + k = i + (k + 1) by omega]
theorem clrP_len (t : List Nat) (top col : Nat) : ∀ (i : Nat) (m : Mt), (clrP t top col i m).length = m.length
  | i, [] => rfl
  | i, r :: m => by simp [clrP, clrP_len t top col (i + 1) m]
/-- The rows when the first k are done. -/
def clrK (t : List Nat) (top col : Nat) (m : Mt) (k : Nat) : Mt := clrP t top col 0 (m.take k) ++ m.drop k
theorem clrK_zero (t : List Nat) (top col : Nat) (m : Mt) : clrK t top col m 0 = m := by simp [clrK, clrP]
theorem clrK_all (t : List Nat) (top col : Nat) (m : Mt) : clrK t top col m m.length = clrP t top col 0 m := by simp [clrK]
theorem clrK_len (t : List Nat) (top col : Nat) (m : Mt) (k : Nat) : (clrK t top col m k).length = m.length := by
  unfold clrK
  rw [List.length_append, clrP_len, ← List.length_append, List.take_append_drop]
theorem clrK_get (t : List Nat) (top col : Nat) (m : Mt) (k j : Nat) : (clrK t top col m k)[j]? = if j < k then (m[j]?).map (clr1 t top col j) else m[j]? := by
  unfold clrK
  by_cases h : j < k
  · rw [if_pos h]
    by_cases hj : j < m.length
    · rw [List.getElem?_append_left (by rw [clrP_len, List.length_take]; omega), clrP_get, List.getElem?_take_of_lt h, Nat.zero_add]
    · rw [List.getElem?_eq_none (by rw [List.length_append, clrP_len, ← List.length_append, List.take_append_drop]; omega), List.getElem?_eq_none (by omega)]
      rfl
  · rw [if_neg h]
    by_cases hk : k ≤ m.length
    · rw [List.getElem?_append_right (by rw [clrP_len, List.length_take]; omega), clrP_len, List.length_take, List.getElem?_drop, Nat.min_eq_left hk, show k + (j - k) = j by omega]
    · rw [List.getElem?_eq_none (by rw [List.length_append, clrP_len, ← List.length_append, List.take_append_drop]; omega), List.getElem?_eq_none (by omega)]
theorem clrK_step {t : List Nat} {top col : Nat} {m : Mt} {k : Nat} {row : List Nat} (h : m[k]? = some row) : (clrK t top col m k).set k (clr1 t top col k row) = clrK t top col m (k + 1) := by
  refine List.ext_getElem? (fun j => ?_)
  have hk := (List.getElem?_eq_some_iff.1 h).1
  rw [List.getElem?_set, clrK_len, clrK_get, clrK_get]
  by_cases e : k = j
  · subst e
    rw [if_pos rfl, if_pos hk, if_pos (by omega), h]
    rfl
  · rw [if_neg e]
    by_cases h2 : j < k
    · rw [if_pos h2, if_pos (by omega)]
    · rw [if_neg h2, if_neg (by omega)]
theorem clrK_skip {t : List Nat} {top col : Nat} {m : Mt} {k : Nat} {row : List Nat} (h : m[k]? = some row) (hc : k = top ∨ row.getD col 0 = 0) : clrK t top col m (k + 1) = clrK t top col m k := by
  rw [← clrK_step h]
  have h1 : clr1 t top col k row = row := by unfold clr1; rw [if_pos hc]
  refine List.ext_getElem? (fun j => ?_)
  rw [List.getElem?_set, clrK_len]
  have hk := (List.getElem?_eq_some_iff.1 h).1
  by_cases e : k = j
  · subst e
    rw [if_pos rfl, if_pos hk, h1, clrK_get, if_neg (by omega), h]
  · rw [if_neg e]
theorem clrK_now {t : List Nat} {top col : Nat} {m : Mt} {k : Nat} : (clrK t top col m k)[k]? = m[k]? := by rw [clrK_get, if_neg (by omega)]
theorem clrK_top {t : List Nat} {top col : Nat} {m : Mt} {k : Nat} (h : m[top]? = some t) : (clrK t top col m k)[top]? = some t := by
  rw [clrK_get]
  split
  · rw [h]
    show some (clr1 t top col top t) = some t
    unfold clr1
    rw [if_pos (.inl rfl)]
  · exact h
/-- All rows are of one length, of bytes. -/
def MtOk (n : Nat) (m : Mt) : Prop := ∀ r ∈ m, r.length = n ∧ Bys r
theorem MtOk.get {n : Nat} {m : Mt} (h : MtOk n m) {k : Nat} {r : List Nat} (hk : m[k]? = some r) : r.length = n ∧ Bys r := h r (List.mem_of_getElem? hk)
theorem MtOk.set {n : Nat} {m : Mt} (h : MtOk n m) {k : Nat} {r : List Nat} (hr : r.length = n ∧ Bys r) : MtOk n (m.set k r) := fun x hx => by
  rcases List.mem_or_eq_of_mem_set hx with h1 | h1
  · exact h x h1
  · subst h1; exact hr
theorem MtOk.clr1 {n : Nat} {t row : List Nat} (ht : t.length = n ∧ Bys t) (hr : row.length = n ∧ Bys row) (top col i : Nat) : (clr1 t top col i row).length = n ∧ Bys (clr1 t top col i row) := by
  unfold Go.Proofs.Ytpbeaghghlfiaaa.clr1
  split
  · exact hr
  · exact ⟨addv_len ((sclv_len _ _).trans ht.1) hr.1, addv_bys (sclv_bys (Bys.at' hr.2 col)) hr.2⟩
theorem MtOk.clrK {n : Nat} {m : Mt} (h : MtOk n m) {t : List Nat} (ht : t.length = n ∧ Bys t) (top col k : Nat) : MtOk n (clrK t top col m k) := fun x hx => by
  obtain ⟨j, hj⟩ := List.getElem?_of_mem hx
  rw [clrK_get] at hj
  split at hj
  · obtain ⟨r, hr, rfl⟩ := Option.map_eq_some_iff.1 hj
    exact MtOk.clr1 ht (h.get hr) top col j
  · exact h.get hj
theorem MtOk.piv {n : Nat} {m : Mt} (h : MtOk n m) {top : Nat} (ht : top < m.length) (col : Nat) : (pivP m top col).length = n ∧ Bys (pivP m top col) := by
  have h1 : m[top]? = some m[top] := List.getElem?_eq_getElem ht
  have h2 := h.get h1
  unfold pivP
  have h3 : m.getD top [] = m[top] := by rw [List.getD_eq_getElem?_getD, h1]; rfl
  rw [h3]
  exact ⟨(sclv_len _ _).trans h2.1, sclv_bys (invN_lt _ (Bys.at' h2.2 col))⟩
theorem MtOk.clear {n : Nat} {m : Mt} (h : MtOk n m) {top : Nat} (ht : top < m.length) (col : Nat) : MtOk n (clearP m top col) := by
  have h1 := (h.set (k := top) (h.piv ht col)).clrK (h.piv ht col) top col ((m.set top (pivP m top col)).length)
  rw [clrK_all] at h1
  exact h1
theorem clearP_len (m : Mt) (top col : Nat) : (clearP m top col).length = m.length := by unfold clearP; rw [clrP_len, List.length_set]
theorem swapP_len (m : Mt) (i j : Nat) : (swapP m i j).length = m.length := by unfold swapP; simp
theorem MtOk.swap {n : Nat} {m : Mt} (h : MtOk n m) {i j : Nat} (hi : i < m.length) (hj : j < m.length) : MtOk n (swapP m i j) := by
  have g : ∀ k, k < m.length → (m.getD k []).length = n ∧ Bys (m.getD k []) := fun k hk => by
    rw [List.getD_eq_getElem?_getD, List.getElem?_eq_getElem hk]
    exact h _ (List.getElem_mem hk)
  exact (h.set (g j hj)).set (g i hi)
theorem redP_none {k col : Nat} {m : Mt} {piv : List Nat} (h : findP m col (m.length - piv.length) piv.length = none) : redP (k + 1) col m piv = redP k (col + 1) m piv := by
  conv => lhs; unfold redP
  rw [h]
theorem redP_some {k col f : Nat} {m : Mt} {piv : List Nat} (h : findP m col (m.length - piv.length) piv.length = some f) : redP (k + 1) col m piv = redP k (col + 1) (clearP (swapP m piv.length f) piv.length col) (piv ++ [col]) := by
  conv => lhs; unfold redP
  rw [h]
theorem findP_step {m : Mt} {col k i : Nat} : findP m col (k + 1) i = if (m.getD i []).getD col 0 = 0 then findP m col k (i + 1) else some i := rfl
end Go.Proofs.Ytpbeaghghlfiaaa
