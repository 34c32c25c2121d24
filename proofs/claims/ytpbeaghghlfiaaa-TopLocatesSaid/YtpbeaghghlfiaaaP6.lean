/- The code's table, as it is filled; more plain facts. -/
import Derived.Test.YtpbeaghghlfiaaaP5
namespace Go.Proofs.Ytpbeaghghlfiaaa
set_option linter.unusedVariables false
set_option linter.unusedSimpArgs false
/-- A coefficient. -/
def tq (d i c : Nat) : Nat := if i < d then (if i = c then 1 else 0) else invN (i ^^^ c)
/-- The table when row i is done to column c. -/
def tabV (d i c q : Nat) : Nat := if q % 8 < d ∧ (q / 8 < i ∨ (q / 8 = i ∧ q % 8 < c)) then tq d (q / 8) (q % 8) else 0
def tabN (d i c : Nat) : List Nat := (List.range 128).map (tabV d i c)
theorem tabN_get (d i c q : Nat) (hq : q < 128) : (tabN d i c)[q]? = some (tabV d i c q) := by
  unfold tabN
  rw [List.getElem?_map, List.getElem?_range hq]
  rfl
theorem tabN_len (d i c : Nat) : (tabN d i c).length = 128 := by simp [tabN]
theorem tabN_step {d i c : Nat} (hi : i < 16) (hd : d ≤ 8) (hc : c < d) : (tabN d i c).set (i * 8 + c) (tq d i c) = tabN d i (c + 1) := by
  refine List.ext_getElem? (fun q => ?_)
  rw [List.getElem?_set]
  by_cases hq : q < 128
  · rw [tabN_get _ _ _ _ hq, tabN_get _ _ _ _ hq, tabN_len]
    by_cases e : i * 8 + c = q
    · have h1 : q / 8 = i := by omega
      have h2 : q % 8 = c := by omega
      rw [if_pos e, if_pos (by omega)]
      unfold tabV
      rw [h1, h2, if_pos ⟨hc, .inr ⟨rfl, by omega⟩⟩]
    · rw [if_neg e]
      unfold tabV
      congr 1
      by_cases h : q % 8 < d ∧ (q / 8 < i ∨ (q / 8 = i ∧ q % 8 < c))
      · rw [if_pos h, if_pos (by omega)]
      · rw [if_neg h, if_neg (by omega)]
  · have h1 : ∀ e, (tabN d i e)[q]? = none := fun e => List.getElem?_eq_none (by rw [tabN_len]; omega)
    rw [if_neg (by omega), h1, h1]
theorem tabN_skip {d i c : Nat} (h : tq d i c = 0) : tabN d i c = tabN d i (c + 1) := by
  unfold tabN
  refine List.map_congr_left fun q _ => ?_
  unfold tabV
  by_cases h1 : q % 8 < d ∧ (q / 8 < i ∨ (q / 8 = i ∧ q % 8 < c))
  · rw [if_pos h1, if_pos (by omega)]
  · rw [if_neg h1]
    by_cases h2 : q % 8 < d ∧ (q / 8 < i ∨ (q / 8 = i ∧ q % 8 < c + 1))
    · have e1 : q / 8 = i := by omega
      have e2 : q % 8 = c := by omega
      rw [if_pos h2, e1, e2, h]
    · rw [if_neg h2]
theorem tabN_next {d i : Nat} (hd : d ≤ 8) : tabN d i d = tabN d (i + 1) 0 := by
  unfold tabN
  refine List.map_congr_left fun q _ => ?_
  unfold tabV
  by_cases h1 : q % 8 < d ∧ (q / 8 < i ∨ (q / 8 = i ∧ q % 8 < d))
  · rw [if_pos h1, if_pos (by omega)]
  · rw [if_neg h1, if_neg (by omega)]
theorem tabN_start (d : Nat) : tabN d 0 0 = List.replicate 128 0 := by
  unfold tabN
  rw [List.eq_replicate_iff]
  refine ⟨by simp, fun x hx => ?_⟩
  obtain ⟨q, _, rfl⟩ := List.mem_map.1 hx
  unfold tabV
  rw [if_neg (by omega)]
theorem rowP_get {d i c : Nat} (hc : c < d) : (rowP d i)[c]? = some (tq d i c) := by
  unfold rowP tq
  by_cases h : i < d
  · rw [if_pos h, if_pos h]
    unfold unitv
    rw [List.getElem?_set, List.length_replicate]
    by_cases e : i = c
    · rw [if_pos e, if_pos h, if_pos e]
    · rw [if_neg e, if_neg e, List.getElem?_replicate, if_pos hc]
  · rw [if_neg h, if_neg h, List.getElem?_map, List.getElem?_range hc]
    rfl
theorem rowP_length (d i : Nat) : (rowP d i).length = d := by
  unfold rowP unitv
  split <;> simp
/-- The full table at a row. -/
theorem tabN_row {d i c : Nat} (hi : i < 16) (hd : d ≤ 8) (hc : c < d) : (tabN d 16 0)[i * 8 + c]? = (rowP d i)[c]? := by
  rw [tabN_get _ _ _ _ (by omega), rowP_get hc]
  unfold tabV
  have h1 : (i * 8 + c) / 8 = i := by omega
  have h2 : (i * 8 + c) % 8 = c := by omega
  rw [h1, h2, if_pos ⟨hc, .inl hi⟩]
theorem invN_lt : ∀ a < 256, invN a < 256 := by decide +kernel
theorem xor_ne : ∀ i < 16, ∀ c < 8, c < i → (i ^^^ c) ≠ 0 ∧ (i ^^^ c) < 256 := by decide +kernel
theorem findP_lt {rows : Mt} {col : Nat} : ∀ {k i f : Nat}, findP rows col k i = some f → i ≤ f ∧ f < i + k
  | 0, _, _, h => by cases h
  | k + 1, i, f, h => by
    unfold findP at h
    split at h
    · have := findP_lt h; omega
    · injection h with h; omega
end Go.Proofs.Ytpbeaghghlfiaaa
