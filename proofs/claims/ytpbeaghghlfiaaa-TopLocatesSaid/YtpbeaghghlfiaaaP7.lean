/- Lists that are filled; what the callers need of the search, plainly. -/
import Derived.Test.YtpbeaghghlfiaaaP6
namespace Go.Proofs.Ytpbeaghghlfiaaa
set_option linter.unusedVariables false
set_option linter.unusedSimpArgs false
/-- A list of n that is filled up to i. -/
def fill {α β : Type} (f : α → β) (z : β) (l : List α) (i : Nat) : List β := (l.take i).map f ++ List.replicate (l.length - i) z
theorem fill_zero {α β : Type} (f : α → β) (z : β) (l : List α) : fill f z l 0 = List.replicate l.length z := by simp [fill]
theorem fill_all {α β : Type} (f : α → β) (z : β) (l : List α) : fill f z l l.length = l.map f := by simp [fill]
theorem fill_len {α β : Type} (f : α → β) (z : β) (l : List α) {i : Nat} (h : i ≤ l.length) : (fill f z l i).length = l.length := by simp [fill]; omega
theorem fill_step {α β : Type} (f : α → β) (z : β) {l : List α} {i : Nat} {x : α} (h : l[i]? = some x) : (fill f z l i).set i (f x) = fill f z l (i + 1) := by
  obtain ⟨hi, rfl⟩ := List.getElem?_eq_some_iff.1 h
  unfold fill
  have h1 : ((l.take i).map f).length = i := by simp; omega
  have h2 : l.length - i = (l.length - (i + 1)) + 1 := by omega
  rw [List.set_append_right _ _ (by omega), h1, Nat.sub_self, h2, List.replicate_succ, List.set_cons_zero, List.take_add_one, h, List.map_append, List.append_assoc]
  rfl
theorem fill_get {α β : Type} (f : α → β) (z : β) {l : List α} {i : Nat} (h : i < l.length) : (fill f z l i)[i]? = some z := by
  unfold fill
  have h1 : ((l.take i).map f).length = i := by simp; omega
  rw [List.getElem?_append_right (by omega), h1, Nat.sub_self, List.getElem?_replicate, if_pos (by omega)]
/-- Do the first k foretold pieces agree? -/
def okN (n d : Nat) (pieces F : Mt) (k : Nat) : Prop := ∀ i, i < k → pieces.getD (d + i) [] = predP n pieces (F.getD i [])
theorem okN_all (n d : Nat) (pieces F : Mt) : okN n d pieces F F.length ↔ okP n d pieces F := Iff.rfl
theorem okN_zero (n d : Nat) (pieces F : Mt) : okN n d pieces F 0 := fun i h => absurd h (by omega)
theorem okN_succ {n d : Nat} {pieces F : Mt} {k : Nat} : okN n d pieces F (k + 1) ↔ okN n d pieces F k ∧ pieces.getD (d + k) [] = predP n pieces (F.getD k []) := by
  constructor
  · exact fun h => ⟨fun i hi => h i (by omega), h k (by omega)⟩
  · intro ⟨h1, h2⟩ i hi
    by_cases e : i = k
    · subst e; exact h2
    · exact h1 i (by omega)
/-- The number of bits. -/
def ones (s : Nat) : Nat := ((List.range 8).filter (fun i => s.testBit i)).length
theorem otherL_ones : ∀ m < 9, ∀ s < 256, s < 2 ^ m → (otherL m s).length = ones s := by decide +kernel
theorem rightL_take {m s k : Nat} (hk : k < m) : rightL (k + 1) s = if s.testBit k then rightL k s else rightL k s ++ [k] := by
  unfold rightL
  rw [List.range_succ, List.filter_append]
  cases h : s.testBit k <;> simp [h]
theorem otherL_take {m s k : Nat} (hk : k < m) : otherL (k + 1) s = if s.testBit k then otherL k s ++ [k] else otherL k s := by
  unfold otherL
  rw [List.range_succ, List.filter_append]
  cases h : s.testBit k <;> simp [h]
theorem rightL_lt {m s i : Nat} (h : i ∈ rightL m s) : i < m := List.mem_range.1 (List.mem_filter.1 h).1
theorem otherL_lt {m s i : Nat} (h : i ∈ otherL m s) : i < m := List.mem_range.1 (List.mem_filter.1 h).1
theorem rightL_len (m s : Nat) : (rightL m s).length ≤ m := by
  unfold rightL
  exact Nat.le_trans (List.length_filter_le _ _) (by simp)
theorem otherL_len (m s : Nat) : (otherL m s).length ≤ m := by
  unfold otherL
  exact Nat.le_trans (List.length_filter_le _ _) (by simp)
/-- The dot product, from the left. -/
def dotL : Nat → List Nat → List Nat → Nat
  | acc, a :: r, b :: s => dotL (acc ^^^ mulN a b) r s
  | acc, _, _ => acc
theorem dotL_eq : ∀ (acc : Nat) (r s : List Nat), dotL acc r s = acc ^^^ dotN r s
  | acc, [], s => by unfold dotL dotN; simp
  | acc, a :: r, [] => by unfold dotL dotN; simp
  | acc, a :: r, b :: s => by
    show dotL (acc ^^^ mulN a b) r s = acc ^^^ (mulN a b ^^^ dotN r s)
    rw [dotL_eq, Nat.xor_assoc]
/-- .. to a place. -/
def dotK (acc : Nat) (r s : List Nat) (k : Nat) : Nat := dotL acc (r.take k) (s.take k)
theorem dotL_snoc : ∀ {acc : Nat} {r s : List Nat} {a b : Nat}, r.length = s.length → dotL acc (r ++ [a]) (s ++ [b]) = dotL acc r s ^^^ mulN a b
  | acc, [], [], a, b, _ => rfl
  | acc, [], _ :: _, a, b, h => by simp at h
  | acc, _ :: _, [], a, b, h => by simp at h
  | acc, x :: r, y :: s, a, b, h => by
    show dotL (acc ^^^ mulN x y) (r ++ [a]) (s ++ [b]) = _
    exact dotL_snoc (by simpa using h)
/-- Rows that are added up to column k. -/
def combK (n : Nat) (r : List Nat) (bl : Mt) (k : Nat) : List Nat := comb n (r.take k) (bl.take k)
theorem combL_snoc : ∀ {acc r : List Nat} {bl : Mt} {a : Nat} {b : List Nat}, r.length = bl.length → combL acc (r ++ [a]) (bl ++ [b]) = (if a = 0 then combL acc r bl else addv (sclv a b) (combL acc r bl))
  | acc, [], [], a, b, _ => rfl
  | acc, [], _ :: _, a, b, h => by simp at h
  | acc, _ :: _, [], a, b, h => by simp at h
  | acc, x :: r, y :: bs, a, b, h => by
    show combL _ (r ++ [a]) (bs ++ [b]) = _
    exact combL_snoc (by simpa using h)
theorem combK_step {n : Nat} {r : List Nat} {bl : Mt} {k a : Nat} {b : List Nat} (hr : r[k]? = some a) (hb : bl[k]? = some b) : combK n r bl (k + 1) = if a = 0 then combK n r bl k else addv (sclv a b) (combK n r bl k) := by
  obtain ⟨h1, rfl⟩ := List.getElem?_eq_some_iff.1 hr
  obtain ⟨h2, rfl⟩ := List.getElem?_eq_some_iff.1 hb
  unfold combK comb
  rw [List.take_succ_eq_append_getElem h1, List.take_succ_eq_append_getElem h2]
  exact combL_snoc (by simp; omega)
theorem combK_all {n : Nat} {r : List Nat} {bl : Mt} (h : r.length = bl.length) : combK n r bl r.length = comb n r bl := by
  unfold combK
  rw [List.take_of_length_le (Nat.le_refl _), List.take_of_length_le (by omega)]
theorem combK_zero (n : Nat) (r : List Nat) (bl : Mt) : combK n r bl 0 = List.replicate n 0 := by
  unfold combK comb
  rw [List.take_zero]
  rfl
end Go.Proofs.Ytpbeaghghlfiaaa
