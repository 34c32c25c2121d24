/- Vectors and matrices over the field, plainly. -/
import Derived.Test.YtpbeaghghlfiaaaP0
namespace Go.Proofs.Ytpbeaghghlfiaaa
set_option linter.unusedVariables false
set_option linter.unusedSimpArgs false
/-- A row of bytes. -/
def Bys (l : List Nat) : Prop := ∀ x ∈ l, x < 256
def addv (u v : List Nat) : List Nat := List.zipWith (· ^^^ ·) u v
def sclv (a : Nat) (v : List Nat) : List Nat := v.map (mulN a)
/-- The sum of the products of coefficients and data. -/
def dotN : List Nat → List Nat → Nat
  | a :: r, b :: s => mulN a b ^^^ dotN r s
  | _, _ => 0
/-- The sum of blocks, each multiplied with its coefficient, added to acc. -/
def combL : List Nat → List Nat → List (List Nat) → List Nat
  | acc, a :: r, b :: bs => combL (if a = 0 then acc else addv (sclv a b) acc) r bs
  | acc, _, _ => acc
def comb (n : Nat) (r : List Nat) (bl : List (List Nat)) : List Nat := combL (List.replicate n 0) r bl
def unitv (n j : Nat) : List Nat := (List.replicate n 0).set j 1
theorem Bys.cons {a : Nat} {l : List Nat} (ha : a < 256) (h : Bys l) : Bys (a :: l) := fun x hx => by
  rcases List.mem_cons.1 hx with rfl | hx
  · exact ha
  · exact h x hx
theorem Bys.head {a : Nat} {l : List Nat} (h : Bys (a :: l)) : a < 256 := h a (List.mem_cons_self ..)
theorem Bys.tail {a : Nat} {l : List Nat} (h : Bys (a :: l)) : Bys l := fun x hx => h x (List.mem_cons_of_mem _ hx)
theorem Bys.zeros (n : Nat) : Bys (List.replicate n 0) := fun x hx => by
  rw [List.eq_of_mem_replicate hx]; omega
theorem addv_len {u v : List Nat} {n : Nat} (hu : u.length = n) (hv : v.length = n) : (addv u v).length = n := by
  unfold addv; rw [List.length_zipWith, hu, hv, Nat.min_self]
theorem sclv_len (a : Nat) (v : List Nat) : (sclv a v).length = v.length := List.length_map ..
theorem addv_bys : ∀ {u v : List Nat}, Bys u → Bys v → Bys (addv u v)
  | [], _, _, _ => fun x hx => by simp [addv] at hx
  | _ :: _, [], _, _ => fun x hx => by simp [addv] at hx
  | a :: u, b :: v, hu, hv => Bys.cons (Nat.xor_lt_two_pow (n := 8) hu.head hv.head) (addv_bys hu.tail hv.tail)
theorem sclv_bys {a : Nat} {v : List Nat} (ha : a < 256) : Bys (sclv a v) := fun x hx => by
  obtain ⟨y, _, rfl⟩ := List.mem_map.1 hx
  exact mulN_lt ha
theorem addv_getD {u v : List Nat} {n i : Nat} (hu : u.length = n) (hv : v.length = n) (hi : i < n) : (addv u v).getD i 0 = u.getD i 0 ^^^ v.getD i 0 := by
  unfold addv
  rw [List.getD_eq_getElem?_getD, List.getD_eq_getElem?_getD, List.getD_eq_getElem?_getD, List.getElem?_zipWith, List.getElem?_eq_getElem (by omega), List.getElem?_eq_getElem (by omega)]
  rfl
theorem sclv_getD (a : Nat) (v : List Nat) (i : Nat) : (sclv a v).getD i 0 = mulN a (v.getD i 0) := by
  unfold sclv
  rw [List.getD_eq_getElem?_getD, List.getD_eq_getElem?_getD, List.getElem?_map]
  cases v[i]? with
  | none => exact (mulN_zero_right a).symm
  | some x => rfl
theorem dotN_nil_right : ∀ r : List Nat, dotN r [] = 0
  | [] => rfl
  | _ :: _ => rfl
theorem dotN_lt : ∀ {r s : List Nat}, Bys r → dotN r s < 256
  | [], _, _ => by unfold dotN; omega
  | _ :: _, [], _ => by unfold dotN; omega
  | a :: r, b :: s, h => Nat.xor_lt_two_pow (n := 8) (mulN_lt h.head) (dotN_lt h.tail)
theorem combL_len (n : Nat) : ∀ {acc r : List Nat} {bl : List (List Nat)}, acc.length = n → (∀ b ∈ bl, b.length = n) → (combL acc r bl).length = n
  | acc, [], bl, h, _ => h
  | acc, _ :: _, [], h, _ => h
  | acc, a :: r, b :: bs, h, hb => by
    unfold combL
    refine combL_len n ?_ (fun x hx => hb x (List.mem_cons_of_mem _ hx))
    split
    · exact h
    · exact addv_len ((sclv_len a b).trans (hb b (List.mem_cons_self ..))) h
theorem combL_bys : ∀ {acc r : List Nat} {bl : List (List Nat)}, Bys acc → Bys r → Bys (combL acc r bl)
  | acc, [], bl, h, _ => h
  | acc, _ :: _, [], h, _ => h
  | acc, a :: r, b :: bs, h, hr => by
    unfold combL
    refine combL_bys ?_ hr.tail
    split
    · exact h
    · exact addv_bys (sclv_bys hr.head) h
theorem combL_getD (n i : Nat) (hi : i < n) : ∀ {acc r : List Nat} {bl : List (List Nat)}, acc.length = n → (∀ b ∈ bl, b.length = n) → (combL acc r bl).getD i 0 = acc.getD i 0 ^^^ dotN r (bl.map (fun b => b.getD i 0))
  | acc, [], bl, h, _ => by show acc.getD i 0 = _; unfold dotN; rw [Nat.xor_zero]
  | acc, a :: r, [], h, _ => by show acc.getD i 0 = _; rw [List.map_nil, dotN_nil_right, Nat.xor_zero]
  | acc, a :: r, b :: bs, h, hb => by
    have h1 := (sclv_len a b).trans (hb b (List.mem_cons_self ..))
    unfold combL
    rw [combL_getD n i hi (by split; exact h; exact addv_len h1 h) (fun x hx => hb x (List.mem_cons_of_mem _ hx)), List.map_cons]
    show _ = _ ^^^ (mulN a (b.getD i 0) ^^^ _)
    rw [← Nat.xor_assoc]
    congr 1
    split
    · next h0 => rw [h0, mulN_zero_left, Nat.xor_zero]
    · rw [addv_getD h1 h hi, sclv_getD, Nat.xor_comm]
theorem zeros_getD (n i : Nat) : (List.replicate n 0).getD i 0 = 0 := by
  rw [List.getD_eq_getElem?_getD, List.getElem?_replicate]
  split <;> rfl
theorem comb_getD {n i : Nat} (hi : i < n) (r : List Nat) {bl : List (List Nat)} (hb : ∀ b ∈ bl, b.length = n) : (comb n r bl).getD i 0 = dotN r (bl.map (fun b => b.getD i 0)) := by
  unfold comb
  rw [combL_getD n i hi (List.length_replicate ..) hb, zeros_getD, Nat.zero_xor]
theorem comb_len {n : Nat} (r : List Nat) {bl : List (List Nat)} (hb : ∀ b ∈ bl, b.length = n) : (comb n r bl).length = n := combL_len n (List.length_replicate ..) hb
theorem comb_bys {n : Nat} {r : List Nat} {bl : List (List Nat)} (hr : Bys r) : Bys (comb n r bl) := combL_bys (Bys.zeros n) hr
theorem dotN_addv : ∀ {u v : List Nat} (x : List Nat), u.length = v.length → Bys u → Bys v → dotN (addv u v) x = dotN u x ^^^ dotN v x
  | [], [], x, _, _, _ => by simp [addv, dotN]
  | [], _ :: _, _, h, _, _ => by simp at h
  | _ :: _, [], _, h, _, _ => by simp at h
  | a :: u, b :: v, [], _, _, _ => by rw [dotN_nil_right, dotN_nil_right, dotN_nil_right]; rfl
  | a :: u, b :: v, y :: x, h, hu, hv => by
    show mulN (a ^^^ b) y ^^^ dotN (addv u v) x = (mulN a y ^^^ dotN u x) ^^^ (mulN b y ^^^ dotN v x)
    rw [mulN_add_left y hu.head hv.head, dotN_addv x (by simpa using h) hu.tail hv.tail, xor_four]
theorem dotN_sclv {a : Nat} (ha : a < 256) : ∀ {v : List Nat} (x : List Nat), Bys v → dotN (sclv a v) x = mulN a (dotN v x)
  | [], x, _ => by show 0 = mulN a (dotN [] x); unfold dotN; rw [mulN_zero_right]
  | b :: v, [], _ => by rw [dotN_nil_right, dotN_nil_right, mulN_zero_right]
  | b :: v, y :: x, h => by
    show mulN (mulN a b) y ^^^ dotN (sclv a v) x = mulN a (mulN b y ^^^ dotN v x)
    rw [mulN_assoc y ha h.head, dotN_sclv ha x h.tail, mulN_add_right]
theorem dotN_zeros (n : Nat) : ∀ x : List Nat, dotN (List.replicate n 0) x = 0 := by
  induction n with
  | zero => intro x; rfl
  | succ n ih =>
    intro x
    cases x with
    | nil => exact dotN_nil_right _
    | cons y x => show mulN 0 y ^^^ dotN (List.replicate n 0) x = 0; rw [mulN_zero_left, ih]; rfl
theorem combL_dot (n : Nat) (x : List Nat) : ∀ {acc r : List Nat} {M : List (List Nat)}, acc.length = n → (∀ b ∈ M, b.length = n ∧ Bys b) → Bys acc → Bys r → dotN (combL acc r M) x = dotN acc x ^^^ dotN r (M.map (fun b => dotN b x))
  | acc, [], M, h, _, _, _ => by show dotN acc x = _ ^^^ dotN [] _; unfold dotN; rw [Nat.xor_zero]
  | acc, a :: r, [], h, _, _, _ => by show dotN acc x = _; rw [List.map_nil, dotN_nil_right, Nat.xor_zero]
  | acc, a :: r, b :: bs, h, hb, h2, h3 => by
    have h1 := (sclv_len a b).trans (hb b (List.mem_cons_self ..)).1
    unfold combL
    rw [combL_dot n x (by split; exact h; exact addv_len h1 h) (fun y hy => hb y (List.mem_cons_of_mem _ hy)) (by split; exact h2; exact addv_bys (sclv_bys h3.head) h2) h3.tail, List.map_cons]
    show _ = _ ^^^ (mulN a (dotN b x) ^^^ _)
    rw [← Nat.xor_assoc]
    congr 1
    split
    · next h0 => rw [h0, mulN_zero_left, Nat.xor_zero]
    · rw [dotN_addv x (h1.trans h.symm) (sclv_bys h3.head) h2, dotN_sclv h3.head x (hb b (List.mem_cons_self ..)).2, Nat.xor_comm]
/-- A row times a matrix, times a column. -/
theorem comb_dot {n : Nat} (x : List Nat) {r : List Nat} {M : List (List Nat)} (hM : ∀ b ∈ M, b.length = n ∧ Bys b) (hr : Bys r) : dotN (comb n r M) x = dotN r (M.map (fun b => dotN b x)) := by
  unfold comb
  rw [combL_dot n x (List.length_replicate ..) hM (Bys.zeros n) hr, dotN_zeros, Nat.zero_xor]
theorem unitv_succ (n j : Nat) : unitv (n + 1) (j + 1) = 0 :: unitv n j := by unfold unitv; rw [List.replicate_succ]; rfl
theorem dotN_unitv : ∀ (n j : Nat) {x : List Nat}, Bys x → j < n → dotN (unitv n j) x = x.getD j 0
  | 0, j, x, _, h => by omega
  | n + 1, 0, [], _, _ => dotN_nil_right _
  | n + 1, 0, y :: x, h, _ => by
    show dotN (1 :: List.replicate n 0) (y :: x) = y
    show mulN 1 y ^^^ dotN (List.replicate n 0) x = y
    rw [mulN_one_left y h.head, dotN_zeros, Nat.xor_zero]
  | n + 1, j + 1, [], _, _ => dotN_nil_right _
  | n + 1, j + 1, y :: x, h, hj => by
    rw [unitv_succ]
    show mulN 0 y ^^^ dotN (unitv n j) x = x.getD j 0
    rw [mulN_zero_left, Nat.zero_xor, dotN_unitv n j h.tail (by omega)]
end Go.Proofs.Ytpbeaghghlfiaaa
