/- Arithmetic of the field of 256 elements, plainly. -/
namespace Go.Proofs.Ytpbeaghghlfiaaa
set_option linter.unusedVariables false
set_option linter.unusedSimpArgs false
/-- 2 times a. -/
def dblN (a : Nat) : Nat := if 128 ≤ a then (2 * a - 256) ^^^ 29 else 2 * a
/-- n rounds of the multiplication. -/
def mulL : Nat → Nat → Nat → Nat → Nat
  | 0, p, _, _ => p
  | n + 1, p, a, b => mulL n (if b % 2 = 1 then p ^^^ a else p) (dblN a) (b / 2)
/-- The product. -/
def mulN (a b : Nat) : Nat := mulL 8 0 a b
theorem dblN_lt {a : Nat} (h : a < 256) : dblN a < 256 := by
  unfold dblN
  split
  · exact Nat.xor_lt_two_pow (n := 8) (by omega) (by omega)
  · omega
theorem mulL_lt (n : Nat) : ∀ {p a b : Nat}, p < 256 → a < 256 → mulL n p a b < 256 := by
  induction n with
  | zero => intro p a b hp _; exact hp
  | succ n ih =>
    intro p a b hp ha
    refine ih ?_ (dblN_lt ha)
    split
    · exact Nat.xor_lt_two_pow (n := 8) hp ha
    · exact hp
theorem mulN_lt {a b : Nat} (ha : a < 256) : mulN a b < 256 := mulL_lt 8 (by omega) ha
theorem mulL_acc (n : Nat) : ∀ (p a b : Nat), mulL n p a b = p ^^^ mulL n 0 a b := by
  induction n with
  | zero => intro p a b; simp [mulL]
  | succ n ih =>
    intro p a b
    unfold mulL
    rw [ih (if b % 2 = 1 then p ^^^ a else p), ih (if b % 2 = 1 then 0 ^^^ a else 0)]
    split
    · rw [Nat.zero_xor, Nat.xor_assoc]
    · rw [Nat.zero_xor]
theorem mulL_succ (n a b : Nat) : mulL (n + 1) 0 a b = (if b % 2 = 1 then a else 0) ^^^ mulL n 0 (dblN a) (b / 2) := by
  conv => lhs; unfold mulL
  rw [mulL_acc]
  split
  · rw [Nat.zero_xor]
  · rfl
theorem dblN_add : ∀ a < 256, ∀ b < 256, dblN (a ^^^ b) = dblN a ^^^ dblN b := by decide +kernel
theorem dblN_zero : dblN 0 = 0 := rfl
theorem mulL_zero_left (n : Nat) : ∀ b, mulL n 0 0 b = 0 := by
  induction n with
  | zero => intro b; rfl
  | succ n ih => intro b; rw [mulL_succ, dblN_zero, ih]; split <;> rfl
theorem mulL_zero_right (n : Nat) : ∀ a, mulL n 0 a 0 = 0 := by
  induction n with
  | zero => intro a; rfl
  | succ n ih => intro a; rw [mulL_succ, Nat.zero_div, ih, if_neg (by omega)]; rfl
theorem mulN_zero_left (b : Nat) : mulN 0 b = 0 := mulL_zero_left 8 b
theorem mulN_zero_right (a : Nat) : mulN a 0 = 0 := mulL_zero_right 8 a
theorem xor_four (a b c d : Nat) : (a ^^^ b) ^^^ (c ^^^ d) = (a ^^^ c) ^^^ (b ^^^ d) := by
  rw [Nat.xor_assoc, Nat.xor_assoc, ← Nat.xor_assoc b c d, Nat.xor_comm b c, Nat.xor_assoc c b d]
theorem mulL_add_right (n : Nat) : ∀ (a b c : Nat), mulL n 0 a (b ^^^ c) = mulL n 0 a b ^^^ mulL n 0 a c := by
  induction n with
  | zero => intro a b c; simp [mulL]
  | succ n ih =>
    intro a b c
    have h1 : (b ^^^ c) / 2 = (b / 2) ^^^ (c / 2) := by
      have := Nat.shiftRight_xor_distrib (i := 1) (a := b) (b := c)
      simpa [Nat.shiftRight_eq_div_pow] using this
    have h2 : decide ((b ^^^ c) % 2 = 1) = (decide (b % 2 = 1) ^^ decide (c % 2 = 1)) := by
      have := Nat.testBit_xor b c 0
      simpa only [Nat.testBit_zero] using this
    rw [mulL_succ, mulL_succ, mulL_succ, h1, ih, xor_four]
    congr 1
    by_cases hb : b % 2 = 1 <;> by_cases hc : c % 2 = 1 <;> simp only [hb, hc, decide_true, decide_false, Bool.xor_false, Bool.xor_true, Bool.not_true, Bool.not_false, decide_eq_true_eq, decide_eq_false_iff_not] at h2 <;> simp [hb, hc, h2]
theorem mulN_add_right (a b c : Nat) : mulN a (b ^^^ c) = mulN a b ^^^ mulN a c := mulL_add_right 8 a b c
theorem mulL_add_left (n : Nat) : ∀ {a b : Nat} (c : Nat), a < 256 → b < 256 → mulL n 0 (a ^^^ b) c = mulL n 0 a c ^^^ mulL n 0 b c := by
  induction n with
  | zero => intro a b c _ _; simp [mulL]
  | succ n ih =>
    intro a b c ha hb
    rw [mulL_succ, mulL_succ, mulL_succ, dblN_add a ha b hb, ih _ (dblN_lt ha) (dblN_lt hb), xor_four]
    congr 1
    split <;> simp
theorem mulN_add_left {a b : Nat} (c : Nat) (ha : a < 256) (hb : b < 256) : mulN (a ^^^ b) c = mulN a c ^^^ mulN b c := mulL_add_left 8 c ha hb
theorem mulL_dbl_left (n : Nat) : ∀ {a : Nat} (b : Nat), a < 256 → mulL n 0 (dblN a) b = dblN (mulL n 0 a b) := by
  induction n with
  | zero => intro a b _; rfl
  | succ n ih =>
    intro a b ha
    have h1 : mulL n 0 (dblN a) (b / 2) < 256 := mulL_lt n (by omega) (dblN_lt ha)
    have h2 : (if b % 2 = 1 then a else 0) < 256 := by split <;> omega
    rw [mulL_succ, mulL_succ, ih _ (dblN_lt ha), dblN_add _ h2 _ h1]
    congr 1
    split <;> rfl
theorem mulN_128 : ∀ a < 256, mulN a 29 = dblN (mulN a 128) := by decide +kernel
theorem mulL_top (n : Nat) : ∀ a b, b < 2 ^ n → mulL (n + 1) 0 a b = mulL n 0 a b := by
  induction n with
  | zero =>
    intro a b hb
    have h0 : b = 0 := by have : (2 : Nat) ^ 0 = 1 := rfl; omega
    subst h0
    exact mulL_zero_right 1 a
  | succ n ih =>
    intro a b hb
    have h2 : (2 : Nat) ^ (n + 1) = 2 * 2 ^ n := by rw [Nat.pow_succ, Nat.mul_comm]
    have h1 := ih (dblN a) (b / 2) (by omega)
    rw [mulL_succ (n + 1) a b, h1]
    exact (mulL_succ n a b).symm
theorem mulN_small (a : Nat) (ha : a < 256) (b : Nat) (hb : b < 128) : mulN a (2 * b) = dblN (mulN a b) := by
  unfold mulN
  rw [mulL_top 7 a b hb, mulL_succ 7, ← mulL_dbl_left 7 b ha, if_neg (by omega), Nat.zero_xor, Nat.mul_div_cancel_left b (by omega)]
theorem xor_128 : ∀ b < 256, 128 ≤ b → b = 128 ^^^ (b - 128) := by decide +kernel
theorem mulN_dbl_right {a b : Nat} (ha : a < 256) (hb : b < 256) : mulN a (dblN b) = dblN (mulN a b) := by
  by_cases h : 128 ≤ b
  · have h1 : b = 128 ^^^ (b - 128) := xor_128 b hb h
    have h2 : dblN b = (2 * (b - 128)) ^^^ 29 := by
      unfold dblN
      rw [if_pos h, show 2 * b - 256 = 2 * (b - 128) by omega]
    rw [h2, mulN_add_right, mulN_small a ha (b - 128) (by omega), mulN_128 a ha, ← dblN_add _ (mulN_lt ha) _ (mulN_lt ha), ← mulN_add_right, Nat.xor_comm (b - 128), ← h1]
  · have h2 : dblN b = 2 * b := by unfold dblN; rw [if_neg h]
    rw [h2, mulN_small a ha b (by omega)]
theorem mulL_assoc (n : Nat) : ∀ {a b : Nat} (c : Nat), a < 256 → b < 256 → mulL n 0 (mulN a b) c = mulN a (mulL n 0 b c) := by
  induction n with
  | zero => intro a b c _ _; exact (mulN_zero_right a).symm
  | succ n ih =>
    intro a b c ha hb
    rw [mulL_succ, mulL_succ, mulN_add_right, ← mulN_dbl_right ha hb, ih _ ha (dblN_lt hb)]
    congr 1
    split
    · rfl
    · exact (mulN_zero_right a).symm
theorem mulN_assoc {a b : Nat} (c : Nat) (ha : a < 256) (hb : b < 256) : mulN (mulN a b) c = mulN a (mulN b c) := mulL_assoc 8 c ha hb
theorem mulN_one_left : ∀ b < 256, mulN 1 b = b := by decide +kernel
/-- The inverse, as the program computes it. -/
def invL : Nat → Nat → Nat → Nat
  | 0, i, _ => i
  | n + 1, i, a => invL n (mulN i (mulN a a)) (mulN a a)
def invN (a : Nat) : Nat := invL 7 1 a
end Go.Proofs.Ytpbeaghghlfiaaa
