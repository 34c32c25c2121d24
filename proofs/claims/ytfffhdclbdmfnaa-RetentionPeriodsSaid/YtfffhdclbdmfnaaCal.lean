/- The calendar, plainly: no program in sight. -/
namespace Go.Proofs.Ytfffhdclbdmfnaa
namespace Cal
set_option linter.unusedVariables false
set_option linter.unusedSimpArgs false

def leapB (y : Int) : Bool := decide (y % 4 = 0) && (decide (y % 100 ≠ 0) || decide (y % 400 = 0))
def ylen (y : Int) : Int := if leapB y = true then 366 else 365
def mdays (y m : Int) : Int :=
  if m = 2 then (if leapB y = true then 29 else 28) else if m = 4 ∨ m = 6 ∨ m = 9 ∨ m = 11 then 30 else if 1 ≤ m ∧ m ≤ 12 then 31 else 0
theorem leapB_iff (y : Int) : leapB y = true ↔ y % 4 = 0 ∧ (y % 100 ≠ 0 ∨ y % 400 = 0) := by
  unfold leapB
  simp
/-- The days of the first n years from 2000 on. -/
def bef (n : Int) : Int := 365 * n + (n + 3) / 4 - (n + 99) / 100 + (n + 399) / 400
theorem bef_zero : bef 0 = 0 := by decide
theorem bef_succ (n : Int) (h : 0 ≤ n) : bef (n + 1) = bef n + ylen (2000 + n) := by
  unfold ylen
  by_cases hl : leapB (2000 + n) = true
  · rw [if_pos hl]
    rw [leapB_iff] at hl
    unfold bef
    omega
  · rw [if_neg hl]
    rw [leapB_iff] at hl
    unfold bef
    omega
theorem ylen_bd (y : Int) : 365 ≤ ylen y ∧ ylen y ≤ 366 := by unfold ylen; split <;> omega
theorem bef_bd (n : Int) (h : 0 ≤ n) : 365 * n ≤ bef n ∧ bef n ≤ 366 * n := by unfold bef; omega
theorem bef_mono (a b : Int) (h0 : 0 ≤ a) (h : a ≤ b) : bef a ≤ bef b := by unfold bef; omega
theorem bef_lt (a b : Int) (h0 : 0 ≤ a) (h : a < b) : bef a < bef b := by unfold bef; omega
theorem bef_guess (d : Int) (h0 : 0 ≤ d) : 0 ≤ d * 400 / 146097 := by omega
/-- The days of the first months of a year. -/
def cum (y : Int) : Nat → Int
  | 0 => 0
  | k + 1 => cum y k + mdays y ((k : Int) + 1)
theorem mdays_in (y m : Int) (h1 : 1 ≤ m) (h2 : m ≤ 12) : 28 ≤ mdays y m ∧ mdays y m ≤ 31 := by
  unfold mdays
  split
  · split <;> omega
  · split
    · omega
    · split <;> omega
theorem mdays_nonneg (y m : Int) : 0 ≤ mdays y m ∧ mdays y m ≤ 31 := by
  unfold mdays
  split
  · split <;> omega
  · split
    · omega
    · split <;> omega
theorem cum_12 (y : Int) : cum y 12 = ylen y := by
  unfold ylen
  cases h : leapB y <;> simp [cum, mdays, h]
theorem cum_mono (y : Int) {a b : Nat} (h : a ≤ b) : cum y a ≤ cum y b := by
  induction b with
  | zero => obtain rfl : a = 0 := by omega
            exact Int.le_refl _
  | succ b ih =>
    rcases Nat.lt_or_ge a (b + 1) with h' | h'
    · have := ih (by omega)
      have := mdays_nonneg y ((b : Int) + 1)
      rw [cum]
      omega
    · obtain rfl : a = b + 1 := by omega
      exact Int.le_refl _
theorem cum_nonneg (y : Int) (a : Nat) : 0 ≤ cum y a := cum_mono y (Nat.zero_le a)

/-- The date of a day: the years since 2000, the months since January. -/
structure IsDate (day : Int) (y m : Nat) : Prop where
  y1 : bef y ≤ day
  y2 : day < bef ((y : Int) + 1)
  m0 : m < 12
  m1 : bef y + cum (2000 + y) m ≤ day
  m2 : day < bef y + cum (2000 + y) (m + 1)
theorem year_unique {day : Int} {y y' : Nat} (h1 : bef y ≤ day) (h2 : day < bef ((y : Int) + 1)) (h1' : bef y' ≤ day) (h2' : day < bef ((y' : Int) + 1)) : y = y' := by
  rcases Nat.lt_trichotomy y y' with h | h | h
  · have := bef_mono ((y : Int) + 1) y' (by omega) (by omega); omega
  · exact h
  · have := bef_mono ((y' : Int) + 1) y (by omega) (by omega); omega
theorem IsDate.unique {day : Int} {y m y' m' : Nat} (h : IsDate day y m) (h' : IsDate day y' m') : y = y' ∧ m = m' := by
  obtain rfl := year_unique h.y1 h.y2 h'.y1 h'.y2
  refine ⟨rfl, ?_⟩
  rcases Nat.lt_trichotomy m m' with hm | hm | hm
  · have := cum_mono (2000 + (y : Int)) (show m + 1 ≤ m' by omega)
    have := h.m2
    have := h'.m1
    omega
  · exact hm
  · have := cum_mono (2000 + (y : Int)) (show m' + 1 ≤ m by omega)
    have := h'.m2
    have := h.m1
    omega
def findY (day : Int) : Nat → Nat → Nat
  | 0, y => y
  | k + 1, y => if day < bef ((y : Int) + 1) then y else findY day k (y + 1)
def findM (y : Int) (r : Int) : Nat → Nat → Nat
  | 0, m => m
  | k + 1, m => if r < cum y (m + 1) then m else findM y r k (m + 1)
def yOf (day : Int) : Nat := findY day 2800 0
def mOf (day : Int) : Nat := findM (2000 + yOf day) (day - bef (yOf day)) 11 0
theorem findY_spec (day : Int) : ∀ (k y : Nat), bef y ≤ day → day < bef ((y : Int) + k) → bef (findY day k y) ≤ day ∧ day < bef ((findY day k y : Nat) + 1)
  | 0, y, h1, h2 => by simp at h2; omega
  | k + 1, y, h1, h2 => by
    rw [findY]
    split
    · rename_i h
      exact ⟨h1, h⟩
    · rename_i h
      refine findY_spec day k (y + 1) (by have e : ((y + 1 : Nat) : Int) = (y : Int) + 1 := by omega
                                          rw [e]; omega) ?_
      have e : (((y + 1 : Nat) : Int) + (k : Int)) = (y : Int) + ((k + 1 : Nat) : Int) := by omega
      rw [e]
      exact h2
theorem findM_spec (y r : Int) : ∀ (k m : Nat), m + k = 11 → cum y m ≤ r → r < cum y 12 → findM y r k m < 12 ∧ cum y (findM y r k m) ≤ r ∧ r < cum y (findM y r k m + 1)
  | 0, m, hk, h1, h2 => by
    obtain rfl : m = 11 := by omega
    exact ⟨by simp [findM], h1, h2⟩
  | k + 1, m, hk, h1, h2 => by
    rw [findM]
    split
    · rename_i h
      exact ⟨by omega, h1, h⟩
    · rename_i h
      exact findM_spec y r k (m + 1) (by omega) (by omega) h2
theorem isDate (day : Int) (h0 : 0 ≤ day) (h1 : day ≤ 999999) : IsDate day (yOf day) (mOf day) := by
  obtain ⟨a, b⟩ := findY_spec day 2800 0 (by show bef 0 ≤ day; rw [bef_zero]; exact h0) (by
    have : bef (((0 : Nat) : Int) + ((2800 : Nat) : Int)) = 1022679 := by decide
    rw [this]; omega)
  have hs := bef_succ (yOf day : Nat) (by omega)
  have hc := cum_12 (2000 + (yOf day : Nat))
  obtain ⟨c, d, e⟩ := findM_spec (2000 + yOf day) (day - bef (yOf day)) 11 0 rfl (by simp only [cum]; show (0 : Int) ≤ _; unfold yOf; omega) (by rw [hc]; unfold yOf at *; omega)
  exact ⟨a, b, c, by unfold mOf; omega, by unfold mOf; omega⟩
theorem IsDate.eq {day : Int} {y m : Nat} (h : IsDate day y m) (h0 : 0 ≤ day) (h1 : day ≤ 999999) : y = yOf day ∧ m = mOf day := h.unique (isDate day h0 h1)
theorem y_bd (day : Int) (h0 : 0 ≤ day) (h1 : day ≤ 999999) : yOf day ≤ 2740 := by
  have h := (isDate day h0 h1).y1
  have := (bef_bd (yOf day) (by omega)).1
  omega
theorem y_mono {a b : Int} (h0 : 0 ≤ a) (h : a ≤ b) (h1 : b ≤ 999999) : yOf a ≤ yOf b := by
  have ha := isDate a h0 (by omega)
  have hb := isDate b (by omega) h1
  rcases Nat.lt_or_ge (yOf b) (yOf a) with hl | hl
  · have := bef_mono ((yOf b : Nat) + 1) (yOf a : Nat) (by omega) (by omega)
    have := ha.y1
    have := hb.y2
    omega
  · exact hl
theorem m_mono {a b : Int} (h0 : 0 ≤ a) (h : a ≤ b) (h1 : b ≤ 999999) : 12 * yOf a + mOf a ≤ 12 * yOf b + mOf b := by
  have ha := isDate a h0 (by omega)
  have hb := isDate b (by omega) h1
  have hy := y_mono h0 h h1
  have := ha.m0
  have := hb.m0
  rcases Nat.lt_or_ge (yOf a) (yOf b) with hl | hl
  · omega
  · have he : yOf a = yOf b := by omega
    rcases Nat.lt_or_ge (mOf b) (mOf a) with hm | hm
    · have h3 := cum_mono (2000 + (yOf a : Int)) (show mOf b + 1 ≤ mOf a by omega)
      have h4 := ha.m1
      have h5 := hb.m2
      rw [← he] at h5
      omega
    · omega
end Cal
end Go.Proofs.Ytfffhdclbdmfnaa
