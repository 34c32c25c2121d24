/- combine, Merge, Meet. -/
import Derived.Test.YtalclofogengpaaNrm
import Derived.StillTailTactics
namespace Go.Proofs.Ytalclofogengpaa
open Go.RowKit

theorem max_any (a b : Int) (w : World) : Calls Try.prog 43 #[.int .i64 a, .int .i64 b] w fun e w' => e = .returned (.int .i64 (max a b)) ∧ w = w' := by
  go_enter Try.func43, Try.ntmps43
  go_wp2
  all_goals (go_ret; exact ⟨ret_int (by omega), rfl⟩)
theorem min_any (a b : Int) (w : World) : Calls Try.prog 44 #[.int .i64 a, .int .i64 b] w fun e w' => e = .returned (.int .i64 (min a b)) ∧ w = w' := by
  go_enter Try.func44, Try.ntmps44
  go_wp2
  all_goals (go_ret; exact ⟨ret_int (by omega), rfl⟩)

def mix (g : Int → Int → Int) (r x : List Int) : Nat → List Int
  | 0 => r
  | d + 1 => (mix g r x d).set d (g (r.getD d 0) (x.getD d 0))
def accN (g : Int → Int → Int) (vs : List (List Int)) : Nat → List Int
  | 0 => Z0
  | k + 1 => mix g (if k = 0 then pad (vs.getD k []) else accN g vs k) (pad (vs.getD k [])) 12
theorem mix_len (g : Int → Int → Int) (r x : List Int) (d : Nat) : (mix g r x d).length = r.length := by
  induction d with
  | zero => rfl
  | succ d ih => simp [mix, ih]
theorem mix_past (g : Int → Int → Int) (r x : List Int) (d j : Nat) (h : d ≤ j) : (mix g r x d)[j]? = r[j]? := by
  induction d with
  | zero => rfl
  | succ d ih => rw [mix, List.getElem?_set, if_neg (by omega), ih (by omega)]
theorem av_set (x : List Int) (d : Nat) (y : Int) : (av x).setIfInBounds d (I y) = av (x.set d y) := by
  simp [av, List.map_set]

theorem pad_len_of {v : List Int} (h : validB v = true) : (pad v).length = 12 := pad_len (by simp [validB] at h; exact h.2)
theorem accN_len (g : Int → Int → Int) (vs : List (List Int)) : ∀ k, k ≤ vs.length → (vs.take k).all validB = true → (accN g vs k).length = 12
  | 0, _, _ => rfl
  | k + 1, hk, hv => by
    obtain ⟨v, hvk⟩ := get_ex (xs := vs) (k := k) (by omega)
    rw [take_snoc hvk, List.all_append, Bool.and_eq_true] at hv
    have hp : (pad v).length = 12 := pad_len_of (by simpa using hv.2)
    rw [accN, mix_len, getD_of hvk]
    split
    · exact hp
    · exact accN_len g vs k (by omega) hv.1
theorem all_take_all {vs : List (List Int)} {p : List Int → Bool} {k : Nat} (h : vs.length ≤ k) (hv : (vs.take k).all p = true) : vs.all p = true := by
  rwa [List.take_of_length_le h] at hv

def CombPost (g : Int → Int → Int) (vs : List (List Int)) (w : World) (e : Ending) (w' : World) : Prop :=
  (vs.all validB = true ∧ Slc2 I (nrm (accN g vs vs.length)) 0 w e w') ∨ (vs.all validB = false ∧ Slc2 I ([] : List Int) 1 w e w')


end Go.Proofs.Ytalclofogengpaa
