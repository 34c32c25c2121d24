/- What New accepts is a circle. -/
import Derived.Test.YtkeicjokekmkpaaPl2
import Derived.Test.YtkeicjokekmkpaaNw
namespace Go.Proofs.Ytkeicjokekmkpaa
open Mb
set_option linter.unusedVariables false
set_option linter.unusedSimpArgs false

theorem newE_ok {ms : List Mem} {vs : List Vlt} {q : Int} (h : newE ms vs q = 0) : headB ms.length vs.length q = true ∧ memsB ms = true ∧ vltsB vs ms.length = true ∧ vs.all (possB ms.length) = true := by
  unfold newE at h
  split at h
  · next h1 =>
    split at h
    · next h2 =>
      simp only [Bool.and_eq_true] at h1
      exact ⟨h1.1, h1.2.1, h1.2.2, h2⟩
    · cases h
  · cases h
theorem wsB_get {ws : List Int} {N : Int} (h : wsB ws N = true) {i : Nat} (hi : i < ws.length) : 0 ≤ ws[i] ∧ ws[i] < N ∧ (∀ j, j + 1 = i → ws.getD j 0 < ws[i]) := by
  unfold wsB at h
  have h1 := List.all_eq_true.1 h i (List.mem_range.2 hi)
  unfold okW at h1
  have e : ws.getD i 0 = ws[i] := by simp [List.getD, List.getElem?_eq_getElem hi]
  rw [e] at h1
  simp only [Bool.and_eq_true, Bool.or_eq_true, decide_eq_true_eq] at h1
  refine ⟨h1.1, h1.2.1, fun j hj => ?_⟩
  rcases h1.2.2 with h2 | h2
  · omega
  · rw [show i - 1 = j by omega] at h2
    exact h2
theorem wsB_sorted {ws : List Int} {N : Int} (h : wsB ws N = true) : ws.Pairwise (· < ·) := by
  rw [List.pairwise_iff_getElem]
  have step : ∀ (d i : Nat) (hi : i < ws.length) (hj : i + d + 1 < ws.length), ws[i] < ws[i + d + 1] := by
    intro d
    induction d with
    | zero =>
      intro i hi hj
      have := (wsB_get h hj).2.2 i rfl
      simp [List.getD, List.getElem?_eq_getElem hi] at this
      exact this
    | succ d ih =>
      intro i hi hj
      have h1 := ih i hi (by omega)
      have h2 := (wsB_get h (i := i + (d + 1) + 1) hj).2.2 (i + d + 1) rfl
      simp [List.getD, List.getElem?_eq_getElem (show i + d + 1 < ws.length by omega)] at h2
      exact Int.lt_trans h1 h2
  intro i j hi hj hij
  have := step (j - i - 1) i hi (by omega)
  have e : i + (j - i - 1) + 1 = j := by omega
  simp only [e] at this
  exact this
theorem newE_inv {ms : List Mem} {vs : List Vlt} {q : Int} (h : newE ms vs q = 0) : Inv ⟨ms, vs, q, []⟩ := by
  obtain ⟨h1, h2, h3, h4⟩ := newE_ok h
  unfold headB at h1
  simp only [Bool.and_eq_true, decide_eq_true_eq] at h1
  have hv : ∀ v ∈ vs, v.ws.length ≤ 3 ∧ wsB v.ws ms.length = true := fun v hv => by
    obtain ⟨i, hi⟩ := List.mem_iff_getElem?.1 hv
    unfold vltsB at h3
    have h5 := List.all_eq_true.1 h3 i (List.mem_range.2 (List.getElem?_eq_some_iff.1 hi).1)
    unfold okVt at h5
    rw [hi] at h5
    simp only [vltB, Bool.and_eq_true, decide_eq_true_eq] at h5
    exact ⟨h5.2.2.1, h5.2.2.2.1⟩
  refine ⟨h1.2.2.2.1, h1.2.1, h1.2.2.1, fun v h => (hv v h).1, fun v h x hx => ?_, fun v h => wsB_sorted (hv v h).2, fun p hp => (by cases hp), List.nodup_nil, fun d hd _ => ?_⟩
  · obtain ⟨i, hi, rfl⟩ := List.mem_iff_getElem.1 hx
    have := wsB_get (hv v h).2 hi
    exact ⟨this.1, this.2.1⟩
  · rw [counting_none (fun k _ => rfl)]
    show (0 : Int) < q
    omega
/-- Members' names and keys are short. -/
theorem newE_sizes {ms : List Mem} {vs : List Vlt} {q : Int} (h : newE ms vs q = 0) : ∀ m ∈ ms, m.name.size ≤ 16 ∧ m.pub.size = 32 := fun m hm => by
  obtain ⟨_, h2, _⟩ := newE_ok h
  obtain ⟨i, hi⟩ := List.mem_iff_getElem?.1 hm
  unfold memsB at h2
  have h5 := List.all_eq_true.1 h2 i (List.mem_range.2 (List.getElem?_eq_some_iff.1 hi).1)
  unfold okM at h5
  rw [hi] at h5
  simp only [memB, nameB, Bool.and_eq_true, decide_eq_true_eq] at h5
  exact ⟨h5.1.2.1.2.1, h5.1.2.2.1⟩
end Go.Proofs.Ytkeicjokekmkpaa
