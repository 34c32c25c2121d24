/- The laws Expels and Roles, plainly. -/
import Derived.Test.YtkeicjokekmkpaaPl
namespace Go.Proofs.Ytkeicjokekmkpaa
namespace Mb
set_option linter.unusedVariables false
set_option linter.unusedSimpArgs false

theorem admS_len {S : St} {m : Mem} : (admS S m).ms.length = S.ms.length + 1 := by simp [admS]
theorem playS_ge {S : St} {x : Chn} : S.ms.length ≤ (playS S x).ms.length := by
  unfold playS
  split
  · split
    · rw [admS_len]; omega
    · split
      · rw [votS_len]; exact Nat.le_refl _
      · exact Nat.le_refl _
  · exact Nat.le_refl _
theorem playS_no {S : St} {x : Chn} (h : playE S x ≠ 0) : playS S x = S := by unfold playS; rw [if_neg h]
/-- Who is expelled by a change: the one of a vote that is the last that was wanted. -/
theorem play_now {S : St} {x : Chn} (h : Inv S) {d : Nat} (hd : d < S.ms.length) : actB (playS S x) d = (actB S d && !(playB S x && decide (x.b = d))) := by
  unfold playS playB
  by_cases h0 : playE S x = 0
  · rw [if_pos h0]
    unfold playE at h0
    by_cases h1 : x.kind = 1
    · rw [if_pos h1, admS_act hd]
      have : ¬ x.kind = 2 := by omega
      simp [this]
    · rw [if_neg h1] at h0 ⊢
      by_cases h2 : x.kind = 2
      · rw [if_pos h2] at h0 ⊢
        rw [votS_act]
        have hb := hasB_iff.1 (votE_ok h0).2.1
        have e : decide (d = x.b.toNat) = decide (x.b = d) := by rw [Bool.eq_iff_iff]; simp; omega
        simp [h2, h0, e]
      · rw [if_neg h2]
        have : actB (repS S x.v x.a x.b) d = actB S d := rfl
        rw [this]
        simp [h2]
  · rw [if_neg h0]
    unfold playE at h0
    by_cases h2 : x.kind = 2
    · rw [if_neg (by omega : ¬ x.kind = 1), if_pos h2] at h0
      simp [h0]
    · simp [h2]
theorem play_now' {S : St} {x : Chn} (h : Inv S) {d : Nat} (hd : d < S.ms.length) (hb : playB S x = true) (hx : x.b = d) :
    playE S x = 0 ∧ S.q ≤ ((counting (playS S x) d).length : Int) ∧ x.a ∈ counting (playS S x) d := by
  unfold playB at hb
  simp only [Bool.and_eq_true, decide_eq_true_eq] at hb
  obtain ⟨h1, h2, h3⟩ := hb
  have e0 : playE S x = 0 := by unfold playE; rw [if_neg (by omega), if_pos h1, h2]
  have e1 : playS S x = votS S x.a x.b := by unfold playS; rw [if_pos e0, if_neg (by omega), if_pos h1]
  refine ⟨e0, ?_, ?_⟩
  · rw [e1, ← hx, votS_self h h2]
    unfold outB at h3
    simpa using h3
  · rw [e1, ← hx, votS_self h h2]
    obtain ⟨g1, g2, g3, g4, g5, g6⟩ := votE_ok h2
    have ha := hasB_iff.1 g1
    refine mem_counting.2 ⟨x.a.toNat, by show _ < S.ms.length; omega, g3, ?_, by omega⟩
    rw [vot1_voted]
    have : ((x.a.toNat : Nat) : Int) = x.a := by omega
    rw [this]
    simp
/-- The active writers of a vault, and its holders. -/
def wrL (S : St) (ws : List Int) : List Int := ((List.range S.ms.length).filter fun v => actB S v && ws.contains (v : Int)).map fun v : Nat => (v : Int)
def hoL (S : St) (ws : List Int) : List Int := ((List.range S.ms.length).filter fun v => actB S v && !ws.contains (v : Int)).map fun v : Nat => (v : Int)
theorem sel_contains {S : St} {p : Nat → Bool} {a : Int} (h : a ∈ activeL S) : (((List.range S.ms.length).filter fun v => actB S v && p v).map fun v : Nat => (v : Int)).contains a = p a.toNat := by
  unfold activeL at h
  obtain ⟨k, hk, rfl⟩ := List.mem_map.1 h
  rw [List.mem_filter] at hk
  rw [Bool.eq_iff_iff]
  simp only [List.contains_iff_mem, List.mem_map, List.mem_filter, Bool.and_eq_true]
  constructor
  · rintro ⟨j, ⟨h1, h2, h3⟩, h4⟩
    obtain rfl : j = k := by omega
    exact h3
  · intro h3
    exact ⟨k, ⟨hk.1, hk.2, h3⟩, rfl⟩
theorem active_nat {S : St} {a : Int} (h : a ∈ activeL S) : ((a.toNat : Nat) : Int) = a := by
  unfold activeL at h
  obtain ⟨k, hk, rfl⟩ := List.mem_map.1 h
  rfl
theorem wrL_contains {S : St} {ws : List Int} {a : Int} (h : a ∈ activeL S) : (wrL S ws).contains a = ws.contains a := by
  unfold wrL
  rw [sel_contains (p := fun v => ws.contains (v : Int)) h, active_nat h]
theorem hoL_contains {S : St} {ws : List Int} {a : Int} (h : a ∈ activeL S) : (hoL S ws).contains a = !ws.contains a := by
  unfold hoL
  rw [sel_contains (p := fun v => !ws.contains (v : Int)) h, active_nat h]
theorem split_len {α : Type} (p q : α → Bool) : ∀ l : List α, (l.filter fun v => p v && q v).length + (l.filter fun v => p v && !q v).length = (l.filter p).length
  | [] => rfl
  | x :: l => by
    have ih := split_len p q l
    simp only [List.filter_cons]
    cases p x <;> cases q x <;> simp <;> omega
theorem roles_len (S : St) (ws : List Int) : (wrL S ws).length + (hoL S ws).length = (activeL S).length := by
  unfold wrL hoL activeL
  simp only [List.length_map]
  exact split_len _ _ _
def lens (S : St) : List Nat := S.vs.map fun v => v.ws.length
theorem modify_lens (v : Nat) (a b : Int) : ∀ vs : List Vlt, (vs.modify v (repV a b)).map (fun v => v.ws.length) = vs.map fun v => v.ws.length := by
  intro vs
  apply List.ext_getElem?
  intro i
  rw [List.getElem?_map, List.getElem?_map, List.getElem?_modify]
  by_cases h : v = i
  · subst h
    cases vs[v]? with
    | none => rfl
    | some x => simp [repV, repW_len]
  · simp [h]
theorem playS_lens {S : St} {x : Chn} : lens (playS S x) = lens S := by
  unfold playS
  split
  · split
    · rfl
    · split
      · unfold lens; rw [votS_vs]
      · exact modify_lens _ _ _ _
  · rfl
/-- The circle after changes. -/
def plays (S : St) (xs : List Chn) : St := xs.foldl playS S
theorem plays_inv {S : St} (h : Inv S) : ∀ xs : List Chn, Inv (plays S xs)
  | [] => h
  | x :: l => plays_inv (playS_inv h) l
theorem plays_lens : ∀ (S : St) (xs : List Chn), lens (plays S xs) = lens S
  | _, [] => rfl
  | S, x :: l => (plays_lens (playS S x) l).trans playS_lens
theorem plays_snoc (S : St) (xs : List Chn) (x : Chn) : plays S (xs ++ [x]) = playS (plays S xs) x := by unfold plays; rw [List.foldl_append]; rfl
end Mb
end Go.Proofs.Ytkeicjokekmkpaa
