/- Plainly: what a further acquittal and a further dropped stripe leave open. -/
import Derived.Test.YtpdledjgbgalcaaGreatDoorPu
namespace Go.Proofs.YtpdledjgbgalcaaGreatDoor
open Go.RowKit Go.Lib
set_option linter.unusedVariables false
set_option linter.unusedSimpArgs false
/-- Entries with numbers of their own. -/
def UnE (l : List EnR) : Prop := l.Pairwise fun a b => ¬ (a.dv = b.dv ∧ a.sq = b.sq)
theorem hasE_false {l : List EnR} {d q : Int} (h : hasE l d q = false) : ∀ e ∈ l, ¬ (e.dv = d ∧ e.sq = q) := fun e he g => by
  have h1 : hasE l d q = true := List.any_eq_true.2 ⟨e, he, by simp [g.1, g.2]⟩
  rw [h] at h1
  cases h1
theorem UnE.put {l : List EnR} {e : EnR} (h : UnE l) : UnE (putE l e) := by
  cases hs : hasE l e.dv e.sq with
  | true => rw [putE_yes hs]; exact h
  | false =>
    rw [putE_no hs]
    exact List.pairwise_append.2 ⟨h, List.pairwise_singleton _ _, fun a ha b hb => by
      obtain rfl : b = e := by simpa using hb
      exact hasE_false hs a ha⟩
theorem frE_un (es : List EnR) : UnE (frE es) := by
  have key : ∀ (l acc : List EnR), UnE acc → UnE (l.foldl putE acc) := by
    intro l
    induction l with
    | nil => exact fun _ h => h
    | cons a t ih => exact fun acc h => ih _ h.put
  exact key es [] List.Pairwise.nil
theorem acF_key {k d q : Int} {bs : List Int} (h6 : k = 6) (h0 : (acF k d q bs).er = 0) : (acF k d q bs).d = d ∧ (acF k d q bs).q = q := by
  unfold acF at h0 ⊢
  rw [if_pos h6] at h0 ⊢
  split at h0
  · next h1 =>
    split at h0
    · next h2 => rw [if_pos h1, if_pos h2]; exact ⟨rfl, rfl⟩
    · exact absurd h0 (by decide)
  · exact absurd h0 (by decide)
theorem cgE_some {op : Ac → Bool} {e : EnR} {p : Ac × EnR} (h : cgE op e = some p) : e.k = 6 ∧ (acX e).er = 0 ∧ op (acX e) = true ∧ p = (acX e, e) := by
  unfold cgE at h
  split at h
  · next g => injection h with h; exact ⟨g.1, g.2.1, g.2.2, h.symm⟩
  · cases h
/-- Open accusations differ in device or number. -/
theorem cgL_un {op : Ac → Bool} {l : List EnR} (h : UnE l) : ((cgL op l).map (·.1)).Pairwise fun a b => ¬ (a.d = b.d ∧ a.q = b.q) := by
  rw [List.pairwise_map]
  refine List.Pairwise.filterMap _ ?_ h
  intro a b hab p hp q hq
  obtain ⟨h1, h2, _, rfl⟩ := cgE_some hp
  obtain ⟨g1, g2, _, rfl⟩ := cgE_some hq
  obtain ⟨k1, k2⟩ := acF_key h1 h2
  obtain ⟨k3, k4⟩ := acF_key g1 g2
  intro hc
  exact hab ⟨k1.symm.trans (hc.1.trans k3), k2.symm.trans (hc.2.trans k4)⟩
/-- A stricter rule leaves a part, in the same order. -/
theorem cgL_filter {op op' : Ac → Bool} (h : ∀ a, op' a = true → op a = true) (l : List EnR) : (cgL op' l).map (·.1) = ((cgL op l).map (·.1)).filter op' := by
  unfold cgL
  induction l with
  | nil => rfl
  | cons e t ih =>
    rw [List.filterMap_cons, List.filterMap_cons]
    by_cases h1 : e.k = 6 ∧ (acX e).er = 0
    · cases h2 : op' (acX e) with
      | true =>
        have e1 : cgE op' e = some (acX e, e) := by unfold cgE; rw [if_pos ⟨h1.1, h1.2, h2⟩]
        have e2 : cgE op e = some (acX e, e) := by unfold cgE; rw [if_pos ⟨h1.1, h1.2, h _ h2⟩]
        rw [e1, e2]
        simp only [List.map_cons]
        rw [List.filter_cons_of_pos h2, ih]
      | false =>
        have e1 : cgE op' e = none := by unfold cgE; rw [if_neg (fun g => by rw [h2] at g; exact absurd g.2.2 (by decide))]
        rw [e1]
        cases h3 : op (acX e) with
        | true =>
          have e2 : cgE op e = some (acX e, e) := by unfold cgE; rw [if_pos ⟨h1.1, h1.2, h3⟩]
          rw [e2]
          simp only [List.map_cons]
          rw [List.filter_cons_of_neg (by rw [h2]; decide), ih]
        | false =>
          have e2 : cgE op e = none := by unfold cgE; rw [if_neg (fun g => by rw [h3] at g; exact absurd g.2.2 (by decide))]
          rw [e2, ih]
    · have e1 : cgE op' e = none := by unfold cgE; rw [if_neg (fun g => h1 ⟨g.1, g.2.1⟩)]
      have e2 : cgE op e = none := by unfold cgE; rw [if_neg (fun g => h1 ⟨g.1, g.2.1⟩)]
      rw [e1, e2, ih]
theorem cgL_put {op : Ac → Bool} {l : List EnR} {e : EnR} (h : e.k = 7) : cgL op (putE l e) = cgL op l := by
  unfold putE
  split
  · rfl
  · have : cgE op e = none := by unfold cgE; rw [if_neg (fun g => by have := g.1; rw [h] at this; exact absurd this (by decide))]
    simp [cgL, List.filterMap_append, this]
theorem pcsE_mono {l : List EnR} {e : EnR} {d q y : Int} {p : PcX} (h : p ∈ pcsE aqX l d q y) : p ∈ pcsE aqX (putE l e) d q y := by
  unfold putE
  split
  · exact h
  · rw [pcsE_snoc]; exact List.mem_append_left _ h
theorem drB_snoc (drs : List ByteArray) (d s : ByteArray) : drB (drs ++ [d]) s = (drB drs s || decide (d = s)) := by simp [drB]
/-- More acquittals, more dropped stripes: fewer open accusations. -/
theorem opF_less {drs : List ByteArray} {d : ByteArray} {l : List EnR} {e : EnR} {cn : Ac → Bool} {a : Ac} (h : opF (drs ++ [d]) (pcsE aqX (putE l e)) cn a = true) : opF drs (pcsE aqX l) cn a = true ∧ a.R.s ≠ d := by
  unfold opF opB at h ⊢
  simp only [Bool.and_eq_true, Bool.not_eq_true', drB_snoc, Bool.or_eq_false_iff, decide_eq_false_iff_not] at h ⊢
  obtain ⟨⟨h1, h2⟩, h3, h4⟩ := h
  refine ⟨⟨h1, ?_, h4⟩, fun g => h2 g.symm⟩
  rw [List.any_eq_false] at h3 ⊢
  exact fun p hp => h3 p (pcsE_mono hp)
section
variable (x y : Vw) (es : List EnR) (vs : List VtR) (pubs drs : List ByteArray) (d : ByteArray) (e : EnR)
/-- Behind a further acquittal and a further dropped stripe a part of the open accusations is left. -/
theorem opnV_less (hy : y.b = x.b ∧ y.h = x.h) (he : e.k = 7) : ∃ κ : Ac → Bool, opnV y (es ++ [e]) vs pubs (drs ++ [d]) = (opnV x es vs pubs drs).filter κ ∧ ∀ a, κ a = true → a.R.s ≠ d := by
  refine ⟨opV y (es ++ [e]) vs pubs (drs ++ [d]), ?_, fun a h => ?_⟩
  · unfold opnV
    rw [frE_snoc, cgL_put he]
    refine cgL_filter (fun a h => ?_) (frE es)
    unfold opV at h ⊢
    rw [frE_snoc, hy.1, hy.2] at h
    exact (opF_less h).1
  · unfold opV at h
    rw [frE_snoc] at h
    exact (opF_less h).2
end
/-! ### Walking along a list and a part of it -/
theorem filter_at {α : Type} {κ : α → Bool} {l : List α} {k : Nat} {a : α} (h : l[k]? = some a) :
    (κ a = true → (l.filter κ)[((l.take k).filter κ).length]? = some a ∧ ((l.take (k + 1)).filter κ).length = ((l.take k).filter κ).length + 1) ∧
    (κ a = false → (∀ b, (l.filter κ)[((l.take k).filter κ).length]? = some b → b ∈ l.drop (k + 1)) ∧ ((l.take (k + 1)).filter κ).length = ((l.take k).filter κ).length) := by
  have h1 : l.take (k + 1) = l.take k ++ [a] := by rw [List.take_add_one, h]; rfl
  have hk : k < l.length := (List.getElem?_eq_some_iff.1 h).1
  have h2 : l.filter κ = (l.take k).filter κ ++ ([a].filter κ ++ (l.drop (k + 1)).filter κ) := by
    rw [← List.filter_append, ← List.filter_append]
    congr 1
    have h3 : l.drop k = a :: l.drop (k + 1) := by
      rw [List.drop_eq_getElem_cons hk]
      congr 1
      exact (List.getElem?_eq_some_iff.1 h).2
    rw [List.singleton_append, ← h3, List.take_append_drop]
  constructor
  · intro ha
    have h3 : [a].filter κ = [a] := by simp [ha]
    rw [h2, h1, List.filter_append, h3]
    refine ⟨?_, by simp⟩
    rw [List.getElem?_append_right (Nat.le_refl _), Nat.sub_self]
    rfl
  · intro ha
    have h3 : [a].filter κ = [] := by simp [ha]
    rw [h2, h1, List.filter_append, h3]
    refine ⟨fun b hb => ?_, by simp⟩
    rw [List.getElem?_append_right (Nat.le_refl _), Nat.sub_self, List.nil_append] at hb
    exact (List.mem_filter.1 (List.mem_of_getElem? hb)).1
theorem pairwise_drop {α : Type} {R : α → α → Prop} {l : List α} {k : Nat} {a b : α} (h : l.Pairwise R) (ha : l[k]? = some a) (hb : b ∈ l.drop (k + 1)) : R a b := by
  have hk : k < l.length := (List.getElem?_eq_some_iff.1 ha).1
  have h3 : l.drop k = a :: l.drop (k + 1) := by
    rw [List.drop_eq_getElem_cons hk]
    congr 1
    exact (List.getElem?_eq_some_iff.1 ha).2
  have h4 : (l.drop k).Pairwise R := h.sublist (List.drop_sublist _ _)
  rw [h3] at h4
  exact (List.pairwise_cons.1 h4).1 b hb
theorem hdB_filter {κ : Ac → Bool} {al : List Ac} {d : Int} (h : hdB (al.filter κ) d = true) : hdB al d = true := by
  obtain ⟨a, ha, h1⟩ := List.any_eq_true.1 h
  exact List.any_eq_true.2 ⟨a, (List.mem_filter.1 ha).1, h1⟩
end Go.Proofs.YtpdledjgbgalcaaGreatDoor
