/- Regions that draw their order and end in one store into a cell that they load: what they load is held until that store. -/
import Derived.Test.YtpbeaghghlfiaaaWk
namespace Go.Proofs.Ytpbeaghghlfiaaa
open Go.RowKit Go.Lib
set_option linter.unusedVariables false
set_option linter.unusedSimpArgs false
section
variable {P : Program} {ops : Array Oper} {Q : Exit → Act → World → Prop} {md : Region.Mode} {S : World → Prop} {z : Nat}
/-- Whichever comes up: S holds behind it till z has come up. -/
def LastZ (P : Program) (md : Region.Mode) (ops : Array Oper) (Q : Exit → Act → World → Prop) (S : World → Prop) (z : Nat) : Nat → Array Bool → Act → World → Prop
  | 0, l, a, w => Region.ready md ops l = [] ∧ Q .normal a w
  | n + 1, l, a, w => (Region.ready md ops l = [] → Q .normal a w) ∧ ∀ i ∈ Region.ready md ops l, wpOp P ops Q i (fun a' w' => ((l.setIfInBounds i true).getD z false = true ∨ S w') ∧ LastZ P md ops Q S z n (l.setIfInBounds i true) a' w') a w
theorem LastZ.any : ∀ (n : Nat) (l : Array Bool) (a : Act) (w : World), LastZ P md ops Q S z n l a w → wpAny P md ops Q n l a w
  | 0, _, _, _, h => h
  | n + 1, _, _, _, h => ⟨h.1, fun i hi => wpOp_mono (fun a' w' h' => LastZ.any n _ a' w' h'.2) (h.2 i hi)⟩
/-- All of D stand out, and each waits for i or for another of D. -/
def Waits (md : Region.Mode) (ops : Array Oper) (l : Array Bool) (i : Nat) (D : List Nat) : Prop :=
  ∀ k ∈ D, l.getD k true = false ∧ k ≠ i ∧ ∃ o, ops[k]? = some o ∧ ∃ e ∈ o.after, Region.binds md e = true ∧ (e.on = i ∨ e.on ∈ D)
theorem getD_flip {l : Array Bool} {k : Nat} (h : l.getD k true = false) : l.getD k false = false := by
  rw [Array.getD_eq_getD_getElem?] at h ⊢
  cases hk : l[k]? with
  | none => rfl
  | some b => rw [hk] at h; exact h
theorem Waits.not_ready {l : Array Bool} {i : Nat} {D : List Nat} (h : Waits md ops l i D) (hi : l.getD i true = false) {k : Nat} (hk : k ∈ D) : k ∉ Region.ready md ops l := fun hr => by
  obtain ⟨_, _, o, ho, e, he, hb, hon⟩ := h k hk
  obtain ⟨_, o', ho', hall⟩ := mem_ready.1 hr
  rw [ho] at ho'
  injection ho' with ho'
  subst ho'
  have h1 := hall e he hb
  rcases hon with e1 | e1
  · rw [e1, getD_flip hi] at h1; cases h1
  · rw [getD_flip (h _ e1).1] at h1; cases h1
theorem LastZ.first {T : World → Prop} (hTS : ∀ w, S w → T w) {i : Nat} {oi : Oper} {v : Value} {D : List Nat} (hi : ops[i]? = some oi) (hz : i ≠ z) (hsel : ∀ (j : Nat) (o : Oper) cs b, ops[j]? = some o → o.op ≠ .select cs b)
    (hQ : ∀ c a w, Q (.panic c) (a.put oi.dst v) w → Q (.panic c) a w) : ∀ (n : Nat) (l : Array Bool) (a : Act) (w : World),
      (∀ j oj, ops[j]? = some oj → j ≠ i → l.getD j true = false → (∀ e ∈ oj.after, Region.binds md e = true → e.on ≠ i) → oi.apart ops oj = true) →
      (z ∈ D ∧ Waits md ops l i D ∨ ∀ w, T w) → i ∈ Region.ready md ops l → YieldsIf P ops T oi v a → (l.getD z false = true ∨ S w) →
      LastZ P md ops Q S z n (l.setIfInBounds i true) (a.put oi.dst v) w → LastZ P md ops Q S z (n + 1) l a w := by
  have hT : ∀ (l : Array Bool) w, (z ∈ D ∧ Waits md ops l i D ∨ ∀ w, T w) → (l.getD z false = true ∨ S w) → T w := fun l w h1 h2 => by
    rcases h1 with ⟨h3, h4⟩ | h3
    · rcases h2 with h5 | h5
      · rw [getD_flip (h4 z h3).1] at h5; cases h5
      · exact hTS w h5
    · exact h3 w
  intro n
  induction n with
  | zero =>
    intro l a w _ hD hr hy hS H
    refine ⟨fun h => (by rw [h] at hr; cases hr), fun j hj => ?_⟩
    by_cases hji : j = i
    · subst hji
      exact hy.wpOp hi (hT l w hD hS) ⟨hS.imp (fun h => getD_set_true h) id, H⟩
    · have := ready_mono hj hji
      rw [H.1] at this
      cases this
  | succ n ih =>
    intro l a w hfree hD hr hy hS H
    refine ⟨fun h => (by rw [h] at hr; cases hr), fun j hj => ?_⟩
    by_cases hji : j = i
    · subst hji
      exact hy.wpOp hi (hT l w hD hS) ⟨hS.imp (fun h => getD_set_true h) id, H⟩
    · have h1 := H.2 j (ready_mono hj hji)
      obtain ⟨hjun, oj, hoj, hall⟩ := mem_ready.1 hj
      have hiun := (mem_ready.1 hr).1
      have hnot : ∀ e ∈ oj.after, Region.binds md e = true → e.on ≠ i := fun e he hb heq => by
        have h2 := hall e he hb
        rw [heq, getD_flip hiun] at h2
        cases h2
      have h2 := wpOp_putIf hoj (hfree j oj hoj hji hjun hnot) (fun cs b => hsel i oi cs b hi) (fun cs b => hsel j oj cs b hoj) hQ hy h1
      refine wpOp_mono (fun a' w' h3 => ?_) h2
      obtain ⟨h4, h5, h6⟩ := h3
      rw [Array.setIfInBounds_comm _ _ (Ne.symm hji), getD_set_ne false hz] at h5
      refine ⟨h5, ih (l.setIfInBounds j true) a' w' (fun k ok hk hki hun hno => ?_) ?_ (ready_mono hr (Ne.symm hji)) h4 h5 ?_⟩
      · refine hfree k ok hk hki ?_ hno
        by_cases hjk : j = k
        · subst hjk; exact hjun
        · rw [getD_set_ne true hjk] at hun; exact hun
      · refine hD.imp (fun ⟨h7, h8⟩ => ⟨h7, fun k hk => ?_⟩) id
        have hne : j ≠ k := fun e => h8.not_ready hiun hk (e ▸ hj)
        rw [getD_set_ne true hne]
        exact h8 k hk
      · rw [Array.setIfInBounds_comm _ _ hji]
        exact h6
/-- Those that wait for i, from the last to the first asked for. -/
def depsOf (md : Region.Mode) (ops : Array Oper) (i : Nat) : List Nat :=
  (List.range ops.size).foldl (fun D k => match ops[k]? with | some o => if o.after.any (fun e => Region.binds md e && (e.on == i || D.contains e.on)) then k :: D else D | none => D) []
def waitsB (md : Region.Mode) (ops : Array Oper) (l : Array Bool) (i z : Nat) : Bool :=
  (depsOf md ops i).contains z && (depsOf md ops i).all fun k => !(l.getD k true) && (k != i && (match ops[k]? with | some o => o.after.any (fun e => Region.binds md e && (e.on == i || (depsOf md ops i).contains e.on)) | none => false))
theorem waitsB_iff {l : Array Bool} {i z : Nat} (h : waitsB md ops l i z = true) : z ∈ depsOf md ops i ∧ Waits md ops l i (depsOf md ops i) := by
  unfold waitsB at h
  rw [Bool.and_eq_true] at h
  refine ⟨List.contains_iff_mem.1 h.1, fun k hk => ?_⟩
  have h1 := List.all_eq_true.1 h.2 k hk
  rw [Bool.and_eq_true, Bool.and_eq_true] at h1
  refine ⟨by simpa using h1.1, by simpa using h1.2.1, ?_⟩
  have h2 := h1.2.2
  cases ho : ops[k]? with
  | none => rw [ho] at h2; cases h2
  | some o =>
    rw [ho] at h2
    obtain ⟨j, hj, h3⟩ := Array.any_iff_exists.1 h2
    refine ⟨o, rfl, o.after[j], Array.getElem_mem _, ?_⟩
    have h4 := h3.2.2
    rw [Bool.and_eq_true, Bool.or_eq_true] at h4
    exact ⟨h4.1, h4.2.imp (fun h => by simpa using h) (fun h => List.contains_iff_mem.1 h)⟩
/-- A load that z waits for is taken first. -/
theorem LastZ.take {oi : Oper} {v : Value} {n : Nat} {l : Array Bool} {a : Act} {w : World} (i : Nat) (hi : ops[i]? = some oi)
    (hs : Region.noSelect ops = true) (hf : Region.free md ops l i = true) (hr : (Region.ready md ops l).contains i = true) (hz : i ≠ z) (hd : waitsB md ops l i z = true)
    (hQ : ∀ c a w, Q (.panic c) (a.put oi.dst v) w → Q (.panic c) a w) (hy : YieldsIf P ops S oi v a) (hS : S w)
    (h : LastZ P md ops Q S z n (l.setIfInBounds i true) (a.put oi.dst v) w) : LastZ P md ops Q S z (n + 1) l a w :=
  LastZ.first (fun _ h => h) hi hz (Region.noSelect_spec hs) hQ n l a w (Region.free_spec hi hf) (.inl (waitsB_iff hd)) (by simpa using hr) hy (.inr hS) h
/-- What asks nothing of the world. -/
theorem LastZ.takeW {oi : Oper} {v : Value} {n : Nat} {l : Array Bool} {a : Act} {w : World} (i : Nat) (hi : ops[i]? = some oi)
    (hs : Region.noSelect ops = true) (hf : Region.free md ops l i = true) (hr : (Region.ready md ops l).contains i = true) (hz : i ≠ z)
    (hQ : ∀ c a w, Q (.panic c) (a.put oi.dst v) w → Q (.panic c) a w) (hy : YieldsIf P ops (fun _ => True) oi v a) (hS : S w)
    (h : LastZ P md ops Q S z n (l.setIfInBounds i true) (a.put oi.dst v) w) : LastZ P md ops Q S z (n + 1) l a w :=
  LastZ.first (T := fun _ => True) (D := []) (fun _ _ => trivial) hi hz (Region.noSelect_spec hs) hQ n l a w (Region.free_spec hi hf) (.inr fun _ => trivial) (by simpa using hr) hy (.inr hS) h
/-- One alone may come up. -/
theorem LastZ.one {oi : Oper} {n : Nat} {l : Array Bool} {a : Act} {w : World} (i : Nat) (hr : Region.ready md ops l = [i]) (hi : ops[i]? = some oi)
    (h : ∀ K' : Act → World → Prop, Shut (∀ a w, S w → (S w → LastZ P md ops Q S z n (l.setIfInBounds i true) a w) → K' a w) → if Region.wanted oi (yielded ops a.tmps) = true then Oper.wp P oi a w K' Q else K' (a.put oi.dst undef) w) : LastZ P md ops Q S z (n + 1) l a w :=
  ⟨fun h0 => (by rw [h0] at hr; cases hr), fun j hj => by
    rw [hr] at hj
    obtain rfl : j = i := by simpa using hj
    exact wpOp_step hi (fun K' hK => h K' (fun a w hS hW => hK a w ⟨.inr hS, hW hS⟩))⟩
/-- The last one. -/
theorem LastZ.last {oi : Oper} {n : Nat} {l : Array Bool} {a : Act} {w : World} (hr : Region.ready md ops l = [z]) (hi : ops[z]? = some oi) (hl : z < l.size)
    (h : ∀ K' : Act → World → Prop, Shut (∀ a w, LastZ P md ops Q S z n (l.setIfInBounds z true) a w → K' a w) → if Region.wanted oi (yielded ops a.tmps) = true then Oper.wp P oi a w K' Q else K' (a.put oi.dst undef) w) : LastZ P md ops Q S z (n + 1) l a w :=
  ⟨fun h0 => (by rw [h0] at hr; cases hr), fun j hj => by
    rw [hr] at hj
    obtain rfl : j = z := by simpa using hj
    exact wpOp_step hi (fun K' hK => h K' (fun a w hW => hK a w ⟨.inl (by simp [hl]), hW⟩))⟩
/-- Behind z nothing is asked. -/
theorem LastZ.free {oi : Oper} {n : Nat} {l : Array Bool} {a : Act} {w : World} (i : Nat) (hr : Region.ready md ops l = [i]) (hi : ops[i]? = some oi) (hl : l.getD z false = true)
    (h : ∀ K' : Act → World → Prop, Shut (∀ a w, LastZ P md ops Q S z n (l.setIfInBounds i true) a w → K' a w) → if Region.wanted oi (yielded ops a.tmps) = true then Oper.wp P oi a w K' Q else K' (a.put oi.dst undef) w) : LastZ P md ops Q S z (n + 1) l a w :=
  ⟨fun h0 => (by rw [h0] at hr; cases hr), fun j hj => by
    rw [hr] at hj
    obtain rfl : j = i := by simpa using hj
    exact wpOp_step hi (fun K' hK => h K' (fun a w hW => hK a w ⟨.inl (getD_set_true hl), hW⟩))⟩
theorem LastZ.done {l : Array Bool} {a : Act} {w : World} (hr : Region.ready md ops l = []) (h : Q .normal a w) : ∀ n, LastZ P md ops Q S z n l a w
  | 0 => ⟨hr, h⟩
  | _ + 1 => ⟨fun _ => h, by rw [hr]; simp⟩
theorem LastZ.start {id : Nat} {a : Act} {w : World} (hm : P.follows .mixedOrders = true) (S : World → Prop) (z : Nat)
    (h : LastZ P .any ops Q S z ops.size (Array.replicate ops.size false) a w.drew) : (Code.region id ops true).wp P Q a w :=
  wp_region_any hm (LastZ.any _ _ _ _ h)
end
end Go.Proofs.Ytpbeaghghlfiaaa
