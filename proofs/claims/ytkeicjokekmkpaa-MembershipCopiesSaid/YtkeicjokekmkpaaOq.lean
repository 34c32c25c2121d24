/- The argument opened, with its weights. -/
import Derived.Test.YtkeicjokekmkpaaOp
import Derived.SizedLaws
namespace Go.Proofs.Ytkeicjokekmkpaa
open Go.ChangeShapes Go.WideShapes Go.ChangeAt Go.RowKit Go.Deep Mb
set_option linter.unusedVariables false
set_option linter.unusedSimpArgs false
theorem wAll_mem {H : Type} {P : Program} {e : TypeId} : ∀ {l : List (DataW H)} {d : DataW H}, d ∈ l → ∀ n ∈ d.weights P e, n ∈ DataW.weightsAll P e l
  | d' :: r, d, hd, n, hn => by
    simp only [DataW.weightsAll, List.mem_append]
    rcases List.mem_cons.1 hd with rfl | h
    · exact Or.inl hn
    · exact Or.inr (wAll_mem h n hn)
theorem Try.bytesI : Try.prog.bytesOf 3 = 8 := by kernel_rfl
section
variable {H : Type} {enc : TypeId × Value → H} {W : World} {d : DataW H} {p : List MemPlace}
theorem w_ints {fuel : Nat} {a : Option Addr} {n c : Nat} {x : DataW H × List MemPlace} (h : DataW.trod enc Try.prog W 0 (fun _ => true) true fuel 29 [.slice a n c] = some x)
    (hw : ∀ m ∈ x.1.weights Try.prog 29, m ≤ reachBytes) : n * 8 ≤ reachBytes := by
  rcases open_ints Try.underlying29 Try.underlying3 Try.cellsI h with ⟨e, _⟩ | ⟨x, l, c', zs, e, _, hl, hm, hz, hx, _⟩
  · simp only [List.cons.injEq, Value.slice.injEq, and_true] at e
    obtain ⟨_, rfl, _⟩ := e
    exact Nat.le_trans (by decide) (Nat.zero_le reachBytes)
  · simp only [List.cons.injEq, Value.slice.injEq, and_true] at e
    obtain ⟨_, rfl, rfl⟩ := e
    subst hx
    simp only [if_true] at hz
    have := hw _ (by simp only [DataW.weights, Try.underlying29]; exact List.mem_cons_self)
    simp only [lits, List.length_map, List.length_take, List.length_drop, Try.bytesI] at this
    refine Nat.le_trans ?_ this
    apply Nat.mul_le_mul_right
    omega
set_option maxRecDepth 20000 in
theorem w_vlt {fuel : Nat} {p : VP} {x : DataW H × List MemPlace} (h : DataW.trod enc Try.prog W 0 (fun _ => true) true fuel 36 (fP p) = some x)
    (hw : ∀ m ∈ x.1.weights Try.prog 36, m ≤ reachBytes) : p.2.n * 8 ≤ reachBytes := by
  obtain ⟨ys, n, _, hx, hcl, hyl, hfld⟩ := DataW.trod_struct Try.underlying36 h
  obtain ⟨y0, y1, y2, y3, y4, y5, y6, y7, rfl⟩ := ylist8 hyl
  have f1 : DataW.trod enc Try.prog W 0 (fun _ => true) true n 29 (((fP p).drop 1).take (Try.prog.cellsOf 29)) = [y0, y1, y2, y3, y4, y5, y6, y7][1]? := hfld 1 _ rfl
  rw [Try.cellsL] at f1
  have f1' : DataW.trod enc Try.prog W 0 (fun _ => true) true n 29 [.slice p.2.a p.2.n p.2.c] = some y1 := f1
  subst hx
  refine w_ints f1' fun m hm => hw m ?_
  simp only [DataW.weights, Try.underlying36]
  exact DataW.weights_mem_each (j := 1) rfl rfl m hm
/-- A slice of such elements that came in, with its weights. -/
theorem w_slice {α : Type} [Inhabited α] {f : α → List Value} {s : Nat} {t e : TypeId} (ht : Try.prog.underlying t = some (.slice e)) (hC : Try.prog.cellsOf e = s) (hs0 : 0 < s) (hf : ∀ x, (f x).length = s) {Pr : α → Prop}
    (hel : ∀ (fuel : Nat) (cs : List Value) (y : DataW H × List MemPlace), DataW.trod enc Try.prog W 0 (fun _ => true) true fuel e cs = some y → (∀ m ∈ y.1.weights Try.prog e, m ≤ reachBytes) → ∃ x, cs = f x ∧ Pr x) {fuel : Nat} {cs : List Value} {y : DataW H × List MemPlace}
    (h : DataW.trod enc Try.prog W 0 (fun _ => true) true fuel t cs = some y) (hw : ∀ m ∈ y.1.weights Try.prog t, m ≤ reachBytes) : ∃ a n c xs, cs = [.slice a n c] ∧ n ≤ c ∧ c ≤ maxLen ∧ SlN f s W W.heap.size a n xs ∧ ∀ x ∈ xs, Pr x := by
  rcases open_slice ht h with ⟨rfl, _⟩ | ⟨x, l, c, m, nn, D, Pl, rfl, _, hl, hm, hmm, hx, hi⟩
  · exact ⟨none, 0, 0, [], rfl, Nat.le_refl _, Nat.zero_le _, SlN.nil, fun x hx => by cases hx⟩
  · simp only [if_true] at hmm
    subst hmm hx
    have each : ∀ i, i < l → ∃ r : α, (∀ j v, (f r)[j]? = some v → W.cell? (x.add (i * s + j)) = some v) ∧ Pr r := by
      intro i hil
      obtain ⟨cs', hc, ht'⟩ := hi i (by omega)
      rw [hC] at hc
      obtain ⟨_, hcl, hat⟩ := World.cells?_some hc
      obtain ⟨r, rfl, hr⟩ := hel _ _ _ ht' (fun m hm' => hw m (by
        simp only [DataW.weights, ht, List.mem_cons, List.mem_append]
        exact Or.inr (Or.inl (wAll_mem (List.mem_map.2 ⟨i, List.mem_range.2 hil, rfl⟩) m hm'))))
      refine ⟨r, fun j v hv => ?_, hr⟩
      have hj : j < s := by have := (List.getElem?_eq_some_iff.1 hv).1; rw [hf] at this; exact this
      rw [← Go.Deep.add_add, hat j hj]
      exact hv
    obtain ⟨R, hR⟩ := choose_lt each
    refine ⟨some x, l, _, (List.range l).map R, rfl, hl, hm, ⟨by simp, fun hn => ?_⟩, fun z hz => ?_⟩
    · simp at hn
      obtain ⟨u, hu⟩ : ∃ u, (f (R 0))[0]? = some u := ⟨_, List.getElem?_eq_getElem (by rw [hf]; exact hs0)⟩
      have h0 := (hR 0 hn).1 0 u hu
      obtain ⟨b, off, spot⟩ := x
      have hspot : spot = none := by simpa [Addr.add] using World.cell?_spot h0
      subst hspot
      refine ⟨b, off, rfl, block_lt_of_cell (a := ⟨b, off, none⟩) (by simpa [Addr.add] using h0), fun i z hz' j v hv => ?_⟩
      rw [List.getElem?_map] at hz'
      have hil : i < l := by
        rcases Nat.lt_or_ge i l with h | h
        · exact h
        · rw [List.getElem?_eq_none (by simpa using h)] at hz'; cases hz'
      rw [List.getElem?_range hil] at hz'
      cases hz'
      have := (hR i hil).1 j v hv
      rw [Addr.add_mid] at this
      exact this
    · obtain ⟨i, hi', rfl⟩ := List.mem_map.1 hz
      exact (hR i (List.mem_range.1 hi')).2
set_option maxRecDepth 20000 in
theorem w_set {r : Reach} {b0 : Nat} {v : Value} (hv : Value.okWide Try.prog W r b0 26 v) (h : DataW.Trod enc Try.prog W 0 (fun _ => true) true 26 v d p)
    (hw : ∀ m ∈ d.weights Try.prog 26, m ≤ reachBytes) :
    ∃ A n c A' n' c' q A'' n'' c'' ms ps xs, v = aSet A n c A' n' c' q A'' n'' c'' ∧ InSet W A n c A' n' c' A'' n'' c'' ms ps xs ∧ ∀ p ∈ ps, p.2.n * 8 ≤ 140737488355328 := by
  obtain ⟨v0, v1, v2, v3, y0, y1, y2, y3, m, rfl, rfl, _, h0, h1, h2, h3⟩ := Go.Joins.open_agg4 Try.underlying26 (by kernel_rfl) (by kernel_rfl) hv h
  obtain ⟨A, n, c, ms, e0, hc, _, hms, hmz⟩ := in_slice (f := fM) (s := 5) (Pr := fun m : Mem => m.name.size ≤ maxLen ∧ m.pub.size ≤ maxLen) Try.underlying22 Try.cellsM (by decide) fM_len (fun _ _ _ h => in_mem h) h0
  have hw1 : ∀ m ∈ y1.1.weights Try.prog 23, m ≤ reachBytes := fun m hm => hw m (by
    simp only [DataW.weights, Try.underlying26]
    exact DataW.weights_mem_each (j := 1) rfl rfl m hm)
  obtain ⟨A', n', c', ps, e1, hc', _, hps, hvk⟩ := w_slice (f := fP) (s := 15) (Pr := fun p => VOk W p ∧ p.2.n * 8 ≤ reachBytes) Try.underlying23 Try.cellsV (by decide) fP_len
    (fun _ _ _ h hw => by obtain ⟨p, rfl, hp⟩ := in_vlt h; exact ⟨p, rfl, hp, w_vlt h hw⟩) h1 hw1
  obtain ⟨q, e2, _⟩ := DataW.trod_int Try.underlying3 h2
  obtain ⟨A'', n'', c'', xs, e3, _, _, hxs, hxz⟩ := in_slice (f := fX) (s := 9) (Pr := fun x : Chn => x.m.name.size ≤ maxLen ∧ x.m.pub.size ≤ maxLen) Try.underlying24 Try.cellsX (by decide) fX_len (fun _ _ _ h => in_chn h) h3
  simp only [List.cons.injEq, and_true] at e0 e1 e2 e3
  subst e0 e1 e2 e3
  exact ⟨A, n, c, A', n', c', q, A'', n'', c'', ms, ps, xs, rfl, ⟨hms, hc, hmz, hps, fun p hp => (hvk p hp).1, hxs, hxz⟩, fun p hp => Nat.le_trans (hvk p hp).2 (by decide)⟩
end
end Go.Proofs.Ytkeicjokekmkpaa
