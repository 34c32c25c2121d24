/- The law TopLocates: what its loops keep. -/
import Derived.Test.YtpbeaghghlfiaaaD3
namespace Go.Proofs.Ytpbeaghghlfiaaa
open Go.RowKit Go.Lib
set_option linter.unusedVariables false
set_option linter.unusedSimpArgs false
/-- A store into a row of one's own. -/
theorem Own.opn {α : Type} {f : α → Value} {e : TypeId} {w : World} {base g n c : Nat} {xs : List α} (h : Own f e w base (.slice (some ⟨g, 0, none⟩) n c) xs) :
    ∃ cur, w.heap[g]? = some (.cells cur e (0, 0)) ∧ base ≤ g ∧ xs.length ≤ cur.size ∧ ∀ w' k x, w'.heap[g]? = some (.cells (cur.setIfInBounds k (f x)) e (0, 0)) → Own f e w' base (.slice (some ⟨g, 0, none⟩) n c) (xs.set k x) := by
  rcases h.2 with ⟨h1, _⟩ | ⟨g', cap, cur, hv, hb, hg, h1, h2, h3, h4⟩
  · cases h1
  · injection hv with q1 q2 q3
    injection q1 with q1
    injection q1 with q1 _ _
    subst q1 q2 q3
    refine ⟨cur, hg, hb, by omega, fun w' k x hw => ⟨by simp, .inr ⟨g, c, _, by simp, hb, hw, by simpa using h1, h2, by simpa using h3, ?_⟩⟩⟩
    simp only [Nat.mul_one, List.length_set, Array.toList_setIfInBounds, List.take_set, List.map_set] at h4 ⊢
    rw [h4]
/-- The replacements: a number and a row each. -/
def WrO (w : World) (B : Nat) (A : Option Addr) (n : Nat) : Prop := ∀ k < n, ∃ (b off : Nat) (ix : Int) (a : Option Addr) (l c : Nat) (r : List Nat), A = some ⟨b, off, none⟩ ∧ b < B ∧ w.cell? ⟨b, off + k * 2, none⟩ = some (.int .i64 ix) ∧ w.cell? ⟨b, off + k * 2 + 1, none⟩ = some (.slice a l c) ∧ Sl fN w B a l r ∧ Bys r
theorem WrO.up {w w' : World} {B B' n : Nat} {A : Option Addr} (h : WrO w B A n) (hb : Below B' w w') (hB : B ≤ B') : WrO w' B A n := fun k hk => by
  obtain ⟨b, off, ix, a, l, c, r, h1, h2, h3, h4, h5, h6⟩ := h k hk
  exact ⟨b, off, ix, a, l, c, r, h1, h2, (hb.cell (p := ⟨b, _, none⟩) (by show b < B'; omega)).trans h3, (hb.cell (p := ⟨b, _, none⟩) (by show b < B'; omega)).trans h4, h5.up hb hB, h6⟩
/-- The pieces at hand while replacements are laid. -/
structure GSt (W1 : World) (m len : Nat) (v : Value) (wr : World) (hds : List Hd) (given : Mt) : Prop where
  bw : Below W1.heap.size W1 wr
  ow : Own fS TR wr W1.heap.size v hds
  hl : hds.length = m
  gl : given.length = m
  ok : MtOk len given
  rows : ∀ (k : Nat) hd r, hds[k]? = some hd → given[k]? = some r → Sl fN W1 W1.heap.size hd.a hd.n r
theorem GSt.put {W1 : World} {m len g n c : Nat} {wr w' : World} {hds : List Hd} {given : Mt} {cur : Array Value} {k : Nat} {hd : Hd} {r : List Nat} (h : GSt W1 m len (.slice (some ⟨g, 0, none⟩) n c) wr hds given)
    (hc : wr.heap[g]? = some (.cells cur TR (0, 0))) (hw : w'.heap[g]? = some (.cells (cur.setIfInBounds k (fS hd)) TR (0, 0))) (hb : But (fun i => i = g) wr w') (hr : r.length = len ∧ Bys r) (hs : Sl fN W1 W1.heap.size hd.a hd.n r) :
    GSt W1 m len (.slice (some ⟨g, 0, none⟩) n c) w' (hds.set k hd) (given.set k r) := by
  obtain ⟨cur', h1, h2, _, h4⟩ := h.ow.opn
  rw [hc] at h1
  injection h1 with h1
  injection h1 with h1 _ _
  subst h1
  refine ⟨But.below hb h.bw h.bw.size (fun i hi => by subst hi; exact h2), h4 w' k hd hw, by simp [h.hl], by simp [h.gl], h.ok.set hr, fun j hd' r' q1 q2 => ?_⟩
  rw [List.getElem?_set] at q1 q2
  by_cases e : k = j
  · subst e
    rw [if_pos rfl] at q1 q2
    split at q1
    · injection q1 with q1
      split at q2
      · injection q2 with q2
        subst q1 q2
        exact hs
      · cases q2
    · cases q1
  · rw [if_neg e] at q1 q2
    exact h.rows j hd' r' q1 q2
theorem GSt.on {W1 : World} {m len : Nat} {v : Value} {wr w' : World} {hds : List Hd} {given : Mt} (h : GSt W1 m len v wr hds given) (hb : Below wr.heap.size wr w') : GSt W1 m len v w' hds given :=
  ⟨h.bw.trans (hb.mono h.bw.size), h.ow.on hb, h.hl, h.gl, h.ok, h.rows⟩
theorem GSt.sll {W1 : World} {m len : Nat} {A : Option Addr} {n c : Nat} {wr : World} {hds : List Hd} {given : Mt} (h : GSt W1 m len (.slice A n c) wr hds given) : Sl fS wr wr.heap.size A m hds ∧ SLL fN wr wr.heap.size A m given := by
  obtain ⟨A', c', h1, _, h3, _⟩ := h.ow.shape
  injection h1 with q1 q2 q3
  subst q1
  have hs : Sl fS wr wr.heap.size A m hds := ⟨h.hl, h3⟩
  exact ⟨hs, hds, hs, h.gl, fun k hd r q1 q2 => ((h.rows k hd r q1 q2).up h.bw (Nat.le_refl _)).more' h.bw.size⟩
/-- The place that a number names. -/
theorem place {m : Nat} (h : 1 ≤ m) (h8 : m ≤ 8) (ix : Int) : ∃ (r1 : Int) (ii : Nat), ix.tmod (m : Int) = r1 ∧ -8 < r1 ∧ r1 < 8 ∧ (r1 + (m : Int)).tmod (m : Int) = (ii : Int) ∧ ii < m := by
  have h1 : ix.tmod (m : Int) < m := Int.tmod_lt_of_pos _ (by omega)
  have h2 : -(m : Int) < ix.tmod (m : Int) := by
    have := Int.tmod_lt_of_pos (-ix) (b := (m : Int)) (by omega)
    rw [Int.neg_tmod] at this
    omega
  have h3 : 0 ≤ (ix.tmod (m : Int) + m).tmod m := by
    rw [Int.tmod_eq_emod_of_nonneg (by omega)]
    exact Int.emod_nonneg _ (by omega)
  have h4 : (ix.tmod (m : Int) + m).tmod m < m := Int.tmod_lt_of_pos _ (by omega)
  exact ⟨_, ((ix.tmod (m : Int) + m).tmod m).toNat, rfl, by omega, by omega, by omega, by omega⟩
abbrev badk (p : Nat → Bool) (j : Nat) : List Nat := (List.range j).filter p
abbrev restk (p : Nat → Bool) (j : Nat) : List Nat := (List.range j).filter (fun i => !p i)
theorem badk_step (p : Nat → Bool) (j : Nat) : badk p (j + 1) = badk p j ++ (if p j then [j] else []) := by
  unfold badk
  rw [List.range_succ, List.filter_append]
  cases hp : p j <;> simp [hp]
theorem restk_step (p : Nat → Bool) (j : Nat) : restk p (j + 1) = restk p j ++ (if p j then [] else [j]) := by
  unfold restk
  rw [List.range_succ, List.filter_append]
  cases hp : p j <;> simp [hp]
theorem badk_len (p : Nat → Bool) (j : Nat) : (badk p j).length ≤ j := by
  have := List.length_filter_le p (List.range j)
  simpa using this
theorem restk_len (p : Nat → Bool) (j : Nat) : (restk p j).length ≤ j := by
  have := List.length_filter_le (fun i => !p i) (List.range j)
  simpa using this
/-- The law's four lists when j pieces are done. -/
structure TSt (hds : List Hd) (p : Nat → Bool) (W0 wr : World) (j : Nat) (x b a c : Value) : Prop where
  bw : Below W0.heap.size W0 wr
  ox : Own fI TI wr W0.heap.size x (List.range j)
  ob : Own fI TI wr W0.heap.size b (badk p j)
  oa : Own fI TI wr W0.heap.size a (restk p j)
  oc : Own fS TR wr W0.heap.size c ((restk p j).map (hdAt hds))
  xb : Dj x b
  xa : Dj x a
  ba : Dj b a
theorem dj_ne {n c n' c' : Nat} {g g' : Nat} (h : g ≠ g') : Dj (.slice (some ⟨g, 0, none⟩) n c) (.slice (some ⟨g', 0, none⟩) n' c') := fun k h1 h2 => by
  injection h1 with h1
  injection h2 with h2
  exact h (h1.trans h2.symm)
theorem TSt.start (hds : List Hd) (p : Nat → Bool) (W0 : World) : TSt hds p W0 ((((W0.alloc (.cells #[] TI)).alloc (.cells #[] TI)).alloc (.cells #[] TI)).alloc (.cells #[] TR)) 0 (.slice (some ⟨W0.heap.size, 0, none⟩) 0 0) (.slice (some ⟨W0.heap.size + 1, 0, none⟩) 0 0) (.slice (some ⟨W0.heap.size + 2, 0, none⟩) 0 0) (.slice (some ⟨W0.heap.size + 3, 0, none⟩) 0 0) := by
  have e1 : (W0.alloc (.cells #[] TI)).heap.size = W0.heap.size + 1 := by simp
  have e2 : ((W0.alloc (.cells #[] TI)).alloc (.cells #[] TI)).heap.size = W0.heap.size + 2 := by simp
  have e3 : (((W0.alloc (.cells #[] TI)).alloc (.cells #[] TI)).alloc (.cells #[] TI)).heap.size = W0.heap.size + 3 := by simp
  have hx : Own fI TI (W0.alloc (.cells #[] TI)) W0.heap.size (.slice (some ⟨W0.heap.size, 0, none⟩) 0 0) ([] : List Nat) := World.ownsRow_made W0 #[] 0 (Nat.le_refl _) (Nat.zero_le _) (by simp)
  have hb : Own fI TI ((W0.alloc (.cells #[] TI)).alloc (.cells #[] TI)) W0.heap.size (.slice (some ⟨W0.heap.size + 1, 0, none⟩) 0 0) ([] : List Nat) := by
    rw [← e1]; exact World.ownsRow_made _ #[] 0 (by simp) (Nat.zero_le _) (by simp)
  have ha : Own fI TI (((W0.alloc (.cells #[] TI)).alloc (.cells #[] TI)).alloc (.cells #[] TI)) W0.heap.size (.slice (some ⟨W0.heap.size + 2, 0, none⟩) 0 0) ([] : List Nat) := by
    rw [← e2]; exact World.ownsRow_made _ #[] 0 (by simp <;> omega) (Nat.zero_le _) (by simp)
  have hc : Own fS TR ((((W0.alloc (.cells #[] TI)).alloc (.cells #[] TI)).alloc (.cells #[] TI)).alloc (.cells #[] TR)) W0.heap.size (.slice (some ⟨W0.heap.size + 3, 0, none⟩) 0 0) ([] : List Hd) := by
    rw [← e3]; exact World.ownsRow_made _ #[] 0 (by simp <;> omega) (Nat.zero_le _) (by simp)
  exact ⟨((((Below.refl _ W0).alloc (by simp) _).alloc (by simp <;> omega) _).alloc (by simp <;> omega) _).alloc (by simp <;> omega) _, ((hx.alloc _).alloc _).alloc _, (hb.alloc _).alloc _, ha.alloc _, hc, dj_ne (by omega), dj_ne (by omega), dj_ne (by omega)⟩
theorem Dj.new2 {α : Type} {f : α → Value} {e : TypeId} {w : World} {b : Nat} {v v2 v3 : Value} {xs : List α} (h : Own f e w b v xs) (hd : Dj v v2) (hv : v3.ownBlock = v2.ownBlock ∨ ∃ g, v3.ownBlock = some g ∧ w.heap.size ≤ g) : Dj v v3 := fun g h1 h2 => by
  rcases hv with h3 | ⟨g', h3, h4⟩
  · exact hd g h1 (h3 ▸ h2)
  · rw [h3] at h2
    injection h2 with h2
    have := (World.ownsRow.lt h g h1).2
    omega
theorem below_dN' {B : Nat} {w w' : World} (h : Below B w w') (n : Nat) : Below B w (w'.drewN n) := ⟨h.os, h.tape, h.output, h.size, h.block⟩
abbrev TWr : TypeId := 32
theorem Try.sizeWr : (Try.prog.info? 32).map (·.size) = some 2 := by kernel_rfl
abbrev cWr (ix : Int) (a : Option Addr) (l c : Nat) : Array Value := #[.int .i64 ix, .slice a l c]
theorem cWr_one (ix : Int) (a : Option Addr) (l c : Nat) : (cWr ix a l c).all (·.oneCell') = true := by
  rw [Array.all_eq_true']
  intro u hu
  simp only [cWr, List.mem_toArray, List.mem_cons, List.not_mem_nil, or_false] at hu
  rcases hu with rfl | rfl <;> rfl
theorem wr_of {w : World} {g : Nat} {ix : Int} {a : Option Addr} {l c : Nat} {t : TypeId} (h : w.heap[g]? = some (.cells (cWr ix a l c) t (0, 0))) : w.cell? ⟨g, 0, none⟩ = some (.int .i64 ix) ∧ w.cell? ⟨g, 1, none⟩ = some (.slice a l c) := by
  refine ⟨?_, ?_⟩ <;> (rw [cell_of_row w g _ _ _ _ h]; rfl)
end Go.Proofs.Ytpbeaghghlfiaaa
