/- Locate's lists: what an append keeps of the others. -/
import Derived.Test.YtpbeaghghlfiaaaC9
namespace Go.Proofs.Ytpbeaghghlfiaaa
open Go.RowKit Go.Lib
set_option linter.unusedVariables false
set_option linter.unusedSimpArgs false
theorem foldl_set : ∀ (l : List Value) (k : Nat) (cs : Array Value), k + l.length ≤ cs.size →
    (((l.zipIdx k).foldl (fun cs (p : Value × Nat) => cs.setIfInBounds (0 + p.2) p.1) cs).size = cs.size ∧ ∀ i, ((l.zipIdx k).foldl (fun cs (p : Value × Nat) => cs.setIfInBounds (0 + p.2) p.1) cs)[i]? = if k ≤ i ∧ i < k + l.length then l[i - k]? else cs[i]?)
  | [], k, cs, _ => by
    refine ⟨rfl, fun i => ?_⟩
    rw [if_neg (by simp only [List.length_nil]; omega)]
    rfl
  | v :: l, k, cs, h => by
    simp only [List.length_cons] at h
    obtain ⟨h1, h2⟩ := foldl_set l (k + 1) (cs.setIfInBounds (0 + k) v) (by simp; omega)
    rw [List.zipIdx_cons, List.foldl_cons]
    refine ⟨by rw [h1]; simp, fun i => ?_⟩
    rw [h2 i]
    by_cases hi : i = k
    · subst hi
      rw [if_neg (by omega), if_pos (by simp), Nat.zero_add, Nat.sub_self, Array.getElem?_setIfInBounds, if_pos rfl, if_pos (by omega)]
      rfl
    · by_cases h3 : k + 1 ≤ i ∧ i < k + 1 + l.length
      · rw [if_pos h3, if_pos (by simp; omega)]
        have : i - k = (i - (k + 1)) + 1 := by omega
        rw [this, List.getElem?_cons_succ]
      · rw [if_neg h3, if_neg (by simp; omega), Nat.zero_add, Array.getElem?_setIfInBounds_ne (by omega)]
theorem foldl_all (cs base : Array Value) (h : cs.size = base.size) : cs.zipIdx.foldl (fun a (p : Value × Nat) => a.setIfInBounds (0 + p.2) p.1) base = cs := by
  obtain ⟨l⟩ := cs
  have h' : l.length = base.size := h
  rw [← Array.foldl_toList, Array.toList_zipIdx]
  obtain ⟨h1, h2⟩ := foldl_set l 0 base (by omega)
  apply Array.ext_getElem?
  intro i
  rw [h2 i]
  by_cases hi : i < l.length
  · rw [if_pos ⟨Nat.zero_le _, by omega⟩]; simp
  · rw [if_neg (by omega), Array.getElem?_eq_none (by omega), Array.getElem?_eq_none (by simpa using hi)]
theorem run_buildSlice1 {P : Program} {t e : TypeId} {i : TypeInfo} {z : Value} {s : Nat} (ht : P.underlying t = some (.slice e)) (hi : P.info? e = some i) (hz : i.zero = some z) (hs : i.size = s) (hzs : z.cells.size = s) (h0 : 0 < s) (h24 : s ≤ 16777216) (v : Value) (hv : v.cells.size = s) (w : World) :
    (Instr.buildSlice t 1 #[(0, v)]).run P w = .ok (.slice (some ⟨w.heap.size, 0, none⟩) 1 1) (w.alloc (.cells v.cells e)) := by
  have h1 : ¬ 16777216 < s := by omega
  have h2 : ¬ s = 0 := by omega
  have hf : Instr.fill (fun i => some (i * s, s)) ((Array.range (1 * s)).map (z.cells[· % z.cells.size]!)) [(0, v)] = some v.cells := by
    unfold Instr.fill
    simp only [Nat.zero_mul, hv, ne_eq, not_true_eq_false, decide_false, Bool.false_or, Nat.zero_add, Array.size_map, Array.size_range, Nat.one_mul, Nat.lt_irrefl, gt_iff_lt]
    have := foldl_all v.cells ((Array.range s).map (z.cells[· % z.cells.size]!)) (by simp [hv])
    simp only [Nat.zero_add] at this
    unfold Instr.fill
    exact congrArg some this
  simp only [Nat.one_mul] at hf
  simp [Instr.buildSlice, run_underlying ht, sizeOf, typeInfo, zeroValue, hi, hz, hs, h1, h2, hf, newRow]
/-- A slice literal of one cell, in a region that draws its order. -/
theorem step_one {P : Program} {w : World} {ops : Array Oper} {o : Oper} {a : Act} {K : Act → World → Prop} {Q : Exit → Act → World → Prop} {E : Prop} (hgd : o.guard = none) (t e : TypeId) (x : Operand) (ho : o.op = .buildSlice t 1 #[(0, x)]) (i : TypeInfo) (z : Value) (ht : P.underlying t = some (.slice e)) (hi : P.info? e = some i) (hz : i.zero = some z) (hs : i.size = 1) (hzs : z.cells.size = 1) (v : Value) (hx : a.eval x = v) (hv : v.cells = #[v])
    (h : ∀ g w', Hid (w'.heap[g]? = some (.cells #[v] e (0, 0))) → Hid (Below w.heap.size w w') → K (a.put o.dst (.slice (some ⟨g, 0, none⟩) 1 1)) w') : if Region.wanted o (yielded ops a.tmps) = true then Oper.wp P o a w K Q else E := by
  have hw : Region.wanted o (yielded ops a.tmps) = true := by simp [Region.wanted, hgd]
  rw [if_pos hw]
  have hrun := run_buildSlice1 ht hi hz hs hzs (by omega) (by omega) v (by rw [hv]; rfl) w
  rw [hv] at hrun
  unfold Oper.wp
  simp [execOp, ho, hx, hrun, Result.andThen]
  exact h _ _ (heap_alloc_new w _) ((Below.refl _ _).alloc (Nat.le_refl _) _)
/-- Rows of two kinds lie apart. -/
theorem own_far {α β : Type} {f : α → Value} {g : β → Value} {e1 e2 : TypeId} {w w' : World} {b1 b2 : Nat} {v1 v2 : Value} {xs : List α} {ys : List β} (h : Own f e1 w b1 v1 xs) (h2 : Own g e2 w b2 v2 ys) (hg : w.grownBy w' v2.ownBlock) (hne : e1 ≠ e2) : Own f e1 w' b1 v1 xs := by
  refine h.kept hg ?_
  cases hb : v1.ownBlock with
  | none => exact .inl rfl
  | some b =>
    refine .inr (fun e => ?_)
    obtain ⟨cs, q1⟩ := h.block hb
    obtain ⟨ds, q2⟩ := h2.block e.symm
    exact type_ne q1 q2 hne rfl
theorem cell_far {β : Type} {g : β → Value} {t e2 : TypeId} {w w' : World} {b b2 : Nat} {v2 : Value} {cs : Array Value} {fr : Nat × Nat} {ys : List β} (h : w.heap[b]? = some (.cells cs t fr)) (h2 : Own g e2 w b2 v2 ys) (hg : w.grownBy w' v2.ownBlock) (hne : t ≠ e2) : w'.heap[b]? = some (.cells cs t fr) :=
  (hg.block b (lt_block h) (fun e => by
    obtain ⟨ds, q2⟩ := h2.block e.symm
    exact type_ne h q2 hne rfl)).trans h
/-- Two rows lie apart. -/
def Dj (a b : Value) : Prop := ∀ g, a.ownBlock = some g → b.ownBlock ≠ some g
theorem Dj.symm {a b : Value} (h : Dj a b) : Dj b a := fun g h1 h2 => h g h2 h1
theorem own_dj {α : Type} {f : α → Value} {e : TypeId} {w w' : World} {b : Nat} {v v2 : Value} {xs : List α} (h : Own f e w b v xs) (hd : Dj v v2) (hg : w.grownBy w' v2.ownBlock) : Own f e w' b v xs := by
  refine h.kept hg ?_
  cases hb : v.ownBlock with
  | none => exact .inl rfl
  | some g => exact .inr (fun e => hd g hb e.symm)
theorem Dj.new {α : Type} {f : α → Value} {e : TypeId} {w : World} {b : Nat} {v v2 v3 : Value} {xs : List α} (h : Own f e w b v xs) (hd : Dj v v2) (hv : v3.ownBlock = v2.ownBlock ∨ v3.ownBlock = some w.heap.size) : Dj v v3 := fun g h1 h2 => by
  rcases hv with h3 | h3
  · exact hd g h1 (h3 ▸ h2)
  · rw [h3] at h2
    injection h2 with h2
    have := (World.ownsRow.lt h g h1).2
    omega
theorem Dj.nil (v : Value) : Dj (.slice none 0 0) v := fun g h => by cases h
/-- The head of a row. -/
def hdAt (hds : List Hd) (i : Nat) : Hd := hds.getD i ⟨none, 0, 0⟩
/-- Locate's four lists when j indices are done. -/
structure LSt (hds : List Hd) (W0 wr : World) (k j : Nat) (a b c d : Value) : Prop where
  bw : Below W0.heap.size W0 wr
  oa : Own fI TI wr W0.heap.size a (rightL j k)
  ob : Own fI TI wr W0.heap.size b (otherL j k)
  oc : Own fS TR wr W0.heap.size c ((rightL j k).map (hdAt hds))
  od : Own fS TR wr W0.heap.size d ((otherL j k).map (hdAt hds))
  ab : Dj a b
  cd : Dj c d
theorem LSt.start (hds : List Hd) (W0 : World) (k : Nat) : LSt hds W0 W0 k 0 (.slice none 0 0) (.slice none 0 0) (.slice none 0 0) (.slice none 0 0) :=
  ⟨Below.refl _ _, Own.nil, Own.nil, Own.nil, Own.nil, Dj.nil _, Dj.nil _⟩
/-- The rows under the heads. -/
theorem sll_of {hds : List Hd} {given : Mt} {B n : Nat} {W V : World} {base : Nat} {v : Value} {l : List Nat} (hg : given.length = n) (hl : hds.length = n) (hr : ∀ (k : Nat) hd r, hds[k]? = some hd → given[k]? = some r → Sl fN W B hd.a hd.n r) (hb : Below B W V) (hB : B ≤ V.heap.size) (ho : Own fS TR V base v (l.map (hdAt hds))) (hi : ∀ i ∈ l, i < n) :
    ∃ A c, v = .slice A l.length c ∧ l.length ≤ c ∧ SLL fN V V.heap.size A l.length (atL given l) := by
  obtain ⟨A, c, h1, h2, h3, _⟩ := ho.shape
  rw [List.length_map] at h1 h2
  refine ⟨A, c, h1, h2, l.map (hdAt hds), ⟨by simp, h3⟩, by unfold atL; simp, fun k hd r q1 q2 => ?_⟩
  rw [List.getElem?_map] at q1
  unfold atL at q2
  rw [List.getElem?_map] at q2
  obtain ⟨i, hi1, rfl⟩ := Option.map_eq_some_iff.1 q1
  rw [hi1] at q2
  have hin := hi i (List.mem_of_getElem? hi1)
  obtain ⟨hd, hhd⟩ := get_ex (xs := hds) (k := i) (by omega)
  obtain ⟨r', hr'⟩ := get_ex (xs := given) (k := i) (by omega)
  have e1 : hdAt hds i = hd := getD_some hhd
  have e2 : r = r' := by
    have q3 : some (given.getD i []) = some r := q2
    injection q3 with q3
    rw [← q3, getD_some hr']
  rw [e1, e2]
  exact ((hr i hd r' hhd hr').up hb (Nat.le_refl _)).more' hB
end Go.Proofs.Ytpbeaghghlfiaaa
