/- A slice literal of one great struct; a row of great structs. Slice literals at a step of a region that draws its order. -/
import Derived.Test.YtpdledjgbgalcaaGreatDoorJ7
namespace Go.Proofs.YtpdledjgbgalcaaGreatDoor
open Go.RowKit Go.Lib
set_option linter.unusedVariables false
set_option linter.unusedSimpArgs false
theorem foldl_set : ∀ (l : List Value) (k : Nat) (cs : Array Value), k + l.length ≤ cs.size →
    (((l.zipIdx k).foldl (fun cs (p : Value × Nat) => cs.setIfInBounds (0 + p.2) p.1) cs).size = cs.size ∧ ∀ i, ((l.zipIdx k).foldl (fun cs (p : Value × Nat) => cs.setIfInBounds (0 + p.2) p.1) cs)[i]? = if k ≤ i ∧ i < k + l.length then l[i - k]? else cs[i]?)
  | [], k, cs, _ => by
    refine ⟨rfl, fun i => ?_⟩
    rw [if_neg (by simp only [List.length_nil]; omega)]
    rfl
  | v :: l, k, cs, h => by
    simp only [List.length_cons] at h
    obtain ⟨h1, h2⟩ := foldl_set l (k + 1) (cs.setIfInBounds (0 + k) v) (by simp; omega)
    rw [List.zipIdx_cons, List.foldl_cons]
    refine ⟨by rw [h1]; simp, fun i => ?_⟩
    rw [h2 i]
    by_cases hi : i = k
    · subst hi
      rw [if_neg (by omega), if_pos (by simp), Nat.zero_add, Nat.sub_self, Array.getElem?_setIfInBounds, if_pos rfl, if_pos (by omega)]
      rfl
    · by_cases h3 : k + 1 ≤ i ∧ i < k + 1 + l.length
      · rw [if_pos h3, if_pos (by simp; omega)]
        have : i - k = (i - (k + 1)) + 1 := by omega
        rw [this, List.getElem?_cons_succ]
      · rw [if_neg h3, if_neg (by simp; omega), Nat.zero_add, Array.getElem?_setIfInBounds_ne (by omega)]
theorem foldl_all (cs base : Array Value) (h : cs.size = base.size) : cs.zipIdx.foldl (fun a (p : Value × Nat) => a.setIfInBounds (0 + p.2) p.1) base = cs := by
  obtain ⟨l⟩ := cs
  have h' : l.length = base.size := h
  rw [← Array.foldl_toList, Array.toList_zipIdx]
  obtain ⟨h1, h2⟩ := foldl_set l 0 base (by omega)
  apply Array.ext_getElem?
  intro i
  rw [h2 i]
  by_cases hi : i < l.length
  · rw [if_pos ⟨Nat.zero_le _, by omega⟩]; simp
  · rw [if_neg (by omega), Array.getElem?_eq_none (by omega), Array.getElem?_eq_none (by simpa using hi)]
theorem run_buildSlice1 {P : Program} {t e : TypeId} {i : TypeInfo} {z : Value} {s : Nat} (ht : P.underlying t = some (.slice e)) (hi : P.info? e = some i) (hz : i.zero = some z) (hs : i.size = s) (hzs : z.cells.size = s) (h0 : 0 < s) (h24 : s ≤ 16777216) (v : Value) (hv : v.cells.size = s) (w : World) :
    (Instr.buildSlice t 1 #[(0, v)]).run P w = .ok (.slice (some ⟨w.heap.size, 0, none⟩) 1 1) (w.alloc (.cells v.cells e)) := by
  have h1 : ¬ 16777216 < s := by omega
  have h2 : ¬ s = 0 := by omega
  have hf : Instr.fill (fun i => some (i * s, s)) ((Array.range (1 * s)).map (z.cells[· % z.cells.size]!)) [(0, v)] = some v.cells := by
    unfold Instr.fill
    simp only [Nat.zero_mul, hv, ne_eq, not_true_eq_false, decide_false, Bool.false_or, Nat.zero_add, Array.size_map, Array.size_range, Nat.one_mul, Nat.lt_irrefl, gt_iff_lt]
    have := foldl_all v.cells ((Array.range s).map (z.cells[· % z.cells.size]!)) (by simp [hv])
    simp only [Nat.zero_add] at this
    unfold Instr.fill
    exact congrArg some this
  simp only [Nat.one_mul] at hf
  simp [Instr.buildSlice, run_underlying ht, sizeOf, typeInfo, zeroValue, hi, hz, hs, h1, h2, hf, newRow]
theorem wpList_load_midJ {P : Program} {ops : Array Oper} {rest : List Oper} {op : Oper} {a : Act} {w : World} {Q : Exit → Act → World → Prop} (hw : Region.wanted op (yielded ops a.tmps) = true) (ty : TypeId) (x : Operand) (ho : op.op = .load ty x)
    (b o : Nat) (hx : a.eval x = .pointer (some ⟨b, o, none⟩)) (cs : List Value) (d : TypeDesc) (hc : w.rangeAt b o cs)
    (hu : P.underlying ty = some d) (hd : d.isRow = true) (hi : (P.info? ty).map (·.size) = some cs.length)
    (h : wpList P ops Q rest (a.put op.dst (.agg cs.toArray)) w) : wpList P ops Q (op :: rest) a w :=
  BigFrame.wpList_want hw fun _ hK => wp_load_mid ty x ho b o hx cs d hc hu hd hi (hK _ _ h)
theorem wpList_buildSlice1 {P : Program} {ops : Array Oper} {rest : List Oper} {o : Oper} {a : Act} {w : World} {Q : Exit → Act → World → Prop} (hgd : o.guard = none) (t : TypeId) (x : Operand) (ho : o.op = .buildSlice t 1 #[(0, x)])
    (e : TypeId) (i : TypeInfo) (z : Value) (s : Nat) (ht : P.underlying t = some (.slice e)) (hi : P.info? e = some i) (hz : i.zero = some z) (hs : i.size = s) (hzs : z.cells.size = s) (h0 : 0 < s) (h24 : s ≤ 16777216) (cs : Array Value) (hx : a.eval x = .agg cs) (hv : cs.size = s)
    (h : wpList P ops Q rest (a.put o.dst (.slice (some ⟨w.heap.size, 0, none⟩) 1 1)) (w.alloc (.cells cs e))) : wpList P ops Q (o :: rest) a w := by
  refine wpList_plain hgd fun K hK => ?_
  have hrun := run_buildSlice1 ht hi hz hs hzs h0 h24 (.agg cs) hv w
  unfold Oper.wp
  simp [execOp, ho, hx, hrun, Result.andThen]
  exact hK _ _ h
/-! ### Accusations and charges in rows -/
/-- An accusation in memory. -/
structure AcR where
  a : Ac
  pa : Hd
  pb : Hd
  pc : Hd
abbrev AcR.R (r : AcR) : Rcp := rHd r.a.R r.pa r.pb r.pc
abbrev cAr (r : AcR) : Array Value := cA r.a.d r.a.q r.R r.a.st r.a.ix r.a.no r.a.an
abbrev fAr (r : AcR) : List Value := (cAr r).toList
theorem fAr_len : ∀ r, (fAr r).length = 20 := fun _ => rfl
theorem fAr_one (r : AcR) : ∀ u ∈ fAr r, u.oneCell' = true := fun u hu => by
  simp only [fAr, cAr, cA, List.mem_cons, List.not_mem_nil, or_false] at hu
  rcases hu with rfl | rfl | rfl | rfl | rfl | rfl | rfl | rfl | rfl | rfl | rfl | rfl | rfl | rfl | rfl | rfl | rfl | rfl | rfl | rfl <;> rfl
/-- Its lists are the call's own. -/
def ArO (w : World) (base : Nat) (r : AcR) : Prop := RcO w base r.R r.a.ps r.a.qs r.a.rs
theorem ArO.rcIn {w : World} {base : Nat} {r : AcR} (h : ArO w base r) : RcIn w w.heap.size r.R r.a.ps r.a.qs r.a.rs ∧ r.R.pa.n ≤ r.R.pa.c := by
  refine ⟨RcO.rcIn h, ?_⟩
  obtain ⟨A, c, h5, h6, _⟩ := h.1.shape
  injection h5 with h7 h8 h9
  show r.pa.n ≤ r.pa.c
  have h10 : r.pa.n = r.a.ps.length := h8
  have h11 : r.pa.c = c := h9
  omega
theorem ArO.on {w w' : World} {base : Nat} {r : AcR} (h : ArO w base r) (hb : Below w.heap.size w w') : ArO w' base r := RcO.on h hb
theorem ownN_apart {α β : Type} {f : α → Value} {f' : β → List Value} {s : Nat} {w : World} {base base' : Nat} {e e' : TypeId} {v v' : Value} {xs : List α} {ys : List β} (h : Own f e w base v xs) (h' : OwnN f' s e' w base' v' ys) (hne : e ≠ e') : v.ownBlock = none ∨ v.ownBlock ≠ v'.ownBlock := by
  rcases h.2 with ⟨rfl, h0⟩ | ⟨g, cap, cur, rfl, h1, hg, h2⟩
  · exact .inl rfl
  · right
    rcases h'.2 with ⟨rfl, h0⟩ | ⟨g', cap', cur', rfl, h1', hg', h2'⟩
    · intro e; cases e
    · intro e
      have e1 : g = g' := by injection e
      subst e1
      rw [hg] at hg'
      injection hg' with hg'
      injection hg' with _ ht _
      exact hne ht
/-- A row of another type has grown: the lists are as they were. -/
theorem ArO.grown {α : Type} {f : α → List Value} {s : Nat} {t : TypeId} {w w' : World} {base base' : Nat} {v : Value} {xs : List α} {r : AcR} (h : ArO w base r) (ho : OwnN f s t w base' v xs) (hg : w.grownBy w' v.ownBlock) (hne : 9 ≠ t) : ArO w' base r :=
  ⟨World.ownsRow.kept h.1 hg (ownN_apart h.1 ho hne), World.ownsRow.kept h.2.1 hg (ownN_apart h.2.1 ho hne), World.ownsRow.kept h.2.2 hg (ownN_apart h.2.2 ho hne)⟩
/-- A charge in memory. -/
structure CgR where
  r : AcR
  e : EnR
abbrev fCg (c : CgR) : List Value := fAr c.r ++ fEn c.e
theorem fCg_len : ∀ c, (fCg c).length = 26 := fun _ => rfl
theorem fCg_one (c : CgR) : ∀ u ∈ fCg c, u.oneCell' = true := fun u hu => by
  rcases List.mem_append.1 hu with h | h
  · exact fAr_one _ u h
  · exact fEn_one _ u h
theorem Tryz.infoCg : (Tryz.prog.info? 109).map (fun i => (i.zero.map (·.cells.size), i.size, i.bytes)) = some (some 26, 26, 320) := by kernel_rfl
theorem Tryz.infoAr : (Tryz.prog.info? 39).map (fun i => (i.zero.map (·.cells.size), i.size, i.bytes)) = some (some 20, 20, 248) := by kernel_rfl
theorem info_partsN {P : Program} {e : TypeId} {n s b : Nat} (h : (P.info? e).map (fun i => (i.zero.map (·.cells.size), i.size, i.bytes)) = some (some n, s, b)) : ∃ i z, P.info? e = some i ∧ i.zero = some z ∧ i.size = s ∧ i.bytes = b ∧ z.cells.size = n := by
  obtain ⟨i, h1, h2⟩ := Option.map_eq_some_iff.1 h
  injection h2 with h3 h4
  injection h4 with h5 h6
  obtain ⟨z, h7, h8⟩ := Option.map_eq_some_iff.1 h3
  exact ⟨i, z, h1, h7, h5, h6, h8⟩
end Go.Proofs.YtpdledjgbgalcaaGreatDoor
namespace Go.Proofs.YtpdledjgbgalcaaGreatDoor
open Go.RowKit Go.Lib
set_option linter.unusedVariables false
set_option linter.unusedSimpArgs false
theorem run_buildSlice0 {P : Program} {t e : TypeId} {i : TypeInfo} (ht : P.underlying t = some (.slice e)) (hi : P.info? e = some i) (w : World) :
    (Instr.buildSlice t 0 #[]).run P w = .ok (.slice (some ⟨w.heap.size, 0, none⟩) 0 0) (w.alloc (.cells #[] e)) := by
  have h0 : Array.range 0 = #[] := by simp
  simp [Instr.buildSlice, run_underlying ht, sizeOf, typeInfo, hi, Instr.fill, newRow, h0]
/-- 'T{}' -/
theorem step_lit0 {P : Program} {w : World} {α : Type} {f : α → List Value} {s : Nat} {ops : Array Oper} {o : Oper} {a : Act} {K : Act → World → Prop} {Q : Exit → Act → World → Prop} {E : Prop} (hgd : o.guard = none) (t e : TypeId) (ho : o.op = .buildSlice t 0 #[]) (i : TypeInfo) (ht : P.underlying t = some (.slice e)) (hi : P.info? e = some i)
    (base : Nat) (hb : base ≤ w.heap.size)
    (h : ∀ g w', Hid (OwnN f s e w' base (.slice (some ⟨g, 0, none⟩) 0 0) []) → Hid (Below w.heap.size w w') → Hid (g = w.heap.size ∧ w'.heap.size = g + 1) → K (a.put o.dst (.slice (some ⟨g, 0, none⟩) 0 0)) w') : if Region.wanted o (yielded ops a.tmps) = true then Oper.wp P o a w K Q else E := by
  have hw : Region.wanted o (yielded ops a.tmps) = true := by simp [Region.wanted, hgd]
  rw [if_pos hw]
  have hrun := run_buildSlice0 (P := P) ht hi w
  unfold Oper.wp
  simp [execOp, ho, hrun, Result.andThen]
  exact h _ _ (World.ownsRow_made w #[] 0 hb (Nat.zero_le _) (by simp)) ((Below.refl _ _).alloc (Nat.le_refl _) _) ⟨rfl, by simp⟩
/-- 'T{y}' -/
theorem step_lit1 {P : Program} {w : World} {ops : Array Oper} {o : Oper} {a : Act} {K : Act → World → Prop} {Q : Exit → Act → World → Prop} {E : Prop} (hgd : o.guard = none) (t e : TypeId) (x : Operand) (ho : o.op = .buildSlice t 1 #[(0, x)]) (i : TypeInfo) (z : Value) (s : Nat) (ht : P.underlying t = some (.slice e)) (hi : P.info? e = some i) (hz : i.zero = some z) (hs : i.size = s) (hzs : z.cells.size = s) (h0 : 0 < s) (h24 : s ≤ 16777216) (cs : Array Value) (hx : a.eval x = .agg cs) (hv : cs.size = s)
    (h : ∀ g w', Hid (w'.heap[g]? = some (.cells cs e (0, 0))) → Hid (Below w.heap.size w w') → Hid (g = w.heap.size ∧ w'.heap.size = g + 1) → K (a.put o.dst (.slice (some ⟨g, 0, none⟩) 1 1)) w') : if Region.wanted o (yielded ops a.tmps) = true then Oper.wp P o a w K Q else E := by
  have hw : Region.wanted o (yielded ops a.tmps) = true := by simp [Region.wanted, hgd]
  rw [if_pos hw]
  have hrun := run_buildSlice1 ht hi hz hs hzs h0 h24 (.agg cs) hv w
  unfold Oper.wp
  simp [execOp, ho, hx, hrun, Result.andThen]
  exact h _ _ (heap_alloc_new w _) ((Below.refl _ _).alloc (Nat.le_refl _) _) ⟨rfl, by simp⟩
theorem SlN.oneK {α : Type} {f : α → List Value} {s : Nat} {w : World} {g : Nat} {t : TypeId} {y : α} (h : w.heap[g]? = some (.cells (f y).toArray t (0, 0))) : SlN f s w (g + 1) (some ⟨g, 0, none⟩) 1 [y] := SlN.oneJ h (Nat.lt_succ_self _)
theorem Tryz.infoEn : (Tryz.prog.info? 55).map (fun i => (i.zero.map (·.cells.size), i.size, i.bytes)) = some (some 6, 6, 72) := by kernel_rfl
/-- 'append(append([]LogEntry{}, v.Entries...), x)' in a region that draws its order. -/
theorem app_tail {w w' : World} {base : Nat} {v : Value} {xs : List EnR} (h : OwnN fEn 6 55 w base v xs) {w0 : World} (hb : Below base w0 w) (hs : base ≤ w.heap.size) (hg : w.grownBy w' v.ownBlock) : Below base w0 w' := OwnN.below h hb (Nat.le_refl _) hs hg
end Go.Proofs.YtpdledjgbgalcaaGreatDoor
