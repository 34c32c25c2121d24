/- The reference: Sorted. -/
import Derived.Test.YtfffhdclbdmfnaaRrn
import Derived.Deep.Onto
import Derived.Laws.OwnMore
namespace Go.Proofs.Ytfffhdclbdmfnaa
open Go.RowKit Ret
set_option linter.unusedVariables false
set_option linter.unusedSimpArgs false

theorem ins_take (x : Int) : ∀ (L : List Int) (q : Nat), (∀ y ∈ L.take q, y < x) → ins x L = L.take q ++ ins x (L.drop q)
  | _, 0, _ => by simp
  | [], q + 1, _ => by simp
  | y :: L, q + 1, h => by
    have h1 : y < x := h y (by simp)
    rw [ins, if_pos h1, List.take_succ_cons, List.drop_succ_cons, List.cons_append, ins_take x L q (fun z hz => h z (by rw [List.take_succ_cons]; exact List.mem_cons_of_mem _ hz))]
/-- The number stands there. -/
theorem ins_there {x : Int} {L : List Int} {q : Nat} (h : ∀ y ∈ L.take q, y < x) (hq : L[q]? = some x) : ins x L = L := by
  rw [ins_take x L q h]
  obtain ⟨h1, h2⟩ := List.getElem?_eq_some_iff.1 hq
  rw [List.drop_eq_getElem_cons h1, h2, ins, if_neg (by omega), if_pos rfl]
  conv => rhs; rw [← List.take_append_drop q L, List.drop_eq_getElem_cons h1, h2]
/-- It goes in. -/
theorem ins_new {x : Int} {L : List Int} {q : Nat} (h : ∀ y ∈ L.take q, y < x) (hq : ∀ y, L[q]? = some y → x < y) : ins x L = (L.take q ++ [x]) ++ L.drop q := by
  rw [ins_take x L q h, List.append_assoc]
  congr 1
  cases hd : L.drop q with
  | nil => rfl
  | cons y l =>
    have h1 : L[q]? = some y := by
      have := congrArg (fun l : List Int => l[0]?) hd
      simpa using this
    have h2 := hq y h1
    rw [ins, if_neg (by omega), if_neg (by omega)]
    rfl
theorem ins_len (x : Int) : ∀ L : List Int, (ins x L).length ≤ L.length + 1
  | [] => by simp [ins]
  | y :: L => by
    have := ins_len x L
    rw [ins]
    split
    · simp only [List.length_cons]; omega
    · split
      · simp
      · simp
theorem srt_take_len (xs : List Int) (j : Nat) : (srt (xs.take j)).length ≤ j := Nat.le_trans (srt_len _) (List.length_take_le _ _)

/-- A slice of the call's own is a row that reads. -/
theorem Own.mono {α : Type} {f : α → Value} {e : TypeId} {w : World} {base base' : Nat} {v : Value} {xs : List α} (h : Own f e w base v xs) (hb : base' ≤ base) : Own f e w base' v xs := World.ownsRow.mono h hb
/-- 'append' at a step of a region that draws its order. -/
theorem step_app {P : Program} {w : World} {α : Type} {f : α → Value} {ops : Array Oper} {o : Oper} {a : Act} {K : Act → World → Prop} {Q : Exit → Act → World → Prop} {E : Prop} (sl x : Operand) (t : TypeId)
    (ho : o.op = .call { callee := .builtin .append, args := #[sl, x], argTypes := #[t, t] }) (hgd : o.guard = none)
    (e : TypeId) (i : TypeInfo) (z : Value) (bytes : Nat) (ht : P.underlying t = some (.slice e)) (hi : P.info? e = some i) (hz : i.zero = some z)
    (hsize : i.size = 1) (hby : i.bytes = bytes) (hzs : z.cells.size = 1) (xs : List α) (base : Nat) (hown : Own f e w base (a.eval sl) xs)
    (ys : List α) (hr : ∃ B A m c, a.eval x = .slice A m c ∧ Sl f w B A m ys) (h1 : ∀ y, (f y).oneCell' = true) (hbytes : (xs.length + ys.length) * bytes ≤ 140737488355328) (hmax : xs.length + ys.length ≤ maxLen) (hbase : base ≤ w.heap.size)
    (h : ∀ v' w', Hid (Own f e w' base v' (xs ++ ys)) → Hid (w.grownBy w' (a.eval sl).ownBlock) → Hid (v'.ownBlock = (a.eval sl).ownBlock ∨ v'.ownBlock = some w.heap.size) → Hid (∀ B0 w0, Below B0 w0 w → B0 ≤ base → Below B0 w0 w') → K (a.put o.dst v') w') :
    if Region.wanted o (yielded ops a.tmps) = true then Oper.wp P o a w K Q else E := by
  have hw : Region.wanted o (yielded ops a.tmps) = true := by simp [Region.wanted, hgd]
  rw [if_pos hw]
  obtain ⟨B, A, m, c, hx, hr⟩ := hr
  exact wp_app sl x t ho e i z bytes ht hi hz hsize hby hzs _ xs base rfl hown A m c B ys hx hr h1 hbytes hmax hbase fun v' w' h2 h3 h4 => h v' w' h2 h3 h4 fun B0 w0 hb hB => hown.below hb hB (Nat.le_trans hB hbase) h3
theorem run_slice_from {P : Program} (t e : Nat) (i : TypeInfo) (ht : P.underlying t = some (.slice e)) (hi : P.info? e = some i) (hs : i.size = 1) (A : Option Addr) (n c : Nat) (kh : IntKind) (h : Int) (m : Nat) (hm : h = m) (h2 : m ≤ n) (h3 : n ≤ c) (w : World) :
    (Instr.slice t (.slice A n c) (some (.int kh h)) none none).run P w = .ok (.slice (if c = m then A else A.map (·.add m)) (n - m) (c - m)) w := by
  subst hm
  simp [Instr.slice, run_underlying ht, Instr.sliceBounds, run_sliceBound w kh (m : Int) n _ (by omega) (by omega), sizeOf, typeInfo, hi, hs]
theorem below_dN {B : Nat} {a w : World} (h : Below B a w) (n : Nat) : Below B a (w.drewN n) := ⟨h.os, h.tape, h.output, h.size, h.block⟩
theorem kept_one {w w1 : World} {g gx : Nat} {x : Int} {t : TypeId} (hg : w.grownBy w1 (some g)) (hne : gx ≠ g) (h : w.heap[gx]? = some (.cells #[I x] t (0, 0))) : Sl I w1 w1.heap.size (some ⟨gx, 0, none⟩) 1 [x] := by
  have hl := lt_of_block h
  have h' : w1.heap[gx]? = some (.cells #[I x] t (0, 0)) := (hg.block gx hl (fun e => hne (by injection e))).trans h
  exact SL.sl (xs := [x]) (SL.of_block (t := t) (fr := (0, 0)) h' (lt_of_block h'))
theorem heap_new_at {w : World} {o : Obj} {k : Nat} (h : w.heap.size = k) : (w.alloc o).heap[k]? = some o := h ▸ heap_alloc_new w o
theorem new_one (w : World) (x : Int) (t : TypeId) : Sl I (w.alloc (.cells #[I x] t)) (w.heap.size + 1) (some ⟨w.heap.size, 0, none⟩) 1 [x] :=
  SL.sl (xs := [x]) (SL.of_block (t := t) (fr := (0, 0)) (heap_alloc_new w _) (Nat.lt_succ_self _))
end Go.Proofs.Ytfffhdclbdmfnaa
