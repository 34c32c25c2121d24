/- Words of our own, over whatever program: slices that read as lists; rows that the call owns; laws in their terms. -/
import Derived.WalkKit
import Derived.WalkSpells
import Derived.WalkLawsBesides
import Derived.Lib.Hide
import Derived.Deep.QuietTactic
import Derived.BigQuiet
import Derived.Deep.RegionHeld3
import Derived.Deep.DeepCutAuto
import Derived.Deep.LoopGhost
import Derived.Deep.AppendLies
import Derived.Laws.CopyOwn
import Derived.Deep.WholeRow
import Derived.StillTailTactics
namespace Go.Proofs.Ytpbeaghghlfiaaa
open Go.RowKit
set_option linter.unusedVariables false
set_option linter.unusedSimpArgs false

theorem ret_bool {a b : Bool} (h : a = b) : Ending.returned (.bool a) = .returned (.bool b) := by rw [h]
theorem ret_int {k : IntKind} {a b : Int} (h : a = b) : Ending.returned (.int k a) = .returned (.int k b) := by rw [h]

/-- A contract that leaves the world alone, as 'go_quiet' wants it. -/
theorem same_of {P : Program} {f : FuncId} {args : Array Value} {w : World} {v : Value}
    (h : Calls P f args w fun e w' => e = .returned v ∧ w = w') : Calls P f args w fun e w'' => e = .returned v ∧ w'' = w :=
  h.mono fun _ _ ⟨he, hm⟩ => ⟨he, hm.symm⟩

theorem get_ex {α : Type} {xs : List α} {k : Nat} (h : k < xs.length) : ∃ z, xs[k]? = some z := ⟨xs[k], List.getElem?_eq_getElem h⟩
theorem getD_of {α : Type} {xs : List α} {k : Nat} {z d : α} (h : xs[k]? = some z) : xs.getD k d = z := by simp [List.getD, h]
theorem take_snoc {α : Type} {xs : List α} {k : Nat} {x : α} (h : xs[k]? = some x) : xs.take (k + 1) = xs.take k ++ [x] := by
  obtain ⟨hk, rfl⟩ := List.getElem?_eq_some_iff.1 h
  rw [List.take_succ_eq_append_getElem hk]

/-- The cells from offset 'off' of block 'b' on are those of the list. -/
def At {α : Type} (f : α → Value) (w : World) (b off : Nat) (xs : List α) : Prop := ∀ k x, xs[k]? = some x → w.cell? ⟨b, off + k, none⟩ = some (f x)

/-- A slice's address leads to the list's cells, below block B. -/
def SL {α : Type} (f : α → Value) (w : World) (B : Nat) (A : Option Addr) (xs : List α) : Prop :=
  0 < xs.length → ∃ b off, A = some ⟨b, off, none⟩ ∧ b < B ∧ At f w b off xs

/-- .. with its length. -/
def Sl {α : Type} (f : α → Value) (w : World) (B : Nat) (A : Option Addr) (n : Nat) (xs : List α) : Prop := xs.length = n ∧ SL f w B A xs
theorem Sl.up {α : Type} {f : α → Value} {w w' : World} {B B' n : Nat} {A : Option Addr} {xs : List α} (h : Sl f w B A n xs) (hb : Below B' w w') (hB : B ≤ B') : Sl f w' B A n xs := ⟨h.1, fun hn => by
  obtain ⟨b, off, e, hlt, hc⟩ := h.2 hn
  exact ⟨b, off, e, hlt, fun k x hx => (hb.cell (Nat.lt_of_lt_of_le hlt hB)).trans (hc k x hx)⟩⟩
theorem Sl.more' {α : Type} {f : α → Value} {w : World} {B B' n : Nat} {A : Option Addr} {xs : List α} (h : Sl f w B A n xs) (hB : B ≤ B') : Sl f w B' A n xs := ⟨h.1, fun hn => by
  obtain ⟨b, off, e, hlt, hc⟩ := h.2 hn
  exact ⟨b, off, e, by omega, hc⟩⟩
theorem SL.sl {α : Type} {f : α → Value} {w : World} {B : Nat} {A : Option Addr} {xs : List α} (h : SL f w B A xs) : Sl f w B A xs.length xs := ⟨rfl, h⟩

section
variable {α : Type} {f : α → Value} {w w' : World} {b off B B' : Nat} {A : Option Addr} {xs ys : List α}

theorem At.zero (h : At f w b 0 xs) {k : Nat} {x : α} (hx : xs[k]? = some x) : w.cell? ⟨b, k, none⟩ = some (f x) := by
  have := h k x hx
  rwa [Nat.zero_add] at this
theorem At.drewN (h : At f w b off xs) (n : Nat) : At f (w.drewN n) b off xs := h
theorem At.keep (h : At f w b off xs) (hk : w'.heap[b]? = w.heap[b]?) : At f w' b off xs := fun k x hx => (World.cell?_of_block (w := w) (by exact hk)).trans (h k x hx)
theorem At.below (h : At f w b off xs) (hb : Below B w w') (hB : b < B) : At f w' b off xs := h.keep (hb.block b hB)
theorem At.of_block {t : TypeId} {fr : Nat × Nat} (h : w.heap[b]? = some (.cells (xs.map f).toArray t fr)) : At f w b 0 xs := fun k x hx => by
  rw [cell_of_row w b _ _ _ _ h]; simp [hx]

theorem SL.nil : SL f w B A [] := fun h => absurd h (by simp)
theorem SL.at_ (h : SL f w B A xs) {k : Nat} (hk : k < xs.length) : ∃ b off x, A = some ⟨b, off, none⟩ ∧ b < B ∧ xs[k]? = some x ∧ w.cell? ⟨b, off + k, none⟩ = some (f x) := by
  obtain ⟨b, off, e, hb, hc⟩ := h (by omega)
  exact ⟨b, off, xs[k], e, hb, List.getElem?_eq_getElem hk, hc k _ (List.getElem?_eq_getElem hk)⟩
theorem SL.up (h : SL f w B A xs) (hb : Below B' w w') (hB : B ≤ B') : SL f w' B A xs := fun hn => by
  obtain ⟨b, off, e, hlt, hc⟩ := h hn
  exact ⟨b, off, e, hlt, hc.below hb (by omega)⟩
theorem SL.more (h : SL f w B A xs) (hB : B ≤ B') : SL f w B' A xs := fun hn => by
  obtain ⟨b, off, e, hlt, hc⟩ := h hn
  exact ⟨b, off, e, by omega, hc⟩
theorem SL.drewN (h : SL f w B A xs) (n : Nat) : SL f (w.drewN n) B A xs := h
theorem SL.take_ (h : SL f w B A xs) (n : Nat) : SL f w B A (xs.take n) := fun hn => by
  obtain ⟨b, off, e, hlt, hc⟩ := h (by simp at hn; omega)
  exact ⟨b, off, e, hlt, fun k x hx => hc k x (by rw [List.getElem?_take] at hx; split at hx <;> simp_all)⟩
/-- The address behind a cut 'xs[n:]', as the walk spells it. -/
theorem SL.cut (h : SL f w B A xs) {n cap : Nat} (hc : xs.length ≤ cap) : SL f w B (if cap = n then A else A.map (·.add n)) (xs.drop n) := fun hn => by
  have hl : n < xs.length := by simp at hn; omega
  obtain ⟨b, off, rfl, hlt, hcell⟩ := h (by omega)
  rw [if_neg (by omega)]
  refine ⟨b, off + n, by simp [Addr.add_mid], hlt, fun k x hx => ?_⟩
  rw [Nat.add_assoc]
  exact hcell _ x (by rw [← hx, List.getElem?_drop])
theorem SL.cells (h : SL f w B A xs) : 0 < (xs.map f).length → ∃ ad, A = some ad ∧ ∀ j v, (xs.map f)[j]? = some v → w.cell? (ad.add j) = some v := fun hn => by
  obtain ⟨b, off, e, hb, hc⟩ := h (by simpa using hn)
  refine ⟨_, e, fun j v hv => ?_⟩
  obtain ⟨x, hx, rfl⟩ : ∃ x, xs[j]? = some x ∧ f x = v := by simpa [List.getElem?_map] using hv
  rw [Addr.add_mid, hc j x hx]
theorem SL.of_block {t : TypeId} {fr : Nat × Nat} {g : Nat} (h : w.heap[g]? = some (.cells (xs.map f).toArray t fr)) (hg : g < B) : SL f w B (some ⟨g, 0, none⟩) xs := fun _ => ⟨g, 0, rfl, hg, At.of_block h⟩
end

/-- A slice value that the call owns: it may be appended to. -/
def Own {α : Type} (f : α → Value) (e : TypeId) (w : World) (base : Nat) (v : Value) (xs : List α) : Prop := w.ownsRow base e 1 v xs.length (xs.map f)

section
variable {α : Type} {f : α → Value} {e : TypeId} {w w' : World} {base B : Nat} {v : Value} {xs ys : List α}
theorem Own.nil : Own f e w base (.slice none 0 0) [] := World.ownsRow_nil w base e 1
theorem Own.alloc (h : Own f e w base v xs) (o : Obj) : Own f e (w.alloc o) base v xs := World.ownsRow.alloc h o
theorem Own.drewN (h : Own f e w base v xs) (n : Nat) : Own f e (w.drewN n) base v xs := h
theorem Own.kept {row : Option Nat} (h : Own f e w base v xs) (hg : w.grownBy w' row) (hne : v.ownBlock = none ∨ v.ownBlock ≠ row) : Own f e w' base v xs := World.ownsRow.kept h hg hne
theorem Own.up {B : Nat} (h : Own f e w base v xs) (hb : Below B w w') (hB : ∀ k, v.ownBlock = some k → k < B) : Own f e w' base v xs := by
  refine ⟨h.1, ?_⟩
  rcases h.2 with hn | ⟨g, cap, cur, rfl, hbg, hgg, rest⟩
  · exact .inl hn
  · exact .inr ⟨g, cap, cur, rfl, hbg, (hb.block g (hB g rfl)).trans hgg, rest⟩
/-- All blocks that are there now are kept. -/
theorem Own.on (h : Own f e w base v xs) (hb : Below w.heap.size w w') : Own f e w' base v xs := h.up hb fun k hk => (World.ownsRow.lt h k hk).2
theorem Own.shape (h : Own f e w base v xs) : ∃ A c, v = .slice A xs.length c ∧ xs.length ≤ c ∧ SL f w w.heap.size A xs ∧ (∀ g, v.ownBlock = some g → base ≤ g) := by
  have hlt := World.ownsRow.lt h
  have hcells := @World.ownsRow.cells w base e 1 v xs.length (xs.map f) h
  rcases h.2 with ⟨rfl, hn⟩ | ⟨g, cap, cur, rfl, _, hg, hc, hm, _⟩
  · refine ⟨none, 0, by rw [hn], by omega, ?_, by simp [Value.ownBlock]⟩
    obtain rfl : xs = [] := List.eq_nil_of_length_eq_zero hn
    exact SL.nil
  · refine ⟨_, cap, rfl, hc, fun _ => ⟨g, 0, rfl, (hlt g rfl).2, fun k x hx => ?_⟩, fun g' hg' => (hlt g' hg').1⟩
    have := hcells (g := g) rfl k (f x) (by simp [hx])
    rwa [Addr.add_mid] at this
/-- The old block or a new one: below 'base' nothing has turned. -/
theorem Own.below {B0 : Nat} {w0 : World} (h : Own f e w base v xs) (hb : Below B0 w0 w) (hB : B0 ≤ base) (hs : B0 ≤ w.heap.size) (hg : w.grownBy w' v.ownBlock) : Below B0 w0 w' :=
  hb.grown hg hs fun k hk => Nat.le_trans hB (World.ownsRow.lt h k hk).1
end

section
variable {P : Program} {w : World} {α : Type} {f : α → Value}

theorem run_app (t ty e : TypeId) (i : TypeInfo) (z : Value) (bytes : Nat) (ht : P.underlying t = some (.slice e)) (hi : P.info? e = some i) (hz : i.zero = some z)
    (hsize : i.size = 1) (hby : i.bytes = bytes) (hzs : z.cells.size = 1) (v : Value) (xs : List α) (base : Nat) (hown : Own f e w base v xs)
    (A : Option Addr) (m c B : Nat) (ys : List α) (hr : Sl f w B A m ys) (h1 : ∀ y, (f y).oneCell' = true) (hbytes : (xs.length + ys.length) * bytes ≤ 140737488355328) (hmax : xs.length + ys.length ≤ maxLen) (hbase : base ≤ w.heap.size) :
    ∃ v' w', (Builtin.append_ #[t, t] ty #[v, .slice A m c]).run P w = .ok v' w' ∧ Own f e w' base v' (xs ++ ys) ∧ w.grownBy w' v.ownBlock ∧
      (v'.ownBlock = v.ownBlock ∨ v'.ownBlock = some w.heap.size) := by
  obtain ⟨rfl, hr⟩ := hr
  rcases A with _ | ad
  · have hy : ys = [] := by
      cases ys with
      | nil => rfl
      | cons y l => obtain ⟨_, _, hh, _⟩ := hr (by simp); cases hh
    subst hy
    refine ⟨v, w, ?_, by simpa using hown, World.grownBy.refl w _, .inl rfl⟩
    rcases hown.2 with ⟨rfl, h0⟩ | ⟨g, cap, cur, rfl, _, _, hnc, _⟩
    · simp [Builtin.append_, run_underlying ht, sizeOf, typeInfo, hi, Builtin.lenOf, Builtin.firstCells]
    · simp [Builtin.append_, run_underlying ht, sizeOf, typeInfo, hi, Builtin.lenOf, Builtin.firstCells, hnc, storeCells]
  · obtain ⟨v', w', h1', h2', h3', _, h5'⟩ := run_append_own_at (P := P) (w := w) base t ty e i z 1 bytes ht hi hz hsize hby hzs (by omega) v xs.length (xs.map f) hown ad ys.length c (ys.map f) (by simp)
      (fun j u hu => by
        have hj : 0 < (ys.map f).length := by have := (List.getElem?_eq_some_iff.1 hu).1; omega
        obtain ⟨ad', h, hc⟩ := hr.cells hj
        injection h with h
        subst h
        exact hc j u hu)
      (fun u hu => by obtain ⟨y, _, rfl⟩ := List.mem_map.1 hu; exact h1 y) hmax hbytes hbase
    refine ⟨v', w', h1', ?_, h3', h5'⟩
    unfold Own
    rw [List.length_append, List.map_append]
    exact h2'

theorem wp_app {o : Oper} {a : Act} {K : Act → World → Prop} {Q : Exit → Act → World → Prop} (s x : Operand) (t : TypeId)
    (ho : o.op = .call { callee := .builtin .append, args := #[s, x], argTypes := #[t, t] })
    (e : TypeId) (i : TypeInfo) (z : Value) (bytes : Nat) (ht : P.underlying t = some (.slice e)) (hi : P.info? e = some i) (hz : i.zero = some z)
    (hsize : i.size = 1) (hby : i.bytes = bytes) (hzs : z.cells.size = 1) (v : Value) (xs : List α) (base : Nat) (hs : a.eval s = v) (hown : Own f e w base v xs)
    (A : Option Addr) (m c B : Nat) (ys : List α) (hx : a.eval x = .slice A m c) (hr : Sl f w B A m ys) (h1 : ∀ y, (f y).oneCell' = true) (hbytes : (xs.length + ys.length) * bytes ≤ 140737488355328) (hmax : xs.length + ys.length ≤ maxLen) (hbase : base ≤ w.heap.size)
    (h : ∀ v' w', Own f e w' base v' (xs ++ ys) → w.grownBy w' v.ownBlock → (v'.ownBlock = v.ownBlock ∨ v'.ownBlock = some w.heap.size) → K (a.put o.dst v') w') : o.wp P a w K Q := by
  obtain ⟨v', w', hr, h2, h3, h4⟩ := run_app (P := P) t o.type e i z bytes ht hi hz hsize hby hzs v xs base hown A m c B ys hr h1 hbytes hmax hbase
  unfold Oper.wp execOp
  simp only [ho, resolve, invoke, builtin, Sem.run_bind, Sem.run_pure, Result.andThen_ok, List.map_toArray, List.map_cons, List.map_nil, hs, hx, hr]
  exact h v' w' h2 h3 h4

/-- 'append(v, ys...)': v the call's own; ys whatever. -/
theorem wpList_app {ops : Array Oper} {rest : List Oper} {o : Oper} {a : Act} {Q : Exit → Act → World → Prop} (hgd : o.guard = none) (s x : Operand) (t : TypeId)
    (ho : o.op = .call { callee := .builtin .append, args := #[s, x], argTypes := #[t, t] })
    (e : TypeId) (i : TypeInfo) (z : Value) (bytes : Nat) (ht : P.underlying t = some (.slice e)) (hi : P.info? e = some i) (hz : i.zero = some z)
    (hsize : i.size = 1) (hby : i.bytes = bytes) (hzs : z.cells.size = 1) (v : Value) (xs : List α) (base : Nat) (hs : a.eval s = v) (hown : Own f e w base v xs)
    (A : Option Addr) (m c B : Nat) (ys : List α) (hx : a.eval x = .slice A m c) (hr : Sl f w B A m ys) (h1 : ∀ y, (f y).oneCell' = true) (hbytes : (xs.length + ys.length) * bytes ≤ 140737488355328) (hmax : xs.length + ys.length ≤ maxLen) (hbase : base ≤ w.heap.size)
    (h : ∀ v' w', Hid (Own f e w' base v' (xs ++ ys)) → Hid (w.grownBy w' v.ownBlock) → Hid (v'.ownBlock = v.ownBlock ∨ v'.ownBlock = some w.heap.size) → wpList P ops Q rest (a.put o.dst v') w') : wpList P ops Q (o :: rest) a w :=
  wpList_plain hgd fun _ hK => wp_app s x t ho e i z bytes ht hi hz hsize hby hzs v xs base hs hown A m c B ys hx hr h1 hbytes hmax hbase fun v' w' h2 h3 h4 => hK _ _ (h v' w' h2 h3 h4)

/-- 'append(v, y)': the element lies in a block of its own that was laid just now. -/
theorem wpList_app1 {ops : Array Oper} {rest : List Oper} {o : Oper} {a : Act} {Q : Exit → Act → World → Prop} (hgd : o.guard = none) (s x : Operand) (t : TypeId)
    (ho : o.op = .call { callee := .builtin .append, args := #[s, x], argTypes := #[t, t] })
    (e : TypeId) (i : TypeInfo) (z : Value) (bytes : Nat) (ht : P.underlying t = some (.slice e)) (hi : P.info? e = some i) (hz : i.zero = some z)
    (hsize : i.size = 1) (hby : i.bytes = bytes) (hzs : z.cells.size = 1) (v : Value) (xs : List α) (base : Nat) (hs : a.eval s = v) (hown : Own f e w base v xs)
    (y : α) (c : Nat) (hx : a.eval x = .slice (some ⟨w.heap.size, 0, none⟩) 1 c) (h1 : ∀ y, (f y).oneCell' = true) (hbytes : (xs.length + 1) * bytes ≤ 140737488355328) (hmax : xs.length + 1 ≤ maxLen) (hbase : base ≤ w.heap.size)
    (h : ∀ v' w', Hid (Own f e w' base v' (xs ++ [y])) → Hid (w.grownBy w' v.ownBlock) → Hid (v'.ownBlock = v.ownBlock ∨ ∃ g, v'.ownBlock = some g ∧ w.heap.size ≤ g) → wpList P ops Q rest (a.put o.dst v') w') : wpList P ops Q (o :: rest) a (w.alloc (.cells #[f y] e)) :=
  wpList_plain hgd fun _ hK => wp_app s x t ho e i z bytes ht hi hz hsize hby hzs v xs base hs (hown.alloc _) _ 1 c _ [y] hx (SL.sl (SL.of_block (t := e) (fr := (0, 0)) (heap_alloc_new w _) (Nat.lt_succ_self _))) h1 hbytes hmax (by simp; omega)
    fun v' w' h2 h3 h4 => hK _ _ (h v' w' h2 ⟨h3.os, h3.tape, h3.output, Nat.le_trans (by simp) h3.size, fun k hk hne => (h3.block k (by simp; omega) hne).trans (Below.heap_alloc w _ k hk)⟩ (by
      rcases h4 with h4 | h4
      · exact .inl h4
      · exact .inr ⟨_, h4, by simp⟩))

/-- A whole row into the block g, the world a letter behind the store. -/
theorem wpList_store_far {ops : Array Oper} {rest : List Oper} {o : Oper} {a : Act} {Q : Exit → Act → World → Prop} (hgd : o.guard = none) (ty : TypeId) (x y : Operand) (ho : o.op = .store ty x y)
    (g : Nat) (t : TypeId) (old cells : Array Value) (hx : a.eval x = .pointer (some ⟨g, 0, none⟩)) (hy : a.eval y = .agg cells) (hg : w.heap[g]? = some (.cells old t (0, 0))) (hi : (P.info? ty).map (·.size) = some cells.size)
    (hs : old.size = cells.size) (h1 : cells.all (·.oneCell') = true) (B : Nat) (w0 : World) (hb : Below B w0 w) (hB : B ≤ g)
    (h : ∀ w', Hid (w'.heap[g]? = some (.cells cells t (0, 0))) → Below B w0 w' → Hid (w.grownBy w' (some g)) → wpList P ops Q rest (a.put o.dst undef) w') : wpList P ops Q (o :: rest) a w := by
  refine wpList_store_row hgd ty x y ho g cells hx hy t old hg hi hs h1 ?_
  exact h _ (setRow_heap w g _ _ t _ hg) (below_setRow hb hB _) ⟨rfl, rfl, rfl, by simp [World.setRow], fun k _ hk => setRow_other w g k cells (fun e => hk (by rw [e]))⟩

/-- A whole row into the block that was laid last. -/
theorem wpList_store_new {ops : Array Oper} {rest : List Oper} {o : Oper} {a : Act} {Q : Exit → Act → World → Prop} (hgd : o.guard = none) (ty : TypeId) (x y : Operand) (ho : o.op = .store ty x y)
    (t : TypeId) (old cells : Array Value) (hx : a.eval x = .pointer (some ⟨w.heap.size, 0, none⟩)) (hy : a.eval y = .agg cells) (hi : (P.info? ty).map (·.size) = some cells.size)
    (hs : old.size = cells.size) (h1 : cells.all (·.oneCell') = true)
    (h : wpList P ops Q rest (a.put o.dst undef) (w.alloc (.cells cells t))) : wpList P ops Q (o :: rest) a (w.alloc (.cells old t)) := by
  refine wpList_store_row hgd ty x y ho w.heap.size cells hx hy t old (heap_alloc_new w _) hi hs h1 ?_
  rw [World.setRow_alloc_new]
  exact h

theorem ret_cell_tmp {fn : Func} {p u : Tmp} {ty : TypeId} (hr : fn.results = #[.cell p ty, .tmp u]) {tmps : Array Value} {g : Nat} {t : TypeId} {cs : Array Value} {fr : Nat × Nat} {n e : Nat}
    (hp : tmps.getD p undef = .pointer (some ⟨g, 0, none⟩)) (hg : w.heap[g]? = some (.cells cs t fr)) (hu : P.underlying ty = some (.array n e)) (hi : (P.info? ty).map (·.size) = some cs.size) :
    (results fn tmps).run P w = .ok (.tuple #[.agg cs, tmps.getD u undef]) w := by
  rw [results_cell_tmp hr, hp]
  simp [asAddr, Result.andThen, run_loadVar_row w g t ty cs fr _ hg hu rfl hi]
end

/-- 'x[:h]', x an array behind a pointer. -/
theorem run_slice_arr {P : Program} (t e n : Nat) (i : TypeInfo) (ht : P.underlying t = some (.array n e)) (hi : P.info? e = some i) (g off : Nat) (kh : IntKind) (h : Int) (m : Nat) (hm : h = m) (h2 : m ≤ n) (w : World) :
    (Instr.sliceAt t (.pointer (some ⟨g, off, none⟩)) none (some (.int kh h)) none).run P w = .ok (.slice (some ⟨g, off, none⟩) m n) w := by
  subst hm
  simp [Instr.sliceAt, run_underlying ht, Instr.sureAddr, Instr.sliceBounds, run_sliceBound w kh (m : Int) n _ (by omega) (by omega), sizeOf, typeInfo, hi, Addr.add]

/-- 'x[:h]', x a slice: the same address. -/
theorem run_slice_to {P : Program} (t e : Nat) (i : TypeInfo) (ht : P.underlying t = some (.slice e)) (hi : P.info? e = some i) (A : Option Addr) (n c : Nat) (kh : IntKind) (h : Int) (m : Nat) (hm : h = m) (h2 : m ≤ c) (w : World) :
    (Instr.slice t (.slice A n c) none (some (.int kh h)) none).run P w = .ok (.slice A m c) w := by
  subst hm
  have hA : (Option.map (fun a : Addr => a.add 0) A) = A := by cases A <;> simp [Addr.add]
  simp [Instr.slice, run_underlying ht, Instr.sliceBounds, run_sliceBound w kh (m : Int) c _ (by omega) (by omega), sizeOf, typeInfo, hi, hA]

/-- What 'grownBy' says below a block number, the row that may have turned being no smaller. -/
theorem grown_below {w w' : World} {row : Option Nat} {B : Nat} (h : w.grownBy w' row) (hr : ∀ k, row = some k → B ≤ k) (hB : B ≤ w.heap.size) : Below B w w' :=
  (Below.refl _ _).grown h hB hr

/-- A function that hands back a slice. -/
def Slc {α : Type} (f : α → Value) (xs : List α) (w : World) (e : Ending) (w' : World) : Prop :=
  ∃ A n c, e = .returned (.slice A n c) ∧ n ≤ c ∧ Sl f w' w'.heap.size A n xs ∧ Below w.heap.size w w'
/-- .. and a number beside it. -/
def Slc2 {α : Type} (f : α → Value) (xs : List α) (r : Int) (w : World) (e : Ending) (w' : World) : Prop :=
  ∃ A n c, e = .returned (.tuple #[.slice A n c, .int .i64 r]) ∧ n ≤ c ∧ Sl f w' w'.heap.size A n xs ∧ Below w.heap.size w w'
/-- The head of a slice value. -/
structure Hd where
  a : Option Addr
  n : Nat
  c : Nat
def fS (h : Hd) : Value := .slice h.a h.n h.c
/-- A slice of slices: its heads, and under each head a list. -/
def SLL {α : Type} (f : α → Value) (w : World) (B : Nat) (A : Option Addr) (n : Nat) (vs : List (List α)) : Prop :=
  ∃ hs : List Hd, Sl fS w B A n hs ∧ vs.length = n ∧ ∀ (k : Nat) (h : Hd) (v : List α), hs[k]? = some h → vs[k]? = some v → Sl f w B h.a h.n v
theorem SLL.up {α : Type} {f : α → Value} {w w' : World} {B B' n : Nat} {A : Option Addr} {vs : List (List α)} (h : SLL f w B A n vs) (hb : Below B' w w') (hB : B ≤ B') : SLL f w' B A n vs := by
  obtain ⟨hs, h1, h2, h3⟩ := h
  exact ⟨hs, h1.up hb hB, h2, fun k h v hh hv => (h3 k h v hh hv).up hb hB⟩
theorem SLL.at_ {α : Type} {f : α → Value} {w : World} {B n : Nat} {A : Option Addr} {vs : List (List α)} (h : SLL f w B A n vs) {k : Nat} (hk : k < n) :
    ∃ b off a m c v, A = some ⟨b, off, none⟩ ∧ b < B ∧ vs[k]? = some v ∧ w.cell? ⟨b, off + k, none⟩ = some (.slice a m c) ∧ Sl f w B a m v := by
  obtain ⟨hs, h1, h2, h3⟩ := h
  obtain ⟨b, off, e, hb, hc⟩ := h1.2 (by have := h1.1; omega)
  obtain ⟨h, hh⟩ := get_ex (xs := hs) (k := k) (by have := h1.1; omega)
  obtain ⟨v, hv⟩ := get_ex (xs := vs) (k := k) (by omega)
  exact ⟨b, off, h.a, h.n, h.c, v, e, hb, hv, hc k h hh, h3 k h v hh hv⟩
abbrev I := Value.int .i64
theorem I1 : ∀ y, (I y).oneCell' = true := fun _ => rfl
end Go.Proofs.Ytpbeaghghlfiaaa
