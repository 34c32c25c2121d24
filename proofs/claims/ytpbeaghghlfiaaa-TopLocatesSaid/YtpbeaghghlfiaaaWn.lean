/- Words of our own, over whatever program: slices whose elements take several cells. -/
import Derived.Test.YtpbeaghghlfiaaaWk
namespace Go.Proofs.Ytpbeaghghlfiaaa
open Go.RowKit
set_option linter.unusedVariables false
set_option linter.unusedSimpArgs false

/-- The k-th element's cells lie at k * s. -/
theorem flat_get {α : Type} {f : α → List Value} {s : Nat} (hs : ∀ x, (f x).length = s) : ∀ (xs : List α) (k j : Nat) (x : α), xs[k]? = some x → j < s → (xs.flatMap f)[k * s + j]? = (f x)[j]?
  | [], k, j, x, h, _ => by simp at h
  | y :: xs, 0, j, x, h, hj => by
    simp at h; subst h
    rw [List.flatMap_cons, Nat.zero_mul, Nat.zero_add, List.getElem?_append_left (by rw [hs]; exact hj)]
  | y :: xs, k + 1, j, x, h, hj => by
    rw [List.flatMap_cons, List.getElem?_append_right (by rw [hs, Nat.succ_mul]; omega), hs]
    have : (k + 1) * s + j - s = k * s + j := by rw [Nat.succ_mul]; omega
    rw [this]
    exact flat_get hs xs k j x (by simpa using h) hj
theorem flat_len {α : Type} {f : α → List Value} {s : Nat} (hs : ∀ x, (f x).length = s) (xs : List α) : (xs.flatMap f).length = xs.length * s := by
  induction xs with
  | nil => simp
  | cons x xs ih => rw [List.flatMap_cons, List.length_append, hs, ih, List.length_cons, Nat.succ_mul]; omega

/-- The elements' cells, s for each, lie from offset 'off' of block 'b' on. -/
def AtN {α : Type} (f : α → List Value) (s : Nat) (w : World) (b off : Nat) (xs : List α) : Prop :=
  ∀ k x, xs[k]? = some x → ∀ j v, (f x)[j]? = some v → w.cell? ⟨b, off + (k * s + j), none⟩ = some v
/-- A slice of such elements, with its length. -/
def SlN {α : Type} (f : α → List Value) (s : Nat) (w : World) (B : Nat) (A : Option Addr) (n : Nat) (xs : List α) : Prop :=
  xs.length = n ∧ (0 < xs.length → ∃ b off, A = some ⟨b, off, none⟩ ∧ b < B ∧ AtN f s w b off xs)

section
variable {α : Type} {f : α → List Value} {s : Nat} {w w' : World} {b off B B' n : Nat} {A : Option Addr} {xs ys : List α}
theorem AtN.below (h : AtN f s w b off xs) (hb : Below B w w') (hB : b < B) : AtN f s w' b off xs := fun k x hx j v hv => (hb.cell (p := ⟨b, _, none⟩) hB).trans (h k x hx j v hv)
theorem SlN.up (h : SlN f s w B A n xs) (hb : Below B' w w') (hB : B ≤ B') : SlN f s w' B A n xs := ⟨h.1, fun hn => by
  obtain ⟨b, off, e, hlt, hc⟩ := h.2 hn
  exact ⟨b, off, e, hlt, hc.below hb (by omega)⟩⟩
theorem SlN.more (h : SlN f s w B A n xs) (hB : B ≤ B') : SlN f s w B' A n xs := ⟨h.1, fun hn => by
  obtain ⟨b, off, e, hlt, hc⟩ := h.2 hn
  exact ⟨b, off, e, by omega, hc⟩⟩
theorem SlN.nil : SlN f s w B A 0 [] := ⟨rfl, fun h => absurd h (by simp)⟩
theorem SlN.at_ (h : SlN f s w B A n xs) {k : Nat} (hk : k < n) : ∃ b off x, A = some ⟨b, off, none⟩ ∧ b < B ∧ xs[k]? = some x ∧ ∀ j v, (f x)[j]? = some v → w.cell? ⟨b, off + (k * s + j), none⟩ = some v := by
  have hk' : k < xs.length := by rw [h.1]; exact hk
  obtain ⟨b, off, e, hb, hc⟩ := h.2 (by omega)
  exact ⟨b, off, xs[k], e, hb, List.getElem?_eq_getElem hk', hc k _ (List.getElem?_eq_getElem hk')⟩
end

/-- A slice value of such elements that the call owns. -/
def OwnN {α : Type} (f : α → List Value) (s : Nat) (e : TypeId) (w : World) (base : Nat) (v : Value) (xs : List α) : Prop := w.ownsRow base e s v xs.length (xs.flatMap f)

section
variable {α : Type} {f : α → List Value} {s : Nat} {e : TypeId} {w w' : World} {base B : Nat} {v : Value} {xs ys : List α}
theorem OwnN.nil : OwnN f s e w base (.slice none 0 0) [] := World.ownsRow_nil w base e s
theorem OwnN.alloc (h : OwnN f s e w base v xs) (o : Obj) : OwnN f s e (w.alloc o) base v xs := World.ownsRow.alloc h o
theorem OwnN.drewN (h : OwnN f s e w base v xs) (n : Nat) : OwnN f s e (w.drewN n) base v xs := h
theorem OwnN.drew (h : OwnN f s e w base v xs) : OwnN f s e w.drew base v xs := h
theorem OwnN.kept {row : Option Nat} (h : OwnN f s e w base v xs) (hg : w.grownBy w' row) (hne : v.ownBlock = none ∨ v.ownBlock ≠ row) : OwnN f s e w' base v xs := World.ownsRow.kept h hg hne
theorem OwnN.up {B : Nat} (h : OwnN f s e w base v xs) (hb : Below B w w') (hB : ∀ k, v.ownBlock = some k → k < B) : OwnN f s e w' base v xs := by
  refine ⟨h.1, ?_⟩
  rcases h.2 with hn | ⟨g, cap, cur, rfl, hbg, hgg, rest⟩
  · exact .inl hn
  · exact .inr ⟨g, cap, cur, rfl, hbg, (hb.block g (hB g rfl)).trans hgg, rest⟩
theorem OwnN.on (h : OwnN f s e w base v xs) (hb : Below w.heap.size w w') : OwnN f s e w' base v xs := h.up hb fun k hk => (World.ownsRow.lt h k hk).2
theorem OwnN.shape (hs : ∀ x, (f x).length = s) (h : OwnN f s e w base v xs) : ∃ A c, v = .slice A xs.length c ∧ xs.length ≤ c ∧ SlN f s w w.heap.size A xs.length xs ∧ (∀ g, v.ownBlock = some g → base ≤ g) := by
  have hlt := World.ownsRow.lt h
  have hcells := @World.ownsRow.cells w base e s v xs.length (xs.flatMap f) h
  rcases h.2 with ⟨rfl, hn⟩ | ⟨g, cap, cur, rfl, _, hg, hc, hm, _⟩
  · refine ⟨none, 0, by rw [hn], by omega, ?_, by simp [Value.ownBlock]⟩
    obtain rfl : xs = [] := List.eq_nil_of_length_eq_zero hn
    exact SlN.nil
  · refine ⟨_, cap, rfl, hc, ⟨rfl, fun _ => ⟨g, 0, rfl, (hlt g rfl).2, fun k x hx j u hu => ?_⟩⟩, fun g' hg' => (hlt g' hg').1⟩
    have hj : j < s := by have := (List.getElem?_eq_some_iff.1 hu).1; rw [hs] at this; exact this
    have := hcells (g := g) rfl (k * s + j) u (by rw [flat_get hs xs k j x hx hj]; exact hu)
    rwa [Addr.add_mid] at this
theorem OwnN.below {B0 : Nat} {w0 : World} (h : OwnN f s e w base v xs) (hb : Below B0 w0 w) (hB : B0 ≤ base) (hs : B0 ≤ w.heap.size) (hg : w.grownBy w' v.ownBlock) : Below B0 w0 w' :=
  hb.grown hg hs fun k hk => Nat.le_trans hB (World.ownsRow.lt h k hk).1
end

section
variable {P : Program} {w : World} {α : Type} {f : α → List Value} {s : Nat}

theorem run_appN (hs : ∀ x, (f x).length = s) (hs0 : 0 < s) (t ty e : TypeId) (i : TypeInfo) (z : Value) (bytes : Nat) (ht : P.underlying t = some (.slice e)) (hi : P.info? e = some i) (hz : i.zero = some z)
    (hsize : i.size = s) (hby : i.bytes = bytes) (hzs : z.cells.size = s) (v : Value) (xs : List α) (base : Nat) (hown : OwnN f s e w base v xs)
    (A : Option Addr) (m c B : Nat) (ys : List α) (hr : SlN f s w B A m ys) (h1 : ∀ y, ∀ u ∈ f y, u.oneCell' = true) (hbytes : (xs.length + m) * bytes ≤ 140737488355328) (hmax : xs.length + m ≤ maxLen) (hbase : base ≤ w.heap.size) :
    ∃ v' w', (Builtin.append_ #[t, t] ty #[v, .slice A m c]).run P w = .ok v' w' ∧ OwnN f s e w' base v' (xs ++ ys) ∧ w.grownBy w' v.ownBlock ∧
      (v'.ownBlock = v.ownBlock ∨ v'.ownBlock = some w.heap.size) := by
  obtain ⟨rfl, hr⟩ := hr
  rcases A with _ | ad
  · have hy : ys = [] := by
      cases ys with
      | nil => rfl
      | cons y l => obtain ⟨_, _, hh, _⟩ := hr (by simp); cases hh
    subst hy
    refine ⟨v, w, ?_, by simpa using hown, World.grownBy.refl w _, .inl rfl⟩
    rcases hown.2 with ⟨rfl, h0⟩ | ⟨g, cap, cur, rfl, _, _, hnc, _⟩
    · simp [Builtin.append_, run_underlying ht, sizeOf, typeInfo, hi, Builtin.lenOf, Builtin.firstCells]
    · simp [Builtin.append_, run_underlying ht, sizeOf, typeInfo, hi, Builtin.lenOf, Builtin.firstCells, hnc, storeCells]
  · obtain ⟨v', w', h1', h2', h3', _, h5'⟩ := run_append_own_at (P := P) (w := w) base t ty e i z s bytes ht hi hz hsize hby hzs hs0 v xs.length (xs.flatMap f) hown ad ys.length c (ys.flatMap f) (flat_len hs ys)
      (fun j u hu => by
        have hj : j < ys.length * s := by have := (List.getElem?_eq_some_iff.1 hu).1; rw [flat_len hs] at this; exact this
        have hys : 0 < ys.length := by
          rcases Nat.eq_zero_or_pos ys.length with h0 | h0
          · rw [h0] at hj; omega
          · exact h0
        obtain ⟨b, off, h, _, hc⟩ := hr hys
        injection h with h
        subst h
        have hk : j / s < ys.length := Nat.div_lt_of_lt_mul (by rwa [Nat.mul_comm])
        have hjs : j / s * s + j % s = j := by rw [Nat.mul_comm]; exact Nat.div_add_mod j s
        have hm := Nat.mod_lt j hs0
        rw [Addr.add_mid]
        have hg := flat_get hs ys (j / s) (j % s) ys[j / s] (List.getElem?_eq_getElem hk) hm
        rw [hjs] at hg
        have := hc (j / s) _ (List.getElem?_eq_getElem hk) (j % s) u (by rw [← hg]; exact hu)
        rwa [hjs] at this)
      (fun u hu => by obtain ⟨y, _, hy⟩ := List.mem_flatMap.1 hu; exact h1 y u hy) hmax hbytes hbase
    refine ⟨v', w', h1', ?_, h3', h5'⟩
    unfold OwnN
    rw [List.length_append, List.flatMap_append]
    exact h2'

theorem wp_appN (hs : ∀ x, (f x).length = s) (hs0 : 0 < s) {o : Oper} {a : Act} {K : Act → World → Prop} {Q : Exit → Act → World → Prop} (sl x : Operand) (t : TypeId)
    (ho : o.op = .call { callee := .builtin .append, args := #[sl, x], argTypes := #[t, t] })
    (e : TypeId) (i : TypeInfo) (z : Value) (bytes : Nat) (ht : P.underlying t = some (.slice e)) (hi : P.info? e = some i) (hz : i.zero = some z)
    (hsize : i.size = s) (hby : i.bytes = bytes) (hzs : z.cells.size = s) (v : Value) (xs : List α) (base : Nat) (hsl : a.eval sl = v) (hown : OwnN f s e w base v xs)
    (A : Option Addr) (m c B : Nat) (ys : List α) (hx : a.eval x = .slice A m c) (hr : SlN f s w B A m ys) (h1 : ∀ y, ∀ u ∈ f y, u.oneCell' = true) (hbytes : (xs.length + m) * bytes ≤ 140737488355328) (hmax : xs.length + m ≤ maxLen) (hbase : base ≤ w.heap.size)
    (h : ∀ v' w', OwnN f s e w' base v' (xs ++ ys) → w.grownBy w' v.ownBlock → (v'.ownBlock = v.ownBlock ∨ v'.ownBlock = some w.heap.size) → K (a.put o.dst v') w') : o.wp P a w K Q := by
  obtain ⟨v', w', hr, h2, h3, h4⟩ := run_appN (P := P) hs hs0 t o.type e i z bytes ht hi hz hsize hby hzs v xs base hown A m c B ys hr h1 hbytes hmax hbase
  unfold Oper.wp execOp
  simp only [ho, resolve, invoke, builtin, Sem.run_bind, Sem.run_pure, Result.andThen_ok, List.map_toArray, List.map_cons, List.map_nil, hsl, hx, hr]
  exact h v' w' h2 h3 h4

/-- 'append(v, ys...)'. -/
theorem wpList_appN (hs : ∀ x, (f x).length = s) (hs0 : 0 < s) {ops : Array Oper} {rest : List Oper} {o : Oper} {a : Act} {Q : Exit → Act → World → Prop} (hgd : o.guard = none) (sl x : Operand) (t : TypeId)
    (ho : o.op = .call { callee := .builtin .append, args := #[sl, x], argTypes := #[t, t] })
    (e : TypeId) (i : TypeInfo) (z : Value) (bytes : Nat) (ht : P.underlying t = some (.slice e)) (hi : P.info? e = some i) (hz : i.zero = some z)
    (hsize : i.size = s) (hby : i.bytes = bytes) (hzs : z.cells.size = s) (v : Value) (xs : List α) (base : Nat) (hsl : a.eval sl = v) (hown : OwnN f s e w base v xs)
    (A : Option Addr) (m c B : Nat) (ys : List α) (hx : a.eval x = .slice A m c) (hr : SlN f s w B A m ys) (h1 : ∀ y, ∀ u ∈ f y, u.oneCell' = true) (hbytes : (xs.length + m) * bytes ≤ 140737488355328) (hmax : xs.length + m ≤ maxLen) (hbase : base ≤ w.heap.size)
    (h : ∀ v' w', Hid (OwnN f s e w' base v' (xs ++ ys)) → Hid (w.grownBy w' v.ownBlock) → Hid (v'.ownBlock = v.ownBlock ∨ v'.ownBlock = some w.heap.size) → wpList P ops Q rest (a.put o.dst v') w') : wpList P ops Q (o :: rest) a w :=
  wpList_plain hgd fun _ hK => wp_appN hs hs0 sl x t ho e i z bytes ht hi hz hsize hby hzs v xs base hsl hown A m c B ys hx hr h1 hbytes hmax hbase fun v' w' h2 h3 h4 => hK _ _ (h v' w' h2 h3 h4)

/-- 'append(v, y)': the element lies in a block of its own that was laid just now. -/
theorem wpList_appN1 (hs : ∀ x, (f x).length = s) (hs0 : 0 < s) {ops : Array Oper} {rest : List Oper} {o : Oper} {a : Act} {Q : Exit → Act → World → Prop} (hgd : o.guard = none) (sl x : Operand) (t : TypeId)
    (ho : o.op = .call { callee := .builtin .append, args := #[sl, x], argTypes := #[t, t] })
    (e : TypeId) (i : TypeInfo) (z : Value) (bytes : Nat) (ht : P.underlying t = some (.slice e)) (hi : P.info? e = some i) (hz : i.zero = some z)
    (hsize : i.size = s) (hby : i.bytes = bytes) (hzs : z.cells.size = s) (v : Value) (xs : List α) (base : Nat) (hsl : a.eval sl = v) (hown : OwnN f s e w base v xs)
    (y : α) (c : Nat) (hx : a.eval x = .slice (some ⟨w.heap.size, 0, none⟩) 1 c) (h1 : ∀ y, ∀ u ∈ f y, u.oneCell' = true) (hbytes : (xs.length + 1) * bytes ≤ 140737488355328) (hmax : xs.length + 1 ≤ maxLen) (hbase : base ≤ w.heap.size)
    (h : ∀ v' w', Hid (OwnN f s e w' base v' (xs ++ [y])) → Hid (w.grownBy w' v.ownBlock) → Hid (v'.ownBlock = v.ownBlock ∨ ∃ g, v'.ownBlock = some g ∧ w.heap.size ≤ g) → wpList P ops Q rest (a.put o.dst v') w') : wpList P ops Q (o :: rest) a (w.alloc (.cells (f y).toArray e)) :=
  wpList_plain hgd fun _ hK => wp_appN hs hs0 sl x t ho e i z bytes ht hi hz hsize hby hzs v xs base hsl (hown.alloc _) _ 1 c (w.heap.size + 1) [y] hx
    ⟨rfl, fun _ => ⟨w.heap.size, 0, rfl, Nat.lt_succ_self _, fun k y' hy j u hu => by
      have hk : k = 0 := by have := (List.getElem?_eq_some_iff.1 hy).1; simp at this; exact this
      subst hk
      simp at hy; subst hy
      rw [cell_of_row _ _ _ _ _ _ (heap_alloc_new w _), Nat.zero_mul, Nat.zero_add, Nat.zero_add, List.getElem?_toArray]; exact hu⟩⟩ h1 hbytes hmax (by simp; omega)
    fun v' w' h2 h3 h4 => hK _ _ (h v' w' h2 ⟨h3.os, h3.tape, h3.output, Nat.le_trans (by simp) h3.size, fun k hk hne => (h3.block k (by simp; omega) hne).trans (Below.heap_alloc w _ k hk)⟩ (by
      rcases h4 with h4 | h4
      · exact .inl h4
      · exact .inr ⟨_, h4, by simp⟩))
end
theorem SlN.of_block {α : Type} {f : α → List Value} {s : Nat} {w : World} {g B : Nat} {t : TypeId} {fr : Nat × Nat} {y : α} (h : w.heap[g]? = some (.cells (f y).toArray t fr)) (hB : g < B) : SlN f s w B (some ⟨g, 0, none⟩) 1 [y] :=
  ⟨rfl, fun _ => ⟨g, 0, rfl, hB, fun k y' hy j u hu => by
      have hk : k = 0 := by have := (List.getElem?_eq_some_iff.1 hy).1; simp at this; exact this
      subst hk
      simp at hy; subst hy
      rw [cell_of_row _ _ _ _ _ _ h, Nat.zero_mul, Nat.zero_add, Nat.zero_add, List.getElem?_toArray]; exact hu⟩⟩

/-- At a step of a region that draws its order. -/
theorem step_appN {P : Program} {w : World} {α : Type} {f : α → List Value} {s : Nat} (hs : ∀ x, (f x).length = s) (hs0 : 0 < s) {ops : Array Oper} {o : Oper} {a : Act} {K : Act → World → Prop} {Q : Exit → Act → World → Prop} {E : Prop} (hgd : o.guard = none) (sl x : Operand) (t : TypeId)
    (ho : o.op = .call { callee := .builtin .append, args := #[sl, x], argTypes := #[t, t] })
    (e : TypeId) (i : TypeInfo) (z : Value) (bytes : Nat) (ht : P.underlying t = some (.slice e)) (hi : P.info? e = some i) (hz : i.zero = some z)
    (hsize : i.size = s) (hby : i.bytes = bytes) (hzs : z.cells.size = s) (v : Value) (xs : List α) (base : Nat) (hsl : a.eval sl = v) (hown : OwnN f s e w base v xs)
    (A : Option Addr) (m c B : Nat) (ys : List α) (hx : a.eval x = .slice A m c) (hr : SlN f s w B A m ys) (h1 : ∀ y, ∀ u ∈ f y, u.oneCell' = true) (hbytes : (xs.length + m) * bytes ≤ 140737488355328) (hmax : xs.length + m ≤ maxLen) (hbase : base ≤ w.heap.size)
    (h : ∀ v' w', Hid (OwnN f s e w' base v' (xs ++ ys)) → Hid (w.grownBy w' v.ownBlock) → Hid (v'.ownBlock = v.ownBlock ∨ v'.ownBlock = some w.heap.size) → K (a.put o.dst v') w') :
    if Region.wanted o (yielded ops a.tmps) = true then Oper.wp P o a w K Q else E := by
  have hw : Region.wanted o (yielded ops a.tmps) = true := by simp [Region.wanted, hgd]
  rw [if_pos hw]
  exact wp_appN hs hs0 sl x t ho e i z bytes ht hi hz hsize hby hzs v xs base hsl hown A m c B ys hx hr h1 hbytes hmax hbase fun v' w' h2 h3 h4 => h v' w' h2 h3 h4

/-- A function that hands back a slice of such elements and a number. -/
def SlcN2 {α : Type} (f : α → List Value) (s : Nat) (xs : List α) (r : Int) (w : World) (e : Ending) (w' : World) : Prop :=
  ∃ A n c, e = .returned (.tuple #[.slice A n c, .int .i64 r]) ∧ n ≤ c ∧ SlN f s w' w'.heap.size A n xs ∧ Below w.heap.size w w'
end Go.Proofs.Ytpbeaghghlfiaaa
