/- The reference's Apply: what its walk needs. -/
import Derived.Test.YtafhpomoobdmdaaRp

namespace Go.Proofs.Ytafhpomoobdmdaa
open Go.RowKit Mb
set_option linter.unusedVariables false
set_option linter.unusedSimpArgs false

abbrev zAO : Obj := .cells #[.slice none 0 0, .slice none 0 0, .int .i64 0, .slice none 0 0, .slice none 0 0, .slice none 0 0, .slice none 0 0] 57
theorem Try.infoX : (Try.prog.info? 37).map (fun i => (i.zero, i.size, i.bytes)) = some (some (.agg #[.int .i64 0, .int .i64 0, .string ⟨#[]⟩, .string ⟨#[]⟩, .int .i64 0, .bool false, .int .i64 0, .int .i64 0, .int .i64 0]), 9, 88) := by kernel_rfl
theorem Try.zsX : (Value.agg #[.int .i64 0, .int .i64 0, .string ⟨#[]⟩, .string ⟨#[]⟩, .int .i64 0, .bool false, .int .i64 0, .int .i64 0, .int .i64 0]).cells.size = 9 := by kernel_rfl
theorem Try.infoT : (Try.prog.info? 88).map (fun i => (i.zero, i.size, i.bytes)) = some (some (.agg #[.int .i64 0, .int .i64 0]), 2, 16) := by kernel_rfl
theorem Try.zsT : (Value.agg #[.int .i64 0, .int .i64 0]).cells.size = 2 := by kernel_rfl

/-- The reference's circle, its rows in blocks that a predicate holds of. -/
structure RefQ (P : Nat → Prop) (w : World) (r : RV) (S : St) : Prop where
  ref : RefC w w.heap.size r S
  p3 : 0 < r.a3.n → ∀ ad, r.a3.a = some ad → P ad.block
  p4 : 0 < r.a4.n → ∀ ad, r.a4.a = some ad → P ad.block
  p5 : 0 < r.a5.n → ∀ ad, r.a5.a = some ad → P ad.block
  p6 : 0 < r.a6.n → ∀ ad, r.a6.a = some ad → P ad.block
  vs : ∃ ps, VIn w w.heap.size r.a5.a r.a5.n ps ∧ ps.map Prod.fst = S.vs ∧ ∀ p ∈ ps, 0 < p.1.ws.length → ∀ ad, p.2.a = some ad → P ad.block
section
variable {P P' : Nat → Prop} {w w' : World} {r : RV} {S : St}
theorem SlN.keep {α : Type} {f : α → List Value} {s n : Nat} {A : Option Addr} {xs : List α} (h : SlN f s w w.heap.size A n xs) (hA : 0 < xs.length → ∀ ad, A = some ad → P ad.block) (hz : w.heap.size ≤ w'.heap.size) (hb : ∀ k, k < w.heap.size → P k → w'.heap[k]? = w.heap[k]?) : SlN f s w' w'.heap.size A n xs :=
  ⟨h.1, fun hn => by
    obtain ⟨b, off, h1, h2, h3⟩ := h.2 hn
    exact ⟨b, off, h1, Nat.lt_of_lt_of_le h2 hz, fun k x hx j v hv => (World.cell?_of_block (hb b h2 (hA hn _ h1))).trans (h3 k x hx j v hv)⟩⟩
theorem Sl.keep {α : Type} {f : α → Value} {n : Nat} {A : Option Addr} {xs : List α} (h : Sl f w w.heap.size A n xs) (hA : 0 < xs.length → ∀ ad, A = some ad → P ad.block) (hz : w.heap.size ≤ w'.heap.size) (hb : ∀ k, k < w.heap.size → P k → w'.heap[k]? = w.heap[k]?) : Sl f w' w'.heap.size A n xs :=
  ⟨h.1, fun hn => by
    obtain ⟨b, off, h1, h2, h3⟩ := h.2 hn
    exact ⟨b, off, h1, Nat.lt_of_lt_of_le h2 hz, fun k x hx => (World.cell?_of_block (hb b h2 (hA hn _ h1))).trans (h3 k x hx)⟩⟩
theorem SlN.low {α : Type} {f : α → List Value} {s B n : Nat} {A : Option Addr} {l : List α} (h : SlN f s w B A n l) (hn : 0 < l.length) {ad : Addr} (e : A = some ad) : ad.block < B := by
  obtain ⟨b, off, h1, h2, _⟩ := h.2 hn
  rw [h1] at e
  obtain rfl := Option.some.inj e
  exact h2
theorem Sl.low {α : Type} {f : α → Value} {B n : Nat} {A : Option Addr} {l : List α} (h : Sl f w B A n l) (hn : 0 < l.length) {ad : Addr} (e : A = some ad) : ad.block < B := by
  obtain ⟨b, off, h1, h2, _⟩ := h.2 hn
  rw [h1] at e
  obtain rfl := Option.some.inj e
  exact h2
theorem RefQ.keep (h : RefQ P w r S) (hz : w.heap.size ≤ w'.heap.size) (hb : ∀ k, k < w.heap.size → P k → w'.heap[k]? = w.heap[k]?) (hP : ∀ k, k < w.heap.size → P k → P' k) : RefQ P' w' r S := by
  obtain ⟨ps, h1, h2, h3⟩ := h.vs
  obtain ⟨xs, h4, h5⟩ := h.ref.ch
  have hv : VIn w' w'.heap.size r.a5.a r.a5.n ps := ⟨h1.1.keep (fun hn => h.p5 (h1.1.1 ▸ hn)) hz hb, fun p hp => (h1.2 p hp).keep (h3 p hp) hz hb⟩
  refine ⟨⟨h.ref.q, h.ref.ms.keep (fun hn => h.p4 (h.ref.ms.1 ▸ hn)) hz hb, ⟨ps, hv, h2⟩, h.ref.vt.keep (fun hn => h.p6 (h.ref.vt.1 ▸ hn)) hz hb, ⟨xs, h4.keep (fun hn => h.p3 (h4.1 ▸ hn)) hz hb, h5⟩⟩, ?_, ?_, ?_, ?_, ⟨ps, hv, h2, ?_⟩⟩
  · exact fun hn ad e => hP _ (h4.low (by rw [h4.1]; exact hn) e) (h.p3 hn ad e)
  · exact fun hn ad e => hP _ (h.ref.ms.low (by rw [h.ref.ms.1]; exact hn) e) (h.p4 hn ad e)
  · exact fun hn ad e => hP _ (h1.1.low (by rw [h1.1.1]; exact hn) e) (h.p5 hn ad e)
  · exact fun hn ad e => hP _ (h.ref.vt.low (by rw [h.ref.vt.1]; exact hn) e) (h.p6 hn ad e)
  · exact fun p hp hn ad e => hP _ ((h1.2 p hp).low hn e) (h3 p hp hn ad e)
theorem RefQ.on (h : RefQ P w r S) (hb : Below w.heap.size w w') : RefQ P w' r S := h.keep hb.size (fun k hk _ => hb.block k hk) fun _ _ h => h
end
/-- What the reference's Apply does. -/
def ApP (P : Nat → Prop) (r : RV) (S : St) (x : Chn) (w : World) (e : Ending) (w' : World) : Prop :=
  ∃ r' : RV, e = .returned (.tuple #[r'.val, .int .i64 (playE S x)]) ∧ RefQ P w' r' (playS S x) ∧ r'.a3.n ≤ r.a3.n + 1 ∧ Below w.heap.size w w'

theorem rcheck_any (r : RV) (S : St) (x : Chn) (w : World) (hC : RefC w w.heap.size r S) (hI : Inv S) (hs : x.m.name.size ≤ 9223372036854775807) (hp : x.m.pub.size ≤ 9223372036854775807) :
    Calls Try.prog 50 #[r.val, aCh x] w (IntP (playE S x) w) := by
  unfold playE
  split
  · rename_i h; exact rcheck_adm r S x w hC hI h hs hp
  · rename_i h
    split
    · rename_i h'; exact rcheck_vot r S x w hC hI h'
    · rename_i h'; exact rcheck_rep r S x w hC hI h h'

/-- The three boxes: the circle, the change, the result. -/
structure BX (w W : World) (r : RV) (x : Chn) : Prop where
  cir : W.heap[w.heap.size]? = some r.obj
  chg : W.heap[w.heap.size + 1]? = some (oXr x)
  new : W.heap[w.heap.size + 2]? = some zAO
  bel : Below w.heap.size w W
section
variable {w W W' : World} {r r' : RV} {x : Chn}
theorem BX.lt (h : BX w W r x) : w.heap.size + 3 ≤ W.heap.size := lt_of_block h.new
theorem BX.up (h : BX w W r x) (hb : Below (w.heap.size + 3) W W') : BX w W' r x :=
  ⟨(hb.block _ (by omega)).trans h.cir, (hb.block _ (by omega)).trans h.chg, (hb.block _ (by omega)).trans h.new, h.bel.trans (hb.mono (by omega))⟩
theorem BX.on (h : BX w W r x) (hb : Below W.heap.size W W') : BX w W' r x := h.up (hb.mono h.lt)
theorem BX.set (h : BX w W r x) (i : Nat) (u : Value) (hr : r'.cells = r.cells.setIfInBounds i u) : BX w (W.setCell ⟨w.heap.size, i, none⟩ u) r' x :=
  ⟨by rw [setCell_row h.cir, ← hr], (Below.heap_setCell _ _ _ _ (by simp)).trans h.chg, (Below.heap_setCell _ _ _ _ (by simp)).trans h.new, h.bel.setCell (Nat.le_refl _) u⟩
theorem BX.seven (h : BX w W r x) : W.cell? ⟨w.heap.size, 0, none⟩ = some (.slice r.a1.a r.a1.n r.a1.c) ∧ W.cell? ⟨w.heap.size, 1, none⟩ = some (.slice r.a2.a r.a2.n r.a2.c) ∧ W.cell? ⟨w.heap.size, 2, none⟩ = some (.int .i64 r.q) ∧ W.cell? ⟨w.heap.size, 3, none⟩ = some (.slice r.a3.a r.a3.n r.a3.c) ∧ W.cell? ⟨w.heap.size, 4, none⟩ = some (.slice r.a4.a r.a4.n r.a4.c) ∧ W.cell? ⟨w.heap.size, 5, none⟩ = some (.slice r.a5.a r.a5.n r.a5.c) ∧ W.cell? ⟨w.heap.size, 6, none⟩ = some (.slice r.a6.a r.a6.n r.a6.c) := seven_of h.cir
theorem BX.nine (h : BX w W r x) : W.cell? ⟨w.heap.size + 1, 0, none⟩ = some (.int .i64 x.kind) ∧ W.cell? ⟨w.heap.size + 1, 1, none⟩ = some (.int .i64 x.m.dev) ∧ W.cell? ⟨w.heap.size + 1, 2, none⟩ = some (.string x.m.name) ∧ W.cell? ⟨w.heap.size + 1, 3, none⟩ = some (.string x.m.pub) ∧ W.cell? ⟨w.heap.size + 1, 4, none⟩ = some (.int .i64 x.m.quota) ∧ W.cell? ⟨w.heap.size + 1, 5, none⟩ = some (.bool x.m.exp) ∧ W.cell? ⟨w.heap.size + 1, 6, none⟩ = some (.int .i64 x.v) ∧ W.cell? ⟨w.heap.size + 1, 7, none⟩ = some (.int .i64 x.a) ∧ W.cell? ⟨w.heap.size + 1, 8, none⟩ = some (.int .i64 x.b) := nine_at h.chg
theorem BX.fr (h : BX w W r x) (i : Nat) : W.frozen? ⟨w.heap.size, i, none⟩ = false := frozen_of_row W w.heap.size i _ _ h.cir
theorem BX.intro (w : World) (r : RV) (x : Chn) : BX w (((w.alloc r.obj).alloc (oXr x)).alloc zAO) r x := by
  have h0 : (((w.alloc r.obj).alloc (oXr x)).alloc zAO).heap[w.heap.size]? = some r.obj := ((Below.heap_alloc _ _ _ (by simp <;> omega)).trans (Below.heap_alloc _ _ _ (by simp))).trans (heap_alloc_new w _)
  have h1 : (((w.alloc r.obj).alloc (oXr x)).alloc zAO).heap[w.heap.size + 1]? = some (oXr x) := (Below.heap_alloc _ _ _ (by simp)).trans (heap_new_at (w := w.alloc _) (by simp))
  have h2 : (((w.alloc r.obj).alloc (oXr x)).alloc zAO).heap[w.heap.size + 2]? = some zAO := heap_new_at (by simp)
  exact ⟨h0, h1, h2, (((Below.refl _ _).alloc (Nat.le_refl _) _).alloc (by simp) _).alloc (by simp <;> omega) _⟩
end
theorem OwnN.set {α : Type} {f : α → List Value} {s : Nat} {e : TypeId} {w : World} {base g i : Nat} {u v : Value} {xs : List α} (h : OwnN f s e w base v xs) (hg : g < base) : OwnN f s e (w.setCell ⟨g, i, none⟩ u) base v xs :=
  setCell_same h fun k hk => by have := (World.ownsRow.lt h k hk).1; omega
theorem below_al {a w : World} (h : Below a.heap.size a w) (o : Obj) : Below a.heap.size a (w.alloc o) := h.alloc h.size o
theorem new_fX (U : World) (x : Chn) : SlN fX 9 (U.alloc (.cells (fX x).toArray 37)) (U.heap.size + 1) (some ⟨U.heap.size, 0, none⟩) 1 [x] := SlN.of_block (heap_alloc_new U _) (Nat.lt_succ_self _)
/-- A slice's first row of its own. -/
theorem own_empty {α : Type} {f : α → List Value} {s : Nat} {e : TypeId} (w : World) : OwnN f s e (w.alloc (.cells #[] e)) w.heap.size (.slice (some ⟨w.heap.size, 0, none⟩) 0 0) [] :=
  World.ownsRow_lit w #[] 0 (Nat.le_refl _) (by unfold maxLen; omega) (by simp)
theorem OwnN.sl {α : Type} {f : α → List Value} {s : Nat} {e : TypeId} {w : World} {base n c : Nat} {A : Option Addr} {xs : List α} (hs : ∀ x, (f x).length = s) (h : OwnN f s e w base (.slice A n c) xs) : SlN f s w w.heap.size A n xs := by
  obtain ⟨A', c', h1, _, h2, _⟩ := h.shape hs
  obtain ⟨rfl, rfl, rfl⟩ : A = A' ∧ n = xs.length ∧ c = c' := by simpa using h1
  exact h2
/-- At a step of a region that draws its order: what is appended may lie anywhere. -/
theorem step_appE {P : Program} {w : World} {α : Type} {f : α → List Value} {s : Nat} (hs : ∀ x, (f x).length = s) (hs0 : 0 < s) {ops : Array Oper} {o : Oper} {a : Act} {K : Act → World → Prop} {Q : Exit → Act → World → Prop} {E : Prop} (hgd : o.guard = none) (sl x : Operand) (t : TypeId)
    (ho : o.op = .call { callee := .builtin .append, args := #[sl, x], argTypes := #[t, t] })
    (e : TypeId) (i : TypeInfo) (z : Value) (bytes : Nat) (ht : P.underlying t = some (.slice e)) (hi : P.info? e = some i) (hz : i.zero = some z)
    (hsize : i.size = s) (hby : i.bytes = bytes) (hzs : z.cells.size = s) (xs : List α) (base : Nat) (hown : OwnN f s e w base (a.eval sl) xs)
    (ys : List α) (hr : ∃ B A m c, a.eval x = .slice A m c ∧ SlN f s w B A m ys) (h1 : ∀ y, ∀ u ∈ f y, u.oneCell' = true) (hbytes : (xs.length + ys.length) * bytes ≤ 140737488355328) (hmax : xs.length + ys.length ≤ maxLen) (hbase : base ≤ w.heap.size)
    (h : ∀ v' w', Hid (OwnN f s e w' base v' (xs ++ ys)) → Hid (w.grownBy w' (a.eval sl).ownBlock) → Hid (∀ (B0 : Nat) (w0 : World), Below B0 w0 w → B0 ≤ base → B0 ≤ w.heap.size → Below B0 w0 w') → K (a.put o.dst v') w') :
    if Region.wanted o (yielded ops a.tmps) = true then Oper.wp P o a w K Q else E := by
  obtain ⟨B, A, m, c, hx, hsl⟩ := hr
  have hm : ys.length = m := hsl.1
  exact step_appN hs hs0 hgd sl x t ho e i z bytes ht hi hz hsize hby hzs (a.eval sl) xs base rfl hown A m c B ys hx hsl h1 (by rw [← hm]; exact hbytes) (by rw [← hm]; exact hmax) hbase
    fun v' w' h2 h3 _ => h v' w' h2 h3 fun B0 w0 hb hB hs => hown.below hb hB hs h3.out
/-- A block that the append's own row is not. -/
theorem keptN {w w' : World} {row : Option Nat} {g k : Nat} {o : Obj} (hg : w.grownBy w' row) (hr : row = some g ∨ row = none) (hne : g ≠ k) (hk : w.heap[k]? = some o) : w'.heap[k]? = some o :=
  (hg.block k (lt_of_block hk) (by rcases hr with rfl | rfl <;> simp [Ne.symm hne])).trans hk

/-- The writers behind a replacement, as the reference finds them. -/
def pickB (ws : List Int) (a b : Int) (k : Nat) : Bool := decide ((k : Int) = b) || (decide ((k : Int) ≠ a) && ws.contains (k : Int))
theorem selN_sorted (p : Nat → Bool) (n : Nat) : (selN p n).Pairwise (· < ·) := by
  unfold selN
  rw [List.pairwise_map]
  have h : (List.range n).Pairwise (· < ·) := List.pairwise_lt_range
  exact (h.filter p).imp fun h => by omega
theorem selN_mem {p : Nat → Bool} {n : Nat} {v : Int} : v ∈ selN p n ↔ ∃ k : Nat, k < n ∧ p k = true ∧ v = k := by
  unfold selN
  simp only [List.mem_map, List.mem_filter, List.mem_range]
  constructor
  · rintro ⟨k, ⟨h1, h2⟩, rfl⟩; exact ⟨k, h1, h2, rfl⟩
  · rintro ⟨k, h1, h2, rfl⟩; exact ⟨k, ⟨h1, h2⟩, rfl⟩
theorem sorted_ext : ∀ {l m : List Int}, l.Pairwise (· < ·) → m.Pairwise (· < ·) → (∀ v, v ∈ l ↔ v ∈ m) → l = m
  | [], [], _, _, _ => rfl
  | [], y :: m, _, _, h => absurd ((h y).2 (List.mem_cons_self ..)) (by simp)
  | x :: l, [], _, _, h => absurd ((h x).1 (List.mem_cons_self ..)) (by simp)
  | x :: l, y :: m, h1, h2, h => by
    have h1' := List.pairwise_cons.1 h1
    have h2' := List.pairwise_cons.1 h2
    have hxy : x = y := by
      have hx : x ∈ y :: m := (h x).1 (List.mem_cons_self ..)
      have hy : y ∈ x :: l := (h y).2 (List.mem_cons_self ..)
      rcases List.mem_cons.1 hx with e | hx
      · exact e
      · rcases List.mem_cons.1 hy with e | hy
        · exact e.symm
        · have := h1'.1 y hy; have := h2'.1 x hx; omega
    subst hxy
    rw [sorted_ext h1'.2 h2'.2 fun v => by
      have hv := h v
      simp only [List.mem_cons] at hv
      constructor
      · intro hm
        rcases hv.1 (.inr hm) with e | e
        · subst e; exact absurd (h1'.1 v hm) (by omega)
        · exact e
      · intro hm
        rcases hv.2 (.inr hm) with e | e
        · subst e; exact absurd (h2'.1 v hm) (by omega)
        · exact e]
theorem rep_sel {S : St} (hI : Inv S) {v a b : Int} {x : Vlt} (h0 : repE S v a b = 0) (hv : vltOf S v = some x) : selN (pickB x.ws a b) S.ms.length = repW x.ws a b := by
  obtain ⟨x', hx', ca, hb, aa, ab, cb⟩ := repE_ok h0
  rw [hv] at hx'
  obtain rfl := Option.some.inj hx'
  have hm := List.mem_of_getElem? (vltOf_get hv).1
  have hso := hI.wsp x hm
  have ha : a ∈ x.ws := by simpa using ca
  have hnb : b ∉ x.ws := by simpa using cb
  refine sorted_ext (selN_sorted _ _) (repW_sorted hso hnb) fun u => ?_
  rw [selN_mem, repW_mem hso ha]
  have hb' := hasB_iff.1 hb
  constructor
  · rintro ⟨k, hk, hp, rfl⟩
    unfold pickB at hp
    simp only [Bool.or_eq_true, Bool.and_eq_true, decide_eq_true_eq, List.contains_iff_mem] at hp
    rcases hp with h | ⟨h1, h2⟩
    · exact .inl h
    · exact .inr ⟨h2, h1⟩
  · rintro (rfl | ⟨h1, h2⟩)
    · exact ⟨u.toNat, by omega, by unfold pickB; simp; left; omega, by omega⟩
    · have hr := hI.wsr x hm u h1
      exact ⟨u.toNat, by omega, by unfold pickB; simp only [Bool.or_eq_true, Bool.and_eq_true, decide_eq_true_eq, List.contains_iff_mem]; right; rw [show ((u.toNat : Nat) : Int) = u by omega]; exact ⟨h2, h1⟩, by omega⟩
end Go.Proofs.Ytafhpomoobdmdaa
