/- The reference's Apply: what its walk needs. The reference's Apply: the rows that it makes, apart from each other. The reference's list of values while it grows: beside the circle's box, and one box more. -/
import Derived.Test.YtkeicjokekmkpaaGreatRp
import Derived.Test.YtkeicjokekmkpaaGreatRe3
import Derived.Deep.Onto
namespace Go.Proofs.YtkeicjokekmkpaaGreat
open Go.RowKit Mb
set_option linter.unusedVariables false
set_option linter.unusedSimpArgs false

abbrev zAO : Obj := .cells #[.slice none 0 0, .slice none 0 0, .int .i64 0, .slice none 0 0, .slice none 0 0, .slice none 0 0, .slice none 0 0] 34
theorem Tryz.infoX : (Tryz.prog.info? 42).map (fun i => (i.zero, i.size, i.bytes)) = some (some (.agg #[.int .i64 0, .int .i64 0, .string ⟨#[]⟩, .string ⟨#[]⟩, .int .i64 0, .bool false, .int .i64 0, .int .i64 0, .int .i64 0]), 9, 88) := by kernel_rfl
theorem Tryz.zsX : (Value.agg #[.int .i64 0, .int .i64 0, .string ⟨#[]⟩, .string ⟨#[]⟩, .int .i64 0, .bool false, .int .i64 0, .int .i64 0, .int .i64 0]).cells.size = 9 := by kernel_rfl
theorem Tryz.infoT : (Tryz.prog.info? 70).map (fun i => (i.zero, i.size, i.bytes)) = some (some (.agg #[.int .i64 0, .int .i64 0]), 2, 16) := by kernel_rfl
theorem Tryz.zsT : (Value.agg #[.int .i64 0, .int .i64 0]).cells.size = 2 := by kernel_rfl

/-- The reference's circle, its rows in blocks that a predicate holds of. -/
structure RefQ (P : Nat → Prop) (w : World) (r : RV) (S : St) : Prop where
  ref : RefC w w.heap.size r S
  p3 : 0 < r.a3.n → ∀ ad, r.a3.a = some ad → P ad.block
  p4 : 0 < r.a4.n → ∀ ad, r.a4.a = some ad → P ad.block
  p5 : 0 < r.a5.n → ∀ ad, r.a5.a = some ad → P ad.block
  p6 : 0 < r.a6.n → ∀ ad, r.a6.a = some ad → P ad.block
  vs : ∃ ps, VIn w w.heap.size r.a5.a r.a5.n ps ∧ ps.map Prod.fst = S.vs ∧ ∀ p ∈ ps, 0 < p.1.ws.length → ∀ ad, p.2.a = some ad → P ad.block
section
variable {P P' : Nat → Prop} {w w' : World} {r : RV} {S : St}
theorem SlN.keep {α : Type} {f : α → List Value} {s n : Nat} {A : Option Addr} {xs : List α} (h : SlN f s w w.heap.size A n xs) (hA : 0 < xs.length → ∀ ad, A = some ad → P ad.block) (hz : w.heap.size ≤ w'.heap.size) (hb : ∀ k, k < w.heap.size → P k → w'.heap[k]? = w.heap[k]?) : SlN f s w' w'.heap.size A n xs :=
  ⟨h.1, fun hn => by
    obtain ⟨b, off, h1, h2, h3⟩ := h.2 hn
    exact ⟨b, off, h1, Nat.lt_of_lt_of_le h2 hz, fun k x hx j v hv => (World.cell?_of_block (hb b h2 (hA hn _ h1))).trans (h3 k x hx j v hv)⟩⟩
theorem Sl.keep {α : Type} {f : α → Value} {n : Nat} {A : Option Addr} {xs : List α} (h : Sl f w w.heap.size A n xs) (hA : 0 < xs.length → ∀ ad, A = some ad → P ad.block) (hz : w.heap.size ≤ w'.heap.size) (hb : ∀ k, k < w.heap.size → P k → w'.heap[k]? = w.heap[k]?) : Sl f w' w'.heap.size A n xs :=
  ⟨h.1, fun hn => by
    obtain ⟨b, off, h1, h2, h3⟩ := h.2 hn
    exact ⟨b, off, h1, Nat.lt_of_lt_of_le h2 hz, fun k x hx => (World.cell?_of_block (hb b h2 (hA hn _ h1))).trans (h3 k x hx)⟩⟩
theorem SlN.low {α : Type} {f : α → List Value} {s B n : Nat} {A : Option Addr} {l : List α} (h : SlN f s w B A n l) (hn : 0 < l.length) {ad : Addr} (e : A = some ad) : ad.block < B := by
  obtain ⟨b, off, h1, h2, _⟩ := h.2 hn
  rw [h1] at e
  obtain rfl := Option.some.inj e
  exact h2
theorem Sl.low {α : Type} {f : α → Value} {B n : Nat} {A : Option Addr} {l : List α} (h : Sl f w B A n l) (hn : 0 < l.length) {ad : Addr} (e : A = some ad) : ad.block < B := by
  obtain ⟨b, off, h1, h2, _⟩ := h.2 hn
  rw [h1] at e
  obtain rfl := Option.some.inj e
  exact h2
theorem RefQ.keep (h : RefQ P w r S) (hz : w.heap.size ≤ w'.heap.size) (hb : ∀ k, k < w.heap.size → P k → w'.heap[k]? = w.heap[k]?) (hP : ∀ k, k < w.heap.size → P k → P' k) : RefQ P' w' r S := by
  obtain ⟨ps, h1, h2, h3⟩ := h.vs
  obtain ⟨xs, h4, h5⟩ := h.ref.ch
  have hv : VIn w' w'.heap.size r.a5.a r.a5.n ps := ⟨h1.1.keep (fun hn => h.p5 (h1.1.1 ▸ hn)) hz hb, fun p hp => (h1.2 p hp).keep (h3 p hp) hz hb⟩
  refine ⟨⟨h.ref.q, h.ref.ms.keep (fun hn => h.p4 (h.ref.ms.1 ▸ hn)) hz hb, ⟨ps, hv, h2⟩, h.ref.vt.keep (fun hn => h.p6 (h.ref.vt.1 ▸ hn)) hz hb, ⟨xs, h4.keep (fun hn => h.p3 (h4.1 ▸ hn)) hz hb, h5⟩⟩, ?_, ?_, ?_, ?_, ⟨ps, hv, h2, ?_⟩⟩
  · exact fun hn ad e => hP _ (h4.low (by rw [h4.1]; exact hn) e) (h.p3 hn ad e)
  · exact fun hn ad e => hP _ (h.ref.ms.low (by rw [h.ref.ms.1]; exact hn) e) (h.p4 hn ad e)
  · exact fun hn ad e => hP _ (h1.1.low (by rw [h1.1.1]; exact hn) e) (h.p5 hn ad e)
  · exact fun hn ad e => hP _ (h.ref.vt.low (by rw [h.ref.vt.1]; exact hn) e) (h.p6 hn ad e)
  · exact fun p hp hn ad e => hP _ ((h1.2 p hp).low hn e) (h3 p hp hn ad e)
theorem RefQ.on (h : RefQ P w r S) (hb : Below w.heap.size w w') : RefQ P w' r S := h.keep hb.size (fun k hk _ => hb.block k hk) fun _ _ h => h
end
/-- A change as it is kept. -/
def kx (x : Chn) : Chn := if x.kind = 1 ∨ x.kind = 2 then x else { x with kind := 3 }
theorem set_last {xs : List Chn} {x y : Chn} {n : Nat} (h : xs.length = n) : (xs ++ [x]).set n y = xs ++ [y] := by subst h; simp [List.set_append_right]
/-- What Apply leaves of the circle as New returned it, and what its changes read. -/
def ApK (r : RV) (S : St) (x : Chn) (w : World) (r' : RV) (w' : World) : Prop :=
  (playE S x ≠ 0 ∧ r' = r) ∨ (playE S x = 0 ∧ r'.a1 = r.a1 ∧ r'.a2 = r.a2 ∧ ∃ xs, SlN fX 9 w w.heap.size r.a3.a r.a3.n xs ∧ SlN fX 9 w' w'.heap.size r'.a3.a r'.a3.n (xs ++ [kx x]))
/-- What the reference's Apply does. -/
def ApP (P : Nat → Prop) (r : RV) (S : St) (x : Chn) (w : World) (e : Ending) (w' : World) : Prop :=
  ∃ r' : RV, e = .returned (.tuple #[r'.val, .int .i64 (playE S x)]) ∧ RefQ P w' r' (playS S x) ∧ r'.a3.n ≤ r.a3.n + 1 ∧ Below w.heap.size w w' ∧ ApK r S x w r' w'

theorem rcheck_any (r : RV) (S : St) (x : Chn) (w : World) (hC : RefC w w.heap.size r S) (hI : Inv S) (hs : x.m.name.size ≤ 9223372036854775807) (hp : x.m.pub.size ≤ 9223372036854775807) :
    Calls Tryz.prog 24 #[r.val, aCh x] w (IntP (playE S x) w) := by
  unfold playE
  split
  · rename_i h; exact rcheck_adm r S x w hC hI h hs hp
  · rename_i h
    split
    · rename_i h'; exact rcheck_vot r S x w hC hI h'
    · rename_i h'; exact rcheck_rep r S x w hC hI h h'

/-- The three boxes: the circle, the change, the result. -/
structure BX (w W : World) (r : RV) (x : Chn) : Prop where
  cir : W.heap[w.heap.size]? = some r.obj
  chg : W.heap[w.heap.size + 1]? = some (oXr x)
  new : W.heap[w.heap.size + 2]? = some zAO
  bel : Below w.heap.size w W
section
variable {w W W' : World} {r r' : RV} {x : Chn}
theorem BX.lt (h : BX w W r x) : w.heap.size + 3 ≤ W.heap.size := lt_of_block h.new
theorem BX.up (h : BX w W r x) (hb : Below (w.heap.size + 3) W W') : BX w W' r x :=
  ⟨(hb.block _ (by omega)).trans h.cir, (hb.block _ (by omega)).trans h.chg, (hb.block _ (by omega)).trans h.new, h.bel.trans (hb.mono (by omega))⟩
theorem BX.on (h : BX w W r x) (hb : Below W.heap.size W W') : BX w W' r x := h.up (hb.mono h.lt)
theorem BX.set (h : BX w W r x) (i : Nat) (u : Value) (hr : r'.cells = r.cells.setIfInBounds i u) : BX w (W.setCell ⟨w.heap.size, i, none⟩ u) r' x :=
  ⟨by rw [setCell_row h.cir, ← hr], (Below.heap_setCell _ _ _ _ (by simp)).trans h.chg, (Below.heap_setCell _ _ _ _ (by simp)).trans h.new, h.bel.setCell (Nat.le_refl _) u⟩
theorem BX.seven (h : BX w W r x) : W.cell? ⟨w.heap.size, 0, none⟩ = some (.slice r.a1.a r.a1.n r.a1.c) ∧ W.cell? ⟨w.heap.size, 1, none⟩ = some (.slice r.a2.a r.a2.n r.a2.c) ∧ W.cell? ⟨w.heap.size, 2, none⟩ = some (.int .i64 r.q) ∧ W.cell? ⟨w.heap.size, 3, none⟩ = some (.slice r.a3.a r.a3.n r.a3.c) ∧ W.cell? ⟨w.heap.size, 4, none⟩ = some (.slice r.a4.a r.a4.n r.a4.c) ∧ W.cell? ⟨w.heap.size, 5, none⟩ = some (.slice r.a5.a r.a5.n r.a5.c) ∧ W.cell? ⟨w.heap.size, 6, none⟩ = some (.slice r.a6.a r.a6.n r.a6.c) := seven_of h.cir
theorem BX.nine (h : BX w W r x) : W.cell? ⟨w.heap.size + 1, 0, none⟩ = some (.int .i64 x.kind) ∧ W.cell? ⟨w.heap.size + 1, 1, none⟩ = some (.int .i64 x.m.dev) ∧ W.cell? ⟨w.heap.size + 1, 2, none⟩ = some (.string x.m.name) ∧ W.cell? ⟨w.heap.size + 1, 3, none⟩ = some (.string x.m.pub) ∧ W.cell? ⟨w.heap.size + 1, 4, none⟩ = some (.int .i64 x.m.quota) ∧ W.cell? ⟨w.heap.size + 1, 5, none⟩ = some (.bool x.m.exp) ∧ W.cell? ⟨w.heap.size + 1, 6, none⟩ = some (.int .i64 x.v) ∧ W.cell? ⟨w.heap.size + 1, 7, none⟩ = some (.int .i64 x.a) ∧ W.cell? ⟨w.heap.size + 1, 8, none⟩ = some (.int .i64 x.b) := nine_at h.chg
theorem BX.fr (h : BX w W r x) (i : Nat) : W.frozen? ⟨w.heap.size, i, none⟩ = false := frozen_of_row W w.heap.size i _ _ h.cir
theorem BX.intro (w : World) (r : RV) (x : Chn) : BX w (((w.alloc r.obj).alloc (oXr x)).alloc zAO) r x := by
  have h0 : (((w.alloc r.obj).alloc (oXr x)).alloc zAO).heap[w.heap.size]? = some r.obj := ((Below.heap_alloc _ _ _ (by simp <;> omega)).trans (Below.heap_alloc _ _ _ (by simp))).trans (heap_alloc_new w _)
  have h1 : (((w.alloc r.obj).alloc (oXr x)).alloc zAO).heap[w.heap.size + 1]? = some (oXr x) := (Below.heap_alloc _ _ _ (by simp)).trans (heap_new_at (w := w.alloc _) (by simp))
  have h2 : (((w.alloc r.obj).alloc (oXr x)).alloc zAO).heap[w.heap.size + 2]? = some zAO := heap_new_at (by simp)
  exact ⟨h0, h1, h2, (((Below.refl _ _).alloc (Nat.le_refl _) _).alloc (by simp) _).alloc (by simp <;> omega) _⟩
end
theorem OwnN.set {α : Type} {f : α → List Value} {s : Nat} {e : TypeId} {w : World} {base g i : Nat} {u v : Value} {xs : List α} (h : OwnN f s e w base v xs) (hg : g < base) : OwnN f s e (w.setCell ⟨g, i, none⟩ u) base v xs :=
  setCell_same h fun k hk => by have := (World.ownsRow.lt h k hk).1; omega
theorem below_al {a w : World} (h : Below a.heap.size a w) (o : Obj) : Below a.heap.size a (w.alloc o) := h.alloc h.size o
theorem new_fX (U : World) (x : Chn) : SlN fX 9 (U.alloc (.cells (fX x).toArray 42)) (U.heap.size + 1) (some ⟨U.heap.size, 0, none⟩) 1 [x] := SlN.of_block (heap_alloc_new U _) (Nat.lt_succ_self _)
/-- A slice's first row of its own. -/
theorem own_empty {α : Type} {f : α → List Value} {s : Nat} {e : TypeId} (w : World) : OwnN f s e (w.alloc (.cells #[] e)) w.heap.size (.slice (some ⟨w.heap.size, 0, none⟩) 0 0) [] :=
  World.ownsRow_lit w #[] 0 (Nat.le_refl _) (by unfold maxLen; omega) (by simp)
theorem OwnN.sl {α : Type} {f : α → List Value} {s : Nat} {e : TypeId} {w : World} {base n c : Nat} {A : Option Addr} {xs : List α} (hs : ∀ x, (f x).length = s) (h : OwnN f s e w base (.slice A n c) xs) : SlN f s w w.heap.size A n xs := by
  obtain ⟨A', c', h1, _, h2, _⟩ := h.shape hs
  obtain ⟨rfl, rfl, rfl⟩ : A = A' ∧ n = xs.length ∧ c = c' := by simpa using h1
  exact h2
/-- At a step of a region that draws its order: what is appended may lie anywhere. -/
theorem step_appE {P : Program} {w : World} {α : Type} {f : α → List Value} {s : Nat} (hs : ∀ x, (f x).length = s) (hs0 : 0 < s) {ops : Array Oper} {o : Oper} {a : Act} {K : Act → World → Prop} {Q : Exit → Act → World → Prop} {E : Prop} (hgd : o.guard = none) (sl x : Operand) (t : TypeId)
    (ho : o.op = .call { callee := .builtin .append, args := #[sl, x], argTypes := #[t, t] })
    (e : TypeId) (i : TypeInfo) (z : Value) (bytes : Nat) (ht : P.underlying t = some (.slice e)) (hi : P.info? e = some i) (hz : i.zero = some z)
    (hsize : i.size = s) (hby : i.bytes = bytes) (hzs : z.cells.size = s) (xs : List α) (base : Nat) (hown : OwnN f s e w base (a.eval sl) xs)
    (ys : List α) (hr : ∃ B A m c, a.eval x = .slice A m c ∧ SlN f s w B A m ys) (h1 : ∀ y, ∀ u ∈ f y, u.oneCell' = true) (hbytes : (xs.length + ys.length) * bytes ≤ 140737488355328) (hmax : xs.length + ys.length ≤ maxLen) (hbase : base ≤ w.heap.size)
    (h : ∀ v' w', Hid (OwnN f s e w' base v' (xs ++ ys)) → Hid (w.grownBy w' (a.eval sl).ownBlock) → Hid (∀ (B0 : Nat) (w0 : World), Below B0 w0 w → B0 ≤ base → B0 ≤ w.heap.size → Below B0 w0 w') → K (a.put o.dst v') w') :
    if Region.wanted o (yielded ops a.tmps) = true then Oper.wp P o a w K Q else E := by
  obtain ⟨B, A, m, c, hx, hsl⟩ := hr
  have hm : ys.length = m := hsl.1
  exact step_appN hs hs0 hgd sl x t ho e i z bytes ht hi hz hsize hby hzs (a.eval sl) xs base rfl hown A m c B ys hx hsl h1 (by rw [← hm]; exact hbytes) (by rw [← hm]; exact hmax) hbase
    fun v' w' h2 h3 _ => h v' w' h2 h3 fun B0 w0 hb hB hs => hown.below hb hB hs h3.out
/-- A block that the append's own row is not. -/
theorem keptN {w w' : World} {row : Option Nat} {g k : Nat} {o : Obj} (hg : w.grownBy w' row) (hr : row = some g ∨ row = none) (hne : g ≠ k) (hk : w.heap[k]? = some o) : w'.heap[k]? = some o :=
  (hg.block k (lt_of_block hk) (by rcases hr with rfl | rfl <;> simp [Ne.symm hne])).trans hk

/-- The writers behind a replacement, as the reference finds them. -/
def pickB (ws : List Int) (a b : Int) (k : Nat) : Bool := decide ((k : Int) = b) || (decide ((k : Int) ≠ a) && ws.contains (k : Int))
theorem selN_sorted (p : Nat → Bool) (n : Nat) : (selN p n).Pairwise (· < ·) := by
  unfold selN
  rw [List.pairwise_map]
  have h : (List.range n).Pairwise (· < ·) := List.pairwise_lt_range
  exact (h.filter p).imp fun h => by omega
theorem selN_mem {p : Nat → Bool} {n : Nat} {v : Int} : v ∈ selN p n ↔ ∃ k : Nat, k < n ∧ p k = true ∧ v = k := by
  unfold selN
  simp only [List.mem_map, List.mem_filter, List.mem_range]
  constructor
  · rintro ⟨k, ⟨h1, h2⟩, rfl⟩; exact ⟨k, h1, h2, rfl⟩
  · rintro ⟨k, h1, h2, rfl⟩; exact ⟨k, ⟨h1, h2⟩, rfl⟩
theorem sorted_ext : ∀ {l m : List Int}, l.Pairwise (· < ·) → m.Pairwise (· < ·) → (∀ v, v ∈ l ↔ v ∈ m) → l = m
  | [], [], _, _, _ => rfl
  | [], y :: m, _, _, h => absurd ((h y).2 (List.mem_cons_self ..)) (by simp)
  | x :: l, [], _, _, h => absurd ((h x).1 (List.mem_cons_self ..)) (by simp)
  | x :: l, y :: m, h1, h2, h => by
    have h1' := List.pairwise_cons.1 h1
    have h2' := List.pairwise_cons.1 h2
    have hxy : x = y := by
      have hx : x ∈ y :: m := (h x).1 (List.mem_cons_self ..)
      have hy : y ∈ x :: l := (h y).2 (List.mem_cons_self ..)
      rcases List.mem_cons.1 hx with e | hx
      · exact e
      · rcases List.mem_cons.1 hy with e | hy
        · exact e.symm
        · have := h1'.1 y hy; have := h2'.1 x hx; omega
    subst hxy
    rw [sorted_ext h1'.2 h2'.2 fun v => by
      have hv := h v
      simp only [List.mem_cons] at hv
      constructor
      · intro hm
        rcases hv.1 (.inr hm) with e | e
        · subst e; exact absurd (h1'.1 v hm) (by omega)
        · exact e
      · intro hm
        rcases hv.2 (.inr hm) with e | e
        · subst e; exact absurd (h2'.1 v hm) (by omega)
        · exact e]
theorem rep_sel {S : St} (hI : Inv S) {v a b : Int} {x : Vlt} (h0 : repE S v a b = 0) (hv : vltOf S v = some x) : selN (pickB x.ws a b) S.ms.length = repW x.ws a b := by
  obtain ⟨x', hx', ca, hb, aa, ab, cb⟩ := repE_ok h0
  rw [hv] at hx'
  obtain rfl := Option.some.inj hx'
  have hm := List.mem_of_getElem? (vltOf_get hv).1
  have hso := hI.wsp x hm
  have ha : a ∈ x.ws := by simpa using ca
  have hnb : b ∉ x.ws := by simpa using cb
  refine sorted_ext (selN_sorted _ _) (repW_sorted hso hnb) fun u => ?_
  rw [selN_mem, repW_mem hso ha]
  have hb' := hasB_iff.1 hb
  constructor
  · rintro ⟨k, hk, hp, rfl⟩
    unfold pickB at hp
    simp only [Bool.or_eq_true, Bool.and_eq_true, decide_eq_true_eq, List.contains_iff_mem] at hp
    rcases hp with h | ⟨h1, h2⟩
    · exact .inl h
    · exact .inr ⟨h2, h1⟩
  · rintro (rfl | ⟨h1, h2⟩)
    · exact ⟨u.toNat, by omega, by unfold pickB; simp; left; omega, by omega⟩
    · have hr := hI.wsr x hm u h1
      exact ⟨u.toNat, by omega, by unfold pickB; simp only [Bool.or_eq_true, Bool.and_eq_true, decide_eq_true_eq, List.contains_iff_mem]; right; rw [show ((u.toNat : Nat) : Int) = u by omega]; exact ⟨h2, h1⟩, by omega⟩
end Go.Proofs.YtkeicjokekmkpaaGreat
namespace Go.Proofs.YtkeicjokekmkpaaGreat
open Go.RowKit Mb
set_option linter.unusedVariables false
set_option linter.unusedSimpArgs false

/-- Two values that do not share a block. -/
def Apt (u v : Value) : Prop := ∀ k, u.ownBlock = some k → v.ownBlock ≠ some k
theorem Apt.symm {u v : Value} (h : Apt u v) : Apt v u := fun k hk e => h k e hk
theorem Apt.ne {u v : Value} (h : Apt u v) : u.ownBlock = none ∨ u.ownBlock ≠ v.ownBlock := by
  rcases hk : u.ownBlock with _ | k
  · exact .inl rfl
  · exact .inr fun e => h k hk e.symm
/-- Behind the changes. -/
structure AR3 (w wx : World) (r : RV) (x : Chn) (xs : List Chn) : Prop where
  bx : BX w wx r x
  o3 : OwnN fX 9 42 wx (w.heap.size + 3) (fS r.a3) xs
/-- Behind the members. -/
structure AR4 (w wx : World) (r : RV) (x : Chn) (xs : List Chn) (ms : List Mem) : Prop where
  bx : BX w wx r x
  o3 : OwnN fX 9 42 wx (w.heap.size + 3) (fS r.a3) xs
  o4 : OwnN fM 5 40 wx (w.heap.size + 3) (fS r.a4) ms
  n34 : Apt (fS r.a3) (fS r.a4)
/-- Behind the vaults. -/
structure AR (w wx : World) (r : RV) (x : Chn) (xs : List Chn) (ms : List Mem) (ps : List VP) : Prop where
  bx : BX w wx r x
  o3 : OwnN fX 9 42 wx (w.heap.size + 3) (fS r.a3) xs
  o4 : OwnN fM 5 40 wx (w.heap.size + 3) (fS r.a4) ms
  o5 : OwnN fP 15 68 wx (w.heap.size + 3) (fS r.a5) ps
  n34 : Apt (fS r.a3) (fS r.a4)
  n35 : Apt (fS r.a3) (fS r.a5)
  n45 : Apt (fS r.a4) (fS r.a5)
section
variable {w wx wy : World} {r1 r2 : Hd} {rq : Int} {h3 h4 h5 h6 : Hd} {x : Chn} {xs : List Chn} {ms : List Mem} {ps : List VP}
theorem OwnN.down {α : Type} {f : α → List Value} {s : Nat} {e : TypeId} {w : World} {base b : Nat} {v : Value} {xs : List α} (h : OwnN f s e w base v xs) (hb : b ≤ base) : OwnN f s e w b v xs := World.ownsRow.mono h hb
theorem apt_new {α β : Type} {f : α → List Value} {f' : β → List Value} {s s' : Nat} {e e' : TypeId} {w w' : World} {base : Nat} {v u : Value} {xs : List α} {ys : List β} (h : OwnN f s e w base v xs) (h' : OwnN f' s' e' w' w.heap.size u ys) : Apt v u := fun k hk e => by
  have := (World.ownsRow.lt h k hk).2
  have := (World.ownsRow.lt h' k e).1
  omega
theorem AR3.mem {A : Option Addr} {n c : Nat} (h : AR3 w wx ⟨r1, r2, rq, h3, h4, h5, h6⟩ x xs) (hb : Below wx.heap.size wx wy) (ho : OwnN fM 5 40 wy wx.heap.size (.slice A n c) ms) :
    AR4 w (wy.setCell ⟨w.heap.size, 4, none⟩ (.slice A n c)) ⟨r1, r2, rq, h3, ⟨A, n, c⟩, h5, h6⟩ x xs ms :=
  ⟨(h.bx.on hb).set 4 _ rfl, OwnN.set (h.o3.on hb) (by omega), OwnN.set (ho.down h.bx.lt) (by omega), apt_new h.o3 ho⟩
theorem AR4.vlt {A : Option Addr} {n c : Nat} (h : AR4 w wx ⟨r1, r2, rq, h3, h4, h5, h6⟩ x xs ms) (hb : Below wx.heap.size wx wy) (ho : OwnN fP 15 68 wy wx.heap.size (.slice A n c) ps) :
    AR w (wy.setCell ⟨w.heap.size, 5, none⟩ (.slice A n c)) ⟨r1, r2, rq, h3, h4, ⟨A, n, c⟩, h6⟩ x xs ms ps :=
  ⟨(h.bx.on hb).set 5 _ rfl, OwnN.set (h.o3.on hb) (by omega), OwnN.set (h.o4.on hb) (by omega), OwnN.set (ho.down h.bx.lt) (by omega), h.n34, apt_new h.o3 ho, apt_new h.o4 ho⟩
theorem AR.on {r : RV} (h : AR w wx r x xs ms ps) (hb : Below wx.heap.size wx wy) : AR w wy r x xs ms ps :=
  ⟨h.bx.on hb, h.o3.on hb, h.o4.on hb, h.o5.on hb, h.n34, h.n35, h.n45⟩
theorem apt_turn {v u t : Value} (h : Apt v t) (ht : ∀ k, t.ownBlock = some k → k < wx.heap.size) (hu : u.ownBlock = v.ownBlock ∨ ∃ k, u.ownBlock = some k ∧ wx.heap.size ≤ k) : Apt u t := fun k hk e => by
  rcases hu with hu | ⟨k', h1, h2⟩
  · exact h k (hu ▸ hk) e
  · rw [h1] at hk
    obtain rfl : k' = k := Option.some.inj hk
    have := ht k' e
    omega
theorem BX.grown {r : RV} (h : BX w wx r x) {row : Option Nat} (hg : wx.grownBy wy row) (hr : ∀ k, row = some k → w.heap.size + 3 ≤ k) : BX w wy r x := h.up (grown_below hg hr h.lt)
/-- A member more. -/
theorem AR.addM {A : Option Addr} {n c : Nat} {ms' : List Mem} (h : AR w wx ⟨r1, r2, rq, h3, h4, h5, h6⟩ x xs ms ps) (hg : wx.grownBy wy (fS h4).ownBlock) (ho : OwnN fM 5 40 wy (w.heap.size + 3) (.slice A n c) ms')
    (hu : (Value.slice A n c).ownBlock = (fS h4).ownBlock ∨ ∃ k, (Value.slice A n c).ownBlock = some k ∧ wx.heap.size ≤ k) :
    AR w (wy.setCell ⟨w.heap.size, 4, none⟩ (.slice A n c)) ⟨r1, r2, rq, h3, ⟨A, n, c⟩, h5, h6⟩ x xs ms' ps := by
  have h4l : ∀ k, (fS h4).ownBlock = some k → w.heap.size + 3 ≤ k := fun k hk => (World.ownsRow.lt h.o4 k hk).1
  have b3 := h.o3.kept hg h.n34.ne
  have b5 := h.o5.kept hg h.n45.symm.ne
  have n1 : Apt (Value.slice A n c) (fS h3) := apt_turn h.n34.symm (fun k hk => (World.ownsRow.lt h.o3 k hk).2) hu
  have n2 : Apt (Value.slice A n c) (fS h5) := apt_turn h.n45 (fun k hk => (World.ownsRow.lt h.o5 k hk).2) hu
  exact ⟨(h.bx.grown hg h4l).set 4 _ rfl, OwnN.set b3 (by omega), OwnN.set ho (by omega), OwnN.set b5 (by omega), n1.symm, h.n35, n2⟩
/-- A member expelled. -/
theorem AR.expel {gb n c k : Nat} {m : Mem} (h : AR w wx ⟨r1, r2, rq, h3, ⟨some ⟨gb, 0, none⟩, n, c⟩, h5, h6⟩ x xs ms ps) (hm : ms[k]? = some m) :
    AR w (wx.setCell ⟨gb, k * 5 + 4, none⟩ (.bool true)) ⟨r1, r2, rq, h3, ⟨some ⟨gb, 0, none⟩, n, c⟩, h5, h6⟩ x xs (ms.set k m.out) ps := by
  obtain ⟨o4, hg⟩ := OwnN.stored (x := m) (y := m.out) (j := 4) (u := .bool true) fM_len h.o4 rfl (by omega) hm
  have hg' : wx.grownBy (wx.setCell ⟨gb, k * 5 + 4, none⟩ (.bool true)) (fS ⟨some ⟨gb, 0, none⟩, n, c⟩).ownBlock := hg
  exact ⟨h.bx.grown hg' fun k hk => (World.ownsRow.lt h.o4 k hk).1, h.o3.kept hg' h.n34.ne, o4, h.o5.kept hg' h.n45.symm.ne, h.n34, h.n35, h.n45⟩
/-- A change's kind set. -/
theorem AR.kind {gb n c k : Nat} {y : Chn} {v : Int} (h : AR w wx ⟨r1, r2, rq, ⟨some ⟨gb, 0, none⟩, n, c⟩, h4, h5, h6⟩ x xs ms ps) (hm : xs[k]? = some y) :
    AR w (wx.setCell ⟨gb, k * 9, none⟩ (.int .i64 v)) ⟨r1, r2, rq, ⟨some ⟨gb, 0, none⟩, n, c⟩, h4, h5, h6⟩ x (xs.set k { y with kind := v }) ms ps := by
  obtain ⟨o3, hg⟩ := OwnN.stored (x := y) (y := { y with kind := v }) (j := 0) (u := .int .i64 v) fX_len h.o3 rfl (by omega) hm
  rw [Nat.add_zero] at o3 hg
  have hg' : wx.grownBy (wx.setCell ⟨gb, k * 9, none⟩ (.int .i64 v)) (fS ⟨some ⟨gb, 0, none⟩, n, c⟩).ownBlock := hg
  exact ⟨h.bx.grown hg' fun k hk => (World.ownsRow.lt h.o3 k hk).1, o3, h.o4.kept hg' h.n34.symm.ne, h.o5.kept hg' h.n35.symm.ne, h.n34, h.n35, h.n45⟩
/-- A vault's writers set. -/
theorem AR.wrs {gb n c k : Nat} {p : VP} {a : Option Addr} {m e : Nat} {ws : List Int} (h : AR w wx ⟨r1, r2, rq, h3, h4, ⟨some ⟨gb, 0, none⟩, n, c⟩, h6⟩ x xs ms ps) (hm : ps[k]? = some p) :
    AR w (wx.setCell ⟨gb, k * 15 + 1, none⟩ (.slice a m e)) ⟨r1, r2, rq, h3, h4, ⟨some ⟨gb, 0, none⟩, n, c⟩, h6⟩ x xs ms (ps.set k ({ p.1 with ws := ws }, ⟨a, m, e⟩)) := by
  obtain ⟨o5, hg⟩ := OwnN.stored (x := p) (y := (({ p.1 with ws := ws }, ⟨a, m, e⟩) : VP)) (j := 1) (u := .slice a m e) fP_len h.o5 rfl (by omega) hm
  have hg' : wx.grownBy (wx.setCell ⟨gb, k * 15 + 1, none⟩ (.slice a m e)) (fS ⟨some ⟨gb, 0, none⟩, n, c⟩).ownBlock := hg
  exact ⟨h.bx.grown hg' fun k hk => (World.ownsRow.lt h.o5 k hk).1, h.o3.kept hg' h.n35.ne, h.o4.kept hg' h.n45.ne, o5, h.n34, h.n35, h.n45⟩
/-- Another row of votes. -/
theorem AR.vts {A : Option Addr} {n c : Nat} (h : AR w wx ⟨r1, r2, rq, h3, h4, h5, h6⟩ x xs ms ps) (hb : Below wx.heap.size wx wy) :
    AR w (wy.setCell ⟨w.heap.size, 6, none⟩ (.slice A n c)) ⟨r1, r2, rq, h3, h4, h5, ⟨A, n, c⟩⟩ x xs ms ps :=
  ⟨(h.bx.on hb).set 6 _ rfl, OwnN.set (h.o3.on hb) (by omega), OwnN.set (h.o4.on hb) (by omega), OwnN.set (h.o5.on hb) (by omega), h.n34, h.n35, h.n45⟩
/-- What Apply has made reads as the circle. -/
theorem AR.refq {P : Nat → Prop} {r : RV} {S : St} (hP : ∀ k, w.heap.size + 3 ≤ k → P k) (h : AR w wx r x xs ms ps) (hxs : xs.length ≤ 1000)
    (h3n : r.a3.n = xs.length) (h4n : r.a4.n = ms.length) (h5n : r.a5.n = ps.length)
    (hw : ∀ p ∈ ps, Sl I wx wx.heap.size p.2.a p.2.n p.1.ws ∧ (0 < p.1.ws.length → ∀ ad, p.2.a = some ad → P ad.block))
    (hv : SlN fT 2 wx wx.heap.size r.a6.a r.a6.n S.votes) (hv6 : 0 < r.a6.n → ∀ ad, r.a6.a = some ad → P ad.block) (hq : r.q = S.q) (hm : ms = S.ms) (hp : ps.map Prod.fst = S.vs) : RefQ P wx r S := by
  obtain ⟨r1, r2, rq, ⟨A3, n3, c3⟩, ⟨A4, n4, c4⟩, ⟨A5, n5, c5⟩, r6⟩ := r
  subst hm
  have own : ∀ {α : Type} {f : α → List Value} {s : Nat} {e : TypeId} {A : Option Addr} {n c : Nat} {ys : List α}, OwnN f s e wx (w.heap.size + 3) (.slice A n c) ys → ∀ ad, A = some ad → P ad.block := fun ho ad hA => hP _ (World.ownsRow.lt ho ad.block (by rw [hA]; rfl)).1
  have hvi : VIn wx wx.heap.size A5 n5 ps := ⟨OwnN.sl fP_len h.o5, fun p hp => (hw p hp).1⟩
  exact ⟨⟨hq, OwnN.sl fM_len h.o4, ⟨ps, hvi, hp⟩, hv, ⟨xs, OwnN.sl fX_len h.o3, hxs⟩⟩, fun _ => own h.o3, fun _ => own h.o4, fun _ => own h.o5, hv6, ⟨ps, hvi, hp, fun p hp => (hw p hp).2⟩⟩
end
section
variable {P : Nat → Prop} {w wx w9 : World} {r r' : RV} {S S' : St} {x : Chn} {xs : List Chn} {ms : List Mem} {ps ps0 : List VP}
/-- The end of Apply: all rows are made, and the result's box is filled. -/
theorem AR.done (hP : ∀ k, w.heap.size ≤ k → P k) (h : AR w wx r' x xs ms ps) (hxs : xs.length ≤ 1000)
    (h3n : r'.a3.n = xs.length) (h4n : r'.a4.n = ms.length) (h5n : r'.a5.n = ps.length)
    (hw : ∀ p ∈ ps, Sl I wx wx.heap.size p.2.a p.2.n p.1.ws ∧ (0 < p.1.ws.length → ∀ ad, p.2.a = some ad → P ad.block ∧ ad.block ≠ w.heap.size + 2))
    (hv : SlN fT 2 wx wx.heap.size r'.a6.a r'.a6.n S'.votes) (hv6 : 0 < r'.a6.n → ∀ ad, r'.a6.a = some ad → P ad.block ∧ ad.block ≠ w.heap.size + 2) (hq : r'.q = S'.q) (hm : ms = S'.ms) (hp : ps.map Prod.fst = S'.vs)
    (hg : wx.grownBy w9 (some (w.heap.size + 2))) : RefQ P w9 r' S' :=
  (AR.refq (P := fun k => P k ∧ k ≠ w.heap.size + 2) (fun k hk => ⟨hP k (by omega), by omega⟩) h hxs h3n h4n h5n hw hv hv6 hq hm hp).keep hg.size (fun k hk hk' => hg.block k hk (fun e => hk'.2 (Option.some.inj e))) fun k _ hk => hk.1
/-- What the changes read at the end of Apply. -/
theorem AR.ch3 {ys : List Chn} (h : AR w wx r' x ys ms ps) (hg : wx.grownBy w9 (some (w.heap.size + 2))) (hk : ys = xs ++ [kx x]) : SlN fX 9 w9 w9.heap.size r'.a3.a r'.a3.n (xs ++ [kx x]) := by
  subst hk
  obtain ⟨r1, r2, rq, ⟨A3, n3, c3⟩, h4, h5, h6⟩ := r'
  exact (OwnN.sl fX_len h.o3).keep (P := fun k => k ≠ w.heap.size + 2) (fun _ ad e => by have := (World.ownsRow.lt h.o3 ad.block (by show (Value.slice A3 n3 c3).ownBlock = _; rw [show A3 = some ad from e]; rfl)).1; omega) hg.size fun k hk hk' => hg.block k hk (fun e => hk' (Option.some.inj e))
/-- What came in stays apart from the result's box. -/
theorem VIn.far {A : Option Addr} {n : Nat} (h : VIn w w.heap.size A n ps0) (hpw : ∀ p ∈ ps0, 0 < p.1.ws.length → ∀ ad, p.2.a = some ad → P ad.block) (hb : Below w.heap.size w wx) :
    ∀ p ∈ ps0, Sl I wx wx.heap.size p.2.a p.2.n p.1.ws ∧ (0 < p.1.ws.length → ∀ ad, p.2.a = some ad → P ad.block ∧ ad.block ≠ w.heap.size + 2) := fun p hp =>
  ⟨((h.2 p hp).up hb (Nat.le_refl _)).more' hb.size, fun hn ad e => ⟨hpw p hp hn ad e, by have := (h.2 p hp).low hn e; omega⟩⟩
theorem RefQ.vfar (h : RefQ P w r S) (hb : Below w.heap.size w wx) : SlN fT 2 wx wx.heap.size r.a6.a r.a6.n S.votes ∧ (0 < r.a6.n → ∀ ad, r.a6.a = some ad → P ad.block ∧ ad.block ≠ w.heap.size + 2) :=
  ⟨(h.ref.vt.up hb (Nat.le_refl _)).more hb.size, fun hn ad e => ⟨h.p6 hn ad e, by have := h.ref.vt.low (h.ref.vt.1 ▸ hn) e; omega⟩⟩
end
theorem OwnN.blk {α : Type} {f : α → List Value} {s : Nat} (hs : ∀ x, (f x).length = s) {e : TypeId} {w : World} {base n c : Nat} {A : Option Addr} {xs : List α} (h : OwnN f s e w base (.slice A n c) xs) (hn : 0 < xs.length) : ∃ gb, A = some ⟨gb, 0, none⟩ := by
  obtain ⟨A', c', h1, _, _, _⟩ := h.shape hs
  rcases h.2 with ⟨h', _⟩ | ⟨g', cap', cur, h', _⟩
  · simp at h1 h'; omega
  · simp at h'; exact ⟨g', h'.1⟩
theorem actB_get' {S : St} {d : Nat} {m : Mem} (h : S.ms[d]? = some m) : m.exp = !actB S d := by unfold actB; rw [h]; simp
theorem expel_set {ms : List Mem} {d : Nat} {m : Mem} (hd : ms[d]? = some m) : ms.set d m.out = expel ms d := by
  unfold expel
  apply List.ext_getElem?
  intro i
  rw [List.getElem?_modify, List.getElem?_set]
  by_cases hi : d = i
  · subst hi
    rw [hd, if_pos rfl, if_pos (List.getElem?_eq_some_iff.1 hd).1]
    simp
  · simp [hi]
theorem map_set_modify {ps : List VP} {k : Nat} {p : VP} {f : Vlt → Vlt} {z : Hd} (hk : ps[k]? = some p) : (ps.set k (f p.1, z)).map Prod.fst = (ps.map Prod.fst).modify k f := by
  apply List.ext_getElem?
  intro i
  rw [List.getElem?_modify, List.getElem?_map, List.getElem?_set, List.getElem?_map]
  by_cases hi : k = i
  · subst hi
    rw [hk, if_pos rfl, if_pos (List.getElem?_eq_some_iff.1 hk).1]
    simp
  · simp [hi]
theorem mem_set_or {α : Type} {xs : List α} {k : Nat} {y z : α} (h : z ∈ xs.set k y) : z = y ∨ z ∈ xs := (List.mem_or_eq_of_mem_set h).symm
theorem own_empty2 {α : Type} {f : α → List Value} {s : Nat} {e : TypeId} (w : World) (o : Obj) : OwnN f s e ((w.alloc o).alloc (.cells #[] e)) w.heap.size (.slice (some ⟨w.heap.size + 1, 0, none⟩) 0 0) [] := by
  have h : OwnN f s e ((w.alloc o).alloc (.cells #[] e)) w.heap.size (.slice (some ⟨(w.alloc o).heap.size, 0, none⟩) 0 0) [] := World.ownsRow_lit (w.alloc o) #[] 0 (by simp) (by unfold maxLen; omega) (by simp)
  rwa [show (w.alloc o).heap.size = w.heap.size + 1 by simp] at h
abbrev oT (a b : Int) : Obj := .cells #[.int .i64 a, .int .i64 b] 70
theorem new_fT (U : World) (a b : Int) : SlN fT 2 (U.alloc (.cells (fT (a, b)).toArray 70)) (U.heap.size + 1) (some ⟨U.heap.size, 0, none⟩) 1 [(a, b)] := SlN.of_block (heap_alloc_new U _) (Nat.lt_succ_self _)
end Go.Proofs.YtkeicjokekmkpaaGreat
namespace Go.Proofs.YtkeicjokekmkpaaGreat
open Go.RowKit Mb
set_option linter.unusedVariables false
set_option linter.unusedSimpArgs false

abbrev tVl : TypeId := 96
theorem Tryz.infoVl : (Tryz.prog.info? 96).map (fun i => (i.zero, i.size, i.bytes)) = some (some (.agg #[.int .i64 0, .int .u64 0, .int .i64 0, .bool false, .string ⟨#[]⟩, .int .i64 0]), 6, 56) := by kernel_rfl
theorem Tryz.zsVl : (Value.agg #[.int .i64 0, .int .u64 0, .int .i64 0, .bool false, .string ⟨#[]⟩, .int .i64 0]).cells.size = 6 := by kernel_rfl
/-- The list u of the values acc, the circle's box at w's end, and the object o2 in block g2. -/
structure VA (w W : World) (r : RV) (g2 : Nat) (o2 : Obj) (u : Value) (acc : List Vl) : Prop where
  own : OwnN fVl 6 tVl W (w.heap.size + 1) u acc
  box : W.heap[w.heap.size]? = some r.obj
  bel : Below w.heap.size w W
  two : W.heap[g2]? = some o2
  ne : ∀ k, u.ownBlock = some k → k ≠ g2
section
variable {w W W' : World} {r : RV} {g2 : Nat} {o2 : Obj} {u u' : Value} {acc acc' : List Vl}
theorem VA.on (h : VA w W r g2 o2 u acc) (hb : Below W.heap.size W W') : VA w W' r g2 o2 u acc :=
  ⟨h.own.on hb, (hb.block _ (lt_of_block h.box)).trans h.box, h.bel.trans (hb.mono h.bel.size), (hb.block _ (lt_of_block h.two)).trans h.two, h.ne⟩
theorem VA.alloc (h : VA w W r g2 o2 u acc) (o : Obj) : VA w (W.alloc o) r g2 o2 u acc := h.on ((Below.refl _ _).alloc (Nat.le_refl _) o)
theorem VA.drew (h : VA w W r g2 o2 u acc) : VA w W.drew r g2 o2 u acc := h.on (Below.refl _ _).drew
theorem VA.drewN (h : VA w W r g2 o2 u acc) (n : Nat) : VA w (W.drewN n) r g2 o2 u acc := h.on (below_dN' (Below.refl _ _) n)
theorem VA.app (h : VA w W r g2 o2 u acc) (ho : OwnN fVl 6 tVl W' (w.heap.size + 1) u' acc') (hg : W.grownBy W' u.ownBlock) (hv : u'.ownBlock = u.ownBlock ∨ u'.ownBlock = some W.heap.size) : VA w W' r g2 o2 u' acc' := by
  have hlt := World.ownsRow.lt h.own
  have hbox : w.heap.size < W.heap.size := lt_of_block h.box
  have h2 : g2 < W.heap.size := lt_of_block h.two
  refine ⟨ho, (hg.block _ hbox (fun e => ?_)).trans h.box, h.bel.grown hg (Nat.le_of_lt hbox) fun k hk => Nat.le_trans (Nat.le_succ _) (hlt k hk).1, (hg.block _ h2 (fun e => h.ne _ e.symm rfl)).trans h.two, fun k hk => ?_⟩
  · have := (hlt _ e.symm).1; omega
  · rcases hv with hv | hv
    · exact h.ne k (by rw [← hv]; exact hk)
    · rw [hv] at hk; have := Option.some.inj hk; omega
theorem VA.drop (h : VA w W r g2 o2 u acc) : VA w W r w.heap.size r.obj u acc := ⟨h.own, h.box, h.bel, h.box, fun k hk => by have := (World.ownsRow.lt h.own k hk).1; omega⟩
/-- A further object, just laid. -/
theorem VA.new (h : VA w W r g2 o2 u acc) (o : Obj) : VA w (W.alloc o) r W.heap.size o u acc :=
  ⟨h.own.alloc o, (h.alloc o).box, (h.alloc o).bel, heap_alloc_new W o, fun k hk => by have := (World.ownsRow.lt h.own k hk).2; omega⟩
theorem VA.start (hg : W.heap[w.heap.size]? = some r.obj) (hb : Below w.heap.size w W) {cs : Array Value} {ys : List Vl} {m : Nat} (hc : cs.toList = ys.flatMap fVl) (hm : ys.length = m) (hm1 : m ≤ 100) :
    VA w (W.alloc (.cells cs tVl)) r w.heap.size r.obj (.slice (some ⟨W.heap.size, 0, none⟩) m m) ys := by
  have h1 : cs.size = m * 6 := by rw [← Array.length_toList, hc, flat_len fVl_len, hm]
  have h2 := World.ownsRow_lit (base := w.heap.size + 1) (e := tVl) W cs m (by have := lt_of_block hg; omega) (by unfold maxLen; omega) h1
  have hbA : Below W.heap.size W (W.alloc (.cells cs tVl)) := (Below.refl _ _).alloc (Nat.le_refl _) _
  have hb1 := (hbA.block _ (lt_of_block hg)).trans hg
  refine ⟨?_, hb1, hb.trans (hbA.mono hb.size), hb1, fun k hk => ?_⟩
  · unfold OwnN; rw [hm, ← hc]; exact h2
  · have h9 : W.heap.size = k := by simpa [Value.ownBlock] using hk
    have := lt_of_block hg
    omega
theorem VA.row (h : VA w W r g2 o2 u acc) : ∃ A c, u = .slice A acc.length c ∧ SlN fVl 6 W W.heap.size A acc.length acc := by
  obtain ⟨A, c, h1, _, h2, _⟩ := h.own.shape fVl_len
  exact ⟨A, c, h1, h2⟩
end
section
variable {w w6 : World} {r : RV} {g2 : Nat} {o2 : Obj} {u : Value} {acc : List Vl}
theorem wp_vapp {W : World} {o : Oper} {a : Act} {K : Act → World → Prop} {Q : Exit → Act → World → Prop} (sl x : Operand)
    (ho : o.op = .call { callee := .builtin .append, args := #[sl, x], argTypes := #[98, 98] })
    (h : VA w W r g2 o2 u acc) (hs : a.eval sl = u) (ys : List Vl) (hr : ∃ B A m c, a.eval x = .slice A m c ∧ SlN fVl 6 W B A m ys) (hl : acc.length + ys.length ≤ 200000)
    (k : ∀ u' W', Hid (VA w W' r g2 o2 u' (acc ++ ys)) → K (a.put o.dst u') W') : o.wp Tryz.prog a W K Q := by
  obtain ⟨i0, hi, hz0, hz1, hz2⟩ := info_parts Tryz.infoVl
  obtain ⟨B, A, m, c, hx, hsl⟩ := hr
  have hm : ys.length = m := hsl.1
  exact wp_appN fVl_len (by omega) sl x 98 ho tVl i0 _ 56 Tryz.underlying98 hi hz0 hz1 hz2 Tryz.zsVl u acc (w.heap.size + 1) hs h.own A m c B ys hx hsl fVl_one (by omega) (by unfold maxLen; omega) (lt_of_block h.box)
    fun v' w' h2 h3 h4 => k _ _ (h.app h2 h3 h4)
theorem wpList_vapp {W : World} {ops : Array Oper} {rest : List Oper} {o : Oper} {a : Act} {Q : Exit → Act → World → Prop} (hgd : o.guard = none) (sl x : Operand)
    (ho : o.op = .call { callee := .builtin .append, args := #[sl, x], argTypes := #[98, 98] })
    (h : VA w W r g2 o2 u acc) (hs : a.eval sl = u) (ys : List Vl) (hr : ∃ B A m c, a.eval x = .slice A m c ∧ SlN fVl 6 W B A m ys) (hl : acc.length + ys.length ≤ 200000)
    (k : ∀ u' W', Hid (VA w W' r g2 o2 u' (acc ++ ys)) → wpList Tryz.prog ops Q rest (a.put o.dst u') W') : wpList Tryz.prog ops Q (o :: rest) a W :=
  wpList_plain hgd fun _ hK => wp_vapp sl x ho h hs ys hr hl fun u' W' hv => hK _ _ (k u' W' hv)
theorem step_vapp {W : World} {ops : Array Oper} {o : Oper} {a : Act} {K : Act → World → Prop} {Q : Exit → Act → World → Prop} {E : Prop} (hgd : o.guard = none) (sl x : Operand)
    (ho : o.op = .call { callee := .builtin .append, args := #[sl, x], argTypes := #[98, 98] })
    (h : VA w W r g2 o2 u acc) (hs : a.eval sl = u) (ys : List Vl) (hr : ∃ B A m c, a.eval x = .slice A m c ∧ SlN fVl 6 W B A m ys) (hl : acc.length + ys.length ≤ 200000)
    (k : ∀ u' W', Hid (VA w W' r g2 o2 u' (acc ++ ys)) → K (a.put o.dst u') W') : if Region.wanted o (yielded ops a.tmps) = true then Oper.wp Tryz.prog o a W K Q else E := by
  have hw : Region.wanted o (yielded ops a.tmps) = true := by simp [Region.wanted, hgd]
  rw [if_pos hw]
  exact wp_vapp sl x ho h hs ys hr hl k
end
/-- Values in a block that was laid just now. -/
theorem new_rows {U : World} {cs : Array Value} {ys : List Vl} {m : Nat} (hc : cs.toList = ys.flatMap fVl) (hm : ys.length = m) : SlN fVl 6 (U.alloc (.cells cs tVl)) (U.heap.size + 1) (some ⟨U.heap.size, 0, none⟩) m ys :=
  SlN.of_rows fVl_len (heap_alloc_new U _) hc (Nat.lt_succ_self _) hm
theorem newVl {U V : World} {cs : Array Value} {ys : List Vl} {m c : Nat} {v : Value} (hv : v = .slice (some ⟨U.heap.size, 0, none⟩) m c) (hW : V = U.alloc (.cells cs tVl)) (hc : cs.toList = ys.flatMap fVl) (hm : ys.length = m) :
    ∃ B A m c, v = .slice A m c ∧ SlN fVl 6 V B A m ys := ⟨_, _, m, c, hv, hW ▸ new_rows hc hm⟩
end Go.Proofs.YtkeicjokekmkpaaGreat
