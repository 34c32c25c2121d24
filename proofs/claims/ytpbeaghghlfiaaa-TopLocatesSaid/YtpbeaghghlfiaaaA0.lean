/- Bytes as natural numbers; what a write keeps; matrices in memory. -/
import Derived.Test.YtpbeaghghlfiaaaP5
import Derived.Test.YtpbeaghghlfiaaaWk
import Derived.Laws.Bits64
namespace Go.Proofs.Ytpbeaghghlfiaaa
open Go.RowKit
set_option linter.unusedVariables false
set_option linter.unusedSimpArgs false
abbrev fN (n : Nat) : Value := .int .u8 (n : Int)
theorem fN1 : ∀ y, (fN y).oneCell' = true := fun _ => rfl
theorem fS1 : ∀ y, (fS y).oneCell' = true := fun _ => rfl
theorem wrap_u8 (n : Int) : IntKind.u8.wrap n = n % 256 := by simp [IntKind.wrap, IntKind.bits, IntKind.signed]
theorem ofNat8 {a : Nat} (ha : a < 256) : (BitVec.ofInt 8 (a : Int)).toNat = a := by
  rw [BitVec.ofInt_natCast, BitVec.toNat_ofNat]; exact Nat.mod_eq_of_lt (by omega)
theorem u8_xor {a b : Nat} (ha : a < 256) (hb : b < 256) : bits .xor .u8 (a : Int) (b : Int) = ((a ^^^ b : Nat) : Int) := by
  have hx : a ^^^ b < 2 ^ 8 := Nat.xor_lt_two_pow (by omega) (by omega)
  show IntKind.u8.wrap ((BitVec.ofInt 8 (a : Int) ^^^ BitVec.ofInt 8 (b : Int)).toNat : Int) = _
  rw [BitVec.toNat_xor, ofNat8 ha, ofNat8 hb, wrap_u8]
  omega
theorem u8_and {a b : Nat} (ha : a < 256) (hb : b < 256) : bits .and .u8 (a : Int) (b : Int) = ((a &&& b : Nat) : Int) := by
  have hx : a &&& b < 2 ^ 8 := Nat.and_lt_two_pow _ (by omega)
  show IntKind.u8.wrap ((BitVec.ofInt 8 (a : Int) &&& BitVec.ofInt 8 (b : Int)).toNat : Int) = _
  rw [BitVec.toNat_and, ofNat8 ha, ofNat8 hb, wrap_u8]
  omega
theorem u8_odd {b : Nat} (hb : b < 256) : bits .and .u8 (b : Int) 1 = ((b % 2 : Nat) : Int) := by
  rw [show (1 : Int) = ((1 : Nat) : Int) from rfl, u8_and hb (by omega), Nat.and_one_is_mod]
theorem u8_top : ∀ a : Nat, a < 256 → bits .and .u8 (a : Int) 128 = if 128 ≤ a then 128 else 0 := by decide +kernel
theorem u8_low : ∀ a : Nat, a < 256 → bits .and .u8 (a : Int) 15 = ((a % 16 : Nat) : Int) := by decide +kernel
theorem dbl_hi : ∀ a : Nat, a < 256 → 128 ≤ a → bits .xor .u8 ((a : Int) * 2 % 256) 29 = ((dblN a : Nat) : Int) := by decide +kernel
theorem dbl_lo : ∀ a : Nat, a < 256 → a < 128 → (a : Int) * 2 % 256 = ((dblN a : Nat) : Int) := by decide +kernel
theorem byte_split : ∀ a : Nat, a < 256 → (a % 16) ^^^ (a / 16 * 16) = a := by decide +kernel
theorem mul_split (c : Nat) {a : Nat} (ha : a < 256) : mulN c (a % 16) ^^^ mulN c (a / 16 * 16) = mulN c a := by
  rw [← mulN_add_right, byte_split a ha]
theorem mulL_done (n : Nat) : ∀ p a, mulL n p a 0 = p := by
  induction n with
  | zero => intro p a; rfl
  | succ n ih => intro p a; unfold mulL; rw [Nat.zero_div, if_neg (by omega), ih]
theorem mulL_step {n p a b : Nat} : mulL (n + 1) p a b = mulL n (if b % 2 = 1 then p ^^^ a else p) (dblN a) (b / 2) := rfl
/-- All blocks but some are kept. -/
structure But (p : Nat → Prop) (w w' : World) : Prop where
  os : w'.os = w.os
  tape : w'.tape = w.tape
  output : w'.output = w.output
  size : w.heap.size ≤ w'.heap.size
  block : ∀ k, k < w.heap.size → ¬ p k → w'.heap[k]? = w.heap[k]?
theorem But.refl (p : Nat → Prop) (w : World) : But p w w := ⟨rfl, rfl, rfl, Nat.le_refl _, fun _ _ _ => rfl⟩
theorem But.trans {p q : Nat → Prop} {a b c : World} (h : But p a b) (k : But q b c) (hq : ∀ i, q i → p i ∨ a.heap.size ≤ i) : But p a c :=
  ⟨k.os.trans h.os, k.tape.trans h.tape, k.output.trans h.output, Nat.le_trans h.size k.size, fun i hi hp => (k.block i (Nat.lt_of_lt_of_le hi h.size) (fun hqi => by
    rcases hq i hqi with h' | h'
    · exact hp h'
    · omega)).trans (h.block i hi hp)⟩
theorem But.of_below {p : Nat → Prop} {w w' : World} (h : Below w.heap.size w w') : But p w w' := ⟨h.os, h.tape, h.output, h.size, fun i hi _ => h.block i hi⟩
theorem But.below {p : Nat → Prop} {B : Nat} {a b c : World} (k : But p b c) (h : Below B a b) (hs : B ≤ b.heap.size) (hp : ∀ i, p i → B ≤ i) : Below B a c where
  os := k.os.trans h.os
  tape := k.tape.trans h.tape
  output := k.output.trans h.output
  size := Nat.le_trans h.size k.size
  block := fun i hi => (k.block i (by omega) (fun g => by have := hp i g; omega)).trans (h.block i hi)
theorem But.setCell {p : Nat → Prop} {w w' : World} (h : But p w w') {x : Addr} (hx : p x.block ∨ w.heap.size ≤ x.block) (v : Value) : But p w (w'.setCell x v) :=
  h.trans (q := fun k => k = x.block) ⟨rfl, rfl, rfl, by simp, fun k _ hk => heap_setCell_other w' x k v hk⟩ (fun i hi => by subst hi; exact hx)
theorem But.drew {p : Nat → Prop} {w w' : World} (h : But p w w') : But p w w'.drew := ⟨h.os, h.tape, h.output, h.size, h.block⟩
theorem run_storeVar_at1 {P : Program} (w : World) (b o : Nat) (ty : TypeId) (v : Value) (ht : w.there b o 1) (hi : (P.info? ty).map (·.size) = some 1) (h1 : v.oneCell' = true) :
    (storeVar ty ⟨b, o, none⟩ v).run P w = .ok () (w.setCells b o [v]) := by
  have hc : v.cells = #[v] := by cases v <;> first | rfl | cases h1
  have := run_storeCells_cells (P := P) b o [v] 0 w (fun j hj => by simpa using (ht j (by simpa using hj)).1) (fun j hj => by simpa using (ht j (by simpa using hj)).2) (fun x hx => by simp at hx; subst hx; exact h1)
  cases hq : P.info? ty with
  | none => simp [hq] at hi
  | some i =>
    have hs : i.size = 1 := by simpa [hq] using hi
    simp only [Nat.add_zero] at this
    simp [storeVar, sizeOf, typeInfo, hq, hc, hs, this]
/-- One cell is stored into a block whose cells are known. -/
theorem wpList_store_at1 {P : Program} {w : World} {ops : Array Oper} {rest : List Oper} {o : Oper} {a : Act} {Q : Exit → Act → World → Prop} (hgd : o.guard = none) (ty : TypeId) (x y : Operand) (ho : o.op = .store ty x y)
    (b : Nat) (t : TypeId) (k : Nat) (cs : Array Value) (v : Value) (hx : a.eval x = .pointer (some ⟨b, k, none⟩)) (hy : a.eval y = v) (hg : w.heap[b]? = some (.cells cs t (0, 0))) (hk : k < cs.size) (hi : (P.info? ty).map (·.size) = some 1)
    (h1 : v.oneCell' = true)
    (h : ∀ w', Hid (w'.heap[b]? = some (.cells (cs.setIfInBounds k v) t (0, 0))) → Hid (But (fun k => k = b) w w') → wpList P ops Q rest (a.put o.dst undef) w') : wpList P ops Q (o :: rest) a w := by
  have ht : w.there b k 1 := by
    intro j hj
    obtain rfl : j = 0 := by omega
    refine ⟨?_, frozen_of_row w b _ _ _ hg⟩
    rw [cell_of_row w b _ _ _ _ hg, Nat.add_zero, Array.getElem?_eq_getElem hk]; rfl
  refine wpList_plain hgd fun _ hK => ?_
  unfold Oper.wp execOp
  simp only [ho, hx, hy, Instr.storeAt, Instr.sureAddr, Sem.run_bind, Sem.run_pure, Result.andThen_ok, run_storeVar_at1 w b k ty v ht hi h1]
  refine hK _ _ (h _ (heap_setCell_same w b k _ _ v hg) (But.setCell (p := fun k => k = b) (x := ⟨b, k, none⟩) (But.refl _ _) (.inl rfl) _))
/-- .. and no block is made. -/
theorem wpList_store_at1s {P : Program} {w : World} {ops : Array Oper} {rest : List Oper} {o : Oper} {a : Act} {Q : Exit → Act → World → Prop} (hgd : o.guard = none) (ty : TypeId) (x y : Operand) (ho : o.op = .store ty x y)
    (b : Nat) (t : TypeId) (k : Nat) (cs : Array Value) (v : Value) (hx : a.eval x = .pointer (some ⟨b, k, none⟩)) (hy : a.eval y = v) (hg : w.heap[b]? = some (.cells cs t (0, 0))) (hk : k < cs.size) (hi : (P.info? ty).map (·.size) = some 1)
    (h1 : v.oneCell' = true)
    (h : ∀ w', Hid (w'.heap[b]? = some (.cells (cs.setIfInBounds k v) t (0, 0))) → Hid (But (fun k => k = b) w w') → Hid (w'.heap.size = w.heap.size) → wpList P ops Q rest (a.put o.dst undef) w') : wpList P ops Q (o :: rest) a w := by
  have ht : w.there b k 1 := by
    intro j hj
    obtain rfl : j = 0 := by omega
    refine ⟨?_, frozen_of_row w b _ _ _ hg⟩
    rw [cell_of_row w b _ _ _ _ hg, Nat.add_zero, Array.getElem?_eq_getElem hk]; rfl
  refine wpList_plain hgd fun _ hK => ?_
  unfold Oper.wp execOp
  simp only [ho, hx, hy, Instr.storeAt, Instr.sureAddr, Sem.run_bind, Sem.run_pure, Result.andThen_ok, run_storeVar_at1 w b k ty v ht hi h1]
  refine hK _ _ (h _ (heap_setCell_same w b k _ _ v hg) (But.setCell (p := fun k => k = b) (x := ⟨b, k, none⟩) (But.refl _ _) (.inl rfl) _) (by show (w.setCell ⟨b, k, none⟩ v).heap.size = w.heap.size; simp))
/-- The types of the blocks: bytes, rows. -/
abbrev T8 : TypeId := 5
abbrev TR : TypeId := 30
/-- A row of bytes in a block of bytes. -/
def RowX (w : World) (h : Hd) (r : List Nat) : Prop :=
  h.n ≤ h.c ∧ r.length = h.n ∧ (0 < r.length → ∃ b off cs fr, h.a = some ⟨b, off, none⟩ ∧ w.heap[b]? = some (.cells cs T8 fr) ∧ At fN w b off r)
theorem lt_of_block' {w : World} {b : Nat} {o : Obj} (h : w.heap[b]? = some o) : b < w.heap.size := (Array.getElem?_eq_some_iff.1 h).1
/-- A block that holds no bytes is written to. -/
theorem RowX.but {w w' : World} {g : Nat} {h : Hd} {r : List Nat} {cs : Array Value} {t : TypeId} {fr : Nat × Nat} (hr : RowX w h r) (hb : But (fun i => i = g) w w') (hg : w.heap[g]? = some (.cells cs t fr)) (ht : T8 ≠ t) : RowX w' h r :=
  ⟨hr.1, hr.2.1, fun h0 => by
    obtain ⟨b, off, cs', fr', h1, h2, h4⟩ := hr.2.2 h0
    have hne : b ≠ g := fun e => by
      subst e
      rw [h2] at hg
      injection hg with hg
      injection hg with _ hg _
      exact ht hg
    have h5 := hb.block b (lt_of_block' h2) hne
    exact ⟨b, off, cs', fr', h1, h5.trans h2, h4.keep h5⟩⟩
theorem RowX.on {w w' : World} {h : Hd} {r : List Nat} (hr : RowX w h r) (hb : Below w.heap.size w w') : RowX w' h r :=
  ⟨hr.1, hr.2.1, fun h0 => by
    obtain ⟨b, off, cs', fr', h1, h2, h4⟩ := hr.2.2 h0
    have h5 := hb.block b (lt_of_block' h2)
    exact ⟨b, off, cs', fr', h1, h5.trans h2, h4.keep h5⟩⟩
/-- A row of the call's own grows or is made. -/
theorem RowX.grown {w w' : World} {row : Option Nat} {h : Hd} {r : List Nat} (hr : RowX w h r) (hb : w.grownBy w' row) (hrow : ∀ g, row = some g → ∃ cs t fr, w.heap[g]? = some (.cells cs t fr) ∧ T8 ≠ t) : RowX w' h r :=
  ⟨hr.1, hr.2.1, fun h0 => by
    obtain ⟨b, off, cs', fr', h1, h2, h4⟩ := hr.2.2 h0
    have h5 := hb.block b (lt_of_block' h2) (fun e => by
      obtain ⟨cs, t, fr, hg, ht⟩ := hrow b e.symm
      rw [h2] at hg
      injection hg with hg
      injection hg with _ hg _
      exact ht hg)
    exact ⟨b, off, cs', fr', h1, h5.trans h2, h4.keep h5⟩⟩
theorem RowX.sl {w : World} {h : Hd} {r : List Nat} (hr : RowX w h r) : Sl fN w w.heap.size h.a h.n r :=
  ⟨hr.2.1, fun h0 => by
    obtain ⟨b, off, _, _, h1, h3, h4⟩ := hr.2.2 h0
    exact ⟨b, off, h1, lt_of_block' h3, h4⟩⟩
theorem RowX.of_own {w : World} {base : Nat} {v : Value} {r : List Nat} (ho : Own fN T8 w base v r) : ∃ h : Hd, v = fS h ∧ RowX w h r ∧ h.n = r.length := by
  obtain ⟨A, c, hv, hc, hs, hlo⟩ := ho.shape
  refine ⟨⟨A, r.length, c⟩, hv, ⟨hc, rfl, fun h0 => ?_⟩, rfl⟩
  obtain ⟨b, off, rfl, h3, h4⟩ := hs h0
  rcases ho.2 with ⟨_, hn⟩ | ⟨g, cap, cur, e, hbg, hgg, rest⟩
  · omega
  · subst hv
    injection e with e _ _
    injection e with e
    injection e with e1 e2 _
    subst e1 e2
    exact ⟨b, 0, cur, _, rfl, hgg, h4⟩
/-- A matrix whose rows' heads lie in block g, to be written to; the rows are only read. -/
structure Mat (w : World) (g : Nat) (hs : List Hd) (m : Mt) : Prop where
  cells : ∃ cur, w.heap[g]? = some (.cells cur TR (0, 0)) ∧ ∀ (k : Nat) h, hs[k]? = some h → cur[k]? = some (fS h)
  len : hs.length = m.length
  rows : ∀ (k : Nat) h r, hs[k]? = some h → m[k]? = some r → RowX w h r
theorem Mat.lt {w : World} {g : Nat} {hs : List Hd} {m : Mt} (h : Mat w g hs m) : g < w.heap.size := by
  obtain ⟨cur, h1, _⟩ := h.cells
  exact lt_of_block' h1
theorem Mat.on {w w' : World} {g : Nat} {hs : List Hd} {m : Mt} (h : Mat w g hs m) (hb : Below w.heap.size w w') : Mat w' g hs m where
  cells := by
    obtain ⟨cur, h1, h2⟩ := h.cells
    exact ⟨cur, (hb.block g h.lt).trans h1, h2⟩
  len := h.len
  rows := fun k hd r h1 h2 => (h.rows k hd r h1 h2).on hb
/-- A block that holds neither rows nor bytes is written to. -/
theorem Mat.keep {w w' : World} {g g2 : Nat} {hs : List Hd} {m : Mt} {cs : Array Value} {t : TypeId} {fr : Nat × Nat} (h : Mat w g hs m) (hb : But (fun i => i = g2) w w') (hg : w.heap[g2]? = some (.cells cs t fr)) (h8 : T8 ≠ t) (hR : TR ≠ t) : Mat w' g hs m where
  cells := by
    obtain ⟨cur, h1, h2⟩ := h.cells
    have hne : g ≠ g2 := fun e => by
      subst e
      rw [h1] at hg
      injection hg with hg
      injection hg with _ hg _
      exact hR hg
    exact ⟨cur, (hb.block g h.lt hne).trans h1, h2⟩
  len := h.len
  rows := fun k hd r h1 h2 => (h.rows k hd r h1 h2).but hb hg h8
theorem Mat.at_ {w : World} {g : Nat} {hs : List Hd} {m : Mt} (h : Mat w g hs m) {k : Nat} (hk : k < m.length) : ∃ a n c r, hs[k]? = some ⟨a, n, c⟩ ∧ m[k]? = some r ∧ w.cell? ⟨g, k, none⟩ = some (.slice a n c) ∧ RowX w ⟨a, n, c⟩ r := by
  obtain ⟨cur, h1, h2⟩ := h.cells
  obtain ⟨hd, hh⟩ := get_ex (xs := hs) (k := k) (by rw [h.len]; exact hk)
  obtain ⟨r, hr⟩ := get_ex hk
  refine ⟨hd.a, hd.n, hd.c, r, hh, hr, ?_, h.rows k hd r hh hr⟩
  rw [cell_of_row w g k _ _ _ h1]
  exact h2 k hd hh
/-- Row k is put anew. -/
theorem Mat.put {w w' : World} {g : Nat} {hs : List Hd} {m : Mt} {cur : Array Value} {k : Nat} {hd : Hd} {r : List Nat} (h : Mat w g hs m) (hc : w.heap[g]? = some (.cells cur TR (0, 0)))
    (hg : w'.heap[g]? = some (.cells (cur.setIfInBounds k (fS hd)) TR (0, 0))) (hb : But (fun i => i = g) w w') (hr : RowX w hd r) : Mat w' g (hs.set k hd) (m.set k r) where
  cells := by
    obtain ⟨cur', h1, h2⟩ := h.cells
    rw [hc] at h1
    injection h1 with h1
    injection h1 with h1 _ _
    subst h1
    refine ⟨_, hg, fun j h' hj => ?_⟩
    rw [List.getElem?_set] at hj
    rw [Array.getElem?_setIfInBounds]
    split at hj
    · next e =>
      subst e
      split at hj
      · next h4 =>
        obtain ⟨x, hx⟩ := get_ex h4
        have := (Array.getElem?_eq_some_iff.1 (h2 k x hx)).1
        rw [if_pos rfl, if_pos this]
        injection hj with hj
        rw [hj]
      · cases hj
    · next e => rw [if_neg e]; exact h2 j h' hj
  len := by simp [h.len]
  rows := fun j h' r' h1 h2 => by
    rw [List.getElem?_set] at h1 h2
    split at h1
    · next e =>
      subst e
      split at h1
      · next h3 =>
        rw [if_pos rfl, if_pos (by rw [← h.len]; exact h3)] at h2
        injection h1 with h1
        injection h2 with h2
        subst h1 h2
        exact hr.but hb hc (by decide)
      · cases h1
    · next e =>
      rw [if_neg e] at h2
      exact (h.rows j h' r' h1 h2).but hb hc (by decide)
/-- .. is to be read. -/
theorem Mat.sll {w : World} {g : Nat} {hs : List Hd} {m : Mt} (h : Mat w g hs m) : SLL fN w w.heap.size (some ⟨g, 0, none⟩) m.length m :=
  ⟨hs, ⟨h.len, fun _ => ⟨g, 0, rfl, h.lt, fun k hd hk => by
    obtain ⟨cur, h1, h2⟩ := h.cells
    rw [Nat.zero_add, cell_of_row w g k _ _ _ h1]
    exact h2 k hd hk⟩⟩, rfl, fun k hd r h1 h2 => (h.rows k hd r h1 h2).sl⟩
theorem SLL.more {α : Type} {f : α → Value} {w : World} {B B' n : Nat} {A : Option Addr} {vs : List (List α)} (h : SLL f w B A n vs) (hB : B ≤ B') : SLL f w B' A n vs := by
  obtain ⟨hs, h1, h2, h3⟩ := h
  exact ⟨hs, h1.more' hB, h2, fun k hd v hh hv => (h3 k hd v hh hv).more' hB⟩
theorem SLL.take_ {α : Type} {f : α → Value} {w : World} {B n : Nat} {A : Option Addr} {vs : List (List α)} (h : SLL f w B A n vs) {k : Nat} (hk : k ≤ n) : SLL f w B A k (vs.take k) := by
  obtain ⟨hs, ⟨h0, h1⟩, h2, h3⟩ := h
  refine ⟨hs.take k, ⟨by rw [List.length_take]; omega, SL.take_ h1 k⟩, by rw [List.length_take]; omega, fun j hd v hh hv => ?_⟩
  have hj : j < k := by
    have := (List.getElem?_eq_some_iff.1 hh).1
    rw [List.length_take] at this
    omega
  rw [List.getElem?_take_of_lt hj] at hh hv
  exact h3 j hd v hh hv
/-- What 'go_quiet' and the rest want of a row under a head. -/
theorem SLL.row {α : Type} {f : α → Value} {w : World} {B n : Nat} {A : Option Addr} {vs : List (List α)} (h : SLL f w B A n vs) {k : Nat} {r : List α} (hk : vs[k]? = some r) :
    ∃ b off a c, A = some ⟨b, off, none⟩ ∧ b < B ∧ w.cell? ⟨b, off + k, none⟩ = some (.slice a r.length c) ∧ Sl f w B a r.length r := by
  have hlt := (List.getElem?_eq_some_iff.1 hk).1
  obtain ⟨b, off, a, m, c, v, h1, h2, h3, h4, h5⟩ := h.at_ (k := k) (by obtain ⟨_, _, h2, _⟩ := h; omega)
  rw [hk] at h3
  injection h3 with h3
  subst h3
  obtain rfl := h5.1
  exact ⟨b, off, a, c, h1, h2, h4, h5⟩
end Go.Proofs.Ytpbeaghghlfiaaa
