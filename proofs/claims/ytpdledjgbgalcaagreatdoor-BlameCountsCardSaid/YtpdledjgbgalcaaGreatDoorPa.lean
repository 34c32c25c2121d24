/- A block of bytes taken: what it is, plainly. wire.Reader: what readValue defers, at string. wire.Reader: take, block; readValue for Text and for Sum. wire.Reader: Text, Sum, Count, Left; and behind an error. wire.Reader: what it reads, in terms of its state. wire.Reader: Bytes. Reading, plainly: only encodings are read; what was written is read. wire.Reader.Fail; readUint, readID. DecodeAcquittal. receipt.readUint, receipt.readSums. receipt.Decode. writeID, EncodeAcquittal. An acquittal's body, read back. -/
import Derived.Test.YtpdledjgbgalcaaGreatDoorMa
import Derived.Test.YtpdledjgbgalcaaGreatDoorMb
import Derived.Defers
import Derived.Laws.ResultCell
import Derived.Deep.Onto
import Derived.Test.YtpdledjgbgalcaaGreatDoorPc
import Derived.Test.YtpdledjgbgalcaaGreatDoorMr
import Derived.Deep.MidRow
import Derived.Deep.OwnRows
import Derived.Test.YtpdledjgbgalcaaGreatDoorSv
namespace Go.Proofs.YtpdledjgbgalcaaGreatDoor
open Go.RowKit Go.Lib
set_option linter.unusedVariables false
set_option linter.unusedSimpArgs false
/-- A reader's state: the place, the error. -/
abbrev RS := Nat × Int
end Go.Proofs.YtpdledjgbgalcaaGreatDoor
namespace Go.Proofs.YtpdledjgbgalcaaGreatDoor
open Go.RowKit
set_option linter.unusedVariables false
set_option linter.unusedSimpArgs false
end Go.Proofs.YtpdledjgbgalcaaGreatDoor
namespace Go.Proofs.YtpdledjgbgalcaaGreatDoor
open Go.RowKit
set_option linter.unusedVariables false
set_option linter.unusedSimpArgs false
theorem Sl.part {f : Int → Value} {w : World} {B n c : Nat} {A : Option Addr} {xs : List Int} (h : Sl f w B A n xs) (l k : Nat) (hl : l + k ≤ n) (hc : n ≤ c) : Sl f w B (if c = l then A else A.map (·.add l)) k ((xs.drop l).take k) := by
  have h1 := h.1
  refine ⟨by rw [List.length_take, List.length_drop]; omega, ?_⟩
  exact ((h.2.cut (n := l) (cap := c) (by omega)).take_ k)
end Go.Proofs.YtpdledjgbgalcaaGreatDoor
namespace Go.Proofs.YtpdledjgbgalcaaGreatDoor
open Go.RowKit
set_option linter.unusedVariables false
set_option linter.unusedSimpArgs false
end Go.Proofs.YtpdledjgbgalcaaGreatDoor
namespace Go.Proofs.YtpdledjgbgalcaaGreatDoor
open Go.RowKit
set_option linter.unusedVariables false
set_option linter.unusedSimpArgs false
/-- A reader in memory, in the state s. -/
def RdS (g : Nat) (A : Option Addr) (n c : Nat) (bs : List Int) (s : RS) (w : World) : Prop := (∃ pv, Rd w g A n c s.1 pv s.2) ∧ Sl fB w g A n bs
theorem RdS.len {g : Nat} {A : Option Addr} {n c : Nat} {bs : List Int} {s : RS} {w : World} (h : RdS g A n c bs s w) : bs.length = n := h.2.1
theorem RdS.lt {g : Nat} {A : Option Addr} {n c : Nat} {bs : List Int} {s : RS} {w : World} (h : RdS g A n c bs s w) : g < w.heap.size := by
  obtain ⟨⟨pv, h1⟩, _⟩ := h
  exact lt_of_block h1
theorem RdS.on {g : Nat} {A : Option Addr} {n c : Nat} {bs : List Int} {s : RS} {w w' : World} (h : RdS g A n c bs s w) (hb : Below w.heap.size w w') : RdS g A n c bs s w' := by
  have hl := h.lt
  obtain ⟨⟨pv, h1⟩, h2⟩ := h
  exact ⟨⟨pv, (hb.block g hl).trans h1⟩, h2.up hb (Nat.le_of_lt hl)⟩
/-- What is written is another block. -/
theorem RdS.but {g : Nat} {A : Option Addr} {n c : Nat} {bs : List Int} {s : RS} {w w' : World} {p : Nat → Prop} (h : RdS g A n c bs s w) (hb : But p w w') (hp : ∀ k, k ≤ g → ¬ p k) : RdS g A n c bs s w' := by
  have hl := h.lt
  obtain ⟨⟨pv, h1⟩, h2⟩ := h
  refine ⟨⟨pv, (hb.block g hl (hp g (Nat.le_refl _))).trans h1⟩, h2.1, fun hn => ?_⟩
  obtain ⟨b, off, e, hlt, hc⟩ := h2.2 hn
  exact ⟨b, off, e, hlt, hc.keep (hb.block b (Nat.lt_trans hlt hl) (hp b (Nat.le_of_lt hlt)))⟩
end Go.Proofs.YtpdledjgbgalcaaGreatDoor
namespace Go.Proofs.YtpdledjgbgalcaaGreatDoor
open Go.RowKit Go.Lib
set_option linter.unusedVariables false
set_option linter.unusedSimpArgs false
theorem Own.low {w : World} {base base' : Nat} {e : TypeId} {v : Value} {bs : List Int} (h : Own fB e w base v bs) (hb : base' ≤ base) : Own fB e w base' v bs := World.ownsRow.mono h hb
end Go.Proofs.YtpdledjgbgalcaaGreatDoor
namespace Go.Proofs.YtpdledjgbgalcaaGreatDoor
open Go.RowKit
set_option linter.unusedVariables false
set_option linter.unusedSimpArgs false
/-- These bytes lie at p. -/
def AtL (bs : List Int) (p : Nat) (xs : List Int) : Prop := ∀ j, j < xs.length → bs[p + j]? = xs[j]?
theorem AtL.nil {bs : List Int} {p : Nat} : AtL bs p [] := fun j hj => absurd hj (by simp)
theorem AtL.right {bs : List Int} {p : Nat} {xs ys : List Int} (h : AtL bs p (xs ++ ys)) : AtL bs (p + xs.length) ys := fun j hj => by
  have := h (xs.length + j) (by rw [List.length_append]; omega)
  rw [List.getElem?_append_right (by omega), Nat.add_sub_cancel_left, ← Nat.add_assoc] at this
  exact this
theorem AtL.app {bs : List Int} {p : Nat} {xs ys : List Int} (h1 : AtL bs p xs) (h2 : AtL bs (p + xs.length) ys) : AtL bs p (xs ++ ys) := fun j hj => by
  rcases Nat.lt_or_ge j xs.length with h | h
  · rw [List.getElem?_append_left h]; exact h1 j h
  · rw [List.getElem?_append_right h, ← h2 (j - xs.length) (by rw [List.length_append] at hj; omega)]
    congr 1; omega
theorem AtL.all {bs xs : List Int} (h : AtL bs 0 xs) (hl : xs.length = bs.length) : xs = bs := by
  apply List.ext_getElem?
  intro j
  rcases Nat.lt_or_ge j xs.length with h1 | h1
  · have := h j h1; rw [Nat.zero_add] at this; exact this.symm
  · rw [List.getElem?_eq_none h1, List.getElem?_eq_none (by omega)]
/-- From one state to the next these bytes were read. -/
def Ok (bs : List Int) (s s' : RS) (xs : List Int) : Prop := s'.1 = s.1 + xs.length ∧ AtL bs s.1 xs
theorem Ok.refl (bs : List Int) (s : RS) : Ok bs s s [] := ⟨rfl, AtL.nil⟩
theorem Ok.trans {bs : List Int} {s s' s'' : RS} {xs ys : List Int} (h : Ok bs s s' xs) (k : Ok bs s' s'' ys) : Ok bs s s'' (xs ++ ys) :=
  ⟨by rw [k.1, h.1, List.length_append, Nat.add_assoc], h.2.app (by have := k.2; rwa [h.1] at this)⟩
section
variable {bs : List Int} (hb : ∀ b ∈ bs, 0 ≤ b ∧ b < 256)
include hb
end
section
variable {bs : List Int}
theorem AtL.cut {p : Nat} {xs : List Int} (h : AtL bs p xs) : (bs.drop p).take xs.length = xs := by
  apply List.ext_getElem?
  intro j
  rw [List.getElem?_take]
  split
  · next hj => rw [List.getElem?_drop]; exact h j hj
  · next hj => rw [List.getElem?_eq_none (by omega)]
end
end Go.Proofs.YtpdledjgbgalcaaGreatDoor
namespace Go.Proofs.YtpdledjgbgalcaaGreatDoor
open Go.RowKit Go.Lib
set_option linter.unusedVariables false
set_option linter.unusedSimpArgs false
end Go.Proofs.YtpdledjgbgalcaaGreatDoor
namespace Go.Proofs.YtpdledjgbgalcaaGreatDoor
open Go.RowKit Go.Lib
set_option linter.unusedVariables false
set_option linter.unusedSimpArgs false
theorem RdS.but2 {g : Nat} {A : Option Addr} {n c : Nat} {bs : List Int} {s : RS} {w w' : World} {p : Nat → Prop} (h : RdS g A n c bs s w) (hb : But p w w') (hg : ¬ p g) (hA : ∀ a, A = some a → ¬ p a.block) : RdS g A n c bs s w' := by
  have hl := h.lt
  obtain ⟨⟨pv, h1⟩, h2⟩ := h
  refine ⟨⟨pv, (hb.block g hl hg).trans h1⟩, h2.1, fun hn => ?_⟩
  obtain ⟨b, off, e, hlt, hc⟩ := h2.2 hn
  exact ⟨b, off, e, hlt, hc.keep (hb.block b (Nat.lt_trans hlt hl) (hA _ e))⟩
theorem Own.butG {α : Type} {f : α → Value} {w w' : World} {base : Nat} {e : TypeId} {v : Value} {xs : List α} {p : Nat → Prop} (h : Own f e w base v xs) (hb : But p w w') (hv : ∀ k, v.ownBlock = some k → ¬ p k) : Own f e w' base v xs := by
  rcases h.2 with ⟨rfl, h0⟩ | ⟨g, cap, cur, rfl, h1, hg, h2⟩
  · exact ⟨h.1, .inl ⟨rfl, h0⟩⟩
  · exact ⟨h.1, .inr ⟨g, cap, cur, rfl, h1, (hb.block g (lt_of_block hg) (hv g rfl)).trans hg, h2⟩⟩
/-- What holds while an acquittal is read. -/
structure DS (V0 V : World) (g : Nat) (A1 : Option Addr) (n c1 : Nat) (bs : List Int) (s : RS) (b : Nat) (cs : Array Value) : Prop where
  rd : RdS g A1 n c1 bs s V
  pc : V.heap[b]? = some (.cells cs 42 (0, 0))
  but : But (fun k => k = g ∨ k = b) V0 V
  gb : b ≠ g
  ab : ∀ a, A1 = some a → b < a.block
theorem DS.set {V0 V V' : World} {g : Nat} {A1 : Option Addr} {n c1 : Nat} {bs : List Int} {s : RS} {b : Nat} {cs cs' : Array Value} (h : DS V0 V g A1 n c1 bs s b cs) (hp : V'.heap[b]? = some (.cells cs' 42 (0, 0))) (hb : But (fun k => k = b) V V') : DS V0 V' g A1 n c1 bs s b cs' :=
  ⟨h.rd.but2 hb (fun e => h.gb e.symm) (fun a ha e => by have := h.ab a ha; omega), hp, h.but.trans hb (fun i hi => .inl (.inr hi)), h.gb, h.ab⟩
end Go.Proofs.YtpdledjgbgalcaaGreatDoor
namespace Go.Proofs.YtpdledjgbgalcaaGreatDoor
open Go.RowKit Go.Lib
set_option linter.unusedVariables false
set_option linter.unusedSimpArgs false
theorem set_mid (ys : List ByteArray) (x : ByteArray) (m : Nat) : (((ys ++ List.replicate (m + 1) baNo).map fT).set ys.length (.string x)) = ((ys ++ [x]) ++ List.replicate m baNo).map fT := by
  rw [List.map_append, List.set_append_right _ _ (by rw [List.length_map]; exact Nat.le_refl _), List.length_map, Nat.sub_self, List.replicate_succ, List.map_cons, List.set_cons_zero, List.append_assoc, List.map_append, List.map_append]
  rfl
end Go.Proofs.YtpdledjgbgalcaaGreatDoor
namespace Go.Proofs.YtpdledjgbgalcaaGreatDoor
open Go.RowKit Go.Lib
set_option linter.unusedVariables false
set_option linter.unusedSimpArgs false
abbrev cR (r : Rcp) : Array Value := #[.int .i64 r.hd, .int .i64 r.vt, .string r.s, .int .i64 r.ix, .int .i64 r.sz, .int .i64 r.dy, .int .i64 r.sr, .int .i64 r.ct, .int .i64 r.pl, .string r.rt, .slice r.pa.a r.pa.n r.pa.c, .int .i64 r.si, .slice r.pb.a r.pb.n r.pb.c, .slice r.pc.a r.pc.n r.pc.c]
abbrev tR : TypeId := 35
theorem Tryz.sizeRc : (Tryz.prog.info? 35).map (·.size) = some 14 := by kernel_rfl
/-- A receipt's sums lie in rows of the call's own. -/
def RcO (w : World) (base : Nat) (r : Rcp) (ps qs rs : List ByteArray) : Prop := Own fT 9 w base (.slice r.pa.a r.pa.n r.pa.c) ps ∧ Own fT 9 w base (.slice r.pb.a r.pb.n r.pb.c) qs ∧ Own fT 9 w base (.slice r.pc.a r.pc.n r.pc.c) rs
theorem RcO.but {w w' : World} {base : Nat} {r : Rcp} {ps qs rs : List ByteArray} {p : Nat → Prop} (h : RcO w base r ps qs rs) (hb : But p w w') (hp : ∀ k, base ≤ k → k < w.heap.size → ¬ p k) : RcO w' base r ps qs rs :=
  ⟨h.1.butG hb fun k hk => hp k (World.ownsRow.lt h.1 k hk).1 (World.ownsRow.lt h.1 k hk).2, h.2.1.butG hb fun k hk => hp k (World.ownsRow.lt h.2.1 k hk).1 (World.ownsRow.lt h.2.1 k hk).2, h.2.2.butG hb fun k hk => hp k (World.ownsRow.lt h.2.2 k hk).1 (World.ownsRow.lt h.2.2 k hk).2⟩
theorem RcO.on {w w' : World} {base : Nat} {r : Rcp} {ps qs rs : List ByteArray} (h : RcO w base r ps qs rs) (hb : Below w.heap.size w w') : RcO w' base r ps qs rs := ⟨h.1.on hb, h.2.1.on hb, h.2.2.on hb⟩
theorem RcO.low {w : World} {base base' : Nat} {r : Rcp} {ps qs rs : List ByteArray} (h : RcO w base r ps qs rs) (hb : base' ≤ base) : RcO w base' r ps qs rs := ⟨World.ownsRow.mono h.1 hb, World.ownsRow.mono h.2.1 hb, World.ownsRow.mono h.2.2 hb⟩
/-- What holds while a struct is read into the block b. -/
structure DT (t : TypeId) (V0 V : World) (g : Nat) (A1 : Option Addr) (n c1 : Nat) (bs : List Int) (s : RS) (b : Nat) (cs : Array Value) : Prop where
  rd : RdS g A1 n c1 bs s V
  pc : V.heap[b]? = some (.cells cs t (0, 0))
  but : But (fun k => k = g ∨ k = b) V0 V
  gb : b ≠ g
  ab : ∀ a, A1 = some a → a.block ≠ b
theorem DT.set {t : TypeId} {V0 V V' : World} {g : Nat} {A1 : Option Addr} {n c1 : Nat} {bs : List Int} {s : RS} {b : Nat} {cs cs' : Array Value} (h : DT t V0 V g A1 n c1 bs s b cs) (hp : V'.heap[b]? = some (.cells cs' t (0, 0))) (hb : But (fun k => k = b) V V') : DT t V0 V' g A1 n c1 bs s b cs' :=
  ⟨h.rd.but2 hb (fun e => h.gb e.symm) (fun a ha e => h.ab a ha e), hp, h.but.trans hb (fun i hi => .inl (.inr hi)), h.gb, h.ab⟩
/-- One cell is stored. -/
theorem DT.cell {t : TypeId} {V0 V : World} {g : Nat} {A1 : Option Addr} {n c1 : Nat} {bs : List Int} {s : RS} {b : Nat} {cs : Array Value} (h : DT t V0 V g A1 n c1 bs s b cs) (i : Nat) (v : Value) : DT t V0 (V.setCell ⟨b, i, none⟩ v) g A1 n c1 bs s b (cs.setIfInBounds i v) :=
  h.set (heap_setCell_same V b i _ _ v h.pc) (But.setCell (p := fun k => k = b) (x := ⟨b, i, none⟩) (But.refl _ _) (.inl rfl) _)
theorem DT.base {t : TypeId} {V0 V : World} {g : Nat} {A1 : Option Addr} {n c1 : Nat} {bs : List Int} {s : RS} {b : Nat} {cs : Array Value} (h : DT t V0 V g A1 n c1 bs s b cs) : DT t V V g A1 n c1 bs s b cs := ⟨h.rd, h.pc, But.refl _ _, h.gb, h.ab⟩
theorem DT.keep {t : TypeId} {V0 V V' : World} {g : Nat} {A1 : Option Addr} {n c1 : Nat} {bs : List Int} {s : RS} {b : Nat} {cs : Array Value} (h : DT t V0 V g A1 n c1 bs s b cs) (hb : Below V.heap.size V V') : DT t V0 V' g A1 n c1 bs s b cs :=
  ⟨h.rd.on hb, (hb.block _ (lt_of_block h.pc)).trans h.pc, h.but.trans (But.of_below (p := fun k => k = g ∨ k = b) hb) (fun i hi => .inl hi), h.gb, h.ab⟩
theorem fourteen_of {w : World} {b : Nat} {t : TypeId} {r : Rcp} (h : w.heap[b]? = some (.cells (cR r) t (0, 0))) : w.cell? ⟨b, 0, none⟩ = some (.int .i64 r.hd) ∧ w.cell? ⟨b, 1, none⟩ = some (.int .i64 r.vt) ∧ w.cell? ⟨b, 2, none⟩ = some (.string r.s) ∧ w.cell? ⟨b, 3, none⟩ = some (.int .i64 r.ix) ∧ w.cell? ⟨b, 4, none⟩ = some (.int .i64 r.sz) ∧ w.cell? ⟨b, 5, none⟩ = some (.int .i64 r.dy) ∧ w.cell? ⟨b, 6, none⟩ = some (.int .i64 r.sr) ∧ w.cell? ⟨b, 7, none⟩ = some (.int .i64 r.ct) ∧ w.cell? ⟨b, 8, none⟩ = some (.int .i64 r.pl) ∧ w.cell? ⟨b, 9, none⟩ = some (.string r.rt) ∧ w.cell? ⟨b, 10, none⟩ = some (.slice r.pa.a r.pa.n r.pa.c) ∧ w.cell? ⟨b, 11, none⟩ = some (.int .i64 r.si) ∧ w.cell? ⟨b, 12, none⟩ = some (.slice r.pb.a r.pb.n r.pb.c) ∧ w.cell? ⟨b, 13, none⟩ = some (.slice r.pc.a r.pc.n r.pc.c) := by
  refine ⟨?_, ?_, ?_, ?_, ?_, ?_, ?_, ?_, ?_, ?_, ?_, ?_, ?_, ?_⟩ <;> (rw [cell_of_row w b _ _ _ _ h]; rfl)
end Go.Proofs.YtpdledjgbgalcaaGreatDoor
namespace Go.Proofs.YtpdledjgbgalcaaGreatDoor
open Go.RowKit Go.Lib
set_option linter.unusedVariables false
set_option linter.unusedSimpArgs false
theorem Wc.sl {α : Type} {f : α → Value} {g base : Nat} {v : Value} {w0 w : World} {bs : List Int} {B n : Nat} {A : Option Addr} {xs : List α} (h : Wc g base v w0 bs w) (hx : Sl f w0 B A n xs) (hB : B ≤ w0.heap.size) (hf : ∀ k, k < B → ¬ foot g v k) : Sl f w B A n xs := ⟨hx.1, fun hn => by
  obtain ⟨b, off, e, hlt, hc⟩ := hx.2 hn
  exact ⟨b, off, e, hlt, hc.keep (h.keep (hf b hlt) (Nat.lt_of_lt_of_le hlt hB))⟩⟩
/-- A block was laid before the writer's first call. -/
theorem Wc.behind {g base : Nat} {v : Value} {w0 w : World} {bs : List Int} {o : Obj} (h : Wc g base v (w0.alloc o) bs w) : Wc g base v w0 bs w := by
  obtain ⟨v1, h1, h2, h3⟩ := h
  refine ⟨v1, h1, ((But.refl _ w0).alloc o).trans h2 (fun i hi => .inl hi), ?_⟩
  rcases h3 with h | ⟨k, h, hk⟩
  · exact .inl h
  · exact .inr ⟨k, h, Nat.le_trans (by simp) hk⟩
end Go.Proofs.YtpdledjgbgalcaaGreatDoor
namespace Go.Proofs.YtpdledjgbgalcaaGreatDoor
open Go.RowKit
set_option linter.unusedVariables false
set_option linter.unusedSimpArgs false
end Go.Proofs.YtpdledjgbgalcaaGreatDoor
