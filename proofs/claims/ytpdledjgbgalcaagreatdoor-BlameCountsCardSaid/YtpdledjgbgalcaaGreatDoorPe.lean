/- The arguments opened: slices of integers. The arguments opened: rows of receipts. The arguments opened: bytes, strings, a piece. An entry of the log opened. -/
import Derived.Lib.SmallJoins
import Derived.Test.YtpdledjgbgalcaaGreatDoorRows
import Derived.Test.YtpdledjgbgalcaaGreatDoorMa
import Derived.WalkKit
import Derived.ProofKit
import Derived.OpenShut
import Derived.ChangeOld
import Derived.Below
import Derived.Test.YtpdledjgbgalcaaGreatDoorZe
import Derived.Deep.Slices
import Derived.Deep.Fields
import Derived.Test.YtpdledjgbgalcaaGreatDoorPc
namespace Go.Proofs.YtpdledjgbgalcaaGreatDoor
open Go.ChangeShapes Go.WideShapes Go.ChangeAt Go.RowKit
set_option linter.unusedVariables false
set_option linter.unusedSimpArgs false
/-- A slice of integers that came in. -/
def IsRow (k : IntKind) (w : World) (a : Option Addr) (len cap : Nat) (zs : List Int) : Prop :=
  (a = none ∧ len = 0 ∧ cap = 0 ∧ zs = []) ∨
  ∃ x, a = some x ∧ len ≤ cap ∧ cap ≤ maxLen ∧ zs.length = cap ∧ (∀ i, i < zs.length → w.cell? (x.add i) = some (.int k (zs.getD i 0))) ∧ ∀ n ∈ zs, (Lit.int k n).wf = true
theorem IsRow.sl {k : IntKind} {w : World} {a : Option Addr} {len cap : Nat} {zs : List Int} (h : IsRow k w a len cap zs) : Sl (Value.int k) w w.heap.size a len (zs.take len) ∧ len ≤ cap := by
  rcases h with ⟨rfl, rfl, rfl, rfl⟩ | ⟨x, rfl, hl, _, hz, hc, _⟩
  · exact ⟨⟨rfl, SL.nil⟩, Nat.le_refl _⟩
  · have hlen : (zs.take len).length = len := by rw [List.length_take]; omega
    refine ⟨⟨hlen, fun hn => ?_⟩, hl⟩
    have h0 := hc 0 (by omega)
    obtain ⟨b, off, spot⟩ := x
    have hspot : spot = none := by simpa [Addr.add] using World.cell?_spot h0
    subst hspot
    refine ⟨b, off, rfl, block_lt_of_cell (a := ⟨b, off, none⟩) (by simpa [Addr.add] using h0), fun i z hz' => ?_⟩
    have hi : i < len := by have := (List.getElem?_eq_some_iff.1 hz').1; omega
    have := hc i (by omega)
    rw [Addr.add_mid] at this
    rw [this]
    rw [List.getElem?_take, if_pos hi] at hz'
    rw [getD_of hz']
section
variable {H : Type} {enc : TypeId × Value → H} {W : World} {d : DataW H} {p : List MemPlace}
end
end Go.Proofs.YtpdledjgbgalcaaGreatDoor
namespace Go.Proofs.YtpdledjgbgalcaaGreatDoor
open Go.ChangeShapes Go.WideShapes Go.ChangeAt Go.RowKit Go.Deep
set_option linter.unusedVariables false
set_option linter.unusedSimpArgs false
theorem Tryz.cellsI : Tryz.prog.cellsOf 3 = 1 := by kernel_rfl
theorem Tryz.cellsS : Tryz.prog.cellsOf 9 = 1 := by kernel_rfl
theorem Tryz.cellsLs : Tryz.prog.cellsOf 24 = 1 := by kernel_rfl
theorem Tryz.cellsPid : Tryz.prog.cellsOf 31 = 2 := by kernel_rfl
theorem Tryz.cellsSig : Tryz.prog.cellsOf 33 = 3 := by kernel_rfl
theorem Tryz.cellsRcp : Tryz.prog.cellsOf 35 = 14 := by kernel_rfl
instance : Inhabited Hd := ⟨⟨none, 0, 0⟩⟩
instance : Inhabited Rcp := ⟨⟨0, 0, ⟨#[]⟩, 0, 0, 0, 0, 0, 0, ⟨#[]⟩, ⟨none, 0, 0⟩, 0, ⟨none, 0, 0⟩, ⟨none, 0, 0⟩⟩⟩
theorem int64.of_wf {z : Int} (h : (Lit.int .i64 z).wf = true) : int64 z := by
  unfold int64
  simp [Lit.wf, IntKind.min, IntKind.max, IntKind.signed, IntKind.bits] at h
  omega
theorem list2 {l : List Value} (h : l.length = 2) : ∃ c0 c1, l = [c0, c1] := by
  match l, h with
  | [c0, c1], _ => exact ⟨c0, c1, rfl⟩
theorem ylist2 {α : Type} {l : List α} (h : l.length = 2) : ∃ y0 y1, l = [y0, y1] := by
  match l, h with
  | [y0, y1], _ => exact ⟨y0, y1, rfl⟩
theorem ylist3 {α : Type} {l : List α} (h : l.length = 3) : ∃ y0 y1 y2, l = [y0, y1, y2] := by
  match l, h with
  | [y0, y1, y2], _ => exact ⟨y0, y1, y2, rfl⟩
section
variable {H : Type} {enc : TypeId × Value → H} {W : World} {d : DataW H} {p : List MemPlace}
set_option maxRecDepth 20000 in
theorem in_pid {fuel : Nat} {cs : List Value} {x : DataW H × List MemPlace} (h : DataW.trod enc Tryz.prog W 0 (fun _ => true) true fuel 31 cs = some x) : ∃ (s : ByteArray) (y : Int), cs = [.string s, .int .i64 y] ∧ okP s y := by
  obtain ⟨ys, n, _, _, hcl, hyl, hfld⟩ := DataW.trod_struct Tryz.underlying31 h
  rw [Tryz.cellsPid] at hcl
  obtain ⟨c0, c1, rfl⟩ := list2 hcl
  obtain ⟨y0, y1, rfl⟩ := ylist2 hyl
  have f0 : DataW.trod enc Tryz.prog W 0 (fun _ => true) true n 9 (([c0, c1].drop 0).take (Tryz.prog.cellsOf 9)) = [y0, y1][0]? := hfld 0 _ rfl
  rw [Tryz.cellsS] at f0
  have f1 : DataW.trod enc Tryz.prog W 0 (fun _ => true) true n 3 (([c0, c1].drop 1).take (Tryz.prog.cellsOf 3)) = [y0, y1][1]? := hfld 1 _ rfl
  rw [Tryz.cellsI] at f1
  obtain ⟨z0, e0, _, s0⟩ := DataW.trod_string Tryz.underlying9 f0
  simp at e0
  subst e0
  obtain ⟨z1, e1, _, s1⟩ := DataW.trod_int Tryz.underlying3 f1
  simp at e1
  subst e1
  exact ⟨z0, z1, rfl, s0, int64.of_wf s1⟩
/-- A slice of such elements that came in. -/
theorem in_slice {α : Type} [Inhabited α] {f : α → List Value} {s : Nat} {t e : TypeId} (ht : Tryz.prog.underlying t = some (.slice e)) (hC : Tryz.prog.cellsOf e = s) (hs0 : 0 < s) (hf : ∀ x, (f x).length = s) {Pr : α → Prop}
    (hel : ∀ (fuel : Nat) (cs : List Value) (y : DataW H × List MemPlace), DataW.trod enc Tryz.prog W 0 (fun _ => true) true fuel e cs = some y → ∃ x, cs = f x ∧ Pr x) {fuel : Nat} {cs : List Value} {y : DataW H × List MemPlace}
    (h : DataW.trod enc Tryz.prog W 0 (fun _ => true) true fuel t cs = some y) : ∃ a n c xs, cs = [.slice a n c] ∧ n ≤ c ∧ c ≤ maxLen ∧ SlN f s W W.heap.size a n xs ∧ ∀ x ∈ xs, Pr x := by
  rcases open_slice ht h with ⟨rfl, _⟩ | ⟨x, l, c, m, nn, D, Pl, rfl, _, hl, hm, hmm, _, hi⟩
  · exact ⟨none, 0, 0, [], rfl, Nat.le_refl _, Nat.zero_le _, SlN.nil, fun x hx => by cases hx⟩
  · simp only [if_true] at hmm
    subst hmm
    have each : ∀ i, i < l → ∃ r : α, (∀ j v, (f r)[j]? = some v → W.cell? (x.add (i * s + j)) = some v) ∧ Pr r := by
      intro i hil
      obtain ⟨cs', hc, ht'⟩ := hi i (by omega)
      rw [hC] at hc
      obtain ⟨_, hcl, hat⟩ := World.cells?_some hc
      obtain ⟨r, rfl, hr⟩ := hel _ _ _ ht'
      refine ⟨r, fun j v hv => ?_, hr⟩
      have hj : j < s := by have := (List.getElem?_eq_some_iff.1 hv).1; rw [hf] at this; exact this
      rw [← Go.Deep.add_add, hat j hj]
      exact hv
    obtain ⟨R, hR⟩ := choose_lt each
    refine ⟨some x, l, _, (List.range l).map R, rfl, hl, hm, ⟨by simp, fun hn => ?_⟩, fun z hz => ?_⟩
    · simp at hn
      obtain ⟨u, hu⟩ : ∃ u, (f (R 0))[0]? = some u := ⟨_, List.getElem?_eq_getElem (by rw [hf]; exact hs0)⟩
      have h0 := (hR 0 hn).1 0 u hu
      obtain ⟨b, off, spot⟩ := x
      have hspot : spot = none := by simpa [Addr.add] using World.cell?_spot h0
      subst hspot
      refine ⟨b, off, rfl, block_lt_of_cell (a := ⟨b, off, none⟩) (by simpa [Addr.add] using h0), fun i z hz' j v hv => ?_⟩
      rw [List.getElem?_map] at hz'
      have hil : i < l := by
        rcases Nat.lt_or_ge i l with h | h
        · exact h
        · rw [List.getElem?_eq_none (by simpa using h)] at hz'; cases hz'
      rw [List.getElem?_range hil] at hz'
      cases hz'
      have := (hR i hil).1 j v hv
      rw [Addr.add_mid] at this
      exact this
    · obtain ⟨i, hi', rfl⟩ := List.mem_map.1 hz
      exact (hR i (List.mem_range.1 hi')).2
end
end Go.Proofs.YtpdledjgbgalcaaGreatDoor
namespace Go.Proofs.YtpdledjgbgalcaaGreatDoor
open Go.ChangeShapes Go.WideShapes Go.ChangeAt Go.RowKit Go.Deep
set_option linter.unusedVariables false
set_option linter.unusedSimpArgs false
theorem SlN.one {α : Type} {f : α → Value} {w : World} {B n : Nat} {A : Option Addr} {xs : List α} (h : SlN (fun x => [f x]) 1 w B A n xs) : Sl f w B A n xs := ⟨h.1, fun hn => by
  obtain ⟨b, off, e, hlt, hc⟩ := h.2 (by simpa using hn)
  refine ⟨b, off, e, hlt, fun k x hk => ?_⟩
  have := hc k x hk 0 (f x) rfl
  simpa using this⟩
instance : Inhabited ByteArray := ⟨⟨#[]⟩⟩
section
variable {H : Type} {enc : TypeId × Value → H} {W : World} {d : DataW H} {p : List MemPlace}
theorem Tryz.cellsB : Tryz.prog.cellsOf 5 = 1 := by kernel_rfl
theorem Tryz.cellsLb : Tryz.prog.cellsOf 40 = 1 := by kernel_rfl
theorem Tryz.cellsPc : Tryz.prog.cellsOf 42 = 4 := by kernel_rfl
theorem in_strs {fuel : Nat} {cs : List Value} {y : DataW H × List MemPlace} (h : DataW.trod enc Tryz.prog W 0 (fun _ => true) true fuel 24 cs = some y) : ∃ a n c xs, cs = [.slice a n c] ∧ n ≤ c ∧ Sl fT W W.heap.size a n xs := by
  obtain ⟨a, n, c, xs, e, h1, _, h2, _⟩ := in_slice (f := fun s => [fT s]) (s := 1) (Pr := fun _ : ByteArray => True) Tryz.underlying24 Tryz.cellsS (by decide) (fun _ => rfl) (fun _ _ _ h => by
    obtain ⟨z, e, _, _⟩ := DataW.trod_string Tryz.underlying9 h
    exact ⟨z, e, trivial⟩) h
  exact ⟨a, n, c, xs, e, h1, h2.one⟩
theorem in_bts {fuel : Nat} {cs : List Value} {y : DataW H × List MemPlace} (h : DataW.trod enc Tryz.prog W 0 (fun _ => true) true fuel 40 cs = some y) : ∃ a n c xs, cs = [.slice a n c] ∧ n ≤ c ∧ Sl fB W W.heap.size a n xs ∧ Byt xs := by
  obtain ⟨a, n, c, xs, e, h1, _, h2, h3⟩ := in_slice (f := fun s => [fB s]) (s := 1) (Pr := fun x : Int => 0 ≤ x ∧ x < 256) Tryz.underlying40 Tryz.cellsB (by decide) (fun _ => rfl) (fun _ _ _ h => by
    obtain ⟨z, e, _, hw⟩ := DataW.trod_int Tryz.underlying5 h
    refine ⟨z, e, ?_⟩
    simp [Lit.wf, IntKind.min, IntKind.max, IntKind.signed, IntKind.bits] at hw
    omega) h
  exact ⟨a, n, c, xs, e, h1, h2.one, h3⟩
theorem list4 {l : List Value} (h : l.length = 4) : ∃ c0 c1 c2 c3, l = [c0, c1, c2, c3] := by
  match l, h with
  | [c0, c1, c2, c3], _ => exact ⟨c0, c1, c2, c3, rfl⟩
set_option maxRecDepth 20000 in
theorem in_piece {fuel : Nat} {cs : List Value} {x : DataW H × List MemPlace} (h : DataW.trod enc Tryz.prog W 0 (fun _ => true) true fuel 42 cs = some x) : ∃ (p : Pc) (xs : List Int) (ys : List ByteArray), cs = (cPc p).toList ∧ PcIn W W.heap.size p xs ys ∧ Byt xs ∧ okP p.s p.ix := by
  obtain ⟨ys, n, _, _, hcl, hyl, hfld⟩ := DataW.trod_struct Tryz.underlying42 h
  rw [Tryz.cellsPc] at hcl
  obtain ⟨c0, c1, c2, c3, rfl⟩ := list4 hcl
  obtain ⟨y0, y1, y2, rfl⟩ := ylist3 hyl
  have f0 : DataW.trod enc Tryz.prog W 0 (fun _ => true) true n 31 (([c0, c1, c2, c3].drop 0).take (Tryz.prog.cellsOf 31)) = [y0, y1, y2][0]? := hfld 0 _ rfl
  rw [Tryz.cellsPid] at f0
  have f1 : DataW.trod enc Tryz.prog W 0 (fun _ => true) true n 40 (([c0, c1, c2, c3].drop 2).take (Tryz.prog.cellsOf 40)) = [y0, y1, y2][1]? := hfld 1 _ rfl
  rw [Tryz.cellsLb] at f1
  have f2 : DataW.trod enc Tryz.prog W 0 (fun _ => true) true n 24 (([c0, c1, c2, c3].drop 3).take (Tryz.prog.cellsOf 24)) = [y0, y1, y2][2]? := hfld 2 _ rfl
  rw [Tryz.cellsLs] at f2
  obtain ⟨s, ix, e0, s0⟩ := in_pid f0
  simp at e0
  obtain ⟨rfl, rfl⟩ := e0
  obtain ⟨a, m, c, xs, e1, h1, h2, h3⟩ := in_bts f1
  simp at e1
  subst e1
  obtain ⟨a', m', c', zs, e2, h4, h5⟩ := in_strs f2
  simp at e2
  subst e2
  exact ⟨⟨s, ix, ⟨a, m, c⟩, ⟨a', m', c'⟩⟩, xs, zs, rfl, ⟨h2, h5, h1, h4⟩, h3, s0⟩
set_option maxRecDepth 20000 in
/-- A piece that came in. -/
theorem w_piece {r : Reach} {b0 : Nat} {v : Value} (hv : Value.okWide Tryz.prog W r b0 42 v) (h : DataW.Trod enc Tryz.prog W 0 (fun _ => true) true 42 v d p) : ∃ (q : Pc) (xs : List Int) (ys : List ByteArray), v = .agg (cPc q) ∧ PcIn W W.heap.size q xs ys ∧ Byt xs ∧ okP q.s q.ix := by
  obtain ⟨cs, rfl, _⟩ := okWide_struct Tryz.underlying42 hv
  obtain ⟨fuel, hf⟩ := h
  obtain ⟨q, xs, ys, e, h1, h2, h3⟩ := in_piece hf
  refine ⟨q, xs, ys, ?_, h1, h2, h3⟩
  congr 1
  have e' : cs.toList = (cPc q).toList := e
  have := congrArg List.toArray e'
  simpa using this
end
end Go.Proofs.YtpdledjgbgalcaaGreatDoor
namespace Go.Proofs.YtpdledjgbgalcaaGreatDoor
open Go.ChangeShapes Go.WideShapes Go.ChangeAt Go.RowKit Go.Deep
set_option linter.unusedVariables false
set_option linter.unusedSimpArgs false
section
variable {H : Type} {enc : TypeId × Value → H} {W : World} {d : DataW H} {p : List MemPlace}
theorem Tryz.cellsEn : Tryz.prog.cellsOf 55 = 6 := by kernel_rfl
end
end Go.Proofs.YtpdledjgbgalcaaGreatDoor
