/- The argument opened. -/
import Derived.Test.YtkeicjokekmkpaaLs
import Derived.Lib.SmallJoins
import Derived.Test.YtkeicjokekmkpaaRows
import Derived.WalkKit
import Derived.ProofKit
import Derived.OpenShut
import Derived.ChangeOld
import Derived.Below
import Derived.Deep.Slices
import Derived.Deep.Fields
namespace Go.Proofs.Ytkeicjokekmkpaa
open Go.ChangeShapes Go.WideShapes Go.ChangeAt Go.RowKit Go.Deep Mb
set_option linter.unusedVariables false
set_option linter.unusedSimpArgs false

theorem Try.cellsI : Try.prog.cellsOf 3 = 1 := by kernel_rfl
theorem Try.cellsU : Try.prog.cellsOf 30 = 1 := by kernel_rfl
theorem Try.cellsS : Try.prog.cellsOf 9 = 1 := by kernel_rfl
theorem Try.cellsB : Try.prog.cellsOf 4 = 1 := by kernel_rfl
theorem Try.cellsL : Try.prog.cellsOf 29 = 1 := by kernel_rfl
theorem Try.cellsM : Try.prog.cellsOf 44 = 5 := by kernel_rfl
theorem Try.cellsV : Try.prog.cellsOf 36 = 15 := by kernel_rfl
theorem Try.cellsX : Try.prog.cellsOf 53 = 9 := by kernel_rfl
theorem Try.cellsC : Try.prog.cellsOf 32 = 5 := by kernel_rfl
theorem Try.cellsR : Try.prog.cellsOf 34 = 4 := by kernel_rfl
instance : Inhabited Mem := ⟨⟨0, ⟨#[]⟩, ⟨#[]⟩, 0, false⟩⟩
instance : Inhabited Vlt := ⟨⟨0, [], 0, 0, 0, ⟨#[]⟩, 0, 0, 0, 0, 0, 0, 0, 0, 0⟩⟩
instance : Inhabited Hd := ⟨⟨none, 0, 0⟩⟩
instance : Inhabited Chn := ⟨⟨0, ⟨0, ⟨#[]⟩, ⟨#[]⟩, 0, false⟩, 0, 0, 0⟩⟩
abbrev fX (x : Chn) : List Value := [.int .i64 x.kind, .int .i64 x.m.dev, .string x.m.name, .string x.m.pub, .int .i64 x.m.quota, .bool x.m.exp, .int .i64 x.v, .int .i64 x.a, .int .i64 x.b]
theorem fX_len : ∀ x, (fX x).length = 9 := fun _ => rfl
theorem fX_one : ∀ x, ∀ u ∈ fX x, u.oneCell' = true := fun x u hu => by
  simp only [fX, List.mem_cons, List.not_mem_nil, or_false] at hu
  rcases hu with rfl | rfl | rfl | rfl | rfl | rfl | rfl | rfl | rfl <;> rfl
theorem list4 {l : List Value} (h : l.length = 4) : ∃ c0 c1 c2 c3, l = [c0, c1, c2, c3] := by
  match l, h with
  | [c0, c1, c2, c3], _ => exact ⟨c0, c1, c2, c3, rfl⟩
theorem list5 {l : List Value} (h : l.length = 5) : ∃ c0 c1 c2 c3 c4, l = [c0, c1, c2, c3, c4] := by
  match l, h with
  | [c0, c1, c2, c3, c4], _ => exact ⟨c0, c1, c2, c3, c4, rfl⟩
theorem list9 {l : List Value} (h : l.length = 9) : ∃ c0 c1 c2 c3 c4 c5 c6 c7 c8, l = [c0, c1, c2, c3, c4, c5, c6, c7, c8] := by
  match l, h with
  | [c0, c1, c2, c3, c4, c5, c6, c7, c8], _ => exact ⟨c0, c1, c2, c3, c4, c5, c6, c7, c8, rfl⟩
theorem list15 {l : List Value} (h : l.length = 15) : ∃ c0 c1 c2 c3 c4 c5 c6 c7 c8 c9 c10 c11 c12 c13 c14, l = [c0, c1, c2, c3, c4, c5, c6, c7, c8, c9, c10, c11, c12, c13, c14] := by
  match l, h with
  | [c0, c1, c2, c3, c4, c5, c6, c7, c8, c9, c10, c11, c12, c13, c14], _ => exact ⟨c0, c1, c2, c3, c4, c5, c6, c7, c8, c9, c10, c11, c12, c13, c14, rfl⟩
theorem ylist4 {α : Type} {l : List α} (h : l.length = 4) : ∃ y0 y1 y2 y3, l = [y0, y1, y2, y3] := by
  match l, h with
  | [y0, y1, y2, y3], _ => exact ⟨y0, y1, y2, y3, rfl⟩
theorem ylist5 {α : Type} {l : List α} (h : l.length = 5) : ∃ y0 y1 y2 y3 y4, l = [y0, y1, y2, y3, y4] := by
  match l, h with
  | [y0, y1, y2, y3, y4], _ => exact ⟨y0, y1, y2, y3, y4, rfl⟩
theorem ylist8 {α : Type} {l : List α} (h : l.length = 8) : ∃ y0 y1 y2 y3 y4 y5 y6 y7, l = [y0, y1, y2, y3, y4, y5, y6, y7] := by
  match l, h with
  | [y0, y1, y2, y3, y4, y5, y6, y7], _ => exact ⟨y0, y1, y2, y3, y4, y5, y6, y7, rfl⟩
section
variable {H : Type} {enc : TypeId × Value → H} {W : World} {d : DataW H} {p : List MemPlace}
/-- A slice of integers that came in. -/
theorem in_ints0 {fuel : Nat} {cs : List Value} {x : DataW H × List MemPlace} (h : DataW.trod enc Try.prog W 0 (fun _ => true) true fuel 29 cs = some x) : ∃ a n c, cs = [.slice a n c] ∧ n ≤ c ∧ c ≤ maxLen ∧ ∃ xs, Sl I W W.heap.size a n xs := by
  rcases open_ints Try.underlying29 Try.underlying3 Try.cellsI h with ⟨rfl, _⟩ | ⟨x, l, c, zs, rfl, _, hl, hm, hz, _, hcell, hwz⟩
  · exact ⟨none, 0, 0, rfl, Nat.le_refl _, Nat.zero_le _, [], rfl, SL.nil⟩
  · refine ⟨some x, l, c, rfl, hl, hm, zs.take l, ?_, fun hn => ?_⟩
    · simp only [if_true] at hz
      rw [List.length_take]; omega
    · simp only [if_true] at hz
      rw [List.length_take] at hn
      have h0 := hcell 0 (by omega)
      obtain ⟨b, off, spot⟩ := x
      have hspot : spot = none := by simpa [Addr.add] using World.cell?_spot h0
      subst hspot
      refine ⟨b, off, rfl, block_lt_of_cell (a := ⟨b, off, none⟩) (by simpa [Addr.add] using h0), fun i z hz' => ?_⟩
      have hi : i < l := by have := (List.getElem?_eq_some_iff.1 hz').1; rw [List.length_take] at this; omega
      have := hcell i (by omega)
      rw [Addr.add_mid] at this
      rw [this]
      rw [List.getElem?_take, if_pos hi] at hz'
      rw [getD_of hz']
set_option maxRecDepth 20000 in
theorem in_mem {fuel : Nat} {cs : List Value} {x : DataW H × List MemPlace} (h : DataW.trod enc Try.prog W 0 (fun _ => true) true fuel 44 cs = some x) : ∃ m : Mem, cs = fM m ∧ m.name.size ≤ maxLen ∧ m.pub.size ≤ maxLen := by
  obtain ⟨ys, n, _, _, hcl, hyl, hfld⟩ := DataW.trod_struct Try.underlying44 h
  rw [Try.cellsM] at hcl
  obtain ⟨c0, c1, c2, c3, c4, rfl⟩ := list5 hcl
  obtain ⟨y0, y1, y2, y3, y4, rfl⟩ := ylist5 hyl
  have f0 : DataW.trod enc Try.prog W 0 (fun _ => true) true n 3 (([c0, c1, c2, c3, c4].drop 0).take (Try.prog.cellsOf 3)) = [y0, y1, y2, y3, y4][0]? := hfld 0 _ rfl
  rw [Try.cellsI] at f0
  have f1 : DataW.trod enc Try.prog W 0 (fun _ => true) true n 9 (([c0, c1, c2, c3, c4].drop 1).take (Try.prog.cellsOf 9)) = [y0, y1, y2, y3, y4][1]? := hfld 1 _ rfl
  rw [Try.cellsS] at f1
  have f2 : DataW.trod enc Try.prog W 0 (fun _ => true) true n 9 (([c0, c1, c2, c3, c4].drop 2).take (Try.prog.cellsOf 9)) = [y0, y1, y2, y3, y4][2]? := hfld 2 _ rfl
  rw [Try.cellsS] at f2
  have f3 : DataW.trod enc Try.prog W 0 (fun _ => true) true n 3 (([c0, c1, c2, c3, c4].drop 3).take (Try.prog.cellsOf 3)) = [y0, y1, y2, y3, y4][3]? := hfld 3 _ rfl
  rw [Try.cellsI] at f3
  have f4 : DataW.trod enc Try.prog W 0 (fun _ => true) true n 4 (([c0, c1, c2, c3, c4].drop 4).take (Try.prog.cellsOf 4)) = [y0, y1, y2, y3, y4][4]? := hfld 4 _ rfl
  rw [Try.cellsB] at f4
  obtain ⟨z0, e0, _, s0⟩ := DataW.trod_int Try.underlying3 f0
  simp at e0
  subst e0
  obtain ⟨z1, e1, _, s1⟩ := DataW.trod_string Try.underlying9 f1
  simp at e1
  subst e1
  obtain ⟨z2, e2, _, s2⟩ := DataW.trod_string Try.underlying9 f2
  simp at e2
  subst e2
  obtain ⟨z3, e3, _, s3⟩ := DataW.trod_int Try.underlying3 f3
  simp at e3
  subst e3
  obtain ⟨z4, e4, _⟩ := DataW.trod_bool Try.underlying4 f4
  simp at e4
  subst e4
  exact ⟨⟨z0, z1, z2, z3, z4⟩, rfl, s1, s2⟩
set_option maxRecDepth 20000 in
theorem in_cut {fuel : Nat} {cs : List Value} {x : DataW H × List MemPlace} (h : DataW.trod enc Try.prog W 0 (fun _ => true) true fuel 32 cs = some x) : ∃ a b c d e : Int, cs = [.int .i64 a, .int .i64 b, .int .i64 c, .int .i64 d, .int .u64 e] ∧ True := by
  obtain ⟨ys, n, _, _, hcl, hyl, hfld⟩ := DataW.trod_struct Try.underlying32 h
  rw [Try.cellsC] at hcl
  obtain ⟨c0, c1, c2, c3, c4, rfl⟩ := list5 hcl
  obtain ⟨y0, y1, y2, y3, y4, rfl⟩ := ylist5 hyl
  have f0 : DataW.trod enc Try.prog W 0 (fun _ => true) true n 3 (([c0, c1, c2, c3, c4].drop 0).take (Try.prog.cellsOf 3)) = [y0, y1, y2, y3, y4][0]? := hfld 0 _ rfl
  rw [Try.cellsI] at f0
  have f1 : DataW.trod enc Try.prog W 0 (fun _ => true) true n 3 (([c0, c1, c2, c3, c4].drop 1).take (Try.prog.cellsOf 3)) = [y0, y1, y2, y3, y4][1]? := hfld 1 _ rfl
  rw [Try.cellsI] at f1
  have f2 : DataW.trod enc Try.prog W 0 (fun _ => true) true n 3 (([c0, c1, c2, c3, c4].drop 2).take (Try.prog.cellsOf 3)) = [y0, y1, y2, y3, y4][2]? := hfld 2 _ rfl
  rw [Try.cellsI] at f2
  have f3 : DataW.trod enc Try.prog W 0 (fun _ => true) true n 3 (([c0, c1, c2, c3, c4].drop 3).take (Try.prog.cellsOf 3)) = [y0, y1, y2, y3, y4][3]? := hfld 3 _ rfl
  rw [Try.cellsI] at f3
  have f4 : DataW.trod enc Try.prog W 0 (fun _ => true) true n 30 (([c0, c1, c2, c3, c4].drop 4).take (Try.prog.cellsOf 30)) = [y0, y1, y2, y3, y4][4]? := hfld 4 _ rfl
  rw [Try.cellsU] at f4
  obtain ⟨z0, e0, _, s0⟩ := DataW.trod_int Try.underlying3 f0
  simp at e0
  subst e0
  obtain ⟨z1, e1, _, s1⟩ := DataW.trod_int Try.underlying3 f1
  simp at e1
  subst e1
  obtain ⟨z2, e2, _, s2⟩ := DataW.trod_int Try.underlying3 f2
  simp at e2
  subst e2
  obtain ⟨z3, e3, _, s3⟩ := DataW.trod_int Try.underlying3 f3
  simp at e3
  subst e3
  obtain ⟨z4, e4, _, s4⟩ := DataW.trod_int Try.underlying30 f4
  simp at e4
  subst e4
  exact ⟨z0, z1, z2, z3, z4, rfl, trivial⟩
set_option maxRecDepth 20000 in
theorem in_rul {fuel : Nat} {cs : List Value} {x : DataW H × List MemPlace} (h : DataW.trod enc Try.prog W 0 (fun _ => true) true fuel 34 cs = some x) : ∃ a b c d : Int, cs = [.int .i64 a, .int .i64 b, .int .i64 c, .int .i64 d] ∧ True := by
  obtain ⟨ys, n, _, _, hcl, hyl, hfld⟩ := DataW.trod_struct Try.underlying34 h
  rw [Try.cellsR] at hcl
  obtain ⟨c0, c1, c2, c3, rfl⟩ := list4 hcl
  obtain ⟨y0, y1, y2, y3, rfl⟩ := ylist4 hyl
  have f0 : DataW.trod enc Try.prog W 0 (fun _ => true) true n 3 (([c0, c1, c2, c3].drop 0).take (Try.prog.cellsOf 3)) = [y0, y1, y2, y3][0]? := hfld 0 _ rfl
  rw [Try.cellsI] at f0
  have f1 : DataW.trod enc Try.prog W 0 (fun _ => true) true n 3 (([c0, c1, c2, c3].drop 1).take (Try.prog.cellsOf 3)) = [y0, y1, y2, y3][1]? := hfld 1 _ rfl
  rw [Try.cellsI] at f1
  have f2 : DataW.trod enc Try.prog W 0 (fun _ => true) true n 3 (([c0, c1, c2, c3].drop 2).take (Try.prog.cellsOf 3)) = [y0, y1, y2, y3][2]? := hfld 2 _ rfl
  rw [Try.cellsI] at f2
  have f3 : DataW.trod enc Try.prog W 0 (fun _ => true) true n 3 (([c0, c1, c2, c3].drop 3).take (Try.prog.cellsOf 3)) = [y0, y1, y2, y3][3]? := hfld 3 _ rfl
  rw [Try.cellsI] at f3
  obtain ⟨z0, e0, _, s0⟩ := DataW.trod_int Try.underlying3 f0
  simp at e0
  subst e0
  obtain ⟨z1, e1, _, s1⟩ := DataW.trod_int Try.underlying3 f1
  simp at e1
  subst e1
  obtain ⟨z2, e2, _, s2⟩ := DataW.trod_int Try.underlying3 f2
  simp at e2
  subst e2
  obtain ⟨z3, e3, _, s3⟩ := DataW.trod_int Try.underlying3 f3
  simp at e3
  subst e3
  exact ⟨z0, z1, z2, z3, rfl, trivial⟩
/-- What is known of a vault that came in. -/
def VOk (W : World) (p : VP) : Prop := Sl I W W.heap.size p.2.a p.2.n p.1.ws ∧ p.2.n ≤ p.2.c ∧ p.2.c ≤ maxLen ∧ p.1.print.size ≤ maxLen
set_option maxRecDepth 20000 in
theorem in_vlt {fuel : Nat} {cs : List Value} {x : DataW H × List MemPlace} (h : DataW.trod enc Try.prog W 0 (fun _ => true) true fuel 36 cs = some x) : ∃ p : VP, cs = fP p ∧ VOk W p := by
  obtain ⟨ys, n, _, _, hcl, hyl, hfld⟩ := DataW.trod_struct Try.underlying36 h
  rw [Try.cellsV] at hcl
  obtain ⟨c0, c1, c2, c3, c4, c5, c6, c7, c8, c9, c10, c11, c12, c13, c14, rfl⟩ := list15 hcl
  obtain ⟨y0, y1, y2, y3, y4, y5, y6, y7, rfl⟩ := ylist8 hyl
  have f0 : DataW.trod enc Try.prog W 0 (fun _ => true) true n 3 (([c0, c1, c2, c3, c4, c5, c6, c7, c8, c9, c10, c11, c12, c13, c14].drop 0).take (Try.prog.cellsOf 3)) = [y0, y1, y2, y3, y4, y5, y6, y7][0]? := hfld 0 _ rfl
  rw [Try.cellsI] at f0
  have f1 : DataW.trod enc Try.prog W 0 (fun _ => true) true n 29 (([c0, c1, c2, c3, c4, c5, c6, c7, c8, c9, c10, c11, c12, c13, c14].drop 1).take (Try.prog.cellsOf 29)) = [y0, y1, y2, y3, y4, y5, y6, y7][1]? := hfld 1 _ rfl
  rw [Try.cellsL] at f1
  have f2 : DataW.trod enc Try.prog W 0 (fun _ => true) true n 3 (([c0, c1, c2, c3, c4, c5, c6, c7, c8, c9, c10, c11, c12, c13, c14].drop 2).take (Try.prog.cellsOf 3)) = [y0, y1, y2, y3, y4, y5, y6, y7][2]? := hfld 2 _ rfl
  rw [Try.cellsI] at f2
  have f3 : DataW.trod enc Try.prog W 0 (fun _ => true) true n 3 (([c0, c1, c2, c3, c4, c5, c6, c7, c8, c9, c10, c11, c12, c13, c14].drop 3).take (Try.prog.cellsOf 3)) = [y0, y1, y2, y3, y4, y5, y6, y7][3]? := hfld 3 _ rfl
  rw [Try.cellsI] at f3
  have f4 : DataW.trod enc Try.prog W 0 (fun _ => true) true n 3 (([c0, c1, c2, c3, c4, c5, c6, c7, c8, c9, c10, c11, c12, c13, c14].drop 4).take (Try.prog.cellsOf 3)) = [y0, y1, y2, y3, y4, y5, y6, y7][4]? := hfld 4 _ rfl
  rw [Try.cellsI] at f4
  have f5 : DataW.trod enc Try.prog W 0 (fun _ => true) true n 9 (([c0, c1, c2, c3, c4, c5, c6, c7, c8, c9, c10, c11, c12, c13, c14].drop 5).take (Try.prog.cellsOf 9)) = [y0, y1, y2, y3, y4, y5, y6, y7][5]? := hfld 5 _ rfl
  rw [Try.cellsS] at f5
  have f6 : DataW.trod enc Try.prog W 0 (fun _ => true) true n 32 (([c0, c1, c2, c3, c4, c5, c6, c7, c8, c9, c10, c11, c12, c13, c14].drop 6).take (Try.prog.cellsOf 32)) = [y0, y1, y2, y3, y4, y5, y6, y7][6]? := hfld 6 _ rfl
  rw [Try.cellsC] at f6
  have f7 : DataW.trod enc Try.prog W 0 (fun _ => true) true n 34 (([c0, c1, c2, c3, c4, c5, c6, c7, c8, c9, c10, c11, c12, c13, c14].drop 11).take (Try.prog.cellsOf 34)) = [y0, y1, y2, y3, y4, y5, y6, y7][7]? := hfld 7 _ rfl
  rw [Try.cellsR] at f7
  obtain ⟨z0, e0, _, s0⟩ := DataW.trod_int Try.underlying3 f0
  simp at e0
  subst e0
  obtain ⟨z1a, z1n, z1c, e1, s1⟩ := in_ints0 f1
  simp at e1
  subst e1
  obtain ⟨z2, e2, _, s2⟩ := DataW.trod_int Try.underlying3 f2
  simp at e2
  subst e2
  obtain ⟨z3, e3, _, s3⟩ := DataW.trod_int Try.underlying3 f3
  simp at e3
  subst e3
  obtain ⟨z4, e4, _, s4⟩ := DataW.trod_int Try.underlying3 f4
  simp at e4
  subst e4
  obtain ⟨z5, e5, _, s5⟩ := DataW.trod_string Try.underlying9 f5
  simp at e5
  subst e5
  obtain ⟨z6a, z6b, z6c, z6d, z6e, e6, s6⟩ := in_cut f6
  simp at e6
  obtain ⟨rfl, rfl, rfl, rfl, rfl⟩ := e6
  obtain ⟨z7a, z7b, z7c, z7d, e7, s7⟩ := in_rul f7
  simp at e7
  obtain ⟨rfl, rfl, rfl, rfl⟩ := e7
  exact ⟨(⟨z0, s1.2.2.choose, z2, z3, z4, z5, z6a, z6b, z6c, z6d, z6e, z7a, z7b, z7c, z7d⟩, ⟨z1a, z1n, z1c⟩), rfl, s1.2.2.choose_spec, s1.1, s1.2.1, s5⟩
set_option maxRecDepth 20000 in
theorem in_chn {fuel : Nat} {cs : List Value} {x : DataW H × List MemPlace} (h : DataW.trod enc Try.prog W 0 (fun _ => true) true fuel 53 cs = some x) : ∃ x : Chn, cs = fX x ∧ x.m.name.size ≤ maxLen ∧ x.m.pub.size ≤ maxLen := by
  obtain ⟨ys, n, _, _, hcl, hyl, hfld⟩ := DataW.trod_struct Try.underlying53 h
  rw [Try.cellsX] at hcl
  obtain ⟨c0, c1, c2, c3, c4, c5, c6, c7, c8, rfl⟩ := list9 hcl
  obtain ⟨y0, y1, y2, y3, y4, rfl⟩ := ylist5 hyl
  have f0 : DataW.trod enc Try.prog W 0 (fun _ => true) true n 3 (([c0, c1, c2, c3, c4, c5, c6, c7, c8].drop 0).take (Try.prog.cellsOf 3)) = [y0, y1, y2, y3, y4][0]? := hfld 0 _ rfl
  rw [Try.cellsI] at f0
  have f1 : DataW.trod enc Try.prog W 0 (fun _ => true) true n 44 (([c0, c1, c2, c3, c4, c5, c6, c7, c8].drop 1).take (Try.prog.cellsOf 44)) = [y0, y1, y2, y3, y4][1]? := hfld 1 _ rfl
  rw [Try.cellsM] at f1
  have f2 : DataW.trod enc Try.prog W 0 (fun _ => true) true n 3 (([c0, c1, c2, c3, c4, c5, c6, c7, c8].drop 6).take (Try.prog.cellsOf 3)) = [y0, y1, y2, y3, y4][2]? := hfld 2 _ rfl
  rw [Try.cellsI] at f2
  have f3 : DataW.trod enc Try.prog W 0 (fun _ => true) true n 3 (([c0, c1, c2, c3, c4, c5, c6, c7, c8].drop 7).take (Try.prog.cellsOf 3)) = [y0, y1, y2, y3, y4][3]? := hfld 3 _ rfl
  rw [Try.cellsI] at f3
  have f4 : DataW.trod enc Try.prog W 0 (fun _ => true) true n 3 (([c0, c1, c2, c3, c4, c5, c6, c7, c8].drop 8).take (Try.prog.cellsOf 3)) = [y0, y1, y2, y3, y4][4]? := hfld 4 _ rfl
  rw [Try.cellsI] at f4
  obtain ⟨z0, e0, _, s0⟩ := DataW.trod_int Try.underlying3 f0
  simp at e0
  subst e0
  obtain ⟨z1a, e1, s1⟩ := in_mem f1
  simp at e1
  obtain ⟨rfl, rfl, rfl, rfl, rfl⟩ := e1
  obtain ⟨z2, e2, _, s2⟩ := DataW.trod_int Try.underlying3 f2
  simp at e2
  subst e2
  obtain ⟨z3, e3, _, s3⟩ := DataW.trod_int Try.underlying3 f3
  simp at e3
  subst e3
  obtain ⟨z4, e4, _, s4⟩ := DataW.trod_int Try.underlying3 f4
  simp at e4
  subst e4
  exact ⟨⟨z0, z1a, z2, z3, z4⟩, rfl, s1⟩
/-- A slice of such elements that came in. -/
theorem in_slice {α : Type} [Inhabited α] {f : α → List Value} {s : Nat} {t e : TypeId} (ht : Try.prog.underlying t = some (.slice e)) (hC : Try.prog.cellsOf e = s) (hs0 : 0 < s) (hf : ∀ x, (f x).length = s) {Pr : α → Prop}
    (hel : ∀ (fuel : Nat) (cs : List Value) (y : DataW H × List MemPlace), DataW.trod enc Try.prog W 0 (fun _ => true) true fuel e cs = some y → ∃ x, cs = f x ∧ Pr x) {fuel : Nat} {cs : List Value} {y : DataW H × List MemPlace}
    (h : DataW.trod enc Try.prog W 0 (fun _ => true) true fuel t cs = some y) : ∃ a n c xs, cs = [.slice a n c] ∧ n ≤ c ∧ c ≤ maxLen ∧ SlN f s W W.heap.size a n xs ∧ ∀ x ∈ xs, Pr x := by
  rcases open_slice ht h with ⟨rfl, _⟩ | ⟨x, l, c, m, nn, D, Pl, rfl, _, hl, hm, hmm, _, hi⟩
  · exact ⟨none, 0, 0, [], rfl, Nat.le_refl _, Nat.zero_le _, SlN.nil, fun x hx => by cases hx⟩
  · simp only [if_true] at hmm
    subst hmm
    have each : ∀ i, i < l → ∃ r : α, (∀ j v, (f r)[j]? = some v → W.cell? (x.add (i * s + j)) = some v) ∧ Pr r := by
      intro i hil
      obtain ⟨cs', hc, ht'⟩ := hi i (by omega)
      rw [hC] at hc
      obtain ⟨_, hcl, hat⟩ := World.cells?_some hc
      obtain ⟨r, rfl, hr⟩ := hel _ _ _ ht'
      refine ⟨r, fun j v hv => ?_, hr⟩
      have hj : j < s := by have := (List.getElem?_eq_some_iff.1 hv).1; rw [hf] at this; exact this
      rw [← Go.Deep.add_add, hat j hj]
      exact hv
    obtain ⟨R, hR⟩ := choose_lt each
    refine ⟨some x, l, _, (List.range l).map R, rfl, hl, hm, ⟨by simp, fun hn => ?_⟩, fun z hz => ?_⟩
    · simp at hn
      obtain ⟨u, hu⟩ : ∃ u, (f (R 0))[0]? = some u := ⟨_, List.getElem?_eq_getElem (by rw [hf]; exact hs0)⟩
      have h0 := (hR 0 hn).1 0 u hu
      obtain ⟨b, off, spot⟩ := x
      have hspot : spot = none := by simpa [Addr.add] using World.cell?_spot h0
      subst hspot
      refine ⟨b, off, rfl, block_lt_of_cell (a := ⟨b, off, none⟩) (by simpa [Addr.add] using h0), fun i z hz' j v hv => ?_⟩
      rw [List.getElem?_map] at hz'
      have hil : i < l := by
        rcases Nat.lt_or_ge i l with h | h
        · exact h
        · rw [List.getElem?_eq_none (by simpa using h)] at hz'; cases hz'
      rw [List.getElem?_range hil] at hz'
      cases hz'
      have := (hR i hil).1 j v hv
      rw [Addr.add_mid] at this
      exact this
    · obtain ⟨i, hi', rfl⟩ := List.mem_map.1 hz
      exact (hR i (List.mem_range.1 hi')).2
/-- The setting that came in. -/
structure InSet (W : World) (A : Option Addr) (n c : Nat) (A' : Option Addr) (n' c' : Nat) (A'' : Option Addr) (n'' c'' : Nat) (ms : List Mem) (ps : List VP) (xs : List Chn) : Prop where
  fms : SlN fM 5 W W.heap.size A n ms
  cap : n ≤ c
  sz : ∀ m ∈ ms, m.name.size ≤ maxLen ∧ m.pub.size ≤ maxLen
  fvs : SlN fP 15 W W.heap.size A' n' ps
  vk : ∀ p ∈ ps, VOk W p
  fxs : SlN fX 9 W W.heap.size A'' n'' xs
  xz : ∀ x ∈ xs, x.m.name.size ≤ maxLen ∧ x.m.pub.size ≤ maxLen
set_option maxRecDepth 20000 in
theorem in_set {r : Reach} {b0 : Nat} {v : Value} (hv : Value.okWide Try.prog W r b0 26 v) (h : DataW.Trod enc Try.prog W 0 (fun _ => true) true 26 v d p) :
    ∃ A n c A' n' c' q A'' n'' c'' ms ps xs, v = aSet A n c A' n' c' q A'' n'' c'' ∧ InSet W A n c A' n' c' A'' n'' c'' ms ps xs := by
  obtain ⟨v0, v1, v2, v3, y0, y1, y2, y3, m, rfl, _, _, h0, h1, h2, h3⟩ := Go.Joins.open_agg4 Try.underlying26 (by kernel_rfl) (by kernel_rfl) hv h
  obtain ⟨A, n, c, ms, e0, hc, _, hms, hmz⟩ := in_slice (f := fM) (s := 5) (Pr := fun m : Mem => m.name.size ≤ maxLen ∧ m.pub.size ≤ maxLen) Try.underlying22 Try.cellsM (by decide) fM_len (fun _ _ _ h => in_mem h) h0
  obtain ⟨A', n', c', ps, e1, hc', _, hps, hvk⟩ := in_slice (f := fP) (s := 15) (Pr := VOk W) Try.underlying23 Try.cellsV (by decide) fP_len (fun _ _ _ h => in_vlt h) h1
  obtain ⟨q, e2, _⟩ := DataW.trod_int Try.underlying3 h2
  obtain ⟨A'', n'', c'', xs, e3, _, _, hxs, hxz⟩ := in_slice (f := fX) (s := 9) (Pr := fun x : Chn => x.m.name.size ≤ maxLen ∧ x.m.pub.size ≤ maxLen) Try.underlying24 Try.cellsX (by decide) fX_len (fun _ _ _ h => in_chn h) h3
  simp only [List.cons.injEq, and_true] at e0 e1 e2 e3
  subst e0 e1 e2 e3
  exact ⟨A, n, c, A', n', c', q, A'', n'', c'', ms, ps, xs, rfl, hms, hc, hmz, hps, hvk, hxs, hxz⟩
end
end Go.Proofs.Ytkeicjokekmkpaa
