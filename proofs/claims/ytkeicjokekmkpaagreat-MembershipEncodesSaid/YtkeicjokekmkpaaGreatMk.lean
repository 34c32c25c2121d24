/- The argument opened. awake: the chapter's examples hold. built. The encoding of a circle, plainly. Decoding a circle, plainly: what Decode computes; only encodings are decoded; what was encoded is decoded. Decoding a whole circle, plainly: only encodings are decoded; what was encoded is decoded. -/
import Derived.Test.YtkeicjokekmkpaaGreatMj
import Derived.Lib.SmallJoins
import Derived.Test.YtkeicjokekmkpaaGreatRows
import Derived.WalkKit
import Derived.ProofKit
import Derived.OpenShut
import Derived.ChangeOld
import Derived.Below
import Derived.Deep.Slices
import Derived.Deep.Fields
import Derived.Test.YtkeicjokekmkpaaGreatEx
import Derived.Test.YtkeicjokekmkpaaGreatMf
import Derived.Test.YtkeicjokekmkpaaGreatMl
namespace Go.Proofs.YtkeicjokekmkpaaGreat
open Go.ChangeShapes Go.WideShapes Go.ChangeAt Go.RowKit Go.Deep Mb
set_option linter.unusedVariables false
set_option linter.unusedSimpArgs false

theorem Tryz.cellsI : Tryz.prog.cellsOf 3 = 1 := by kernel_rfl
theorem Tryz.cellsU : Tryz.prog.cellsOf 62 = 1 := by kernel_rfl
theorem Tryz.cellsS : Tryz.prog.cellsOf 9 = 1 := by kernel_rfl
theorem Tryz.cellsB : Tryz.prog.cellsOf 4 = 1 := by kernel_rfl
theorem Tryz.cellsL : Tryz.prog.cellsOf 49 = 1 := by kernel_rfl
theorem Tryz.cellsM : Tryz.prog.cellsOf 40 = 5 := by kernel_rfl
theorem Tryz.cellsV : Tryz.prog.cellsOf 68 = 15 := by kernel_rfl
theorem Tryz.cellsX : Tryz.prog.cellsOf 42 = 9 := by kernel_rfl
theorem Tryz.cellsC : Tryz.prog.cellsOf 64 = 5 := by kernel_rfl
theorem Tryz.cellsR : Tryz.prog.cellsOf 66 = 4 := by kernel_rfl
instance : Inhabited Mem := ⟨⟨0, ⟨#[]⟩, ⟨#[]⟩, 0, false⟩⟩
instance : Inhabited Vlt := ⟨⟨0, [], 0, 0, 0, ⟨#[]⟩, 0, 0, 0, 0, 0, 0, 0, 0, 0⟩⟩
instance : Inhabited Hd := ⟨⟨none, 0, 0⟩⟩
instance : Inhabited Chn := ⟨⟨0, ⟨0, ⟨#[]⟩, ⟨#[]⟩, 0, false⟩, 0, 0, 0⟩⟩
abbrev fX (x : Chn) : List Value := [.int .i64 x.kind, .int .i64 x.m.dev, .string x.m.name, .string x.m.pub, .int .i64 x.m.quota, .bool x.m.exp, .int .i64 x.v, .int .i64 x.a, .int .i64 x.b]
theorem fX_len : ∀ x, (fX x).length = 9 := fun _ => rfl
theorem fX_one : ∀ x, ∀ u ∈ fX x, u.oneCell' = true := fun x u hu => by
  simp only [fX, List.mem_cons, List.not_mem_nil, or_false] at hu
  rcases hu with rfl | rfl | rfl | rfl | rfl | rfl | rfl | rfl | rfl <;> rfl
theorem list4 {l : List Value} (h : l.length = 4) : ∃ c0 c1 c2 c3, l = [c0, c1, c2, c3] := by
  match l, h with
  | [c0, c1, c2, c3], _ => exact ⟨c0, c1, c2, c3, rfl⟩
theorem list5 {l : List Value} (h : l.length = 5) : ∃ c0 c1 c2 c3 c4, l = [c0, c1, c2, c3, c4] := by
  match l, h with
  | [c0, c1, c2, c3, c4], _ => exact ⟨c0, c1, c2, c3, c4, rfl⟩
theorem list9 {l : List Value} (h : l.length = 9) : ∃ c0 c1 c2 c3 c4 c5 c6 c7 c8, l = [c0, c1, c2, c3, c4, c5, c6, c7, c8] := by
  match l, h with
  | [c0, c1, c2, c3, c4, c5, c6, c7, c8], _ => exact ⟨c0, c1, c2, c3, c4, c5, c6, c7, c8, rfl⟩
theorem list15 {l : List Value} (h : l.length = 15) : ∃ c0 c1 c2 c3 c4 c5 c6 c7 c8 c9 c10 c11 c12 c13 c14, l = [c0, c1, c2, c3, c4, c5, c6, c7, c8, c9, c10, c11, c12, c13, c14] := by
  match l, h with
  | [c0, c1, c2, c3, c4, c5, c6, c7, c8, c9, c10, c11, c12, c13, c14], _ => exact ⟨c0, c1, c2, c3, c4, c5, c6, c7, c8, c9, c10, c11, c12, c13, c14, rfl⟩
theorem ylist4 {α : Type} {l : List α} (h : l.length = 4) : ∃ y0 y1 y2 y3, l = [y0, y1, y2, y3] := by
  match l, h with
  | [y0, y1, y2, y3], _ => exact ⟨y0, y1, y2, y3, rfl⟩
theorem ylist5 {α : Type} {l : List α} (h : l.length = 5) : ∃ y0 y1 y2 y3 y4, l = [y0, y1, y2, y3, y4] := by
  match l, h with
  | [y0, y1, y2, y3, y4], _ => exact ⟨y0, y1, y2, y3, y4, rfl⟩
theorem ylist8 {α : Type} {l : List α} (h : l.length = 8) : ∃ y0 y1 y2 y3 y4 y5 y6 y7, l = [y0, y1, y2, y3, y4, y5, y6, y7] := by
  match l, h with
  | [y0, y1, y2, y3, y4, y5, y6, y7], _ => exact ⟨y0, y1, y2, y3, y4, y5, y6, y7, rfl⟩
section
variable {H : Type} {enc : TypeId × Value → H} {W : World} {d : DataW H} {p : List MemPlace}
/-- A slice of integers that came in. -/
theorem in_ints0 {fuel : Nat} {cs : List Value} {x : DataW H × List MemPlace} (h : DataW.trod enc Tryz.prog W 0 (fun _ => true) true fuel 49 cs = some x) : ∃ a n c, cs = [.slice a n c] ∧ n ≤ c ∧ c ≤ maxLen ∧ ∃ xs, Sl I W W.heap.size a n xs := by
  rcases open_ints Tryz.underlying49 Tryz.underlying3 Tryz.cellsI h with ⟨rfl, _⟩ | ⟨x, l, c, zs, rfl, _, hl, hm, hz, _, hcell, hwz⟩
  · exact ⟨none, 0, 0, rfl, Nat.le_refl _, Nat.zero_le _, [], rfl, SL.nil⟩
  · refine ⟨some x, l, c, rfl, hl, hm, zs.take l, ?_, fun hn => ?_⟩
    · simp only [if_true] at hz
      rw [List.length_take]; omega
    · simp only [if_true] at hz
      rw [List.length_take] at hn
      have h0 := hcell 0 (by omega)
      obtain ⟨b, off, spot⟩ := x
      have hspot : spot = none := by simpa [Addr.add] using World.cell?_spot h0
      subst hspot
      refine ⟨b, off, rfl, block_lt_of_cell (a := ⟨b, off, none⟩) (by simpa [Addr.add] using h0), fun i z hz' => ?_⟩
      have hi : i < l := by have := (List.getElem?_eq_some_iff.1 hz').1; rw [List.length_take] at this; omega
      have := hcell i (by omega)
      rw [Addr.add_mid] at this
      rw [this]
      rw [List.getElem?_take, if_pos hi] at hz'
      rw [getD_of hz']
set_option maxRecDepth 20000 in
theorem in_mem {fuel : Nat} {cs : List Value} {x : DataW H × List MemPlace} (h : DataW.trod enc Tryz.prog W 0 (fun _ => true) true fuel 40 cs = some x) : ∃ m : Mem, cs = fM m ∧ m.name.size ≤ maxLen ∧ m.pub.size ≤ maxLen := by
  obtain ⟨ys, n, _, _, hcl, hyl, hfld⟩ := DataW.trod_struct Tryz.underlying40 h
  rw [Tryz.cellsM] at hcl
  obtain ⟨c0, c1, c2, c3, c4, rfl⟩ := list5 hcl
  obtain ⟨y0, y1, y2, y3, y4, rfl⟩ := ylist5 hyl
  have f0 : DataW.trod enc Tryz.prog W 0 (fun _ => true) true n 3 (([c0, c1, c2, c3, c4].drop 0).take (Tryz.prog.cellsOf 3)) = [y0, y1, y2, y3, y4][0]? := hfld 0 _ rfl
  rw [Tryz.cellsI] at f0
  have f1 : DataW.trod enc Tryz.prog W 0 (fun _ => true) true n 9 (([c0, c1, c2, c3, c4].drop 1).take (Tryz.prog.cellsOf 9)) = [y0, y1, y2, y3, y4][1]? := hfld 1 _ rfl
  rw [Tryz.cellsS] at f1
  have f2 : DataW.trod enc Tryz.prog W 0 (fun _ => true) true n 9 (([c0, c1, c2, c3, c4].drop 2).take (Tryz.prog.cellsOf 9)) = [y0, y1, y2, y3, y4][2]? := hfld 2 _ rfl
  rw [Tryz.cellsS] at f2
  have f3 : DataW.trod enc Tryz.prog W 0 (fun _ => true) true n 3 (([c0, c1, c2, c3, c4].drop 3).take (Tryz.prog.cellsOf 3)) = [y0, y1, y2, y3, y4][3]? := hfld 3 _ rfl
  rw [Tryz.cellsI] at f3
  have f4 : DataW.trod enc Tryz.prog W 0 (fun _ => true) true n 4 (([c0, c1, c2, c3, c4].drop 4).take (Tryz.prog.cellsOf 4)) = [y0, y1, y2, y3, y4][4]? := hfld 4 _ rfl
  rw [Tryz.cellsB] at f4
  obtain ⟨z0, e0, _, s0⟩ := DataW.trod_int Tryz.underlying3 f0
  simp at e0
  subst e0
  obtain ⟨z1, e1, _, s1⟩ := DataW.trod_string Tryz.underlying9 f1
  simp at e1
  subst e1
  obtain ⟨z2, e2, _, s2⟩ := DataW.trod_string Tryz.underlying9 f2
  simp at e2
  subst e2
  obtain ⟨z3, e3, _, s3⟩ := DataW.trod_int Tryz.underlying3 f3
  simp at e3
  subst e3
  obtain ⟨z4, e4, _⟩ := DataW.trod_bool Tryz.underlying4 f4
  simp at e4
  subst e4
  exact ⟨⟨z0, z1, z2, z3, z4⟩, rfl, s1, s2⟩
set_option maxRecDepth 20000 in
theorem in_cut {fuel : Nat} {cs : List Value} {x : DataW H × List MemPlace} (h : DataW.trod enc Tryz.prog W 0 (fun _ => true) true fuel 64 cs = some x) : ∃ a b c d e : Int, cs = [.int .i64 a, .int .i64 b, .int .i64 c, .int .i64 d, .int .u64 e] ∧ True := by
  obtain ⟨ys, n, _, _, hcl, hyl, hfld⟩ := DataW.trod_struct Tryz.underlying64 h
  rw [Tryz.cellsC] at hcl
  obtain ⟨c0, c1, c2, c3, c4, rfl⟩ := list5 hcl
  obtain ⟨y0, y1, y2, y3, y4, rfl⟩ := ylist5 hyl
  have f0 : DataW.trod enc Tryz.prog W 0 (fun _ => true) true n 3 (([c0, c1, c2, c3, c4].drop 0).take (Tryz.prog.cellsOf 3)) = [y0, y1, y2, y3, y4][0]? := hfld 0 _ rfl
  rw [Tryz.cellsI] at f0
  have f1 : DataW.trod enc Tryz.prog W 0 (fun _ => true) true n 3 (([c0, c1, c2, c3, c4].drop 1).take (Tryz.prog.cellsOf 3)) = [y0, y1, y2, y3, y4][1]? := hfld 1 _ rfl
  rw [Tryz.cellsI] at f1
  have f2 : DataW.trod enc Tryz.prog W 0 (fun _ => true) true n 3 (([c0, c1, c2, c3, c4].drop 2).take (Tryz.prog.cellsOf 3)) = [y0, y1, y2, y3, y4][2]? := hfld 2 _ rfl
  rw [Tryz.cellsI] at f2
  have f3 : DataW.trod enc Tryz.prog W 0 (fun _ => true) true n 3 (([c0, c1, c2, c3, c4].drop 3).take (Tryz.prog.cellsOf 3)) = [y0, y1, y2, y3, y4][3]? := hfld 3 _ rfl
  rw [Tryz.cellsI] at f3
  have f4 : DataW.trod enc Tryz.prog W 0 (fun _ => true) true n 62 (([c0, c1, c2, c3, c4].drop 4).take (Tryz.prog.cellsOf 62)) = [y0, y1, y2, y3, y4][4]? := hfld 4 _ rfl
  rw [Tryz.cellsU] at f4
  obtain ⟨z0, e0, _, s0⟩ := DataW.trod_int Tryz.underlying3 f0
  simp at e0
  subst e0
  obtain ⟨z1, e1, _, s1⟩ := DataW.trod_int Tryz.underlying3 f1
  simp at e1
  subst e1
  obtain ⟨z2, e2, _, s2⟩ := DataW.trod_int Tryz.underlying3 f2
  simp at e2
  subst e2
  obtain ⟨z3, e3, _, s3⟩ := DataW.trod_int Tryz.underlying3 f3
  simp at e3
  subst e3
  obtain ⟨z4, e4, _, s4⟩ := DataW.trod_int Tryz.underlying62 f4
  simp at e4
  subst e4
  exact ⟨z0, z1, z2, z3, z4, rfl, trivial⟩
set_option maxRecDepth 20000 in
theorem in_rul {fuel : Nat} {cs : List Value} {x : DataW H × List MemPlace} (h : DataW.trod enc Tryz.prog W 0 (fun _ => true) true fuel 66 cs = some x) : ∃ a b c d : Int, cs = [.int .i64 a, .int .i64 b, .int .i64 c, .int .i64 d] ∧ True := by
  obtain ⟨ys, n, _, _, hcl, hyl, hfld⟩ := DataW.trod_struct Tryz.underlying66 h
  rw [Tryz.cellsR] at hcl
  obtain ⟨c0, c1, c2, c3, rfl⟩ := list4 hcl
  obtain ⟨y0, y1, y2, y3, rfl⟩ := ylist4 hyl
  have f0 : DataW.trod enc Tryz.prog W 0 (fun _ => true) true n 3 (([c0, c1, c2, c3].drop 0).take (Tryz.prog.cellsOf 3)) = [y0, y1, y2, y3][0]? := hfld 0 _ rfl
  rw [Tryz.cellsI] at f0
  have f1 : DataW.trod enc Tryz.prog W 0 (fun _ => true) true n 3 (([c0, c1, c2, c3].drop 1).take (Tryz.prog.cellsOf 3)) = [y0, y1, y2, y3][1]? := hfld 1 _ rfl
  rw [Tryz.cellsI] at f1
  have f2 : DataW.trod enc Tryz.prog W 0 (fun _ => true) true n 3 (([c0, c1, c2, c3].drop 2).take (Tryz.prog.cellsOf 3)) = [y0, y1, y2, y3][2]? := hfld 2 _ rfl
  rw [Tryz.cellsI] at f2
  have f3 : DataW.trod enc Tryz.prog W 0 (fun _ => true) true n 3 (([c0, c1, c2, c3].drop 3).take (Tryz.prog.cellsOf 3)) = [y0, y1, y2, y3][3]? := hfld 3 _ rfl
  rw [Tryz.cellsI] at f3
  obtain ⟨z0, e0, _, s0⟩ := DataW.trod_int Tryz.underlying3 f0
  simp at e0
  subst e0
  obtain ⟨z1, e1, _, s1⟩ := DataW.trod_int Tryz.underlying3 f1
  simp at e1
  subst e1
  obtain ⟨z2, e2, _, s2⟩ := DataW.trod_int Tryz.underlying3 f2
  simp at e2
  subst e2
  obtain ⟨z3, e3, _, s3⟩ := DataW.trod_int Tryz.underlying3 f3
  simp at e3
  subst e3
  exact ⟨z0, z1, z2, z3, rfl, trivial⟩
/-- What is known of a vault that came in. -/
def VOk (W : World) (p : VP) : Prop := Sl I W W.heap.size p.2.a p.2.n p.1.ws ∧ p.2.n ≤ p.2.c ∧ p.2.c ≤ maxLen ∧ p.1.print.size ≤ maxLen
set_option maxRecDepth 20000 in
theorem in_vlt {fuel : Nat} {cs : List Value} {x : DataW H × List MemPlace} (h : DataW.trod enc Tryz.prog W 0 (fun _ => true) true fuel 68 cs = some x) : ∃ p : VP, cs = fP p ∧ VOk W p := by
  obtain ⟨ys, n, _, _, hcl, hyl, hfld⟩ := DataW.trod_struct Tryz.underlying68 h
  rw [Tryz.cellsV] at hcl
  obtain ⟨c0, c1, c2, c3, c4, c5, c6, c7, c8, c9, c10, c11, c12, c13, c14, rfl⟩ := list15 hcl
  obtain ⟨y0, y1, y2, y3, y4, y5, y6, y7, rfl⟩ := ylist8 hyl
  have f0 : DataW.trod enc Tryz.prog W 0 (fun _ => true) true n 3 (([c0, c1, c2, c3, c4, c5, c6, c7, c8, c9, c10, c11, c12, c13, c14].drop 0).take (Tryz.prog.cellsOf 3)) = [y0, y1, y2, y3, y4, y5, y6, y7][0]? := hfld 0 _ rfl
  rw [Tryz.cellsI] at f0
  have f1 : DataW.trod enc Tryz.prog W 0 (fun _ => true) true n 49 (([c0, c1, c2, c3, c4, c5, c6, c7, c8, c9, c10, c11, c12, c13, c14].drop 1).take (Tryz.prog.cellsOf 49)) = [y0, y1, y2, y3, y4, y5, y6, y7][1]? := hfld 1 _ rfl
  rw [Tryz.cellsL] at f1
  have f2 : DataW.trod enc Tryz.prog W 0 (fun _ => true) true n 3 (([c0, c1, c2, c3, c4, c5, c6, c7, c8, c9, c10, c11, c12, c13, c14].drop 2).take (Tryz.prog.cellsOf 3)) = [y0, y1, y2, y3, y4, y5, y6, y7][2]? := hfld 2 _ rfl
  rw [Tryz.cellsI] at f2
  have f3 : DataW.trod enc Tryz.prog W 0 (fun _ => true) true n 3 (([c0, c1, c2, c3, c4, c5, c6, c7, c8, c9, c10, c11, c12, c13, c14].drop 3).take (Tryz.prog.cellsOf 3)) = [y0, y1, y2, y3, y4, y5, y6, y7][3]? := hfld 3 _ rfl
  rw [Tryz.cellsI] at f3
  have f4 : DataW.trod enc Tryz.prog W 0 (fun _ => true) true n 3 (([c0, c1, c2, c3, c4, c5, c6, c7, c8, c9, c10, c11, c12, c13, c14].drop 4).take (Tryz.prog.cellsOf 3)) = [y0, y1, y2, y3, y4, y5, y6, y7][4]? := hfld 4 _ rfl
  rw [Tryz.cellsI] at f4
  have f5 : DataW.trod enc Tryz.prog W 0 (fun _ => true) true n 9 (([c0, c1, c2, c3, c4, c5, c6, c7, c8, c9, c10, c11, c12, c13, c14].drop 5).take (Tryz.prog.cellsOf 9)) = [y0, y1, y2, y3, y4, y5, y6, y7][5]? := hfld 5 _ rfl
  rw [Tryz.cellsS] at f5
  have f6 : DataW.trod enc Tryz.prog W 0 (fun _ => true) true n 64 (([c0, c1, c2, c3, c4, c5, c6, c7, c8, c9, c10, c11, c12, c13, c14].drop 6).take (Tryz.prog.cellsOf 64)) = [y0, y1, y2, y3, y4, y5, y6, y7][6]? := hfld 6 _ rfl
  rw [Tryz.cellsC] at f6
  have f7 : DataW.trod enc Tryz.prog W 0 (fun _ => true) true n 66 (([c0, c1, c2, c3, c4, c5, c6, c7, c8, c9, c10, c11, c12, c13, c14].drop 11).take (Tryz.prog.cellsOf 66)) = [y0, y1, y2, y3, y4, y5, y6, y7][7]? := hfld 7 _ rfl
  rw [Tryz.cellsR] at f7
  obtain ⟨z0, e0, _, s0⟩ := DataW.trod_int Tryz.underlying3 f0
  simp at e0
  subst e0
  obtain ⟨z1a, z1n, z1c, e1, s1⟩ := in_ints0 f1
  simp at e1
  subst e1
  obtain ⟨z2, e2, _, s2⟩ := DataW.trod_int Tryz.underlying3 f2
  simp at e2
  subst e2
  obtain ⟨z3, e3, _, s3⟩ := DataW.trod_int Tryz.underlying3 f3
  simp at e3
  subst e3
  obtain ⟨z4, e4, _, s4⟩ := DataW.trod_int Tryz.underlying3 f4
  simp at e4
  subst e4
  obtain ⟨z5, e5, _, s5⟩ := DataW.trod_string Tryz.underlying9 f5
  simp at e5
  subst e5
  obtain ⟨z6a, z6b, z6c, z6d, z6e, e6, s6⟩ := in_cut f6
  simp at e6
  obtain ⟨rfl, rfl, rfl, rfl, rfl⟩ := e6
  obtain ⟨z7a, z7b, z7c, z7d, e7, s7⟩ := in_rul f7
  simp at e7
  obtain ⟨rfl, rfl, rfl, rfl⟩ := e7
  exact ⟨(⟨z0, s1.2.2.choose, z2, z3, z4, z5, z6a, z6b, z6c, z6d, z6e, z7a, z7b, z7c, z7d⟩, ⟨z1a, z1n, z1c⟩), rfl, s1.2.2.choose_spec, s1.1, s1.2.1, s5⟩
set_option maxRecDepth 20000 in
theorem in_chn {fuel : Nat} {cs : List Value} {x : DataW H × List MemPlace} (h : DataW.trod enc Tryz.prog W 0 (fun _ => true) true fuel 42 cs = some x) : ∃ x : Chn, cs = fX x ∧ x.m.name.size ≤ maxLen ∧ x.m.pub.size ≤ maxLen := by
  obtain ⟨ys, n, _, _, hcl, hyl, hfld⟩ := DataW.trod_struct Tryz.underlying42 h
  rw [Tryz.cellsX] at hcl
  obtain ⟨c0, c1, c2, c3, c4, c5, c6, c7, c8, rfl⟩ := list9 hcl
  obtain ⟨y0, y1, y2, y3, y4, rfl⟩ := ylist5 hyl
  have f0 : DataW.trod enc Tryz.prog W 0 (fun _ => true) true n 3 (([c0, c1, c2, c3, c4, c5, c6, c7, c8].drop 0).take (Tryz.prog.cellsOf 3)) = [y0, y1, y2, y3, y4][0]? := hfld 0 _ rfl
  rw [Tryz.cellsI] at f0
  have f1 : DataW.trod enc Tryz.prog W 0 (fun _ => true) true n 40 (([c0, c1, c2, c3, c4, c5, c6, c7, c8].drop 1).take (Tryz.prog.cellsOf 40)) = [y0, y1, y2, y3, y4][1]? := hfld 1 _ rfl
  rw [Tryz.cellsM] at f1
  have f2 : DataW.trod enc Tryz.prog W 0 (fun _ => true) true n 3 (([c0, c1, c2, c3, c4, c5, c6, c7, c8].drop 6).take (Tryz.prog.cellsOf 3)) = [y0, y1, y2, y3, y4][2]? := hfld 2 _ rfl
  rw [Tryz.cellsI] at f2
  have f3 : DataW.trod enc Tryz.prog W 0 (fun _ => true) true n 3 (([c0, c1, c2, c3, c4, c5, c6, c7, c8].drop 7).take (Tryz.prog.cellsOf 3)) = [y0, y1, y2, y3, y4][3]? := hfld 3 _ rfl
  rw [Tryz.cellsI] at f3
  have f4 : DataW.trod enc Tryz.prog W 0 (fun _ => true) true n 3 (([c0, c1, c2, c3, c4, c5, c6, c7, c8].drop 8).take (Tryz.prog.cellsOf 3)) = [y0, y1, y2, y3, y4][4]? := hfld 4 _ rfl
  rw [Tryz.cellsI] at f4
  obtain ⟨z0, e0, _, s0⟩ := DataW.trod_int Tryz.underlying3 f0
  simp at e0
  subst e0
  obtain ⟨z1a, e1, s1⟩ := in_mem f1
  simp at e1
  obtain ⟨rfl, rfl, rfl, rfl, rfl⟩ := e1
  obtain ⟨z2, e2, _, s2⟩ := DataW.trod_int Tryz.underlying3 f2
  simp at e2
  subst e2
  obtain ⟨z3, e3, _, s3⟩ := DataW.trod_int Tryz.underlying3 f3
  simp at e3
  subst e3
  obtain ⟨z4, e4, _, s4⟩ := DataW.trod_int Tryz.underlying3 f4
  simp at e4
  subst e4
  exact ⟨⟨z0, z1a, z2, z3, z4⟩, rfl, s1⟩
/-- A slice of such elements that came in. -/
theorem in_slice {α : Type} [Inhabited α] {f : α → List Value} {s : Nat} {t e : TypeId} (ht : Tryz.prog.underlying t = some (.slice e)) (hC : Tryz.prog.cellsOf e = s) (hs0 : 0 < s) (hf : ∀ x, (f x).length = s) {Pr : α → Prop}
    (hel : ∀ (fuel : Nat) (cs : List Value) (y : DataW H × List MemPlace), DataW.trod enc Tryz.prog W 0 (fun _ => true) true fuel e cs = some y → ∃ x, cs = f x ∧ Pr x) {fuel : Nat} {cs : List Value} {y : DataW H × List MemPlace}
    (h : DataW.trod enc Tryz.prog W 0 (fun _ => true) true fuel t cs = some y) : ∃ a n c xs, cs = [.slice a n c] ∧ n ≤ c ∧ c ≤ maxLen ∧ SlN f s W W.heap.size a n xs ∧ ∀ x ∈ xs, Pr x := by
  rcases open_slice ht h with ⟨rfl, _⟩ | ⟨x, l, c, m, nn, D, Pl, rfl, _, hl, hm, hmm, _, hi⟩
  · exact ⟨none, 0, 0, [], rfl, Nat.le_refl _, Nat.zero_le _, SlN.nil, fun x hx => by cases hx⟩
  · simp only [if_true] at hmm
    subst hmm
    have each : ∀ i, i < l → ∃ r : α, (∀ j v, (f r)[j]? = some v → W.cell? (x.add (i * s + j)) = some v) ∧ Pr r := by
      intro i hil
      obtain ⟨cs', hc, ht'⟩ := hi i (by omega)
      rw [hC] at hc
      obtain ⟨_, hcl, hat⟩ := World.cells?_some hc
      obtain ⟨r, rfl, hr⟩ := hel _ _ _ ht'
      refine ⟨r, fun j v hv => ?_, hr⟩
      have hj : j < s := by have := (List.getElem?_eq_some_iff.1 hv).1; rw [hf] at this; exact this
      rw [← Go.Deep.add_add, hat j hj]
      exact hv
    obtain ⟨R, hR⟩ := choose_lt each
    refine ⟨some x, l, _, (List.range l).map R, rfl, hl, hm, ⟨by simp, fun hn => ?_⟩, fun z hz => ?_⟩
    · simp at hn
      obtain ⟨u, hu⟩ : ∃ u, (f (R 0))[0]? = some u := ⟨_, List.getElem?_eq_getElem (by rw [hf]; exact hs0)⟩
      have h0 := (hR 0 hn).1 0 u hu
      obtain ⟨b, off, spot⟩ := x
      have hspot : spot = none := by simpa [Addr.add] using World.cell?_spot h0
      subst hspot
      refine ⟨b, off, rfl, block_lt_of_cell (a := ⟨b, off, none⟩) (by simpa [Addr.add] using h0), fun i z hz' j v hv => ?_⟩
      rw [List.getElem?_map] at hz'
      have hil : i < l := by
        rcases Nat.lt_or_ge i l with h | h
        · exact h
        · rw [List.getElem?_eq_none (by simpa using h)] at hz'; cases hz'
      rw [List.getElem?_range hil] at hz'
      cases hz'
      have := (hR i hil).1 j v hv
      rw [Addr.add_mid] at this
      exact this
    · obtain ⟨i, hi', rfl⟩ := List.mem_map.1 hz
      exact (hR i (List.mem_range.1 hi')).2
/-- The setting that came in. -/
structure InSet (W : World) (A : Option Addr) (n c : Nat) (A' : Option Addr) (n' c' : Nat) (A'' : Option Addr) (n'' c'' : Nat) (ms : List Mem) (ps : List VP) (xs : List Chn) : Prop where
  fms : SlN fM 5 W W.heap.size A n ms
  cap : n ≤ c
  sz : ∀ m ∈ ms, m.name.size ≤ maxLen ∧ m.pub.size ≤ maxLen
  fvs : SlN fP 15 W W.heap.size A' n' ps
  vk : ∀ p ∈ ps, VOk W p
  fxs : SlN fX 9 W W.heap.size A'' n'' xs
  xz : ∀ x ∈ xs, x.m.name.size ≤ maxLen ∧ x.m.pub.size ≤ maxLen
set_option maxRecDepth 20000 in
theorem in_set {r : Reach} {b0 : Nat} {v : Value} (hv : Value.okWide Tryz.prog W r b0 26 v) (h : DataW.Trod enc Tryz.prog W 0 (fun _ => true) true 26 v d p) :
    ∃ A n c A' n' c' q A'' n'' c'' ms ps xs, v = aSet A n c A' n' c' q A'' n'' c'' ∧ InSet W A n c A' n' c' A'' n'' c'' ms ps xs := by
  obtain ⟨v0, v1, v2, v3, y0, y1, y2, y3, m, rfl, _, _, h0, h1, h2, h3⟩ := Go.Joins.open_agg4 Tryz.underlying26 (by kernel_rfl) (by kernel_rfl) hv h
  obtain ⟨A, n, c, ms, e0, hc, _, hms, hmz⟩ := in_slice (f := fM) (s := 5) (Pr := fun m : Mem => m.name.size ≤ maxLen ∧ m.pub.size ≤ maxLen) Tryz.underlying22 Tryz.cellsM (by decide) fM_len (fun _ _ _ h => in_mem h) h0
  obtain ⟨A', n', c', ps, e1, hc', _, hps, hvk⟩ := in_slice (f := fP) (s := 15) (Pr := VOk W) Tryz.underlying23 Tryz.cellsV (by decide) fP_len (fun _ _ _ h => in_vlt h) h1
  obtain ⟨q, e2, _⟩ := DataW.trod_int Tryz.underlying3 h2
  obtain ⟨A'', n'', c'', xs, e3, _, _, hxs, hxz⟩ := in_slice (f := fX) (s := 9) (Pr := fun x : Chn => x.m.name.size ≤ maxLen ∧ x.m.pub.size ≤ maxLen) Tryz.underlying24 Tryz.cellsX (by decide) fX_len (fun _ _ _ h => in_chn h) h3
  simp only [List.cons.injEq, and_true] at e0 e1 e2 e3
  subst e0 e1 e2 e3
  exact ⟨A, n, c, A', n', c', q, A'', n'', c'', ms, ps, xs, rfl, hms, hc, hmz, hps, hvk, hxs, hxz⟩
end
end Go.Proofs.YtkeicjokekmkpaaGreat
namespace Go.Proofs.YtkeicjokekmkpaaGreat
open Go.RowKit Mb
set_option linter.unusedVariables false
set_option linter.unusedSimpArgs false

theorem active_cir (g : Nat) (lab : Nat → Nat) (S : Cst) (w : World) (hC : Cir w lab g S) (hn : S.s.ms.length ≤ 1000) :
    Calls Tryz.prog 18 #[fG g] w (OwnI (activeL S.s) w) := by
  obtain ⟨A, c, hcm, hs, _⟩ := hC.mem
  exact active_list g A _ c S.s.ms w hcm hC.lt hs hn
theorem members_cir (g : Nat) (lab : Nat → Nat) (S : Cst) (w : World) (hC : Cir w lab g S) (hn : S.s.ms.length ≤ 1000) :
    Calls Tryz.prog 45 #[fG g] w (OwnR fM 5 40 S.s.ms w) := by
  obtain ⟨A, c, hcm, hs, _⟩ := hC.mem
  exact members_any g A _ c S.s.ms w hcm hs (by omega)
theorem vaults_cir (g : Nat) (lab : Nat → Nat) (S : Cst) (w : World) (hC : Cir w lab g S) (hI : Inv S.s) :
    Calls Tryz.prog 46 #[fG g] w (CopVs S.s.vs w) := by
  obtain ⟨A, c, ps, hcv, hv, hp, hn⟩ := hC.vlt
  have h := vaults_any g A _ c ps w hcv hv (by have := hI.v12; omega) (fun p hp2 => by
    rw [hn p hp2]
    have := hI.ws3 p.1 (by rw [← hp]; exact List.mem_map_of_mem hp2)
    omega)
  rwa [hp] at h
def xS0 : Cst := ⟨⟨exMs, [exV 3], 2, []⟩, exMs, [exV 3], []⟩
def xS1 : Cst := votC xS0 1 0
def xS2 : Cst := votC xS1 2 0
def xS3 : Cst := votC xS2 0 1
def xS4 : Cst := repC xS3 0 0 3
theorem x_new4 : newE exMs [exV 4] 2 = 14 := by decide +kernel
theorem x_new3 : newE exMs [exV 3] 2 = 0 := by decide +kernel
theorem x_hol : hoL xS0.s [0] = [1, 2, 3] := by decide +kernel
theorem x_v1 : votE xS0.s 1 0 = 0 ∧ votB xS0.s 1 0 = false := by decide +kernel
theorem x_v2 : votE xS1.s 2 0 = 0 ∧ votB xS1.s 2 0 = true := by decide +kernel
theorem x_v3 : votE xS2.s 0 1 = 14 ∧ votB xS2.s 0 1 = false := by decide +kernel
theorem x_r4 : repE xS3.s 0 0 3 = 0 := by decide +kernel
theorem x_act : activeL xS4.s = [1, 2, 3] := by decide +kernel
theorem votC_inv {S : Cst} {a b : Int} (h : Inv S.s) : Inv (votC S a b).s := by
  unfold votC
  split
  · next h0 => exact votS_inv h h0
  · exact h
theorem repC_inv {S : Cst} {v a b : Int} (h : Inv S.s) : Inv (repC S v a b).s := by
  unfold repC
  split
  · next h0 => exact repS_inv h h0
  · exact h
theorem x_i0 : Inv xS0.s := newE_inv x_new3
theorem x_i1 : Inv xS1.s := votC_inv x_i0
theorem x_i2 : Inv xS2.s := votC_inv x_i1
theorem x_i3 : Inv xS3.s := votC_inv x_i2
theorem x_i4 : Inv xS4.s := repC_inv x_i3
theorem x_len : xS0.chs.length ≤ 1000 ∧ xS1.chs.length ≤ 1000 ∧ xS2.chs.length ≤ 1000 ∧ xS3.chs.length ≤ 1000 ∧ xS0.s.votes.length ≤ 1000 ∧ xS1.s.votes.length ≤ 1000 ∧ xS2.s.votes.length ≤ 1000 := by decide +kernel
set_option maxRecDepth 20000 in
set_option maxHeartbeats 4000000 in
theorem awake_any (w : World) : Calls Tryz.prog 4 #[] w (BoolB true w) := by
  go_enter Tryz.func4, Tryz.ntmps4
  go_wp2_with fail
  refine (example_any 4 w).mono ?_
  rintro e w1 (⟨h0, _⟩ | ⟨_, h, hb⟩)
  · rw [x_new4] at h0; cases h0
  rw [x_new4] at h
  subst h
  have HB1 := Lib.hid hb
  clear hb
  go_wp2_with fail
  refine (example_any 3 w1).mono ?_
  rintro e w2 (⟨_, g, lab, rfl, hC, hl, hb⟩ | ⟨h0, _⟩)
  rotate_left
  · exact absurd x_new3 h0
  have HC2 : Hid (Cir w2 lab g xS0) := hC
  have HL : Hid (∀ k, k < w.heap.size → lab k = 0) := fun k hk => hl k (Nat.lt_of_lt_of_le hk HB1.out.size)
  have HB2 : Hid (Below w.heap.size w w2) := HB1.out.trans (hb.mono HB1.out.size)
  clear hC hl hb
  go_wp2_with fail
  have hv0 : vltOf xS0.s 0 = some (exV 3) := rfl
  refine (hol_yes g lab xS0 0 (exV 3) w2 HC2.out (by decide) (by decide) hv0 (by decide)).mono ?_
  rintro e w3 ⟨v3, rfl, ho, hb⟩
  rw [show hoL xS0.s (exV 3).ws = [1, 2, 3] from x_hol] at ho
  have HC3 := Lib.hid (HC2.out.on hb)
  have HF3 : Hid (Fr w2 lab w3 lab) := Fr.of_below hb
  obtain ⟨A3, c3, rfl, _, hs3, _⟩ := ho.shape
  have HS3 : Hid (Sl I w3 w3.heap.size A3 3 [1, 2, 3]) := ⟨rfl, hs3⟩
  clear ho hb hs3 hv0
  go_wp2_with fail
  refine (sameI_any A3 (some ⟨w3.heap.size, 0, none⟩) 3 3 [1, 2, 3] [1, 2, 3] c3 3 _ (w3.heap.size + 1) (HS3.out.up ((Below.refl _ _).alloc (Nat.le_refl _) _) (Nat.le_refl _) |>.more' (Nat.le_succ _)) ⟨rfl, SL.of_block (f := I) (xs := [1, 2, 3]) (t := 3) (fr := (0, 0)) (heap_alloc_new w3 _) (Nat.lt_succ_self _)⟩ (by decide) (by decide)).mono ?_
  rintro e w4 ⟨rfl, r, h4⟩
  have hb4 : Below w3.heap.size w3 w4 := by rw [h4]; exact below_dN' ((Below.refl _ _).alloc (Nat.le_refl _) _) _
  have HC4 := Lib.hid (HC3.out.on hb4)
  have HF4 : Hid (Fr w2 lab w4 lab) := HF3.out.trans (Fr.of_below hb4)
  clear hb4 h4
  go_wp2_with fail
  refine (vote_any g lab xS0 1 0 w4 HC4.out x_i0 (Nat.le_trans x_len.1 (by decide)) (Nat.le_trans x_len.2.2.2.2.1 (by decide))).mono ?_
  rintro e w5 ⟨rfl, lab5, hC, hF⟩
  rw [x_v1.1, x_v1.2]
  unfold votR
  have HC5 : Hid (Cir w5 lab5 g xS1) := hC
  have HF5 := Lib.hid (HF4.out.trans hF)
  clear hC hF
  go_wp2_with fail
  refine (vote_any g lab5 xS1 2 0 w5 HC5.out x_i1 (Nat.le_trans x_len.2.1 (by decide)) (Nat.le_trans x_len.2.2.2.2.2.1 (by decide))).mono ?_
  rintro e w6 ⟨rfl, lab6, hC, hF⟩
  rw [x_v2.1, x_v2.2]
  unfold votR
  have HC6 : Hid (Cir w6 lab6 g xS2) := hC
  have HF6 := Lib.hid (HF5.out.trans hF)
  clear hC hF
  go_wp2_with fail
  refine (vote_any g lab6 xS2 0 1 w6 HC6.out x_i2 (Nat.le_trans x_len.2.2.1 (by decide)) (Nat.le_trans x_len.2.2.2.2.2.2 (by decide))).mono ?_
  rintro e w7 ⟨rfl, lab7, hC, hF⟩
  rw [x_v3.1, x_v3.2]
  unfold votR
  have HC7 : Hid (Cir w7 lab7 g xS3) := hC
  have HF7 := Lib.hid (HF6.out.trans hF)
  clear hC hF
  go_wp2_with fail
  refine (replace_any g lab7 xS3 0 0 3 w7 HC7.out x_i3 (Nat.le_trans x_len.2.2.2.1 (by decide))).mono ?_
  rintro e w8 ⟨rfl, lab8, hC, hF⟩
  rw [x_r4]
  have HC8 : Hid (Cir w8 lab8 g xS4) := hC
  have HF8 := Lib.hid (HF7.out.trans hF)
  clear hC hF
  go_wp2_with fail
  refine (active_cir g lab8 xS4 w8 HC8.out (Nat.le_trans x_i4.n12 (by decide))).mono ?_
  rintro e w9 ⟨v9, rfl, ho, hb⟩
  rw [x_act] at ho
  have HF9 := Lib.hid (HF8.out.trans (Fr.of_below hb))
  obtain ⟨A9, c9, rfl, _, hs9, _⟩ := ho.shape
  have HS9 : Hid (Sl I w9 w9.heap.size A9 3 [1, 2, 3]) := ⟨rfl, hs9⟩
  clear ho hb hs9
  go_wp2_with fail
  refine (sameI_any A9 (some ⟨w9.heap.size, 0, none⟩) 3 3 [1, 2, 3] [1, 2, 3] c9 3 _ (w9.heap.size + 1) (HS9.out.up ((Below.refl _ _).alloc (Nat.le_refl _) _) (Nat.le_refl _) |>.more' (Nat.le_succ _)) ⟨rfl, SL.of_block (f := I) (xs := [1, 2, 3]) (t := 3) (fr := (0, 0)) (heap_alloc_new w9 _) (Nat.lt_succ_self _)⟩ (by decide) (by decide)).mono ?_
  rintro e w10 ⟨rfl, r, h10⟩
  have hb10 : Below w9.heap.size w9 w10 := by rw [h10]; exact below_dN' ((Below.refl _ _).alloc (Nat.le_refl _) _) _
  have HF10 : Hid (Fr w2 lab w10 lab8) := HF9.out.trans (Fr.of_below hb10)
  clear hb10 h10
  go_wp2
  go_ret
  exact ⟨rfl, HB2.out.trans (HF10.out.below HB2.out.size HL.out)⟩
end Go.Proofs.YtkeicjokekmkpaaGreat
namespace Go.Proofs.YtkeicjokekmkpaaGreat
open Go.RowKit Mb
set_option linter.unusedVariables false
set_option linter.unusedSimpArgs false

/-- The circle behind changes. -/
def playsC (S : Cst) (xs : List Chn) : Cst := xs.foldl playC S
theorem playsC_snoc (S : Cst) (xs : List Chn) (x : Chn) : playsC S (xs ++ [x]) = playC (playsC S xs) x := by unfold playsC; rw [List.foldl_append]; rfl
theorem playsC_s : ∀ (S : Cst) (xs : List Chn), (playsC S xs).s = plays S.s xs
  | _, [] => rfl
  | S, x :: l => playsC_s (playC S x) l
theorem playS_q {S : St} {x : Chn} : (playS S x).q = S.q := by
  unfold playS
  split
  · split
    · rfl
    · split
      · exact votS_q
      · rfl
  · rfl
theorem plays_q : ∀ {S : St} {xs : List Chn}, (plays S xs).q = S.q
  | _, [] => rfl
  | S, x :: l => (plays_q (S := playS S x) (xs := l)).trans playS_q
theorem chgs_le (S : St) (x : Chn) : (chgs S x).length ≤ 1 := by unfold chgs; split <;> simp
theorem votes_le (S : St) (x : Chn) : (playS S x).votes.length ≤ S.votes.length + 1 := by
  unfold playS
  split
  · split
    · show S.votes.length ≤ _; omega
    · split
      · rw [votS_votes]; simp
      · show S.votes.length ≤ _; omega
  · omega
theorem playsC_chs : ∀ (S : Cst) (xs : List Chn), (playsC S xs).chs.length ≤ S.chs.length + xs.length
  | _, [] => Nat.le_refl _
  | S, x :: l => by
    have h := playsC_chs (playC S x) l
    have h1 := chgs_le S.s x
    have h2 : (playC S x).chs.length = S.chs.length + (chgs S.s x).length := by simp [playC]
    show (playsC (playC S x) l).chs.length ≤ _
    simp only [List.length_cons]
    omega
theorem playsC_votes : ∀ (S : Cst) (xs : List Chn), (playsC S xs).s.votes.length ≤ S.s.votes.length + xs.length
  | _, [] => Nat.le_refl _
  | S, x :: l => by
    have h := playsC_votes (playC S x) l
    have h1 := votes_le S.s x
    have h2 : (playC S x).s.votes.length ≤ S.s.votes.length + 1 := h1
    show (playsC (playC S x) l).s.votes.length ≤ _
    simp only [List.length_cons]
    omega
theorem playsC_inv {S : Cst} (h : Inv S.s) (xs : List Chn) : Inv (playsC S xs).s := by rw [playsC_s]; exact plays_inv h xs
/-- The circle that New makes. -/
abbrev S0 (ms : List Mem) (ps : List VP) (q : Int) : Cst := ⟨⟨ms, ps.map Prod.fst, q, []⟩, ms, ps.map Prod.fst, []⟩
section
variable {W V : World} {A A' A'' : Option Addr} {n c n' c' n'' c'' : Nat} {ms : List Mem} {ps : List VP} {xs : List Chn}
theorem maxLen_le {k : Nat} (h : k ≤ maxLen) : k ≤ 9223372036854775807 := h
theorem InSet.on (h : InSet W A n c A' n' c' A'' n'' c'' ms ps xs) (hb : Below W.heap.size W V) : InSet V A n c A' n' c' A'' n'' c'' ms ps xs :=
  ⟨(h.fms.up hb (Nat.le_refl _)).more hb.size, h.cap, h.sz, (h.fvs.up hb (Nat.le_refl _)).more hb.size, fun p hp => ⟨((h.vk p hp).1.up hb (Nat.le_refl _)).more' hb.size, (h.vk p hp).2⟩, (h.fxs.up hb (Nat.le_refl _)).more hb.size, h.xz⟩
theorem new_set (q : Int) (h : InSet V A n c A' n' c' A'' n'' c'' ms ps xs) : Calls Tryz.prog 19 #[.slice A n c, .slice A' n' c', .int .i64 q] V (NewP ms (ps.map Prod.fst) q V) :=
  new_any A A' n n' c c' q ms ps V h.cap h.fms (fun m hm => h.sz m hm) ⟨h.fvs, fun p hp => (h.vk p hp).1⟩ (fun p hp => ⟨Nat.le_trans (h.vk p hp).2.1 (h.vk p hp).2.2.1, (h.vk p hp).2.2.2⟩)
end
/-- The nine cells of a change in a row. -/
theorem nine {w : World} {b off k : Nat} {x : Chn} (h : ∀ j v, (fX x)[j]? = some v → w.cell? ⟨b, off + (k * 9 + j), none⟩ = some v) :
    w.cell? ⟨b, off + k * 9, none⟩ = some (.int .i64 x.kind) ∧ w.cell? ⟨b, off + k * 9 + 1, none⟩ = some (.int .i64 x.m.dev) ∧ w.cell? ⟨b, off + k * 9 + 2, none⟩ = some (.string x.m.name) ∧ w.cell? ⟨b, off + k * 9 + 3, none⟩ = some (.string x.m.pub) ∧ w.cell? ⟨b, off + k * 9 + 4, none⟩ = some (.int .i64 x.m.quota) ∧ w.cell? ⟨b, off + k * 9 + 5, none⟩ = some (.bool x.m.exp) ∧ w.cell? ⟨b, off + k * 9 + 6, none⟩ = some (.int .i64 x.v) ∧ w.cell? ⟨b, off + k * 9 + 7, none⟩ = some (.int .i64 x.a) ∧ w.cell? ⟨b, off + k * 9 + 8, none⟩ = some (.int .i64 x.b) := by
  refine ⟨?_, ?_, ?_, ?_, ?_, ?_, ?_, ?_, ?_⟩
  · exact h 0 _ rfl
  · rw [Nat.add_assoc]; exact h 1 _ rfl
  · rw [Nat.add_assoc]; exact h 2 _ rfl
  · rw [Nat.add_assoc]; exact h 3 _ rfl
  · rw [Nat.add_assoc]; exact h 4 _ rfl
  · rw [Nat.add_assoc]; exact h 5 _ rfl
  · rw [Nat.add_assoc]; exact h 6 _ rfl
  · rw [Nat.add_assoc]; exact h 7 _ rfl
  · rw [Nat.add_assoc]; exact h 8 _ rfl
abbrev oSet (A : Option Addr) (n c : Nat) (A' : Option Addr) (n' c' : Nat) (q : Int) (A'' : Option Addr) (n'' c'' : Nat) : Obj := .cells #[.slice A n c, .slice A' n' c', .int .i64 q, .slice A'' n'' c''] 26
theorem four_of {w : World} {b : Nat} {A A' A'' : Option Addr} {n c n' c' n'' c'' : Nat} {q : Int} (h : w.heap[b]? = some (oSet A n c A' n' c' q A'' n'' c'')) :
    w.cell? ⟨b, 0, none⟩ = some (.slice A n c) ∧ w.cell? ⟨b, 1, none⟩ = some (.slice A' n' c') ∧ w.cell? ⟨b, 2, none⟩ = some (.int .i64 q) ∧ w.cell? ⟨b, 3, none⟩ = some (.slice A'' n'' c'') := by
  refine ⟨?_, ?_, ?_, ?_⟩ <;> (rw [cell_of_row w b _ _ _ _ h]; rfl)
/-- What built does. -/
def BuiltP (ms : List Mem) (ps : List VP) (q : Int) (xs : List Chn) (w : World) (e : Ending) (w' : World) : Prop :=
  (newE ms (ps.map Prod.fst) q = 0 ∧ ∃ g lab, e = .returned (.tuple #[fG g, .bool true]) ∧ Cir w' lab g (playsC (S0 ms ps q) xs) ∧ (∀ k, k < w.heap.size → lab k = 0) ∧ Below w.heap.size w w') ∨
  (newE ms (ps.map Prod.fst) q ≠ 0 ∧ e = .returned (.tuple #[.pointer none, .bool false]) ∧ Below w.heap.size w w')
set_option maxRecDepth 20000 in
set_option maxHeartbeats 4000000 in
theorem built_any (A : Option Addr) (n c : Nat) (A' : Option Addr) (n' c' : Nat) (q : Int) (A'' : Option Addr) (n'' c'' : Nat) (ms : List Mem) (ps : List VP) (xs : List Chn) (w : World) (hx : InSet w A n c A' n' c' A'' n'' c'' ms ps xs) (hn : n'' ≤ 40) :
    Calls Tryz.prog 6 #[aSet A n c A' n' c' q A'' n'' c''] w (BuiltP ms ps q xs w) := by
  obtain ⟨W, hW⟩ : ∃ W : World, W = w.alloc (oSet A n c A' n' c' q A'' n'' c'') := ⟨_, rfl⟩
  have hB : Below w.heap.size w W := by rw [hW]; exact (Below.refl _ _).alloc (Nat.le_refl _) _
  have hG : W.heap[w.heap.size]? = some (oSet A n c A' n' c' q A'' n'' c'') := by rw [hW]; exact heap_alloc_new w _
  have HN := Lib.hid (new_set q (hx.on hB))
  have HX := Lib.hid hx
  have HB := Lib.hid hB
  have HG := Lib.hid hG
  have HW := Lib.hid hW
  clear hx hB hG hW
  go_enter Tryz.func6, Tryz.ntmps6
  go_wp2_with fail
  refine (show Calls Tryz.prog 19 _ _ (NewP ms (ps.map Prod.fst) q W) from HW.out ▸ HN.out).mono ?_
  rintro e w1 h1
  rcases h1 with ⟨h0, h1⟩ | ⟨h0, h1, h2⟩
  · obtain ⟨g, lab0, rfl, hC, hl, _, hb⟩ := h1.cir
    have HE := Lib.hid h0
    have HI0 : Hid (Inv (S0 ms ps q).s) := newE_inv h0
    have HL0 : Hid (∀ k, k < W.heap.size → lab0 k = 0) := hl
    have HC0 : Hid (Cir w1 lab0 g (S0 ms ps q)) := hC
    have HB1 : Hid (Below W.heap.size W w1) := hb
    have hG1 : w1.heap[w.heap.size]? = some (oSet A n c A' n' c' q A'' n'' c'') := (hb.block _ (lt_of_block HG.out)).trans HG.out
    obtain ⟨s0, s1, s2, s3⟩ := four_of hG1
    clear h1 hC hl hb h0 hG1
    go_wp2_with fail
    clear s0 s1 s2 s3
    go_loopw [6] (fun i wr => ∃ (k : Nat) (lab : Nat → Nat), k ≤ n'' ∧ i = .int .i64 k ∧ Hid (Cir wr lab g (playsC (S0 ms ps q) (xs.take k))) ∧ Hid (Fr w1 lab0 wr lab)) (fun i _ => n'' - (intOf i).toNat)
    case atStart => exact ⟨0, lab0, Nat.zero_le _, rfl, HC0, Fr.refl _ _⟩
    case round =>
      obtain ⟨k, lab, hk, rfl, HC, HF⟩ := hrel
      have HBk : Hid (Below w.heap.size w wr) := HB.out.trans ((HB1.out.trans (HF.out.below HB1.out.size HL0.out)).mono HB.out.size)
      have hGk : wr.heap[w.heap.size]? = some (oSet A n c A' n' c' q A'' n'' c'') := ((HB1.out.trans (HF.out.below HB1.out.size HL0.out)).block _ (lt_of_block HG.out)).trans HG.out
      obtain ⟨s0, s1, s2, s3⟩ := four_of hGk
      clear hGk
      by_cases hlt : k < n''
      · have hXk := HX.out.on HBk.out
        obtain ⟨b, off, x, hA'', hbB, hxk, hcell⟩ := hXk.fxs.at_ hlt
        subst hA''
        have hxz := hXk.xz x (List.mem_of_getElem? hxk)
        obtain ⟨c0, c1, c2, c3, c4, c5, c6, c7, c8⟩ := nine hcell
        have hlen : (xs.take k).length ≤ 40 := by rw [List.length_take]; omega
        have HPL := Lib.hid (play_any g lab (playsC (S0 ms ps q) (xs.take k)) x wr HC.out (playsC_inv HI0.out _) (by have := playsC_chs (S0 ms ps q) (xs.take k); simp at this; omega) (by have := playsC_votes (S0 ms ps q) (xs.take k); simp at this; omega) hxz.1 hxz.2)
        have HTK : Hid (playsC (S0 ms ps q) (xs.take (k + 1)) = playC (playsC (S0 ms ps q) (xs.take k)) x) := by show _ = _; rw [take_snoc hxk, playsC_snoc]
        clear hXk hcell hxk hxz hlen hbB
        go_wp2_with fail
        refine HPL.out.mono ?_
        rintro e w5 ⟨rfl, lab5, hC5, hF5⟩
        have HC5 : Hid (Cir w5 lab5 g (playsC (S0 ms ps q) (xs.take (k + 1)))) := by show Cir _ _ _ _; rw [HTK.out]; exact hC5
        have HF5 : Hid (Fr w1 lab0 w5 lab5) := HF.out.trans hF5
        clear hC5 hF5 c0 c1 c2 c3 c4 c5 c6 c7 c8
        unfold votR
        go_wp2_with fail
        go_roundw
        case rel => exact ⟨k + 1, lab5, by omega, by go_num, HC5, HF5⟩
        case measure => simp [intOf]; omega
      · obtain rfl : k = n'' := by omega
        have HT : Hid (Cir wr lab g (playsC (S0 ms ps q) xs)) := by
          have h5 := HC.out
          rw [List.take_of_length_le (by have := HX.out.fxs.1; omega)] at h5
          exact h5
        go_wp2_with fail
        go_ret2
        exact .inl ⟨HE.out, g, lab, rfl, HT.out, fun j hj => (HF.out.keep j (Nat.lt_of_lt_of_le (Nat.lt_of_lt_of_le hj HB.out.size) HB1.out.size)).trans (HL0.out j (Nat.lt_of_lt_of_le hj HB.out.size)), HBk.out⟩
  · subst h1
    have HE := Lib.hid h0
    have HB1 : Hid (Below W.heap.size W w1) := h2
    have hG1 : w1.heap[w.heap.size]? = some (oSet A n c A' n' c' q A'' n'' c'') := (h2.block _ (lt_of_block HG.out)).trans HG.out
    obtain ⟨s0, s1, s2, s3⟩ := four_of hG1
    have he0 : (newE ms (ps.map Prod.fst) q == 0) = false := by simpa using h0
    clear h2 h0 hG1
    go_wp2_with fail
    go_loopw [6] (fun i wr => i = .int .i64 0 ∧ wr = w1) (fun _ _ => 0)
    case atStart => exact ⟨rfl, rfl⟩
    case round =>
      obtain ⟨rfl, rfl⟩ := hrel
      by_cases hz : n'' = 0
      · subst hz
        go_wp2_with fail
        go_ret2
        exact .inr ⟨HE.out, rfl, HB.out.trans (HB1.out.mono HB.out.size)⟩
      · have hz' : (0 : Int) < (n'' : Int) := by omega
        go_wp2_with fail
        go_ret2
        exact .inr ⟨HE.out, rfl, HB.out.trans (HB1.out.mono HB.out.size)⟩
end Go.Proofs.YtkeicjokekmkpaaGreat
namespace Go.Proofs.YtkeicjokekmkpaaGreat
open Go.RowKit Mb
set_option linter.unusedVariables false
set_option linter.unusedSimpArgs false

theorem vOk_of {v : Vlt} {k N : Int} (h : vltB v k N = true) (hp : possB N v = true) (hN : N ≤ 1000) : vOk v := by
  unfold possB at hp
  simp only [Bool.and_eq_true, decide_eq_true_eq] at hp
  unfold vltB restB cutB rulesB inN at h
  simp only [Bool.and_eq_true, decide_eq_true_eq] at h
  obtain ⟨_, _, h3, hw, h4, h5, h6, h7, h8, h9, ⟨c1, c2, c3, c4, c5, c6, c7⟩, _, ⟨r1, r2⟩, ⟨r3, r4⟩, ⟨r5, r6⟩, r7, r8⟩ := h
  refine ⟨h3, fun x hx => ?_, fun x hx => ?_, h9, fun x hx => ?_, fun x hx => ?_⟩
  · obtain ⟨i, hi, rfl⟩ := List.mem_iff_getElem.1 hx
    have := wsB_get hw hi
    exact nOk_of this.1 (by omega)
  · simp only [List.mem_cons, List.not_mem_nil, or_false] at hx
    unfold nOk
    rcases hx with rfl | rfl | rfl <;> omega
  · simp only [List.mem_cons, List.not_mem_nil, or_false] at hx
    unfold nOk
    rcases hx with rfl | rfl | rfl | rfl <;> omega
  · simp only [List.mem_cons, List.not_mem_nil, or_false] at hx
    unfold nOk
    rcases hx with rfl | rfl | rfl | rfl <;> omega
theorem xOk_of {S : Cst} {x : Chn} (hI : Inv S.s) (h0 : playE S.s x = 0) : xOk (chg x) := by
  have h12 := hI.n12
  have hv12 := hI.v12
  have hb : ∀ d, hasB S.s d = true → nOk d := fun d hd => by
    unfold hasB at hd
    simp only [Bool.and_eq_true, decide_eq_true_eq] at hd
    unfold nOk; omega
  unfold playE at h0
  unfold chg
  split at h0
  · next h1 =>
    simp only [h1, if_true]
    unfold admE at h0
    split at h0
    · cases h0
    · split at h0
      · cases h0
      · next h2 => exact mOk_of (by simpa using h2)
  · next h1 =>
    simp only [h1, if_false]
    split at h0
    · next h2 =>
      simp only [h2, if_true]
      unfold votE at h0
      split at h0
      · cases h0
      · next h3 =>
        rw [not_or] at h3
        exact ⟨hb _ (by simpa using h3.1), hb _ (by simpa using h3.2)⟩
    · next h2 =>
      simp only [h2, if_false]
      unfold repE at h0
      cases hv : vltOf S.s x.v with
      | none => rw [hv] at h0; cases h0
      | some z =>
        rw [hv] at h0
        simp only at h0
        split at h0
        · cases h0
        · next h3 =>
          rw [not_or] at h3
          unfold vltOf at hv
          split at hv
          · next hv0 =>
            have hvl := (List.getElem?_eq_some_iff.1 hv).1
            have hz := List.mem_of_getElem? hv
            have ha : x.a ∈ z.ws := by simpa using h3.1
            have har := hI.wsr z hz x.a ha
            refine ⟨⟨hv0, by omega⟩, ⟨har.1, by omega⟩, hb _ (by simpa using h3.2)⟩
          · cases hv
theorem playC_einv {S : Cst} {x : Chn} (h : EInv S) (hI : Inv S.s) : EInv (playC S x) := by
  refine ⟨h.fm, h.ms, h.fv, h.vs, ?_, ?_⟩
  · have : (playC S x).s.q = S.s.q := playS_q
    rw [this]
    exact h.q
  · intro y hy
    have hy : y ∈ S.chs ++ chgs S.s x := hy
    rcases List.mem_append.1 hy with hy | hy
    · exact h.ch y hy
    · unfold chgs at hy
      split at hy
      · next h0 =>
        obtain rfl : y = chg x := by simpa using hy
        exact xOk_of hI h0
      · simp at hy
theorem playsC_einv : ∀ {S : Cst} (h : EInv S) (hI : Inv S.s) (xs : List Chn), EInv (playsC S xs)
  | _, h, _, [] => h
  | S, h, hI, x :: l => playsC_einv (S := playC S x) (playC_einv h hI) (playS_inv hI) l
/-- The circle that New makes. -/
abbrev S00 (ms : List Mem) (vs : List Vlt) (q : Int) : Cst := ⟨⟨ms, vs, q, []⟩, ms, vs, []⟩
theorem newE_einv {ms : List Mem} {vs : List Vlt} {q : Int} (h : newE ms vs q = 0) : EInv (S00 ms vs q) := by
  obtain ⟨h1, h2, h3, h4⟩ := newE_ok h
  unfold headB at h1
  simp only [Bool.and_eq_true, decide_eq_true_eq] at h1
  refine ⟨h1.2.1, fun m hm => ?_, h1.2.2.1, fun v hv => ?_, nOk_of (by have := h1.2.2.2.1; show 0 ≤ q; omega) (by have := h1.2.2.2.2; show q ≤ 100000; omega), fun x hx => by cases hx⟩
  · obtain ⟨i, hi⟩ := List.mem_iff_getElem?.1 hm
    unfold memsB at h2
    have h5 := List.all_eq_true.1 h2 i (List.mem_range.2 (List.getElem?_eq_some_iff.1 hi).1)
    unfold okM at h5
    rw [hi] at h5
    simp only [Bool.and_eq_true] at h5
    exact mOk_of h5.1
  · have hv : v ∈ vs := hv
    obtain ⟨i, hi⟩ := List.mem_iff_getElem?.1 hv
    unfold vltsB at h3
    have h5 := List.all_eq_true.1 h3 i (List.mem_range.2 (List.getElem?_eq_some_iff.1 hi).1)
    unfold okVt at h5
    rw [hi] at h5
    exact vOk_of h5 (List.all_eq_true.1 h4 v hv) (by omega)
theorem playC_no {S : Cst} {x : Chn} (h : playE S.s x ≠ 0) : playC S x = S := by
  unfold playC playS chgs
  rw [if_neg h, if_neg h, List.append_nil]
theorem playC_yes {S : Cst} {x : Chn} (h : playE S.s x = 0) : (playC S x).chs = S.chs ++ [chg x] := by
  unfold playC chgs
  rw [if_pos h]
theorem enc_small {n : Nat} (h : n < 128) : enc n = [(n : Int)] := by unfold enc encF; rw [if_pos h]
/-- A change without an error changes the encoding. -/
theorem encC_turn {S : Cst} {x : Chn} (h : playE S.s x = 0) (hc : S.chs.length < 127) : encC (playC S x) ≠ encC S := by
  intro he
  have hq : (playC S x).s.q = S.s.q := playS_q
  unfold encC at he
  rw [hq, playC_yes h] at he
  have hf : (playC S x).fm = S.fm := rfl
  have hv : (playC S x).fv = S.fv := rfl
  rw [hf, hv] at he
  have h1 := List.append_cancel_left (List.append_cancel_left (List.append_cancel_left (List.append_cancel_left (List.append_cancel_left he))))
  rw [List.length_append, List.length_singleton, enc_small (by omega), enc_small (by omega)] at h1
  simp only [List.cons_append, List.nil_append, List.cons.injEq] at h1
  omega
end Go.Proofs.YtkeicjokekmkpaaGreat
namespace Go.Proofs.YtkeicjokekmkpaaGreat
open Go.RowKit Mb
set_option linter.unusedVariables false
set_option linter.unusedSimpArgs false

/-- These bytes lie at p. -/
def AtL (bs : List Int) (p : Nat) (xs : List Int) : Prop := ∀ j, j < xs.length → bs[p + j]? = xs[j]?
theorem AtL.nil {bs : List Int} {p : Nat} : AtL bs p [] := fun j hj => absurd hj (by simp)
theorem AtL.left {bs : List Int} {p : Nat} {xs ys : List Int} (h : AtL bs p (xs ++ ys)) : AtL bs p xs := fun j hj => by
  rw [h j (by rw [List.length_append]; omega), List.getElem?_append_left hj]
theorem AtL.right {bs : List Int} {p : Nat} {xs ys : List Int} (h : AtL bs p (xs ++ ys)) : AtL bs (p + xs.length) ys := fun j hj => by
  have := h (xs.length + j) (by rw [List.length_append]; omega)
  rw [List.getElem?_append_right (by omega), Nat.add_sub_cancel_left, ← Nat.add_assoc] at this
  exact this
theorem AtL.app {bs : List Int} {p : Nat} {xs ys : List Int} (h1 : AtL bs p xs) (h2 : AtL bs (p + xs.length) ys) : AtL bs p (xs ++ ys) := fun j hj => by
  rcases Nat.lt_or_ge j xs.length with h | h
  · rw [List.getElem?_append_left h]; exact h1 j h
  · rw [List.getElem?_append_right h, ← h2 (j - xs.length) (by rw [List.length_append] at hj; omega)]
    congr 1; omega
theorem AtL.all {bs xs : List Int} (h : AtL bs 0 xs) (hl : xs.length = bs.length) : xs = bs := by
  apply List.ext_getElem?
  intro j
  rcases Nat.lt_or_ge j xs.length with h1 | h1
  · have := h j h1; rw [Nat.zero_add] at this; exact this.symm
  · rw [List.getElem?_eq_none h1, List.getElem?_eq_none (by omega)]
theorem AtL.self (bs : List Int) : AtL bs 0 bs := fun j _ => by rw [Nat.zero_add]
/-- From one state to the next these bytes were read. -/
def Ok (bs : List Int) (s s' : RS) (xs : List Int) : Prop := s'.1 = s.1 + xs.length ∧ AtL bs s.1 xs
theorem Ok.refl (bs : List Int) (s : RS) : Ok bs s s [] := ⟨rfl, AtL.nil⟩
theorem Ok.trans {bs : List Int} {s s' s'' : RS} {xs ys : List Int} (h : Ok bs s s' xs) (k : Ok bs s' s'' ys) : Ok bs s s'' (xs ++ ys) :=
  ⟨by rw [k.1, h.1, List.length_append, Nat.add_assoc], h.2.app (by have := k.2; rwa [h.1] at this)⟩
section
variable {bs : List Int} (hb : ∀ b ∈ bs, 0 ≤ b ∧ b < 256)
include hb
theorem num_only {p q : Nat} {v : Int} (h : numF bs 10 0 0 p = (v, 0, q)) : ∃ n : Nat, v = n ∧ n < 18446744073709551616 ∧ q = p + (enc n).length ∧ AtL bs p (enc n) := by
  obtain ⟨n, e1, e2, e3, _, _, e6⟩ := numF_only bs hb 10 0 0 p q v rfl h
  simp only [Nat.pow_zero, Nat.mul_one, Nat.zero_add] at e1 e6
  exact ⟨n, e1, e6, e2, e3⟩
theorem rU_only {s : RS} (h : (rU bs s).2.2 = 0) : s.2 = 0 ∧ ∃ n : Nat, (rU bs s).1 = n ∧ n < 18446744073709551616 ∧ Ok bs s (rU bs s).2 (enc n) := by
  obtain ⟨h1, h2, h3⟩ := rV_ok h
  refine ⟨h1, ?_⟩
  unfold rU
  rw [h3]
  exact num_only hb (show numF bs 10 0 0 s.1 = (_, 0, _) by rw [← h2])
theorem rI_only {s : RS} (h : (rI bs s).2.2 = 0) : s.2 = 0 ∧ (0 ≤ (rI bs s).1 → Ok bs s (rI bs s).2 (encL [(rI bs s).1])) := by
  obtain ⟨h1, n, h2, h3, h4, h5⟩ := rU_only hb h
  refine ⟨h1, fun h0 => ?_⟩
  have e : (rI bs s).1 = n := by
    have h0' : 0 ≤ IntKind.i64.wrap (rU bs s).1 := h0
    show IntKind.i64.wrap (rU bs s).1 = n
    rw [h2] at h0' ⊢
    rw [IntKind.wrap_i64] at h0' ⊢
    omega
  have e2 : encL [(rI bs s).1] = enc n := by rw [e]; simp [encL]
  rw [e2]
  exact ⟨h4, h5⟩
theorem lim_only {m p : Nat} (h : (limF m (numF bs 10 0 0 p)).2.1 = 0) : ∃ n : Nat, (limF m (numF bs 10 0 0 p)).1 = n ∧ n ≤ m ∧ (limF m (numF bs 10 0 0 p)).2.2 = p + (enc n).length ∧ AtL bs p (enc n) := by
  obtain ⟨v, e, q, hN⟩ : ∃ v e q, numF bs 10 0 0 p = (v, e, q) := ⟨_, _, _, rfl⟩
  rw [hN] at h ⊢
  unfold limF at h ⊢
  simp only at h ⊢
  by_cases h1 : e = 0
  · subst h1
    by_cases h2 : (m : Int) < v
    · simp [h2] at h
    · obtain ⟨n, rfl, _, e2, e3⟩ := num_only hb hN
      simp only [h2, if_true, if_false]
      exact ⟨n, rfl, by omega, e2, e3⟩
  · simp [h1] at h
theorem rC_only {m : Nat} {s : RS} (h : (rC bs m s).2.2 = 0) : s.2 = 0 ∧ ∃ n : Nat, (rC bs m s).1 = n ∧ n ≤ m ∧ Ok bs s (rC bs m s).2 (enc n) := by
  obtain ⟨h1, h2, h3⟩ := rV_ok h
  refine ⟨h1, ?_⟩
  unfold rC
  rw [h3]
  exact lim_only hb h2
theorem tk_only {n p : Nat} (h : (tkF bs n p).2.1 = 0) : (tkF bs n p).1.size = n ∧ (tkF bs n p).2.2 = p + n ∧ AtL bs p (sB (tkF bs n p).1) := by
  rw [tkF_eq] at h ⊢
  split at h
  · cases h
  · next h1 =>
    rw [if_neg h1]
    have hs : sB (baOf ((bs.drop p).take n)) = (bs.drop p).take n := baOf_sB (fun b hx => hb b (List.mem_of_mem_drop (List.mem_of_mem_take hx)))
    refine ⟨?_, rfl, ?_⟩
    · have := sB_len (baOf ((bs.drop p).take n))
      rw [hs, List.length_take, List.length_drop] at this
      show (baOf ((bs.drop p).take n)).size = n
      omega
    · show AtL bs p (sB (baOf ((bs.drop p).take n)))
      rw [hs]
      intro j hj
      rw [List.length_take] at hj
      rw [List.getElem?_take, if_pos (by omega), List.getElem?_drop]
theorem rS_only {s : RS} (h : (rS bs s).2.2 = 0) : s.2 = 0 ∧ (rS bs s).1.size = 32 ∧ Ok bs s (rS bs s).2 (sB (rS bs s).1) := by
  obtain ⟨h1, h2, h3⟩ := rV_ok h
  have h4 := tk_only hb h2
  refine ⟨h1, ?_⟩
  unfold rS
  rw [h3]
  refine ⟨h4.1, ?_, h4.2.2⟩
  show (tkF bs 32 s.1).2.2 = _
  rw [sB_len, h4.1, h4.2.1]
theorem rT_only {m : Nat} {s : RS} (h : (rT bs m s).2.2 = 0) : s.2 = 0 ∧ Ok bs s (rT bs m s).2 (enc (rT bs m s).1.size ++ sB (rT bs m s).1) := by
  obtain ⟨h1, h2, h3⟩ := rV_ok h
  refine ⟨h1, ?_⟩
  unfold rT
  rw [h3]
  rw [blkF_eq] at h2 ⊢
  by_cases h5 : (limF m (numF bs 10 0 0 s.1)).2.1 = 0
  · rw [if_pos h5] at h2 ⊢
    obtain ⟨n, e1, e2, e3, e4⟩ := lim_only hb h5
    rw [e1, e3, Int.toNat_natCast] at h2 ⊢
    have h6 := tk_only hb h2
    simp only
    rw [h6.1]
    refine ⟨?_, e4.app h6.2.2⟩
    show (tkF bs n (s.1 + (enc n).length)).2.2 = _
    rw [List.length_append, sB_len, h6.1, h6.2.1]
    omega
  · rw [if_neg h5] at h2
    exact absurd h2 h5
end
section
variable {bs : List Int}
theorem num_rt {p n : Nat} (h : AtL bs p (enc n)) (hn : n < 18446744073709551616) : numF bs 10 0 0 p = ((n : Int), 0, p + (enc n).length) := by
  have := numF_enc bs 10 n 0 0 p (by omega) (by omega) (by omega) h (.inl rfl) (by omega)
  simpa [enc] using this
theorem rU_rt {p n : Nat} (h : AtL bs p (enc n)) (hn : n < 18446744073709551616) : rU bs (p, 0) = ((n : Int), p + (enc n).length, 0) := rV_go (num_rt h hn)
theorem rI_rt {p : Nat} {x : Int} (h : AtL bs p (encL [x])) (hx : nOk x) : rI bs (p, 0) = (x, p + (encL [x]).length, 0) := by
  obtain ⟨n, rfl⟩ : ∃ n : Nat, x = n := ⟨x.toNat, by have := hx.1; omega⟩
  have e2 : encL [(n : Int)] = enc n := by simp [encL]
  rw [e2] at h ⊢
  have hb := hx.2
  have h1 := rU_rt h (by omega)
  have hw : IntKind.i64.wrap (n : Int) = n := by rw [IntWalk.i64_in _ (by omega)]
  unfold rI
  rw [h1]
  simp only
  rw [hw]
theorem lim_rt {p n m : Nat} (h : AtL bs p (enc n)) (hn : n ≤ m) (hm : m ≤ 1000000) : limF m (numF bs 10 0 0 p) = ((n : Int), 0, p + (enc n).length) := by
  rw [num_rt h (by omega)]
  unfold limF
  simp only [if_true]
  rw [if_neg (by omega)]
theorem rC_rt {p n m : Nat} (h : AtL bs p (enc n)) (hn : n ≤ m) (hm : m ≤ 1000000) : rC bs m (p, 0) = ((n : Int), p + (enc n).length, 0) := rV_go (lim_rt h hn hm)
theorem ba_eq {a b : ByteArray} (h : sB a = sB b) : a = b := by
  obtain ⟨⟨x⟩⟩ := a
  obtain ⟨⟨y⟩⟩ := b
  unfold sB at h
  simp only at h
  congr 2
  exact List.map_inj_right (f := fun b : UInt8 => (b.toNat : Int)) (fun u v huv => by
    have : u.toNat = v.toNat := by omega
    exact UInt8.toNat_inj.1 this) |>.1 h
theorem AtL.cut {p : Nat} {xs : List Int} (h : AtL bs p xs) : (bs.drop p).take xs.length = xs := by
  apply List.ext_getElem?
  intro j
  rw [List.getElem?_take]
  split
  · next hj => rw [List.getElem?_drop]; exact h j hj
  · next hj => rw [List.getElem?_eq_none (by omega)]
theorem AtL.fits {p : Nat} {xs : List Int} (h : AtL bs p xs) (h0 : 0 < xs.length) : p + xs.length ≤ bs.length := by
  rcases Nat.lt_or_ge bs.length (p + xs.length) with hlt | hlt
  · have := h (xs.length - 1) (by omega)
    rw [List.getElem?_eq_none (by omega), List.getElem?_eq_getElem (by omega)] at this
    cases this
  · exact hlt
theorem baOf_of (s : ByteArray) : baOf (sB s) = s := ba_eq (baOf_sB (sB_rng s))
theorem tk_rt {p : Nat} {s : ByteArray} (h : AtL bs p (sB s)) (h0 : 0 < s.size) : tkF bs s.size p = (s, 0, p + s.size) := by
  have hl := sB_len s
  have hf := h.fits (by omega)
  rw [tkF_eq, if_neg (by omega)]
  congr 1
  have hc := h.cut
  rw [hl] at hc
  rw [hc, baOf_of]
theorem rS_rt {p : Nat} {s : ByteArray} (h : AtL bs p (sB s)) (h0 : s.size = 32) : rS bs (p, 0) = (s, p + (sB s).length, 0) := by
  have := tk_rt h (by omega)
  rw [h0] at this
  rw [sB_len, h0]
  exact rV_go this
theorem rT_rt {p m : Nat} {s : ByteArray} (h : AtL bs p (enc s.size ++ sB s)) (h0 : 0 < s.size) (hm : s.size ≤ m) (hm2 : m ≤ 1000000) : rT bs m (p, 0) = (s, p + (enc s.size ++ sB s).length, 0) := by
  have h1 := lim_rt h.left hm hm2
  have h2 := tk_rt h.right h0
  apply rV_go
  rw [blkF_eq]
  simp only
  rw [h1]
  simp only [if_true, Int.toNat_natCast]
  rw [h2, List.length_append, sB_len]
  congr 2
  omega
end
/-- A list, read element by element. -/
def decLs {α : Type} (f : Nat → RS → α × RS) (s : RS) : Nat → List α × RS
  | 0 => ([], s)
  | k + 1 => ((decLs f s k).1 ++ [(f k (decLs f s k).2).1], (f k (decLs f s k).2).2)
theorem decLs_len {α : Type} (f : Nat → RS → α × RS) (s : RS) : ∀ k, (decLs f s k).1.length = k
  | 0 => rfl
  | k + 1 => by rw [decLs, List.length_append, decLs_len f s k]; rfl
theorem decLs_le {α : Type} {f : Nat → RS → α × RS} {n : Nat} (hf : ∀ k s, s.1 ≤ n → (f k s).2.1 ≤ n) {s : RS} (h : s.1 ≤ n) : ∀ k, (decLs f s k).2.1 ≤ n
  | 0 => h
  | k + 1 => by rw [decLs]; exact hf _ _ (decLs_le hf h k)
/-- Only encodings are read. -/
theorem decLs_only {bs : List Int} {α : Type} {f : Nat → RS → α × RS} (en : α → List Int) (ok : α → Prop)
    (hf : ∀ k s, (f k s).2.2 = 0 → s.2 = 0 ∧ (ok (f k s).1 → Ok bs s (f k s).2 (en (f k s).1))) (s : RS) :
    ∀ k, (decLs f s k).2.2 = 0 → s.2 = 0 ∧ ((∀ x ∈ (decLs f s k).1, ok x) → Ok bs s (decLs f s k).2 ((decLs f s k).1.flatMap en))
  | 0, h => ⟨h, fun _ => Ok.refl _ _⟩
  | k + 1, h => by
    rw [decLs] at h ⊢
    obtain ⟨h1, h2⟩ := hf k _ h
    obtain ⟨h3, h4⟩ := decLs_only en ok hf s k h1
    refine ⟨h3, fun ho => ?_⟩
    simp only [flat_snoc]
    exact (h4 fun x hx => ho x (List.mem_append_left _ hx)).trans (h2 (ho _ (List.mem_append_right _ (List.mem_singleton.2 rfl))))
/-- What was written is read. -/
theorem decLs_rt {bs : List Int} {α : Type} {f : Nat → RS → α × RS} (en : α → List Int) (good : Nat → α → Prop)
    (hf : ∀ k x p, AtL bs p (en x) → good k x → f k (p, 0) = (x, p + (en x).length, 0)) {p : Nat} {xs : List α} (h : AtL bs p (xs.flatMap en)) (hg : ∀ k x, xs[k]? = some x → good k x) :
    ∀ k, k ≤ xs.length → decLs f (p, 0) k = (xs.take k, p + ((xs.take k).flatMap en).length, 0)
  | 0, _ => by simp [decLs]
  | k + 1, hk => by
    obtain ⟨x, hx⟩ := get_ex (xs := xs) (k := k) (by omega)
    have ht := take_snoc hx
    have h1 : AtL bs p ((xs.take k).flatMap en ++ (en x ++ (xs.drop (k + 1)).flatMap en)) := by
      have : xs.flatMap en = (xs.take k).flatMap en ++ (en x ++ (xs.drop (k + 1)).flatMap en) := by
        conv => lhs; rw [← List.take_append_drop (k + 1) xs, List.flatMap_append, ht, flat_snoc, List.append_assoc]
      rwa [← this]
    rw [decLs, decLs_rt en good hf h hg k (by omega)]
    simp only
    rw [hf k x _ h1.right.left (hg k x hx), ht, flat_snoc, List.length_append]
    simp only [Prod.mk.injEq, true_and, and_true]
    omega
theorem decLs_rt' {bs : List Int} {α : Type} {f : Nat → RS → α × RS} (en : α → List Int) (good : Nat → α → Prop)
    (hf : ∀ k x p, AtL bs p (en x) → good k x → f k (p, 0) = (x, p + (en x).length, 0)) {p : Nat} {xs : List α} (h : AtL bs p (xs.flatMap en)) (hg : ∀ k x, xs[k]? = some x → good k x) :
    decLs f (p, 0) xs.length = (xs, p + (xs.flatMap en).length, 0) := by
  have := decLs_rt en good hf h hg xs.length (Nat.le_refl _)
  rwa [List.take_length] at this
theorem encL_cons (x : Int) (xs : List Int) : encL (x :: xs) = encL [x] ++ encL xs := by simp [encL]
theorem encL_flat (xs : List Int) : xs.flatMap (fun x => encL [x]) = encL xs := by unfold encL; congr 1; funext x; simp
def decM (bs : List Int) (d : Int) (s : RS) : Mem × RS :=
  (⟨d, (rT bs 16 s).1, (rS bs (rT bs 16 s).2).1, (rI bs (rS bs (rT bs 16 s).2).2).1, false⟩, (rI bs (rS bs (rT bs 16 s).2).2).2)
/-- A vault with its number. -/
def decVt (bs : List Int) (k : Int) (s : RS) : Vlt × RS :=
  let ws := decLs (fun _ => rI bs) (rC bs 3 s).2 (rC bs 3 s).1.toNat
  let d := rI bs ws.2
  let t := rI bs d.2
  let h := rI bs t.2
  let p := rS bs h.2
  let c1 := rI bs p.2
  let c2 := rI bs c1.2
  let c3 := rI bs c2.2
  let c4 := rI bs c3.2
  let r1 := rI bs c4.2
  let r2 := rI bs r1.2
  let r3 := rI bs r2.2
  let r4 := rI bs r3.2
  (⟨k, ws.1, d.1, t.1, h.1, p.1, c1.1, c2.1, c3.1, c4.1, 0, r1.1, r2.1, r3.1, r4.1⟩, r4.2)
section
variable {bs : List Int} (hb : ∀ b ∈ bs, 0 ≤ b ∧ b < 256)
include hb
theorem rI_ok {s : RS} (h : (rI bs s).2.2 = 0) : s.2 = 0 ∧ (0 ≤ (rI bs s).1 → Ok bs s (rI bs s).2 (encL [(rI bs s).1])) := rI_only hb h
theorem decM_only {d : Int} {s : RS} (h : (decM bs d s).2.2 = 0) :
    s.2 = 0 ∧ (mOk (decM bs d s).1 → Ok bs s (decM bs d s).2 (encM (decM bs d s).1)) := by
  unfold decM at h ⊢
  simp only at h ⊢
  obtain ⟨q1, q2⟩ := rI_ok hb h
  obtain ⟨p1, _, p2⟩ := rS_only hb q1
  obtain ⟨n1, n2⟩ := rT_only hb p1
  refine ⟨n1, fun ho => ?_⟩
  have := Ok.trans n2 (Ok.trans p2 (q2 ho.2.2.1))
  rwa [List.append_assoc] at this
theorem decVt_only {k : Int} {s : RS} (h : (decVt bs k s).2.2 = 0) :
    s.2 = 0 ∧ (vOk (decVt bs k s).1 → Ok bs s (decVt bs k s).2 (encVt (decVt bs k s).1)) := by
  unfold decVt at h ⊢
  simp only at h ⊢
  obtain ⟨a1, b1⟩ := rI_ok hb h
  obtain ⟨a2, b2⟩ := rI_ok hb a1
  obtain ⟨a3, b3⟩ := rI_ok hb a2
  obtain ⟨a4, b4⟩ := rI_ok hb a3
  obtain ⟨a5, b5⟩ := rI_ok hb a4
  obtain ⟨a6, b6⟩ := rI_ok hb a5
  obtain ⟨a7, b7⟩ := rI_ok hb a6
  obtain ⟨a8, b8⟩ := rI_ok hb a7
  obtain ⟨a9, _, b9⟩ := rS_only hb a8
  obtain ⟨a10, b10⟩ := rI_ok hb a9
  obtain ⟨a11, b11⟩ := rI_ok hb a10
  obtain ⟨a12, b12⟩ := rI_ok hb a11
  obtain ⟨a13, b13⟩ := decLs_only (bs := bs) (f := fun _ => rI bs) (fun x => encL [x]) (fun x => 0 ≤ x) (fun _ _ h => rI_ok hb h) _ _ a12
  obtain ⟨a14, n, b14, _, b15⟩ := rC_only hb a13
  refine ⟨a14, fun ho => ?_⟩
  unfold vOk at ho
  simp only [List.mem_cons, List.not_mem_nil, or_false, forall_eq_or_imp, forall_eq, nOk] at ho
  obtain ⟨_, o1, ⟨⟨o2, _⟩, ⟨o3, _⟩, o4, _⟩, _, ⟨⟨o5, _⟩, ⟨o6, _⟩, ⟨o7, _⟩, o8, _⟩, ⟨o9, _⟩, ⟨o10, _⟩, ⟨o11, _⟩, o12, _⟩ := ho
  have hl : (decLs (fun _ => rI bs) (rC bs 3 s).2 (rC bs 3 s).1.toNat).1.length = n := by rw [decLs_len, b14, Int.toNat_natCast]
  have f13 := b13 fun x hx => (o1 x hx).1
  rw [encL_flat] at f13
  have hall := Ok.trans b15 (f13.trans ((b12 o2).trans ((b11 o3).trans ((b10 o4).trans (Ok.trans b9 ((b8 o5).trans ((b7 o6).trans ((b6 o7).trans ((b5 o8).trans ((b4 o9).trans ((b3 o10).trans ((b2 o11).trans (b1 o12)))))))))))))
  unfold encVt
  simp only [hl]
  rw [encL_cons _ [_, _], encL_cons _ [_], encL_cons _ [_, _, _], encL_cons _ [_, _], encL_cons _ [_], encL_cons _ [_, _, _], encL_cons _ [_, _], encL_cons _ [_]]
  simp only [List.append_assoc]
  exact hall
end
def gM (k : Nat) (m : Mem) : Prop := memB m k = true
theorem decM_rt {bs : List Int} (k : Nat) (m : Mem) (p : Nat) (h : AtL bs p (encM m)) (hg : gM k m) : decM bs k (p, 0) = (m, p + (encM m).length, 0) := by
  have hk := mOk_of hg
  unfold gM memB nameB at hg
  simp only [Bool.and_eq_true, decide_eq_true_eq, Bool.not_eq_true'] at hg
  unfold encM at h ⊢
  rw [← List.append_assoc] at h ⊢
  have h1 := rT_rt (m := 16) h.left (by omega) hk.1 (by omega)
  have h2 := rS_rt h.right.left hk.2.1
  have h3 := rI_rt h.right.right hk.2.2
  unfold decM
  rw [h1]
  simp only
  rw [h2]
  simp only
  rw [h3]
  obtain ⟨d, nm, pb, qt, ex⟩ := m
  simp only at *
  obtain ⟨rfl, _, _, _, _, rfl⟩ := hg
  simp only [Prod.mk.injEq, true_and, and_true, List.length_append]
  omega
def gV (k : Nat) (v : Vlt) : Prop := v.num = k ∧ v.cseed = 0 ∧ vOk v
theorem decVt_rt {bs : List Int} (k : Nat) (v : Vlt) (p : Nat) (h : AtL bs p (encVt v)) (hg : gV k v) : decVt bs k (p, 0) = (v, p + (encVt v).length, 0) := by
  obtain ⟨num, ws, d, t, th, pr, c1, c2, c3, c4, sd, r1, r2, r3, r4⟩ := v
  obtain ⟨hn, hs, ho⟩ := hg
  simp only at hn hs
  subst hn hs
  unfold vOk at ho
  simp only [List.mem_cons, List.not_mem_nil, or_false, forall_eq_or_imp, forall_eq] at ho
  obtain ⟨o0, o1, ⟨o2, o3, o4⟩, o5, ⟨o6, o7, o8, o9⟩, o10, o11, o12, o13⟩ := ho
  unfold encVt at h ⊢
  simp only at h ⊢
  rw [encL_cons _ [_, _], encL_cons _ [_], encL_cons _ [_, _, _], encL_cons _ [_, _], encL_cons _ [_], encL_cons _ [_, _, _], encL_cons _ [_, _], encL_cons _ [_]] at h ⊢
  simp only [List.append_assoc] at h ⊢
  have e0 := rC_rt (m := 3) h.left o0 (by omega)
  replace h := h.right
  have e1 := decLs_rt' (bs := bs) (f := fun _ => rI bs) (fun x => encL [x]) (fun _ x => nOk x) (fun _ x p hx hg => rI_rt hx hg) (xs := ws) (by rw [encL_flat]; exact h.left) (fun k x hx => o1 x (List.mem_of_getElem? hx))
  rw [encL_flat] at e1
  replace h := h.right
  have e2 := rI_rt h.left o2
  replace h := h.right
  have e3 := rI_rt h.left o3
  replace h := h.right
  have e4 := rI_rt h.left o4
  replace h := h.right
  have e5 := rS_rt h.left o5
  replace h := h.right
  have e6 := rI_rt h.left o6
  replace h := h.right
  have e7 := rI_rt h.left o7
  replace h := h.right
  have e8 := rI_rt h.left o8
  replace h := h.right
  have e9 := rI_rt h.left o9
  replace h := h.right
  have e10 := rI_rt h.left o10
  replace h := h.right
  have e11 := rI_rt h.left o11
  replace h := h.right
  have e12 := rI_rt h.left o12
  replace h := h.right
  have e13 := rI_rt h o13
  unfold decVt
  simp only [e0, Int.toNat_natCast, e1, e2, e3, e4, e5, e6, e7, e8, e9, e10, e11, e12, e13]
  simp only [Prod.mk.injEq, true_and, and_true, List.length_append]
  omega
end Go.Proofs.YtkeicjokekmkpaaGreat
namespace Go.Proofs.YtkeicjokekmkpaaGreat
open Go.RowKit Mb
set_option linter.unusedVariables false
set_option linter.unusedSimpArgs false

def noMem : Mem := ⟨0, baNo, baNo, 0, false⟩
def toChn : Chg → Chn
  | .adm m => ⟨1, m, 0, 0, 0⟩
  | .bal a b => ⟨2, noMem, 0, a, b⟩
  | .rep v a b => ⟨3, noMem, v, a, b⟩
theorem chg_toChn (c : Chg) : chg (toChn c) = c := by cases c <;> simp [chg, toChn]
def decX (bs : List Int) (N : Int) (s : RS) : Option Chg × RS :=
  if (rU bs s).1 = 1 then (some (.adm (decM bs N (rU bs s).2).1), (decM bs N (rU bs s).2).2)
  else if (rU bs s).1 = 2 then (some (.bal (rI bs (rU bs s).2).1 (rI bs (rI bs (rU bs s).2).2).1), (rI bs (rI bs (rU bs s).2).2).2)
  else if (rU bs s).1 = 3 then (some (.rep (rI bs (rU bs s).2).1 (rI bs (rI bs (rU bs s).2).2).1 (rI bs (rI bs (rI bs (rU bs s).2).2).2).1), (rI bs (rI bs (rI bs (rU bs s).2).2).2).2)
  else (none, (rU bs s).2)
def stepX (bs : List Int) (y : Cst × RS) : Option (Cst × RS) :=
  match decX bs y.1.s.ms.length y.2 with
  | (some c, s) => if playE y.1.s (toChn c) = 0 then some (playC y.1 (toChn c), s) else none
  | (none, _) => none
def decChs (bs : List Int) (y : Cst × RS) : Nat → Option (Cst × RS)
  | 0 => some y
  | k + 1 => (decChs bs y k).bind (stepX bs)
/-- The circle comes of the first by changes. -/
inductive Rch (T : Cst) : Cst → Prop where
  | zero : Rch T T
  | step {S : Cst} {c : Chg} (h : Rch T S) (h0 : playE S.s (toChn c) = 0) : Rch T (playC S (toChn c))
theorem playC_chs {S : Cst} {c : Chg} (h0 : playE S.s (toChn c) = 0) : (playC S (toChn c)).chs = S.chs ++ [c] := by rw [playC_yes h0, chg_toChn]
theorem Rch.inv {T S : Cst} (h : Rch T S) (hI : Inv T.s) : Inv S.s := by
  induction h with
  | zero => exact hI
  | step _ _ ih => exact playS_inv ih
theorem Rch.einv {T S : Cst} (h : Rch T S) (hI : Inv T.s) (hE : EInv T) : EInv S := by
  induction h with
  | zero => exact hE
  | step h _ ih => exact playC_einv ih (h.inv hI)
theorem Rch.first {T S : Cst} (h : Rch T S) : S.fm = T.fm ∧ S.fv = T.fv ∧ S.s.q = T.s.q := by
  induction h with
  | zero => exact ⟨rfl, rfl, rfl⟩
  | step h _ ih => exact ⟨ih.1, ih.2.1, playS_q.trans ih.2.2⟩
theorem play_same (S : Cst) (x : Chn) (h : playE S.s x = 0) : playE S.s (toChn (chg x)) = 0 ∧ playC S (toChn (chg x)) = playC S x := by
  have hcase : (x.kind = 1 ∧ chg x = .adm x.m) ∨ (¬ x.kind = 1 ∧ x.kind = 2 ∧ chg x = .bal x.a x.b) ∨ (¬ x.kind = 1 ∧ ¬ x.kind = 2 ∧ chg x = .rep x.v x.a x.b) := by
    by_cases h1 : x.kind = 1
    · exact .inl ⟨h1, by simp [chg, h1]⟩
    · by_cases h2 : x.kind = 2
      · exact .inr (.inl ⟨h1, h2, by simp [chg, h2]⟩)
      · exact .inr (.inr ⟨h1, h2, by simp [chg, h1, h2]⟩)
  have hE : playE S.s (toChn (chg x)) = playE S.s x := by
    rcases hcase with ⟨h1, h2⟩ | ⟨h1, h2, h3⟩ | ⟨h1, h2, h3⟩
    · rw [h2]; simp [toChn, playE, h1]
    · rw [h3]; simp [toChn, playE, h2]
    · rw [h3]; simp [toChn, playE, h1, h2]
  have hS : playS S.s (toChn (chg x)) = playS S.s x := by
    unfold playS
    rw [hE]
    rcases hcase with ⟨h1, h2⟩ | ⟨h1, h2, h3⟩ | ⟨h1, h2, h3⟩
    · rw [h2]; simp [toChn, h1]
    · rw [h3]; simp [toChn, h2]
    · rw [h3]; simp [toChn, h1, h2]
  refine ⟨hE.trans h, ?_⟩
  unfold playC chgs
  rw [hS, hE, chg_toChn]
theorem Rch.play {T S : Cst} (h : Rch T S) (x : Chn) : Rch T (playC S x) := by
  by_cases h0 : playE S.s x = 0
  · obtain ⟨h1, h2⟩ := play_same S x h0
    rw [← h2]
    exact .step h h1
  · rw [playC_no h0]; exact h
theorem Rch.plays {T : Cst} : ∀ {S : Cst} (h : Rch T S) (xs : List Chn), Rch T (playsC S xs)
  | _, h, [] => h
  | S, h, x :: l => Rch.plays (h.play x) l
theorem enc_encL (n : Nat) : encL [(n : Int)] = enc n := by simp [encL]
section
variable {bs : List Int} (hb : ∀ b ∈ bs, 0 ≤ b ∧ b < 256)
include hb
theorem decX_only {N : Int} {s s' : RS} {c : Chg} (hc : decX bs N s = (some c, s')) (h : s'.2 = 0) : s.2 = 0 ∧ (xOk c → Ok bs s s' (encX c)) := by
  unfold decX at hc
  split at hc
  · next h1 =>
    simp only [Prod.mk.injEq, Option.some.injEq] at hc
    obtain ⟨rfl, rfl⟩ := hc
    obtain ⟨a1, b1⟩ := decM_only hb h
    obtain ⟨a2, n, b2, _, b3⟩ := rU_only hb a1
    refine ⟨a2, fun ho => ?_⟩
    have hn : n = 1 := by omega
    subst hn
    exact Ok.trans (by rw [← enc_encL] at b3; exact b3) (b1 ho)
  · split at hc
    · next h1 =>
      simp only [Prod.mk.injEq, Option.some.injEq] at hc
      obtain ⟨rfl, rfl⟩ := hc
      obtain ⟨a1, b1⟩ := rI_ok hb h
      obtain ⟨a0, b0⟩ := rI_ok hb a1
      obtain ⟨a2, n, b2, _, b3⟩ := rU_only hb a0
      refine ⟨a2, fun ho => ?_⟩
      have hn : n = 2 := by omega
      subst hn
      rw [← enc_encL] at b3
      show Ok bs s _ (encL [2, _, _])
      rw [encL_cons _ [_, _], encL_cons _ [_]]
      exact Ok.trans b3 ((b0 ho.1.1).trans (b1 ho.2.1))
    · split at hc
      · next h1 =>
        simp only [Prod.mk.injEq, Option.some.injEq] at hc
        obtain ⟨rfl, rfl⟩ := hc
        obtain ⟨a1, b1⟩ := rI_ok hb h
        obtain ⟨a0, b0⟩ := rI_ok hb a1
        obtain ⟨a3, b4⟩ := rI_ok hb a0
        obtain ⟨a2, n, b2, _, b3⟩ := rU_only hb a3
        refine ⟨a2, fun ho => ?_⟩
        have hn : n = 3 := by omega
        subst hn
        rw [← enc_encL] at b3
        show Ok bs s _ (encL [3, _, _, _])
        rw [encL_cons _ [_, _, _], encL_cons _ [_, _], encL_cons _ [_]]
        exact Ok.trans b3 ((b4 ho.1.1).trans ((b0 ho.2.1.1).trans (b1 ho.2.2.1)))
      · cases hc
theorem decChs_only {T : Cst} {s0 : RS} (hI : Inv T.s) (hT : T.chs = []) : ∀ (k : Nat) {S : Cst} {s : RS}, decChs bs (T, s0) k = some (S, s) → Rch T S ∧ S.chs.length = k ∧ (s.2 = 0 → s0.2 = 0 ∧ Ok bs s0 s (S.chs.flatMap encX))
  | 0, S, s, h => by
    simp only [decChs, Option.some.injEq, Prod.mk.injEq] at h
    obtain ⟨rfl, rfl⟩ := h
    exact ⟨.zero, by rw [hT]; rfl, fun h => ⟨h, by rw [hT]; exact Ok.refl _ _⟩⟩
  | k + 1, S, s, h => by
    rw [decChs] at h
    cases hk : decChs bs (T, s0) k with
    | none => rw [hk] at h; cases h
    | some y =>
      obtain ⟨S1, s1⟩ := y
      rw [hk] at h
      obtain ⟨h1, h2, h3⟩ := decChs_only hI hT k hk
      simp only [Option.bind_some, stepX] at h
      cases hx : decX bs S1.s.ms.length s1 with
      | mk o s2 =>
        rw [hx] at h
        cases o with
        | none => cases h
        | some c =>
          simp only at h
          split at h
          · next h0 =>
            simp only [Option.some.injEq, Prod.mk.injEq] at h
            obtain ⟨rfl, rfl⟩ := h
            refine ⟨.step h1 h0, by rw [playC_chs h0, List.length_append, h2]; rfl, fun he => ?_⟩
            obtain ⟨a1, a2⟩ := decX_only hb hx he
            obtain ⟨b1, b2⟩ := h3 a1
            refine ⟨b1, ?_⟩
            rw [playC_chs h0, flat_snoc]
            have := xOk_of (h1.inv hI) h0
            rw [chg_toChn] at this
            exact b2.trans (a2 this)
          · cases h
end
theorem decX_rt {bs : List Int} {S : Cst} {c : Chg} {p : Nat} (h : AtL bs p (encX c)) (hI : Inv S.s) (h0 : playE S.s (toChn c) = 0) : decX bs S.s.ms.length (p, 0) = (some c, p + (encX c).length, 0) := by
  have hxo := xOk_of hI h0
  rw [chg_toChn] at hxo
  cases c with
  | adm m =>
    have h' : AtL bs p (enc 1 ++ encM m) := h
    have e1 := rU_rt h'.left (by omega)
    have hg : gM S.s.ms.length m := by
      unfold gM
      simp only [toChn, playE, if_true] at h0
      unfold admE at h0
      split at h0
      · cases h0
      · split at h0
        · cases h0
        · next h2 => simpa using h2
    have e2 := decM_rt _ m _ h'.right hg
    unfold decX
    rw [e1]
    simp only
    rw [if_pos (show ((1 : Nat) : Int) = 1 from rfl), e2]
    show _ = (some (Chg.adm m), p + (enc 1 ++ encM m).length, 0)
    rw [List.length_append]
    simp only [Prod.mk.injEq, true_and, and_true]
    omega
  | bal a b =>
    have h' : AtL bs p (enc 2 ++ (encL [a] ++ encL [b])) := by
      have h2 : AtL bs p (encL [2, a, b]) := h
      rw [encL_cons _ [_, _], encL_cons _ [_]] at h2
      exact h2
    have e1 := rU_rt h'.left (by omega)
    have e2 := rI_rt h'.right.left hxo.1
    have e3 := rI_rt h'.right.right hxo.2
    unfold decX
    rw [e1]
    simp only
    rw [if_neg (show ¬ ((2 : Nat) : Int) = 1 by decide), if_pos (show ((2 : Nat) : Int) = 2 from rfl), e2]
    simp only
    rw [e3]
    show _ = (some (Chg.bal a b), p + (encL [2, a, b]).length, 0)
    rw [encL_cons _ [_, _], encL_cons _ [_], show encL [2] = enc 2 from rfl]
    simp only [List.length_append, Prod.mk.injEq, true_and, and_true]
    omega
  | rep v a b =>
    have h' : AtL bs p (enc 3 ++ (encL [v] ++ (encL [a] ++ encL [b]))) := by
      have h2 : AtL bs p (encL [3, v, a, b]) := h
      rw [encL_cons _ [_, _, _], encL_cons _ [_, _], encL_cons _ [_]] at h2
      exact h2
    have e1 := rU_rt h'.left (by omega)
    have e2 := rI_rt h'.right.left hxo.1
    have e3 := rI_rt h'.right.right.left hxo.2.1
    have e4 := rI_rt h'.right.right.right hxo.2.2
    unfold decX
    rw [e1]
    simp only
    rw [if_neg (show ¬ ((3 : Nat) : Int) = 1 by decide), if_neg (show ¬ ((3 : Nat) : Int) = 2 by decide), if_pos (show ((3 : Nat) : Int) = 3 from rfl), e2]
    simp only
    rw [e3]
    simp only
    rw [e4]
    show _ = (some (Chg.rep v a b), p + (encL [3, v, a, b]).length, 0)
    rw [encL_cons _ [_, _, _], encL_cons _ [_, _], encL_cons _ [_], show encL [3] = enc 3 from rfl]
    simp only [List.length_append, Prod.mk.injEq, true_and, and_true]
    omega
theorem decChs_rt {bs : List Int} {T S : Cst} (hI : Inv T.s) (hT : T.chs = []) (hr : Rch T S) {p : Nat} (h : AtL bs p (S.chs.flatMap encX)) : decChs bs (T, (p, 0)) S.chs.length = some (S, (p + (S.chs.flatMap encX).length, 0)) := by
  induction hr with
  | zero => rw [hT]; rfl
  | step hr h0 ih =>
    rw [playC_chs h0, flat_snoc] at h ⊢
    have h1 := ih h.left
    rw [List.length_append, List.length_singleton, decChs, h1]
    simp only [Option.bind_some, stepX]
    rw [decX_rt h.right (hr.inv hI) h0]
    simp only [h0, if_true, Option.some.injEq, Prod.mk.injEq, true_and, and_true, List.length_append]
    omega
/-- What Decode computes. -/
def dec (bs : List Int) : Option Cst :=
  let n := rC bs 12 (0, 0)
  let ms := decLs (fun k => decM bs k) n.2 n.1.toNat
  let kv := rC bs 12 ms.2
  let vs := decLs (fun k => decVt bs k) kv.2 kv.1.toNat
  let q := rI bs vs.2
  if newE ms.1 vs.1 q.1 = 0 then
    match decChs bs (S00 ms.1 vs.1 q.1, (rC bs (bs.length - q.2.1) q.2).2) (rC bs (bs.length - q.2.1) q.2).1.toNat with
    | some (S, s) => if s.2 = 0 ∧ ¬ s.1 < bs.length then some S else none
    | none => none
  else none
theorem dec_only {bs : List Int} (hb : ∀ b ∈ bs, 0 ≤ b ∧ b < 256) {S : Cst} (h : dec bs = some S) : ∃ ms vs q, newE ms vs q = 0 ∧ Rch (S00 ms vs q) S ∧ encC S = bs := by
  unfold dec at h
  simp only at h
  split at h
  · next h0 =>
    split at h
    · next S' s' hd =>
      split at h
      · next he =>
        injection h with h
        subst h
        obtain ⟨he1, he2⟩ := he
        have hI := newE_inv h0
        have hE := newE_einv h0
        obtain ⟨r1, r2, r3⟩ := decChs_only hb hI rfl _ hd
        obtain ⟨a1, b1⟩ := r3 he1
        obtain ⟨a2, m, b2, _, b3⟩ := rC_only hb a1
        obtain ⟨a4, b4⟩ := rI_ok hb a2
        obtain ⟨a5, b5⟩ := decLs_only (bs := bs) (f := fun k => decVt bs k) encVt vOk (fun _ _ h => decVt_only hb h) _ _ a4
        obtain ⟨a6, k, b6, _, b7⟩ := rC_only hb a5
        obtain ⟨a8, b8⟩ := decLs_only (bs := bs) (f := fun k => decM bs k) encM mOk (fun _ _ h => decM_only hb h) _ _ a6
        obtain ⟨_, n, b9, _, b10⟩ := rC_only hb a8
        refine ⟨_, _, _, h0, r1, ?_⟩
        have f2 := b8 hE.ms
        have f4 := b5 hE.vs
        have f5 := b4 hE.q.1
        have hall := Ok.trans b10 (f2.trans (Ok.trans b7 (f4.trans (f5.trans (Ok.trans b3 b1)))))
        obtain ⟨g1, g2, g3⟩ := r1.first
        have hn := decLs_len (fun k => decM bs k) (rC bs 12 (0, 0)).2 (rC bs 12 (0, 0)).1.toNat
        have hk := decLs_len (fun k => decVt bs k) (rC bs 12 (decLs (fun k => decM bs k) (rC bs 12 (0, 0)).2 (rC bs 12 (0, 0)).1.toNat).2).2 (rC bs 12 (decLs (fun k => decM bs k) (rC bs 12 (0, 0)).2 (rC bs 12 (0, 0)).1.toNat).2).1.toNat
        rw [b9, Int.toNat_natCast] at hn
        have hk2 : S'.fv.length = k := by rw [g2]; show List.length _ = k; rw [hk, b6, Int.toNat_natCast]
        have hn2 : S'.fm.length = n := by rw [g1]; show List.length _ = n; rw [decLs_len, b9, Int.toNat_natCast]
        have hm2 : S'.chs.length = m := by rw [r2, b2, Int.toNat_natCast]
        have hall2 : Ok bs (0, 0) s' (encC S') := by
          unfold encC
          rw [hn2, hk2, hm2, g1, g2, g3]
          exact hall
        have hl := hall2.1
        have ha := hall2.2
        simp only [Nat.zero_add] at hl
        have h0l : 0 < (encC S').length := by
          unfold encC
          rw [List.length_append]
          have : 0 < (enc S'.fm.length).length := by
            unfold enc encF
            split <;> simp
          omega
        have hf := ha.fits h0l
        exact ha.all (by simp only [Nat.zero_add] at hf; omega)
      · cases h
    · cases h
  · cases h
theorem enc_pos (n : Nat) : 0 < (enc n).length := by
  unfold enc encF
  split <;> simp
theorem encX_pos (c : Chg) : 0 < (encX c).length := by
  have := enc_pos
  cases c with
  | adm m =>
    have h1 := enc_pos 1
    show 0 < (enc 1 ++ encM m).length
    rw [List.length_append]; omega
  | bal a b =>
    have h1 := enc_pos 2
    show 0 < (encL [2, a, b]).length
    rw [encL_cons, show encL [2] = enc 2 from rfl, List.length_append]; omega
  | rep v a b =>
    have h1 := enc_pos 3
    show 0 < (encL [3, v, a, b]).length
    rw [encL_cons, show encL [3] = enc 3 from rfl, List.length_append]; omega
theorem flat_ge : ∀ xs : List Chg, xs.length ≤ (xs.flatMap encX).length
  | [] => Nat.le_refl _
  | x :: l => by
    have h1 := encX_pos x
    have h2 := flat_ge l
    rw [List.flatMap_cons, List.length_append, List.length_cons]
    omega
theorem dec_enc {ms : List Mem} {vs : List Vlt} {q : Int} {S : Cst} (h0 : newE ms vs q = 0) (hr : Rch (S00 ms vs q) S) (hc : S.chs.length ≤ 5000) : dec (encC S) = some S := by
  have hI := newE_inv h0
  have hE := newE_einv h0
  have hES := hr.einv hI hE
  have hlen := encC_len hES hc
  obtain ⟨g1, g2, g3⟩ := hr.first
  obtain ⟨h1, h2, h3, h4⟩ := newE_ok h0
  unfold headB at h1
  simp only [Bool.and_eq_true, decide_eq_true_eq] at h1
  have ha : AtL (encC S) 0 (enc ms.length ++ (ms.flatMap encM ++ (enc vs.length ++ (vs.flatMap encVt ++ (encL [q] ++ (enc S.chs.length ++ S.chs.flatMap encX)))))) := by
    have := AtL.self (encC S)
    have he : encC S = enc ms.length ++ (ms.flatMap encM ++ (enc vs.length ++ (vs.flatMap encVt ++ (encL [q] ++ (enc S.chs.length ++ S.chs.flatMap encX))))) := by
      unfold encC
      rw [g1, g2, g3]
    rwa [← he]
  have hl : (encC S).length = (enc ms.length).length + ((ms.flatMap encM).length + ((enc vs.length).length + ((vs.flatMap encVt).length + ((encL [q]).length + ((enc S.chs.length).length + (S.chs.flatMap encX).length))))) := by
    unfold encC
    rw [g1, g2, g3]
    simp only [List.length_append]
  generalize encC S = bs at *
  have e1 := rC_rt (m := 12) ha.left h1.2.1 (by omega)
  replace ha := ha.right
  have e2 := decLs_rt' (bs := bs) (f := fun k => decM bs k) encM gM (fun k x p hx hg => decM_rt k x p hx hg) ha.left (fun k x hx => by
    unfold memsB at h2
    have h5 := List.all_eq_true.1 h2 k (List.mem_range.2 (List.getElem?_eq_some_iff.1 hx).1)
    unfold okM at h5
    rw [hx] at h5
    simp only [Bool.and_eq_true] at h5
    exact h5.1)
  replace ha := ha.right
  have e3 := rC_rt (m := 12) ha.left h1.2.2.1 (by omega)
  replace ha := ha.right
  have e4 := decLs_rt' (bs := bs) (f := fun k => decVt bs k) encVt gV (fun k x p hx hg => decVt_rt k x p hx hg) ha.left (fun k x hx => by
    have hvo := hE.vs x (List.mem_of_getElem? hx)
    unfold vltsB at h3
    have h5 := List.all_eq_true.1 h3 k (List.mem_range.2 (List.getElem?_eq_some_iff.1 hx).1)
    unfold okVt at h5
    rw [hx] at h5
    unfold vltB restB at h5
    simp only [Bool.and_eq_true, decide_eq_true_eq] at h5
    exact ⟨h5.1, h5.2.2.2.2.2.2.2.2.2.2.2.1, hvo⟩)
  replace ha := ha.right
  have e5 := rI_rt ha.left hE.q
  replace ha := ha.right
  have hge := flat_ge S.chs
  have e6 := rC_rt (m := bs.length - (0 + (enc ms.length).length + (ms.flatMap encM).length + (enc vs.length).length + (vs.flatMap encVt).length + (encL [q]).length)) ha.left (by omega) (by omega)
  have e7 := decChs_rt hI rfl hr ha.right
  unfold dec
  simp only [e1, Int.toNat_natCast, e2, e3, e4, e5, h0, if_true, e6, e7]
  rw [if_pos ⟨trivial, by omega⟩]
end Go.Proofs.YtkeicjokekmkpaaGreat
