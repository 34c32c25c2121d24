/- The arguments opened: views, accusations. -/
import Derived.Test.YtpdledjgbgalcaaGreatDoorPd
import Derived.Test.YtpdledjgbgalcaaGreatDoorPe
import Derived.Test.YtpdledjgbgalcaaGreatDoorNP
namespace Go.Proofs.YtpdledjgbgalcaaGreatDoor
open Go.ChangeShapes Go.WideShapes Go.ChangeAt Go.RowKit Go.Deep
set_option linter.unusedVariables false
set_option linter.unusedSimpArgs false
theorem clist2 {α : Type} {l : List α} (h : l.length = 2) : ∃ c0 c1, l = [c0, c1] := by
  match l, h with
  | [c0, c1], _ => exact ⟨c0, c1, rfl⟩
theorem clist3 {α : Type} {l : List α} (h : l.length = 3) : ∃ c0 c1 c2, l = [c0, c1, c2] := by
  match l, h with
  | [c0, c1, c2], _ => exact ⟨c0, c1, c2, rfl⟩
theorem clist4 {α : Type} {l : List α} (h : l.length = 4) : ∃ c0 c1 c2 c3, l = [c0, c1, c2, c3] := by
  match l, h with
  | [c0, c1, c2, c3], _ => exact ⟨c0, c1, c2, c3, rfl⟩
theorem clist5 {α : Type} {l : List α} (h : l.length = 5) : ∃ c0 c1 c2 c3 c4, l = [c0, c1, c2, c3, c4] := by
  match l, h with
  | [c0, c1, c2, c3, c4], _ => exact ⟨c0, c1, c2, c3, c4, rfl⟩
theorem clist6 {α : Type} {l : List α} (h : l.length = 6) : ∃ c0 c1 c2 c3 c4 c5, l = [c0, c1, c2, c3, c4, c5] := by
  match l, h with
  | [c0, c1, c2, c3, c4, c5], _ => exact ⟨c0, c1, c2, c3, c4, c5, rfl⟩
theorem clist7 {α : Type} {l : List α} (h : l.length = 7) : ∃ c0 c1 c2 c3 c4 c5 c6, l = [c0, c1, c2, c3, c4, c5, c6] := by
  match l, h with
  | [c0, c1, c2, c3, c4, c5, c6], _ => exact ⟨c0, c1, c2, c3, c4, c5, c6, rfl⟩
theorem clist8 {α : Type} {l : List α} (h : l.length = 8) : ∃ c0 c1 c2 c3 c4 c5 c6 c7, l = [c0, c1, c2, c3, c4, c5, c6, c7] := by
  match l, h with
  | [c0, c1, c2, c3, c4, c5, c6, c7], _ => exact ⟨c0, c1, c2, c3, c4, c5, c6, c7, rfl⟩
theorem clist11 {α : Type} {l : List α} (h : l.length = 11) : ∃ c0 c1 c2 c3 c4 c5 c6 c7 c8 c9 c10, l = [c0, c1, c2, c3, c4, c5, c6, c7, c8, c9, c10] := by
  match l, h with
  | [c0, c1, c2, c3, c4, c5, c6, c7, c8, c9, c10], _ => exact ⟨c0, c1, c2, c3, c4, c5, c6, c7, c8, c9, c10, rfl⟩
theorem clist14 {α : Type} {l : List α} (h : l.length = 14) : ∃ c0 c1 c2 c3 c4 c5 c6 c7 c8 c9 c10 c11 c12 c13, l = [c0, c1, c2, c3, c4, c5, c6, c7, c8, c9, c10, c11, c12, c13] := by
  match l, h with
  | [c0, c1, c2, c3, c4, c5, c6, c7, c8, c9, c10, c11, c12, c13], _ => exact ⟨c0, c1, c2, c3, c4, c5, c6, c7, c8, c9, c10, c11, c12, c13, rfl⟩
theorem clist15 {α : Type} {l : List α} (h : l.length = 15) : ∃ c0 c1 c2 c3 c4 c5 c6 c7 c8 c9 c10 c11 c12 c13 c14, l = [c0, c1, c2, c3, c4, c5, c6, c7, c8, c9, c10, c11, c12, c13, c14] := by
  match l, h with
  | [c0, c1, c2, c3, c4, c5, c6, c7, c8, c9, c10, c11, c12, c13, c14], _ => exact ⟨c0, c1, c2, c3, c4, c5, c6, c7, c8, c9, c10, c11, c12, c13, c14, rfl⟩
theorem clist20 {α : Type} {l : List α} (h : l.length = 20) : ∃ c0 c1 c2 c3 c4 c5 c6 c7 c8 c9 c10 c11 c12 c13 c14 c15 c16 c17 c18 c19, l = [c0, c1, c2, c3, c4, c5, c6, c7, c8, c9, c10, c11, c12, c13, c14, c15, c16, c17, c18, c19] := by
  match l, h with
  | [c0, c1, c2, c3, c4, c5, c6, c7, c8, c9, c10, c11, c12, c13, c14, c15, c16, c17, c18, c19], _ => exact ⟨c0, c1, c2, c3, c4, c5, c6, c7, c8, c9, c10, c11, c12, c13, c14, c15, c16, c17, c18, c19, rfl⟩
theorem Tryz.cellsLi : Tryz.prog.cellsOf 27 = 1 := by kernel_rfl
theorem Tryz.cellsU64 : Tryz.prog.cellsOf 93 = 1 := by kernel_rfl
theorem Tryz.cellsCut : Tryz.prog.cellsOf 95 = 5 := by kernel_rfl
theorem Tryz.cellsRul : Tryz.prog.cellsOf 97 = 4 := by kernel_rfl
theorem Tryz.cellsSch : Tryz.prog.cellsOf 26 = 2 := by kernel_rfl
theorem Tryz.cellsLe : Tryz.prog.cellsOf 22 = 1 := by kernel_rfl
theorem Tryz.cellsLv : Tryz.prog.cellsOf 23 = 1 := by kernel_rfl
theorem Tryz.cellsVlt : Tryz.prog.cellsOf 99 = 15 := by kernel_rfl
theorem Tryz.cellsVw : Tryz.prog.cellsOf 29 = 7 := by kernel_rfl
theorem Tryz.cellsAcc : Tryz.prog.cellsOf 39 = 20 := by kernel_rfl
/-- An entry: its cells, and its body. -/
structure EnR where
  dv : Int
  sq : Int
  k : Int
  dy : Int
  bd : Hd
  pr : ByteArray
  bs : List Int
abbrev fEn (e : EnR) : List Value := [.int .i64 e.dv, .int .i64 e.sq, .int .i64 e.k, .int .i64 e.dy, .slice e.bd.a e.bd.n e.bd.c, .string e.pr]
theorem fEn_len : ∀ e, (fEn e).length = 6 := fun _ => rfl
/-- An entry's body in memory. -/
def EnOk (w : World) (B : Nat) (e : EnR) : Prop := Sl fB w B e.bd.a e.bd.n e.bs ∧ Byt e.bs ∧ e.bd.n ≤ e.bd.c ∧ e.bd.c ≤ 9223372036854775807 ∧ int64 e.dv ∧ int64 e.sq
/-- Entries in memory. -/
def EnIn (w : World) (B : Nat) (A : Option Addr) (n : Nat) (es : List EnR) : Prop := SlN fEn 6 w B A n es ∧ ∀ e ∈ es, EnOk w B e
theorem EnOk.up {w w' : World} {B B' : Nat} {e : EnR} (h : EnOk w B e) (hb : Below B' w w') (hB : B ≤ B') : EnOk w' B e := ⟨h.1.up hb hB, h.2⟩
theorem EnIn.up {w w' : World} {B B' n : Nat} {A : Option Addr} {es : List EnR} (h : EnIn w B A n es) (hb : Below B' w w') (hB : B ≤ B') : EnIn w' B A n es := ⟨h.1.up hb hB, fun e he => (h.2 e he).up hb hB⟩
/-- A view in memory. -/
structure VwIn (w : World) (B : Nat) (x : Vw) (es : List EnR) (vs : List VtR) (pubs drs : List ByteArray) (fks : List Int) : Prop where
  E : EnIn w B x.E.a x.E.n es
  V : VtIn w B x.V.a x.V.n vs
  P : Sl fT w B x.P.a x.P.n pubs
  D : Sl fT w B x.D.a x.D.n drs
  F : Sl I w B x.F.a x.F.n fks
  cs : x.E.n ≤ 9223372036854775807 ∧ x.E.n ≤ x.E.c ∧ x.V.n ≤ x.V.c ∧ x.P.n ≤ x.P.c ∧ x.D.n ≤ x.D.c ∧ x.F.n ≤ x.F.c
theorem VwIn.up {w w' : World} {B B' : Nat} {x : Vw} {es : List EnR} {vs : List VtR} {pubs drs : List ByteArray} {fks : List Int} (h : VwIn w B x es vs pubs drs fks) (hb : Below B' w w') (hB : B ≤ B') : VwIn w' B x es vs pubs drs fks :=
  ⟨h.E.up hb hB, h.V.up hb hB, h.P.up hb hB, h.D.up hb hB, h.F.up hb hB, h.cs⟩
instance : Inhabited VtR := ⟨⟨0, ⟨none, 0, 0⟩, 0, 0, 0, ⟨#[]⟩, 0, 0, 0, 0, 0, 0, 0, 0, 0, []⟩⟩
instance : Inhabited EnR := ⟨⟨0, 0, 0, 0, ⟨none, 0, 0⟩, ⟨#[]⟩, []⟩⟩
section
variable {H : Type} {enc : TypeId × Value → H} {W : World} {d : DataW H} {p : List MemPlace}
theorem in_ilist {fuel : Nat} {cs : List Value} {y : DataW H × List MemPlace} (h : DataW.trod enc Tryz.prog W 0 (fun _ => true) true fuel 27 cs = some y) : ∃ a n c xs, cs = [.slice a n c] ∧ n ≤ c ∧ c ≤ maxLen ∧ Sl I W W.heap.size a n xs := by
  obtain ⟨a, n, c, xs, e, h1, h0, h2, _⟩ := in_slice (f := fun x : Int => [I x]) (s := 1) (Pr := fun _ : Int => True) Tryz.underlying27 Tryz.cellsI (by decide) (fun _ => rfl) (fun _ _ _ h => by
    obtain ⟨z, e, _, _⟩ := DataW.trod_int Tryz.underlying3 h
    exact ⟨z, e, trivial⟩) h
  exact ⟨a, n, c, xs, e, h1, h0, h2.one⟩
theorem in_btsM {fuel : Nat} {cs : List Value} {y : DataW H × List MemPlace} (h : DataW.trod enc Tryz.prog W 0 (fun _ => true) true fuel 40 cs = some y) : ∃ a n c xs, cs = [.slice a n c] ∧ n ≤ c ∧ c ≤ maxLen ∧ Sl fB W W.heap.size a n xs ∧ Byt xs := by
  obtain ⟨a, n, c, xs, e, h1, h0, h2, h3⟩ := in_slice (f := fun s => [fB s]) (s := 1) (Pr := fun x : Int => 0 ≤ x ∧ x < 256) Tryz.underlying40 Tryz.cellsB (by decide) (fun _ => rfl) (fun _ _ _ h => by
    obtain ⟨z, e, _, hw⟩ := DataW.trod_int Tryz.underlying5 h
    refine ⟨z, e, ?_⟩
    simp [Lit.wf, IntKind.min, IntKind.max, IntKind.signed, IntKind.bits] at hw
    omega) h
  exact ⟨a, n, c, xs, e, h1, h0, h2.one, h3⟩
set_option maxRecDepth 20000 in
theorem in_cut {fuel : Nat} {cs : List Value} {x : DataW H × List MemPlace} (h : DataW.trod enc Tryz.prog W 0 (fun _ => true) true fuel 95 cs = some x) : ∃ c0 c1 c2 c3 c4 : Int, cs = [.int .i64 c0, .int .i64 c1, .int .i64 c2, .int .i64 c3, .int .u64 c4] := by
  obtain ⟨ys, n, _, _, hcl, hyl, hfld⟩ := DataW.trod_struct Tryz.underlying95 h
  rw [Tryz.cellsCut] at hcl
  obtain ⟨c0, c1, c2, c3, c4, rfl⟩ := clist5 hcl
  obtain ⟨y0, y1, y2, y3, y4, rfl⟩ := clist5 hyl
  have f0 : DataW.trod enc Tryz.prog W 0 (fun _ => true) true n 3 (([c0, c1, c2, c3, c4].drop 0).take (Tryz.prog.cellsOf 3)) = [y0, y1, y2, y3, y4][0]? := hfld 0 _ rfl
  rw [Tryz.cellsI] at f0
  have f1 : DataW.trod enc Tryz.prog W 0 (fun _ => true) true n 3 (([c0, c1, c2, c3, c4].drop 1).take (Tryz.prog.cellsOf 3)) = [y0, y1, y2, y3, y4][1]? := hfld 1 _ rfl
  rw [Tryz.cellsI] at f1
  have f2 : DataW.trod enc Tryz.prog W 0 (fun _ => true) true n 3 (([c0, c1, c2, c3, c4].drop 2).take (Tryz.prog.cellsOf 3)) = [y0, y1, y2, y3, y4][2]? := hfld 2 _ rfl
  rw [Tryz.cellsI] at f2
  have f3 : DataW.trod enc Tryz.prog W 0 (fun _ => true) true n 3 (([c0, c1, c2, c3, c4].drop 3).take (Tryz.prog.cellsOf 3)) = [y0, y1, y2, y3, y4][3]? := hfld 3 _ rfl
  rw [Tryz.cellsI] at f3
  have f4 : DataW.trod enc Tryz.prog W 0 (fun _ => true) true n 93 (([c0, c1, c2, c3, c4].drop 4).take (Tryz.prog.cellsOf 93)) = [y0, y1, y2, y3, y4][4]? := hfld 4 _ rfl
  rw [Tryz.cellsU64] at f4
  obtain ⟨z0, e0, _, s0⟩ := DataW.trod_int Tryz.underlying3 f0
  simp at e0
  subst e0
  obtain ⟨z1, e1, _, s1⟩ := DataW.trod_int Tryz.underlying3 f1
  simp at e1
  subst e1
  obtain ⟨z2, e2, _, s2⟩ := DataW.trod_int Tryz.underlying3 f2
  simp at e2
  subst e2
  obtain ⟨z3, e3, _, s3⟩ := DataW.trod_int Tryz.underlying3 f3
  simp at e3
  subst e3
  obtain ⟨z4, e4, _, s4⟩ := DataW.trod_int Tryz.underlying93 f4
  simp at e4
  subst e4
  exact ⟨z0, z1, z2, z3, z4, rfl⟩
set_option maxRecDepth 20000 in
theorem in_rul {fuel : Nat} {cs : List Value} {x : DataW H × List MemPlace} (h : DataW.trod enc Tryz.prog W 0 (fun _ => true) true fuel 97 cs = some x) : ∃ c0 c1 c2 c3 : Int, cs = [.int .i64 c0, .int .i64 c1, .int .i64 c2, .int .i64 c3] := by
  obtain ⟨ys, n, _, _, hcl, hyl, hfld⟩ := DataW.trod_struct Tryz.underlying97 h
  rw [Tryz.cellsRul] at hcl
  obtain ⟨c0, c1, c2, c3, rfl⟩ := clist4 hcl
  obtain ⟨y0, y1, y2, y3, rfl⟩ := clist4 hyl
  have f0 : DataW.trod enc Tryz.prog W 0 (fun _ => true) true n 3 (([c0, c1, c2, c3].drop 0).take (Tryz.prog.cellsOf 3)) = [y0, y1, y2, y3][0]? := hfld 0 _ rfl
  rw [Tryz.cellsI] at f0
  have f1 : DataW.trod enc Tryz.prog W 0 (fun _ => true) true n 3 (([c0, c1, c2, c3].drop 1).take (Tryz.prog.cellsOf 3)) = [y0, y1, y2, y3][1]? := hfld 1 _ rfl
  rw [Tryz.cellsI] at f1
  have f2 : DataW.trod enc Tryz.prog W 0 (fun _ => true) true n 3 (([c0, c1, c2, c3].drop 2).take (Tryz.prog.cellsOf 3)) = [y0, y1, y2, y3][2]? := hfld 2 _ rfl
  rw [Tryz.cellsI] at f2
  have f3 : DataW.trod enc Tryz.prog W 0 (fun _ => true) true n 3 (([c0, c1, c2, c3].drop 3).take (Tryz.prog.cellsOf 3)) = [y0, y1, y2, y3][3]? := hfld 3 _ rfl
  rw [Tryz.cellsI] at f3
  obtain ⟨z0, e0, _, s0⟩ := DataW.trod_int Tryz.underlying3 f0
  simp at e0
  subst e0
  obtain ⟨z1, e1, _, s1⟩ := DataW.trod_int Tryz.underlying3 f1
  simp at e1
  subst e1
  obtain ⟨z2, e2, _, s2⟩ := DataW.trod_int Tryz.underlying3 f2
  simp at e2
  subst e2
  obtain ⟨z3, e3, _, s3⟩ := DataW.trod_int Tryz.underlying3 f3
  simp at e3
  subst e3
  exact ⟨z0, z1, z2, z3, rfl⟩
set_option maxRecDepth 20000 in
theorem in_sch {fuel : Nat} {cs : List Value} {x : DataW H × List MemPlace} (h : DataW.trod enc Tryz.prog W 0 (fun _ => true) true fuel 26 cs = some x) : ∃ b h : Int, cs = [.int .i64 b, .int .i64 h] := by
  obtain ⟨ys, n, _, _, hcl, hyl, hfld⟩ := DataW.trod_struct Tryz.underlying26 h
  rw [Tryz.cellsSch] at hcl
  obtain ⟨c0, c1, rfl⟩ := clist2 hcl
  obtain ⟨y0, y1, rfl⟩ := clist2 hyl
  have f0 : DataW.trod enc Tryz.prog W 0 (fun _ => true) true n 3 (([c0, c1].drop 0).take (Tryz.prog.cellsOf 3)) = [y0, y1][0]? := hfld 0 _ rfl
  rw [Tryz.cellsI] at f0
  have f1 : DataW.trod enc Tryz.prog W 0 (fun _ => true) true n 3 (([c0, c1].drop 1).take (Tryz.prog.cellsOf 3)) = [y0, y1][1]? := hfld 1 _ rfl
  rw [Tryz.cellsI] at f1
  obtain ⟨z0, e0, _, s0⟩ := DataW.trod_int Tryz.underlying3 f0
  simp at e0
  subst e0
  obtain ⟨z1, e1, _, s1⟩ := DataW.trod_int Tryz.underlying3 f1
  simp at e1
  subst e1
  exact ⟨z0, z1, rfl⟩
set_option maxRecDepth 20000 in
theorem in_vlt {fuel : Nat} {cs : List Value} {x : DataW H × List MemPlace} (h : DataW.trod enc Tryz.prog W 0 (fun _ => true) true fuel 99 cs = some x) : ∃ v : VtR, cs = fVt v ∧ (Sl I W W.heap.size v.wr.a v.wr.n v.xs ∧ v.wr.n ≤ 9223372036854775807) := by
  obtain ⟨ys, n, _, _, hcl, hyl, hfld⟩ := DataW.trod_struct Tryz.underlying99 h
  rw [Tryz.cellsVlt] at hcl
  obtain ⟨c0, c1, c2, c3, c4, c5, c6, c7, c8, c9, c10, c11, c12, c13, c14, rfl⟩ := clist15 hcl
  obtain ⟨y0, y1, y2, y3, y4, y5, y6, y7, rfl⟩ := clist8 hyl
  have f0 : DataW.trod enc Tryz.prog W 0 (fun _ => true) true n 3 (([c0, c1, c2, c3, c4, c5, c6, c7, c8, c9, c10, c11, c12, c13, c14].drop 0).take (Tryz.prog.cellsOf 3)) = [y0, y1, y2, y3, y4, y5, y6, y7][0]? := hfld 0 _ rfl
  rw [Tryz.cellsI] at f0
  have f1 : DataW.trod enc Tryz.prog W 0 (fun _ => true) true n 27 (([c0, c1, c2, c3, c4, c5, c6, c7, c8, c9, c10, c11, c12, c13, c14].drop 1).take (Tryz.prog.cellsOf 27)) = [y0, y1, y2, y3, y4, y5, y6, y7][1]? := hfld 1 _ rfl
  rw [Tryz.cellsLi] at f1
  have f2 : DataW.trod enc Tryz.prog W 0 (fun _ => true) true n 3 (([c0, c1, c2, c3, c4, c5, c6, c7, c8, c9, c10, c11, c12, c13, c14].drop 2).take (Tryz.prog.cellsOf 3)) = [y0, y1, y2, y3, y4, y5, y6, y7][2]? := hfld 2 _ rfl
  rw [Tryz.cellsI] at f2
  have f3 : DataW.trod enc Tryz.prog W 0 (fun _ => true) true n 3 (([c0, c1, c2, c3, c4, c5, c6, c7, c8, c9, c10, c11, c12, c13, c14].drop 3).take (Tryz.prog.cellsOf 3)) = [y0, y1, y2, y3, y4, y5, y6, y7][3]? := hfld 3 _ rfl
  rw [Tryz.cellsI] at f3
  have f4 : DataW.trod enc Tryz.prog W 0 (fun _ => true) true n 3 (([c0, c1, c2, c3, c4, c5, c6, c7, c8, c9, c10, c11, c12, c13, c14].drop 4).take (Tryz.prog.cellsOf 3)) = [y0, y1, y2, y3, y4, y5, y6, y7][4]? := hfld 4 _ rfl
  rw [Tryz.cellsI] at f4
  have f5 : DataW.trod enc Tryz.prog W 0 (fun _ => true) true n 9 (([c0, c1, c2, c3, c4, c5, c6, c7, c8, c9, c10, c11, c12, c13, c14].drop 5).take (Tryz.prog.cellsOf 9)) = [y0, y1, y2, y3, y4, y5, y6, y7][5]? := hfld 5 _ rfl
  rw [Tryz.cellsS] at f5
  have f6 : DataW.trod enc Tryz.prog W 0 (fun _ => true) true n 95 (([c0, c1, c2, c3, c4, c5, c6, c7, c8, c9, c10, c11, c12, c13, c14].drop 6).take (Tryz.prog.cellsOf 95)) = [y0, y1, y2, y3, y4, y5, y6, y7][6]? := hfld 6 _ rfl
  rw [Tryz.cellsCut] at f6
  have f7 : DataW.trod enc Tryz.prog W 0 (fun _ => true) true n 97 (([c0, c1, c2, c3, c4, c5, c6, c7, c8, c9, c10, c11, c12, c13, c14].drop 11).take (Tryz.prog.cellsOf 97)) = [y0, y1, y2, y3, y4, y5, y6, y7][7]? := hfld 7 _ rfl
  rw [Tryz.cellsRul] at f7
  obtain ⟨z0, e0, _, s0⟩ := DataW.trod_int Tryz.underlying3 f0
  simp at e0
  subst e0
  obtain ⟨a1, n1, c1, x1, e1, l1, m1, h1⟩ := in_ilist f1
  simp at e1
  subst e1
  obtain ⟨z2, e2, _, s2⟩ := DataW.trod_int Tryz.underlying3 f2
  simp at e2
  subst e2
  obtain ⟨z3, e3, _, s3⟩ := DataW.trod_int Tryz.underlying3 f3
  simp at e3
  subst e3
  obtain ⟨z4, e4, _, s4⟩ := DataW.trod_int Tryz.underlying3 f4
  simp at e4
  subst e4
  obtain ⟨z5, e5, _, s5⟩ := DataW.trod_string Tryz.underlying9 f5
  simp at e5
  subst e5
  obtain ⟨q0, q1, q2, q3, q4, e6⟩ := in_cut f6
  simp at e6
  obtain ⟨rfl, rfl, rfl, rfl, rfl⟩ := e6
  obtain ⟨r0, r1, r2, r3, e7⟩ := in_rul f7
  simp at e7
  obtain ⟨rfl, rfl, rfl, rfl⟩ := e7
  exact ⟨⟨z0, ⟨a1, n1, c1⟩, z2, z3, z4, z5, q0, q1, q2, q3, q4, r0, r1, r2, r3, x1⟩, rfl, h1, Nat.le_trans l1 m1⟩
set_option maxRecDepth 20000 in
theorem in_enr {fuel : Nat} {cs : List Value} {x : DataW H × List MemPlace} (h : DataW.trod enc Tryz.prog W 0 (fun _ => true) true fuel 55 cs = some x) : ∃ v : EnR, cs = fEn v ∧ EnOk W W.heap.size v := by
  obtain ⟨ys, n, _, _, hcl, hyl, hfld⟩ := DataW.trod_struct Tryz.underlying55 h
  rw [Tryz.cellsEn] at hcl
  obtain ⟨c0, c1, c2, c3, c4, c5, rfl⟩ := clist6 hcl
  obtain ⟨y0, y1, y2, y3, y4, y5, rfl⟩ := clist6 hyl
  have f0 : DataW.trod enc Tryz.prog W 0 (fun _ => true) true n 3 (([c0, c1, c2, c3, c4, c5].drop 0).take (Tryz.prog.cellsOf 3)) = [y0, y1, y2, y3, y4, y5][0]? := hfld 0 _ rfl
  rw [Tryz.cellsI] at f0
  have f1 : DataW.trod enc Tryz.prog W 0 (fun _ => true) true n 3 (([c0, c1, c2, c3, c4, c5].drop 1).take (Tryz.prog.cellsOf 3)) = [y0, y1, y2, y3, y4, y5][1]? := hfld 1 _ rfl
  rw [Tryz.cellsI] at f1
  have f2 : DataW.trod enc Tryz.prog W 0 (fun _ => true) true n 3 (([c0, c1, c2, c3, c4, c5].drop 2).take (Tryz.prog.cellsOf 3)) = [y0, y1, y2, y3, y4, y5][2]? := hfld 2 _ rfl
  rw [Tryz.cellsI] at f2
  have f3 : DataW.trod enc Tryz.prog W 0 (fun _ => true) true n 3 (([c0, c1, c2, c3, c4, c5].drop 3).take (Tryz.prog.cellsOf 3)) = [y0, y1, y2, y3, y4, y5][3]? := hfld 3 _ rfl
  rw [Tryz.cellsI] at f3
  have f4 : DataW.trod enc Tryz.prog W 0 (fun _ => true) true n 40 (([c0, c1, c2, c3, c4, c5].drop 4).take (Tryz.prog.cellsOf 40)) = [y0, y1, y2, y3, y4, y5][4]? := hfld 4 _ rfl
  rw [Tryz.cellsLb] at f4
  have f5 : DataW.trod enc Tryz.prog W 0 (fun _ => true) true n 9 (([c0, c1, c2, c3, c4, c5].drop 5).take (Tryz.prog.cellsOf 9)) = [y0, y1, y2, y3, y4, y5][5]? := hfld 5 _ rfl
  rw [Tryz.cellsS] at f5
  obtain ⟨z0, e0, _, s0⟩ := DataW.trod_int Tryz.underlying3 f0
  simp at e0
  subst e0
  obtain ⟨z1, e1, _, s1⟩ := DataW.trod_int Tryz.underlying3 f1
  simp at e1
  subst e1
  obtain ⟨z2, e2, _, s2⟩ := DataW.trod_int Tryz.underlying3 f2
  simp at e2
  subst e2
  obtain ⟨z3, e3, _, s3⟩ := DataW.trod_int Tryz.underlying3 f3
  simp at e3
  subst e3
  obtain ⟨a4, n4, c4, x4, e4, l4, m4, h4, b4⟩ := in_btsM f4
  simp at e4
  subst e4
  obtain ⟨z5, e5, _, s5⟩ := DataW.trod_string Tryz.underlying9 f5
  simp at e5
  subst e5
  exact ⟨⟨z0, z1, z2, z3, ⟨a4, n4, c4⟩, z5, x4⟩, rfl, h4, b4, l4, m4, int64.of_wf s0, int64.of_wf s1⟩
theorem in_enrs {fuel : Nat} {cs : List Value} {y : DataW H × List MemPlace} (h : DataW.trod enc Tryz.prog W 0 (fun _ => true) true fuel 22 cs = some y) : ∃ a n c xs, cs = [.slice a n c] ∧ n ≤ c ∧ c ≤ maxLen ∧ EnIn W W.heap.size a n xs := by
  obtain ⟨a, n, c, xs, e, h1, h0, h2, h3⟩ := in_slice (f := fEn) (s := 6) (Pr := fun v : EnR => EnOk W W.heap.size v) Tryz.underlying22 Tryz.cellsEn (by decide) fEn_len (fun _ _ _ h => in_enr h) h
  exact ⟨a, n, c, xs, e, h1, h0, h2, h3⟩
theorem in_vlts {fuel : Nat} {cs : List Value} {y : DataW H × List MemPlace} (h : DataW.trod enc Tryz.prog W 0 (fun _ => true) true fuel 23 cs = some y) : ∃ a n c xs, cs = [.slice a n c] ∧ n ≤ c ∧ VtIn W W.heap.size a n xs := by
  obtain ⟨a, n, c, xs, e, h1, _, h2, h3⟩ := in_slice (f := fVt) (s := 15) (Pr := fun v : VtR => Sl I W W.heap.size v.wr.a v.wr.n v.xs ∧ v.wr.n ≤ 9223372036854775807) Tryz.underlying23 Tryz.cellsVlt (by decide) fVt_len (fun _ _ _ h => in_vlt h) h
  exact ⟨a, n, c, xs, e, h1, h2, h3⟩
set_option maxRecDepth 20000 in
theorem in_view {fuel : Nat} {cs : List Value} {x : DataW H × List MemPlace} (h : DataW.trod enc Tryz.prog W 0 (fun _ => true) true fuel 29 cs = some x) : ∃ (q : Vw) (es : List EnR) (vs : List VtR) (pubs drs : List ByteArray) (fks : List Int), cs = (cVw q).toList ∧ VwIn W W.heap.size q es vs pubs drs fks := by
  obtain ⟨ys, n, _, _, hcl, hyl, hfld⟩ := DataW.trod_struct Tryz.underlying29 h
  rw [Tryz.cellsVw] at hcl
  obtain ⟨c0, c1, c2, c3, c4, c5, c6, rfl⟩ := clist7 hcl
  obtain ⟨y0, y1, y2, y3, y4, y5, rfl⟩ := clist6 hyl
  have f0 : DataW.trod enc Tryz.prog W 0 (fun _ => true) true n 22 (([c0, c1, c2, c3, c4, c5, c6].drop 0).take (Tryz.prog.cellsOf 22)) = [y0, y1, y2, y3, y4, y5][0]? := hfld 0 _ rfl
  rw [Tryz.cellsLe] at f0
  have f1 : DataW.trod enc Tryz.prog W 0 (fun _ => true) true n 23 (([c0, c1, c2, c3, c4, c5, c6].drop 1).take (Tryz.prog.cellsOf 23)) = [y0, y1, y2, y3, y4, y5][1]? := hfld 1 _ rfl
  rw [Tryz.cellsLv] at f1
  have f2 : DataW.trod enc Tryz.prog W 0 (fun _ => true) true n 24 (([c0, c1, c2, c3, c4, c5, c6].drop 2).take (Tryz.prog.cellsOf 24)) = [y0, y1, y2, y3, y4, y5][2]? := hfld 2 _ rfl
  rw [Tryz.cellsLs] at f2
  have f3 : DataW.trod enc Tryz.prog W 0 (fun _ => true) true n 26 (([c0, c1, c2, c3, c4, c5, c6].drop 3).take (Tryz.prog.cellsOf 26)) = [y0, y1, y2, y3, y4, y5][3]? := hfld 3 _ rfl
  rw [Tryz.cellsSch] at f3
  have f4 : DataW.trod enc Tryz.prog W 0 (fun _ => true) true n 24 (([c0, c1, c2, c3, c4, c5, c6].drop 5).take (Tryz.prog.cellsOf 24)) = [y0, y1, y2, y3, y4, y5][4]? := hfld 4 _ rfl
  rw [Tryz.cellsLs] at f4
  have f5 : DataW.trod enc Tryz.prog W 0 (fun _ => true) true n 27 (([c0, c1, c2, c3, c4, c5, c6].drop 6).take (Tryz.prog.cellsOf 27)) = [y0, y1, y2, y3, y4, y5][5]? := hfld 5 _ rfl
  rw [Tryz.cellsLi] at f5
  obtain ⟨a0, n0, c0, x0, e0, l0, m0, h0⟩ := in_enrs f0
  simp at e0
  subst e0
  obtain ⟨a1, n1, c1, x1, e1, l1, h1⟩ := in_vlts f1
  simp at e1
  subst e1
  obtain ⟨a2, n2, c2, x2, e2, l2, h2⟩ := in_strs f2
  simp at e2
  subst e2
  obtain ⟨zb, zh, e3⟩ := in_sch f3
  simp at e3
  obtain ⟨rfl, rfl⟩ := e3
  obtain ⟨a4, n4, c4, x4, e4, l4, h4⟩ := in_strs f4
  simp at e4
  subst e4
  obtain ⟨a5, n5, c5, x5, e5, l5, m5, h5⟩ := in_ilist f5
  simp at e5
  subst e5
  exact ⟨⟨⟨a0, n0, c0⟩, ⟨a1, n1, c1⟩, ⟨a2, n2, c2⟩, zb, zh, ⟨a4, n4, c4⟩, ⟨a5, n5, c5⟩⟩, x0, x1, x2, x4, x5, rfl, ⟨h0, h1, h2, h4, h5, Nat.le_trans l0 m0, l0, l1, l2, l4, l5⟩⟩
set_option maxRecDepth 20000 in
theorem in_sigD {fuel : Nat} {cs : List Value} {x : DataW H × List MemPlace} (h : DataW.trod enc Tryz.prog W 0 (fun _ => true) true fuel 33 cs = some x) : ∃ (i : Int) (b c : Hd) (qs rs : List ByteArray), cs = [.int .i64 i, .slice b.a b.n b.c, .slice c.a c.n c.c] ∧ Sl fT W W.heap.size b.a b.n qs ∧ Sl fT W W.heap.size c.a c.n rs ∧ b.n ≤ b.c ∧ c.n ≤ c.c := by
  obtain ⟨ys, n, _, _, hcl, hyl, hfld⟩ := DataW.trod_struct Tryz.underlying33 h
  rw [Tryz.cellsSig] at hcl
  obtain ⟨c0, c1, c2, rfl⟩ := clist3 hcl
  obtain ⟨y0, y1, y2, rfl⟩ := clist3 hyl
  have f0 : DataW.trod enc Tryz.prog W 0 (fun _ => true) true n 3 (([c0, c1, c2].drop 0).take (Tryz.prog.cellsOf 3)) = [y0, y1, y2][0]? := hfld 0 _ rfl
  rw [Tryz.cellsI] at f0
  have f1 : DataW.trod enc Tryz.prog W 0 (fun _ => true) true n 24 (([c0, c1, c2].drop 1).take (Tryz.prog.cellsOf 24)) = [y0, y1, y2][1]? := hfld 1 _ rfl
  rw [Tryz.cellsLs] at f1
  have f2 : DataW.trod enc Tryz.prog W 0 (fun _ => true) true n 24 (([c0, c1, c2].drop 2).take (Tryz.prog.cellsOf 24)) = [y0, y1, y2][2]? := hfld 2 _ rfl
  rw [Tryz.cellsLs] at f2
  obtain ⟨z0, e0, _, s0⟩ := DataW.trod_int Tryz.underlying3 f0
  simp at e0
  subst e0
  obtain ⟨a1, n1, c1, x1, e1, l1, h1⟩ := in_strs f1
  simp at e1
  subst e1
  obtain ⟨a2, n2, c2, x2, e2, l2, h2⟩ := in_strs f2
  simp at e2
  subst e2
  exact ⟨z0, ⟨a1, n1, c1⟩, ⟨a2, n2, c2⟩, x1, x2, rfl, h1, h2, l1, l2⟩
set_option maxRecDepth 20000 in
theorem in_rcpD {fuel : Nat} {cs : List Value} {x : DataW H × List MemPlace} (h : DataW.trod enc Tryz.prog W 0 (fun _ => true) true fuel 35 cs = some x) : ∃ (r : Rcp) (ps qs rs : List ByteArray), cs = (cR r).toList ∧ RcIn W W.heap.size r ps qs rs ∧ r.pa.n ≤ r.pa.c ∧ okP r.s r.ix := by
  obtain ⟨ys, n, _, _, hcl, hyl, hfld⟩ := DataW.trod_struct Tryz.underlying35 h
  rw [Tryz.cellsRcp] at hcl
  obtain ⟨c0, c1, c2, c3, c4, c5, c6, c7, c8, c9, c10, c11, c12, c13, rfl⟩ := clist14 hcl
  obtain ⟨y0, y1, y2, y3, y4, y5, y6, y7, y8, y9, y10, rfl⟩ := clist11 hyl
  have f0 : DataW.trod enc Tryz.prog W 0 (fun _ => true) true n 3 (([c0, c1, c2, c3, c4, c5, c6, c7, c8, c9, c10, c11, c12, c13].drop 0).take (Tryz.prog.cellsOf 3)) = [y0, y1, y2, y3, y4, y5, y6, y7, y8, y9, y10][0]? := hfld 0 _ rfl
  rw [Tryz.cellsI] at f0
  have f1 : DataW.trod enc Tryz.prog W 0 (fun _ => true) true n 3 (([c0, c1, c2, c3, c4, c5, c6, c7, c8, c9, c10, c11, c12, c13].drop 1).take (Tryz.prog.cellsOf 3)) = [y0, y1, y2, y3, y4, y5, y6, y7, y8, y9, y10][1]? := hfld 1 _ rfl
  rw [Tryz.cellsI] at f1
  have f2 : DataW.trod enc Tryz.prog W 0 (fun _ => true) true n 31 (([c0, c1, c2, c3, c4, c5, c6, c7, c8, c9, c10, c11, c12, c13].drop 2).take (Tryz.prog.cellsOf 31)) = [y0, y1, y2, y3, y4, y5, y6, y7, y8, y9, y10][2]? := hfld 2 _ rfl
  rw [Tryz.cellsPid] at f2
  have f3 : DataW.trod enc Tryz.prog W 0 (fun _ => true) true n 3 (([c0, c1, c2, c3, c4, c5, c6, c7, c8, c9, c10, c11, c12, c13].drop 4).take (Tryz.prog.cellsOf 3)) = [y0, y1, y2, y3, y4, y5, y6, y7, y8, y9, y10][3]? := hfld 3 _ rfl
  rw [Tryz.cellsI] at f3
  have f4 : DataW.trod enc Tryz.prog W 0 (fun _ => true) true n 3 (([c0, c1, c2, c3, c4, c5, c6, c7, c8, c9, c10, c11, c12, c13].drop 5).take (Tryz.prog.cellsOf 3)) = [y0, y1, y2, y3, y4, y5, y6, y7, y8, y9, y10][4]? := hfld 4 _ rfl
  rw [Tryz.cellsI] at f4
  have f5 : DataW.trod enc Tryz.prog W 0 (fun _ => true) true n 3 (([c0, c1, c2, c3, c4, c5, c6, c7, c8, c9, c10, c11, c12, c13].drop 6).take (Tryz.prog.cellsOf 3)) = [y0, y1, y2, y3, y4, y5, y6, y7, y8, y9, y10][5]? := hfld 5 _ rfl
  rw [Tryz.cellsI] at f5
  have f6 : DataW.trod enc Tryz.prog W 0 (fun _ => true) true n 3 (([c0, c1, c2, c3, c4, c5, c6, c7, c8, c9, c10, c11, c12, c13].drop 7).take (Tryz.prog.cellsOf 3)) = [y0, y1, y2, y3, y4, y5, y6, y7, y8, y9, y10][6]? := hfld 6 _ rfl
  rw [Tryz.cellsI] at f6
  have f7 : DataW.trod enc Tryz.prog W 0 (fun _ => true) true n 3 (([c0, c1, c2, c3, c4, c5, c6, c7, c8, c9, c10, c11, c12, c13].drop 8).take (Tryz.prog.cellsOf 3)) = [y0, y1, y2, y3, y4, y5, y6, y7, y8, y9, y10][7]? := hfld 7 _ rfl
  rw [Tryz.cellsI] at f7
  have f8 : DataW.trod enc Tryz.prog W 0 (fun _ => true) true n 9 (([c0, c1, c2, c3, c4, c5, c6, c7, c8, c9, c10, c11, c12, c13].drop 9).take (Tryz.prog.cellsOf 9)) = [y0, y1, y2, y3, y4, y5, y6, y7, y8, y9, y10][8]? := hfld 8 _ rfl
  rw [Tryz.cellsS] at f8
  have f9 : DataW.trod enc Tryz.prog W 0 (fun _ => true) true n 24 (([c0, c1, c2, c3, c4, c5, c6, c7, c8, c9, c10, c11, c12, c13].drop 10).take (Tryz.prog.cellsOf 24)) = [y0, y1, y2, y3, y4, y5, y6, y7, y8, y9, y10][9]? := hfld 9 _ rfl
  rw [Tryz.cellsLs] at f9
  have f10 : DataW.trod enc Tryz.prog W 0 (fun _ => true) true n 33 (([c0, c1, c2, c3, c4, c5, c6, c7, c8, c9, c10, c11, c12, c13].drop 11).take (Tryz.prog.cellsOf 33)) = [y0, y1, y2, y3, y4, y5, y6, y7, y8, y9, y10][10]? := hfld 10 _ rfl
  rw [Tryz.cellsSig] at f10
  obtain ⟨z0, e0, _, s0⟩ := DataW.trod_int Tryz.underlying3 f0
  simp at e0
  subst e0
  obtain ⟨z1, e1, _, s1⟩ := DataW.trod_int Tryz.underlying3 f1
  simp at e1
  subst e1
  obtain ⟨za, zb, e2, s2⟩ := in_pid f2
  simp at e2
  obtain ⟨rfl, rfl⟩ := e2
  obtain ⟨z3, e3, _, s3⟩ := DataW.trod_int Tryz.underlying3 f3
  simp at e3
  subst e3
  obtain ⟨z4, e4, _, s4⟩ := DataW.trod_int Tryz.underlying3 f4
  simp at e4
  subst e4
  obtain ⟨z5, e5, _, s5⟩ := DataW.trod_int Tryz.underlying3 f5
  simp at e5
  subst e5
  obtain ⟨z6, e6, _, s6⟩ := DataW.trod_int Tryz.underlying3 f6
  simp at e6
  subst e6
  obtain ⟨z7, e7, _, s7⟩ := DataW.trod_int Tryz.underlying3 f7
  simp at e7
  subst e7
  obtain ⟨z8, e8, _, s8⟩ := DataW.trod_string Tryz.underlying9 f8
  simp at e8
  subst e8
  obtain ⟨a9, n9, c9, x9, e9, l9, h9⟩ := in_strs f9
  simp at e9
  subst e9
  obtain ⟨si, sb, sc, x10, x11, e10, h10, h11, l10, l11⟩ := in_sigD f10
  simp at e10
  obtain ⟨rfl, rfl, rfl⟩ := e10
  exact ⟨⟨z0, z1, za, zb, z3, z4, z5, z6, z7, z8, ⟨a9, n9, c9⟩, si, sb, sc⟩, x9, x10, x11, rfl, ⟨h9, h10, h11⟩, l9, s2⟩
set_option maxRecDepth 20000 in
theorem in_acc {fuel : Nat} {cs : List Value} {x : DataW H × List MemPlace} (h : DataW.trod enc Tryz.prog W 0 (fun _ => true) true fuel 39 cs = some x) : ∃ (dv sq : Int) (R : Rcp) (ps qs rs : List ByteArray) (st : ByteArray) (tx : Int) (no an : ByteArray), cs = (cA dv sq R st tx no an).toList ∧ RcIn W W.heap.size R ps qs rs ∧ R.pa.n ≤ R.pa.c := by
  obtain ⟨ys, n, _, _, hcl, hyl, hfld⟩ := DataW.trod_struct Tryz.underlying39 h
  rw [Tryz.cellsAcc] at hcl
  obtain ⟨c0, c1, c2, c3, c4, c5, c6, c7, c8, c9, c10, c11, c12, c13, c14, c15, c16, c17, c18, c19, rfl⟩ := clist20 hcl
  obtain ⟨y0, y1, y2, y3, rfl⟩ := clist4 hyl
  have f0 : DataW.trod enc Tryz.prog W 0 (fun _ => true) true n 3 (([c0, c1, c2, c3, c4, c5, c6, c7, c8, c9, c10, c11, c12, c13, c14, c15, c16, c17, c18, c19].drop 0).take (Tryz.prog.cellsOf 3)) = [y0, y1, y2, y3][0]? := hfld 0 _ rfl
  rw [Tryz.cellsI] at f0
  have f1 : DataW.trod enc Tryz.prog W 0 (fun _ => true) true n 3 (([c0, c1, c2, c3, c4, c5, c6, c7, c8, c9, c10, c11, c12, c13, c14, c15, c16, c17, c18, c19].drop 1).take (Tryz.prog.cellsOf 3)) = [y0, y1, y2, y3][1]? := hfld 1 _ rfl
  rw [Tryz.cellsI] at f1
  have f2 : DataW.trod enc Tryz.prog W 0 (fun _ => true) true n 35 (([c0, c1, c2, c3, c4, c5, c6, c7, c8, c9, c10, c11, c12, c13, c14, c15, c16, c17, c18, c19].drop 2).take (Tryz.prog.cellsOf 35)) = [y0, y1, y2, y3][2]? := hfld 2 _ rfl
  rw [Tryz.cellsRcp] at f2
  have f3 : DataW.trod enc Tryz.prog W 0 (fun _ => true) true n 37 (([c0, c1, c2, c3, c4, c5, c6, c7, c8, c9, c10, c11, c12, c13, c14, c15, c16, c17, c18, c19].drop 16).take (Tryz.prog.cellsOf 37)) = [y0, y1, y2, y3][3]? := hfld 3 _ rfl
  rw [Tryz.cellsTok] at f3
  obtain ⟨z0, e0, _, s0⟩ := DataW.trod_int Tryz.underlying3 f0
  simp at e0
  subst e0
  obtain ⟨z1, e1, _, s1⟩ := DataW.trod_int Tryz.underlying3 f1
  simp at e1
  subst e1
  obtain ⟨R, ps, qs, rs, e2, h2, l2, o2⟩ := in_rcpD f2
  simp at e2
  obtain ⟨rfl, rfl, rfl, rfl, rfl, rfl, rfl, rfl, rfl, rfl, rfl, rfl, rfl, rfl⟩ := e2
  obtain ⟨ts, ti, tn, ta, e3⟩ := in_tok f3
  simp at e3
  obtain ⟨rfl, rfl, rfl, rfl⟩ := e3
  exact ⟨z0, z1, R, ps, qs, rs, ts, ti, tn, ta, rfl, h2, l2⟩
set_option maxRecDepth 20000 in
theorem w_view {r : Reach} {b0 : Nat} {v : Value} (hv : Value.okWide Tryz.prog W r b0 29 v) (h : DataW.Trod enc Tryz.prog W 0 (fun _ => true) true 29 v d p) : ∃ (q : Vw) (es : List EnR) (vs : List VtR) (pubs drs : List ByteArray) (fks : List Int), v = .agg (cVw q) ∧ VwIn W W.heap.size q es vs pubs drs fks := by
  obtain ⟨cs, rfl, _⟩ := okWide_struct Tryz.underlying29 hv
  obtain ⟨fuel, hf⟩ := h
  obtain ⟨q, es, vs, pubs, drs, fks, e, h1⟩ := in_view hf
  refine ⟨q, es, vs, pubs, drs, fks, ?_, h1⟩
  congr 1
  have e' : cs.toList = (cVw q).toList := e
  have := congrArg List.toArray e'
  simpa using this
set_option maxRecDepth 20000 in
theorem w_acc {r : Reach} {b0 : Nat} {v : Value} (hv : Value.okWide Tryz.prog W r b0 39 v) (h : DataW.Trod enc Tryz.prog W 0 (fun _ => true) true 39 v d p) : ∃ (dv sq : Int) (R : Rcp) (ps qs rs : List ByteArray) (st : ByteArray) (tx : Int) (no an : ByteArray), v = .agg (cA dv sq R st tx no an) ∧ RcIn W W.heap.size R ps qs rs ∧ R.pa.n ≤ R.pa.c := by
  obtain ⟨cs, rfl, _⟩ := okWide_struct Tryz.underlying39 hv
  obtain ⟨fuel, hf⟩ := h
  obtain ⟨dv, sq, R, ps, qs, rs, st, tx, no, an, e, h1, h2⟩ := in_acc hf
  refine ⟨dv, sq, R, ps, qs, rs, st, tx, no, an, ?_, h1, h2⟩
  congr 1
  have e' : cs.toList = (cA dv sq R st tx no an).toList := e
  have := congrArg List.toArray e'
  simpa using this
end
end Go.Proofs.YtpdledjgbgalcaaGreatDoor
