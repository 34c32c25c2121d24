/- The arguments opened: a receipt with its lists' contents, a token. -/
import Derived.Test.YtnfkjnmdfijhnaaGreatDoorS4
import Derived.Test.YtnfkjnmdfijhnaaGreatDoorMk
namespace Go.Proofs.YtnfkjnmdfijhnaaGreatDoor
open Go.ChangeShapes Go.WideShapes Go.ChangeAt Go.RowKit Go.Deep
set_option linter.unusedVariables false
set_option linter.unusedSimpArgs false
section
variable {H : Type} {enc : TypeId × Value → H} {W : World} {d : DataW H} {p : List MemPlace}
theorem Tryz.cellsTok : Tryz.prog.cellsOf 37 = 4 := by kernel_rfl
set_option maxRecDepth 20000 in
theorem in_sigC {fuel : Nat} {cs : List Value} {x : DataW H × List MemPlace} (h : DataW.trod enc Tryz.prog W 0 (fun _ => true) true fuel 33 cs = some x) : ∃ (i : Int) (b c : Hd) (qs rs : List ByteArray), cs = [.int .i64 i, .slice b.a b.n b.c, .slice c.a c.n c.c] ∧ Sl fT W W.heap.size b.a b.n qs ∧ Sl fT W W.heap.size c.a c.n rs := by
  obtain ⟨ys, n, _, _, hcl, hyl, hfld⟩ := DataW.trod_struct Tryz.underlying33 h
  rw [Tryz.cellsSig] at hcl
  obtain ⟨c0, c1, c2, rfl⟩ := list3 hcl
  obtain ⟨y0, y1, y2, rfl⟩ := ylist3 hyl
  have f0 : DataW.trod enc Tryz.prog W 0 (fun _ => true) true n 3 (([c0, c1, c2].drop 0).take (Tryz.prog.cellsOf 3)) = [y0, y1, y2][0]? := hfld 0 _ rfl
  rw [Tryz.cellsI] at f0
  have f1 : DataW.trod enc Tryz.prog W 0 (fun _ => true) true n 25 (([c0, c1, c2].drop 1).take (Tryz.prog.cellsOf 25)) = [y0, y1, y2][1]? := hfld 1 _ rfl
  rw [Tryz.cellsLs] at f1
  have f2 : DataW.trod enc Tryz.prog W 0 (fun _ => true) true n 25 (([c0, c1, c2].drop 2).take (Tryz.prog.cellsOf 25)) = [y0, y1, y2][2]? := hfld 2 _ rfl
  rw [Tryz.cellsLs] at f2
  obtain ⟨z0, e0, _, s0⟩ := DataW.trod_int Tryz.underlying3 f0
  simp at e0
  subst e0
  obtain ⟨a1, n1, c1, x1, e1, l1, h1⟩ := in_strs f1
  simp at e1
  subst e1
  obtain ⟨a2, n2, c2, x2, e2, l2, h2⟩ := in_strs f2
  simp at e2
  subst e2
  exact ⟨z0, ⟨a1, n1, c1⟩, ⟨a2, n2, c2⟩, x1, x2, rfl, h1, h2⟩
set_option maxRecDepth 20000 in
theorem in_rcpC {fuel : Nat} {cs : List Value} {x : DataW H × List MemPlace} (h : DataW.trod enc Tryz.prog W 0 (fun _ => true) true fuel 35 cs = some x) : ∃ (r : Rcp) (ps qs rs : List ByteArray), cs = (cR r).toList ∧ RcIn W W.heap.size r ps qs rs := by
  obtain ⟨ys, n, _, _, hcl, hyl, hfld⟩ := DataW.trod_struct Tryz.underlying35 h
  rw [Tryz.cellsRcp] at hcl
  obtain ⟨c0, c1, c2, c3, c4, c5, c6, c7, c8, c9, c10, c11, c12, c13, rfl⟩ := list14 hcl
  obtain ⟨y0, y1, y2, y3, y4, y5, y6, y7, y8, y9, y10, rfl⟩ := ylist11 hyl
  have f0 : DataW.trod enc Tryz.prog W 0 (fun _ => true) true n 3 (([c0, c1, c2, c3, c4, c5, c6, c7, c8, c9, c10, c11, c12, c13].drop 0).take (Tryz.prog.cellsOf 3)) = [y0, y1, y2, y3, y4, y5, y6, y7, y8, y9, y10][0]? := hfld 0 _ rfl
  rw [Tryz.cellsI] at f0
  have f1 : DataW.trod enc Tryz.prog W 0 (fun _ => true) true n 3 (([c0, c1, c2, c3, c4, c5, c6, c7, c8, c9, c10, c11, c12, c13].drop 1).take (Tryz.prog.cellsOf 3)) = [y0, y1, y2, y3, y4, y5, y6, y7, y8, y9, y10][1]? := hfld 1 _ rfl
  rw [Tryz.cellsI] at f1
  have f2 : DataW.trod enc Tryz.prog W 0 (fun _ => true) true n 23 (([c0, c1, c2, c3, c4, c5, c6, c7, c8, c9, c10, c11, c12, c13].drop 2).take (Tryz.prog.cellsOf 23)) = [y0, y1, y2, y3, y4, y5, y6, y7, y8, y9, y10][2]? := hfld 2 _ rfl
  rw [Tryz.cellsPid] at f2
  have f3 : DataW.trod enc Tryz.prog W 0 (fun _ => true) true n 3 (([c0, c1, c2, c3, c4, c5, c6, c7, c8, c9, c10, c11, c12, c13].drop 4).take (Tryz.prog.cellsOf 3)) = [y0, y1, y2, y3, y4, y5, y6, y7, y8, y9, y10][3]? := hfld 3 _ rfl
  rw [Tryz.cellsI] at f3
  have f4 : DataW.trod enc Tryz.prog W 0 (fun _ => true) true n 3 (([c0, c1, c2, c3, c4, c5, c6, c7, c8, c9, c10, c11, c12, c13].drop 5).take (Tryz.prog.cellsOf 3)) = [y0, y1, y2, y3, y4, y5, y6, y7, y8, y9, y10][4]? := hfld 4 _ rfl
  rw [Tryz.cellsI] at f4
  have f5 : DataW.trod enc Tryz.prog W 0 (fun _ => true) true n 3 (([c0, c1, c2, c3, c4, c5, c6, c7, c8, c9, c10, c11, c12, c13].drop 6).take (Tryz.prog.cellsOf 3)) = [y0, y1, y2, y3, y4, y5, y6, y7, y8, y9, y10][5]? := hfld 5 _ rfl
  rw [Tryz.cellsI] at f5
  have f6 : DataW.trod enc Tryz.prog W 0 (fun _ => true) true n 3 (([c0, c1, c2, c3, c4, c5, c6, c7, c8, c9, c10, c11, c12, c13].drop 7).take (Tryz.prog.cellsOf 3)) = [y0, y1, y2, y3, y4, y5, y6, y7, y8, y9, y10][6]? := hfld 6 _ rfl
  rw [Tryz.cellsI] at f6
  have f7 : DataW.trod enc Tryz.prog W 0 (fun _ => true) true n 3 (([c0, c1, c2, c3, c4, c5, c6, c7, c8, c9, c10, c11, c12, c13].drop 8).take (Tryz.prog.cellsOf 3)) = [y0, y1, y2, y3, y4, y5, y6, y7, y8, y9, y10][7]? := hfld 7 _ rfl
  rw [Tryz.cellsI] at f7
  have f8 : DataW.trod enc Tryz.prog W 0 (fun _ => true) true n 9 (([c0, c1, c2, c3, c4, c5, c6, c7, c8, c9, c10, c11, c12, c13].drop 9).take (Tryz.prog.cellsOf 9)) = [y0, y1, y2, y3, y4, y5, y6, y7, y8, y9, y10][8]? := hfld 8 _ rfl
  rw [Tryz.cellsS] at f8
  have f9 : DataW.trod enc Tryz.prog W 0 (fun _ => true) true n 25 (([c0, c1, c2, c3, c4, c5, c6, c7, c8, c9, c10, c11, c12, c13].drop 10).take (Tryz.prog.cellsOf 25)) = [y0, y1, y2, y3, y4, y5, y6, y7, y8, y9, y10][9]? := hfld 9 _ rfl
  rw [Tryz.cellsLs] at f9
  have f10 : DataW.trod enc Tryz.prog W 0 (fun _ => true) true n 33 (([c0, c1, c2, c3, c4, c5, c6, c7, c8, c9, c10, c11, c12, c13].drop 11).take (Tryz.prog.cellsOf 33)) = [y0, y1, y2, y3, y4, y5, y6, y7, y8, y9, y10][10]? := hfld 10 _ rfl
  rw [Tryz.cellsSig] at f10
  obtain ⟨z0, e0, _, s0⟩ := DataW.trod_int Tryz.underlying3 f0
  simp at e0
  subst e0
  obtain ⟨z1, e1, _, s1⟩ := DataW.trod_int Tryz.underlying3 f1
  simp at e1
  subst e1
  obtain ⟨z2a, z2b, e2, s2⟩ := in_pid f2
  simp at e2
  obtain ⟨rfl, rfl⟩ := e2
  obtain ⟨z3, e3, _, s3⟩ := DataW.trod_int Tryz.underlying3 f3
  simp at e3
  subst e3
  obtain ⟨z4, e4, _, s4⟩ := DataW.trod_int Tryz.underlying3 f4
  simp at e4
  subst e4
  obtain ⟨z5, e5, _, s5⟩ := DataW.trod_int Tryz.underlying3 f5
  simp at e5
  subst e5
  obtain ⟨z6, e6, _, s6⟩ := DataW.trod_int Tryz.underlying3 f6
  simp at e6
  subst e6
  obtain ⟨z7, e7, _, s7⟩ := DataW.trod_int Tryz.underlying3 f7
  simp at e7
  subst e7
  obtain ⟨z8, e8, _, s8⟩ := DataW.trod_string Tryz.underlying9 f8
  simp at e8
  subst e8
  obtain ⟨a9, n9, c9, x9, e9, l9, h9⟩ := in_strs f9
  simp at e9
  subst e9
  obtain ⟨z10a, z10b, z10c, x10, x11, e10, h10, h11⟩ := in_sigC f10
  simp at e10
  obtain ⟨rfl, rfl, rfl⟩ := e10
  exact ⟨⟨z0, z1, z2a, z2b, z3, z4, z5, z6, z7, z8, ⟨a9, n9, c9⟩, z10a, z10b, z10c⟩, x9, x10, x11, rfl, h9, h10, h11⟩
set_option maxRecDepth 20000 in
theorem in_tok {fuel : Nat} {cs : List Value} {x : DataW H × List MemPlace} (h : DataW.trod enc Tryz.prog W 0 (fun _ => true) true fuel 37 cs = some x) : ∃ (s : ByteArray) (i : Int) (no an : ByteArray), cs = [.string s, .int .i64 i, .string no, .string an] := by
  obtain ⟨ys, n, _, _, hcl, hyl, hfld⟩ := DataW.trod_struct Tryz.underlying37 h
  rw [Tryz.cellsTok] at hcl
  obtain ⟨c0, c1, c2, c3, rfl⟩ := list4 hcl
  obtain ⟨y0, y1, y2, rfl⟩ := ylist3 hyl
  have f0 : DataW.trod enc Tryz.prog W 0 (fun _ => true) true n 23 (([c0, c1, c2, c3].drop 0).take (Tryz.prog.cellsOf 23)) = [y0, y1, y2][0]? := hfld 0 _ rfl
  rw [Tryz.cellsPid] at f0
  have f1 : DataW.trod enc Tryz.prog W 0 (fun _ => true) true n 9 (([c0, c1, c2, c3].drop 2).take (Tryz.prog.cellsOf 9)) = [y0, y1, y2][1]? := hfld 1 _ rfl
  rw [Tryz.cellsS] at f1
  have f2 : DataW.trod enc Tryz.prog W 0 (fun _ => true) true n 9 (([c0, c1, c2, c3].drop 3).take (Tryz.prog.cellsOf 9)) = [y0, y1, y2][2]? := hfld 2 _ rfl
  rw [Tryz.cellsS] at f2
  obtain ⟨z0a, z0b, e0, s0⟩ := in_pid f0
  simp at e0
  obtain ⟨rfl, rfl⟩ := e0
  obtain ⟨z1, e1, _, s1⟩ := DataW.trod_string Tryz.underlying9 f1
  simp at e1
  subst e1
  obtain ⟨z2, e2, _, s2⟩ := DataW.trod_string Tryz.underlying9 f2
  simp at e2
  subst e2
  exact ⟨z0a, z0b, z1, z2, rfl⟩
set_option maxRecDepth 20000 in
theorem w_rcp {r : Reach} {b0 : Nat} {v : Value} (hv : Value.okWide Tryz.prog W r b0 35 v) (h : DataW.Trod enc Tryz.prog W 0 (fun _ => true) true 35 v d p) : ∃ (q : Rcp) (ps qs rs : List ByteArray), v = .agg (cR q) ∧ RcIn W W.heap.size q ps qs rs := by
  obtain ⟨cs, rfl, _⟩ := okWide_struct Tryz.underlying35 hv
  obtain ⟨fuel, hf⟩ := h
  obtain ⟨q, ps, qs, rs, e, h1⟩ := in_rcpC hf
  refine ⟨q, ps, qs, rs, ?_, h1⟩
  congr 1
  have e' : cs.toList = (cR q).toList := e
  have := congrArg List.toArray e'
  simpa using this
set_option maxRecDepth 20000 in
theorem w_tok {r : Reach} {b0 : Nat} {v : Value} (hv : Value.okWide Tryz.prog W r b0 37 v) (h : DataW.Trod enc Tryz.prog W 0 (fun _ => true) true 37 v d p) : ∃ (s : ByteArray) (i : Int) (no an : ByteArray), v = .agg #[.string s, .int .i64 i, .string no, .string an] := by
  obtain ⟨cs, rfl, _⟩ := okWide_struct Tryz.underlying37 hv
  obtain ⟨fuel, hf⟩ := h
  obtain ⟨s, i, no, an, e⟩ := in_tok hf
  refine ⟨s, i, no, an, ?_⟩
  congr 1
  have e' : cs.toList = [.string s, .int .i64 i, .string no, .string an] := e
  have := congrArg List.toArray e'
  simpa using this
end
end Go.Proofs.YtnfkjnmdfijhnaaGreatDoor
