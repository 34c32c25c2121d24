/- What the row's premise on package sha256's tables gives the walks. An entry of the log opened. -/
import Derived.Test.YtnfkjnmdfijhnaaGreatDoorRows
import Derived.Test.YtnfkjnmdfijhnaaGreatDoorZ8
import Derived.ProofKit
import Derived.LaidMore
import Derived.OpenShut
import Derived.Stop.Joined
import Derived.Test.YtnfkjnmdfijhnaaGreatDoorMk
namespace Go.Proofs.YtnfkjnmdfijhnaaGreatDoor
open Go.ChangeShapes Go.WideShapes Go.ChangeAt Go.WideMaps Go.WideElems Go.RowKit
set_option linter.unusedVariables false
set_option linter.unusedSimpArgs false

theorem gInit : Tryz.prog.globalNamed "kinkeep/sha256.initial" = some 0 := by kernel_rfl
theorem gCons : Tryz.prog.globalNamed "kinkeep/sha256.constants" = some 1 := by kernel_rfl
theorem tInit : (Tryz.prog.globals[0]?).map (·.type) = some 175 := by kernel_rfl
theorem tCons : (Tryz.prog.globals[1]?).map (·.type) = some 180 := by kernel_rfl
abbrev laidTs {H : Type} : List (String × DataW H) := [("kinkeep/sha256.initial", Rows.laid_kinkeep_sha256_initial), ("kinkeep/sha256.constants", Rows.laid_kinkeep_sha256_constants)]
theorem door_met (os : Os) (args : Array Value) : laidMetH Tryz.prog laidTs ((World.doorLaid Tryz.prog 400 os).forCall (fun _ _ => 0) ⟨#[], args, []⟩).memory :=
  laidMetH_of_parts3 (fuel := 8) (laidMet_of_run' 8 (by kernel_rfl) (by kernel_rfl)) (by kernel_rfl) (by kernel_rfl)
theorem c32 : Tryz.prog.cellsOf 174 = 1 := by kernel_rfl
theorem cells_tab {W : World} {m : Nat} {cs : List Value} {xs : List (DataW Unit × List MemPlace)} {tab : List Int} {n : Nat} {D : DataW Unit} (hD : D = .agg (tab.map fun x => .lit (.int .u32 x))) {p : List MemPlace} (hx : (D, p) = (DataW.agg (xs.map fun x => x.fst), xs.flatMap fun x => x.snd)) (hn : xs.length = n)
    (hel : ∀ i, i < n → DataW.trod (fun _ => ()) Tryz.prog W 0 (fun _ => true) false m 174 ((cs.drop (i * Tryz.prog.cellsOf 174)).take (Tryz.prog.cellsOf 174)) = xs[i]?) (i : Nat) (x : Int) (hi : tab[i]? = some x) : cs[i]? = some (U32 x) := by
  simp only [Prod.mk.injEq] at hx
  have h1 := hx.1
  rw [hD] at h1
  injection h1 with h1
  have h2 := congrArg (fun l => l[i]?) h1
  simp only [List.getElem?_map, hi, Option.map_some] at h2
  cases hd : xs[i]? with
  | none => rw [hd] at h2; cases h2
  | some d =>
    rw [hd] at h2
    simp only [Option.map_some, Option.some.injEq] at h2
    have hin : i < n := by rw [← hn]; exact (List.getElem?_eq_some_iff.1 hd).1
    have h3 := hel i hin
    rw [hd, c32, Nat.mul_one] at h3
    obtain ⟨k, e1, e2, _⟩ := DataW.trod_int Tryz.underlying174 h3
    rw [e2] at h2
    injection h2 with h2
    injection h2 with _ h2
    subst h2
    have h4 := congrArg List.head? e1
    rw [List.head?_take] at h4
    simpa using h4
theorem glob_of_laid {W : World} (h : laidMetH Tryz.prog laidTs W) : Glob W := by
  rw [MakeChecks.laidMetH_plain _ _ _ (by kernel_rfl)] at h
  obtain ⟨ps, ⟨g0, t0, cs0, f0, p0, q0, hg0, ht0, hv0, hd0, ⟨g1, t1, cs1, f1, p1, q1, hg1, ht1, hv1, hd1, _, _⟩, _⟩, _, _⟩ := h
  obtain rfl := Option.some.inj (gInit.symm.trans hg0)
  obtain rfl := Option.some.inj (gCons.symm.trans hg1)
  obtain rfl := Option.some.inj (tInit.symm.trans ht0)
  obtain rfl := Option.some.inj (tCons.symm.trans ht1)
  obtain ⟨xs0, m0, rfl, hx0, hlen0, hn0, hel0⟩ := DataW.trod_array Tryz.underlying175 hd0
  obtain ⟨xs1, m1, rfl, hx1, hlen1, hn1, hel1⟩ := DataW.trod_array Tryz.underlying180 hd1
  have g0 := cells_tab (tab := hTab.list) (by rfl) hx0 hn0 hel0
  have g1 := cells_tab (tab := kTab) (by rfl) hx1 hn1 hel1
  have c0 : ∀ (i : Nat) (x : Int), hTab.list[i]? = some x → W.cell? ⟨0, i, none⟩ = some (U32 x) := fun i x hi => by
    have h1 := World.var?_cell hg0 hv0 i
    rw [h1]
    have := g0 i x hi
    simpa using this
  have c1 : ∀ (i : Nat) (x : Int), kTab[i]? = some x → W.cell? ⟨1, i, none⟩ = some (U32 x) := fun i x hi => by
    have h1 := World.var?_cell hg1 hv1 i
    rw [h1]
    have := g1 i x hi
    simpa using this
  refine ⟨c1, c0, ?_⟩
  have h := c1 0 _ rfl
  rcases Nat.lt_or_ge 1 W.heap.size with h1 | h1
  · exact h1
  · exfalso
    unfold World.cell? at h
    rw [Array.getElem?_eq_none h1] at h
    cases h
end Go.Proofs.YtnfkjnmdfijhnaaGreatDoor
namespace Go.Proofs.YtnfkjnmdfijhnaaGreatDoor
open Go.ChangeShapes Go.WideShapes Go.ChangeAt Go.RowKit Go.Deep
set_option linter.unusedVariables false
set_option linter.unusedSimpArgs false

section
variable {H : Type} {enc : TypeId × Value → H} {W : World} {d : DataW H} {p : List MemPlace}
theorem Tryz.cellsEn : Tryz.prog.cellsOf 45 = 6 := by kernel_rfl
theorem Tryz.cellsIn : Tryz.prog.cellsOf 3 = 1 := by kernel_rfl
theorem list6 {α : Type} {l : List α} (h : l.length = 6) : ∃ c0 c1 c2 c3 c4 c5, l = [c0, c1, c2, c3, c4, c5] := by
  match l, h with
  | [c0, c1, c2, c3, c4, c5], _ => exact ⟨c0, c1, c2, c3, c4, c5, rfl⟩
set_option maxRecDepth 20000 in
theorem in_ent {fuel : Nat} {cs : List Value} {x : DataW H × List MemPlace} (h : DataW.trod enc Tryz.prog W 0 (fun _ => true) true fuel 45 cs = some x) : ∃ (dv sq k dy : Int) (a : Option Addr) (n c : Nat) (xs : List Int) (pr : ByteArray), cs = [.int .i64 dv, .int .i64 sq, .int .i64 k, .int .i64 dy, .slice a n c, .string pr] ∧ n ≤ c ∧ Sl fB W W.heap.size a n xs ∧ Byt xs := by
  obtain ⟨ys, n, _, _, hcl, hyl, hfld⟩ := DataW.trod_struct Tryz.underlying45 h
  rw [Tryz.cellsEn] at hcl
  obtain ⟨c0, c1, c2, c3, c4, c5, rfl⟩ := list6 hcl
  obtain ⟨y0, y1, y2, y3, y4, y5, rfl⟩ := list6 hyl
  have f0 : DataW.trod enc Tryz.prog W 0 (fun _ => true) true n 3 (([c0, c1, c2, c3, c4, c5].drop 0).take (Tryz.prog.cellsOf 3)) = [y0, y1, y2, y3, y4, y5][0]? := hfld 0 _ rfl
  rw [Tryz.cellsIn] at f0
  have f1 : DataW.trod enc Tryz.prog W 0 (fun _ => true) true n 3 (([c0, c1, c2, c3, c4, c5].drop 1).take (Tryz.prog.cellsOf 3)) = [y0, y1, y2, y3, y4, y5][1]? := hfld 1 _ rfl
  rw [Tryz.cellsIn] at f1
  have f2 : DataW.trod enc Tryz.prog W 0 (fun _ => true) true n 3 (([c0, c1, c2, c3, c4, c5].drop 2).take (Tryz.prog.cellsOf 3)) = [y0, y1, y2, y3, y4, y5][2]? := hfld 2 _ rfl
  rw [Tryz.cellsIn] at f2
  have f3 : DataW.trod enc Tryz.prog W 0 (fun _ => true) true n 3 (([c0, c1, c2, c3, c4, c5].drop 3).take (Tryz.prog.cellsOf 3)) = [y0, y1, y2, y3, y4, y5][3]? := hfld 3 _ rfl
  rw [Tryz.cellsIn] at f3
  have f4 : DataW.trod enc Tryz.prog W 0 (fun _ => true) true n 24 (([c0, c1, c2, c3, c4, c5].drop 4).take (Tryz.prog.cellsOf 24)) = [y0, y1, y2, y3, y4, y5][4]? := hfld 4 _ rfl
  rw [Tryz.cellsLb] at f4
  have f5 : DataW.trod enc Tryz.prog W 0 (fun _ => true) true n 9 (([c0, c1, c2, c3, c4, c5].drop 5).take (Tryz.prog.cellsOf 9)) = [y0, y1, y2, y3, y4, y5][5]? := hfld 5 _ rfl
  rw [Tryz.cellsS] at f5
  obtain ⟨z0, e0, _, _⟩ := DataW.trod_int Tryz.underlying3 f0
  simp at e0
  subst e0
  obtain ⟨z1, e1, _, _⟩ := DataW.trod_int Tryz.underlying3 f1
  simp at e1
  subst e1
  obtain ⟨z2, e2, _, _⟩ := DataW.trod_int Tryz.underlying3 f2
  simp at e2
  subst e2
  obtain ⟨z3, e3, _, _⟩ := DataW.trod_int Tryz.underlying3 f3
  simp at e3
  subst e3
  obtain ⟨a, m, c, xs, e4, h1, h2, h3⟩ := in_bts f4
  simp at e4
  subst e4
  obtain ⟨z5, e5, _, _⟩ := DataW.trod_string Tryz.underlying9 f5
  simp at e5
  subst e5
  exact ⟨z0, z1, z2, z3, a, m, c, xs, z5, rfl, h1, h2, h3⟩
set_option maxRecDepth 20000 in
/-- An entry that came in. -/
theorem w_ent {r : Reach} {b0 : Nat} {v : Value} (hv : Value.okWide Tryz.prog W r b0 45 v) (h : DataW.Trod enc Tryz.prog W 0 (fun _ => true) true 45 v d p) : ∃ (dv sq k dy : Int) (a : Option Addr) (n c : Nat) (xs : List Int) (pr : ByteArray), v = .agg #[.int .i64 dv, .int .i64 sq, .int .i64 k, .int .i64 dy, .slice a n c, .string pr] ∧ n ≤ c ∧ Sl fB W W.heap.size a n xs ∧ Byt xs := by
  obtain ⟨cs, rfl, _⟩ := okWide_struct Tryz.underlying45 hv
  obtain ⟨fuel, hf⟩ := h
  obtain ⟨dv, sq, k, dy, a, n, c, xs, pr, e, h1⟩ := in_ent hf
  refine ⟨dv, sq, k, dy, a, n, c, xs, pr, ?_, h1⟩
  congr 1
  have e' : cs.toList = [.int .i64 dv, .int .i64 sq, .int .i64 k, .int .i64 dy, .slice a n c, .string pr] := e
  have := congrArg List.toArray e'
  simpa using this
end
end Go.Proofs.YtnfkjnmdfijhnaaGreatDoor
