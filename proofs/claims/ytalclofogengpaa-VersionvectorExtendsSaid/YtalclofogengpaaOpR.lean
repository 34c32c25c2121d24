/- Arguments opened: a slice of ranges. -/
import Derived.Test.YtalclofogengpaaLwI
import Derived.Test.YtalclofogengpaaOp
import Derived.WalkKit
import Derived.ProofKit
import Derived.OpenShut
import Derived.Deep.Slices
import Derived.Deep.Fields
namespace Go.Proofs.Ytalclofogengpaa
open Go.ChangeShapes Go.WideShapes Go.ChangeAt Go.RowKit Go.Deep

theorem Try.cells34 : Try.prog.cellsOf 34 = 3 := by kernel_rfl
theorem Try.cells3 : Try.prog.cellsOf 3 = 1 := by kernel_rfl

section
variable {H : Type} {enc : TypeId × Value → H} {W : World} {d : DataW H} {p : List MemPlace}
theorem in_rgs {a : Option Addr} {len cap : Nat} (h : DataW.Trod enc Try.prog W 0 (fun _ => true) true 29 (.slice a len cap) d p) : ∃ rs, SlN fR 3 W W.heap.size a len rs := by
  obtain ⟨fuel, hf⟩ := h
  rcases open_slice Try.underlying29 hf with ⟨hcs, _⟩ | ⟨x, l, c, m, nn, D, Pl, hcs, _, hl, hm, hmm, _, hi⟩
  · simp [Value.cells] at hcs
    obtain ⟨rfl, rfl, rfl⟩ := hcs
    exact ⟨[], SlN.nil⟩
  · simp [Value.cells] at hcs
    obtain ⟨rfl, rfl, rfl⟩ := hcs
    simp only [if_true] at hmm
    subst hmm
    have each : ∀ i, i < len → ∃ r : Rg, ∀ j v, (fR r)[j]? = some v → W.cell? (x.add (i * 3 + j)) = some v := by
      intro i hil
      obtain ⟨cs', hc, ht'⟩ := hi i (by omega)
      rw [Try.cells34] at hc
      obtain ⟨_, hcl, hat⟩ := World.cells?_some hc
      obtain ⟨ys, n', _, _, _, hyl, hfld⟩ := DataW.trod_struct Try.underlying34 ht'
      match cs', hcl with
      | [c0, c1, c2], _ =>
        match ys, hyl with
        | [y0, y1, y2], _ =>
          have f0 : DataW.trod enc Try.prog W 0 (fun _ => true) true n' 3 (([c0, c1, c2].drop 0).take (Try.prog.cellsOf 3)) = [y0, y1, y2][0]? := hfld 0 _ rfl
          have f1 : DataW.trod enc Try.prog W 0 (fun _ => true) true n' 3 (([c0, c1, c2].drop 1).take (Try.prog.cellsOf 3)) = [y0, y1, y2][1]? := hfld 1 _ rfl
          have f2 : DataW.trod enc Try.prog W 0 (fun _ => true) true n' 3 (([c0, c1, c2].drop 2).take (Try.prog.cellsOf 3)) = [y0, y1, y2][2]? := hfld 2 _ rfl
          rw [Try.cells3] at f0 f1 f2
          obtain ⟨z0, e0, _⟩ := DataW.trod_int Try.underlying3 f0
          obtain ⟨z1, e1, _⟩ := DataW.trod_int Try.underlying3 f1
          obtain ⟨z2, e2, _⟩ := DataW.trod_int Try.underlying3 f2
          simp at e0 e1 e2
          subst e0 e1 e2
          refine ⟨⟨z0, z1, z2⟩, fun j v hv => ?_⟩
          have hj : j < 3 := (List.getElem?_eq_some_iff.1 hv).1
          rw [← Go.Deep.add_add, hat j hj]
          exact hv
    haveI : Inhabited Rg := ⟨⟨0, 0, 0⟩⟩
    obtain ⟨R, hR⟩ := choose_lt each
    refine ⟨(List.range len).map R, by simp, fun hn => ?_⟩
    simp at hn
    have h0 := hR 0 hn 0 _ rfl
    obtain ⟨b, off, spot⟩ := x
    have hspot : spot = none := by simpa [Addr.add] using World.cell?_spot h0
    subst hspot
    refine ⟨b, off, rfl, block_lt_of_cell (a := ⟨b, off, none⟩) (by simpa [Addr.add] using h0), fun i z hz' j v hv => ?_⟩
    rw [List.getElem?_map] at hz'
    have hil : i < len := by
      rcases Nat.lt_or_ge i len with h | h
      · exact h
      · rw [List.getElem?_eq_none (by simpa using h)] at hz'; cases hz'
    rw [List.getElem?_range hil] at hz'
    cases hz'
    have := hR i hil j v hv
    rw [Addr.add_mid] at this
    exact this
end
end Go.Proofs.Ytalclofogengpaa
