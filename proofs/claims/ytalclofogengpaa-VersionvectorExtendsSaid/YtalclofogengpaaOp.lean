/- Arguments opened: a slice of ints; a slice of slices of ints. -/
import Derived.Test.YtalclofogengpaaLwH
import Derived.WalkKit
import Derived.ProofKit
import Derived.OpenShut
import Derived.Deep.Matrix
namespace Go.Proofs.Ytalclofogengpaa
open Go.ChangeShapes Go.WideShapes Go.ChangeAt Go.RowKit Go.Deep

section
variable {H : Type} {enc : TypeId × Value → H} {W : World} {d : DataW H} {p : List MemPlace}
theorem in_ints {a : Option Addr} {len cap : Nat} (h : DataW.Trod enc Try.prog W 0 (fun _ => true) true 22 (.slice a len cap) d p) : ∃ zs, IsRow .i64 W a len cap zs := by
  obtain ⟨fuel, hf⟩ := h
  rcases open_ints Try.underlying22 Try.underlying3 (by kernel_rfl) hf with ⟨hcs, _⟩ | ⟨x, l, c, zs, hcs, _, hl, hm, hz, _, hcell, hwz⟩
  · simp [Value.cells] at hcs
    obtain ⟨rfl, rfl, rfl⟩ := hcs
    exact ⟨[], .inl ⟨rfl, rfl, rfl, rfl⟩⟩
  · simp [Value.cells] at hcs
    obtain ⟨rfl, rfl, rfl⟩ := hcs
    exact ⟨zs, .inr ⟨_, rfl, hl, hm, by simpa using hz, hcell, hwz⟩⟩

theorem in_rows {a : Option Addr} {len cap : Nat} (h : DataW.Trod enc Try.prog W 0 (fun _ => true) true 35 (.slice a len cap) d p) : ∃ vs, RowsIn W W.heap.size a len vs := by
  obtain ⟨fuel, hf⟩ := h
  rcases open_int_rows Try.underlying35 Try.underlying22 Try.underlying3 (by kernel_rfl) (by kernel_rfl) hf with ⟨hcs, _⟩ | ⟨x, l, c, A, L, C, Z, hcs, _, hl, hm, _, hr⟩
  · simp [Value.cells] at hcs
    obtain ⟨rfl, rfl, rfl⟩ := hcs
    exact ⟨[], [], ⟨rfl, SL.nil⟩, rfl, fun k h v hh _ => by simp at hh, fun h hh => by simp at hh⟩
  · simp [Value.cells] at hcs
    obtain ⟨rfl, rfl, rfl⟩ := hcs
    obtain ⟨b, off, spot⟩ := x
    have hrow : ∀ r, r < len → IsRow .i64 W (A r) (L r) (C r) (Z r) := fun r hr' => by
      obtain ⟨_, h1, h2, h3, h4, h5, h6⟩ := hr r (by omega)
      cases hA : A r with
      | none =>
        have hc := h5 hA
        have hz : Z r = [] := List.eq_nil_of_length_eq_zero (by omega)
        exact .inl ⟨rfl, by omega, hc, hz⟩
      | some x => exact .inr ⟨x, rfl, h1, h2, h3, fun i hi => (h6 x hA).2 i (by omega), h4⟩
    refine ⟨(List.range len).map fun r => (Z r).take (L r), (List.range len).map fun r => ⟨A r, L r, C r⟩, ⟨by simp, fun hn => ?_⟩, by simp, fun k h v hh hv => ?_, fun h hh => ?_⟩
    · simp at hn
      have h0 := (hr 0 (by omega)).1
      have hspot : spot = none := by simpa [Addr.add] using World.cell?_spot h0
      subst hspot
      refine ⟨b, off, rfl, block_lt_of_cell (a := ⟨b, off, none⟩) (by simpa [Addr.add] using h0), fun i z hz' => ?_⟩
      rw [List.getElem?_map] at hz'
      have hi : i < len := by
        rcases Nat.lt_or_ge i len with h | h
        · exact h
        · rw [List.getElem?_eq_none (by simpa using h)] at hz'; cases hz'
      rw [List.getElem?_range hi] at hz'
      cases hz'
      have := (hr i (by omega)).1
      rw [Addr.add_mid] at this
      exact this
    · rw [List.getElem?_map] at hh hv
      have hk : k < len := by
        rcases Nat.lt_or_ge k len with h | h
        · exact h
        · rw [List.getElem?_eq_none (by simpa using h)] at hh; cases hh
      rw [List.getElem?_range hk] at hh hv
      cases hh
      cases hv
      exact (hrow k hk).sl.1
    · rw [List.mem_map] at hh
      obtain ⟨r, hr', rfl⟩ := hh
      exact (hrow r (List.mem_range.1 hr')).sl.2
end
end Go.Proofs.Ytalclofogengpaa
