/- What the laws' walks have in common. -/
import Derived.Test.YtalclofogengpaaAwake
namespace Go.Proofs.Ytalclofogengpaa
open Go.RowKit

theorem few_n (A : Option Addr) (n c : Nat) (w : World) : Calls Try.prog 13 #[.slice A n c] w fun e w' => e = .returned (.bool (decide (n ≤ 20))) ∧ w = w' := by
  have := few_any A (List.replicate n 0) c w
  simpa using this
theorem rvalid_n (A : Option Addr) (n : Nat) (xs : List Int) (c : Nat) (w : World) (B : Nat) (hx : Sl I w B A n xs) (hl : n ≤ 1000000) :
    Calls Try.prog 16 #[.slice A n c] w fun e w' => e = .returned (.bool (validB xs)) ∧ w = w' := by
  obtain ⟨rfl, hx⟩ := hx
  exact rvalid_any A xs c w B hx (by omega)
theorem coversB_pad (xs ys : List Int) : coversB (pad xs) (pad ys) = coversB xs ys := by
  unfold coversB
  congr 1
  funext k
  rw [pad_getD, pad_getD]
/-- The end of a law's walk. -/
def Law (w : World) (e : Ending) (w' : World) : Prop := e = .returned (.bool true) ∧ Below w.heap.size w w'
theorem law_awake (w0 w : World) (hb : Below w0.heap.size w0 w) : Calls Try.prog 14 #[] w fun e w' => e = .returned (.bool true) ∧ Below w0.heap.size w0 w' :=
  (awake_any w).mono fun _ _ ⟨h, h'⟩ => ⟨h, hb.trans (h'.mono hb.size)⟩

/-- What the walk is told of a slice of ints that came in. -/
def IsRow (k : IntKind) (w : World) (a : Option Addr) (len cap : Nat) (zs : List Int) : Prop :=
  (a = none ∧ len = 0 ∧ cap = 0 ∧ zs = []) ∨
  ∃ x, a = some x ∧ len ≤ cap ∧ cap ≤ maxLen ∧ zs.length = cap ∧ (∀ i, i < zs.length → w.cell? (x.add i) = some (.int k (zs.getD i 0))) ∧ ∀ n ∈ zs, (Lit.int k n).wf = true
theorem IsRow.sl {k : IntKind} {w : World} {a : Option Addr} {len cap : Nat} {zs : List Int} (h : IsRow k w a len cap zs) : Sl (Value.int k) w w.heap.size a len (zs.take len) ∧ len ≤ cap := by
  rcases h with ⟨rfl, rfl, rfl, rfl⟩ | ⟨x, rfl, hl, _, hz, hc, _⟩
  · exact ⟨⟨rfl, SL.nil⟩, Nat.le_refl _⟩
  · have hlen : (zs.take len).length = len := by rw [List.length_take]; omega
    refine ⟨⟨hlen, fun hn => ?_⟩, hl⟩
    have h0 := hc 0 (by omega)
    obtain ⟨b, off, spot⟩ := x
    have hspot : spot = none := by simpa [Addr.add] using World.cell?_spot h0
    subst hspot
    refine ⟨b, off, rfl, block_lt_of_cell (a := ⟨b, off, none⟩) (by simpa [Addr.add] using h0), fun i z hz' => ?_⟩
    have hi : i < len := by have := (List.getElem?_eq_some_iff.1 hz').1; omega
    have := hc i (by omega)
    rw [Addr.add_mid] at this
    rw [this]
    rw [List.getElem?_take, if_pos hi] at hz'
    rw [getD_of hz']
end Go.Proofs.Ytalclofogengpaa
