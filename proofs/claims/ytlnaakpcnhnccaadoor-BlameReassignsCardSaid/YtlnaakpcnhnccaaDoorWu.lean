/- Bytes turned to a string; a block of bytes taken. -/
import Derived.Test.YtlnaakpcnhnccaaDoorWs
import Derived.Laws.BytesArg
namespace Go.Proofs.YtlnaakpcnhnccaaDoor
open Go.RowKit Go.Lib
set_option linter.unusedVariables false
set_option linter.unusedSimpArgs false

theorem run_conv_sl {P : Program} (src e dst : TypeId) (hs : P.underlying src = some (.slice e)) (he : P.underlying e = some (.int .u8)) (hd : P.underlying dst = some .string) (w : World) (B : Nat) (A : Option Addr) (n c : Nat) (xs : List Int) (h : Sl fB w B A n xs) :
    (convert src dst (.slice A n c)).run P w = .ok (.string (strOfNums xs)) w := by
  obtain ⟨rfl, h⟩ := h
  cases xs with
  | nil =>
    cases A with
    | none => exact run_convert_bytes_nil w src e hs he _ c dst hd
    | some ad =>
      rw [run_convert_bytes_string w src dst e _ _ c hs he hd]
      simp [Conv.bytesToString, strOfNums, loadCells, loadCellsFrom]
      rfl
  | cons x l =>
    obtain ⟨b, off, rfl, _, hc⟩ := h (by simp)
    exact run_convert_bytes_arg w src e hs he b off _ c (x :: l) rfl (fun i hi => by
      obtain ⟨z, hz⟩ := get_ex hi
      rw [hc i z hz, getD_of hz]) dst hd

/-- A string of these bytes. -/
def baOf (xs : List Int) : ByteArray := strOfNums xs
def baNo : ByteArray := ⟨#[]⟩
theorem baOf_sB {xs : List Int} (h : ∀ b ∈ xs, 0 ≤ b ∧ b < 256) : sB (baOf xs) = xs := by
  unfold sB baOf strOfNums
  simp only [List.map_map]
  conv => rhs; rw [← List.map_id xs]
  apply List.map_congr_left
  intro x hx
  have := h x hx
  show ((UInt8.ofNat x.toNat).toNat : Int) = x
  rw [UInt8.toNat_ofNat']
  omega
theorem encF_rng : ∀ (k n : Nat), ∀ b ∈ encF k n, 0 ≤ b ∧ b < 256
  | 0, _, b, h => by simp [encF] at h
  | k + 1, n, b, h => by
    rw [encF] at h
    split at h
    · obtain rfl := List.mem_singleton.1 h; omega
    · rcases List.mem_cons.1 h with rfl | h
      · omega
      · exact encF_rng k _ b h
theorem enc_rng (n : Nat) : ∀ b ∈ enc n, 0 ≤ b ∧ b < 256 := encF_rng 10 n
end Go.Proofs.YtlnaakpcnhnccaaDoor
