/- gf256: multiplier and its function. -/
import Derived.Test.YtpbeaghghlfiaaaA1
namespace Go.Proofs.Ytpbeaghghlfiaaa
open Go.RowKit Go.Lib
set_option linter.unusedVariables false
set_option linter.unusedSimpArgs false
/-- A table of products, filled to k. -/
def tabM (c s k : Nat) : Array Value := ((List.range 16).map fun i => fN (if i < k then mulN c (i * s) else 0)).toArray
theorem tabM_size (c s k : Nat) : (tabM c s k).size = 16 := by simp [tabM]
theorem tabM_get (c s k i : Nat) (h : i < 16) : (tabM c s k)[i]? = some (fN (if i < k then mulN c (i * s) else 0)) := by
  unfold tabM
  rw [List.getElem?_toArray, List.getElem?_map, List.getElem?_range h]
  rfl
theorem tabM_step {c s k : Nat} (h : k < 16) : (tabM c s k).setIfInBounds k (fN (mulN c (k * s))) = tabM c s (k + 1) := by
  refine Array.ext_getElem? (fun i => ?_)
  rw [Array.getElem?_setIfInBounds, tabM_size]
  by_cases hi : i < 16
  · by_cases e : k = i
    · subst e
      rw [if_pos rfl, if_pos h, tabM_get _ _ _ _ h, if_pos (by omega)]
    · rw [if_neg e, tabM_get _ _ _ _ hi, tabM_get _ _ _ _ hi]
      by_cases h2 : i < k
      · rw [if_pos h2, if_pos (by omega)]
      · rw [if_neg h2, if_neg (by omega)]
  · rw [if_neg (by omega), Array.getElem?_eq_none (by rw [tabM_size]; omega), Array.getElem?_eq_none (by rw [tabM_size]; omega)]
theorem tabM_zero (c s : Nat) : tabM c s 0 = Array.replicate 16 (.int .u8 0) := by
  refine Array.ext_getElem? (fun i => ?_)
  by_cases hi : i < 16
  · rw [tabM_get _ _ _ _ hi, Array.getElem?_replicate, if_pos hi]; rfl
  · rw [Array.getElem?_eq_none (by rw [tabM_size]; omega), Array.getElem?_eq_none (by simp; omega)]
abbrev z16 : Array Value := #[.int .u8 0, .int .u8 0, .int .u8 0, .int .u8 0, .int .u8 0, .int .u8 0, .int .u8 0, .int .u8 0, .int .u8 0, .int .u8 0, .int .u8 0, .int .u8 0, .int .u8 0, .int .u8 0, .int .u8 0, .int .u8 0]
theorem tabM_z (c s : Nat) : tabM c s 0 = z16 := (tabM_zero c s).trans rfl
abbrev T16 : TypeId := 104
theorem lookup_any (c a l h : Nat) (hc : c < 256) (ha : a < 256) (w : World) (hl : w.heap[l]? = some (.cells (tabM c 1 16) T16 (0, 0))) (hh : w.heap[h]? = some (.cells (tabM c 16 16) T16 (0, 0))) :
    Calls Try.prog 70 #[fN a, .pointer (some ⟨l, 0, none⟩), .pointer (some ⟨h, 0, none⟩)] w fun e w' => e = .returned (fN (mulN c a)) ∧ ∃ n, w' = w.drewN n := by
  have h1 : a % 16 < 16 := Nat.mod_lt _ (by omega)
  have h2 : a / 16 < 16 := by omega
  have H1 := u8_low a ha
  have H2 : ((a : Int) / 16) = ((a / 16 : Nat) : Int) := by omega
  have HX := u8_xor (a := mulN c (a % 16)) (b := mulN c (a / 16 * 16)) (mulN_lt hc) (mulN_lt hc)
  rw [mul_split c ha] at HX
  obtain ⟨lo, hlo⟩ : ∃ lo, a % 16 = lo := ⟨_, rfl⟩
  obtain ⟨hi, hhi⟩ : ∃ hi, a / 16 = hi := ⟨_, rfl⟩
  rw [hlo] at H1 HX h1
  rw [hhi] at H2 HX h2
  have c1 : w.cell? ⟨l, lo, none⟩ = some (fN (mulN c lo)) := by rw [cell_of_row w l _ _ _ _ hl, tabM_get _ _ _ _ h1, if_pos h1, Nat.mul_one]
  have c2 : w.cell? ⟨h, hi, none⟩ = some (fN (mulN c (hi * 16))) := by rw [cell_of_row w h _ _ _ _ hh, tabM_get _ _ _ _ h2, if_pos h2]
  obtain ⟨x, hx⟩ : ∃ x, mulN c lo = x := ⟨_, rfl⟩
  obtain ⟨y, hy⟩ : ∃ y, mulN c (hi * 16) = y := ⟨_, rfl⟩
  rw [hx] at c1 HX
  rw [hy] at c2 HX
  have hb1 : (lo : Int) < 16 := by omega
  have hb2 : (hi : Int) < 16 := by omega
  have HXX := Lib.hid HX
  clear hx hy hlo hhi HX
  clear hl hh h1 h2
  go_enter Try.func70, Try.ntmps70
  go_wp2
  go_quiet (fail)
  go_wp2
  go_ret
  exact ⟨ret_int HXX.out, _, rfl⟩
end Go.Proofs.Ytpbeaghghlfiaaa
