/- Cover: the program's and the reference's. -/
import Derived.Test.YtfffhdclbdmfnaaLeaf
namespace Go.Proofs.Ytfffhdclbdmfnaa
open Go.RowKit Ret
set_option linter.unusedVariables false
set_option linter.unusedSimpArgs false

def covS (d : Int) (s : Int × Bool) (x : Int) : Int × Bool := if x ≤ d ∧ (s.2 = false ∨ s.1 < x) then (x, true) else s
/-- The newest of the days that is not after a day. -/
def cov (d : Int) (xs : List Int) : Int × Bool := xs.foldl (covS d) (0, false)
theorem cov_snoc (d : Int) (xs : List Int) (x : Int) : cov d (xs ++ [x]) = covS d (cov d xs) x := by simp [cov]

set_option maxRecDepth 20000 in
theorem cover_any (A : Option Addr) (n : Nat) (xs : List Int) (c : Nat) (d : Int) (w : World) (B : Nat) (hx : Sl I w B A n xs) (hl : n ≤ 1000000) :
    Calls Try.prog 20 #[.slice A n c, .int .i64 d] w fun e w' => e = .returned (.tuple #[.int .i64 (cov d xs).1, .bool (cov d xs).2]) ∧ w = w' := by
  obtain ⟨hlen, hx⟩ := hx
  have HLEN := Lib.hid hlen
  clear hlen
  go_enter Try.func20, Try.ntmps20
  go_wp2
  go_loop [6, 7, 12] (fun u v i => ∃ (k : Nat) (b : Int) (f : Bool), k ≤ n ∧ i = .int .i64 k ∧ u = .int .i64 b ∧ v = .bool f ∧ Hid (cov d (xs.take k) = (b, f))) (fun _ _ i => n - (intOf i).toNat)
  case atStart => exact ⟨0, 0, false, Nat.zero_le _, rfl, rfl, rfl, by show _ = _; simp [cov]⟩
  case round =>
    obtain ⟨k, b, f, hk, rfl, rfl, rfl, HC⟩ := hrel
    by_cases hlt : k < n
    · obtain ⟨bb, off, x, rfl, _, hxk, hck⟩ := hx.at_ (k := k) (by have := HLEN.out; omega)
      have HN : Hid (cov d (xs.take (k + 1)) = covS d (b, f) x) := by show _ = _; rw [take_snoc hxk, cov_snoc, HC.out]
      clear hxk
      by_cases h1 : x ≤ d
      · cases f
        · have HE : Hid (cov d (xs.take (k + 1)) = (x, true)) := by show _ = _; rw [HN.out, covS, if_pos ⟨h1, .inl rfl⟩]
          go_wp2
          go_round
          case rel => exact ⟨k + 1, x, true, by omega, by go_num, rfl, rfl, HE⟩
          case measure => simp [intOf]; omega
        · by_cases h2 : b < x
          · have HE : Hid (cov d (xs.take (k + 1)) = (x, true)) := by show _ = _; rw [HN.out, covS, if_pos ⟨h1, .inr h2⟩]
            go_wp2
            go_round
            case rel => exact ⟨k + 1, x, true, by omega, by go_num, rfl, rfl, HE⟩
            case measure => simp [intOf]; omega
          · have HE : Hid (cov d (xs.take (k + 1)) = (b, true)) := by show _ = _; rw [HN.out, covS, if_neg (fun h => h.2.elim (fun h => by cases h) h2)]
            go_wp2
            go_round
            case rel => exact ⟨k + 1, b, true, by omega, by go_num, rfl, rfl, HE⟩
            case measure => simp [intOf]; omega
      · have HE : Hid (cov d (xs.take (k + 1)) = (b, f)) := by show _ = _; rw [HN.out, covS, if_neg (fun h => h1 h.1)]
        go_wp2
        go_round
        case rel => exact ⟨k + 1, b, f, by omega, by go_num, rfl, rfl, HE⟩
        case measure => simp [intOf]; omega
    · have HE : Hid (cov d xs = (b, f)) := by show _ = _; rw [← HC.out, List.take_of_length_le (by have := HLEN.out; omega)]
      go_wp2
      go_ret2
      exact ⟨by rw [HE.out]; rfl, rfl⟩

set_option maxRecDepth 20000 in
theorem rcover_any (A : Option Addr) (n : Nat) (xs : List Int) (c : Nat) (d : Int) (w : World) (B : Nat) (hx : Sl I w B A n xs) (hl : n ≤ 1000000) :
    Calls Try.prog 21 #[.slice A n c, .int .i64 d] w fun e w' => e = .returned (.tuple #[.int .i64 (cov d xs).1, .bool (cov d xs).2]) ∧ w = w' := by
  obtain ⟨hlen, hx⟩ := hx
  have HLEN := Lib.hid hlen
  clear hlen
  go_enter Try.func21, Try.ntmps21
  go_wp2
  go_loop [6, 7, 12] (fun u v i => ∃ (k : Nat) (b : Int) (f : Bool), k ≤ n ∧ i = .int .i64 k ∧ u = .int .i64 b ∧ v = .bool f ∧ Hid (cov d (xs.take k) = (b, f))) (fun _ _ i => n - (intOf i).toNat)
  case atStart => exact ⟨0, 0, false, Nat.zero_le _, rfl, rfl, rfl, by show _ = _; simp [cov]⟩
  case round =>
    obtain ⟨k, b, f, hk, rfl, rfl, rfl, HC⟩ := hrel
    by_cases hlt : k < n
    · obtain ⟨bb, off, x, rfl, _, hxk, hck⟩ := hx.at_ (k := k) (by have := HLEN.out; omega)
      have HN : Hid (cov d (xs.take (k + 1)) = covS d (b, f) x) := by show _ = _; rw [take_snoc hxk, cov_snoc, HC.out]
      clear hxk
      by_cases h1 : x ≤ d
      · cases f
        · have HE : Hid (cov d (xs.take (k + 1)) = (x, true)) := by show _ = _; rw [HN.out, covS, if_pos ⟨h1, .inl rfl⟩]
          go_wp2
          go_round
          case rel => exact ⟨k + 1, x, true, by omega, by go_num, rfl, rfl, HE⟩
          case measure => simp [intOf]; omega
        · by_cases h2 : b < x
          · have HE : Hid (cov d (xs.take (k + 1)) = (x, true)) := by show _ = _; rw [HN.out, covS, if_pos ⟨h1, .inr h2⟩]
            go_wp2
            go_round
            case rel => exact ⟨k + 1, x, true, by omega, by go_num, rfl, rfl, HE⟩
            case measure => simp [intOf]; omega
          · have HE : Hid (cov d (xs.take (k + 1)) = (b, true)) := by show _ = _; rw [HN.out, covS, if_neg (fun h => h.2.elim (fun h => by cases h) h2)]
            go_wp2
            go_round
            case rel => exact ⟨k + 1, b, true, by omega, by go_num, rfl, rfl, HE⟩
            case measure => simp [intOf]; omega
      · have HE : Hid (cov d (xs.take (k + 1)) = (b, f)) := by show _ = _; rw [HN.out, covS, if_neg (fun h => h1 h.1)]
        go_wp2
        go_round
        case rel => exact ⟨k + 1, b, f, by omega, by go_num, rfl, rfl, HE⟩
        case measure => simp [intOf]; omega
    · have HE : Hid (cov d xs = (b, f)) := by show _ = _; rw [← HC.out, List.take_of_length_le (by have := HLEN.out; omega)]
      go_wp2
      go_ret2
      exact ⟨by rw [HE.out]; rfl, rfl⟩
end Go.Proofs.Ytfffhdclbdmfnaa
