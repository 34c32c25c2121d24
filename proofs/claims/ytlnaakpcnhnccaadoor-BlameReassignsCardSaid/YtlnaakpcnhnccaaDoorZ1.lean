/- Rotations. -/
import Derived.Test.YtlnaakpcnhnccaaDoorWk
import Derived.Test.YtlnaakpcnhnccaaDoorZ0
import Derived.Test.YtlnaakpcnhnccaaDoorChecked
import Derived.IntWalk
namespace Go.Proofs.YtlnaakpcnhnccaaDoor
open Go.RowKit
set_option linter.unusedVariables false
set_option linter.unusedSimpArgs false

theorem and31 : ∀ k : Fin 32, 0 < k.val → bits .and .u64 (IntKind.u64.wrap (-(k.val : Int))) 31 = ((32 - k.val : Nat) : Int) := by decide +kernel
theorem rotl_any (x : Int) (k : Nat) (m : Int) (w : World) (hm : m = -(k : Int)) (h0 : 0 < k) (h1 : k < 32) (hx : 0 ≤ x) (hx1 : x ≤ 4294967295) :
    Calls Tryd.prog 82 #[.int .u32 x, .int .i64 m] w fun e w' => e = .returned (.int .u32 (ror k x)) ∧ w = w' := by
  subst hm
  obtain ⟨s, hs⟩ : ∃ s : Nat, s = 32 - k := ⟨_, rfl⟩
  have ha : bits .and .u64 (IntKind.u64.wrap (-(k : Int))) 31 = (s : Int) := by rw [hs]; exact and31 ⟨k, h1⟩ h0
  have hb : IntKind.u64.wrap (32 - (s : Int)) = (k : Int) := by rw [IntWalk.u64_in _ (by omega)]; omega
  have HF : Hid (bits .or .u32 (x * 2 ^ s % 4294967296) (x / 2 ^ k) = ror k x) := by
    show _ = _
    unfold ror
    rw [hs, bits_or_comm]
  have hs1 : s ≤ 32 := by omega
  clear hs
  go_enter Tryd.func82, Tryd.ntmps82
  go_wp2
  go_ret
  exact ⟨ret_int HF.out, rfl⟩
theorem rotr_any (x : Int) (k : Nat) (m : Int) (w : World) (hm : m = (k : Int)) (h0 : 0 < k) (h1 : k < 32) (hx : 0 ≤ x) (hx1 : x ≤ 4294967295) :
    Calls Tryd.prog 72 #[.int .u32 x, .int .i64 m] w fun e w' => e = .returned (.int .u32 (ror k x)) ∧ ∃ n, w' = w.drewN n := by
  subst hm
  have hb : IntKind.i64.wrap (32 - (k : Int)) = ((32 - k : Nat) : Int) := by rw [IntWalk.i64_in _ (by omega)]; omega
  obtain ⟨s, hs⟩ : ∃ s : Nat, s = 32 - k := ⟨_, rfl⟩
  rw [← hs] at hb
  have HF : Hid (bits .or .u32 (x / 2 ^ k) (x * 2 ^ s % 4294967296) = ror k x) := by
    show _ = _
    unfold ror
    rw [hs]
  have hs1 : s ≤ 32 := by omega
  clear hs
  go_enter Tryd.func72, Tryd.ntmps72
  go_wp2
  go_quiet (fail)
  go_wp2
  go_ret
  exact ⟨ret_int HF.out, _, rfl⟩
end Go.Proofs.YtlnaakpcnhnccaaDoor
