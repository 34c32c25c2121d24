/- A piece verified, by the program: any piece. -/
import Derived.Test.YtpdledjgbgalcaaGreatDoorU4
namespace Go.Proofs.YtpdledjgbgalcaaGreatDoor
open Go.RowKit Go.Lib
set_option linter.unusedVariables false
set_option linter.unusedSimpArgs false
def al32 (ys : List ByteArray) : Bool := ys.all fun s => decide (s.size = 32)
theorem al32_iff {ys : List ByteArray} : al32 ys = true ↔ ∀ s ∈ ys, s.size = 32 := by unfold al32; simp
theorem vfU_any (s : ByteArray) (w : World) : Calls Tryz.prog 100 #[.string s] w fun e w' => e = .returned (.bool (!decide (s.size = 32))) ∧ w = w' := by
  by_cases hs : s.size = 32
  · have hI : ((s.size : Int) != 32) = false := by simp [hs]
    go_enter Tryz.func100, Tryz.ntmps100
    go_wp2
    go_ret
    exact ⟨by first | rfl | simp [hs], rfl⟩
  · have hI : ((s.size : Int) != 32) = true := by simp; omega
    go_enter Tryz.func100, Tryz.ntmps100
    go_wp2
    go_ret
    exact ⟨by first | rfl | simp [hs], rfl⟩
set_option maxRecDepth 100000 in
set_option maxHeartbeats 4000000 in
theorem indexFU_any (A : Option Addr) (n c B : Nat) (ys : List ByteArray) (w : World) (hx : Sl fT w B A n ys) (hn : n ≤ 1000000) :
    Calls Tryz.prog 165 #[.slice A n c, .func (.func 100) #[] #[]] w fun e w' => (∃ r : Int, e = .returned (.int .i64 r) ∧ decide (0 ≤ r) = !al32 ys) ∧ w = w' := by
  have HX := Lib.hid hx
  have HXN : Hid (ys.length = n) := hx.1
  clear hx
  go_enter Tryz.func165, Tryz.ntmps165
  go_wp2
  go_loopw [8] (fun i wr => (∃ k : Nat, k ≤ n ∧ i = .int .i64 k ∧ Hid (∀ j, j < k → ∀ s, ys[j]? = some s → s.size = 32)) ∧ w = wr) (fun i _ => n - (intOf i).toNat)
  case atStart => exact ⟨⟨0, by omega, rfl, fun j hj => absurd hj (by omega)⟩, rfl⟩
  case round =>
    obtain ⟨⟨k, hk, rfl, HK⟩, rfl⟩ := hrel
    by_cases hlt : k < n
    · obtain ⟨b1, o1, x, rfl, _, hg, hc⟩ := HX.out.2.at_ (k := k) (by rw [HXN.out]; exact hlt)
      have hkI : (k : Int) < (n : Int) := by omega
      have hk0 : (0 : Int) ≤ (k : Int) := by omega
      have HC := Lib.hid (fun W => vfU_any x W)
      by_cases hs : x.size = 32
      · rw [show (!decide (x.size = 32)) = false by simp [hs]] at HC
        have HK2 : Hid (∀ j, j < k + 1 → ∀ s, ys[j]? = some s → s.size = 32) := fun j hj s h => by
          rcases Nat.lt_or_ge j k with c | c
          · exact HK.out j c s h
          · obtain rfl : j = k := by omega
            rw [hg] at h; cases h; exact hs
        clear hg hs
        go_wp2_with (first
          | (go_at_call 100; (with_reducible refine (HC.out _).mono ?_); rintro e w1 ⟨rfl, rfl⟩))
        refine ⟨?rel, ?measure⟩
        case rel => exact ⟨⟨k + 1, by omega, by go_num, HK2⟩, by first | rfl | trivial⟩
        case measure => simp [intOf]; omega
      · rw [show (!decide (x.size = 32)) = true by simp [hs]] at HC
        have HN : Hid (al32 ys = false) := by
          show _ = _
          rw [Bool.eq_false_iff]
          intro h
          exact hs (al32_iff.1 h x (List.mem_of_getElem? hg))
        clear hg hs
        go_wp2_with (first
          | (go_at_call 100; (with_reducible refine (HC.out _).mono ?_); rintro e w1 ⟨rfl, rfl⟩))
        go_ret
        exact ⟨⟨k, rfl, by rw [HN.out]; simp⟩, by first | rfl | trivial⟩
    · obtain rfl : k = n := by omega
      have HN : Hid (al32 ys = true) := by
        show _ = _
        rw [al32_iff]
        intro s h
        obtain ⟨j, hj, he⟩ := List.mem_iff_getElem?.1 h |> fun ⟨j, hj⟩ => (⟨j, (List.getElem?_eq_some_iff.1 hj).1, hj⟩ : ∃ j, j < ys.length ∧ ys[j]? = some s)
        exact HK.out j (by have := HXN.out; omega) s he
      go_wp2
      go_ret
      exact ⟨⟨-1, rfl, by rw [HN.out]; rfl⟩, by first | rfl | trivial⟩
set_option maxRecDepth 100000 in
theorem containsFU_any (A : Option Addr) (n c B : Nat) (ys : List ByteArray) (w : World) (hx : Sl fT w B A n ys) (hn : n ≤ 1000000) :
    Calls Tryz.prog 99 #[.slice A n c, .func (.func 100) #[] #[]] w fun e w' => e = .returned (.bool (!al32 ys)) ∧ w = w' := by
  have HC := Lib.hid (indexFU_any A n c B ys w hx hn)
  clear hx
  go_enter Tryz.func99, Tryz.ntmps99
  go_wp2_with (first
    | (go_at_call 165; (with_reducible refine HC.out.mono ?_); rintro e w1 ⟨⟨r, rfl, hr⟩, rfl⟩; have HR := Lib.hid hr; clear hr))
  go_ret
  exact ⟨by rw [← HR.out]; rfl, rfl⟩
end Go.Proofs.YtpdledjgbgalcaaGreatDoor
