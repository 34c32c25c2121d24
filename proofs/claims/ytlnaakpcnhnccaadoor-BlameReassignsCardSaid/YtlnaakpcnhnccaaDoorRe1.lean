/- The reference of wire: a number's encoding. -/
import Derived.Test.YtlnaakpcnhnccaaDoorWi
namespace Go.Proofs.YtlnaakpcnhnccaaDoor
open Go.RowKit
set_option linter.unusedVariables false
set_option linter.unusedSimpArgs false

set_option maxRecDepth 20000 in
theorem rnum_any (n : Nat) (w : World) (hn : n < 18446744073709551616) :
    Calls Tryd.prog 24 #[.int .u64 n] w fun e w' => ∃ v, e = .returned v ∧ Own fB 5 w' w.heap.size v (enc n) ∧ Below w.heap.size w w' := by
  obtain ⟨i0, hi, hz0, hz1, hz2⟩ := info_parts Tryd.infoB
  have HI := Lib.hid hi
  have HZ0 := Lib.hid hz0
  have HZ1 := Lib.hid hz1
  have HZ2 := Lib.hid hz2
  clear hi hz0 hz1 hz2
  have hn10 : Hid (n < 128 ^ 10) := by show _ < _; omega
  have HN : Hid (n < 18446744073709551616) := hn
  clear hn
  have HO0 : Hid (Own fB 5 (w.alloc (.cells #[] 5)) w.heap.size (.slice (some ⟨w.heap.size, 0, none⟩) 0 0) []) := World.ownsRow_lit w #[] 0 (Nat.le_refl _) (by unfold maxLen; omega) rfl
  have HB0 : Hid (Below w.heap.size w (w.alloc (.cells #[] 5))) := (Below.refl _ _).alloc (Nat.le_refl _) _
  go_enter Tryd.func24, Tryd.ntmps24
  go_wp2
  go_loopw [0, 3] (fun i u wr => ∃ (k m : Nat) (out : List Int), i = .int .u64 m ∧ Hid (m < 128 ^ k) ∧ Hid (m < 18446744073709551616) ∧ 0 < k ∧ k ≤ 10 ∧ out.length + k ≤ 10 ∧ Hid (out ++ encF k m = enc n) ∧ Hid (Own fB 5 wr w.heap.size u out) ∧ Hid (Below w.heap.size w wr)) (fun i _ _ => (intOf i).toNat)
  case atStart => exact ⟨10, n, [], rfl, hn10, HN, by omega, by omega, by simp, by show _ = _; rfl, HO0, HB0⟩
  case round =>
    obtain ⟨k, m, out, rfl, HM, HM6, hk1, hk, hol, HE, HO, HB⟩ := hrel
    have HL1 : Hid ((out.length + 1) * 1 ≤ 140737488355328) := by show _ ≤ _; omega
    have HL2 : Hid (out.length + 1 ≤ maxLen) := by show _ ≤ _; unfold maxLen; omega
    have HS : Hid (w.heap.size ≤ wr.heap.size) := HB.out.size
    have HKB : Hid (∀ W V, Own fB 5 wr w.heap.size V out → wr.grownBy W V.ownBlock → Below w.heap.size w W) := fun W V ho hg => HB.out.trans (grown_below hg (fun k hk => (World.ownsRow.lt ho k hk).1) HS.out)
    obtain ⟨k, rfl⟩ : ∃ k', k = k' + 1 := ⟨k - 1, by omega⟩
    have h64 := HM6.out
    by_cases hge : 128 ≤ m
    · have HM2 : Hid (m / 128 < 128 ^ k) := by show _ < _; have := HM.out; rw [Nat.pow_succ] at this; omega
      have HM7 : Hid (m / 128 < 18446744073709551616) := by show _ < _; omega
      have hk0 : 0 < k := by
        have := HM2.out
        rcases k with _ | k
        · rw [Nat.pow_zero] at this; omega
        · omega
      have HE2 : Hid ((out ++ [(m : Int) % 128 + 128]) ++ encF k (m / 128) = enc n) := by
        show _ = _
        rw [← HE.out, encF, if_neg (by omega), List.append_assoc]
        congr 1
      have hb0 : (m : Int).tmod 128 = (m : Int) % 128 := Int.tmod_eq_emod_of_nonneg (by omega)
      have hb1 : (m : Int) % 128 % 256 = (m : Int) % 128 := by omega
      have hb2 : ((m : Int) % 128 + 128) % 256 = (m : Int) % 128 + 128 := by omega
      go_wp2_with (with_reducible refine wpList_app1 (o := ⟨some 13, _, _, _, _, _⟩) rfl (.tmp 7) (.tmp 12) 24 rfl 5 i0 (.int .u8 0) 1 Tryd.underlying24 HI.out HZ0.out HZ1.out HZ2.out rfl _ out w.heap.size rfl HO.out ((m : Int) % 128 + 128) 1 rfl fB1 HL1.out HL2.out HS.out ?_; intro v1 w1 HO1 HG1 HV1)
      go_roundw
      case rel => exact ⟨k, m / 128, out ++ [(m : Int) % 128 + 128], by first | rfl | go_num, HM2, HM7, hk0, by omega, by rw [List.length_append]; simp only [List.length_cons, List.length_nil]; omega, HE2, HO1, HKB.out _ _ HO.out HG1.out⟩
      case measure => simp [intOf]; omega
    · have hmm : (m : Int) % 256 = m := by omega
      have HE2 : Hid (out ++ [(m : Int)] = enc n) := by
        show _ = _
        rw [← HE.out, encF, if_pos (by omega)]
      go_wp2_with (with_reducible refine wpList_app1 (o := ⟨some 20, _, _, _, _, _⟩) rfl (.tmp 16) (.tmp 19) 24 rfl 5 i0 (.int .u8 0) 1 Tryd.underlying24 HI.out HZ0.out HZ1.out HZ2.out rfl _ out w.heap.size rfl HO.out (m : Int) 1 rfl fB1 HL1.out HL2.out HS.out ?_; intro v1 w1 HO1 HG1 HV1)
      go_ret
      exact ⟨v1, rfl, by rw [← HE2.out]; exact HO1.out, HKB.out _ _ HO.out HG1.out⟩
end Go.Proofs.YtlnaakpcnhnccaaDoor
