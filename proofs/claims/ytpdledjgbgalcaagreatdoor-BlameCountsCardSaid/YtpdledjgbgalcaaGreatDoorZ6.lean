/- SHA-256 of the reference: Pad and Sum. -/
import Derived.Test.YtpdledjgbgalcaaGreatDoorZ5
namespace Go.Proofs.YtpdledjgbgalcaaGreatDoor
open Go.RowKit
set_option linter.unusedVariables false
set_option linter.unusedSimpArgs false
theorem run_slice_two {P : Program} (t e : Nat) (i : TypeInfo) (ht : P.underlying t = some (.slice e)) (hi : P.info? e = some i) (hs : i.size = 1) (A : Option Addr) (n c : Nat) (kl kh : IntKind) (l h : Int) (m k : Nat) (hm : l = m) (hk : h = k) (h1 : m ≤ k) (h2 : k ≤ c) (w : World) :
    (Instr.slice t (.slice A n c) (some (.int kl l)) (some (.int kh h)) none).run P w = .ok (.slice (if c = m then A else A.map (·.add m)) (k - m) (c - m)) w := by
  subst hm hk
  simp [Instr.slice, run_underlying ht, Instr.sliceBounds, run_sliceBound w kl (m : Int) k _ (by omega) (by omega), run_sliceBound w kh (k : Int) c _ (by omega) (by omega), sizeOf, typeInfo, hi, hs]
/-- Bytes that the call owns, all behind the world that it began in. -/
def OwB (w : World) (xs : List Int) (v : Value) (wr : World) : Prop := Hid (Own fB 5 wr w.heap.size v xs) ∧ Hid (Below w.heap.size w wr)
set_option maxRecDepth 100000 in
set_option maxHeartbeats 8000000 in
theorem rpad_any (A : Option Addr) (n c B : Nat) (xs : List Int) (w : World) (hx : Sl fB w B A n xs) (hB : B ≤ w.heap.size) (hl : n ≤ 549755813888) :
    Calls Tryz.prog 181 #[.slice A n c] w fun e w' => ∃ v, e = .returned v ∧ OwB w (xs ++ padB xs.length) v w' := by
  obtain ⟨i0, hi, hz0, hz1, hz2⟩ := info_parts Tryz.infoB
  have HI := Lib.hid hi
  have HZ0 := Lib.hid hz0
  have HZ1 := Lib.hid hz1
  have HZ2 := Lib.hid hz2
  have HO0 : Hid (Own fB 5 (w.alloc (.cells #[] 5)) w.heap.size (.slice (some ⟨w.heap.size, 0, none⟩) 0 0) []) := World.ownsRow_lit w #[] 0 (Nat.le_refl _) (by unfold maxLen; omega) rfl
  have HB0 : Hid (Below w.heap.size w (w.alloc (.cells #[] 5))) := (Below.refl _ _).alloc (Nat.le_refl _) _
  have HX0 : Hid (Sl fB (w.alloc (.cells #[] 5)) B A n xs) := hx.up HB0.out hB
  have HXN : Hid (xs.length = n) := hx.1
  have HL1 : Hid ((([] : List Int).length + xs.length) * 1 ≤ 140737488355328) := by show _ ≤ _; rw [hx.1]; simp; omega
  have HL2 : Hid (([] : List Int).length + xs.length ≤ maxLen) := by show _ ≤ _; rw [hx.1]; unfold maxLen; simp; omega
  have HSz : Hid (w.heap.size ≤ (w.alloc (.cells #[] 5)).heap.size) := by show _ ≤ _; simp
  have HL3 : Hid ((([] ++ xs : List Int).length + 1) * 1 ≤ 140737488355328) := by show _ ≤ _; rw [List.nil_append, hx.1]; omega
  have HL4 : Hid (([] ++ xs : List Int).length + 1 ≤ maxLen) := by show _ ≤ _; rw [List.nil_append, hx.1]; unfold maxLen; omega
  clear hi hz0 hz1 hz2 hx
  go_enter Tryz.func181, Tryz.ntmps181
  go_upto_region 2 with (first
    | (at_builtin; (with_reducible refine wpList_app (o := ⟨some 8, _, _, _, _, _⟩) rfl (.tmp 6) (.tmp 7) 40 rfl 5 i0 (.int .u8 0) 1 Tryz.underlying40 HI.out HZ0.out HZ1.out HZ2.out rfl _ [] w.heap.size rfl HO0.out _ _ _ B xs rfl HX0.out fB1 HL1.out HL2.out HSz.out ?_); intro v1 w1 HO1 HG1 HV1
       have HB1 : Hid (Below w.heap.size w w1) := HB0.out.trans (grown_below HG1.out (fun j hj => (World.ownsRow.lt HO0.out j hj).1) HSz.out)
       have HSz1 : Hid (w.heap.size ≤ w1.heap.size) := HB1.out.size)
    | (at_builtin; (with_reducible refine wpList_app1 (o := ⟨some 10, _, _, _, _, _⟩) rfl (.tmp 8) (.tmp 9) 40 rfl 5 i0 (.int .u8 0) 1 Tryz.underlying40 HI.out HZ0.out HZ1.out HZ2.out rfl _ ([] ++ xs) w.heap.size rfl HO1.out 128 1 rfl fB1 HL3.out HL4.out HSz1.out ?_); intro v2 w2 HO2 HG2 HV2
       have HB2 : Hid (Below w.heap.size w w2) := HB1.out.trans (grown_below HG2.out (fun j hj => (World.ownsRow.lt HO1.out j hj).1) HSz1.out)))
  have HP0 : Hid (OwB w (xs ++ 128 :: List.replicate 0 0) v2 w2) := ⟨HO2, HB2⟩
  clear HO1 HG1 HV1 HB1 HSz1 HO2 HG2 HV2 HB2 HO0 HB0 HX0 HL1 HL2 HL3 HL4 HSz
  go_loopw [3] (fun v wr => ∃ k, k ≤ zN n ∧ Hid (OwB w (xs ++ 128 :: List.replicate k 0) v wr)) (fun v _ => n + zN n + 1 - sliceLen v)
  case atStart => exact ⟨0, by omega, HP0⟩
  case round =>
    obtain ⟨k, hkz, HP⟩ := hrel
    have HO := HP.out.1
    have HB := HP.out.2
    have hzl := zN_lt n
    have hll : (xs ++ 128 :: List.replicate k (0 : Int)).length = n + 1 + k := by rw [List.length_append, List.length_cons, List.length_replicate, HXN.out]; omega
    obtain ⟨ys, hys⟩ : ∃ ys, ys = xs ++ 128 :: List.replicate k (0 : Int) := ⟨_, rfl⟩
    rw [← hys] at HO hll
    obtain ⟨A1, c1, hv1, hc1, hs1, _⟩ := HO.out.shape
    rw [hll] at hv1
    obtain ⟨l1, hl1⟩ : ∃ l, l = n + 1 + k := ⟨_, rfl⟩
    rw [← hl1] at hv1 hll
    have HYL := Lib.hid hll
    have HYS := Lib.hid hys
    have HLE := Lib.hid hl1
    have HSz : Hid (w.heap.size ≤ wr.heap.size) := HB.out.size
    have hlb : (l1 : Int) ≤ 549755813888 + 65 := by omega
    subst hv1
    by_cases hkz2 : k = zN n
    · -- PART exit
      have hrem : (l1 : Int) % 64 = 56 := by have h0 : zN n = (119 - n % 64) % 64 := rfl; omega
      have HPz : Hid (OwB w ((xs ++ 128 :: List.replicate (zN n) 0) ++ (be8 (8 * n)).take 0) (.slice A1 l1 c1) wr) := by show OwB ..; rw [List.take_zero, List.append_nil, ← hkz2]; exact HP.out
      clear hl1 hys hll hs1 hc1 HO HB HP HYL HYS HLE HSz hkz2
      go_upto_region 6 with fail
      clear hrem hlb
      go_loopw [3, 5] (fun v i wr => ∃ j : Nat, j ≤ 8 ∧ i = .int .i64 (7 - (j : Int)) ∧ Hid (OwB w ((xs ++ 128 :: List.replicate (zN n) 0) ++ (be8 (8 * n)).take j) v wr)) (fun _ i _ => (intOf i + 1).toNat)
      case atStart => exact ⟨0, by omega, rfl, HPz⟩
      case round =>
        obtain ⟨j, hj, rfl, HP⟩ := hrel
        have HO := HP.out.1
        have HB := HP.out.2
        have hll : ((xs ++ 128 :: List.replicate (zN n) (0 : Int)) ++ (be8 (8 * n)).take j).length = n + 1 + zN n + j := by
          rw [List.length_append, List.length_append, List.length_cons, List.length_replicate, List.length_take, be8_len, HXN.out]; omega
        obtain ⟨ys, hys⟩ : ∃ ys, ys = (xs ++ 128 :: List.replicate (zN n) (0 : Int)) ++ (be8 (8 * n)).take j := ⟨_, rfl⟩
        rw [← hys] at HO hll
        have HYL := Lib.hid hll
        have HYS := Lib.hid hys
        have HSz : Hid (w.heap.size ≤ wr.heap.size) := HB.out.size
        clear hys hll
        by_cases hj8 : j < 8
        · obtain ⟨s, hs⟩ : ∃ s : Nat, s = 7 - j := ⟨_, rfl⟩
          have hsI : (7 - (j : Int)) = (s : Int) := by omega
          obtain ⟨s8, hs8⟩ : ∃ s8 : Nat, s8 = 8 * s := ⟨_, rfl⟩
          have hs8I : IntKind.i64.wrap (8 * (s : Int)) = (s8 : Int) := by rw [IntWalk.i64_in _ (by omega)]; omega
          have hs56 : s8 ≤ 56 := by omega
          have hs7 : s ≤ 7 := by omega
          have HSS := Lib.hid hs
          have HS8 := Lib.hid hs8
          rw [hsI]
          have HL1 : Hid ((ys.length + 1) * 1 ≤ 140737488355328) := by show _ ≤ _; rw [HYL.out]; omega
          have HL2 : Hid (ys.length + 1 ≤ maxLen) := by show _ ≤ _; rw [HYL.out]; unfold maxLen; omega
          have HT : Hid ((be8 (8 * n)).take j ++ [(n : Int) * 8 / 2 ^ s8 % 256] = (be8 (8 * n)).take (j + 1)) := by
            show _ = _
            rw [be8_snoc _ hj8, hs8, hs, show 8 * (7 - j) = 56 - 8 * j by omega]
            congr 2
            rw [Int.mul_comm]
            simp
          clear hs hsI hs8
          go_wp2_with (first
            | (at_builtin; (with_reducible refine wpList_app1 (o := ⟨some 33, _, _, _, _, _⟩) rfl (.tmp 26) (.tmp 32) 40 rfl 5 i0 (.int .u8 0) 1 Tryz.underlying40 HI.out HZ0.out HZ1.out HZ2.out rfl _ ys w.heap.size rfl HO.out ((n : Int) * 8 / 2 ^ s8 % 256) 1 rfl fB1 HL1.out HL2.out HSz.out ?_); intro v1 w1 HO1 HG1 HV1))
          go_roundw
          case rel =>
            refine ⟨j + 1, by omega, ?_, ?_, ?_⟩
            · have := HSS.out
              refine congrArg (Value.int .i64) ?_
              omega
            · have h := HO1.out
              rw [HYS.out, List.append_assoc, HT.out] at h
              exact h
            · exact HB.out.trans (grown_below HG1.out (fun j hj => (World.ownsRow.lt HO.out j hj).1) HSz.out)
          case measure =>
            have := HSS.out
            simp [intOf]
            try omega
        · obtain rfl : j = 8 := by omega
          go_wp2
          go_ret
          refine ⟨_, rfl, ?_, HB⟩
          have h := HO.out
          rw [HYS.out, List.take_of_length_le (by rw [be8_len]; exact Nat.le_refl _), List.append_assoc] at h
          rw [HXN.out]
          exact h
      -- END exit
    · -- PART more
      have hrem : ¬ (l1 : Int) % 64 = 56 := by have h0 : zN n = (119 - n % 64) % 64 := rfl; omega
      have HL1 : Hid ((ys.length + 1) * 1 ≤ 140737488355328) := by show _ ≤ _; rw [HYL.out]; omega
      have HL2 : Hid (ys.length + 1 ≤ maxLen) := by show _ ≤ _; rw [HYL.out]; unfold maxLen; omega
      clear hl1 hys hll hs1 hc1
      go_wp2_with (first
        | (at_builtin; (with_reducible refine wpList_app1 (o := ⟨some 17, _, _, _, _, _⟩) rfl (.tmp 15) (.tmp 16) 40 rfl 5 i0 (.int .u8 0) 1 Tryz.underlying40 HI.out HZ0.out HZ1.out HZ2.out rfl _ ys w.heap.size rfl HO.out 0 1 rfl fB1 HL1.out HL2.out HSz.out ?_); intro v1 w1 HO1 HG1 HV1))
      go_roundw
      case rel =>
        refine ⟨k + 1, by omega, ?_, ?_⟩
        · have h := HO1.out
          rw [HYS.out, List.append_assoc, List.cons_append, ← List.replicate_succ'] at h
          exact h
        · exact HB.out.trans (grown_below HG1.out (fun j hj => (World.ownsRow.lt HO.out j hj).1) HSz.out)
      case measure =>
        obtain ⟨A2, c2, hv2, _⟩ := HO1.out.shape
        have h1 := HYL.out
        have h2 := HLE.out
        rw [hv2]
        show n + zN n + 1 - (ys ++ [0]).length < n + zN n + 1 - l1
        rw [List.length_append]
        simp only [List.length_cons, List.length_nil]
        omega
      -- END more
end Go.Proofs.YtpdledjgbgalcaaGreatDoor
