/- Encode. -/
import Derived.Test.YtpbeaghghlfiaaaD1
namespace Go.Proofs.Ytpbeaghghlfiaaa
open Go.RowKit Go.Lib
set_option linter.unusedVariables false
set_option linter.unusedSimpArgs false
set_option maxRecDepth 100000 in
set_option maxHeartbeats 8000000 in
theorem encode_any (d m c B len : Nat) (A : Option Addr) (bl : Mt) (w : World) (h1 : 1 ≤ d) (hdm : d ≤ m) (h8 : m ≤ 8) (hP : SLL fN w B A d bl) (hB : B ≤ w.heap.size) (hok : MtOk len bl) (h0 : 0 < len) (hle : len ≤ 65536) :
    Calls Try.prog 7 #[.int .i64 d, .int .i64 m, .slice A d c] w (MaP2 (mulP len (ofP d (List.range m)) bl) w) := by
  have hbl : bl.length = d := hP.choose_spec.2.1
  have HV : Hid (Calls Try.prog 5 #[.int .i64 d, .int .i64 m] w fun e w' => e = .returned (.bool true) ∧ w = w') := by
    have q := rsvalid_any d m w
    rwa [rsB_nat h1 (by omega) hdm (by omega)] at q
  have HOL := Lib.hid (oneLength_yes A d c B len bl w hP (fun r hr => (hok r hr).1) h0 hle (by omega))
  have HCL := Lib.hid (clone_any A d c B bl w hP hB (by omega) (by omega))
  have HNT : Hid (∀ V, Calls Try.prog 19 #[.int .i64 d] V (NtP d V)) := fun V => newTable_any d h1 (by omega) V
  have HOF : Hid (∀ (V : World) tb A c, V.heap[tb]? = some (.cells (tFull d) TT (0, 0)) → Sl fI V V.heap.size A m (List.range m) → Calls Try.prog 20 #[.pointer (some ⟨tb, 0, none⟩), .slice A m c] V (MaP (ofP d (List.range m)) V)) := fun V tb A c hv hs =>
    of_any tb d m c V.heap.size A (List.range m) V hv h1 (by omega) hs (Nat.le_refl _) (fun i hi => by have := List.mem_range.1 hi; omega) (by omega)
  have hol : (ofP d (List.range m)).length = m := by unfold ofP; simp
  have hoo : MtOk d (ofP d (List.range m)) := fun r hr => by
    obtain ⟨i, hi, rfl⟩ := List.mem_map.1 hr
    exact rowP_bys (by omega) (by have := List.mem_range.1 hi; omega)
  have HAP : Hid (∀ V A1 c1 A2 c2, SLL fN V V.heap.size A1 m (ofP d (List.range m)) → SLL fN V V.heap.size A2 d bl → Calls Try.prog 18 #[.slice A1 m c1, .slice A2 d c2] V (MaP2 (mulP len (ofP d (List.range m)) bl) V)) := fun V A1 c1 A2 c2 p1 p2 =>
    apply_any A1 A2 m c1 d c2 len V.heap.size _ bl V p1 p2 (Nat.le_refl _) hoo hok (by omega) (by omega) (by omega) (by omega) hle
  have HML : Hid ((mulP len (ofP d (List.range m)) bl).length = m) := by show _ = _; unfold mulP; rw [List.length_map]; exact hol
  have HOFL := Lib.hid hol
  have HBL := Lib.hid hbl
  obtain ⟨i0, hi, hi1, hi2, hi3⟩ := info_parts Try.infoI8
  have HI := Lib.hid hi
  have HI1 := Lib.hid hi1
  have HI2 := Lib.hid hi2
  have HI3 := Lib.hid hi3
  have hd0 : ((d : Int) == 0) = false := by simp; omega
  have hd0N : decide (d = 0) = false := by simp; omega
  have hd0b : (d == 0) = false := by simp; omega
  have hdI : (d : Int) ≤ 8 := by omega
  have hmI : (m : Int) ≤ 8 := by omega
  have HM8 := Lib.hid h8
  obtain ⟨RM, hRM⟩ : ∃ RM, mulP len (ofP d (List.range m)) bl = RM := ⟨_, rfl⟩
  rw [hRM] at HAP HML ⊢
  obtain ⟨OM, hOM⟩ : ∃ OM, ofP d (List.range m) = OM := ⟨_, rfl⟩
  rw [hOM] at HAP HOF HOFL
  clear h1 hdm h8 hP hB hok h0 hle hbl hol hoo hi hi1 hi2 hi3 hRM hOM
  go_enter Try.func7, Try.ntmps7
  go_upto_region 4 with (first
    | (go_at_call 5; (with_reducible refine HV.out.mono ?_); rintro e w' ⟨rfl, rfl⟩)
    | (go_at_call 16; (with_reducible refine HOL.out.mono ?_); rintro e w' ⟨rfl, rfl⟩)
    | (go_at_call 17; (with_reducible refine HCL.out.mono ?_); rintro e w2 ⟨⟨v, rfl, hrw⟩, hb2⟩; (obtain ⟨AA, ac, hv, _, hall⟩ := hrw.sll hb2.size); rw [HBL.out] at hv hall; subst hv; (have HB2 := Lib.hid hb2); (have HAL := Lib.hid hall); clear hrw hb2 hall))
  clear HV HOL HCL
  go_loopw [8] (fun v wr => v = .slice AA d ac ∧ w2 = wr) (fun _ _ => 1)
  case atStart => exact ⟨rfl, rfl⟩
  case round =>
    obtain ⟨rfl, rfl⟩ := hrel
    go_upto_region 8 with fail
    have HZ : Hid (Below w2.heap.size w2 w2) := Below.refl _ _
    have HO0 : Hid (Own fI TI w2 w2.heap.size (.slice none 0 0) (List.range 0)) := Own.nil
    go_loopw [9, 46] (fun v i wr => ∃ k : Nat, k ≤ m ∧ i = .int .i64 k ∧ Hid (Below w2.heap.size w2 wr) ∧ Hid (Own fI TI wr w2.heap.size v (List.range k))) (fun _ i _ => m - (intOf i).toNat)
    case atStart => exact ⟨0, Nat.zero_le _, rfl, HZ, HO0⟩
    case round =>
      clear HZ HO0
      obtain ⟨k, hk, rfl, HB, HO⟩ := hrel
      obtain ⟨va, vc, hv, hvc⟩ := HO.out.shape'
      rw [List.length_range] at hv hvc
      subst hv
      have HVC := Lib.hid hvc
      clear hvc
      by_cases hlt : k < m
      · have hkI : (k : Int) < (m : Int) := by omega
        have HL1 : Hid (((List.range k).length + 1) * 8 ≤ 140737488355328) := by show ((List.range k).length + 1) * 8 ≤ _; rw [List.length_range]; have := HM8.out; omega
        have HL2 : Hid ((List.range k).length + 1 ≤ maxLen) := by show (List.range k).length + 1 ≤ _; rw [List.length_range]; have := HM8.out; unfold maxLen; omega
        go_wp2_with (at_builtin; (refine wpList_app1 (o := ⟨some 52, _, _, _, _, _⟩) (f := fI) rfl (.tmp 49) (.tmp 51) 33 rfl TI i0 (.int .i64 0) 8 Try.underlying33 HI.out HI1.out HI2.out HI3.out rfl (.slice va k vc) (List.range k) w2.heap.size (by rfl) HO.out k 1 (by rfl) (fun _ => rfl) HL1.out HL2.out HB.out.size ?_); intro v7 W7 HO7 HG7 HV7)
        have HB7 : Hid (Below w2.heap.size w2 W7) := HB.out.trans (grown_below HG7.out (fun j hj => (World.ownsRow.lt HO.out j hj).1) HB.out.size)
        go_roundw
        case rel => exact ⟨k + 1, by omega, by go_num, HB7, by show Own ..; rw [List.range_succ]; exact HO7.out⟩
        case measure => simp [intOf]; omega
      · obtain rfl : k = m := by omega
        obtain ⟨va', vc', hv', _, hsl, _⟩ := HO.out.shape
        rw [List.length_range] at hv'
        injection hv' with e1 e2 e3
        subst e1
        clear e2 e3
        have HSI : Hid (Sl fI wr wr.heap.size va k (List.range k)) := ⟨List.length_range .., hsl⟩
        have HAL2 := Lib.hid ((HAL.out.up HB.out (Nat.le_refl _)).more HB.out.size)
        clear hsl
        go_wp2_with (first
          | (go_at_call 19; (with_reducible refine (HNT.out _).mono ?_); rintro e w3 ⟨rfl, hg3, hb3⟩; (have HB3 := Lib.hid hb3); (have HO3 := Lib.hid (HOF.out w3 wr.heap.size va vc hg3 ((HSI.out.up hb3 (Nat.le_refl _)).more' hb3.size))); clear hg3 hb3)
          | (go_at_call 20; (with_reducible refine HO3.out.mono ?_); rintro e w4 ⟨hs4, he4, hm4, hb4⟩; rw [HOFL.out] at he4; subst he4; (have HB4 : Hid (Below wr.heap.size wr w4) := HB3.out.trans (hb4.mono HB3.out.size)); (have HA4 := Lib.hid (HAP.out w4 (some ⟨w3.heap.size, 0, none⟩) k AA ac (by have q := hm4.sll; rw [HOFL.out] at q; exact q) ((HAL2.out.up HB4.out (Nat.le_refl _)).more HB4.out.size))); clear hm4 hb4)
          | (go_at_call 18; (with_reducible refine HA4.out.mono ?_); rintro e w5 ⟨g5, hs5, he5, hg5, hm5, hb5⟩; rw [HML.out] at he5; subst he5; (have HG5 := Lib.hid hg5); (have HM5 := Lib.hid hm5); (have HB5 : Hid (Below wr.heap.size wr w5) := HB4.out.trans (hb5.mono HB4.out.size)); clear hg5 hm5 hb5))
        go_ret2
        have hw : Below w.heap.size w wr := HB2.out.trans (HB.out.mono HB2.out.size)
        exact ⟨g5, hs5, by rw [HML.out]; rfl, Nat.le_trans (Nat.le_trans hw.size HB4.out.size) HG5.out, HM5.out, hw.trans (HB5.out.mono hw.size)⟩
end Go.Proofs.Ytpbeaghghlfiaaa
