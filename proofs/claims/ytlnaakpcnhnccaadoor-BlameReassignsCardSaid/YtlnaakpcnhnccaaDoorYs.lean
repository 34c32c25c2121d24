/- The reference: Uint, Encode. -/
import Derived.Test.YtlnaakpcnhnccaaDoorYe
import Derived.Test.YtlnaakpcnhnccaaDoorYr
namespace Go.Proofs.YtlnaakpcnhnccaaDoor
open Go.RowKit
set_option linter.unusedVariables false
set_option linter.unusedSimpArgs false

/-- A function that hands back bytes in a row of its own. -/
def OwnB (bs : List Int) (w : World) (e : Ending) (w' : World) : Prop := ∃ v, e = .returned v ∧ Own fB 5 w' w.heap.size v bs ∧ Below w.heap.size w w'

set_option maxRecDepth 20000 in
theorem ruint_any (n : Nat) (w : World) (hn : n ≤ 1099511627776) : Calls Tryd.prog 42 #[.int .i64 n] w (OwnB (enc n) w) := by
  obtain ⟨i0, hi, hz0, hz1, hz2⟩ := info_parts Tryd.infoB
  have HI := Lib.hid hi
  have HZ0 := Lib.hid hz0
  have HZ1 := Lib.hid hz1
  have HZ2 := Lib.hid hz2
  clear hi hz0 hz1 hz2
  have HO0 : Hid (Own fB 5 (w.alloc (.cells #[] 5)) w.heap.size (.slice (some ⟨w.heap.size, 0, none⟩) 0 0) []) := World.ownsRow_lit w #[] 0 (Nat.le_refl _) (by unfold maxLen; omega) rfl
  have HB0 : Hid (Below w.heap.size w (w.alloc (.cells #[] 5))) := (Below.refl _ _).alloc (Nat.le_refl _) _
  go_enter Tryd.func42, Tryd.ntmps42
  go_wp2
  go_loopw [0, 3] (fun i u wr => ∃ (k m : Nat) (out : List Int), i = .int .i64 m ∧ m ≤ 1099511627776 ∧ Hid (m < 128 ^ k) ∧ 0 < k ∧ k ≤ 10 ∧ out.length + k ≤ 10 ∧ Hid (out ++ encF k m = enc n) ∧ Hid (Own fB 5 wr w.heap.size u out) ∧ Hid (Below w.heap.size w wr)) (fun i _ _ => (intOf i).toNat)
  case atStart => exact ⟨10, n, [], rfl, hn, by show _ < _; omega, by omega, by omega, by simp, rfl, HO0, HB0⟩
  case round =>
    obtain ⟨k, m, out, rfl, hm, HM, hk1, hk, hol, HE, HO, HB⟩ := hrel
    clear HO0 HB0
    have HL1 : Hid ((out.length + 1) * 1 ≤ 140737488355328) := by show _ ≤ _; omega
    have HL2 : Hid (out.length + 1 ≤ maxLen) := by show _ ≤ _; unfold maxLen; omega
    obtain ⟨k, rfl⟩ : ∃ k', k = k' + 1 := ⟨k - 1, by omega⟩
    by_cases hge : 128 ≤ m
    · have hmm : ((m : Int) % 128 + 128) % 256 = (m : Int) % 128 + 128 := by omega
      have HM2 : Hid (m / 128 < 128 ^ k) := by show _ < _; have := HM.out; rw [Nat.pow_succ] at this; omega
      have hk0 : 0 < k := by
        have := HM2.out
        rcases k with _ | k
        · rw [Nat.pow_zero] at this; omega
        · omega
      have HE2 : Hid ((out ++ [(m : Int) % 128 + 128]) ++ encF k (m / 128) = enc n) := by
        show _ = _
        rw [← HE.out, encF, if_neg (by omega), List.append_assoc]
        congr 1
      go_wp2_with (with_reducible refine wpList_app1 (o := ⟨some 13, _, _, _, _, _⟩) rfl (.tmp 7) (.tmp 12) 24 rfl 5 i0 (.int .u8 0) 1 Tryd.underlying24 HI.out HZ0.out HZ1.out HZ2.out rfl _ out w.heap.size rfl HO.out ((m : Int) % 128 + 128) 1 rfl fB1 HL1.out HL2.out HB.out.size ?_; intro v1 w1 HO1 HG1 _)
      go_roundw
      case rel => exact ⟨k, m / 128, out ++ [(m : Int) % 128 + 128], by first | rfl | go_num, by omega, HM2, hk0, by omega, by rw [List.length_append]; simp only [List.length_cons, List.length_nil]; omega, HE2, HO1, HO.out.below HB.out (Nat.le_refl _) HB.out.size HG1.out⟩
      case measure => simp [intOf]; omega
    · have hmm : (m : Int) % 256 = m := by omega
      have HE2 : Hid (out ++ [(m : Int)] = enc n) := by
        show _ = _
        rw [← HE.out, encF, if_pos (by omega)]
      go_wp2_with (with_reducible refine wpList_app1 (o := ⟨some 20, _, _, _, _, _⟩) rfl (.tmp 16) (.tmp 19) 24 rfl 5 i0 (.int .u8 0) 1 Tryd.underlying24 HI.out HZ0.out HZ1.out HZ2.out rfl _ out w.heap.size rfl HO.out (m : Int) 1 rfl fB1 HL1.out HL2.out HB.out.size ?_; intro v1 w1 HO1 HG1 _)
      go_ret
      exact ⟨v1, rfl, by rw [← HE2.out]; exact HO1.out, HO.out.below HB.out (Nat.le_refl _) HB.out.size HG1.out⟩

set_option maxRecDepth 20000 in
theorem rencode_any (A : Option Addr) (n : Nat) (xs : List Int) (c : Nat) (w : World) (B : Nat) (hx : Sl I w B A n xs) (hB : B ≤ w.heap.size) (hl : n ≤ 1000000) (hcap : n ≤ c) (hv : validB xs = true) :
    Calls Tryd.prog 25 #[.slice A n c] w (Slc fB (encV xs) w) := by
  have HNR : Hid ((nrm xs).all inR = true) := nrm_inR (by simp only [validB, Bool.and_eq_true] at hv; exact hv.1)
  have HNL : Hid ((nrm xs).length ≤ 12) := by show _ ≤ _; have := nrm_len xs; have := valid_len hv; omega
  have HC := Lib.hid (rnormal_any A n xs c w B hx hB hl hcap)
  clear hx hv
  obtain ⟨i0, hi, hz0, hz1, hz2⟩ := info_parts Tryd.infoB
  have HI := Lib.hid hi
  have HZ0 := Lib.hid hz0
  have HZ1 := Lib.hid hz1
  have HZ2 := Lib.hid hz2
  clear hi hz0 hz1 hz2
  go_enter Tryd.func25, Tryd.ntmps25
  go_wp2_with fail
  refine HC.out.mono ?_
  rintro e w2 ⟨A2, n2, c2, rfl, h1, h2, h3⟩
  have H2 := Lib.hid h2
  have HB2 := Lib.hid h3
  have hs2 := h3.size
  have hn2 : n2 ≤ 12 := by rw [← h2.1]; exact HNL.out
  have HL2 : Hid ((nrm xs).length = n2) := h2.1
  clear h2 h3
  go_wp2_with fail
  refine (ruint_any n2 _ (by omega)).mono ?_
  rintro e w3 ⟨v3, rfl, ho3, hb3⟩
  have HO3 : Hid (Own fB 5 w3 w2.heap.size v3 (enc n2 ++ encL ((nrm xs).take 0))) := by show Own _ _ _ _ _ _; rw [List.take_zero]; simp only [encL, List.flatMap_nil, List.append_nil]; exact ho3
  have HB3 := Lib.hid hb3
  clear ho3 hb3
  go_wp2
  go_loopw [4, 5] (fun u i wr => ∃ (k : Nat), k ≤ n2 ∧ i = .int .i64 k ∧ Hid (Own fB 5 wr w2.heap.size u (enc n2 ++ encL ((nrm xs).take k))) ∧ Hid (Below w2.heap.size w2 wr)) (fun _ i _ => n2 - (intOf i).toNat)
  case atStart => exact ⟨0, by omega, rfl, HO3, HB3⟩
  case round =>
    obtain ⟨k, hk, rfl, HO, HBk⟩ := hrel
    clear HO3 HB3
    have hbl : (enc n2 ++ encL ((nrm xs).take k)).length ≤ 130 := by
      have h1 := enc_len n2
      have h2 := encL_len ((nrm xs).take k)
      rw [List.length_append]
      rw [List.length_take] at h2
      omega
    by_cases hlt : k < n2
    · obtain ⟨b, off, x, rfl, _, hxk, hc⟩ := SL.at_ (H2.out.up HBk.out (Nat.le_refl _)).2 (k := k) (by rw [HL2.out]; exact hlt)
      have hxr := List.all_eq_true.1 HNR.out x (List.mem_of_getElem? hxk)
      simp only [inR, Bool.and_eq_true, decide_eq_true_eq] at hxr
      obtain ⟨m, rfl⟩ : ∃ m : Nat, x = m := ⟨x.toNat, by omega⟩
      have hm : m ≤ 1099511627776 := by omega
      have HT : Hid (enc n2 ++ encL ((nrm xs).take (k + 1)) = (enc n2 ++ encL ((nrm xs).take k)) ++ enc m) := by
        show _ = _
        rw [take_snoc hxk, encL_snoc, Int.toNat_natCast, List.append_assoc]
      clear hxk hxr
      go_wp2_with fail
      refine (ruint_any m _ hm).mono ?_
      rintro e w5 ⟨v5, rfl, ho5, hb5⟩
      obtain ⟨A5, c5, hv5, _, hs5, _⟩ := ho5.shape
      obtain ⟨l5, hl5⟩ : ∃ l, (enc m).length = l := ⟨_, rfl⟩
      rw [hl5] at hv5
      have hel := enc_len m
      have HS5 : Hid (Sl fB w5 w5.heap.size A5 l5 (enc m)) := ⟨hl5, hs5⟩
      have HO5 : Hid (Own fB 5 w5 w2.heap.size u4 (enc n2 ++ encL ((nrm xs).take k))) := HO.out.on hb5
      have HB5 : Hid (Below w2.heap.size w2 w5) := HBk.out.trans (hb5.mono HBk.out.size)
      have HL1 : Hid (((enc n2 ++ encL ((nrm xs).take k)).length + (enc m).length) * 1 ≤ 140737488355328) := by show _ ≤ _; omega
      have HL3 : Hid ((enc n2 ++ encL ((nrm xs).take k)).length + (enc m).length ≤ maxLen) := by show _ ≤ _; unfold maxLen; omega
      clear ho5 hb5 hs5 hl5
      subst hv5
      go_wp2_with (with_reducible refine wpList_app (o := ⟨some 23, _, _, _, _, _⟩) rfl (.tmp 17) (.tmp 22) 24 rfl 5 i0 (.int .u8 0) 1 Tryd.underlying24 HI.out HZ0.out HZ1.out HZ2.out rfl u4 (enc n2 ++ encL ((nrm xs).take k)) w2.heap.size rfl HO5.out _ _ _ w5.heap.size (enc m) rfl HS5.out fB1 HL1.out HL3.out HB5.out.size ?_; intro v6 w6 HO6 HG6 _)
      go_roundw
      case rel => exact ⟨k + 1, by omega, by go_num, by show Own _ _ _ _ _ _; rw [HT.out]; exact HO6.out, HO5.out.below HB5.out (Nat.le_refl _) HB5.out.size HG6.out⟩
      case measure => simp [intOf]; omega
    · obtain rfl : k = n2 := by omega
      have HTT : Hid (enc k ++ encL ((nrm xs).take k) = encV xs) := by
        show _ = _
        rw [List.take_of_length_le (by have := HL2.out; omega), encV, HL2.out]
      obtain ⟨A1, c1, hv1, hc1, hs1, _⟩ := HO.out.shape
      obtain ⟨l1, hl1⟩ : ∃ l, (enc k ++ encL ((nrm xs).take k)).length = l := ⟨_, rfl⟩
      have HS1 : Hid (Sl fB wr wr.heap.size A1 l1 (enc k ++ encL ((nrm xs).take k))) := ⟨hl1, hs1⟩
      rw [hl1] at hv1 hc1
      clear hl1 hs1
      subst hv1
      go_wp2
      go_ret
      exact ⟨A1, l1, c1, rfl, hc1, by rw [← HTT.out]; exact HS1.out, HB2.out.trans (HBk.out.mono hs2)⟩
end Go.Proofs.YtlnaakpcnhnccaaDoor
