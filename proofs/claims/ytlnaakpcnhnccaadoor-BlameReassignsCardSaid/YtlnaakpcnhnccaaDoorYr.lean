/- The reference: Get, Covers, Normal, Join, Common, Ints. -/
import Derived.Test.YtlnaakpcnhnccaaDoorYn
import Derived.StillTailTactics
namespace Go.Proofs.YtlnaakpcnhnccaaDoor
open Go.RowKit
set_option linter.unusedVariables false
set_option linter.unusedSimpArgs false

def gv (xs : List Int) (d : Int) : Int := if d < 0 then 0 else xs.getD d.toNat 0
theorem gv_nat (xs : List Int) (k : Nat) : gv xs k = xs.getD k 0 := by rw [gv, if_neg (by omega), Int.toNat_natCast]
theorem gv_out {xs : List Int} {d : Int} (h : d < 0 ∨ (xs.length : Int) ≤ d) : gv xs d = 0 := by
  unfold gv; split
  · rfl
  · rw [List.getD_eq_getElem?_getD, List.getElem?_eq_none (by omega)]; rfl

theorem rnormal_any (A : Option Addr) (n : Nat) (xs : List Int) (c : Nat) (w : World) (B : Nat) (hx : Sl I w B A n xs) (hB : B ≤ w.heap.size) (hl : n ≤ 1000000) (hcap : n ≤ c) :
    Calls Tryd.prog 12 #[.slice A n c] w (Slc I (nrm xs) w) := by
  obtain ⟨rfl, hx⟩ := hx
  have HX := Lib.hid hx
  clear hx
  obtain ⟨i0, hi, hz0, hz1, hz2⟩ := info_parts Tryd.info3
  have HI := Lib.hid hi
  have HZ0 := Lib.hid hz0
  have HZ1 := Lib.hid hz1
  have HZ2 := Lib.hid hz2
  clear hi hz0 hz1 hz2
  go_enter Tryd.func12, Tryd.ntmps12
  go_wp2
  go_loop [3] (fun i => ∃ m : Nat, m ≤ xs.length ∧ i = .int .i64 m ∧ Hid (nlen xs m = nlen xs xs.length)) (fun i => (intOf i).toNat)
  case atStart => exact ⟨xs.length, Nat.le_refl _, rfl, rfl⟩
  case round =>
    obtain ⟨n, hn, rfl, HN⟩ := hrel
    by_cases hgo : 0 < n ∧ xs.getD (n - 1) 0 = 0
    · obtain ⟨m, rfl⟩ : ∃ m, n = m + 1 := ⟨n - 1, by omega⟩
      obtain ⟨b, off, z, rfl, _, hz, hc⟩ := HX.out.at_ (k := m) (by omega)
      have hz0 : z = 0 := by have := hgo.2; rwa [Nat.add_sub_cancel, getD_of hz] at this
      subst hz0
      have HN2 : Hid (nlen xs m = nlen xs xs.length) := by
        rw [← HN.out]; show _ = nlen xs (m + 1); rw [nlen, getD_of hz, if_pos rfl]
      clear hgo hz
      go_wp2
      go_round
      case rel => exact ⟨m, by omega, by go_num, HN2⟩
      case measure => simp [intOf]
    · have HE : Hid (nrm xs = xs.take n) := by
        show nrm xs = _
        rw [nrm, ← HN.out]
        cases n with
        | zero => rfl
        | succ m => rw [nlen, if_neg (fun h => hgo ⟨by omega, by simpa using h⟩)]
      have HB2 : Hid (Below w.heap.size w (w.alloc (.cells #[] 3))) := (Below.refl _ _).alloc (Nat.le_refl _) _
      have HSL : Hid (Sl I (w.alloc (.cells #[] 3)) B A n (xs.take n)) := ⟨by rw [List.length_take]; omega, (HX.out.take_ n).up HB2.out hB⟩
      have HO : Hid (Own I 3 (w.alloc (.cells #[] 3)) w.heap.size (.slice (some ⟨w.heap.size, 0, none⟩) 0 0) []) := World.ownsRow_lit w #[] 0 (Nat.le_refl _) (by unfold maxLen; omega) rfl
      have HL1 : Hid ((([] : List Int).length + (xs.take n).length) * 8 ≤ 140737488355328) := by show _ ≤ _; simp; omega
      have HL2 : Hid (([] : List Int).length + (xs.take n).length ≤ maxLen) := by show _ ≤ _; simp [maxLen]; omega
      by_cases h0 : n = 0
      · subst h0
        clear hgo
        have hsl := run_slice_to (P := Tryd.prog) 22 3 i0 Tryd.underlying22 HI.out A xs.length c .i64 0 0 rfl (by omega) (w.alloc (.cells #[] 3))
        go_wp2_with (with_reducible refine wpList_app (o := ⟨some 22, _, _, _, _, _⟩) rfl (.tmp 18) (.tmp 21) 22 rfl 3 i0 (.int .i64 0) 8 Tryd.underlying22 HI.out HZ0.out HZ1.out HZ2.out rfl (.slice (some ⟨w.heap.size, 0, none⟩) 0 0) [] w.heap.size rfl HO.out _ _ _ B (xs.take 0) rfl HSL.out I1 HL1.out HL2.out HB2.out.size ?_; intro v1 w1 HO1 HG1 _)
        obtain ⟨A', c', rfl, hc', hs', _⟩ := HO1.out.shape
        go_ret
        exact ⟨A', _, c', rfl, hc', by rw [HE.out]; exact hs'.sl, HB2.out.trans (grown_below HG1.out (by simp [Value.ownBlock]) HB2.out.size)⟩
      · obtain ⟨m, rfl⟩ : ∃ m, n = m + 1 := ⟨n - 1, by omega⟩
        obtain ⟨b, off, z, rfl, _, hz, hc⟩ := HX.out.at_ (k := m) (by omega)
        have hz1 : (z == 0) = false := by
          have : ¬ z = 0 := fun e => hgo ⟨by omega, by rw [Nat.add_sub_cancel, getD_of hz, e]⟩
          simpa using this
        clear hgo h0 hz
        have hsl := run_slice_to (P := Tryd.prog) 22 3 i0 Tryd.underlying22 HI.out (some ⟨b, off, none⟩) xs.length c .i64 ((m : Int) + 1) (m + 1) (by omega) (by omega) (w.alloc (.cells #[] 3))
        go_wp2_with (with_reducible refine wpList_app (o := ⟨some 22, _, _, _, _, _⟩) rfl (.tmp 18) (.tmp 21) 22 rfl 3 i0 (.int .i64 0) 8 Tryd.underlying22 HI.out HZ0.out HZ1.out HZ2.out rfl (.slice (some ⟨w.heap.size, 0, none⟩) 0 0) [] w.heap.size rfl HO.out _ _ _ B (xs.take (m + 1)) rfl HSL.out I1 HL1.out HL2.out HB2.out.size ?_; intro v1 w1 HO1 HG1 _)
        obtain ⟨A', c', rfl, hc', hs', _⟩ := HO1.out.shape
        go_ret
        exact ⟨A', _, c', rfl, hc', by rw [HE.out]; exact hs'.sl, HB2.out.trans (grown_below HG1.out (by simp [Value.ownBlock]) HB2.out.size)⟩

theorem ints_any (A A' : Option Addr) (n n' : Nat) (xs ys : List Int) (c c' : Nat) (w : World) (B : Nat) (hx : Sl I w B A n xs) (hy : Sl I w B A' n' ys) (hl : n ≤ 1000000) (hl' : n' ≤ 1000000) :
    Calls Tryd.prog 11 #[.slice A n c, .slice A' n' c'] w fun e w' => e = .returned (.bool (decide (xs = ys))) ∧ ∃ r, w' = w.drewN r := by
  obtain ⟨rfl, hx⟩ := hx
  obtain ⟨rfl, hy⟩ := hy
  have HX := Lib.hid hx
  have HY := Lib.hid hy
  clear hx hy
  by_cases he : xs.length = ys.length
  · have HE := Lib.hid he
    have hd : ((xs.length : Int) != (ys.length : Int)) = false := by simp; omega
    have hl2 : xs.length ≤ ys.length := by omega
    clear he
    go_enter Tryd.func11, Tryd.ntmps11
    go_wp2
    go_loopw [5] (fun i wr => ∃ k : Nat, k ≤ xs.length ∧ i = .int .i64 k ∧ Hid (xs.take k = ys.take k) ∧ Hid (∃ r, wr = w.drewN r)) (fun i _ => xs.length - (intOf i).toNat)
    case atStart => exact ⟨0, by omega, rfl, by show _ = _; simp, ⟨0, rfl⟩⟩
    case round =>
      obtain ⟨k, hk, rfl, HT, HR⟩ := hrel
      obtain ⟨r, hr⟩ := HR.out
      subst hr
      clear HR
      by_cases hlt : k < xs.length
      · obtain ⟨b, off, x, rfl, _, hxk, hc⟩ := HX.out.at_ (k := k) (by omega)
        obtain ⟨b', off', y, rfl, _, hyk, hc'⟩ := HY.out.at_ (k := k) (by omega)
        have hlt' : k < ys.length := by omega
        have HXk := Lib.hid hxk
        have HYk := Lib.hid hyk
        clear hxk hyk
        by_cases hne : x = y
        · subst hne
          have hb : (x != x) = false := by simp
          go_wp2
          go_quiet (fail)
          go_wp2
          go_roundw
          case rel => exact ⟨k + 1, by omega, by go_num, by show _ = _; rw [take_snoc HXk.out, take_snoc HYk.out, HT.out], _, rfl⟩
          case measure => simp [intOf]; omega
        · have hb : (x != y) = true := by simpa using hne
          have HF : Hid (decide (xs = ys) = false) := by
            show _ = _
            simp only [decide_eq_false_iff_not]
            rintro rfl
            have := HXk.out.symm.trans HYk.out
            simp at this; exact hne this
          clear hne
          go_wp2
          go_quiet (fail)
          go_wp2
          go_ret
          exact ⟨ret_bool HF.out.symm, _, World.drewN_drewN _ _ _⟩
      · have HF : Hid (decide (xs = ys) = true) := by
          show _ = _
          have := HT.out
          rw [List.take_of_length_le (by omega), List.take_of_length_le (by have := HE.out; omega)] at this
          simpa using this
        go_wp2
        go_ret
        exact ⟨ret_bool HF.out.symm, _, rfl⟩
  · have HF : Hid (decide (xs = ys) = false) := by
      show _ = _
      simp only [decide_eq_false_iff_not]
      rintro rfl
      exact he rfl
    have hd : ((xs.length : Int) != (ys.length : Int)) = true := by simp; omega
    clear he
    go_enter Tryd.func11, Tryd.ntmps11
    go_wp2
    go_ret
    exact ⟨ret_bool HF.out.symm, 0, rfl⟩
end Go.Proofs.YtlnaakpcnhnccaaDoor
