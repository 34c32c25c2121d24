/- The reference: Join, Common. -/
import Derived.Test.YtalclofogengpaaRef
namespace Go.Proofs.Ytalclofogengpaa
open Go.RowKit

def zw (g : Int → Int → Int) (xs ys : List Int) (k : Nat) : List Int := (List.range k).map fun j => g (xs.getD j 0) (ys.getD j 0)
theorem zw_len (g : Int → Int → Int) (xs ys : List Int) (k : Nat) : (zw g xs ys k).length = k := by simp [zw]
theorem zw_succ (g : Int → Int → Int) (xs ys : List Int) (k : Nat) : zw g xs ys (k + 1) = zw g xs ys k ++ [g (xs.getD k 0) (ys.getD k 0)] := by simp [zw, List.range_succ]

set_option maxHeartbeats 400000 in
theorem rjoin_any (A A' : Option Addr) (n n' : Nat) (xs ys : List Int) (c c' : Nat) (w : World) (B : Nat) (hx : Sl I w B A n xs) (hy : Sl I w B A' n' ys) (hB : B ≤ w.heap.size) (hl : n ≤ 1000000) (hl' : n' ≤ 1000000) :
    Calls Try.prog 22 #[.slice A n c, .slice A' n' c'] w (Slc I (nrm (zw max xs ys 12)) w) := by
  have HX := Lib.hid hx
  have HY := Lib.hid hy
  clear hx hy
  obtain ⟨i0, hi, hz0, hz1, hz2⟩ := info_parts Try.info3
  have HI := Lib.hid hi
  have HZ0 := Lib.hid hz0
  have HZ1 := Lib.hid hz1
  have HZ2 := Lib.hid hz2
  clear hi hz0 hz1 hz2
  have HO : Hid (Own I 3 (w.alloc (.cells #[] 3)) w.heap.size (.slice (some ⟨w.heap.size, 0, none⟩) 0 0) (zw max xs ys 0)) := World.ownsRow_lit w #[] 0 (Nat.le_refl _) (by unfold maxLen; omega) rfl
  have HB0 : Hid (Below w.heap.size w (w.alloc (.cells #[] 3))) := (Below.refl _ _).alloc (Nat.le_refl _) _
  go_enter Try.func22, Try.ntmps22
  go_wp2
  go_loopw [5, 6] (fun v i wr => ∃ k : Nat, k ≤ 12 ∧ i = .int .i64 k ∧ Hid (Own I 3 wr w.heap.size v (zw max xs ys k)) ∧ Hid (Below w.heap.size w wr)) (fun _ i _ => 12 - (intOf i).toNat)
  case atStart => exact ⟨0, by omega, rfl, HO, HB0⟩
  case round =>
    obtain ⟨k, hk, rfl, HOk, HBk⟩ := hrel
    clear HO HB0
    by_cases hlt : k < 12
    · obtain ⟨x, hxk⟩ : ∃ x, xs.getD k 0 = x := ⟨_, rfl⟩
      obtain ⟨y, hyk⟩ : ∃ y, ys.getD k 0 = y := ⟨_, rfl⟩
      obtain ⟨m, hm⟩ : ∃ m, (if x < y then y else x) = m := ⟨_, rfl⟩
      have HM : Hid (zw max xs ys (k + 1) = zw max xs ys k ++ [m]) := by
        show _ = _
        rw [zw_succ, hxk, hyk, ← hm]
        congr 2
        split <;> omega
      have c1 : Hid (∀ W, Sl I W B A n xs → Calls Try.prog 19 #[.slice A n c, .int .i64 (k : Int)] W fun e w' => e = .returned (.int .i64 x) ∧ W = w') := fun W h => (by rw [gv_nat, hxk] : gv xs k = x) ▸ rget_any A n xs c k W B h hl
      have c2 : Hid (∀ W, Sl I W B A' n' ys → Calls Try.prog 19 #[.slice A' n' c', .int .i64 (k : Int)] W fun e w' => e = .returned (.int .i64 y) ∧ W = w') := fun W h => (by rw [gv_nat, hyk] : gv ys k = y) ▸ rget_any A' n' ys c' k W B h hl'
      have HL : Hid (((zw max xs ys k).length + 1) * 8 ≤ 140737488355328) := by show _ ≤ _; rw [zw_len]; omega
      have HL2 : Hid ((zw max xs ys k).length + 1 ≤ maxLen) := by show _ ≤ _; rw [zw_len]; unfold maxLen; omega
      clear hxk hyk
      go_wp2_with fail
      refine (c1.out _ (HX.out.up HBk.out hB)).mono ?_; rintro e w' ⟨rfl, rfl⟩
      go_wp2_with fail
      refine (c2.out _ (HY.out.up HBk.out hB)).mono ?_; rintro e w' ⟨rfl, rfl⟩
      go_wp2_with (with_reducible refine wpList_app1 (o := ⟨some 21, _, _, _, _, _⟩) rfl (.tmp 12) (.tmp 20) 22 rfl 3 i0 (.int .i64 0) 8 Try.underlying22 HI.out HZ0.out HZ1.out HZ2.out rfl _ (zw max xs ys k) w.heap.size rfl HOk.out m 1 rfl I1 HL.out HL2.out HBk.out.size ?_; intro v1 w1 HO1 HG1 _)
      go_roundw
      case rel => exact ⟨k + 1, by omega, by go_num, by show Own _ _ _ _ _ _; rw [HM.out]; exact HO1.out, HOk.out.below HBk.out (Nat.le_refl _) HBk.out.size HG1.out⟩
      case measure => simp [intOf]; omega
    · obtain rfl : k = 12 := by omega
      obtain ⟨A1, c1, rfl, h1, h2, _⟩ := HOk.out.shape
      have HS : Hid (Sl I wr wr.heap.size A1 (zw max xs ys 12).length (zw max xs ys 12)) := h2.sl
      have hln : (zw max xs ys 12).length = 12 := zw_len _ _ _ _
      go_wp2_with (go_at_call 23; refine (rnormal_any _ _ (zw max xs ys 12) _ _ _ (HS.out) (Nat.le_refl _) (by omega) (by omega)).mono ?_; rintro e w1 ⟨A', n', c', rfl, h1', h2', h3'⟩)
      go_ret
      exact ⟨A', n', c', rfl, h1', h2', HBk.out.trans (h3'.mono HBk.out.size)⟩
set_option maxHeartbeats 400000 in
theorem rcommon_any (A A' : Option Addr) (n n' : Nat) (xs ys : List Int) (c c' : Nat) (w : World) (B : Nat) (hx : Sl I w B A n xs) (hy : Sl I w B A' n' ys) (hB : B ≤ w.heap.size) (hl : n ≤ 1000000) (hl' : n' ≤ 1000000) :
    Calls Try.prog 24 #[.slice A n c, .slice A' n' c'] w (Slc I (nrm (zw min xs ys 12)) w) := by
  have HX := Lib.hid hx
  have HY := Lib.hid hy
  clear hx hy
  obtain ⟨i0, hi, hz0, hz1, hz2⟩ := info_parts Try.info3
  have HI := Lib.hid hi
  have HZ0 := Lib.hid hz0
  have HZ1 := Lib.hid hz1
  have HZ2 := Lib.hid hz2
  clear hi hz0 hz1 hz2
  have HO : Hid (Own I 3 (w.alloc (.cells #[] 3)) w.heap.size (.slice (some ⟨w.heap.size, 0, none⟩) 0 0) (zw min xs ys 0)) := World.ownsRow_lit w #[] 0 (Nat.le_refl _) (by unfold maxLen; omega) rfl
  have HB0 : Hid (Below w.heap.size w (w.alloc (.cells #[] 3))) := (Below.refl _ _).alloc (Nat.le_refl _) _
  go_enter Try.func24, Try.ntmps24
  go_wp2
  go_loopw [5, 6] (fun v i wr => ∃ k : Nat, k ≤ 12 ∧ i = .int .i64 k ∧ Hid (Own I 3 wr w.heap.size v (zw min xs ys k)) ∧ Hid (Below w.heap.size w wr)) (fun _ i _ => 12 - (intOf i).toNat)
  case atStart => exact ⟨0, by omega, rfl, HO, HB0⟩
  case round =>
    obtain ⟨k, hk, rfl, HOk, HBk⟩ := hrel
    clear HO HB0
    by_cases hlt : k < 12
    · obtain ⟨x, hxk⟩ : ∃ x, xs.getD k 0 = x := ⟨_, rfl⟩
      obtain ⟨y, hyk⟩ : ∃ y, ys.getD k 0 = y := ⟨_, rfl⟩
      obtain ⟨m, hm⟩ : ∃ m, (if y < x then y else x) = m := ⟨_, rfl⟩
      have HM : Hid (zw min xs ys (k + 1) = zw min xs ys k ++ [m]) := by
        show _ = _
        rw [zw_succ, hxk, hyk, ← hm]
        congr 2
        split <;> omega
      have c1 : Hid (∀ W, Sl I W B A n xs → Calls Try.prog 19 #[.slice A n c, .int .i64 (k : Int)] W fun e w' => e = .returned (.int .i64 x) ∧ W = w') := fun W h => (by rw [gv_nat, hxk] : gv xs k = x) ▸ rget_any A n xs c k W B h hl
      have c2 : Hid (∀ W, Sl I W B A' n' ys → Calls Try.prog 19 #[.slice A' n' c', .int .i64 (k : Int)] W fun e w' => e = .returned (.int .i64 y) ∧ W = w') := fun W h => (by rw [gv_nat, hyk] : gv ys k = y) ▸ rget_any A' n' ys c' k W B h hl'
      have HL : Hid (((zw min xs ys k).length + 1) * 8 ≤ 140737488355328) := by show _ ≤ _; rw [zw_len]; omega
      have HL2 : Hid ((zw min xs ys k).length + 1 ≤ maxLen) := by show _ ≤ _; rw [zw_len]; unfold maxLen; omega
      clear hxk hyk
      go_wp2_with fail
      refine (c1.out _ (HX.out.up HBk.out hB)).mono ?_; rintro e w' ⟨rfl, rfl⟩
      go_wp2_with fail
      refine (c2.out _ (HY.out.up HBk.out hB)).mono ?_; rintro e w' ⟨rfl, rfl⟩
      go_wp2_with (with_reducible refine wpList_app1 (o := ⟨some 21, _, _, _, _, _⟩) rfl (.tmp 12) (.tmp 20) 22 rfl 3 i0 (.int .i64 0) 8 Try.underlying22 HI.out HZ0.out HZ1.out HZ2.out rfl _ (zw min xs ys k) w.heap.size rfl HOk.out m 1 rfl I1 HL.out HL2.out HBk.out.size ?_; intro v1 w1 HO1 HG1 _)
      go_roundw
      case rel => exact ⟨k + 1, by omega, by go_num, by show Own _ _ _ _ _ _; rw [HM.out]; exact HO1.out, HOk.out.below HBk.out (Nat.le_refl _) HBk.out.size HG1.out⟩
      case measure => simp [intOf]; omega
    · obtain rfl : k = 12 := by omega
      obtain ⟨A1, c1, rfl, h1, h2, _⟩ := HOk.out.shape
      have HS : Hid (Sl I wr wr.heap.size A1 (zw min xs ys 12).length (zw min xs ys 12)) := h2.sl
      have hln : (zw min xs ys 12).length = 12 := zw_len _ _ _ _
      go_wp2_with (go_at_call 23; refine (rnormal_any _ _ (zw min xs ys 12) _ _ _ (HS.out) (Nat.le_refl _) (by omega) (by omega)).mono ?_; rintro e w1 ⟨A', n', c', rfl, h1', h2', h3'⟩)
      go_ret
      exact ⟨A', n', c', rfl, h1', h2', HBk.out.trans (h3'.mono HBk.out.size)⟩
end Go.Proofs.Ytalclofogengpaa
