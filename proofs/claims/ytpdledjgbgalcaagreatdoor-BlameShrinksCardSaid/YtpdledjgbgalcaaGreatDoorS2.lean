/- receipt.readUint, receipt.readSums. -/
import Derived.Test.YtpdledjgbgalcaaGreatDoorQ5
import Derived.Deep.OwnRows
namespace Go.Proofs.YtpdledjgbgalcaaGreatDoor
open Go.RowKit Go.Lib
set_option linter.unusedVariables false
set_option linter.unusedSimpArgs false
set_option maxRecDepth 20000 in
set_option maxHeartbeats 2000000 in
theorem rm_any (g : Nat) (A : Option Addr) (n c : Nat) (bs : List Int) (s : RS) (w : World) (hr : RdS g A n c bs s w) (hk : RK bs n c) (hp : s.1 ≤ n) :
    Calls Tryz.prog 218 #[.pointer (some ⟨g, 0, none⟩)] w (RPost g A n c bs (.int .i64 (rN 0 1099511627776 bs s).1) (rN 0 1099511627776 bs s).2 w) := by
  have HC := Lib.hid (ru2_any g A n c bs s w hr hk hp)
  have hnn := rU_nonneg bs s
  have hbad := rU_bad (bs := bs) (s := s)
  have hgl : Hid (g < w.heap.size) := hr.lt
  unfold rN
  obtain ⟨z, s', hz⟩ : ∃ z s', rU bs s = (z, s') := ⟨_, _, rfl⟩
  rw [hz] at HC hnn hbad ⊢
  dsimp only at hnn hbad
  clear hr hz hk hp
  by_cases hok : s.2 = 0 ∧ s'.2 = 0
  · obtain ⟨h1, h2⟩ := hok
    rw [if_pos ⟨h1, h2⟩]
    have HC2 : Hid (Calls Tryz.prog 82 #[.pointer (some ⟨g, 0, none⟩)] w fun e w' => e = .returned (.int .u64 z) ∧ Rd w' g A n c s'.1 (s.1 : Int) 0 ∧ Sl fB w' g A n bs ∧ But (fun k => k = g) w w') := HC.out.mono (fun e w' ⟨k1, ⟨pv, k2, k3⟩, k4, k5⟩ => by
      rw [k3 h1] at k2
      exact ⟨k1, (by rw [← h2]; exact k2), k4, k5⟩)
    obtain ⟨q, q2⟩ := s'
    obtain ⟨p, p2⟩ := s
    dsimp only at h1 h2 HC2 hbad
    subst h1
    subst h2
    clear HC hbad
    have HFL : Hid (∀ w1, Rd w1 g A n c q (p : Int) 0 ∧ Sl fB w1 g A n bs ∧ But (fun k => k = g) w w1 → Calls Tryz.prog 210 #[.pointer (some ⟨g, 0, none⟩)] w1 fun e w' => e = .returned (.tuple #[]) ∧ RdS g A n c bs (p, 3) w' ∧ But (fun k => k = g) w w') := fun w1 ⟨k1, k2, k3⟩ =>
      (fail_ok g A n c q p w1 k1).mono (fun e w' ⟨j1, j2, j3⟩ => ⟨j1, ⟨⟨_, j2⟩, k2.butg j3 (Nat.le_trans (Nat.le_of_lt hgl.out) k3.size)⟩, k3.trans j3 (fun i hi => .inl hi)⟩)
    by_cases hhi : (1099511627776 : Int) < z
    · rw [if_neg (fun h => by have h2 : z ≤ 1099511627776 := h.2; omega)]
      go_enter Tryz.func218, Tryz.ntmps218
      go_wp2_with (first
        | (go_at_call 82; (with_reducible refine HC2.out.mono ?_); rintro e w1 ⟨rfl, k⟩; have K := Lib.hid k; clear k)
        | (go_at_call 210; (with_reducible refine (HFL.out _ K.out).mono ?_); rintro e w2 ⟨rfl, k⟩; have K2 := Lib.hid k; clear k))
      go_ret
      exact ⟨rfl, K2.out.1, K2.out.2⟩
    · rw [if_pos ⟨hnn, by show z ≤ 1099511627776; omega⟩]
      clear HFL
      go_enter Tryz.func218, Tryz.ntmps218
      go_wp2_with (first
        | (go_at_call 82; (with_reducible refine HC2.out.mono ?_); rintro e w1 ⟨rfl, k⟩; have K := Lib.hid k; clear k))
      go_ret
      exact ⟨by first | rfl | exact ret_int (show wrap64 z = z by unfold wrap64; omega), ⟨⟨_, K.out.1⟩, K.out.2.1⟩, K.out.2.2⟩
  · rw [if_neg hok]
    obtain ⟨hz0, he⟩ := hbad hok
    have HC2 : Hid (Calls Tryz.prog 82 #[.pointer (some ⟨g, 0, none⟩)] w fun e w' => e = .returned (.int .u64 0) ∧ RdS g A n c bs s' w' ∧ But (fun k => k = g) w w') := HC.out.mono (fun e w' ⟨k1, ⟨pv, k2, k3⟩, k4, k5⟩ => ⟨by rw [k1, hz0], ⟨⟨pv, k2⟩, k4⟩, k5⟩)
    clear HC hbad hok hz0 he hnn
    go_enter Tryz.func218, Tryz.ntmps218
    go_wp2_with (first
      | (go_at_call 82; (with_reducible refine HC2.out.mono ?_); rintro e w1 ⟨rfl, k⟩; have K := Lib.hid k; clear k))
    go_ret
    exact ⟨rfl, K.out.1, K.out.2⟩
/-- A list of sums. -/
def rL (bs : List Int) (m : Nat) (s : RS) : List ByteArray × RS := rSums bs (rC bs m s).1.toNat (rC bs m s).2
theorem rL_le {bs : List Int} {m n : Nat} {s : RS} (hl : bs.length = n) (h : s.1 ≤ n) : (rL bs m s).2.1 ≤ n := rSums_le hl _ (rC_le hl h)
def RLPost (g : Nat) (A : Option Addr) (n c : Nat) (bs : List Int) (ys : List ByteArray) (s : RS) (w : World) (e : Ending) (w' : World) : Prop :=
  ∃ A5 k5 c5, e = .returned (.slice A5 k5 c5) ∧ Own fT 9 w' w.heap.size (.slice A5 k5 c5) ys ∧ RdS g A n c bs s w' ∧ But (fun k => k = g) w w'
theorem own_of_row {w : World} {b base : Nat} {cs : Array Value} {ys : List ByteArray} {n : Nat} (hg : w.heap[b]? = some (.cells cs 9 (0, 0))) (hc : cs.toList = ys.map fT) (hn : ys.length = n) (hb : base ≤ b) (hm : n ≤ maxLen) : Own fT 9 w base (.slice (some ⟨b, 0, none⟩) n n) ys := by
  have hs : cs.size = n := by rw [← Array.length_toList, hc, List.length_map, hn]
  refine ⟨by simp, .inr ⟨b, n, cs, by rw [hn], hb, hg, by rw [hn]; exact Nat.le_refl _, hm, by rw [hs, Nat.mul_one], ?_⟩⟩
  rw [hc, Nat.mul_one, List.take_of_length_le (by rw [List.length_map]; exact Nat.le_refl _)]
theorem set_mid (ys : List ByteArray) (x : ByteArray) (m : Nat) : (((ys ++ List.replicate (m + 1) baNo).map fT).set ys.length (.string x)) = ((ys ++ [x]) ++ List.replicate m baNo).map fT := by
  rw [List.map_append, List.set_append_right _ _ (by rw [List.length_map]; exact Nat.le_refl _), List.length_map, Nat.sub_self, List.replicate_succ, List.map_cons, List.set_cons_zero, List.append_assoc, List.map_append, List.map_append]
  rfl
set_option maxRecDepth 20000 in
set_option maxHeartbeats 4000000 in
theorem rl_any (g : Nat) (A : Option Addr) (n c : Nat) (bs : List Int) (s : RS) (m : Nat) (hm : m ≤ 1000) (w : World) (hr : RdS g A n c bs s w) (hk : RK bs n c) (hp : s.1 ≤ n) :
    Calls Tryz.prog 219 #[.pointer (some ⟨g, 0, none⟩), .int .i64 m] w (RLPost g A n c bs (rL bs m s).1 (rL bs m s).2 w) := by
  have hl := hr.len
  have hgl := hr.lt
  have HC := Lib.hid (rc_any g A n c bs s m (by omega) w hr hk hp)
  have hp1 := rC_le (m := m) hl hp
  have hk5 := rC_range (bs := bs) (m := m) (s := s)
  unfold rL
  obtain ⟨z, s1, hz⟩ : ∃ z s', rC bs m s = (z, s') := ⟨_, _, rfl⟩
  rw [hz] at HC hp1 hk5 ⊢
  obtain ⟨k, rfl⟩ : ∃ k : Nat, z = k := ⟨z.toNat, by have := hk5.1; dsimp only at this; omega⟩
  have hkm : k ≤ 1000 := by have h := hk5.2; dsimp only at h; omega
  dsimp only
  rw [Int.toNat_natCast]
  have HS : Hid (∀ j W, RdS g A n c bs (rSums bs j s1).2 W → Calls Tryz.prog 172 #[.pointer (some ⟨g, 0, none⟩)] W (RPost g A n c bs (.string (rS bs (rSums bs j s1).2).1) (rS bs (rSums bs j s1).2).2 W)) := fun j W h => rs_any g A n c bs _ W h hk (rSums_le hl j hp1)
  have HGL := Lib.hid hgl
  obtain ⟨i0, hi, hz0, hz1, hz2⟩ := info_parts Tryz.infoS
  have HI := Lib.hid hi
  have HZ0 := Lib.hid hz0
  have HZ1 := Lib.hid hz1
  have HZ2 := Lib.hid hz2
  clear hr hk hz hp hl hp1 hk5 hi hz0 hz1 hz2 hgl hm
  go_enter Tryz.func219, Tryz.ntmps219
  go_wp2_with (first
    | (go_at_call 141; (with_reducible refine HC.out.mono ?_); rintro e w1 ⟨rfl, r1, b1⟩
       have R1 := Lib.hid r1
       have B1 := Lib.hid b1
       clear r1 b1)
    | (at_make; (refine wpList_make_row w1 (o := ⟨some 10, _, _, _, _, _⟩) rfl (.tmp 9) (.tmp 9) 24 rfl 9 i0 (.string ⟨#[]⟩) Tryz.underlying24 HI.out HZ0.out HZ1.out rfl .i64 .i64 k rfl rfl (by rw [HZ2.out]; omega) (by omega) ?_)))
  obtain ⟨b, hb⟩ : ∃ b, b = w1.heap.size := ⟨_, rfl⟩
  obtain ⟨W2, hW2⟩ : ∃ W : World, W = w1.alloc (.cells (madeCells #[.string ⟨#[]⟩] k) 9) := ⟨_, rfl⟩
  have hb12 : Below w1.heap.size w1 W2 := by rw [hW2]; exact (Below.refl _ _).alloc (Nat.le_refl _) _
  have R2 := Lib.hid (R1.out.on hb12)
  have B2 : Hid (But (fun k => k = g) w W2) := B1.out.trans (But.of_below (p := fun k => k = g) hb12) (fun i hi => .inl hi)
  have hrow : ∃ cs, W2.heap[b]? = some (.cells cs 9 (0, 0)) ∧ cs.toList = ((rSums bs 0 s1).1 ++ List.replicate k baNo).map fT := ⟨_, by rw [hW2, hb]; exact heap_alloc_new w1 _, by
    apply List.ext_getElem?
    intro j
    rw [Array.getElem?_toList]
    have hs : (madeCells #[Value.string ⟨#[]⟩] k).size = k := by simp [madeCells]
    by_cases hj : j < k
    · rw [Array.getElem?_eq_getElem (by omega)]
      simp [madeCells, rSums, hj, Nat.mod_one, baNo]
    · rw [Array.getElem?_eq_none (by omega), List.getElem?_eq_none (by simp [rSums]; omega)]⟩
  have HROW := Lib.hid hrow
  have hgb : Hid (g < b) := by show _ < _; rw [hb]; exact R1.out.lt
  have hwb : Hid (w.heap.size ≤ b) := by show _ ≤ _; rw [hb]; exact B1.out.size
  rw [← hW2, ← hb]
  clear hb hW2 hb12 hrow HC R1 B1
  go_loopw [13] (fun i wr => ∃ (j : Nat), j ≤ k ∧ i = .int .i64 j ∧ Hid (RdS g A n c bs (rSums bs j s1).2 wr) ∧ Hid (But (fun k => k = g ∨ k = b) W2 wr) ∧ Hid (∃ cs, wr.heap[b]? = some (.cells cs 9 (0, 0)) ∧ cs.toList = ((rSums bs j s1).1 ++ List.replicate (k - j) baNo).map fT)) (fun i _ => k - (intOf i).toNat)
  case atStart => exact ⟨0, by omega, rfl, R2, But.refl _ _, HROW⟩
  case round =>
    obtain ⟨j, hj, rfl, R, B, ROW⟩ := hrel
    by_cases hlt : j < k
    · have hjI : (j : Int) < (k : Int) := by omega
      have hj0 : (0 : Int) ≤ (j : Int) := by omega
      have HC := Lib.hid (HS.out j wr R.out)
      obtain ⟨x, hx⟩ : ∃ x, x = (rS bs (rSums bs j s1).2).1 := ⟨_, rfl⟩
      rw [← hx] at HC
      have HSJ : Hid (rSums bs (j + 1) s1 = ((rSums bs j s1).1 ++ [x], (rS bs (rSums bs j s1).2).2)) := by show _ = _; rw [hx]; rfl
      clear hx
      go_wp2_with (first
        | (go_at_call 172; (with_reducible refine HC.out.mono ?_); rintro e w3 ⟨rfl, r3, b3⟩
           have hr3 : ∃ cs, w3.heap[b]? = some (.cells cs 9 (0, 0)) ∧ cs.toList = ((rSums bs j s1).1 ++ List.replicate (k - j) baNo).map fT := by
             obtain ⟨cs, q1, q2⟩ := ROW.out
             exact ⟨cs, (b3.block b (lt_of_block q1) (by have := hgb.out; omega)).trans q1, q2⟩
           obtain ⟨cs, q1, q2⟩ := hr3
           have hcs : cs.size = k := by
             rw [← Array.length_toList, q2, List.length_map, List.length_append, rSums_len, List.length_replicate]; omega
           obtain ⟨u, hu⟩ : ∃ u, cs[j]? = some u := ⟨_, Array.getElem?_eq_getElem (by omega)⟩
           have hcl : w3.cell? ⟨b, j, none⟩ = some u := by rw [cell_of_row w3 b j _ _ _ q1]; exact hu
           have hfr := frozen_of_row w3 b j _ _ q1
           have R3 := Lib.hid r3
           have B3 := Lib.hid b3
           have Q1 := Lib.hid q1
           have Q2 := Lib.hid q2
           clear r3 b3 q1 q2 hcs hu))
      refine ⟨?rel, ?measure⟩
      case rel =>
        have hst := heap_setCell_same w3 b j _ _ (.string x) Q1.out
        have hbs : But (fun k => k = b) w3 (w3.setCell ⟨b, j, none⟩ (.string x)) := But.setCell (p := fun k => k = b) (x := ⟨b, j, none⟩) (But.refl _ _) (.inl rfl) _
        refine ⟨j + 1, by omega, by go_num, ?_, ?_, ?_⟩
        · rw [HSJ.out]
          exact R3.out.but hbs (fun k hk e => by have := hgb.out; omega)
        · exact (B.out.trans B3.out (fun i hi => .inl (.inl hi))).trans hbs (fun i hi => .inl (.inr hi))
        · rw [HSJ.out]
          refine ⟨_, hst, ?_⟩
          rw [Array.toList_setIfInBounds, Q2.out, show k - j = (k - (j + 1)) + 1 by omega]
          have hlen := rSums_len bs j s1
          have := set_mid (rSums bs j s1).1 x (k - (j + 1))
          rw [hlen] at this
          exact this
      case measure => simp [intOf]; omega
    · obtain rfl : j = k := by omega
      go_wp2
      go_ret
      obtain ⟨cs, q1, q2⟩ := ROW.out
      rw [Nat.sub_self, List.replicate_zero, List.append_nil] at q2
      exact ⟨_, _, _, rfl, own_of_row q1 q2 (rSums_len _ _ _) hwb.out (by unfold maxLen; omega), R.out, B2.out.trans B.out (fun i hi => by rcases hi with rfl | rfl; exact .inl rfl; exact .inr hwb.out)⟩
end Go.Proofs.YtpdledjgbgalcaaGreatDoor
