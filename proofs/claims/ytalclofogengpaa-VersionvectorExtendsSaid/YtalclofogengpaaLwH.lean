/- The walk of the law Joins. -/
import Derived.Test.YtalclofogengpaaTwo
namespace Go.Proofs.Ytalclofogengpaa
open Go.RowKit

/-- A slice of slices that came in: as SLL, and each head's length fits its room. -/
def RowsIn (w : World) (B : Nat) (A : Option Addr) (n : Nat) (vs : List (List Int)) : Prop :=
  ∃ hs : List Hd, Sl fS w B A n hs ∧ vs.length = n ∧ (∀ (k : Nat) (h : Hd) (v : List Int), hs[k]? = some h → vs[k]? = some v → Sl I w B h.a h.n v) ∧ ∀ h ∈ hs, h.n ≤ h.c
theorem RowsIn.sll {w : World} {B n : Nat} {A : Option Addr} {vs : List (List Int)} (h : RowsIn w B A n vs) : SLL I w B A n vs := by
  obtain ⟨hs, h1, h2, h3, _⟩ := h
  exact ⟨hs, h1, h2, h3⟩
theorem RowsIn.up {w w' : World} {B B' n : Nat} {A : Option Addr} {vs : List (List Int)} (h : RowsIn w B A n vs) (hb : Below B' w w') (hB : B ≤ B') : RowsIn w' B A n vs := by
  obtain ⟨hs, h1, h2, h3, h4⟩ := h
  exact ⟨hs, h1.up hb hB, h2, fun k h v hh hv => (h3 k h v hh hv).up hb hB, h4⟩
theorem RowsIn.at_ {w : World} {B n : Nat} {A : Option Addr} {vs : List (List Int)} (h : RowsIn w B A n vs) {k : Nat} (hk : k < n) :
    ∃ b off a m c v, A = some ⟨b, off, none⟩ ∧ b < B ∧ vs[k]? = some v ∧ w.cell? ⟨b, off + k, none⟩ = some (.slice a m c) ∧ Sl I w B a m v ∧ m ≤ c := by
  obtain ⟨hs, h1, h2, h3, h4⟩ := h
  obtain ⟨b, off, e, hb, hc⟩ := h1.2 (by have := h1.1; omega)
  obtain ⟨h, hh⟩ := get_ex (xs := hs) (k := k) (by have := h1.1; omega)
  obtain ⟨v, hv⟩ := get_ex (xs := vs) (k := k) (by omega)
  exact ⟨b, off, h.a, h.n, h.c, v, e, hb, hv, hc k h hh, h3 k h v hh hv, h4 h (List.mem_of_getElem? hh)⟩

/-- A list that stands for the join (meet) of the first k. -/
def JR (g : Int → Int → Int) (X : List Int) (vs : List (List Int)) (k : Nat) : Prop := X.length ≤ 12 ∧ nrm X = X ∧ ∀ j, X.getD j 0 = (accN g vs k).getD j 0
theorem JR_zero (g : Int → Int → Int) (vs : List (List Int)) : JR g [] vs 0 := ⟨by simp, rfl, fun j => by
  rw [accN]
  rcases Nat.lt_or_ge j 12 with h | h
  · match j, h with
    | 0, _ => rfl
    | 1, _ => rfl
    | 2, _ => rfl
    | 3, _ => rfl
    | 4, _ => rfl
    | 5, _ => rfl
    | 6, _ => rfl
    | 7, _ => rfl
    | 8, _ => rfl
    | 9, _ => rfl
    | 10, _ => rfl
    | 11, _ => rfl
  · rw [getD_out (x := Z0) (by simpa using h)]; rfl⟩
theorem JR_step (g : Int → Int → Int) (hg : g 0 0 = 0) {vs : List (List Int)} {k : Nat} {v X : List Int} (hk : vs[k]? = some v) (hv : validB v = true) (hall : (vs.take k).all validB = true) (hX : X.length ≤ 12)
    (h : ∀ j, j < 12 → g (X.getD j 0) (v.getD j 0) = g (if k = 0 then v.getD j 0 else (accN g vs k).getD j 0) (v.getD j 0)) : JR g (MM g X v) vs (k + 1) := by
  have hkl : k < vs.length := (List.getElem?_eq_some_iff.1 hk).1
  have hl := accN_len g vs k (by omega) hall
  refine ⟨MM_len _ _ _, MM_nf _ _ _, fun j => ?_⟩
  rcases Nat.lt_or_ge j 12 with hj | hj
  · rw [MM_getD hg hX (valid_len hv), accN_succ g hk hv (.inr hl) j hj, h j hj]
  · have hl2 := accN_len g vs (k + 1) (by omega) (by rw [take_snoc hk, List.all_append, hall]; simp [hv])
    rw [getD_out (x := accN g vs (k + 1)) (by omega), getD_out]
    exact Nat.le_trans (MM_len _ _ _) hj
theorem JR_max {vs : List (List Int)} {k : Nat} {v X : List Int} (hk : vs[k]? = some v) (hv : validB v = true) (hall : (vs.take k).all validB = true) (h : JR max X vs k) : JR max (MM max X v) vs (k + 1) := by
  refine JR_step max (by decide) hk hv hall h.1 fun j hj => ?_
  have hvj := valid_getD hv j
  by_cases h0 : k = 0
  · subst h0
    have := h.2.2 j
    rw [← (JR_zero max vs).2.2 j] at this
    rw [if_pos rfl, this]
    show max 0 _ = _
    omega
  · rw [if_neg h0, h.2.2 j]
theorem JR_min0 {vs : List (List Int)} {v : List Int} (hk : vs[0]? = some v) (hv : validB v = true) : JR min (MM min (nrm v) v) vs (0 + 1) := by
  refine JR_step min (by decide) hk hv rfl (Nat.le_trans (nrm_len' v) (valid_len hv)) fun j hj => ?_
  rw [if_pos rfl, nrm_getD]
theorem JR_min {vs : List (List Int)} {k : Nat} {v X : List Int} (hk : vs[k]? = some v) (hv : validB v = true) (hall : (vs.take k).all validB = true) (h0 : k ≠ 0) (h : JR min X vs k) : JR min (MM min X v) vs (k + 1) := by
  refine JR_step min (by decide) hk hv hall h.1 fun j hj => ?_
  rw [if_neg h0, h.2.2 j]
theorem JR_end {g : Int → Int → Int} {X : List Int} {vs : List (List Int)} {k : Nat} (h : JR g X vs k) : nrm (accN g vs k) = X := by
  rw [← h.2.1]
  exact (nrm_congr h.2.2).symm
theorem comb_yes {f : Nat} {args : Array Value} {g : Int → Int → Int} {vs : List (List Int)} {w : World} (h : Calls Try.prog f args w (CombPost g vs w)) (hv : vs.all validB = true) : Calls Try.prog f args w (Slc2 I (nrm (accN g vs vs.length)) 0 w) :=
  h.mono fun e w' hh => by
    rcases hh with ⟨_, hh⟩ | ⟨h0, _⟩
    · exact hh
    · rw [hv] at h0; cases h0
theorem comb_no {f : Nat} {args : Array Value} {g : Int → Int → Int} {vs : List (List Int)} {w : World} (h : Calls Try.prog f args w (CombPost g vs w)) (hv : vs.all validB = false) : Calls Try.prog f args w (Slc2 I ([] : List Int) 1 w) :=
  h.mono fun e w' hh => by
    rcases hh with ⟨h0, _⟩ | ⟨_, hh⟩
    · rw [hv] at h0; cases h0
    · exact hh

set_option maxRecDepth 20000 in
set_option maxHeartbeats 4000000 in
theorem law_joins (A : Option Addr) (n c : Nat) (vs : List (List Int)) (w : World) (hx : RowsIn w w.heap.size A n vs) :
    Calls Try.prog 5 #[.slice A n c] w (Law w) := by
  have HX := Lib.hid hx
  have HN : Hid (vs.length = n) := by obtain ⟨_, _, h, _⟩ := hx; exact h
  clear hx
  by_cases h1 : n ≤ 6
  · go_enter Try.func5, Try.ntmps5
    go_wp2
    go_loop [3, 4] (fun o i => ∃ (k : Nat) (b : Bool), k ≤ n ∧ i = .int .i64 k ∧ o = .bool b ∧ Hid (b = (vs.take k).all validB) ∧ Hid (∀ v ∈ vs.take k, v.length ≤ 20)) (fun _ i => n - (intOf i).toNat)
    case atStart => exact ⟨0, true, Nat.zero_le _, rfl, rfl, by show _ = _; simp, fun v hv => by simp at hv⟩
    case round =>
      obtain ⟨k, b, hk, rfl, rfl, HBB, HF⟩ := hrel
      by_cases hlt : k < n
      · obtain ⟨bb, off, a, m, cc, v, rfl, hbB, hv, hcell, hsl, hmc⟩ := HX.out.at_ hlt
        have HSL := Lib.hid hsl
        have Hv := Lib.hid hv
        have HVM : Hid (v.length = m) := hsl.1
        clear hsl hv
        by_cases hm : m ≤ 20
        · have HF' : Hid (∀ v ∈ vs.take (k + 1), v.length ≤ 20) := fun z hz => by
            rw [take_snoc Hv.out, List.mem_append, List.mem_singleton] at hz
            rcases hz with hz | rfl
            · exact HF.out z hz
            · rw [HVM.out]; exact hm
          obtain ⟨b', hb'⟩ : ∃ b', b' = validB v := ⟨_, rfl⟩
          have HB' : Hid ((b && b') = (vs.take (k + 1)).all validB) := by
            show _ = _
            rw [take_snoc Hv.out, List.all_append, ← HBB.out, hb']
            simp
          have cV : Hid (Calls Try.prog 16 #[.slice a m cc] w fun e w' => e = .returned (.bool b') ∧ w = w') := by rw [hb']; exact rvalid_n a m v cc w _ HSL.out (by omega)
          clear hb'
          cases b
          · go_wp2_with (first
              | (go_at_call 13; refine (few_n _ _ _ _).mono ?_; rintro e w' ⟨rfl, rfl⟩)
              | (go_at_call 16; refine cV.out.mono ?_; rintro e w' ⟨rfl, rfl⟩))
            go_round
            case rel => exact ⟨k + 1, false, by omega, by go_num, rfl, HB', HF'⟩
            case measure => simp [intOf]; omega
          · go_wp2_with (first
              | (go_at_call 13; refine (few_n _ _ _ _).mono ?_; rintro e w' ⟨rfl, rfl⟩)
              | (go_at_call 16; refine cV.out.mono ?_; rintro e w' ⟨rfl, rfl⟩))
            go_round
            case rel => exact ⟨k + 1, b', by omega, by go_num, rfl, by show _ = _; rw [← HB'.out, Bool.true_and], HF'⟩
            case measure => simp [intOf]; omega
        · go_wp2_with (first
            | (go_at_call 13; refine (few_n _ _ _ _).mono ?_; rintro e w' ⟨rfl, rfl⟩)
            | (go_at_call 14; refine (law_awake w w (Below.refl _ _)).mono ?_; rintro e w2 ⟨rfl, hb2⟩))
          go_ret
          exact ⟨rfl, hb2⟩
      · obtain rfl : k = n := by omega
        have HALL : Hid (b = vs.all validB) := by show _ = _; rw [HBB.out, List.take_of_length_le (by rw [HN.out]; omega)]
        have HLEN : Hid (∀ v ∈ vs, v.length ≤ 1000000) := fun v hv => by
          have := HF.out v (by rw [List.take_of_length_le (by rw [HN.out]; omega)]; exact hv)
          omega
        clear HBB HF
        cases b
        · have HV : Hid (vs.all validB = false) := HALL.out.symm
          clear HALL
          go_wp2_with fail
          refine (comb_no (vmerge_any A k vs c w _ HX.out.sll (Nat.le_refl _) (by omega) HLEN.out) HV.out).mono ?_; rintro e w1 ⟨A1, n1, c1, rfl, hc1, hs, hb⟩
          obtain rfl : 0 = n1 := hs.1
          have HB1 := Lib.hid hb
          have HX1 := Lib.hid (HX.out.up hb (Nat.le_refl _))
          clear hs hb
          go_wp2_with fail
          refine (comb_no (vmeet_any A k vs c w1 _ HX1.out.sll HB1.out.size (by omega) HLEN.out) HV.out).mono ?_; rintro e w2 ⟨A2, n2, c2, rfl, hc2, hs, hb⟩
          obtain rfl : 0 = n2 := hs.1
          have HB2 : Hid (Below w.heap.size w w2) := HB1.out.trans (hb.mono HB1.out.size)
          clear hs hb
          go_wp2_with fail
          refine (law_awake w w2 HB2.out).mono ?_; rintro e w3 ⟨rfl, hb3⟩
          have HB3 := Lib.hid hb3
          clear hb3
          go_wp2
          go_ret
          exact ⟨rfl, HB3.out⟩
        · have HV : Hid (vs.all validB = true) := HALL.out.symm
          clear HALL
          go_wp2_with fail
          refine (comb_yes (vmerge_any A k vs c w _ HX.out.sll (Nat.le_refl _) (by omega) HLEN.out) HV.out).mono ?_; rintro e w1 ⟨A1, n1, c1, rfl, hc1, hs, hb⟩
          have HB1 := Lib.hid hb
          have HX1 := Lib.hid (HX.out.up hb (Nat.le_refl _))
          have S1 : Hid (Sl I w1 w1.heap.size A1 n1 (nrm (accN max vs k))) := by show Sl _ _ _ _ _ _; rw [← HN.out]; exact hs
          clear hs hb
          go_wp2_with fail
          refine (comb_yes (vmeet_any A k vs c w1 _ HX1.out.sll HB1.out.size (by omega) HLEN.out) HV.out).mono ?_; rintro e w2 ⟨A2, n2, c2, rfl, hc2, hs, hb⟩
          have HB2 : Hid (Below w.heap.size w w2) := HB1.out.trans (hb.mono HB1.out.size)
          have S2 := Lib.hid (S1.out.on hb)
          have T2 : Hid (Sl I w2 w2.heap.size A2 n2 (nrm (accN min vs k))) := by show Sl _ _ _ _ _ _; rw [← HN.out]; exact hs
          clear hs hb S1 HX1
          go_wp2
          go_loopw [9, 10, 11] (fun p q i wr => ∃ (d n9 c9 n10 c10 : Nat) (A9 A10 : Option Addr) (X Y : List Int), d ≤ k ∧ i = .int .i64 d ∧ p = .slice A9 n9 c9 ∧ q = .slice A10 n10 c10 ∧ Hid (JR max X vs d) ∧ Hid (JR min Y vs d) ∧ Hid (Sl I wr wr.heap.size A9 n9 X) ∧ Hid (Sl I wr wr.heap.size A10 n10 Y) ∧ Hid (Below w2.heap.size w2 wr)) (fun _ _ i _ => k - (intOf i).toNat)
          case atStart => exact ⟨0, 0, 0, 0, 0, _, _, [], [], Nat.zero_le _, rfl, rfl, rfl, JR_zero _ _, JR_zero _ _, ⟨rfl, SL.nil⟩, ⟨rfl, SL.nil⟩, ((Below.refl _ _).alloc (Nat.le_refl _) _).alloc (by simp) _⟩
          case round =>
            obtain ⟨d, n9, c9, n10, c10, A9, A10, X, Y, hd, rfl, rfl, rfl, HJX, HJY, HS9, HS10, HBr⟩ := hrel
            have hn9 : n9 ≤ 12 := by rw [← HS9.out.1]; exact HJX.out.1
            have hn10 : n10 ≤ 12 := by rw [← HS10.out.1]; exact HJY.out.1
            have HBw : Hid (Below w.heap.size w wr) := HB2.out.trans (HBr.out.mono HB2.out.size)
            by_cases hlt : d < k
            · obtain ⟨bb, off, a, m, cc, v, rfl, hbB, hv, hcell, hsl, hmc⟩ := (HX.out.up HBw.out (Nat.le_refl _)).at_ hlt
              have hbl := HBw.out.size
              have HSL : Hid (Sl I wr wr.heap.size a m v) := hsl.more' hbl
              have Hv := Lib.hid hv
              have HVal : Hid (validB v = true) := List.all_eq_true.1 HV.out v (List.mem_of_getElem? hv)
              have hm : m ≤ 12 := by rw [← hsl.1]; exact valid_len HVal.out
              have HT : Hid ((vs.take d).all validB = true) := List.all_eq_true.2 fun z hz => List.all_eq_true.1 HV.out z (List.mem_of_mem_take hz)
              have HJX' := Lib.hid (JR_max hv HVal.out HT.out HJX.out)
              clear hsl hv
              by_cases h0 : d = 0
              · subst h0
                rw [Nat.add_zero] at hcell
                have HJY' := Lib.hid (JR_min0 Hv.out HVal.out)
                go_wp2_with fail
                refine (rjoin_any _ _ _ _ X v _ _ wr _ HS9.out HSL.out (Nat.le_refl _) (by omega) (by omega)).mono ?_; rintro e w3 ⟨A3, n3, c3, rfl, hc3, hs, hb⟩
                have hcell3 := (hb.cell (p := ⟨bb, off, none⟩) (by show bb < _; omega)).trans hcell
                have HB3 := Lib.hid hb
                have S3 := Lib.hid hs
                have L3 := Lib.hid (HSL.out.on hb)
                clear hs hb
                go_wp2_with fail
                refine (rnormal_any _ _ v _ _ _ L3.out (Nat.le_refl _) (by omega) hmc).mono ?_; rintro e w4 ⟨A4, n4, c4, rfl, hc4, hs, hb⟩
                have hcell4 := (hb.cell (p := ⟨bb, off, none⟩) (by show bb < _; have := HB3.out.size; omega)).trans hcell3
                have HB4 : Hid (Below wr.heap.size wr w4) := HB3.out.trans (hb.mono HB3.out.size)
                have S4 := Lib.hid (S3.out.on hb)
                have T4 := Lib.hid hs
                have L4 := Lib.hid (L3.out.on hb)
                have hn4 : n4 ≤ 12 := by rw [← hs.1]; exact Nat.le_trans (nrm_len' v) (valid_len HVal.out)
                clear hs hb
                go_wp2_with fail
                refine (rcommon_any _ _ _ _ (nrm v) v _ _ _ _ T4.out L4.out (Nat.le_refl _) (by omega) (by omega)).mono ?_; rintro e w5 ⟨A5, n5, c5, rfl, hc5, hs, hb⟩
                have HB5 : Hid (Below wr.heap.size wr w5) := HB4.out.trans (hb.mono HB4.out.size)
                have S5 := Lib.hid (S4.out.on hb)
                have T5 := Lib.hid hs
                clear hs hb
                go_wp2
                go_roundw
                case rel => exact ⟨0 + 1, n3, c3, n5, c5, A3, A5, _, _, by omega, by go_num, rfl, rfl, HJX', HJY', S5, T5, HBr.out.trans (HB5.out.mono HBr.out.size)⟩
                case measure => simp [intOf]; omega
              · have h0' : ((d : Int) == 0) = false := by simpa using h0
                have HJY' := Lib.hid (JR_min Hv.out HVal.out HT.out h0 HJY.out)
                go_wp2_with fail
                refine (rjoin_any _ _ _ _ X v _ _ wr _ HS9.out HSL.out (Nat.le_refl _) (by omega) (by omega)).mono ?_; rintro e w3 ⟨A3, n3, c3, rfl, hc3, hs, hb⟩
                have hcell3 := (hb.cell (p := ⟨bb, off + d, none⟩) (by show bb < _; omega)).trans hcell
                have HB3 := Lib.hid hb
                have S3 := Lib.hid hs
                have Y3 := Lib.hid (HS10.out.on hb)
                have L3 := Lib.hid (HSL.out.on hb)
                clear hs hb
                go_wp2_with fail
                refine (rcommon_any _ _ _ _ Y v _ _ _ _ Y3.out L3.out (Nat.le_refl _) (by omega) (by omega)).mono ?_; rintro e w5 ⟨A5, n5, c5, rfl, hc5, hs, hb⟩
                have HB5 : Hid (Below wr.heap.size wr w5) := HB3.out.trans (hb.mono HB3.out.size)
                have S5 := Lib.hid (S3.out.on hb)
                have T5 := Lib.hid hs
                clear hs hb
                go_wp2
                go_roundw
                case rel => exact ⟨d + 1, n3, c3, n5, c5, A3, A5, _, _, by omega, by go_num, rfl, rfl, HJX', HJY', S5, T5, HBr.out.trans (HB5.out.mono HBr.out.size)⟩
                case measure => simp [intOf]; omega
            · obtain rfl : d = k := by omega
              have hn1 : n1 ≤ 12 := by rw [← S2.out.1, JR_end HJX.out]; exact HJX.out.1
              have hn2 : n2 ≤ 12 := by rw [← T2.out.1, JR_end HJY.out]; exact HJY.out.1
              have S3 := Lib.hid (S2.out.on HBr.out)
              have T3 := Lib.hid (T2.out.on HBr.out)
              go_wp2_with fail
              refine (awake_any wr).mono ?_; rintro e w6 ⟨rfl, hb⟩
              have HB6 : Hid (Below w.heap.size w w6) := HBw.out.trans (hb.mono HBw.out.size)
              have S6 := Lib.hid (S3.out.on hb)
              have T6 := Lib.hid (T3.out.on hb)
              have X6 := Lib.hid (HS9.out.on hb)
              have Y6 := Lib.hid (HS10.out.on hb)
              clear hb
              go_wp2_with fail
              refine (ints_eq _ _ _ _ (nrm (accN max vs d)) X _ _ _ S6.out X6.out (by omega) (by omega) (JR_end HJX.out)).mono ?_; rintro e w7 ⟨rfl, hb⟩
              have HB7 : Hid (Below w.heap.size w w7) := HB6.out.trans (hb.mono HB6.out.size)
              have T7 := Lib.hid (T6.out.on hb)
              have Y7 := Lib.hid (Y6.out.on hb)
              clear hb
              go_wp2_with fail
              refine (ints_eq _ _ _ _ (nrm (accN min vs d)) Y _ _ _ T7.out Y7.out (by omega) (by omega) (JR_end HJY.out)).mono ?_; rintro e w8 ⟨rfl, hb⟩
              have HB8 : Hid (Below w.heap.size w w8) := HB7.out.trans (hb.mono HB7.out.size)
              clear hb
              go_wp2
              go_ret
              exact ⟨rfl, HB8.out⟩
  · go_enter Try.func5, Try.ntmps5
    go_wp2_with (go_at_call 14; refine (law_awake w w (Below.refl _ _)).mono ?_; rintro e w2 ⟨rfl, hb2⟩)
    go_ret
    exact ⟨rfl, hb2⟩
end Go.Proofs.Ytalclofogengpaa
