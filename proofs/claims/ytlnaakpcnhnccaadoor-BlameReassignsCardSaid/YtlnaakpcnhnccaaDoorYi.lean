/- Decode: the walk. -/
import Derived.Test.YtlnaakpcnhnccaaDoorYh
import Derived.Test.YtlnaakpcnhnccaaDoorYq
import Derived.Test.YtlnaakpcnhnccaaDoorYr
namespace Go.Proofs.YtlnaakpcnhnccaaDoor
open Go.RowKit
set_option linter.unusedVariables false
set_option linter.unusedSimpArgs false

def DecPost (bs : List Int) (w : World) (e : Ending) (w' : World) : Prop := match decV bs with
  | some v => Slc2 I v 0 w e w'
  | none => Slc2 I ([] : List Int) 3 w e w'

theorem vvalid_n (A : Option Addr) (n : Nat) (xs : List Int) (c : Nat) (w : World) (B : Nat) (hx : Sl I w B A n xs) (hl : n ≤ 1000000) :
    Calls Tryd.prog 41 #[.slice A n c] w fun e w' => e = .returned (.bool (validB xs)) ∧ w = w' := by
  obtain ⟨rfl, hx⟩ := hx
  exact vvalid_any A xs c w B hx (by omega)
theorem Sl.butg {f : Int → Value} {w w' : World} {g n : Nat} {A : Option Addr} {xs : List Int} (h : Sl f w g A n xs) (hb : But (fun k => k = g) w w') (hg : g ≤ w.heap.size) : Sl f w' g A n xs := ⟨h.1, fun hn => by
  obtain ⟨b, off, e, hlt, hc⟩ := h.2 hn
  exact ⟨b, off, e, hlt, hc.keep (hb.block b (by omega) (by omega))⟩⟩
theorem numF_le (bs : List Int) : ∀ (k acc i p : Nat), p ≤ bs.length → (numF bs k acc i p).2.2 ≤ bs.length
  | 0, _, _, _, h => h
  | k + 1, acc, i, p, h => by
    rw [numF]
    cases hx : bs[p]? with
    | none => exact h
    | some b =>
      have hp := (List.getElem?_eq_some_iff.1 hx).1
      simp only []
      split
      · exact numF_le bs k _ _ _ hp
      · split
        · exact hp
        · exact hp
theorem limF_place (m : Nat) (N : Int × Int × Nat) : (limF m N).2.2 = N.2.2 := by
  unfold limF
  split
  · split <;> rfl
  · rfl
theorem decT_le (bs : List Int) (p0 : Nat) (e0 : Int) (hp : p0 ≤ bs.length) : ∀ k, (decT bs p0 e0 k).2.1 ≤ bs.length
  | 0 => hp
  | k + 1 => by
    have ih := decT_le bs p0 e0 hp k
    rw [decT]
    split
    · split
      · exact numF_le bs _ _ _ _ ih
      · exact ih
    · exact ih
theorem nrm_last {v : List Int} {m : Nat} (hl : v.length = m + 1) : nrm v = v ↔ v.getD m 0 ≠ 0 := by
  rw [nrm, hl, nlen]
  by_cases h : v.getD m 0 = 0
  · rw [if_pos h]
    refine ⟨fun he => ?_, fun hn => absurd h hn⟩
    have := congrArg List.length he
    rw [List.length_take] at this
    have := nlen_le v m
    omega
  · rw [if_neg h, ← hl, List.take_length]
    exact ⟨fun _ => h, fun _ => rfl⟩
theorem decN_bd (bs : List Int) : ∃ cnt : Nat, (if (decN bs).2.1 = 0 then (decN bs).1 else 0) = (cnt : Int) ∧ (if (decN bs).2.1 = 0 then (decN bs).1.toNat else 0) = cnt ∧ cnt ≤ 12 := by
  have h0 := numF_nonneg bs 10 0 0 0
  unfold decN
  generalize numF bs 10 0 0 0 = N at *
  unfold limF
  by_cases he : N.2.1 = 0
  · simp only [he, if_true]
    by_cases hl : ((12 : Nat) : Int) < N.1
    · simp only [hl, if_true]
      exact ⟨0, rfl, rfl, by omega⟩
    · simp only [hl, if_false, if_true]
      exact ⟨N.1.toNat, by omega, rfl, by omega⟩
  · simp only [he, if_false]
    exact ⟨0, rfl, rfl, by omega⟩
/-- What lies behind the loop. -/
theorem dec_none {bs : List Int} {vs : List Int} {ps : Nat} {es : Int} (h : decE bs = (vs, ps, es)) (hc : ¬ (es = 0 ∧ ¬ ps < bs.length ∧ validB vs = true ∧ nrm vs = vs)) : decV bs = none := by
  rw [decV, h, if_neg hc]
theorem dec_some {bs : List Int} {vs : List Int} {ps : Nat} {es : Int} (h : decE bs = (vs, ps, es)) (hc : es = 0 ∧ ¬ ps < bs.length ∧ validB vs = true ∧ nrm vs = vs) : decV bs = some vs := by
  rw [decV, h, if_pos hc]
theorem DecPost.no {bs : List Int} {w w' : World} {e : Ending} (h : decV bs = none) (he : e = .returned (.tuple #[.slice none 0 0, .int .i64 3])) (hb : Below w.heap.size w w') : DecPost bs w e w' := by
  unfold DecPost
  rw [h]
  exact ⟨none, 0, 0, he, Nat.le_refl _, ⟨rfl, SL.nil⟩, hb⟩
theorem DecPost.yes {bs vs : List Int} {w w' : World} {e : Ending} {A : Option Addr} {n c : Nat} (h : decV bs = some vs) (he : e = .returned (.tuple #[.slice A n c, .int .i64 0])) (hc : n ≤ c) (hs : Sl I w' w'.heap.size A n vs) (hb : Below w.heap.size w w') : DecPost bs w e w' := by
  unfold DecPost
  rw [h]
  exact ⟨A, n, c, he, hc, hs, hb⟩

set_option maxRecDepth 20000 in
set_option maxHeartbeats 1000000 in
theorem decode_any (A : Option Addr) (n c : Nat) (bs : List Int) (w : World) (hx : Sl fB w w.heap.size A n bs) (hn : n ≤ 1000000) (hb : ∀ b ∈ bs, 0 ≤ b ∧ b < 256) :
    Calls Tryd.prog 23 #[.slice A n c] w (DecPost bs w) := by
  have HC := Lib.hid (newReader_any A n c bs w hx hn)
  have HBY := Lib.hid hb
  have HLN : Hid (bs.length = n) := hx.1
  clear hx hb
  obtain ⟨i0, hi, hz0, hz1, hz2⟩ := info_parts Tryd.info3
  have HI := Lib.hid hi
  have HZ0 := Lib.hid hz0
  have HZ1 := Lib.hid hz1
  have HZ2 := Lib.hid hz2
  clear hi hz0 hz1 hz2
  go_enter Tryd.func23, Tryd.ntmps23
  go_wp2_with fail
  refine HC.out.mono ?_
  rintro e w1 ⟨g, A1, c1, rfl, hr1, hx1, hgw, hb1⟩
  have HR1 := Lib.hid hr1
  have HX1 := Lib.hid hx1
  have HB1 := Lib.hid hb1.1
  have hg1 : g < w1.heap.size := lt_of_block hr1
  clear hr1 hx1 hb1
  go_wp2_with fail
  refine (rcount_ok g A1 n c1 0 12 0 bs w1 HR1.out HX1.out HBY.out (by omega) hn (by omega)).mono ?_
  rintro e w2 ⟨he, hr2, hb2⟩
  have HB2 := Lib.hid hb2
  obtain ⟨N0, hN0⟩ : ∃ N0, decN bs = N0 := ⟨_, rfl⟩
  have HN0 := Lib.hid hN0
  have hN0' : limF 12 (numF bs 10 0 0 0) = N0 := hN0
  rw [hN0'] at he hr2
  obtain ⟨cnt, hcnt, hcnt', hc12⟩ := decN_bd bs
  obtain ⟨p0, hp0⟩ : ∃ p0 : Nat, (if N0.2.1 = 0 then N0.2.2 else 0) = p0 := ⟨_, rfl⟩
  have HPL : Hid (p0 ≤ bs.length) := by
    show p0 ≤ _
    rw [← hp0, ← hN0', limF_place]
    split
    · exact numF_le bs _ _ _ _ (Nat.zero_le _)
    · exact Nat.zero_le _
  have HDE : Hid (decE bs = decT bs p0 N0.2.1 cnt) := by
    show decE bs = _
    unfold decE
    rw [hcnt', hN0, hp0]
  rw [hN0] at hcnt
  clear hN0 hN0' hcnt'
  rw [hcnt] at he
  rw [hp0] at hr2
  have HR2 := Lib.hid hr2
  have HX2 : Hid (Sl fB w2 g A1 n bs) := HX1.out.butg hb2 (Nat.le_of_lt hg1)
  have hs2 := hb2.size
  clear hr2 hb2
  subst he
  obtain ⟨e0, he0⟩ : ∃ e0, N0.2.1 = e0 := ⟨_, rfl⟩
  rw [he0] at HR2 HDE
  clear he0 hcnt hp0
  go_wp2
  go_loopw [5, 12] (fun u i wr => ∃ (j : Nat) (pv : Int), j ≤ cnt ∧ i = .int .i64 j ∧ Hid (Own I 3 wr w1.heap.size u (decT bs p0 e0 j).1) ∧ Hid (Rd wr g A1 n c1 (decT bs p0 e0 j).2.1 pv (decT bs p0 e0 j).2.2) ∧ Hid (Sl fB wr g A1 n bs) ∧ Hid (But (fun k => k = g ∨ w1.heap.size ≤ k) w1 wr) ∧ Hid ((decT bs p0 e0 j).2.1 ≤ n)) (fun _ i _ => cnt - (intOf i).toNat)
  case atStart => exact ⟨0, 0, by omega, rfl, Own.nil, HR2.out, HX2.out, HB2.out.mono fun i hi => .inl (.inl hi), by show p0 ≤ n; have := HPL.out; have := HLN.out; omega⟩
  case round =>
    obtain ⟨j, pv, hj, rfl, HO, HRj, HXj, HBj, HPj⟩ := hrel
    by_cases hlt : j < cnt
    · have HL1 : Hid (((decT bs p0 e0 j).1.length + 1) * 8 ≤ 140737488355328) := by show _ ≤ _; rw [decT_len]; omega
      have HL2 : Hid ((decT bs p0 e0 j).1.length + 1 ≤ maxLen) := by show _ ≤ _; rw [decT_len]; unfold maxLen; omega
      go_wp2_with fail
      refine (ruint_any' g A1 n c1 _ pv _ bs wr HRj.out HXj.out HBY.out HPj.out hn).mono ?_
      rintro e w4 ⟨z, pv', rfl, hz0, hz1, hst, hr4, hb4⟩
      have HR4 := Lib.hid hr4
      have HST := Lib.hid (hst (decT bs p0 e0 j).1)
      have HO4 : Hid (Own I 3 w4 w1.heap.size u5 (decT bs p0 e0 j).1) := OwnI.but HO.out hb4 (fun k hk => by omega)
      have hs4 := hb4.size
      have hsj := HBj.out.size
      have HB4 := Lib.hid hb4
      clear hst hr4 hb4
      go_wp2_with (with_reducible refine wpList_app1 (o := ⟨some 19, _, _, _, _, _⟩) rfl (.tmp 14) (.tmp 18) 22 rfl 3 i0 (.int .i64 0) 8 Tryd.underlying22 HI.out HZ0.out HZ1.out HZ2.out rfl u5 (decT bs p0 e0 j).1 w1.heap.size rfl HO4.out (wrap64 z) 1 rfl I1 HL1.out HL2.out (by omega) ?_; intro v5 w5 HO5 HG5 HV5)
      have hB5 : Below w1.heap.size w4 w5 := Own.below HO4.out (Below.refl _ _) (by omega) (by omega) HG5.out
      have HE1 : Hid (decT bs p0 e0 (j + 1) = ((decT bs p0 e0 j).1 ++ [IntKind.i64.wrap z], _, _)) := HST.out
      go_roundw
      case rel =>
        have HE2 := HE1.out
        refine ⟨j + 1, pv', by omega, by go_num, ?_, ?_, ?_, ?_, ?_⟩
        · show Own _ _ _ _ _ _
          rw [HE2]
          have := HO5.out
          rwa [← IntWalk.i64_left] at this
        · show Rd _ _ _ _ _ _ _ _
          rw [HE2]
          exact (hB5.block g hg1).trans HR4.out
        · exact (HXj.out.butg HB4.out (by omega)).up hB5 (by omega)
        · exact (HBj.out.trans HB4.out (fun i hi => .inl (.inl hi))).trans (q := fun k => w1.heap.size ≤ k) ⟨hB5.os, hB5.tape, hB5.output, hB5.size, fun k _ hk => hB5.block k (by omega)⟩ (fun i hi => .inl (.inr hi))
        · show _ ≤ _
          have := decT_le bs p0 e0 HPL.out (j + 1)
          have := HLN.out
          omega
      case measure => simp [intOf]; omega
    · obtain rfl : j = cnt := by omega
      obtain ⟨vs, ps, es, hS⟩ : ∃ vs ps es, decT bs p0 e0 j = (vs, ps, es) := ⟨_, _, _, rfl⟩
      have hl := decT_len bs p0 e0 j
      rw [hS] at hl HO HRj HPj HDE
      simp only [] at hl HO HRj HPj
      have HBw : Hid (Below w.heap.size w wr) := HB1.out.trans (HBj.out.below HB1.out.size fun i hi => (by
        have := HB1.out.size
        rcases hi with h | h <;> omega))
      have hbs := HBw.out.size
      have HEC := Lib.hid (rend_any g A1 n c1 ps pv es wr HRj.out)
      obtain ⟨A5, c5, hu5, hc5, hs5, _⟩ := HO.out.shape
      rw [hl] at hu5 hc5
      have HC5 := Lib.hid hc5
      clear hc5
      have HS5 : Hid (Sl I wr wr.heap.size A5 j vs) := ⟨hl, hs5⟩
      have HVL : Hid (vs.length = j) := hl
      obtain ⟨z, hz⟩ : ∃ z : Int, (if es = 0 then (if ps < n then 3 else 0) else es) = z := ⟨_, rfl⟩
      rw [hz] at HEC
      have HZ := Lib.hid hz
      clear hz hS hs5 hl hlt
      subst hu5
      by_cases hz0 : z = 0
      · have hzb : (z != 0) = false := by simp [hz0]
        have HCE : Hid (es = 0 ∧ ¬ ps < bs.length) := by
          have h1 := HZ.out
          rw [hz0] at h1
          refine ⟨?_, ?_⟩
          · rcases Int.decEq es 0 with h | h
            · rw [if_neg h] at h1; exact absurd h1 h
            · exact h
          · intro h
            rw [HLN.out] at h
            split at h1
            · omega
            · contradiction
        have hj1 : j ≤ 12 := hc12
        clear hz0
        have HVC : Hid (∀ W, Below wr.heap.size wr W → Calls Tryd.prog 41 #[.slice A5 j c5] W fun e w' => e = .returned (.bool (validB vs)) ∧ W = w') := fun W hb => vvalid_n A5 j vs c5 W wr.heap.size (HS5.out.up hb (Nat.le_refl _)) (by omega)
        obtain ⟨vb, hvb⟩ : ∃ vb, validB vs = vb := ⟨_, rfl⟩
        rw [hvb] at HVC
        have HVB := Lib.hid hvb
        clear hvb
        rcases vb with _ | _
        · have HNO : Hid (decV bs = none) := dec_none HDE.out (fun hc => by have := HVB.out; rw [hc.2.2.1] at this; cases this)
          go_wp2_with fail
          refine HEC.out.mono ?_
          rintro e w6 ⟨rfl, hb6⟩
          have HB6 := Lib.hid hb6
          clear hb6
          go_wp2_with fail
          refine (HVC.out _ HB6.out).mono ?_
          rintro e w7 ⟨rfl, rfl⟩
          go_wp2_with fail
          go_ret2
          exact DecPost.no HNO.out rfl (HBw.out.trans (HB6.out.mono hbs))
        · rcases j with _ | m
          · have HYES : Hid (decV bs = some vs) := dec_some HDE.out ⟨HCE.out.1, HCE.out.2, HVB.out, by
              have := HVL.out
              obtain rfl : vs = [] := List.eq_nil_of_length_eq_zero this
              rfl⟩
            go_wp2_with fail
            refine HEC.out.mono ?_
            rintro e w6 ⟨rfl, hb6⟩
            have HB6 := Lib.hid hb6
            clear hb6
            go_wp2_with fail
            refine (HVC.out _ HB6.out).mono ?_
            rintro e w7 ⟨rfl, rfl⟩
            go_wp2_with fail
            go_ret2
            exact DecPost.yes HYES.out rfl HC5.out (HS5.out.up HB6.out (Nat.le_refl _) |>.more' HB6.out.size) (HBw.out.trans (HB6.out.mono hbs))
          · obtain ⟨b5, o5, x, rfl, hb5, hx5, hcw⟩ := HS5.out.2.at_ (k := m) (by have := HVL.out; omega)
            have HX5 := Lib.hid hx5
            have HCW := Lib.hid hcw
            clear hx5 hcw
            by_cases hx0 : x = 0
            · have HNO : Hid (decV bs = none) := dec_none HDE.out (fun hc => by
                have := (nrm_last HVL.out).1 hc.2.2.2
                rw [getD_of HX5.out] at this
                exact this hx0)
              have hxb : (x == 0) = true := by simp [hx0]
              clear hx0
              go_wp2_with fail
              refine HEC.out.mono ?_
              rintro e w6 ⟨rfl, hb6⟩
              have hc6 : w6.cell? ⟨b5, o5 + m, none⟩ = some (I x) := (hb6.cell (p := ⟨b5, o5 + m, none⟩) hb5).trans HCW.out
              have HB6 := Lib.hid hb6
              clear hb6
              go_wp2_with fail
              refine (HVC.out _ HB6.out).mono ?_
              rintro e w7 ⟨rfl, rfl⟩
              go_wp2_with fail
              go_ret2
              exact DecPost.no HNO.out rfl (HBw.out.trans (HB6.out.mono hbs))
            · have HYES : Hid (decV bs = some vs) := dec_some HDE.out ⟨HCE.out.1, HCE.out.2, HVB.out, (nrm_last HVL.out).2 (by rw [getD_of HX5.out]; exact hx0)⟩
              have hxb : (x == 0) = false := by simp [hx0]
              clear hx0
              go_wp2_with fail
              refine HEC.out.mono ?_
              rintro e w6 ⟨rfl, hb6⟩
              have hc6 : w6.cell? ⟨b5, o5 + m, none⟩ = some (I x) := (hb6.cell (p := ⟨b5, o5 + m, none⟩) hb5).trans HCW.out
              have HB6 := Lib.hid hb6
              clear hb6
              go_wp2_with fail
              refine (HVC.out _ HB6.out).mono ?_
              rintro e w7 ⟨rfl, rfl⟩
              go_wp2_with fail
              go_ret2
              exact DecPost.yes HYES.out rfl HC5.out (HS5.out.up HB6.out (Nat.le_refl _) |>.more' HB6.out.size) (HBw.out.trans (HB6.out.mono hbs))
      · have hzb : (z != 0) = true := by simp [hz0]
        have HNO : Hid (decV bs = none) := dec_none HDE.out (fun hc => hz0 (by rw [← HZ.out, if_pos hc.1, if_neg (by rw [← HLN.out]; exact hc.2.1)]))
        clear hz0
        go_wp2_with fail
        refine HEC.out.mono ?_
        rintro e w6 ⟨rfl, hb6⟩
        have HB6 := Lib.hid hb6
        clear hb6
        go_wp2_with fail
        go_ret2
        exact DecPost.no HNO.out rfl (HBw.out.trans (HB6.out.mono hbs))
end Go.Proofs.YtlnaakpcnhnccaaDoor
