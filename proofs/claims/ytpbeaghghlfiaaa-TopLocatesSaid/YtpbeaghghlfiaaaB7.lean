/- matrix: eliminate. -/
import Derived.Test.YtpbeaghghlfiaaaB6
import Derived.Test.YtpbeaghghlfiaaaB3
namespace Go.Proofs.Ytpbeaghghlfiaaa
open Go.RowKit Go.Lib
set_option linter.unusedVariables false
set_option linter.unusedSimpArgs false
theorem Try.sizeRR : (Try.prog.info? 22).map (·.size) = some 1 := by kernel_rfl
theorem joinP_ok {n1 n2 : Nat} {m r : Mt} (hm : MtOk n1 m) (hr : MtOk n2 r) : MtOk (n1 + n2) (joinP m r) := fun x hx => by
  obtain ⟨j, hj⟩ := List.getElem?_of_mem hx
  unfold joinP at hj
  rw [List.getElem?_zipWith] at hj
  cases h1 : m[j]? with
  | none => rw [h1] at hj; cases hj
  | some a =>
    cases h2 : r[j]? with
    | none => rw [h1, h2] at hj; cases hj
    | some b =>
      rw [h1, h2] at hj
      injection hj with hj
      subst hj
      obtain ⟨p1, p2⟩ := hm.get h1
      obtain ⟨q1, q2⟩ := hr.get h2
      exact ⟨by rw [List.length_append, p1, q1], fun y hy => (List.mem_append.1 hy).elim (p2 y) (q2 y)⟩
/-- What eliminate hands back. -/
def ElP (N : Nat) (R : Mt × List Nat) (w : World) (e : Ending) (w' : World) : Prop :=
  ∃ h g c hs pv p, e = .returned (.pointer (some ⟨h, 0, none⟩)) ∧ w'.heap[h]? = some (.cells (cE g N c pv p) TE (0, 0)) ∧ Mat w' g hs R.1 ∧ Own fI TI w' w.heap.size pv R.2 ∧ Below w.heap.size w w'
set_option maxRecDepth 100000 in
set_option maxHeartbeats 4000000 in
theorem elim0_any (A1 : Option Addr) (N c1 n1 B : Nat) (m : Mt) (w : World) (h1 : SLL fN w B A1 N m) (hB : B ≤ w.heap.size) (hm : MtOk n1 m) (hN0 : 0 < N) (hN : N ≤ 64) (hn1 : n1 ≤ 64) :
    Calls Try.prog 29 #[.slice A1 N c1, .slice none 0 0] w (ElP N (redP n1 0 (m) []) w) := by
  have hml : m.length = N := h1.choose_spec.2.1
  obtain ⟨jm, hjm⟩ : ∃ jm, m = jm := ⟨_, rfl⟩
  have HJ : Hid (m = jm) := hjm
  have hjl : jm.length = N := by rw [← hjm]; exact hml
  have hjo : MtOk n1 jm := by rw [← hjm]; exact hm
  rw [hjm]
  obtain ⟨W1, hW1⟩ : ∃ W, W = w.alloc (.cells #[.slice none 0 0, .slice none 0 0, .int .u8 1] TE) := ⟨_, rfl⟩
  have hb1 : Below w.heap.size w W1 := by rw [hW1]; exact (Below.refl _ _).alloc (Nat.le_refl _) _
  have HG1 : Hid (W1.heap[w.heap.size]? = some (.cells #[.slice none 0 0, .slice none 0 0, .int .u8 1] TE (0, 0))) := by show _ = _; rw [hW1]; exact heap_alloc_new w _
  have HB1 := Lib.hid hb1
  have HO1 : Hid (Own fS TR W1 w.heap.size (.slice none 0 0) ([] : List Hd)) := Own.nil
  have HX1 : Hid (([] : List Hd).length = 0 ∧ ∀ (j : Nat) hd r, ([] : List Hd)[j]? = some hd → jm[j]? = some r → RowX W1 hd r) := ⟨rfl, fun j hd r h => by simp at h⟩
  have HWE := Lib.hid hW1
  have H1 := Lib.hid h1
  have HBB := Lib.hid hB
  have HMO := Lib.hid hm
  have HML := Lib.hid hml
  have HJL := Lib.hid hjl
  have HJO := Lib.hid hjo
  have HN0 := Lib.hid hN0
  have HNN := Lib.hid hN
  have HN1 := Lib.hid hn1
  have hNI : (N : Int) ≤ 64 := by omega
  obtain ⟨i0, hi, hi1, hi2, hi3⟩ := info_parts Try.infoB8
  obtain ⟨j0, hj, hj1, hj2, hj3⟩ := info_parts Try.infoBR
  have HI := Lib.hid hi
  have HI1 := Lib.hid hi1
  have HI2 := Lib.hid hi2
  have HI3 := Lib.hid hi3
  have HJ0 := Lib.hid hj
  have HJ1 := Lib.hid hj1
  have HJ2 := Lib.hid hj2
  have HJ3 := Lib.hid hj3
  clear h1 hB hm hml hjl hjo hN hN0 hn1 hjm hW1 hb1 hi hi1 hi2 hi3 hj hj1 hj2 hj3 
  go_enter Try.func29, Try.ntmps29
  go_upto_region 2 with fail
  rw [← HWE.out]
  clear HWE
  go_wp2_with fail
  go_loopw [13] (fun i wr => ∃ (k : Nat) (hs : List Hd) (v : Value), k ≤ N ∧ i = .int .i64 k ∧ Hid (Below w.heap.size w wr) ∧ Hid (wr.heap[w.heap.size]? = some (.cells #[v, .slice none 0 0, .int .u8 1] TE (0, 0))) ∧ Hid (Own fS TR wr w.heap.size v hs) ∧ Hid (hs.length = k ∧ ∀ (j : Nat) hd r, hs[j]? = some hd → jm[j]? = some r → RowX wr hd r)) (fun i _ => N - (intOf i).toNat)
  case atStart => exact ⟨0, [], _, Nat.zero_le _, rfl, HB1, HG1, HO1, HX1⟩
  case round =>
    clear HB1 HG1 HO1 HX1
    obtain ⟨k, hs, v, hk, rfl, HB, HG, HO, HX⟩ := hrel
    by_cases hlt : k < N
    · have hkI : (k : Int) < (N : Int) := by omega
      obtain ⟨b1, off1, a1, cc1, r1, rfl, hr1, hc1, hs1⟩ := (H1.out.up HB.out HBB.out).cell hlt
      have hro1 := HMO.out.get hr1
      rw [hro1.1] at hc1 hs1
      have hjk : jm[k]? = some (r1) := by
        rw [← HJ.out]
        exact hr1
      have HJK := Lib.hid hjk
      have HS1 : Hid (Sl fN (wr.alloc (.cells #[] T8)) B a1 n1 r1) := hs1.up ((Below.refl _ wr).alloc (Nat.le_refl _) _) (Nat.le_trans HBB.out HB.out.size)
      have HO0 : Hid (Own fN T8 (wr.alloc (.cells #[] T8)) wr.heap.size (.slice (some ⟨wr.heap.size, 0, none⟩) 0 0) ([] : List Nat)) := World.ownsRow_made wr #[] 0 (Nat.le_refl _) (Nat.zero_le _) (by simp)
      have HL1 : Hid ((([] : List Nat).length + r1.length) * 1 ≤ 140737488355328) := by show (0 + r1.length) * 1 ≤ _; rw [hro1.1]; have := HN1.out; omega
      have HL1m : Hid (([] : List Nat).length + r1.length ≤ maxLen) := by show 0 + r1.length ≤ _; rw [hro1.1]; have := HN1.out; unfold maxLen; omega
      have HR1L : Hid (r1.length = n1) := hro1.1
      have HSZ : Hid (wr.heap.size ≤ (wr.alloc (.cells #[] T8)).heap.size) := by show _ ≤ _; simp
      clear hr1 hs1 hro1 hjk
      go_upto_region 6 with (at_builtin; (with_reducible refine wpList_app (o := ⟨some 20, _, _, _, _, _⟩) (f := fN) rfl (.tmp 18) (.tmp 19) 30 rfl T8 i0 (.int .u8 0) 1 Try.underlying30 HI.out HI1.out HI2.out HI3.out rfl (.slice (some ⟨wr.heap.size, 0, none⟩) 0 0) ([] : List Nat) wr.heap.size rfl HO0.out a1 n1 cc1 B r1 rfl HS1.out fN1 HL1.out HL1m.out HSZ.out ?_); intro v5 W5 HO5 HG5 HV5)
      have HB5 : Hid (Below wr.heap.size wr W5) := ((Below.refl _ wr).alloc (Nat.le_refl _) _).trans (grown_below HG5.out (fun q hq => by injection hq with hq; subst hq; exact Nat.le_refl _) HSZ.out)
      have HO5' : Hid (Own fN T8 W5 wr.heap.size v5 r1) := HO5.out
      obtain ⟨v5a, v5c, hv5, hc5⟩ := HO5'.out.shape'
      rw [HR1L.out] at hv5 hc5
      clear HO5 HO0 HS1 hc5
      subst hv5
      go_upto_region 8 with fail
      obtain ⟨W6, hW6⟩ : ∃ W, W = W5 := ⟨_, rfl⟩
      obtain ⟨v6, hv6⟩ : ∃ v, v = Value.slice v5a n1 v5c := ⟨_, rfl⟩
      have HO6 : Hid (Own fN T8 W6 wr.heap.size v6 (r1)) := by show Own ..; rw [hW6, hv6]; exact HO5'.out
      have HB6 : Hid (Below wr.heap.size wr W6) := by show Below ..; rw [hW6]; exact HB5.out
      rw [← hW6, ← hv6]
      clear hW6 hv6
      obtain ⟨hd, hhd, hx6, hn6⟩ := RowX.of_own HO6.out
      obtain ⟨ha, hn, hc⟩ := hd
      have hhd' : v6 = .slice ha hn hc := hhd
      clear hhd
      subst hhd'
      have HX6 := Lib.hid hx6
      have HG6' : Hid (W6.heap[w.heap.size]? = some (.cells #[v, .slice none 0 0, .int .u8 1] TE (0, 0))) := (HB6.out.block _ (lt_block HG.out)).trans HG.out
      have HOS : Hid (Own fS TR W6 w.heap.size v hs) := HO.out.on HB6.out
      have HBw6 : Hid (Below w.heap.size w W6) := HB.out.trans (HB6.out.mono HB.out.size)
      have HLS : Hid (hs.length = k) := HX.out.1
      obtain ⟨va, vc, hv, hvc⟩ := HOS.out.shape'
      rw [HLS.out] at hv
      subst hv
      have HXo : Hid (∀ (j : Nat) hd r, hs[j]? = some hd → jm[j]? = some r → RowX W6 hd r) := fun j hd r q1 q2 => (HX.out.2 j hd r q1 q2).on HB6.out
      have HLA : Hid ((hs ++ [(⟨ha, hn, hc⟩ : Hd)]).length = k + 1) := by show _ = _; rw [List.length_append, HLS.out]; rfl
      have HL3 : Hid ((hs.length + 1) * 24 ≤ 140737488355328) := by show (hs.length + 1) * 24 ≤ _; rw [HLS.out]; have := HNN.out; omega
      have HL3m : Hid (hs.length + 1 ≤ maxLen) := by show hs.length + 1 ≤ _; rw [HLS.out]; have := HNN.out; unfold maxLen; omega
      have c0 : W6.cell? ⟨w.heap.size, 0, none⟩ = some (.slice va k vc) := by rw [cell_of_row W6 _ _ _ _ _ HG6'.out]; rfl
      have c0' : ∀ o, (W6.alloc o).cell? ⟨w.heap.size, 0, none⟩ = some (.slice va k vc) := fun o => (World.cell?_of_block (Below.heap_alloc W6 o _ (lt_block HG6'.out))).trans c0
      have HKE : Hid (∀ V, W6.grownBy V (Value.slice va k vc).ownBlock → V.heap[w.heap.size]? = some (.cells #[.slice va k vc, .slice none 0 0, .int .u8 1] TE (0, 0)) ∧ (∀ hd r, RowX W6 hd r → RowX V hd r)) := fun V hv => by
        refine ⟨(hv.block _ (lt_block HG6'.out) (fun e => ?_)).trans HG6'.out, fun hd r q => q.grown hv (fun b e => ?_)⟩
        · obtain ⟨cs, q⟩ := HOS.out.block e.symm
          exact type_ne HG6'.out q (by decide) rfl
        · obtain ⟨cs, q⟩ := HOS.out.block e
          exact ⟨cs, TR, (0, 0), q, by decide⟩
      clear hvc hx6 hn6
      go_upto_region 9 with (first
        | (at_builtin; (refine wpList_app1 (o := ⟨some 36, _, _, _, _, _⟩) (f := fS) rfl (.tmp 33) (.tmp 35) 22 rfl TR j0 (.slice none 0 0) 24 Try.underlying22 HJ0.out HJ1.out HJ2.out HJ3.out rfl (.slice va k vc) hs w.heap.size (by rfl) HOS.out ⟨ha, hn, hc⟩ 1 (by rfl) fS1 HL3.out HL3m.out HBw6.out.size ?_); intro v7 W7 HO7 HG7 HV7; (have HK7 := Lib.hid (HKE.out W7 HG7.out)); (obtain ⟨qa, qc, hq7, hq8⟩ := HO7.out.shape'); rw [HLA.out] at hq7; subst hq7; clear hq8)
        | ((with_reducible refine wpList_store_at1 rfl 22 (.tmp 38) (.tmp 36) rfl w.heap.size TE 0 #[.slice va k vc, .slice none 0 0, .int .u8 1] (.slice qa (k + 1) qc) rfl rfl HK7.out.1 (by simp) Try.sizeRR rfl ?_); intro W8 HG8 HB8))
      clear c0 c0'
      have HO8 : Hid (Own fS TR W8 w.heap.size (.slice qa (k + 1) qc) (hs ++ [⟨ha, hn, hc⟩])) := HO7.out.kept HB8.out.grown (HO7.out.type_ne HK7.out.1 (by decide))
      have HBw7 : Hid (Below w.heap.size w W7) := HBw6.out.trans (grown_below HG7.out (fun q hq => (World.ownsRow.lt HOS.out q hq).1) HBw6.out.size)
      have HBw8 : Hid (Below w.heap.size w W8) := HB8.out.below HBw7.out HBw7.out.size (fun i hi => by subst hi; exact Nat.le_refl _)
      have HX8 : Hid ((hs ++ [(⟨ha, hn, hc⟩ : Hd)]).length = k + 1 ∧ ∀ (j : Nat) hd' r, (hs ++ [(⟨ha, hn, hc⟩ : Hd)])[j]? = some hd' → jm[j]? = some r → RowX W8 hd' r) := by
        refine ⟨by rw [List.length_append, HLS.out]; rfl, fun j hd' r q1 q2 => ?_⟩
        by_cases hj : j < k
        · rw [List.getElem?_append_left (by rw [HLS.out]; exact hj)] at q1
          exact (HK7.out.2 _ _ (HXo.out j hd' r q1 q2)).but HB8.out HK7.out.1 (by decide)
        · have hjk : j = k := by
            have q3 := (List.getElem?_eq_some_iff.1 q1).1
            rw [List.length_append, HLS.out] at q3
            simp at q3
            omega
          subst hjk
          rw [HJK.out] at q2
          injection q2 with q2
          subst q2
          rw [List.getElem?_append_right (by rw [HLS.out]; exact Nat.le_refl _), HLS.out, Nat.sub_self] at q1
          injection q1 with q1
          subst q1
          exact (HK7.out.2 _ _ HX6.out).but HB8.out HK7.out.1 (by decide)
      go_wp2_with fail
      go_roundw
      case rel => exact ⟨k + 1, _, _, by omega, by go_num, HBw8, HG8, HO8, HX8⟩
      case measure => simp [intOf]; omega
    · obtain rfl : k = N := by omega
      obtain ⟨g, cap, cur, hv, hbg, hg, hsz, hcur⟩ := HO.out.cells' (by rw [HX.out.1]; exact HN0.out)
      rw [HX.out.1] at hv
      subst hv
      have hmat : Mat wr g hs jm := ⟨⟨cur, hg, fun j hd q => hcur j hd q⟩, by rw [HX.out.1, HJL.out], HX.out.2⟩
      have HCO : Hid (Calls Try.prog 33 #[.slice A1 k c1] wr fun e w' => e = .returned (.int .i64 n1) ∧ wr = w') := by
        have h := columns_any A1 k c1 B m wr (H1.out.up HB.out HBB.out)
        rw [colsN_eq (by rw [HML.out]; exact HN0.out) (fun r hr => (HMO.out r hr).1)] at h
        exact h
      have HRD := Lib.hid (reduce_any w.heap.size g k cap 1 n1 n1 w.heap.size hs jm wr HG.out (by decide) hmat HJL.out HJO.out (Nat.le_refl _) (by have := HN1.out; omega) HNN.out (Nat.le_refl _) hbg HB.out.size)
      clear hbg hg hsz hcur hmat
      go_wp2_with (first
        | (go_at_call 33; (with_reducible refine HCO.out.mono ?_); rintro e w' ⟨rfl, rfl⟩)
        | (go_at_call 45; (with_reducible refine HRD.out.mono ?_); rintro e w9 ⟨hs9, pv9, p9, rfl, hg9, hm9, hp9, hb9⟩; (have HG9 := Lib.hid hg9); (have HM9 := Lib.hid hm9); (have HP9 := Lib.hid hp9); (have HB9 := Lib.hid hb9); clear hg9 hm9 hp9 hb9))
      go_ret
      exact ⟨_, g, cap, hs9, pv9, p9, rfl, HG9.out, HM9.out, HP9.out, HB.out.trans HB9.out⟩
set_option maxRecDepth 100000 in
set_option maxHeartbeats 4000000 in
theorem elimR_any (A1 A2 : Option Addr) (N c1 c2 n1 n2 B : Nat) (m rr : Mt) (w : World) (h1 : SLL fN w B A1 N m) (h2 : SLL fN w B A2 N rr) (hB : B ≤ w.heap.size) (hm : MtOk n1 m) (hr : MtOk n2 rr) (hN0 : 0 < N) (hN : N ≤ 64) (hn1 : n1 ≤ 64) (hn2 : n2 ≤ 64) :
    Calls Try.prog 29 #[.slice A1 N c1, .slice A2 N c2] w (ElP N (redP n1 0 (joinP m rr) []) w) := by
  have hml : m.length = N := h1.choose_spec.2.1
  have hrl : rr.length = N := h2.choose_spec.2.1
  obtain ⟨b20, off20, _, _, _, hA20, _⟩ := h2.cell hN0
  have HA20 := Lib.hid hA20
  obtain ⟨jm, hjm⟩ : ∃ jm, joinP m rr = jm := ⟨_, rfl⟩
  have HJ : Hid (joinP m rr = jm) := hjm
  have hjl : jm.length = N := by rw [← hjm]; unfold joinP; rw [List.length_zipWith, hml, hrl, Nat.min_self]
  have hjo : MtOk (n1 + n2) jm := by rw [← hjm]; exact joinP_ok hm hr
  rw [hjm]
  obtain ⟨W1, hW1⟩ : ∃ W, W = w.alloc (.cells #[.slice none 0 0, .slice none 0 0, .int .u8 1] TE) := ⟨_, rfl⟩
  have hb1 : Below w.heap.size w W1 := by rw [hW1]; exact (Below.refl _ _).alloc (Nat.le_refl _) _
  have HG1 : Hid (W1.heap[w.heap.size]? = some (.cells #[.slice none 0 0, .slice none 0 0, .int .u8 1] TE (0, 0))) := by show _ = _; rw [hW1]; exact heap_alloc_new w _
  have HB1 := Lib.hid hb1
  have HO1 : Hid (Own fS TR W1 w.heap.size (.slice none 0 0) ([] : List Hd)) := Own.nil
  have HX1 : Hid (([] : List Hd).length = 0 ∧ ∀ (j : Nat) hd r, ([] : List Hd)[j]? = some hd → jm[j]? = some r → RowX W1 hd r) := ⟨rfl, fun j hd r h => by simp at h⟩
  have HWE := Lib.hid hW1
  have H1 := Lib.hid h1
  have H2 := Lib.hid h2
  have HBB := Lib.hid hB
  have HMO := Lib.hid hm
  have HRO := Lib.hid hr
  have HML := Lib.hid hml
  have HRL := Lib.hid hrl
  have HJL := Lib.hid hjl
  have HJO := Lib.hid hjo
  have HN0 := Lib.hid hN0
  have HNN := Lib.hid hN
  have HN1 := Lib.hid hn1
  have HN2 := Lib.hid hn2
  have hNI : (N : Int) ≤ 64 := by omega
  obtain ⟨i0, hi, hi1, hi2, hi3⟩ := info_parts Try.infoB8
  obtain ⟨j0, hj, hj1, hj2, hj3⟩ := info_parts Try.infoBR
  have HI := Lib.hid hi
  have HI1 := Lib.hid hi1
  have HI2 := Lib.hid hi2
  have HI3 := Lib.hid hi3
  have HJ0 := Lib.hid hj
  have HJ1 := Lib.hid hj1
  have HJ2 := Lib.hid hj2
  have HJ3 := Lib.hid hj3
  clear h1 hB hm hml hjl hjo hN hN0 hn1 hjm hW1 hb1 hi hi1 hi2 hi3 hj hj1 hj2 hj3 h2 hr hrl hn2 hA20
  go_enter Try.func29, Try.ntmps29
  go_upto_region 2 with fail
  rw [← HWE.out]
  clear HWE
  go_wp2_with fail
  go_loopw [13] (fun i wr => ∃ (k : Nat) (hs : List Hd) (v : Value), k ≤ N ∧ i = .int .i64 k ∧ Hid (Below w.heap.size w wr) ∧ Hid (wr.heap[w.heap.size]? = some (.cells #[v, .slice none 0 0, .int .u8 1] TE (0, 0))) ∧ Hid (Own fS TR wr w.heap.size v hs) ∧ Hid (hs.length = k ∧ ∀ (j : Nat) hd r, hs[j]? = some hd → jm[j]? = some r → RowX wr hd r)) (fun i _ => N - (intOf i).toNat)
  case atStart => exact ⟨0, [], _, Nat.zero_le _, rfl, HB1, HG1, HO1, HX1⟩
  case round =>
    clear HB1 HG1 HO1 HX1
    obtain ⟨k, hs, v, hk, rfl, HB, HG, HO, HX⟩ := hrel
    by_cases hlt : k < N
    · have hkI : (k : Int) < (N : Int) := by omega
      obtain ⟨b1, off1, a1, cc1, r1, rfl, hr1, hc1, hs1⟩ := (H1.out.up HB.out HBB.out).cell hlt
      have hro1 := HMO.out.get hr1
      rw [hro1.1] at hc1 hs1
      obtain ⟨b2, off2, a2, cc2, r2, rfl, hr2, hc2, hs2⟩ := (H2.out.up HB.out HBB.out).cell hlt
      have hro2 := HRO.out.get hr2
      rw [hro2.1] at hc2 hs2
      have hjk : jm[k]? = some (r1 ++ r2) := by
        rw [← HJ.out]
        unfold joinP; rw [List.getElem?_zipWith, hr1, hr2]
      have HJK := Lib.hid hjk
      have HS1 : Hid (Sl fN (wr.alloc (.cells #[] T8)) B a1 n1 r1) := hs1.up ((Below.refl _ wr).alloc (Nat.le_refl _) _) (Nat.le_trans HBB.out HB.out.size)
      have HO0 : Hid (Own fN T8 (wr.alloc (.cells #[] T8)) wr.heap.size (.slice (some ⟨wr.heap.size, 0, none⟩) 0 0) ([] : List Nat)) := World.ownsRow_made wr #[] 0 (Nat.le_refl _) (Nat.zero_le _) (by simp)
      have HL1 : Hid ((([] : List Nat).length + r1.length) * 1 ≤ 140737488355328) := by show (0 + r1.length) * 1 ≤ _; rw [hro1.1]; have := HN1.out; omega
      have HL1m : Hid (([] : List Nat).length + r1.length ≤ maxLen) := by show 0 + r1.length ≤ _; rw [hro1.1]; have := HN1.out; unfold maxLen; omega
      have HR1L : Hid (r1.length = n1) := hro1.1
      have HS2 := Lib.hid hs2
      have HC2 := Lib.hid hc2
      have HR2L : Hid (r2.length = n2) := hro2.1
      have HSZ : Hid (wr.heap.size ≤ (wr.alloc (.cells #[] T8)).heap.size) := by show _ ≤ _; simp
      clear hr1 hs1 hro1 hjk
      clear hr2 hs2 hro2
      have hcz : ∀ o, (wr.alloc o).cell? ⟨b2, off2 + k, none⟩ = some (.slice a2 n2 cc2) := fun o => (World.cell?_of_block (Below.heap_alloc wr o _ (World.block_lt_of_cell? wr _ HC2.out))).trans HC2.out
      go_upto_region 6 with (at_builtin; (with_reducible refine wpList_app (o := ⟨some 20, _, _, _, _, _⟩) (f := fN) rfl (.tmp 18) (.tmp 19) 30 rfl T8 i0 (.int .u8 0) 1 Try.underlying30 HI.out HI1.out HI2.out HI3.out rfl (.slice (some ⟨wr.heap.size, 0, none⟩) 0 0) ([] : List Nat) wr.heap.size rfl HO0.out a1 n1 cc1 B r1 rfl HS1.out fN1 HL1.out HL1m.out HSZ.out ?_); intro v5 W5 HO5 HG5 HV5)
      have HB5 : Hid (Below wr.heap.size wr W5) := ((Below.refl _ wr).alloc (Nat.le_refl _) _).trans (grown_below HG5.out (fun q hq => by injection hq with hq; subst hq; exact Nat.le_refl _) HSZ.out)
      have HO5' : Hid (Own fN T8 W5 wr.heap.size v5 r1) := HO5.out
      obtain ⟨v5a, v5c, hv5, hc5⟩ := HO5'.out.shape'
      rw [HR1L.out] at hv5 hc5
      clear HO5 HO0 HS1 hc5
      subst hv5
      have hc2' : W5.cell? ⟨b2, off2 + k, none⟩ = some (.slice a2 n2 cc2) := (World.cell?_of_block (HB5.out.block _ (World.block_lt_of_cell? wr _ HC2.out))).trans HC2.out
      clear hcz hc2
      have HS25 : Hid (Sl fN W5 B a2 n2 r2) := HS2.out.up HB5.out (Nat.le_trans HBB.out HB.out.size)
      have HL2 : Hid ((r1.length + r2.length) * 1 ≤ 140737488355328) := by show (r1.length + r2.length) * 1 ≤ _; rw [HR1L.out, HR2L.out]; have := HN1.out; have := HN2.out; omega
      have HL2m : Hid (r1.length + r2.length ≤ maxLen) := by show r1.length + r2.length ≤ _; rw [HR1L.out, HR2L.out]; have := HN1.out; have := HN2.out; unfold maxLen; omega
      go_upto_region 8 with (at_builtin; (with_reducible refine wpList_app (o := ⟨some 28, _, _, _, _, _⟩) (f := fN) rfl (.tmp 23) (.tmp 27) 30 rfl T8 i0 (.int .u8 0) 1 Try.underlying30 HI.out HI1.out HI2.out HI3.out rfl (.slice v5a n1 v5c) r1 wr.heap.size rfl HO5'.out a2 n2 cc2 B r2 rfl HS25.out fN1 HL2.out HL2m.out HB5.out.size ?_); intro v6 W6 HO6 HG6 HV6)
      have HB6 : Hid (Below wr.heap.size wr W6) := HB5.out.trans (grown_below HG6.out (fun q hq => (World.ownsRow.lt HO5'.out q hq).1) HB5.out.size)
      obtain ⟨hd, hhd, hx6, hn6⟩ := RowX.of_own HO6.out
      obtain ⟨ha, hn, hc⟩ := hd
      have hhd' : v6 = .slice ha hn hc := hhd
      clear hhd
      subst hhd'
      have HX6 := Lib.hid hx6
      have HG6' : Hid (W6.heap[w.heap.size]? = some (.cells #[v, .slice none 0 0, .int .u8 1] TE (0, 0))) := (HB6.out.block _ (lt_block HG.out)).trans HG.out
      have HOS : Hid (Own fS TR W6 w.heap.size v hs) := HO.out.on HB6.out
      have HBw6 : Hid (Below w.heap.size w W6) := HB.out.trans (HB6.out.mono HB.out.size)
      have HLS : Hid (hs.length = k) := HX.out.1
      obtain ⟨va, vc, hv, hvc⟩ := HOS.out.shape'
      rw [HLS.out] at hv
      subst hv
      have HXo : Hid (∀ (j : Nat) hd r, hs[j]? = some hd → jm[j]? = some r → RowX W6 hd r) := fun j hd r q1 q2 => (HX.out.2 j hd r q1 q2).on HB6.out
      have HLA : Hid ((hs ++ [(⟨ha, hn, hc⟩ : Hd)]).length = k + 1) := by show _ = _; rw [List.length_append, HLS.out]; rfl
      have HL3 : Hid ((hs.length + 1) * 24 ≤ 140737488355328) := by show (hs.length + 1) * 24 ≤ _; rw [HLS.out]; have := HNN.out; omega
      have HL3m : Hid (hs.length + 1 ≤ maxLen) := by show hs.length + 1 ≤ _; rw [HLS.out]; have := HNN.out; unfold maxLen; omega
      have c0 : W6.cell? ⟨w.heap.size, 0, none⟩ = some (.slice va k vc) := by rw [cell_of_row W6 _ _ _ _ _ HG6'.out]; rfl
      have c0' : ∀ o, (W6.alloc o).cell? ⟨w.heap.size, 0, none⟩ = some (.slice va k vc) := fun o => (World.cell?_of_block (Below.heap_alloc W6 o _ (lt_block HG6'.out))).trans c0
      have HKE : Hid (∀ V, W6.grownBy V (Value.slice va k vc).ownBlock → V.heap[w.heap.size]? = some (.cells #[.slice va k vc, .slice none 0 0, .int .u8 1] TE (0, 0)) ∧ (∀ hd r, RowX W6 hd r → RowX V hd r)) := fun V hv => by
        refine ⟨(hv.block _ (lt_block HG6'.out) (fun e => ?_)).trans HG6'.out, fun hd r q => q.grown hv (fun b e => ?_)⟩
        · obtain ⟨cs, q⟩ := HOS.out.block e.symm
          exact type_ne HG6'.out q (by decide) rfl
        · obtain ⟨cs, q⟩ := HOS.out.block e
          exact ⟨cs, TR, (0, 0), q, by decide⟩
      clear hvc hx6 hn6
      go_upto_region 9 with (first
        | (at_builtin; (refine wpList_app1 (o := ⟨some 36, _, _, _, _, _⟩) (f := fS) rfl (.tmp 33) (.tmp 35) 22 rfl TR j0 (.slice none 0 0) 24 Try.underlying22 HJ0.out HJ1.out HJ2.out HJ3.out rfl (.slice va k vc) hs w.heap.size (by rfl) HOS.out ⟨ha, hn, hc⟩ 1 (by rfl) fS1 HL3.out HL3m.out HBw6.out.size ?_); intro v7 W7 HO7 HG7 HV7; (have HK7 := Lib.hid (HKE.out W7 HG7.out)); (obtain ⟨qa, qc, hq7, hq8⟩ := HO7.out.shape'); rw [HLA.out] at hq7; subst hq7; clear hq8)
        | ((with_reducible refine wpList_store_at1 rfl 22 (.tmp 38) (.tmp 36) rfl w.heap.size TE 0 #[.slice va k vc, .slice none 0 0, .int .u8 1] (.slice qa (k + 1) qc) rfl rfl HK7.out.1 (by simp) Try.sizeRR rfl ?_); intro W8 HG8 HB8))
      clear c0 c0'
      have HO8 : Hid (Own fS TR W8 w.heap.size (.slice qa (k + 1) qc) (hs ++ [⟨ha, hn, hc⟩])) := HO7.out.kept HB8.out.grown (HO7.out.type_ne HK7.out.1 (by decide))
      have HBw7 : Hid (Below w.heap.size w W7) := HBw6.out.trans (grown_below HG7.out (fun q hq => (World.ownsRow.lt HOS.out q hq).1) HBw6.out.size)
      have HBw8 : Hid (Below w.heap.size w W8) := HB8.out.below HBw7.out HBw7.out.size (fun i hi => by subst hi; exact Nat.le_refl _)
      have HX8 : Hid ((hs ++ [(⟨ha, hn, hc⟩ : Hd)]).length = k + 1 ∧ ∀ (j : Nat) hd' r, (hs ++ [(⟨ha, hn, hc⟩ : Hd)])[j]? = some hd' → jm[j]? = some r → RowX W8 hd' r) := by
        refine ⟨by rw [List.length_append, HLS.out]; rfl, fun j hd' r q1 q2 => ?_⟩
        by_cases hj : j < k
        · rw [List.getElem?_append_left (by rw [HLS.out]; exact hj)] at q1
          exact (HK7.out.2 _ _ (HXo.out j hd' r q1 q2)).but HB8.out HK7.out.1 (by decide)
        · have hjk : j = k := by
            have q3 := (List.getElem?_eq_some_iff.1 q1).1
            rw [List.length_append, HLS.out] at q3
            simp at q3
            omega
          subst hjk
          rw [HJK.out] at q2
          injection q2 with q2
          subst q2
          rw [List.getElem?_append_right (by rw [HLS.out]; exact Nat.le_refl _), HLS.out, Nat.sub_self] at q1
          injection q1 with q1
          subst q1
          exact (HK7.out.2 _ _ HX6.out).but HB8.out HK7.out.1 (by decide)
      go_wp2_with fail
      go_roundw
      case rel => exact ⟨k + 1, _, _, by omega, by go_num, HBw8, HG8, HO8, HX8⟩
      case measure => simp [intOf]; omega
    · obtain rfl : k = N := by omega
      obtain ⟨g, cap, cur, hv, hbg, hg, hsz, hcur⟩ := HO.out.cells' (by rw [HX.out.1]; exact HN0.out)
      rw [HX.out.1] at hv
      subst hv
      have hmat : Mat wr g hs jm := ⟨⟨cur, hg, fun j hd q => hcur j hd q⟩, by rw [HX.out.1, HJL.out], HX.out.2⟩
      have HCO : Hid (Calls Try.prog 33 #[.slice A1 k c1] wr fun e w' => e = .returned (.int .i64 n1) ∧ wr = w') := by
        have h := columns_any A1 k c1 B m wr (H1.out.up HB.out HBB.out)
        rw [colsN_eq (by rw [HML.out]; exact HN0.out) (fun r hr => (HMO.out r hr).1)] at h
        exact h
      have HRD := Lib.hid (reduce_any w.heap.size g k cap 1 (n1 + n2) n1 w.heap.size hs jm wr HG.out (by decide) hmat HJL.out HJO.out (Nat.le_add_right _ _) (by have := HN1.out; have := HN2.out; omega) HNN.out (Nat.le_refl _) hbg HB.out.size)
      clear hbg hg hsz hcur hmat
      go_wp2_with (first
        | (go_at_call 33; (with_reducible refine HCO.out.mono ?_); rintro e w' ⟨rfl, rfl⟩)
        | (go_at_call 45; (with_reducible refine HRD.out.mono ?_); rintro e w9 ⟨hs9, pv9, p9, rfl, hg9, hm9, hp9, hb9⟩; (have HG9 := Lib.hid hg9); (have HM9 := Lib.hid hm9); (have HP9 := Lib.hid hp9); (have HB9 := Lib.hid hb9); clear hg9 hm9 hp9 hb9))
      go_ret
      exact ⟨_, g, cap, hs9, pv9, p9, rfl, HG9.out, HM9.out, HP9.out, HB.out.trans HB9.out⟩
end Go.Proofs.Ytpbeaghghlfiaaa
