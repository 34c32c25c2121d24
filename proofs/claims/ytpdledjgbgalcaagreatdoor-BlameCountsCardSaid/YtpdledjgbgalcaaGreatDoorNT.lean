/- The law of what counts, walked. -/
import Derived.Test.YtpdledjgbgalcaaGreatDoorNS
import Derived.Test.YtpdledjgbgalcaaGreatDoorNM
import Derived.Test.YtpdledjgbgalcaaGreatDoorZf
namespace Go.Proofs.YtpdledjgbgalcaaGreatDoor
open Go.RowKit Go.Lib
set_option linter.unusedVariables false
set_option linter.unusedSimpArgs false
set_option maxRecDepth 100000 in
set_option maxHeartbeats 4000000 in
theorem viewOf_any (x : Vw) (w : World) : Calls Tryz.prog 14 #[.agg (cVw x)] w fun e w' => e = .returned (.agg (cVw x)) ∧ Below w.heap.size w w' := by
  have HB : Hid (Below w.heap.size w (w.alloc (.cells (cVw x) 29))) := (Below.refl _ _).alloc (Nat.le_refl _) _
  go_enter Tryz.func14, Tryz.ntmps14
  go_wp2
  exact bodyPost_ret (v := .agg (cVw x)) (by simp [results, Tryz.results14, go_sem]) rfl ⟨rfl, HB.out.alloc HB.out.size _⟩
theorem rangeAc {w : World} {b : Nat} {t : TypeId} {d q : Int} {R : Rcp} {st : ByteArray} {tx : Int} {no an : ByteArray} (h : w.heap[b]? = some (.cells (cA d q R st tx no an) t (0, 0))) : w.rangeAt b 0 (cA d q R st tx no an).toList := fun j v hv => by
  rw [Nat.zero_add, cell_of_row w b j _ _ _ h, ← Array.getElem?_toList]; exact hv
theorem Tryz.sizeAcN : (Tryz.prog.info? 39).map (·.size) = some 20 := by kernel_rfl
theorem sizeAcL (d q : Int) (R : Rcp) (st : ByteArray) (tx : Int) (no an : ByteArray) : (Tryz.prog.info? 39).map (·.size) = some (cA d q R st tx no an).toList.length := Tryz.sizeAcN
theorem cellsP {w : World} {b : Nat} {t : TypeId} {s : ByteArray} {ix : Int} {A : Option Addr} {n c : Nat} {A' : Option Addr} {m c' : Nat} (h : w.heap[b]? = some (.cells (cPi s ix A n c A' m c') t (0, 0))) : w.cell? ⟨b, 0, none⟩ = some (.string s) ∧ w.cell? ⟨b, 1, none⟩ = some (.int .i64 ix) ∧ w.cell? ⟨b, 2, none⟩ = some (.slice A n c) ∧ w.cell? ⟨b, 3, none⟩ = some (.slice A' m c') := by
  refine ⟨?_, ?_, ?_, ?_⟩ <;> (rw [cell_of_row w _ _ _ _ _ h]; rfl)
set_option maxRecDepth 100000 in
set_option maxHeartbeats 16000000 in
theorem lawCounts_any (x : Vw) (es : List EnR) (vs : List VtR) (pubs drs : List ByteArray) (fks : List Int) (d q : Int) (R : Rcp) (st : ByteArray) (tx : Int) (no an : ByteArray) (ps qs rs : List ByteArray) (s : ByteArray) (ix : Int) (A A' : Option Addr) (n c m c' B : Nat) (xs : List Int) (ys : List ByteArray) (w : World) (hG : Glob w) (hV : VwIn w B x es vs pubs drs fks) (hR : RcIn w B R ps qs rs) (hpa : R.pa.n ≤ R.pa.c) (hc : n ≤ c) (hc' : m ≤ c') (hx : Sl fB w B A n xs) (hy : Sl fT w B A' m ys) (hB : B ≤ w.heap.size) (hxb : Byt xs) (hEc : x.E.n ≤ 9223372036854775807) :
    Calls Tryz.prog 3 #[.agg (cVw x), .agg (cA d q R st tx no an), .agg (cPi s ix A n c A' m c')] w fun e w' => e = .returned (.bool true) ∧ Below w.heap.size w w' := by
  obtain ⟨W1, hW1⟩ : ∃ W1 : World, W1 = (((w.alloc (.cells (cVw x) 29)).alloc (.cells (cA d q R st tx no an) 39)).alloc (.cells (cPi s ix A n c A' m c') 42)) := ⟨_, rfl⟩
  have hsz : W1.heap.size = w.heap.size + 3 := by rw [hW1]; simp
  have hg1 : W1.heap[w.heap.size]? = some (.cells (cVw x) 29 (0, 0)) := by
    rw [hW1]
    exact (Below.heap_alloc _ _ _ (by simp; omega)).trans ((Below.heap_alloc _ _ _ (by simp)).trans (heap_alloc_new w _))
  have hg2 : W1.heap[w.heap.size + 1]? = some (.cells (cA d q R st tx no an) 39 (0, 0)) := by
    rw [hW1]
    refine (Below.heap_alloc _ _ _ (by simp)).trans ?_
    have := heap_alloc_new (w.alloc (.cells (cVw x) 29)) (.cells (cA d q R st tx no an) 39)
    simpa using this
  have hg3 : W1.heap[w.heap.size + 2]? = some (.cells (cPi s ix A n c A' m c') 42 (0, 0)) := by
    rw [hW1]
    have := heap_alloc_new ((w.alloc (.cells (cVw x) 29)).alloc (.cells (cA d q R st tx no an) 39)) (.cells (cPi s ix A n c A' m c') 42)
    simpa using this
  have HB : Hid (Below w.heap.size w W1) := by
    show Below ..
    rw [hW1]
    exact (((Below.refl _ _).alloc (Nat.le_refl _) _).alloc (by simp) _).alloc (by simp; omega) _
  have HC : Hid (∀ w', Below (w.heap.size + 3) W1 w' → w'.heap[w.heap.size]? = some (.cells (cVw x) 29 (0, 0)) ∧ w'.heap[w.heap.size + 1]? = some (.cells (cA d q R st tx no an) 39 (0, 0)) ∧ w'.heap[w.heap.size + 2]? = some (.cells (cPi s ix A n c A' m c') 42 (0, 0))) := fun V hv => ⟨(hv.block _ (by omega)).trans hg1, (hv.block _ (by omega)).trans hg2, (hv.block _ (by omega)).trans hg3⟩
  have HX : Hid (∀ V, Below (w.heap.size + 3) W1 V → VwIn V B x es vs pubs drs fks ∧ RcIn V B R ps qs rs ∧ Sl fB V B A n xs ∧ Sl fT V B A' m ys ∧ B ≤ V.heap.size ∧ Glob V) := fun V hv => by
    have hb : Below w.heap.size w V := HB.out.trans (hv.mono (Nat.le_add_right _ 3))
    exact ⟨hV.up hb hB, hR.up hb hB, hx.up hb hB, hy.up hb hB, Nat.le_trans hB hb.size, hG.on hb⟩
  have HS := Lib.hid hsz
  have HWE := Lib.hid hW1
  have HB1 : Hid (Below (w.heap.size + 3) W1 W1) := Below.refl _ _
  have HFW : Hid (Calls Tryz.prog 9 #[.agg (cVw x)] W1 (FewP x es W1)) := few_any x es B W1 (HX.out W1 HB1.out).1.E (HX.out W1 HB1.out).2.2.2.2.1 hEc
  have HAW : Hid (∀ V, Below (w.heap.size + 3) W1 V → Calls Tryz.prog 11 #[] V fun e w' => e = .returned (.bool true) ∧ Below V.heap.size V w') := fun V hv => awake_any V (HX.out V hv).2.2.2.2.2
  have HSH : Hid (∀ V, Calls Tryz.prog 10 #[.agg (cR R)] V fun e w' => e = .returned (.bool (decide (R.pa.n ≤ 20 ∧ R.pb.n ≤ 310 ∧ R.pc.n ≤ 20))) ∧ Below V.heap.size V w') := fun V => short_any R V
  have HVO := Lib.hid (fun V => viewOf_any x V)
  obtain ⟨cn, hcn⟩ : ∃ b, cnB pubs x.b x.h vs d q R st tx no an ps qs rs = b := ⟨_, rfl⟩
  obtain ⟨aq, haq⟩ : ∃ b, aqB R s ix xs ys = b := ⟨_, rfl⟩
  have HV1 : Hid (FewB x es → ∀ V, Below (w.heap.size + 3) W1 V → Calls Tryz.prog 12 #[.agg (cVw x), .agg (cA d q R st tx no an)] V fun e w' => e = .returned (.bool cn) ∧ Below V.heap.size V w') := fun hf V hv => by
    obtain ⟨h1, h2, _, _, h5, h6⟩ := HX.out V hv
    rw [← hcn]
    exact bvalid_any x pubs vs d q R st tx no an ps qs rs B V h6 h1.V h1.P h2 h5 (by have := hf.2.1; omega) (by have := hf.2.2.1; omega) hpa
  have HV2 : Hid (FewB x es → (R.pa.n ≤ 20 ∧ R.pb.n ≤ 310 ∧ R.pc.n ≤ 20) → ∀ V, Below (w.heap.size + 3) W1 V → Calls Tryz.prog 13 #[.agg (cVw x), .agg (cA d q R st tx no an)] V fun e w' => e = .returned (.bool cn) ∧ Below V.heap.size V w') := fun hf hs V hv => by
    obtain ⟨h1, h2, _, _, h5, h6⟩ := HX.out V hv
    rw [← hcn]
    exact rcounts_any x pubs vs d q R st tx no an ps qs rs B V h1.V h1.P h2 h5 (by have := hf.2.1; omega) (by have := hf.2.2.1; omega) hpa (by omega) (by omega) (by omega)
  have HQ1 : Hid (n ≤ 2000 → m ≤ 20 → ∀ V, Below (w.heap.size + 3) W1 V → Calls Tryz.prog 15 #[.agg (cA d q R st tx no an), .agg (cPi s ix A n c A' m c')] V fun e w' => e = .returned (.bool aq) ∧ Below V.heap.size V w') := fun hn hm V hv => by
    obtain ⟨_, _, h3, h4, h5, h6⟩ := HX.out V hv
    rw [← haq]
    exact acquits_any d q R st tx no an s ix A A' n c m c' B xs ys V h6 hc hc' h3 h4 h5 (by omega) (by omega) hxb
  have HQ2 : Hid (n ≤ 2000 → m ≤ 20 → ∀ V, Below (w.heap.size + 3) W1 V → Calls Tryz.prog 16 #[.agg (cA d q R st tx no an), .agg (cPi s ix A n c A' m c')] V fun e w' => e = .returned (.bool aq) ∧ Below V.heap.size V w') := fun hn hm V hv => by
    obtain ⟨_, _, h3, h4, h5, h6⟩ := HX.out V hv
    rw [← haq]
    exact racquits_any d q R st tx no an s ix A A' n c m c' B xs ys V hc hc' h3 h4 h5 (by omega) (by omega) hxb
  obtain ⟨v0, v1, v2, v3, v4, v5, v6⟩ := cellsV (HC.out W1 HB1.out).1
  clear hG hV hR hx hy hB hxb hW1 hsz hg1 hg2 hg3 hcn haq
  go_enter Tryz.func3, Tryz.ntmps3
  go_upto_region 1 with fail
  rw [← HWE.out]
  go_wp2_with fail
  refine HFW.out.mono ?_
  rintro e w4 ⟨t, rfl, ht, hb4⟩
  have HB4 : Hid (Below (w.heap.size + 3) W1 w4) := Below.mono hb4 (Nat.le_of_eq HS.out.symm)
  have HR4 := Lib.hid (rangeA2 (HC.out w4 HB4.out).2.1)
  clear hb4 v0 v1 v2 v3 v4 v5 v6
  obtain ⟨p0, p1, p2, p3⟩ := cellsP (HC.out w4 HB4.out).2.2
  cases t with
  | false =>
    clear ht
    go_wp2_with (go_at_call 11; (with_reducible refine (HAW.out _ HB4.out).mono ?_); rintro e w9 ⟨rfl, hb9⟩; (have HB9 : Hid (Below (w.heap.size + 3) W1 w9) := HB4.out.trans (Below.mono hb9 (HS.out ▸ HB4.out.size))); clear hb9)
    go_ret
    exact ⟨rfl, HB.out.trans (HB9.out.mono (Nat.le_add_right _ 3))⟩
  | true =>
    have HFB := Lib.hid (ht rfl)
    clear ht
    by_cases hsh : R.pa.n ≤ 20 ∧ R.pb.n ≤ 310 ∧ R.pc.n ≤ 20
    · rw [decide_eq_true hsh] at HSH
      by_cases hn : n ≤ 2000
      · by_cases hm : m ≤ 20
        · -- PART main
          have HV1 := Lib.hid (HV1.out HFB.out)
          have HV2 := Lib.hid (HV2.out HFB.out hsh)
          have HQ1 := Lib.hid (HQ1.out hn hm)
          have HQ2 := Lib.hid (HQ2.out hn hm)
          have hnI : ¬ (2000 : Int) < (n : Int) := by omega
          have hmI : ¬ (20 : Int) < (m : Int) := by omega
          clear hsh
          go_upto_region 3 with (first | (with_reducible refine wpList_load_mid_n (op := ⟨some 12, _, _, _, _, _⟩) (by kernel_rfl) tR (.tmp 11) rfl (w.heap.size + 1) 2 rfl (cR R).toList _ HR4.out Tryz.underlying35 rfl (sizeRL R) ?_) | (go_at_call 10; (with_reducible refine (HSH.out _).mono ?_); rintro e w5 ⟨rfl, hb5⟩; (have HB5 : Hid (Below (w.heap.size + 3) W1 w5) := HB4.out.trans (Below.mono hb5 (HS.out ▸ HB4.out.size))); clear hb5; (obtain ⟨p0, p1, p2, p3⟩ := cellsP (HC.out w5 HB5.out).2.2)))
          clear p0 p1 p2 p3
          have HB4 := HB5
          refine wp_region_held_drew (S := (fun w' => w'.heap[w.heap.size]? = some (.cells (cVw x) 29 (0, 0)) ∧ w'.heap[w.heap.size + 1]? = some (.cells (cA d q R st tx no an) 39 (0, 0)) ∧ w'.heap[w.heap.size + 2]? = some (.cells (cPi s ix A n c A' m c') 42 (0, 0)))) (by kernel_rfl) (by first | exact HC.out _ HBx.out | exact HC.out _ (by repeat (first | exact HBx.out | exact HB4.out | exact Below.refl _ _ | refine Below.drew ?_ | refine below_dN' ?_ _ | refine below_drewN' ?_ _)) | go_keep) (fun hHeld => ?_)
          refine wpAnyH_ready (rs := [0]) (by kernel_rfl) (by simp) ?_
          refine AllReadyH.cons (by simp only [List.getElem?_toArray, List.getElem?_cons_zero]; rfl) (fun K hK => ?_) (AllReadyH.nil)
          (go_simp; go_at_call 11; (with_reducible refine (HAW.out _ (by repeat (first | exact HBx.out | exact HB4.out | exact Below.refl _ _ | refine Below.drew ?_ | refine below_dN' ?_ _ | refine below_drewN' ?_ _))).mono ?_); rintro e w6 ⟨rfl, hb6⟩; (have HBx : Hid (Below (w.heap.size + 3) W1 w6) := Below.trans (B := w.heap.size + 3) (by repeat (first | exact HBx.out | exact HB4.out | exact Below.refl _ _ | refine Below.drew ?_ | refine below_dN' ?_ _ | refine below_drewN' ?_ _)) (Below.mono hb6 (HS.out ▸ (by first | exact HBx.out.size | exact HB5.out.size | exact HB4.out.size)))); clear hb6; go_wp2_with fail)
          refine hK.out _ _ (by first | exact HC.out _ HBx.out | exact HC.out _ (by repeat (first | exact HBx.out | exact HB4.out | exact Below.refl _ _ | refine Below.drew ?_ | refine below_dN' ?_ _ | refine below_drewN' ?_ _)) | go_keep) (fun hHeldm0 => ?_)
          clear hK K hHeld
          try simp only [pt]
          refine tkH (i := 1) (v := ?m1v) (y := (Or.inl ⟨by rfl, ?m1y⟩)) (h := ?m1r)
          case m1y => (intro w hSw; (try dsimp only at hSw); go_simp; try (with_reducible rfl))
          try simp only [pt]
          refine tkH (i := 2) (v := ?m2v) (y := (Or.inl ⟨by rfl, ?m2y⟩)) (h := ?m2r)
          case m2y => (intro w hSw; (try dsimp only at hSw); (obtain ⟨v0, v1, v2, v3, v4, v5, v6⟩ := cellsV hSw.1); go_simp; try (with_reducible rfl))
          try simp only [pt]
          refine tkH (i := 3) (v := _) (y := (yieldsIf_load_mid (by rfl) 39 (.tmp 4) rfl (w.heap.size + 1) 0 (by rfl) (cA d q R st tx no an).toList _ (fun _ h => rangeAc h.2.1) Tryz.underlying39 rfl (sizeAcL d q R st tx no an))) (h := ?_)
          try simp only [pt]
          refine tkH (i := 5) (v := ?m4v) (y := (Or.inl ⟨by rfl, ?m4y⟩)) (h := ?m4r)
          case m4y => (intro w hSw; (try dsimp only at hSw); (obtain ⟨v0, v1, v2, v3, v4, v5, v6⟩ := cellsV hSw.1); go_simp; try (with_reducible rfl))
          try simp only [pt]
          refine tkH (i := 7) (v := _) (y := (yieldsIf_load_mid (by rfl) 39 (.tmp 4) rfl (w.heap.size + 1) 0 (by rfl) (cA d q R st tx no an).toList _ (fun _ h => rangeAc h.2.1) Tryz.underlying39 rfl (sizeAcL d q R st tx no an))) (h := ?_)
          try simp only [pt]
          refine wpAnyH_ready (rs := [4]) (by kernel_rfl) (by simp) ?_
          refine AllReadyH.cons (by simp only [List.getElem?_toArray, List.getElem?_cons_succ, List.getElem?_cons_zero]; rfl) (fun K hK => ?_) (AllReadyH.nil)
          (go_simp; go_at_call 12; (with_reducible refine (HV1.out _ (by repeat (first | exact HBx.out | exact HB4.out | exact Below.refl _ _ | refine Below.drew ?_ | refine below_dN' ?_ _ | refine below_drewN' ?_ _))).mono ?_); rintro e w7 ⟨rfl, hb7⟩; (have HBx : Hid (Below (w.heap.size + 3) W1 w7) := Below.trans (B := w.heap.size + 3) (by repeat (first | exact HBx.out | exact HB4.out | exact Below.refl _ _ | refine Below.drew ?_ | refine below_dN' ?_ _ | refine below_drewN' ?_ _)) (Below.mono hb7 (HS.out ▸ (by first | exact HBx.out.size | exact HB5.out.size | exact HB4.out.size)))); clear hb7; go_wp2_with fail)
          refine hK.out _ _ (by first | exact HC.out _ HBx.out | exact HC.out _ (by repeat (first | exact HBx.out | exact HB4.out | exact Below.refl _ _ | refine Below.drew ?_ | refine below_dN' ?_ _ | refine below_drewN' ?_ _)) | go_keep) (fun hHeldm6 => ?_)
          clear hK K hHeldm0
          try simp only [pt]
          refine wpAnyH_ready (rs := [6]) (by kernel_rfl) (by simp) ?_
          refine AllReadyH.cons (by simp only [List.getElem?_toArray, List.getElem?_cons_succ, List.getElem?_cons_zero]; rfl) (fun K hK => ?_) (AllReadyH.nil)
          (go_simp; go_at_call 14; (with_reducible refine (HVO.out _).mono ?_); rintro e w8 ⟨rfl, hb8⟩; (have HBx : Hid (Below (w.heap.size + 3) W1 w8) := Below.trans (B := w.heap.size + 3) (by repeat (first | exact HBx.out | exact HB4.out | exact Below.refl _ _ | refine Below.drew ?_ | refine below_dN' ?_ _ | refine below_drewN' ?_ _)) (Below.mono hb8 (HS.out ▸ (by first | exact HBx.out.size | exact HB5.out.size | exact HB4.out.size)))); clear hb8; go_wp2_with fail)
          refine hK.out _ _ (by first | exact HC.out _ HBx.out | exact HC.out _ (by repeat (first | exact HBx.out | exact HB4.out | exact Below.refl _ _ | refine Below.drew ?_ | refine below_dN' ?_ _ | refine below_drewN' ?_ _)) | go_keep) (fun hHeldm7 => ?_)
          clear hK K hHeldm6
          try simp only [pt]
          refine wpAnyH_ready (rs := [8]) (by kernel_rfl) (by simp) ?_
          refine AllReadyH.cons (by simp only [List.getElem?_toArray, List.getElem?_cons_succ, List.getElem?_cons_zero]; rfl) (fun K hK => ?_) (AllReadyH.nil)
          (go_simp; go_at_call 13; (with_reducible refine (HV2.out _ (by repeat (first | exact HBx.out | exact HB4.out | exact Below.refl _ _ | refine Below.drew ?_ | refine below_dN' ?_ _ | refine below_drewN' ?_ _))).mono ?_); rintro e w9 ⟨rfl, hb9⟩; (have HBx : Hid (Below (w.heap.size + 3) W1 w9) := Below.trans (B := w.heap.size + 3) (by repeat (first | exact HBx.out | exact HB4.out | exact Below.refl _ _ | refine Below.drew ?_ | refine below_dN' ?_ _ | refine below_drewN' ?_ _)) (Below.mono hb9 (HS.out ▸ (by first | exact HBx.out.size | exact HB5.out.size | exact HB4.out.size)))); clear hb9; go_wp2_with fail)
          refine hK.out _ _ (by first | exact HC.out _ HBx.out | exact HC.out _ (by repeat (first | exact HBx.out | exact HB4.out | exact Below.refl _ _ | refine Below.drew ?_ | refine below_dN' ?_ _ | refine below_drewN' ?_ _)) | go_keep) (fun hHeldm8 => ?_)
          clear hK K hHeldm7
          try simp only [pt]
          refine tkH (i := 9) (v := ?m9v) (y := (Or.inl ⟨by rfl, ?m9y⟩)) (h := ?m9r)
          case m9y => (intro w hSw; (try dsimp only at hSw); go_simp; try (with_reducible rfl))
          try simp only [pt]
          refine tkH (i := 10) (v := ?m10v) (y := (Or.inl ⟨by rfl, ?m10y⟩)) (h := ?m10r)
          case m10y => (intro w hSw; (try dsimp only at hSw); go_simp; try (with_reducible rfl))
          try simp only [pt]
          refine tkH (i := 11) (v := ?m11v) (y := (Or.inl ⟨by rfl, ?m11y⟩)) (h := ?m11r)
          case m11y => (intro w hSw; (try dsimp only at hSw); go_simp; try (with_reducible rfl))
          try simp only [pt]
          refine tkH (i := 12) (v := _) (y := (yieldsIf_load_mid (by rfl) 39 (.tmp 4) rfl (w.heap.size + 1) 0 (by rfl) (cA d q R st tx no an).toList _ (fun _ h => rangeAc h.2.1) Tryz.underlying39 rfl (sizeAcL d q R st tx no an))) (h := ?_)
          try simp only [pt]
          refine tkH (i := 13) (v := ?m13v) (y := (Or.inl ⟨by rfl, ?m13y⟩)) (h := ?m13r)
          case m13y => (intro w hSw; (try dsimp only at hSw); (obtain ⟨p0, p1, p2, p3⟩ := cellsP hSw.2.2); go_simp; try (with_reducible rfl))
          try simp only [pt]
          refine tkH (i := 15) (v := _) (y := (yieldsIf_load_mid (by rfl) 39 (.tmp 4) rfl (w.heap.size + 1) 0 (by rfl) (cA d q R st tx no an).toList _ (fun _ h => rangeAc h.2.1) Tryz.underlying39 rfl (sizeAcL d q R st tx no an))) (h := ?_)
          try simp only [pt]
          refine tkH (i := 16) (v := ?m15v) (y := (Or.inl ⟨by rfl, ?m15y⟩)) (h := ?m15r)
          case m15y => (intro w hSw; (try dsimp only at hSw); (obtain ⟨p0, p1, p2, p3⟩ := cellsP hSw.2.2); go_simp; try (with_reducible rfl))
          try simp only [pt]
          refine wpAnyH_ready (rs := [14]) (by kernel_rfl) (by simp) ?_
          refine AllReadyH.cons (by simp only [List.getElem?_toArray, List.getElem?_cons_succ, List.getElem?_cons_zero]; rfl) (fun K hK => ?_) (AllReadyH.nil)
          (go_simp; go_at_call 15; (with_reducible refine (HQ1.out _ (by repeat (first | exact HBx.out | exact HB4.out | exact Below.refl _ _ | refine Below.drew ?_ | refine below_dN' ?_ _ | refine below_drewN' ?_ _))).mono ?_); rintro e w10 ⟨rfl, hb10⟩; (have HBx : Hid (Below (w.heap.size + 3) W1 w10) := Below.trans (B := w.heap.size + 3) (by repeat (first | exact HBx.out | exact HB4.out | exact Below.refl _ _ | refine Below.drew ?_ | refine below_dN' ?_ _ | refine below_drewN' ?_ _)) (Below.mono hb10 (HS.out ▸ (by first | exact HBx.out.size | exact HB5.out.size | exact HB4.out.size)))); clear hb10; go_wp2_with fail)
          refine hK.out _ _ (by first | exact HC.out _ HBx.out | exact HC.out _ (by repeat (first | exact HBx.out | exact HB4.out | exact Below.refl _ _ | refine Below.drew ?_ | refine below_dN' ?_ _ | refine below_drewN' ?_ _)) | go_keep) (fun hHeldm16 => ?_)
          clear hK K hHeldm8
          try simp only [pt]
          refine wpAnyH_ready (rs := [17]) (by kernel_rfl) (by simp) ?_
          refine AllReadyH.cons (by simp only [List.getElem?_toArray, List.getElem?_cons_succ, List.getElem?_cons_zero]; rfl) (fun K hK => ?_) (AllReadyH.nil)
          (go_simp; go_at_call 16; (with_reducible refine (HQ2.out _ (by repeat (first | exact HBx.out | exact HB4.out | exact Below.refl _ _ | refine Below.drew ?_ | refine below_dN' ?_ _ | refine below_drewN' ?_ _))).mono ?_); rintro e w11 ⟨rfl, hb11⟩; (have HBx : Hid (Below (w.heap.size + 3) W1 w11) := Below.trans (B := w.heap.size + 3) (by repeat (first | exact HBx.out | exact HB4.out | exact Below.refl _ _ | refine Below.drew ?_ | refine below_dN' ?_ _ | refine below_drewN' ?_ _)) (Below.mono hb11 (HS.out ▸ (by first | exact HBx.out.size | exact HB5.out.size | exact HB4.out.size)))); clear hb11; go_wp2_with fail)
          refine hK.out _ _ (by first | exact HC.out _ HBx.out | exact HC.out _ (by repeat (first | exact HBx.out | exact HB4.out | exact Below.refl _ _ | refine Below.drew ?_ | refine below_dN' ?_ _ | refine below_drewN' ?_ _)) | go_keep) (fun hHeldm17 => ?_)
          clear hK K hHeldm16
          try simp only [pt]
          refine tkH (i := 18) (v := ?m18v) (y := (Or.inl ⟨by rfl, ?m18y⟩)) (h := ?m18r)
          case m18y => (intro w hSw; (try dsimp only at hSw); go_simp; try (with_reducible rfl))
          try simp only [pt]
          refine tkH (i := 19) (v := ?m19v) (y := (Or.inl ⟨by rfl, ?m19y⟩)) (h := ?m19r)
          case m19y => (intro w hSw; (try dsimp only at hSw); go_simp; try (with_reducible rfl))
          try simp only [pt]
          refine tkH (i := 20) (v := ?m20v) (y := (Or.inl ⟨by rfl, ?m20y⟩)) (h := ?m20r)
          case m20y => (intro w hSw; (try dsimp only at hSw); go_simp; try (with_reducible rfl))
          try simp only [pt]
          refine wpAnyH_done (by kernel_rfl) ?_ _
          go_wp2_with fail
          go_ret
          exact ⟨rfl, HB.out.trans (HBx.out.mono (Nat.le_add_right _ 3))⟩
          -- END main
        · have hnI : ¬ (2000 : Int) < (n : Int) := by omega
          have hmI : (20 : Int) < (m : Int) := by omega
          clear hsh
          go_wp2_with (first | (first | (with_reducible refine wpList_load_mid_n (op := ⟨some 12, _, _, _, _, _⟩) (by kernel_rfl) tR (.tmp 11) rfl (w.heap.size + 1) 2 rfl (cR R).toList _ HR4.out Tryz.underlying35 rfl (sizeRL R) ?_) | (go_at_call 10; (with_reducible refine (HSH.out _).mono ?_); rintro e w5 ⟨rfl, hb5⟩; (have HB5 : Hid (Below (w.heap.size + 3) W1 w5) := HB4.out.trans (Below.mono hb5 (HS.out ▸ HB4.out.size))); clear hb5; (obtain ⟨p0, p1, p2, p3⟩ := cellsP (HC.out w5 HB5.out).2.2))) | (go_at_call 11; (with_reducible refine (HAW.out _ HB5.out).mono ?_); rintro e w9 ⟨rfl, hb9⟩; (have HB9 : Hid (Below (w.heap.size + 3) W1 w9) := HB5.out.trans (Below.mono hb9 (HS.out ▸ HB5.out.size))); clear hb9))
          go_ret
          exact ⟨rfl, HB.out.trans (HB9.out.mono (Nat.le_add_right _ 3))⟩
      · have hnI : (2000 : Int) < (n : Int) := by omega
        clear hsh
        go_wp2_with (first | (first | (with_reducible refine wpList_load_mid_n (op := ⟨some 12, _, _, _, _, _⟩) (by kernel_rfl) tR (.tmp 11) rfl (w.heap.size + 1) 2 rfl (cR R).toList _ HR4.out Tryz.underlying35 rfl (sizeRL R) ?_) | (go_at_call 10; (with_reducible refine (HSH.out _).mono ?_); rintro e w5 ⟨rfl, hb5⟩; (have HB5 : Hid (Below (w.heap.size + 3) W1 w5) := HB4.out.trans (Below.mono hb5 (HS.out ▸ HB4.out.size))); clear hb5; (obtain ⟨p0, p1, p2, p3⟩ := cellsP (HC.out w5 HB5.out).2.2))) | (go_at_call 11; (with_reducible refine (HAW.out _ HB5.out).mono ?_); rintro e w9 ⟨rfl, hb9⟩; (have HB9 : Hid (Below (w.heap.size + 3) W1 w9) := HB5.out.trans (Below.mono hb9 (HS.out ▸ HB5.out.size))); clear hb9))
        go_ret
        exact ⟨rfl, HB.out.trans (HB9.out.mono (Nat.le_add_right _ 3))⟩
    · rw [decide_eq_false hsh] at HSH
      clear hsh
      go_wp2_with (first | (first | (with_reducible refine wpList_load_mid_n (op := ⟨some 12, _, _, _, _, _⟩) (by kernel_rfl) tR (.tmp 11) rfl (w.heap.size + 1) 2 rfl (cR R).toList _ HR4.out Tryz.underlying35 rfl (sizeRL R) ?_) | (go_at_call 10; (with_reducible refine (HSH.out _).mono ?_); rintro e w5 ⟨rfl, hb5⟩; (have HB5 : Hid (Below (w.heap.size + 3) W1 w5) := HB4.out.trans (Below.mono hb5 (HS.out ▸ HB4.out.size))); clear hb5; (obtain ⟨p0, p1, p2, p3⟩ := cellsP (HC.out w5 HB5.out).2.2))) | (go_at_call 11; (with_reducible refine (HAW.out _ HB5.out).mono ?_); rintro e w9 ⟨rfl, hb9⟩; (have HB9 : Hid (Below (w.heap.size + 3) W1 w9) := HB5.out.trans (Below.mono hb9 (HS.out ▸ HB5.out.size))); clear hb9))
      go_ret
      exact ⟨rfl, HB.out.trans (HB9.out.mono (Nat.le_add_right _ 3))⟩
end Go.Proofs.YtpdledjgbgalcaaGreatDoor
