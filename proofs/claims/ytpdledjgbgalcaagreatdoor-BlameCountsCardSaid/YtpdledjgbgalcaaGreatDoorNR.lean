/- The reference's Counts. -/
import Derived.Test.YtpdledjgbgalcaaGreatDoorNP
import Derived.Test.YtpdledjgbgalcaaGreatDoorPd
namespace Go.Proofs.YtpdledjgbgalcaaGreatDoor
open Go.RowKit Go.Lib
set_option linter.unusedVariables false
set_option linter.unusedSimpArgs false
theorem wpList_load_mid_n {P : Program} {ops : Array Oper} {rest : List Oper} {op : Oper} {a : Act} {w : World} {Q : Exit → Act → World → Prop} (hw : Region.wanted op (yielded ops a.tmps) = true) (ty : TypeId) (x : Operand) (ho : op.op = .load ty x)
    (b o : Nat) (hx : a.eval x = .pointer (some ⟨b, o, none⟩)) (cs : List Value) (d : TypeDesc) (hc : w.rangeAt b o cs)
    (hu : P.underlying ty = some d) (hd : d.isRow = true) (hi : (P.info? ty).map (·.size) = some cs.length)
    (h : wpList P ops Q rest (a.put op.dst (.agg cs.toArray)) w) : wpList P ops Q (op :: rest) a w :=
  BigFrame.wpList_want hw fun _ hK => wp_load_mid ty x ho b o hx cs d hc hu hd hi (hK _ _ h)
theorem wvB_bad {pubs : List ByteArray} {b h : Int} {v : VtR} {d : Int} {R : Rcp} {ps qs rs : List ByteArray} (hv : vaB R ps qs rs = false) : wvB pubs b h v d R ps qs rs = false := by
  unfold wvB rvB
  rw [hv]
  simp
theorem wvO_bad {pubs : List ByteArray} {b h : Int} {o : Option VtR} {d : Int} {R : Rcp} {ps qs rs : List ByteArray} (hv : vaB R ps qs rs = false) : wvO pubs b h o d R ps qs rs = false := by
  cases o with
  | none => rfl
  | some v => exact wvB_bad hv
theorem wvO_out {pubs : List ByteArray} {b h : Int} {o : Option VtR} {d : Int} {R : Rcp} {ps qs rs : List ByteArray} (hv : (pubs.length : Int) ≤ R.hd) : wvO pubs b h o d R ps qs rs = false := by
  cases o with
  | none => rfl
  | some v =>
    show wvB pubs b h v d R ps qs rs = false
    unfold wvB
    rw [decide_eq_false (show ¬ (0 ≤ R.hd ∧ R.hd ≤ (pubs.length : Int) - 1) by omega)]
    simp
set_option maxRecDepth 100000 in
set_option maxHeartbeats 16000000 in
theorem rcounts_any (x : Vw) (pubs : List ByteArray) (vs : List VtR) (d q : Int) (R : Rcp) (st : ByteArray) (tx : Int) (no an : ByteArray) (ps qs rs : List ByteArray) (B : Nat) (w : World) (hV : VtIn w B x.V.a x.V.n vs) (hP : Sl fT w B x.P.a x.P.n pubs) (hR : RcIn w B R ps qs rs) (hB : B ≤ w.heap.size) (hvn : x.V.n ≤ 1000) (hpn : x.P.n ≤ 1000) (hpa : R.pa.n ≤ R.pa.c) (hpa2 : R.pa.n ≤ 1000000) (hpb2 : R.pb.n ≤ 1000000) (hpc2 : R.pc.n ≤ 1000000) :
    Calls Tryz.prog 13 #[.agg (cVw x), .agg (cA d q R st tx no an)] w fun e w' => e = .returned (.bool (cnB pubs x.b x.h vs d q R st tx no an ps qs rs)) ∧ Below w.heap.size w w' := by
  have HF : Hid (cnB pubs x.b x.h vs d q R st tx no an ps qs rs = (numB d q && (tkB st tx no an && (decide (st = R.s) && (decide (tx = R.ix) && wvO pubs x.b x.h (fiV R.vt vs) d R ps qs rs))))) := rfl
  have HNU := Lib.hid (fun W => entry_any d q W)
  have HTK := Lib.hid (fun W => token_any st tx no an W)
  obtain ⟨W1, hW1⟩ : ∃ W1 : World, W1 = (w.alloc (.cells (cVw x) 48)).alloc (.cells (cA d q R st tx no an) 50) := ⟨_, rfl⟩
  have hsz : W1.heap.size = w.heap.size + 2 := by rw [hW1]; simp
  have hge : W1.heap[w.heap.size]? = some (.cells (cVw x) 48 (0, 0)) := by
    rw [hW1]
    exact (Below.heap_alloc _ _ _ (by simp)).trans (heap_alloc_new w _)
  have hge2 : W1.heap[w.heap.size + 1]? = some (.cells (cA d q R st tx no an) 50 (0, 0)) := by
    rw [hW1]
    have := heap_alloc_new (w.alloc (.cells (cVw x) 48)) (.cells (cA d q R st tx no an) 50)
    simpa using this
  have HB : Hid (Below w.heap.size w W1) := by
    show Below ..
    rw [hW1]
    exact ((Below.refl _ _).alloc (Nat.le_refl _) _).alloc (by simp) _
  have HC : Hid (∀ V, Below (w.heap.size + 2) W1 V → V.heap[w.heap.size]? = some (.cells (cVw x) 48 (0, 0)) ∧ V.heap[w.heap.size + 1]? = some (.cells (cA d q R st tx no an) 50 (0, 0))) := fun V hv => ⟨(hv.block _ (by omega)).trans hge, (hv.block _ (by omega)).trans hge2⟩
  have HX : Hid (∀ V, Below (w.heap.size + 2) W1 V → VtIn V B x.V.a x.V.n vs ∧ Sl fT V B x.P.a x.P.n pubs ∧ RcIn V B R ps qs rs ∧ B ≤ V.heap.size ∧ Below w.heap.size w V) := fun V hv => by
    have hb : Below w.heap.size w V := HB.out.trans (hv.mono (Nat.le_add_right _ 2))
    exact ⟨hV.up hb hB, hP.up hb hB, hR.up hb hB, Nat.le_trans hB hb.size, hb⟩
  have HS := Lib.hid hsz
  have HWE := Lib.hid hW1
  have HB1 : Hid (Below (w.heap.size + 2) W1 W1) := Below.refl _ _
  have HPL : Hid (pubs.length = x.P.n) := hP.1
  have HVL : Hid (vs.length = x.V.n) := hV.1.1
  clear hge hge2 hsz hW1
  have HVA : Hid (∀ V, Below (w.heap.size + 2) W1 V → Calls Tryz.prog 45 #[.agg (cR R)] V fun e w' => e = .returned (.bool (vaB R ps qs rs)) ∧ Below V.heap.size V w') := fun V hv => valid43_any R ps qs rs B V (HX.out V hv).2.2.1 (HX.out V hv).2.2.2.1 hpa2 hpb2 hpc2
  have HCD : Hid (∀ (V : World) (u : VtR) (y : Int), Below (w.heap.size + 2) W1 V → u ∈ vs → Calls Tryz.prog 20 #[.slice u.wr.a u.wr.n u.wr.c, .int .i64 y] V fun e w' => e = .returned (.bool (u.xs.contains y)) ∧ V = w') := fun V u y hv hu => inJ_any u.wr.a u.wr.n u.wr.c B u.xs y V ((HX.out V hv).1.2 u hu).1 ((HX.out V hv).1.2 u hu).2
  have HRV : Hid (∀ pub V, Below (w.heap.size + 2) W1 V → Calls Tryz.prog 47 #[.string pub, .agg (cSc x.b x.h), .agg (cR R)] V fun e w' => e = .returned (.bool (rvB pub x.b x.h R ps qs rs)) ∧ Below V.heap.size V w') := fun pub V hv => rgverify_any pub x.b x.h R ps qs rs B V (HX.out V hv).2.2.1 (HX.out V hv).2.2.2.1 hpa hpa2 hpb2 hpc2
  have HR1 := Lib.hid (rangeA2 (HC.out W1 HB1.out).2)
  obtain ⟨a0, a1, a2, a3, a4, a5⟩ := cellsA (HC.out W1 HB1.out).2; obtain ⟨a16, a17, a18, a19⟩ := rangeA16 (HC.out W1 HB1.out).2; obtain ⟨v0, v1, v2, v3, v4, v5, v6⟩ := cellsV (HC.out W1 HB1.out).1
  clear hV hP hR hB hpa hpa2 hpb2 hpc2
  cases hnum : numB d q with
  | false =>
    rw [hnum] at HNU HF
    rw [Bool.false_and] at HF
    clear hnum
    go_enter Tryz.func13, Tryz.ntmps13
    go_upto_region 1 with fail
    rw [← HWE.out]
    go_wp2_with (go_at_call 44; (with_reducible refine (HNU.out _).mono ?_); rintro e w5 ⟨rfl, rfl⟩)
    go_ret
    exact ⟨by rw [HF.out]; rfl, HB.out.trans (HB1.out.mono (Nat.le_add_right _ 2))⟩
  | true =>
    rw [hnum] at HNU HF
    rw [Bool.true_and] at HF
    clear hnum
    cases hva : vaB R ps qs rs with
    | false =>
      rw [hva] at HVA
      have HF2 : Hid (cnB pubs x.b x.h vs d q R st tx no an ps qs rs = false) := by show _ = _; rw [HF.out, wvO_bad hva]; simp
      clear HF hva
      have HF := HF2
      go_enter Tryz.func13, Tryz.ntmps13
      go_upto_region 1 with fail
      rw [← HWE.out]
      go_wp2_with (first | (with_reducible refine wpList_load_mid_n (op := ⟨some 14, _, _, _, _, _⟩) (by kernel_rfl) tR (.tmp 13) rfl (w.heap.size + 1) 2 rfl (cR R).toList _ HR1.out Tryz.underlying35 rfl (sizeRL R) ?_) | (go_at_call 44; (with_reducible refine (HNU.out _).mono ?_); rintro e w5 ⟨rfl, rfl⟩) | (go_at_call 45; (with_reducible refine (HVA.out _ HB1.out).mono ?_); rintro e w6 ⟨rfl, hb6⟩; (have HBx : Hid (Below (w.heap.size + 2) W1 w6) := Below.mono hb6 (Nat.le_of_eq HS.out.symm)); clear hb6; clear a0 a1 a2 a3 a4 a5 a16 a17 a18 a19 v0 v1 v2 v3 v4 v5 v6; obtain ⟨a0, a1, a2, a3, a4, a5⟩ := cellsA (HC.out w6 HBx.out).2; obtain ⟨a16, a17, a18, a19⟩ := rangeA16 (HC.out w6 HBx.out).2; obtain ⟨v0, v1, v2, v3, v4, v5, v6⟩ := cellsV (HC.out w6 HBx.out).1))
      go_ret
      exact ⟨by rw [HF.out]; rfl, HB.out.trans (HBx.out.mono (Nat.le_add_right _ 2))⟩
    | true =>
      rw [hva] at HVA
      have hhd := (vaB_facts hva).1
      clear hva
      cases htk : tkB st tx no an with
      | false =>
        rw [htk] at HTK HF
        rw [Bool.false_and] at HF
        clear htk
        go_enter Tryz.func13, Tryz.ntmps13
        go_upto_region 1 with fail
        rw [← HWE.out]
        go_wp2_with (first | (with_reducible refine wpList_load_mid_n (op := ⟨some 14, _, _, _, _, _⟩) (by kernel_rfl) tR (.tmp 13) rfl (w.heap.size + 1) 2 rfl (cR R).toList _ HR1.out Tryz.underlying35 rfl (sizeRL R) ?_) | (go_at_call 44; (with_reducible refine (HNU.out _).mono ?_); rintro e w5 ⟨rfl, rfl⟩) | (go_at_call 45; (with_reducible refine (HVA.out _ HB1.out).mono ?_); rintro e w6 ⟨rfl, hb6⟩; (have HBx : Hid (Below (w.heap.size + 2) W1 w6) := Below.mono hb6 (Nat.le_of_eq HS.out.symm)); clear hb6; clear a0 a1 a2 a3 a4 a5 a16 a17 a18 a19 v0 v1 v2 v3 v4 v5 v6; obtain ⟨a0, a1, a2, a3, a4, a5⟩ := cellsA (HC.out w6 HBx.out).2; obtain ⟨a16, a17, a18, a19⟩ := rangeA16 (HC.out w6 HBx.out).2; obtain ⟨v0, v1, v2, v3, v4, v5, v6⟩ := cellsV (HC.out w6 HBx.out).1) | (go_at_call 46; (with_reducible refine (HTK.out _).mono ?_); rintro e w7 ⟨rfl, hb7⟩; (have HB7 : Hid (Below (w.heap.size + 2) W1 w7) := HBx.out.trans (Below.mono hb7 (HS.out ▸ HBx.out.size))); clear hb7; clear a0 a1 a2 a3 a4 a5 a16 a17 a18 a19 v0 v1 v2 v3 v4 v5 v6; obtain ⟨a0, a1, a2, a3, a4, a5⟩ := cellsA (HC.out w7 HB7.out).2; obtain ⟨a16, a17, a18, a19⟩ := rangeA16 (HC.out w7 HB7.out).2; obtain ⟨v0, v1, v2, v3, v4, v5, v6⟩ := cellsV (HC.out w7 HB7.out).1))
        go_ret
        exact ⟨by rw [HF.out]; rfl, HB.out.trans (HB7.out.mono (Nat.le_add_right _ 2))⟩
      | true =>
        rw [htk] at HTK HF
        rw [Bool.true_and] at HF
        clear htk
        by_cases h1 : st = R.s
        · by_cases h2 : tx = R.ix
          · rw [decide_eq_true h1, decide_eq_true h2, Bool.true_and, Bool.true_and] at HF
            subst h1
            subst h2
            by_cases hge : (x.P.n : Int) ≤ R.hd
            · have HF2 : Hid (cnB pubs x.b x.h vs d q R R.s R.ix no an ps qs rs = false) := by show _ = _; rw [HF.out, wvO_out (by rw [HPL.out]; exact hge)]
              clear HF
              have HF := HF2
              go_enter Tryz.func13, Tryz.ntmps13
              go_upto_region 1 with fail
              rw [← HWE.out]
              go_wp2_with (first | (with_reducible refine wpList_load_mid_n (op := ⟨some 14, _, _, _, _, _⟩) (by kernel_rfl) tR (.tmp 13) rfl (w.heap.size + 1) 2 rfl (cR R).toList _ HR1.out Tryz.underlying35 rfl (sizeRL R) ?_) | (go_at_call 44; (with_reducible refine (HNU.out _).mono ?_); rintro e w5 ⟨rfl, rfl⟩) | (go_at_call 45; (with_reducible refine (HVA.out _ HB1.out).mono ?_); rintro e w6 ⟨rfl, hb6⟩; (have HBx : Hid (Below (w.heap.size + 2) W1 w6) := Below.mono hb6 (Nat.le_of_eq HS.out.symm)); clear hb6; clear a0 a1 a2 a3 a4 a5 a16 a17 a18 a19 v0 v1 v2 v3 v4 v5 v6; obtain ⟨a0, a1, a2, a3, a4, a5⟩ := cellsA (HC.out w6 HBx.out).2; obtain ⟨a16, a17, a18, a19⟩ := rangeA16 (HC.out w6 HBx.out).2; obtain ⟨v0, v1, v2, v3, v4, v5, v6⟩ := cellsV (HC.out w6 HBx.out).1) | (go_at_call 46; (with_reducible refine (HTK.out _).mono ?_); rintro e w7 ⟨rfl, hb7⟩; (have HB7 : Hid (Below (w.heap.size + 2) W1 w7) := HBx.out.trans (Below.mono hb7 (HS.out ▸ HBx.out.size))); clear hb7; clear a0 a1 a2 a3 a4 a5 a16 a17 a18 a19 v0 v1 v2 v3 v4 v5 v6; obtain ⟨a0, a1, a2, a3, a4, a5⟩ := cellsA (HC.out w7 HB7.out).2; obtain ⟨a16, a17, a18, a19⟩ := rangeA16 (HC.out w7 HB7.out).2; obtain ⟨v0, v1, v2, v3, v4, v5, v6⟩ := cellsV (HC.out w7 HB7.out).1))
              go_ret
              exact ⟨by rw [HF.out]; rfl, HB.out.trans (HB7.out.mono (Nat.le_add_right _ 2))⟩
            · -- PART loop
              have hlt : R.hd < (x.P.n : Int) := by omega
              have hd0 : 0 ≤ R.hd := hhd.1
              have hin : decide (0 ≤ R.hd ∧ R.hd ≤ (pubs.length : Int) - 1) = true := by simp; rw [HPL.out]; omega
              go_enter Tryz.func13, Tryz.ntmps13
              go_upto_region 1 with fail
              rw [← HWE.out]
              go_upto_region 4 with (first | (with_reducible refine wpList_load_mid_n (op := ⟨some 14, _, _, _, _, _⟩) (by kernel_rfl) tR (.tmp 13) rfl (w.heap.size + 1) 2 rfl (cR R).toList _ HR1.out Tryz.underlying35 rfl (sizeRL R) ?_) | (go_at_call 44; (with_reducible refine (HNU.out _).mono ?_); rintro e w5 ⟨rfl, rfl⟩) | (go_at_call 45; (with_reducible refine (HVA.out _ HB1.out).mono ?_); rintro e w6 ⟨rfl, hb6⟩; (have HBx : Hid (Below (w.heap.size + 2) W1 w6) := Below.mono hb6 (Nat.le_of_eq HS.out.symm)); clear hb6; clear a0 a1 a2 a3 a4 a5 a16 a17 a18 a19 v0 v1 v2 v3 v4 v5 v6; obtain ⟨a0, a1, a2, a3, a4, a5⟩ := cellsA (HC.out w6 HBx.out).2; obtain ⟨a16, a17, a18, a19⟩ := rangeA16 (HC.out w6 HBx.out).2; obtain ⟨v0, v1, v2, v3, v4, v5, v6⟩ := cellsV (HC.out w6 HBx.out).1) | (go_at_call 46; (with_reducible refine (HTK.out _).mono ?_); rintro e w7 ⟨rfl, hb7⟩; (have HB7 : Hid (Below (w.heap.size + 2) W1 w7) := HBx.out.trans (Below.mono hb7 (HS.out ▸ HBx.out.size))); clear hb7; clear a0 a1 a2 a3 a4 a5 a16 a17 a18 a19 v0 v1 v2 v3 v4 v5 v6; obtain ⟨a0, a1, a2, a3, a4, a5⟩ := cellsA (HC.out w7 HB7.out).2; obtain ⟨a16, a17, a18, a19⟩ := rangeA16 (HC.out w7 HB7.out).2; obtain ⟨v0, v1, v2, v3, v4, v5, v6⟩ := cellsV (HC.out w7 HB7.out).1))
              clear a0 a1 a2 a3 a4 a5 a16 a17 a18 a19 v0 v1 v2 v3 v4 v5 v6
              clear hge
              have HM0 : Hid (∀ (j : Nat) (u : VtR), j < 0 → vs[j]? = some u → u.num ≠ R.vt) := fun j u hj => absurd hj (by omega)
              go_loopw [5] (fun i wr => ∃ k : Nat, k ≤ x.V.n ∧ i = .int .i64 k ∧ Hid (∀ (j : Nat) (u : VtR), j < k → vs[j]? = some u → u.num ≠ R.vt) ∧ Hid (Below (w.heap.size + 2) W1 wr)) (fun i _ => x.V.n - (intOf i).toNat)
              case atStart => exact ⟨0, by omega, rfl, HM0, HB7⟩
              case round =>
                clear HM0
                obtain ⟨k, hk, rfl, HM, HBr⟩ := hrel
                obtain ⟨v0, v1, v2, v3, v4, v5, v6⟩ := cellsV (HC.out wr HBr.out).1
                by_cases hkn : k < x.V.n
                · have hknI : (k : Int) < (x.V.n : Int) := by omega
                  have hk0 : (0 : Int) ≤ (k : Int) := by omega
                  obtain ⟨bv, ov, u, hAv, _, hgu, hcu⟩ := (HX.out wr HBr.out).1.1.at_ (k := k) hkn
                  have hu := List.mem_of_getElem? hgu
                  have HU : Hid (∀ V, Below (w.heap.size + 2) W1 V → ∀ j y, (fVt u)[j]? = some y → V.cell? ⟨bv, ov + (k * 15 + j), none⟩ = some y) := fun V hv j y hy => by
                    obtain ⟨b3, o3, u3, e3, _, g3, k3⟩ := (HX.out V hv).1.1.at_ (k := k) hkn
                    rw [hAv] at e3
                    cases e3
                    rw [hgu] at g3
                    cases g3
                    exact k3 j y hy
                  have HU0 : Hid (∀ V, Below (w.heap.size + 2) W1 V → V.cell? ⟨bv, ov + k * 15, none⟩ = some (.int .i64 u.num)) := fun V hv => HU.out V hv 0 _ rfl
                  have HU1 : Hid (∀ V, Below (w.heap.size + 2) W1 V → V.cell? ⟨bv, ov + k * 15 + 1, none⟩ = some (.slice u.wr.a u.wr.n u.wr.c)) := fun V hv => HU.out V hv 1 _ rfl
                  have HC1 : Hid (∀ V, Below (w.heap.size + 2) W1 V → Calls Tryz.prog 20 #[.slice u.wr.a u.wr.n u.wr.c, .int .i64 d] V fun e w' => e = .returned (.bool (u.xs.contains d)) ∧ V = w') := fun V hv => HCD.out V u d hv hu
                  have HC2 : Hid (∀ V, Below (w.heap.size + 2) W1 V → Calls Tryz.prog 20 #[.slice u.wr.a u.wr.n u.wr.c, .int .i64 R.hd] V fun e w' => e = .returned (.bool (u.xs.contains R.hd)) ∧ V = w') := fun V hv => HCD.out V u R.hd hv hu
                  have HBy := HBr
                  by_cases hnm : u.num = R.vt
                  · have hnmI : (u.num == R.vt) = true := by simp [hnm]
                    have hfi := fiV_at hgu hnm HM.out
                    rw [hfi] at HF
                    have HF1 : Hid (cnB pubs x.b x.h vs d q R R.s R.ix no an ps qs rs = (u.xs.contains d && (!u.xs.contains R.hd && (decide (0 ≤ R.hd ∧ R.hd ≤ (pubs.length : Int) - 1) && rvB (pubs.getD R.hd.toNat ⟨#[]⟩) x.b x.h R ps qs rs)))) := HF
                    rw [hin, Bool.true_and] at HF1
                    clear HF hfi hgu hcu hu
                    have HF := HF1
                    clear HF1 hnm
                    go_upto_region 6 with fail
                    refine wp_region_held_drew (S := (fun w' => w'.heap[w.heap.size]? = some (.cells (cVw x) 48 (0, 0)) ∧ w'.heap[w.heap.size + 1]? = some (.cells (cA d q R R.s R.ix no an) 50 (0, 0)) ∧ w'.cell? ⟨bv, ov + k * 15, none⟩ = some (.int .i64 u.num))) (by kernel_rfl) (by first | exact ⟨(HC.out _ (by repeat (first | exact HBy.out | exact HBr.out | exact Below.refl _ _ | refine Below.drew ?_ | refine below_dN' ?_ _ | refine below_drewN' ?_ _))).1, (HC.out _ (by repeat (first | exact HBy.out | exact HBr.out | exact Below.refl _ _ | refine Below.drew ?_ | refine below_dN' ?_ _ | refine below_drewN' ?_ _))).2, HU0.out _ (by repeat (first | exact HBy.out | exact HBr.out | exact Below.refl _ _ | refine Below.drew ?_ | refine below_dN' ?_ _ | refine below_drewN' ?_ _))⟩ | go_keep) (fun hHeld => ?_)
                    refine tkH (i := 0) (v := ?s0v) (y := (Or.inl ⟨by rfl, ?s0y⟩)) (h := ?s0r)
                    case s0y => (intro w hSw; (try dsimp only at hSw); go_simp; try (with_reducible rfl))
                    try simp only [pt]
                    refine tkH (i := 1) (v := ?s1v) (y := (Or.inl ⟨by rfl, ?s1y⟩)) (h := ?s1r)
                    case s1y => (intro w hSw; (try dsimp only at hSw); (obtain ⟨v0, v1, v2, v3, v4, v5, v6⟩ := cellsV hSw.1); go_simp; try (with_reducible rfl))
                    try simp only [pt]
                    refine tkH (i := 2) (v := ?s2v) (y := (Or.inl ⟨by rfl, ?s2y⟩)) (h := ?s2r)
                    case s2y => (intro w hSw; (try dsimp only at hSw); go_simp; try (with_reducible rfl))
                    try simp only [pt]
                    refine tkH (i := 3) (v := ?s3v) (y := (Or.inl ⟨by rfl, ?s3y⟩)) (h := ?s3r)
                    case s3y => (intro w hSw; (try dsimp only at hSw); go_simp; try (with_reducible rfl))
                    try simp only [pt]
                    refine tkH (i := 4) (v := ?s4v) (y := (Or.inl ⟨by rfl, ?s4y⟩)) (h := ?s4r)
                    case s4y => (intro w hSw; (try dsimp only at hSw); go_simp; try (with_reducible rfl))
                    try simp only [pt]
                    refine tkH (i := 5) (v := ?s5v) (y := (Or.inl ⟨by rfl, ?s5y⟩)) (h := ?s5r)
                    case s5y => (intro w hSw; (try dsimp only at hSw); (have hu0 := hSw.2.2); go_simp; try (with_reducible rfl))
                    try simp only [pt]
                    refine tkH (i := 6) (v := ?s6v) (y := (Or.inl ⟨by rfl, ?s6y⟩)) (h := ?s6r)
                    case s6y => (intro w hSw; (try dsimp only at hSw); go_simp; try (with_reducible rfl))
                    try simp only [pt]
                    refine tkH (i := 7) (v := ?s7v) (y := (Or.inl ⟨by rfl, ?s7y⟩)) (h := ?s7r)
                    case s7y => (intro w hSw; (try dsimp only at hSw); go_simp; try (with_reducible rfl))
                    try simp only [pt]
                    refine tkH (i := 8) (v := ?s8v) (y := (Or.inl ⟨by rfl, ?s8y⟩)) (h := ?s8r)
                    case s8y => (intro w hSw; (try dsimp only at hSw); (obtain ⟨a0, a1, a2, a3, a4, a5⟩ := cellsA hSw.2.1); go_simp; try (with_reducible rfl))
                    try simp only [pt]
                    refine tkH (i := 9) (v := ?s9v) (y := (Or.inl ⟨by rfl, ?s9y⟩)) (h := ?s9r)
                    case s9y => (intro w hSw; (try dsimp only at hSw); go_simp; try (with_reducible rfl))
                    try simp only [pt]
                    refine wpAnyH_done (by kernel_rfl) ?_ _
                    go_wp2_with fail
                    cases hcd : u.xs.contains d with
                    | false =>
                      rw [hcd] at HC1 HF
                      rw [Bool.false_and] at HF
                      clear hcd
                      clear v0 v1 v2 v3 v4 v5 v6
                      refine wp_region_held_drew (S := (fun w' => w'.heap[w.heap.size]? = some (.cells (cVw x) 48 (0, 0)) ∧ w'.heap[w.heap.size + 1]? = some (.cells (cA d q R R.s R.ix no an) 50 (0, 0)) ∧ w'.cell? ⟨bv, ov + k * 15, none⟩ = some (.int .i64 u.num) ∧ w'.cell? ⟨bv, ov + k * 15 + 1, none⟩ = some (.slice u.wr.a u.wr.n u.wr.c))) (by kernel_rfl) (by first | exact ⟨(HC.out _ (by repeat (first | exact HBy.out | exact HBr.out | exact Below.refl _ _ | refine Below.drew ?_ | refine below_dN' ?_ _ | refine below_drewN' ?_ _))).1, (HC.out _ (by repeat (first | exact HBy.out | exact HBr.out | exact Below.refl _ _ | refine Below.drew ?_ | refine below_dN' ?_ _ | refine below_drewN' ?_ _))).2, HU0.out _ (by repeat (first | exact HBy.out | exact HBr.out | exact Below.refl _ _ | refine Below.drew ?_ | refine below_dN' ?_ _ | refine below_drewN' ?_ _)), HU1.out _ (by repeat (first | exact HBy.out | exact HBr.out | exact Below.refl _ _ | refine Below.drew ?_ | refine below_dN' ?_ _ | refine below_drewN' ?_ _))⟩ | go_keep) (fun hHeld => ?_)
                      refine tkH (i := 0) (v := ?yA0v) (y := (Or.inl ⟨by rfl, ?yA0y⟩)) (h := ?yA0r)
                      case yA0y => (intro w hSw; (try dsimp only at hSw); go_simp; try (with_reducible rfl))
                      try simp only [pt]
                      refine tkH (i := 1) (v := ?yA1v) (y := (Or.inl ⟨by rfl, ?yA1y⟩)) (h := ?yA1r)
                      case yA1y => (intro w hSw; (try dsimp only at hSw); (obtain ⟨v0, v1, v2, v3, v4, v5, v6⟩ := cellsV hSw.1); go_simp; try (with_reducible rfl))
                      try simp only [pt]
                      refine tkH (i := 2) (v := ?yA2v) (y := (Or.inl ⟨by rfl, ?yA2y⟩)) (h := ?yA2r)
                      case yA2y => (intro w hSw; (try dsimp only at hSw); go_simp; try (with_reducible rfl))
                      try simp only [pt]
                      refine tkH (i := 3) (v := ?yA3v) (y := (Or.inl ⟨by rfl, ?yA3y⟩)) (h := ?yA3r)
                      case yA3y => (intro w hSw; (try dsimp only at hSw); go_simp; try (with_reducible rfl))
                      try simp only [pt]
                      refine tkH (i := 4) (v := ?yA4v) (y := (Or.inl ⟨by rfl, ?yA4y⟩)) (h := ?yA4r)
                      case yA4y => (intro w hSw; (try dsimp only at hSw); go_simp; try (with_reducible rfl))
                      try simp only [pt]
                      refine tkH (i := 5) (v := ?yA5v) (y := (Or.inl ⟨by rfl, ?yA5y⟩)) (h := ?yA5r)
                      case yA5y => (intro w hSw; (try dsimp only at hSw); (have hu1 := hSw.2.2.2); go_simp; try (with_reducible rfl))
                      try simp only [pt]
                      refine tkH (i := 6) (v := ?yA6v) (y := (Or.inl ⟨by rfl, ?yA6y⟩)) (h := ?yA6r)
                      case yA6y => (intro w hSw; (try dsimp only at hSw); go_simp; try (with_reducible rfl))
                      try simp only [pt]
                      refine tkH (i := 7) (v := ?yA7v) (y := (Or.inl ⟨by rfl, ?yA7y⟩)) (h := ?yA7r)
                      case yA7y => (intro w hSw; (try dsimp only at hSw); (obtain ⟨a0, a1, a2, a3, a4, a5⟩ := cellsA hSw.2.1); go_simp; try (with_reducible rfl))
                      try simp only [pt]
                      refine wpAnyH_ready (rs := [8]) (by kernel_rfl) (by simp) ?_
                      refine AllReadyH.cons (by simp only [List.getElem?_toArray, List.getElem?_cons_succ, List.getElem?_cons_zero]; rfl) (fun K hK => ?_) (AllReadyH.nil)
                      (go_simp; go_at_call 20; (with_reducible refine (HC1.out _ (by repeat (first | exact HBy.out | exact HBr.out | exact Below.refl _ _ | refine Below.drew ?_ | refine below_dN' ?_ _ | refine below_drewN' ?_ _))).mono ?_); rintro e w8 ⟨rfl, rfl⟩; go_wp2_with fail)
                      refine hK.out _ _ (by first | exact ⟨(HC.out _ (by repeat (first | exact HBy.out | exact HBr.out | exact Below.refl _ _ | refine Below.drew ?_ | refine below_dN' ?_ _ | refine below_drewN' ?_ _))).1, (HC.out _ (by repeat (first | exact HBy.out | exact HBr.out | exact Below.refl _ _ | refine Below.drew ?_ | refine below_dN' ?_ _ | refine below_drewN' ?_ _))).2, HU0.out _ (by repeat (first | exact HBy.out | exact HBr.out | exact Below.refl _ _ | refine Below.drew ?_ | refine below_dN' ?_ _ | refine below_drewN' ?_ _)), HU1.out _ (by repeat (first | exact HBy.out | exact HBr.out | exact Below.refl _ _ | refine Below.drew ?_ | refine below_dN' ?_ _ | refine below_drewN' ?_ _))⟩ | go_keep) (fun hHeldyA8 => ?_)
                      clear hK K hHeld
                      try simp only [pt]
                      refine tkH (i := 9) (v := ?yA9v) (y := (Or.inl ⟨by rfl, ?yA9y⟩)) (h := ?yA9r)
                      case yA9y => (intro w hSw; (try dsimp only at hSw); go_simp; try (with_reducible rfl))
                      try simp only [pt]
                      refine tkH (i := 10) (v := _) (y := (Or.inr ⟨by rfl, rfl⟩)) (h := ?_)
                      try simp only [pt]
                      refine tkH (i := 11) (v := _) (y := (Or.inr ⟨by rfl, rfl⟩)) (h := ?_)
                      try simp only [pt]
                      refine tkH (i := 12) (v := _) (y := (Or.inr ⟨by rfl, rfl⟩)) (h := ?_)
                      try simp only [pt]
                      refine tkH (i := 13) (v := _) (y := (Or.inr ⟨by rfl, rfl⟩)) (h := ?_)
                      try simp only [pt]
                      refine tkH (i := 14) (v := _) (y := (Or.inr ⟨by rfl, rfl⟩)) (h := ?_)
                      try simp only [pt]
                      refine tkH (i := 15) (v := _) (y := (Or.inr ⟨by rfl, rfl⟩)) (h := ?_)
                      try simp only [pt]
                      refine tkH (i := 16) (v := _) (y := (Or.inr ⟨by rfl, rfl⟩)) (h := ?_)
                      try simp only [pt]
                      refine tkH (i := 17) (v := _) (y := (Or.inr ⟨by rfl, rfl⟩)) (h := ?_)
                      try simp only [pt]
                      refine tkH (i := 18) (v := _) (y := (Or.inr ⟨by rfl, rfl⟩)) (h := ?_)
                      try simp only [pt]
                      refine tkH (i := 19) (v := _) (y := (Or.inr ⟨by rfl, rfl⟩)) (h := ?_)
                      try simp only [pt]
                      refine tkH (i := 20) (v := _) (y := (Or.inr ⟨by rfl, rfl⟩)) (h := ?_)
                      try simp only [pt]
                      refine tkH (i := 21) (v := ?yA21v) (y := (Or.inl ⟨by rfl, ?yA21y⟩)) (h := ?yA21r)
                      case yA21y => (intro w hSw; (try dsimp only at hSw); go_simp; try (with_reducible rfl))
                      try simp only [pt]
                      refine tkH (i := 22) (v := ?yA22v) (y := (Or.inl ⟨by rfl, ?yA22y⟩)) (h := ?yA22r)
                      case yA22y => (intro w hSw; (try dsimp only at hSw); go_simp; try (with_reducible rfl))
                      try simp only [pt]
                      refine tkH (i := 23) (v := _) (y := (Or.inr ⟨by rfl, rfl⟩)) (h := ?_)
                      try simp only [pt]
                      refine tkH (i := 24) (v := _) (y := (Or.inr ⟨by rfl, rfl⟩)) (h := ?_)
                      try simp only [pt]
                      refine tkH (i := 25) (v := _) (y := (Or.inr ⟨by rfl, rfl⟩)) (h := ?_)
                      try simp only [pt]
                      refine tkH (i := 26) (v := _) (y := (Or.inr ⟨by rfl, rfl⟩)) (h := ?_)
                      try simp only [pt]
                      refine tkH (i := 27) (v := _) (y := (Or.inr ⟨by rfl, rfl⟩)) (h := ?_)
                      try simp only [pt]
                      refine tkH (i := 28) (v := _) (y := (Or.inr ⟨by rfl, rfl⟩)) (h := ?_)
                      try simp only [pt]
                      refine tkH (i := 29) (v := _) (y := (Or.inr ⟨by rfl, rfl⟩)) (h := ?_)
                      try simp only [pt]
                      refine tkH (i := 30) (v := _) (y := (Or.inr ⟨by rfl, rfl⟩)) (h := ?_)
                      try simp only [pt]
                      refine tkH (i := 31) (v := _) (y := (Or.inr ⟨by rfl, rfl⟩)) (h := ?_)
                      try simp only [pt]
                      refine tkH (i := 32) (v := _) (y := (Or.inr ⟨by rfl, rfl⟩)) (h := ?_)
                      try simp only [pt]
                      refine tkH (i := 33) (v := _) (y := (Or.inr ⟨by rfl, rfl⟩)) (h := ?_)
                      try simp only [pt]
                      refine tkH (i := 34) (v := _) (y := (Or.inr ⟨by rfl, rfl⟩)) (h := ?_)
                      try simp only [pt]
                      refine tkH (i := 35) (v := ?yA35v) (y := (Or.inl ⟨by rfl, ?yA35y⟩)) (h := ?yA35r)
                      case yA35y => (intro w hSw; (try dsimp only at hSw); go_simp; try (with_reducible rfl))
                      try simp only [pt]
                      refine tkH (i := 36) (v := ?yA36v) (y := (Or.inl ⟨by rfl, ?yA36y⟩)) (h := ?yA36r)
                      case yA36y => (intro w hSw; (try dsimp only at hSw); go_simp; try (with_reducible rfl))
                      try simp only [pt]
                      refine wpAnyH_done (by kernel_rfl) ?_ _
                      go_wp2_with fail
                      go_ret
                      exact ⟨by rw [HF.out]; rfl, (by first | exact HB.out.trans (HBy.out.mono (Nat.le_add_right _ 2)) | exact (HB.out.trans (HBy.out.mono (Nat.le_add_right _ 2))).drew | exact (HB.out.trans (HBy.out.mono (Nat.le_add_right _ 2))).drew.drew)⟩
                    | true =>
                      rw [hcd] at HC1 HF
                      rw [Bool.true_and] at HF
                      clear hcd
                      cases hch : u.xs.contains R.hd with
                      | true =>
                        rw [hch] at HC2 HF
                        rw [Bool.not_true, Bool.false_and] at HF
                        clear hch
                        clear v0 v1 v2 v3 v4 v5 v6
                        refine wp_region_held_drew (S := (fun w' => w'.heap[w.heap.size]? = some (.cells (cVw x) 48 (0, 0)) ∧ w'.heap[w.heap.size + 1]? = some (.cells (cA d q R R.s R.ix no an) 50 (0, 0)) ∧ w'.cell? ⟨bv, ov + k * 15, none⟩ = some (.int .i64 u.num) ∧ w'.cell? ⟨bv, ov + k * 15 + 1, none⟩ = some (.slice u.wr.a u.wr.n u.wr.c))) (by kernel_rfl) (by first | exact ⟨(HC.out _ (by repeat (first | exact HBy.out | exact HBr.out | exact Below.refl _ _ | refine Below.drew ?_ | refine below_dN' ?_ _ | refine below_drewN' ?_ _))).1, (HC.out _ (by repeat (first | exact HBy.out | exact HBr.out | exact Below.refl _ _ | refine Below.drew ?_ | refine below_dN' ?_ _ | refine below_drewN' ?_ _))).2, HU0.out _ (by repeat (first | exact HBy.out | exact HBr.out | exact Below.refl _ _ | refine Below.drew ?_ | refine below_dN' ?_ _ | refine below_drewN' ?_ _)), HU1.out _ (by repeat (first | exact HBy.out | exact HBr.out | exact Below.refl _ _ | refine Below.drew ?_ | refine below_dN' ?_ _ | refine below_drewN' ?_ _))⟩ | go_keep) (fun hHeld => ?_)
                        refine tkH (i := 0) (v := ?yB0v) (y := (Or.inl ⟨by rfl, ?yB0y⟩)) (h := ?yB0r)
                        case yB0y => (intro w hSw; (try dsimp only at hSw); go_simp; try (with_reducible rfl))
                        try simp only [pt]
                        refine tkH (i := 1) (v := ?yB1v) (y := (Or.inl ⟨by rfl, ?yB1y⟩)) (h := ?yB1r)
                        case yB1y => (intro w hSw; (try dsimp only at hSw); (obtain ⟨v0, v1, v2, v3, v4, v5, v6⟩ := cellsV hSw.1); go_simp; try (with_reducible rfl))
                        try simp only [pt]
                        refine tkH (i := 2) (v := ?yB2v) (y := (Or.inl ⟨by rfl, ?yB2y⟩)) (h := ?yB2r)
                        case yB2y => (intro w hSw; (try dsimp only at hSw); go_simp; try (with_reducible rfl))
                        try simp only [pt]
                        refine tkH (i := 3) (v := ?yB3v) (y := (Or.inl ⟨by rfl, ?yB3y⟩)) (h := ?yB3r)
                        case yB3y => (intro w hSw; (try dsimp only at hSw); go_simp; try (with_reducible rfl))
                        try simp only [pt]
                        refine tkH (i := 4) (v := ?yB4v) (y := (Or.inl ⟨by rfl, ?yB4y⟩)) (h := ?yB4r)
                        case yB4y => (intro w hSw; (try dsimp only at hSw); go_simp; try (with_reducible rfl))
                        try simp only [pt]
                        refine tkH (i := 5) (v := ?yB5v) (y := (Or.inl ⟨by rfl, ?yB5y⟩)) (h := ?yB5r)
                        case yB5y => (intro w hSw; (try dsimp only at hSw); (have hu1 := hSw.2.2.2); go_simp; try (with_reducible rfl))
                        try simp only [pt]
                        refine tkH (i := 6) (v := ?yB6v) (y := (Or.inl ⟨by rfl, ?yB6y⟩)) (h := ?yB6r)
                        case yB6y => (intro w hSw; (try dsimp only at hSw); go_simp; try (with_reducible rfl))
                        try simp only [pt]
                        refine tkH (i := 7) (v := ?yB7v) (y := (Or.inl ⟨by rfl, ?yB7y⟩)) (h := ?yB7r)
                        case yB7y => (intro w hSw; (try dsimp only at hSw); (obtain ⟨a0, a1, a2, a3, a4, a5⟩ := cellsA hSw.2.1); go_simp; try (with_reducible rfl))
                        try simp only [pt]
                        refine wpAnyH_ready (rs := [8]) (by kernel_rfl) (by simp) ?_
                        refine AllReadyH.cons (by simp only [List.getElem?_toArray, List.getElem?_cons_succ, List.getElem?_cons_zero]; rfl) (fun K hK => ?_) (AllReadyH.nil)
                        (go_simp; go_at_call 20; (with_reducible refine (HC1.out _ (by repeat (first | exact HBy.out | exact HBr.out | exact Below.refl _ _ | refine Below.drew ?_ | refine below_dN' ?_ _ | refine below_drewN' ?_ _))).mono ?_); rintro e w8 ⟨rfl, rfl⟩; go_wp2_with fail)
                        refine hK.out _ _ (by first | exact ⟨(HC.out _ (by repeat (first | exact HBy.out | exact HBr.out | exact Below.refl _ _ | refine Below.drew ?_ | refine below_dN' ?_ _ | refine below_drewN' ?_ _))).1, (HC.out _ (by repeat (first | exact HBy.out | exact HBr.out | exact Below.refl _ _ | refine Below.drew ?_ | refine below_dN' ?_ _ | refine below_drewN' ?_ _))).2, HU0.out _ (by repeat (first | exact HBy.out | exact HBr.out | exact Below.refl _ _ | refine Below.drew ?_ | refine below_dN' ?_ _ | refine below_drewN' ?_ _)), HU1.out _ (by repeat (first | exact HBy.out | exact HBr.out | exact Below.refl _ _ | refine Below.drew ?_ | refine below_dN' ?_ _ | refine below_drewN' ?_ _))⟩ | go_keep) (fun hHeldyB8 => ?_)
                        clear hK K hHeld
                        try simp only [pt]
                        refine tkH (i := 9) (v := ?yB9v) (y := (Or.inl ⟨by rfl, ?yB9y⟩)) (h := ?yB9r)
                        case yB9y => (intro w hSw; (try dsimp only at hSw); go_simp; try (with_reducible rfl))
                        try simp only [pt]
                        refine tkH (i := 10) (v := ?yB10v) (y := (Or.inl ⟨by rfl, ?yB10y⟩)) (h := ?yB10r)
                        case yB10y => (intro w hSw; (try dsimp only at hSw); go_simp; try (with_reducible rfl))
                        try simp only [pt]
                        refine tkH (i := 11) (v := ?yB11v) (y := (Or.inl ⟨by rfl, ?yB11y⟩)) (h := ?yB11r)
                        case yB11y => (intro w hSw; (try dsimp only at hSw); (obtain ⟨v0, v1, v2, v3, v4, v5, v6⟩ := cellsV hSw.1); go_simp; try (with_reducible rfl))
                        try simp only [pt]
                        refine tkH (i := 12) (v := ?yB12v) (y := (Or.inl ⟨by rfl, ?yB12y⟩)) (h := ?yB12r)
                        case yB12y => (intro w hSw; (try dsimp only at hSw); go_simp; try (with_reducible rfl))
                        try simp only [pt]
                        refine tkH (i := 13) (v := ?yB13v) (y := (Or.inl ⟨by rfl, ?yB13y⟩)) (h := ?yB13r)
                        case yB13y => (intro w hSw; (try dsimp only at hSw); go_simp; try (with_reducible rfl))
                        try simp only [pt]
                        refine tkH (i := 14) (v := ?yB14v) (y := (Or.inl ⟨by rfl, ?yB14y⟩)) (h := ?yB14r)
                        case yB14y => (intro w hSw; (try dsimp only at hSw); go_simp; try (with_reducible rfl))
                        try simp only [pt]
                        refine tkH (i := 15) (v := ?yB15v) (y := (Or.inl ⟨by rfl, ?yB15y⟩)) (h := ?yB15r)
                        case yB15y => (intro w hSw; (try dsimp only at hSw); (have hu1 := hSw.2.2.2); go_simp; try (with_reducible rfl))
                        try simp only [pt]
                        refine tkH (i := 16) (v := ?yB16v) (y := (Or.inl ⟨by rfl, ?yB16y⟩)) (h := ?yB16r)
                        case yB16y => (intro w hSw; (try dsimp only at hSw); go_simp; try (with_reducible rfl))
                        try simp only [pt]
                        refine tkH (i := 17) (v := ?yB17v) (y := (Or.inl ⟨by rfl, ?yB17y⟩)) (h := ?yB17r)
                        case yB17y => (intro w hSw; (try dsimp only at hSw); go_simp; try (with_reducible rfl))
                        try simp only [pt]
                        refine tkH (i := 18) (v := ?yB18v) (y := (Or.inl ⟨by rfl, ?yB18y⟩)) (h := ?yB18r)
                        case yB18y => (intro w hSw; (try dsimp only at hSw); (obtain ⟨a0, a1, a2, a3, a4, a5⟩ := cellsA hSw.2.1); go_simp; try (with_reducible rfl))
                        try simp only [pt]
                        refine wpAnyH_ready (rs := [19]) (by kernel_rfl) (by simp) ?_
                        refine AllReadyH.cons (by simp only [List.getElem?_toArray, List.getElem?_cons_succ, List.getElem?_cons_zero]; rfl) (fun K hK => ?_) (AllReadyH.nil)
                        (go_simp; go_at_call 20; (with_reducible refine (HC2.out _ (by repeat (first | exact HBy.out | exact HBr.out | exact Below.refl _ _ | refine Below.drew ?_ | refine below_dN' ?_ _ | refine below_drewN' ?_ _))).mono ?_); rintro e w8 ⟨rfl, rfl⟩; go_wp2_with fail)
                        refine hK.out _ _ (by first | exact ⟨(HC.out _ (by repeat (first | exact HBy.out | exact HBr.out | exact Below.refl _ _ | refine Below.drew ?_ | refine below_dN' ?_ _ | refine below_drewN' ?_ _))).1, (HC.out _ (by repeat (first | exact HBy.out | exact HBr.out | exact Below.refl _ _ | refine Below.drew ?_ | refine below_dN' ?_ _ | refine below_drewN' ?_ _))).2, HU0.out _ (by repeat (first | exact HBy.out | exact HBr.out | exact Below.refl _ _ | refine Below.drew ?_ | refine below_dN' ?_ _ | refine below_drewN' ?_ _)), HU1.out _ (by repeat (first | exact HBy.out | exact HBr.out | exact Below.refl _ _ | refine Below.drew ?_ | refine below_dN' ?_ _ | refine below_drewN' ?_ _))⟩ | go_keep) (fun hHeldyB19 => ?_)
                        clear hK K hHeldyB8
                        try simp only [pt]
                        refine tkH (i := 20) (v := ?yB20v) (y := (Or.inl ⟨by rfl, ?yB20y⟩)) (h := ?yB20r)
                        case yB20y => (intro w hSw; (try dsimp only at hSw); go_simp; try (with_reducible rfl))
                        try simp only [pt]
                        refine tkH (i := 21) (v := ?yB21v) (y := (Or.inl ⟨by rfl, ?yB21y⟩)) (h := ?yB21r)
                        case yB21y => (intro w hSw; (try dsimp only at hSw); go_simp; try (with_reducible rfl))
                        try simp only [pt]
                        refine tkH (i := 22) (v := ?yB22v) (y := (Or.inl ⟨by rfl, ?yB22y⟩)) (h := ?yB22r)
                        case yB22y => (intro w hSw; (try dsimp only at hSw); go_simp; try (with_reducible rfl))
                        try simp only [pt]
                        refine tkH (i := 23) (v := _) (y := (Or.inr ⟨by rfl, rfl⟩)) (h := ?_)
                        try simp only [pt]
                        refine tkH (i := 24) (v := _) (y := (Or.inr ⟨by rfl, rfl⟩)) (h := ?_)
                        try simp only [pt]
                        refine tkH (i := 25) (v := _) (y := (Or.inr ⟨by rfl, rfl⟩)) (h := ?_)
                        try simp only [pt]
                        refine tkH (i := 26) (v := _) (y := (Or.inr ⟨by rfl, rfl⟩)) (h := ?_)
                        try simp only [pt]
                        refine tkH (i := 27) (v := _) (y := (Or.inr ⟨by rfl, rfl⟩)) (h := ?_)
                        try simp only [pt]
                        refine tkH (i := 28) (v := _) (y := (Or.inr ⟨by rfl, rfl⟩)) (h := ?_)
                        try simp only [pt]
                        refine tkH (i := 29) (v := _) (y := (Or.inr ⟨by rfl, rfl⟩)) (h := ?_)
                        try simp only [pt]
                        refine tkH (i := 30) (v := _) (y := (Or.inr ⟨by rfl, rfl⟩)) (h := ?_)
                        try simp only [pt]
                        refine tkH (i := 31) (v := _) (y := (Or.inr ⟨by rfl, rfl⟩)) (h := ?_)
                        try simp only [pt]
                        refine tkH (i := 32) (v := _) (y := (Or.inr ⟨by rfl, rfl⟩)) (h := ?_)
                        try simp only [pt]
                        refine tkH (i := 33) (v := _) (y := (Or.inr ⟨by rfl, rfl⟩)) (h := ?_)
                        try simp only [pt]
                        refine tkH (i := 34) (v := _) (y := (Or.inr ⟨by rfl, rfl⟩)) (h := ?_)
                        try simp only [pt]
                        refine tkH (i := 35) (v := ?yB35v) (y := (Or.inl ⟨by rfl, ?yB35y⟩)) (h := ?yB35r)
                        case yB35y => (intro w hSw; (try dsimp only at hSw); go_simp; try (with_reducible rfl))
                        try simp only [pt]
                        refine tkH (i := 36) (v := ?yB36v) (y := (Or.inl ⟨by rfl, ?yB36y⟩)) (h := ?yB36r)
                        case yB36y => (intro w hSw; (try dsimp only at hSw); go_simp; try (with_reducible rfl))
                        try simp only [pt]
                        refine wpAnyH_done (by kernel_rfl) ?_ _
                        go_wp2_with fail
                        go_ret
                        exact ⟨by rw [HF.out]; rfl, (by first | exact HB.out.trans (HBy.out.mono (Nat.le_add_right _ 2)) | exact (HB.out.trans (HBy.out.mono (Nat.le_add_right _ 2))).drew | exact (HB.out.trans (HBy.out.mono (Nat.le_add_right _ 2))).drew.drew)⟩
                      | false =>
                        rw [hch] at HC2 HF
                        rw [Bool.not_false, Bool.true_and] at HF
                        clear hch
                        obtain ⟨bp, op, pub, hAp, _, hgp, _⟩ := (HX.out wr HBr.out).2.1.2.at_ (k := R.hd.toNat) (by rw [HPL.out]; omega)
                        rw [getD_of hgp] at HF
                        have HPC : Hid (∀ V, Below (w.heap.size + 2) W1 V → V.cell? ⟨bp, op + R.hd.toNat, none⟩ = some (.string pub)) := fun V hv => by
                          obtain ⟨b3, o3, x3, e3, _, g3, k3⟩ := (HX.out V hv).2.1.2.at_ (k := R.hd.toNat) (by rw [HPL.out]; omega)
                          rw [hAp] at e3
                          cases e3
                          rw [hgp] at g3
                          cases g3
                          exact k3
                        have HRV := Lib.hid (HRV.out pub)
                        clear hgp
                        clear v0 v1 v2 v3 v4 v5 v6
                        refine wp_region_held_drew (S := (fun w' => w'.heap[w.heap.size]? = some (.cells (cVw x) 48 (0, 0)) ∧ w'.heap[w.heap.size + 1]? = some (.cells (cA d q R R.s R.ix no an) 50 (0, 0)) ∧ w'.cell? ⟨bv, ov + k * 15, none⟩ = some (.int .i64 u.num) ∧ w'.cell? ⟨bv, ov + k * 15 + 1, none⟩ = some (.slice u.wr.a u.wr.n u.wr.c) ∧ w'.cell? ⟨bp, op + R.hd.toNat, none⟩ = some (.string pub))) (by kernel_rfl) (by first | exact ⟨(HC.out _ (by repeat (first | exact HBy.out | exact HBr.out | exact Below.refl _ _ | refine Below.drew ?_ | refine below_dN' ?_ _ | refine below_drewN' ?_ _))).1, (HC.out _ (by repeat (first | exact HBy.out | exact HBr.out | exact Below.refl _ _ | refine Below.drew ?_ | refine below_dN' ?_ _ | refine below_drewN' ?_ _))).2, HU0.out _ (by repeat (first | exact HBy.out | exact HBr.out | exact Below.refl _ _ | refine Below.drew ?_ | refine below_dN' ?_ _ | refine below_drewN' ?_ _)), HU1.out _ (by repeat (first | exact HBy.out | exact HBr.out | exact Below.refl _ _ | refine Below.drew ?_ | refine below_dN' ?_ _ | refine below_drewN' ?_ _)), HPC.out _ (by repeat (first | exact HBy.out | exact HBr.out | exact Below.refl _ _ | refine Below.drew ?_ | refine below_dN' ?_ _ | refine below_drewN' ?_ _))⟩ | go_keep) (fun hHeld => ?_)
                        refine tkH (i := 0) (v := ?yC0v) (y := (Or.inl ⟨by rfl, ?yC0y⟩)) (h := ?yC0r)
                        case yC0y => (intro w hSw; (try dsimp only at hSw); go_simp; try (with_reducible rfl))
                        try simp only [pt]
                        refine tkH (i := 1) (v := ?yC1v) (y := (Or.inl ⟨by rfl, ?yC1y⟩)) (h := ?yC1r)
                        case yC1y => (intro w hSw; (try dsimp only at hSw); (obtain ⟨v0, v1, v2, v3, v4, v5, v6⟩ := cellsV hSw.1); go_simp; try (with_reducible rfl))
                        try simp only [pt]
                        refine tkH (i := 2) (v := ?yC2v) (y := (Or.inl ⟨by rfl, ?yC2y⟩)) (h := ?yC2r)
                        case yC2y => (intro w hSw; (try dsimp only at hSw); go_simp; try (with_reducible rfl))
                        try simp only [pt]
                        refine tkH (i := 3) (v := ?yC3v) (y := (Or.inl ⟨by rfl, ?yC3y⟩)) (h := ?yC3r)
                        case yC3y => (intro w hSw; (try dsimp only at hSw); go_simp; try (with_reducible rfl))
                        try simp only [pt]
                        refine tkH (i := 4) (v := ?yC4v) (y := (Or.inl ⟨by rfl, ?yC4y⟩)) (h := ?yC4r)
                        case yC4y => (intro w hSw; (try dsimp only at hSw); go_simp; try (with_reducible rfl))
                        try simp only [pt]
                        refine tkH (i := 5) (v := ?yC5v) (y := (Or.inl ⟨by rfl, ?yC5y⟩)) (h := ?yC5r)
                        case yC5y => (intro w hSw; (try dsimp only at hSw); (have hu1 := hSw.2.2.2.1); go_simp; try (with_reducible rfl))
                        try simp only [pt]
                        refine tkH (i := 6) (v := ?yC6v) (y := (Or.inl ⟨by rfl, ?yC6y⟩)) (h := ?yC6r)
                        case yC6y => (intro w hSw; (try dsimp only at hSw); go_simp; try (with_reducible rfl))
                        try simp only [pt]
                        refine tkH (i := 7) (v := ?yC7v) (y := (Or.inl ⟨by rfl, ?yC7y⟩)) (h := ?yC7r)
                        case yC7y => (intro w hSw; (try dsimp only at hSw); (obtain ⟨a0, a1, a2, a3, a4, a5⟩ := cellsA hSw.2.1); go_simp; try (with_reducible rfl))
                        try simp only [pt]
                        refine wpAnyH_ready (rs := [8]) (by kernel_rfl) (by simp) ?_
                        refine AllReadyH.cons (by simp only [List.getElem?_toArray, List.getElem?_cons_succ, List.getElem?_cons_zero]; rfl) (fun K hK => ?_) (AllReadyH.nil)
                        (go_simp; go_at_call 20; (with_reducible refine (HC1.out _ (by repeat (first | exact HBy.out | exact HBr.out | exact Below.refl _ _ | refine Below.drew ?_ | refine below_dN' ?_ _ | refine below_drewN' ?_ _))).mono ?_); rintro e w8 ⟨rfl, rfl⟩; go_wp2_with fail)
                        refine hK.out _ _ (by first | exact ⟨(HC.out _ (by repeat (first | exact HBy.out | exact HBr.out | exact Below.refl _ _ | refine Below.drew ?_ | refine below_dN' ?_ _ | refine below_drewN' ?_ _))).1, (HC.out _ (by repeat (first | exact HBy.out | exact HBr.out | exact Below.refl _ _ | refine Below.drew ?_ | refine below_dN' ?_ _ | refine below_drewN' ?_ _))).2, HU0.out _ (by repeat (first | exact HBy.out | exact HBr.out | exact Below.refl _ _ | refine Below.drew ?_ | refine below_dN' ?_ _ | refine below_drewN' ?_ _)), HU1.out _ (by repeat (first | exact HBy.out | exact HBr.out | exact Below.refl _ _ | refine Below.drew ?_ | refine below_dN' ?_ _ | refine below_drewN' ?_ _)), HPC.out _ (by repeat (first | exact HBy.out | exact HBr.out | exact Below.refl _ _ | refine Below.drew ?_ | refine below_dN' ?_ _ | refine below_drewN' ?_ _))⟩ | go_keep) (fun hHeldyC8 => ?_)
                        clear hK K hHeld
                        try simp only [pt]
                        refine tkH (i := 9) (v := ?yC9v) (y := (Or.inl ⟨by rfl, ?yC9y⟩)) (h := ?yC9r)
                        case yC9y => (intro w hSw; (try dsimp only at hSw); go_simp; try (with_reducible rfl))
                        try simp only [pt]
                        refine tkH (i := 10) (v := ?yC10v) (y := (Or.inl ⟨by rfl, ?yC10y⟩)) (h := ?yC10r)
                        case yC10y => (intro w hSw; (try dsimp only at hSw); go_simp; try (with_reducible rfl))
                        try simp only [pt]
                        refine tkH (i := 11) (v := ?yC11v) (y := (Or.inl ⟨by rfl, ?yC11y⟩)) (h := ?yC11r)
                        case yC11y => (intro w hSw; (try dsimp only at hSw); (obtain ⟨v0, v1, v2, v3, v4, v5, v6⟩ := cellsV hSw.1); go_simp; try (with_reducible rfl))
                        try simp only [pt]
                        refine tkH (i := 12) (v := ?yC12v) (y := (Or.inl ⟨by rfl, ?yC12y⟩)) (h := ?yC12r)
                        case yC12y => (intro w hSw; (try dsimp only at hSw); go_simp; try (with_reducible rfl))
                        try simp only [pt]
                        refine tkH (i := 13) (v := ?yC13v) (y := (Or.inl ⟨by rfl, ?yC13y⟩)) (h := ?yC13r)
                        case yC13y => (intro w hSw; (try dsimp only at hSw); go_simp; try (with_reducible rfl))
                        try simp only [pt]
                        refine tkH (i := 14) (v := ?yC14v) (y := (Or.inl ⟨by rfl, ?yC14y⟩)) (h := ?yC14r)
                        case yC14y => (intro w hSw; (try dsimp only at hSw); go_simp; try (with_reducible rfl))
                        try simp only [pt]
                        refine tkH (i := 15) (v := ?yC15v) (y := (Or.inl ⟨by rfl, ?yC15y⟩)) (h := ?yC15r)
                        case yC15y => (intro w hSw; (try dsimp only at hSw); (have hu1 := hSw.2.2.2.1); go_simp; try (with_reducible rfl))
                        try simp only [pt]
                        refine tkH (i := 16) (v := ?yC16v) (y := (Or.inl ⟨by rfl, ?yC16y⟩)) (h := ?yC16r)
                        case yC16y => (intro w hSw; (try dsimp only at hSw); go_simp; try (with_reducible rfl))
                        try simp only [pt]
                        refine tkH (i := 17) (v := ?yC17v) (y := (Or.inl ⟨by rfl, ?yC17y⟩)) (h := ?yC17r)
                        case yC17y => (intro w hSw; (try dsimp only at hSw); go_simp; try (with_reducible rfl))
                        try simp only [pt]
                        refine tkH (i := 18) (v := ?yC18v) (y := (Or.inl ⟨by rfl, ?yC18y⟩)) (h := ?yC18r)
                        case yC18y => (intro w hSw; (try dsimp only at hSw); (obtain ⟨a0, a1, a2, a3, a4, a5⟩ := cellsA hSw.2.1); go_simp; try (with_reducible rfl))
                        try simp only [pt]
                        refine wpAnyH_ready (rs := [19]) (by kernel_rfl) (by simp) ?_
                        refine AllReadyH.cons (by simp only [List.getElem?_toArray, List.getElem?_cons_succ, List.getElem?_cons_zero]; rfl) (fun K hK => ?_) (AllReadyH.nil)
                        (go_simp; go_at_call 20; (with_reducible refine (HC2.out _ (by repeat (first | exact HBy.out | exact HBr.out | exact Below.refl _ _ | refine Below.drew ?_ | refine below_dN' ?_ _ | refine below_drewN' ?_ _))).mono ?_); rintro e w8 ⟨rfl, rfl⟩; go_wp2_with fail)
                        refine hK.out _ _ (by first | exact ⟨(HC.out _ (by repeat (first | exact HBy.out | exact HBr.out | exact Below.refl _ _ | refine Below.drew ?_ | refine below_dN' ?_ _ | refine below_drewN' ?_ _))).1, (HC.out _ (by repeat (first | exact HBy.out | exact HBr.out | exact Below.refl _ _ | refine Below.drew ?_ | refine below_dN' ?_ _ | refine below_drewN' ?_ _))).2, HU0.out _ (by repeat (first | exact HBy.out | exact HBr.out | exact Below.refl _ _ | refine Below.drew ?_ | refine below_dN' ?_ _ | refine below_drewN' ?_ _)), HU1.out _ (by repeat (first | exact HBy.out | exact HBr.out | exact Below.refl _ _ | refine Below.drew ?_ | refine below_dN' ?_ _ | refine below_drewN' ?_ _)), HPC.out _ (by repeat (first | exact HBy.out | exact HBr.out | exact Below.refl _ _ | refine Below.drew ?_ | refine below_dN' ?_ _ | refine below_drewN' ?_ _))⟩ | go_keep) (fun hHeldyC19 => ?_)
                        clear hK K hHeldyC8
                        try simp only [pt]
                        refine tkH (i := 20) (v := ?yC20v) (y := (Or.inl ⟨by rfl, ?yC20y⟩)) (h := ?yC20r)
                        case yC20y => (intro w hSw; (try dsimp only at hSw); go_simp; try (with_reducible rfl))
                        try simp only [pt]
                        refine tkH (i := 21) (v := ?yC21v) (y := (Or.inl ⟨by rfl, ?yC21y⟩)) (h := ?yC21r)
                        case yC21y => (intro w hSw; (try dsimp only at hSw); go_simp; try (with_reducible rfl))
                        try simp only [pt]
                        refine tkH (i := 22) (v := ?yC22v) (y := (Or.inl ⟨by rfl, ?yC22y⟩)) (h := ?yC22r)
                        case yC22y => (intro w hSw; (try dsimp only at hSw); go_simp; try (with_reducible rfl))
                        try simp only [pt]
                        refine tkH (i := 23) (v := ?yC23v) (y := (Or.inl ⟨by rfl, ?yC23y⟩)) (h := ?yC23r)
                        case yC23y => (intro w hSw; (try dsimp only at hSw); go_simp; try (with_reducible rfl))
                        try simp only [pt]
                        refine tkH (i := 24) (v := ?yC24v) (y := (Or.inl ⟨by rfl, ?yC24y⟩)) (h := ?yC24r)
                        case yC24y => (intro w hSw; (try dsimp only at hSw); (obtain ⟨v0, v1, v2, v3, v4, v5, v6⟩ := cellsV hSw.1); go_simp; try (with_reducible rfl))
                        try simp only [pt]
                        refine tkH (i := 25) (v := ?yC25v) (y := (Or.inl ⟨by rfl, ?yC25y⟩)) (h := ?yC25r)
                        case yC25y => (intro w hSw; (try dsimp only at hSw); go_simp; try (with_reducible rfl))
                        try simp only [pt]
                        refine tkH (i := 26) (v := ?yC26v) (y := (Or.inl ⟨by rfl, ?yC26y⟩)) (h := ?yC26r)
                        case yC26y => (intro w hSw; (try dsimp only at hSw); go_simp; try (with_reducible rfl))
                        try simp only [pt]
                        refine tkH (i := 27) (v := ?yC27v) (y := (Or.inl ⟨by rfl, ?yC27y⟩)) (h := ?yC27r)
                        case yC27y => (intro w hSw; (try dsimp only at hSw); (obtain ⟨a0, a1, a2, a3, a4, a5⟩ := cellsA hSw.2.1); go_simp; try (with_reducible rfl))
                        try simp only [pt]
                        refine tkH (i := 28) (v := ?yC28v) (y := (Or.inl ⟨by rfl, ?yC28y⟩)) (h := ?yC28r)
                        case yC28y => (intro w hSw; (try dsimp only at hSw); go_simp; try (with_reducible rfl))
                        try simp only [pt]
                        refine tkH (i := 29) (v := ?yC29v) (y := (Or.inl ⟨by rfl, ?yC29y⟩)) (h := ?yC29r)
                        case yC29y => (intro w hSw; (try dsimp only at hSw); (have hp := hSw.2.2.2.2); go_simp; try (with_reducible rfl))
                        try simp only [pt]
                        refine tkH (i := 30) (v := ?yC30v) (y := (Or.inl ⟨by rfl, ?yC30y⟩)) (h := ?yC30r)
                        case yC30y => (intro w hSw; (try dsimp only at hSw); go_simp; try (with_reducible rfl))
                        try simp only [pt]
                        refine tkH (i := 31) (v := ?yC31v) (y := (Or.inl ⟨by rfl, ?yC31y⟩)) (h := ?yC31r)
                        case yC31y => (intro w hSw; (try dsimp only at hSw); (obtain ⟨v0, v1, v2, v3, v4, v5, v6⟩ := cellsV hSw.1); go_simp; try (with_reducible rfl))
                        try simp only [pt]
                        refine tkH (i := 32) (v := ?yC32v) (y := (Or.inl ⟨by rfl, ?yC32y⟩)) (h := ?yC32r)
                        case yC32y => (intro w hSw; (try dsimp only at hSw); go_simp; try (with_reducible rfl))
                        try simp only [pt]
                        refine tkH (i := 33) (v := _) (y := (yieldsIf_load_mid (by rfl) tR (.tmp 91) rfl (w.heap.size + 1) 2 (by rfl) (cR R).toList _ (fun _ h => rangeA2 h.2.1) Tryz.underlying35 rfl (sizeRL R))) (h := ?_)
                        try simp only [pt]
                        refine wpAnyH_ready (rs := [34]) (by kernel_rfl) (by simp) ?_
                        refine AllReadyH.cons (by simp only [List.getElem?_toArray, List.getElem?_cons_succ, List.getElem?_cons_zero]; rfl) (fun K hK => ?_) (AllReadyH.nil)
                        (go_simp; go_at_call 47; (with_reducible refine (HRV.out _ (by repeat (first | exact HBy.out | exact HBr.out | exact Below.refl _ _ | refine Below.drew ?_ | refine below_dN' ?_ _ | refine below_drewN' ?_ _))).mono ?_); rintro e w9 ⟨rfl, hb9⟩; (have HBy : Hid (Below (w.heap.size + 2) W1 w9) := Below.trans (B := w.heap.size + 2) (by repeat (first | exact HBy.out | exact HBr.out | exact Below.refl _ _ | refine Below.drew ?_ | refine below_dN' ?_ _ | refine below_drewN' ?_ _)) (Below.mono hb9 (HS.out ▸ HBr.out.size))); clear hb9; go_wp2_with fail)
                        refine hK.out _ _ (by first | exact ⟨(HC.out _ (by repeat (first | exact HBy.out | exact HBr.out | exact Below.refl _ _ | refine Below.drew ?_ | refine below_dN' ?_ _ | refine below_drewN' ?_ _))).1, (HC.out _ (by repeat (first | exact HBy.out | exact HBr.out | exact Below.refl _ _ | refine Below.drew ?_ | refine below_dN' ?_ _ | refine below_drewN' ?_ _))).2, HU0.out _ (by repeat (first | exact HBy.out | exact HBr.out | exact Below.refl _ _ | refine Below.drew ?_ | refine below_dN' ?_ _ | refine below_drewN' ?_ _)), HU1.out _ (by repeat (first | exact HBy.out | exact HBr.out | exact Below.refl _ _ | refine Below.drew ?_ | refine below_dN' ?_ _ | refine below_drewN' ?_ _)), HPC.out _ (by repeat (first | exact HBy.out | exact HBr.out | exact Below.refl _ _ | refine Below.drew ?_ | refine below_dN' ?_ _ | refine below_drewN' ?_ _))⟩ | go_keep) (fun hHeldyC34 => ?_)
                        clear hK K hHeldyC19
                        try simp only [pt]
                        refine tkH (i := 35) (v := ?yC35v) (y := (Or.inl ⟨by rfl, ?yC35y⟩)) (h := ?yC35r)
                        case yC35y => (intro w hSw; (try dsimp only at hSw); go_simp; try (with_reducible rfl))
                        try simp only [pt]
                        refine tkH (i := 36) (v := ?yC36v) (y := (Or.inl ⟨by rfl, ?yC36y⟩)) (h := ?yC36r)
                        case yC36y => (intro w hSw; (try dsimp only at hSw); go_simp; try (with_reducible rfl))
                        try simp only [pt]
                        refine wpAnyH_done (by kernel_rfl) ?_ _
                        go_wp2_with fail
                        go_ret
                        exact ⟨by rw [HF.out]; rfl, (by first | exact HB.out.trans (HBy.out.mono (Nat.le_add_right _ 2)) | exact (HB.out.trans (HBy.out.mono (Nat.le_add_right _ 2))).drew | exact (HB.out.trans (HBy.out.mono (Nat.le_add_right _ 2))).drew.drew)⟩
                  · have hnmI : (u.num == R.vt) = false := by simp [hnm]
                    have HM2 : Hid (∀ (j : Nat) (u : VtR), j < k + 1 → vs[j]? = some u → u.num ≠ R.vt) := fun j y hj h => by
                      rcases Nat.lt_or_ge j k with c | c
                      · exact HM.out j y c h
                      · obtain rfl : j = k := by omega
                        rw [hgu] at h; cases h; exact hnm
                    clear hgu hcu hu hnm
                    go_upto_region 6 with fail
                    refine wp_region_held_drew (S := (fun w' => w'.heap[w.heap.size]? = some (.cells (cVw x) 48 (0, 0)) ∧ w'.heap[w.heap.size + 1]? = some (.cells (cA d q R R.s R.ix no an) 50 (0, 0)) ∧ w'.cell? ⟨bv, ov + k * 15, none⟩ = some (.int .i64 u.num))) (by kernel_rfl) (by first | exact ⟨(HC.out _ (by repeat (first | exact HBy.out | exact HBr.out | exact Below.refl _ _ | refine Below.drew ?_ | refine below_dN' ?_ _ | refine below_drewN' ?_ _))).1, (HC.out _ (by repeat (first | exact HBy.out | exact HBr.out | exact Below.refl _ _ | refine Below.drew ?_ | refine below_dN' ?_ _ | refine below_drewN' ?_ _))).2, HU0.out _ (by repeat (first | exact HBy.out | exact HBr.out | exact Below.refl _ _ | refine Below.drew ?_ | refine below_dN' ?_ _ | refine below_drewN' ?_ _))⟩ | go_keep) (fun hHeld => ?_)
                    refine tkH (i := 0) (v := ?t0v) (y := (Or.inl ⟨by rfl, ?t0y⟩)) (h := ?t0r)
                    case t0y => (intro w hSw; (try dsimp only at hSw); go_simp; try (with_reducible rfl))
                    try simp only [pt]
                    refine tkH (i := 1) (v := ?t1v) (y := (Or.inl ⟨by rfl, ?t1y⟩)) (h := ?t1r)
                    case t1y => (intro w hSw; (try dsimp only at hSw); (obtain ⟨v0, v1, v2, v3, v4, v5, v6⟩ := cellsV hSw.1); go_simp; try (with_reducible rfl))
                    try simp only [pt]
                    refine tkH (i := 2) (v := ?t2v) (y := (Or.inl ⟨by rfl, ?t2y⟩)) (h := ?t2r)
                    case t2y => (intro w hSw; (try dsimp only at hSw); go_simp; try (with_reducible rfl))
                    try simp only [pt]
                    refine tkH (i := 3) (v := ?t3v) (y := (Or.inl ⟨by rfl, ?t3y⟩)) (h := ?t3r)
                    case t3y => (intro w hSw; (try dsimp only at hSw); go_simp; try (with_reducible rfl))
                    try simp only [pt]
                    refine tkH (i := 4) (v := ?t4v) (y := (Or.inl ⟨by rfl, ?t4y⟩)) (h := ?t4r)
                    case t4y => (intro w hSw; (try dsimp only at hSw); go_simp; try (with_reducible rfl))
                    try simp only [pt]
                    refine tkH (i := 5) (v := ?t5v) (y := (Or.inl ⟨by rfl, ?t5y⟩)) (h := ?t5r)
                    case t5y => (intro w hSw; (try dsimp only at hSw); (have hu0 := hSw.2.2); go_simp; try (with_reducible rfl))
                    try simp only [pt]
                    refine tkH (i := 6) (v := ?t6v) (y := (Or.inl ⟨by rfl, ?t6y⟩)) (h := ?t6r)
                    case t6y => (intro w hSw; (try dsimp only at hSw); go_simp; try (with_reducible rfl))
                    try simp only [pt]
                    refine tkH (i := 7) (v := ?t7v) (y := (Or.inl ⟨by rfl, ?t7y⟩)) (h := ?t7r)
                    case t7y => (intro w hSw; (try dsimp only at hSw); go_simp; try (with_reducible rfl))
                    try simp only [pt]
                    refine tkH (i := 8) (v := ?t8v) (y := (Or.inl ⟨by rfl, ?t8y⟩)) (h := ?t8r)
                    case t8y => (intro w hSw; (try dsimp only at hSw); (obtain ⟨a0, a1, a2, a3, a4, a5⟩ := cellsA hSw.2.1); go_simp; try (with_reducible rfl))
                    try simp only [pt]
                    refine tkH (i := 9) (v := ?t9v) (y := (Or.inl ⟨by rfl, ?t9y⟩)) (h := ?t9r)
                    case t9y => (intro w hSw; (try dsimp only at hSw); go_simp; try (with_reducible rfl))
                    try simp only [pt]
                    refine wpAnyH_done (by kernel_rfl) ?_ _
                    clear hAv
                    go_wp2_with fail
                    refine ⟨?rel, ?measure⟩
                    case rel => exact ⟨k + 1, by omega, by go_num, HM2, (by first | exact HBr | exact Lib.hid HBr.out.drew)⟩
                    case measure => (simp [intOf] <;> omega)
                · obtain rfl : x.V.n = k := by omega
                  have hfn : fiV R.vt vs = none := fiV_none (fun j u h => HM.out j u (by have := (List.getElem?_eq_some_iff.1 h).1; have := HVL.out; omega) h)
                  rw [hfn] at HF
                  have HF1 : Hid (cnB pubs x.b x.h vs d q R R.s R.ix no an ps qs rs = false) := HF
                  clear HF hfn
                  have HF := HF1
                  go_wp2
                  go_ret
                  exact ⟨by rw [HF.out]; rfl, HB.out.trans (HBr.out.mono (Nat.le_add_right _ 2))⟩
              -- END loop
          · rw [decide_eq_true h1, decide_eq_false h2, Bool.true_and, Bool.false_and] at HF
            subst h1
            have h2I : (tx == R.ix) = false := by simp [h2]
            go_enter Tryz.func13, Tryz.ntmps13
            go_upto_region 1 with fail
            rw [← HWE.out]
            go_wp2_with (first | (with_reducible refine wpList_load_mid_n (op := ⟨some 14, _, _, _, _, _⟩) (by kernel_rfl) tR (.tmp 13) rfl (w.heap.size + 1) 2 rfl (cR R).toList _ HR1.out Tryz.underlying35 rfl (sizeRL R) ?_) | (go_at_call 44; (with_reducible refine (HNU.out _).mono ?_); rintro e w5 ⟨rfl, rfl⟩) | (go_at_call 45; (with_reducible refine (HVA.out _ HB1.out).mono ?_); rintro e w6 ⟨rfl, hb6⟩; (have HBx : Hid (Below (w.heap.size + 2) W1 w6) := Below.mono hb6 (Nat.le_of_eq HS.out.symm)); clear hb6; clear a0 a1 a2 a3 a4 a5 a16 a17 a18 a19 v0 v1 v2 v3 v4 v5 v6; obtain ⟨a0, a1, a2, a3, a4, a5⟩ := cellsA (HC.out w6 HBx.out).2; obtain ⟨a16, a17, a18, a19⟩ := rangeA16 (HC.out w6 HBx.out).2; obtain ⟨v0, v1, v2, v3, v4, v5, v6⟩ := cellsV (HC.out w6 HBx.out).1) | (go_at_call 46; (with_reducible refine (HTK.out _).mono ?_); rintro e w7 ⟨rfl, hb7⟩; (have HB7 : Hid (Below (w.heap.size + 2) W1 w7) := HBx.out.trans (Below.mono hb7 (HS.out ▸ HBx.out.size))); clear hb7; clear a0 a1 a2 a3 a4 a5 a16 a17 a18 a19 v0 v1 v2 v3 v4 v5 v6; obtain ⟨a0, a1, a2, a3, a4, a5⟩ := cellsA (HC.out w7 HB7.out).2; obtain ⟨a16, a17, a18, a19⟩ := rangeA16 (HC.out w7 HB7.out).2; obtain ⟨v0, v1, v2, v3, v4, v5, v6⟩ := cellsV (HC.out w7 HB7.out).1))
            go_ret
            exact ⟨by rw [HF.out]; rfl, HB.out.trans (HB7.out.mono (Nat.le_add_right _ 2))⟩
        · rw [decide_eq_false h1, Bool.false_and] at HF
          (have h1t : ¬ st.toList = R.s.toList := fun h => h1 (by have := beqD st R.s; rw [decide_eq_false h1] at this; simp [h] at this)); (have h1I : (st.toList == R.s.toList) = false := by rw [← beqD, decide_eq_false h1]); (have h1D : decide (st.toList = R.s.toList) = false := by simp [h1t])
          go_enter Tryz.func13, Tryz.ntmps13
          go_upto_region 1 with fail
          rw [← HWE.out]
          go_wp2_with (first | (with_reducible refine wpList_load_mid_n (op := ⟨some 14, _, _, _, _, _⟩) (by kernel_rfl) tR (.tmp 13) rfl (w.heap.size + 1) 2 rfl (cR R).toList _ HR1.out Tryz.underlying35 rfl (sizeRL R) ?_) | (go_at_call 44; (with_reducible refine (HNU.out _).mono ?_); rintro e w5 ⟨rfl, rfl⟩) | (go_at_call 45; (with_reducible refine (HVA.out _ HB1.out).mono ?_); rintro e w6 ⟨rfl, hb6⟩; (have HBx : Hid (Below (w.heap.size + 2) W1 w6) := Below.mono hb6 (Nat.le_of_eq HS.out.symm)); clear hb6; clear a0 a1 a2 a3 a4 a5 a16 a17 a18 a19 v0 v1 v2 v3 v4 v5 v6; obtain ⟨a0, a1, a2, a3, a4, a5⟩ := cellsA (HC.out w6 HBx.out).2; obtain ⟨a16, a17, a18, a19⟩ := rangeA16 (HC.out w6 HBx.out).2; obtain ⟨v0, v1, v2, v3, v4, v5, v6⟩ := cellsV (HC.out w6 HBx.out).1) | (go_at_call 46; (with_reducible refine (HTK.out _).mono ?_); rintro e w7 ⟨rfl, hb7⟩; (have HB7 : Hid (Below (w.heap.size + 2) W1 w7) := HBx.out.trans (Below.mono hb7 (HS.out ▸ HBx.out.size))); clear hb7; clear a0 a1 a2 a3 a4 a5 a16 a17 a18 a19 v0 v1 v2 v3 v4 v5 v6; obtain ⟨a0, a1, a2, a3, a4, a5⟩ := cellsA (HC.out w7 HB7.out).2; obtain ⟨a16, a17, a18, a19⟩ := rangeA16 (HC.out w7 HB7.out).2; obtain ⟨v0, v1, v2, v3, v4, v5, v6⟩ := cellsV (HC.out w7 HB7.out).1))
          go_ret
          exact ⟨by rw [HF.out]; rfl, HB.out.trans (HB7.out.mono (Nat.le_add_right _ 2))⟩
end Go.Proofs.YtpdledjgbgalcaaGreatDoor
