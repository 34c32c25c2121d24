/- The law of accusations. -/
import Derived.Test.YtnfkjnmdfijhnaaGreatDoorZf
import Derived.Test.YtnfkjnmdfijhnaaGreatDoorS5
import Derived.Test.YtnfkjnmdfijhnaaGreatDoorSb
import Derived.Test.YtnfkjnmdfijhnaaGreatDoorSc
namespace Go.Proofs.YtnfkjnmdfijhnaaGreatDoor
open Go.RowKit Go.Lib
set_option linter.unusedVariables false
set_option linter.unusedSimpArgs false

theorem wpList_load_mid_g {P : Program} {ops : Array Oper} {rest : List Oper} {op : Oper} {a : Act} {w : World} {Q : Exit → Act → World → Prop} (hw : Region.wanted op (yielded ops a.tmps) = true) (ty : TypeId) (x : Operand) (ho : op.op = .load ty x)
    (b o : Nat) (hx : a.eval x = .pointer (some ⟨b, o, none⟩)) (cs : List Value) (d : TypeDesc) (hc : w.rangeAt b o cs)
    (hu : P.underlying ty = some d) (hd : d.isRow = true) (hi : (P.info? ty).map (·.size) = some cs.length)
    (h : wpList P ops Q rest (a.put op.dst (.agg cs.toArray)) w) : wpList P ops Q (op :: rest) a w :=
  BigFrame.wpList_want hw fun _ hK => wp_load_mid ty x ho b o hx cs d hc hu hd hi (hK _ _ h)
theorem wpList_built_g {P : Program} {ops : Array Oper} {rest : List Oper} {o : Oper} {a : Act} {w : World} {Q : Exit → Act → World → Prop} (hw : Region.wanted o (yielded ops a.tmps) = true) (t : TypeId) (parts : Array (Nat × Operand)) (ho : o.op = .build t parts) (cells : Array Value)
    (hf : P.built t (parts.map fun (i, x) => (i, a.eval x)).toList = some cells)
    (h : wpList P ops Q rest (a.put o.dst (.agg cells)) w) : wpList P ops Q (o :: rest) a w :=
  BigFrame.wpList_want hw fun _ hK => wp_build t parts ho (by rw [hf]; rfl) (hK _ _ (by rw [hf]; exact h))
def acP102 : Array (Nat × Operand) := #[(0, .tmp 98), (1, .tmp 99), (2, .tmp 100), (3, .tmp 101)]
set_option maxRecDepth 100000 in
theorem acB102 (a : Act) (d q : Int) (r : Rcp) (st : ByteArray) (ix : Int) (no an : ByteArray) (h0 : a.eval (.tmp 98) = .int .i64 d) (h1 : a.eval (.tmp 99) = .int .i64 q) (h2 : a.eval (.tmp 100) = .agg (cR r)) (h3 : a.eval (.tmp 101) = .agg #[.string st, .int .i64 ix, .string no, .string an]) : Tryz.prog.built 51 (acP102.map fun (i, x) => (i, a.eval x)).toList = some (cA d q r st ix no an) := by
  rw [Array.toList_map]
  show Tryz.prog.built 51 [(0, a.eval (.tmp 98)), (1, a.eval (.tmp 99)), (2, a.eval (.tmp 100)), (3, a.eval (.tmp 101))] = _
  rw [h0, h1, h2, h3]
  kernel_rfl

set_option maxRecDepth 100000 in
set_option maxHeartbeats 16000000 in
theorem accusations_any (r : Rcp) (st : ByteArray) (ix : Int) (no an : ByteArray) (dv sq k : Int) (B : Nat) (ps qs rs : List ByteArray) (w : World) (hG : Glob w) (hx : RcIn w B r ps qs rs) (hB : B ≤ w.heap.size) :
    Calls Tryz.prog 5 #[.agg (cR r), .agg #[.string st, .int .i64 ix, .string no, .string an], .int .i64 dv, .int .i64 sq, .int .i64 k] w fun e w' => e = .returned (.bool true) ∧ Below w.heap.size w w' := by
  obtain ⟨W1, hW1⟩ : ∃ W1 : World, W1 = (w.alloc (.cells (cR r) tR)).alloc (.cells #[.string st, .int .i64 ix, .string no, .string an] 37) := ⟨_, rfl⟩
  have hb1 : Below w.heap.size w W1 := by rw [hW1]; exact ((Below.refl _ _).alloc (Nat.le_refl _) _).alloc (by simp) _
  have hc1 : W1.heap[w.heap.size]? = some (.cells (cR r) tR (0, 0)) := by rw [hW1, Below.heap_alloc _ _ _ (by simp)]; exact heap_alloc_new w _
  have hc2 : W1.heap[w.heap.size + 1]? = some (.cells #[.string st, .int .i64 ix, .string no, .string an] 37 (0, 0)) := by
    rw [hW1]
    have := heap_alloc_new (w.alloc (.cells (cR r) tR)) (.cells #[.string st, .int .i64 ix, .string no, .string an] 37)
    simpa using this
  have HCR : Hid (∀ V, Below W1.heap.size W1 V → V.heap[w.heap.size]? = some (.cells (cR r) tR (0, 0))) := fun V hb => (hb.block _ (lt_of_block hc1)).trans hc1
  have HCT : Hid (∀ V, Below W1.heap.size W1 V → V.cell? ⟨w.heap.size + 1, 0, none⟩ = some (.string st) ∧ V.cell? ⟨w.heap.size + 1, 1, none⟩ = some (.int .i64 ix) ∧ V.cell? ⟨w.heap.size + 1, 2, none⟩ = some (.string no) ∧ V.cell? ⟨w.heap.size + 1, 3, none⟩ = some (.string an)) := fun V hb => by
    have h := (hb.block _ (lt_of_block hc2)).trans hc2
    refine ⟨?_, ?_, ?_, ?_⟩ <;> (rw [cell_of_row V _ _ _ _ _ h]; rfl)
  have HAw : Hid (∀ W, Below W1.heap.size W1 W → Calls Tryz.prog 6 #[] W fun e w' => e = .returned (.bool true) ∧ Below W.heap.size W w') := fun W hb => awake_any W ((hG.on hb1).on hb)
  have HXP : Hid (∀ V, Below W1.heap.size W1 V → RcIn V B r ps qs rs ∧ B ≤ V.heap.size) := fun V hb => ⟨hx.up (hb1.trans (hb.mono hb1.size)) hB, Nat.le_trans hB (Nat.le_trans hb1.size hb.size)⟩
  have HSo := Lib.hid (short_any r W1)
  have HR1 := Lib.hid (rangeR hc1)
  have HB1 := Lib.hid hb1
  have HWE := Lib.hid hW1
  have HBr : Hid (Below W1.heap.size W1 W1) := Below.refl _ _
  rw [hW1] at HSo
  clear hG hx hB hb1 hc1 hc2 hW1
  by_cases hsh : r.pa.n ≤ 20 ∧ r.pb.n ≤ 310 ∧ r.pc.n ≤ 20
  · rw [decide_eq_true hsh] at HSo
    have HEn := Lib.hid (fun W => entry_any dv sq W)
    have HVd : Hid (∀ V, Below W1.heap.size W1 V → Calls Tryz.prog 22 #[.agg (cR r)] V fun e w' => e = .returned (.bool (vaB r ps qs rs)) ∧ Below V.heap.size V w') := fun V hb => valid43_any r ps qs rs B V (HXP.out V hb).1 (HXP.out V hb).2 (by omega) (by omega) (by omega)
    have HTo := Lib.hid (fun W => token_any st ix no an W)
    have HEa : Hid (∀ V, Below W1.heap.size W1 V → Calls Tryz.prog 21 #[.agg (cR r), .agg #[.string st, .int .i64 ix, .string no, .string an]] V (EcPost r ps qs rs st ix no an V)) := fun V hb => eacc_any r ps qs rs st ix no an B V (HXP.out V hb).1 (HXP.out V hb).2
    unfold EcPost at HEa
    have hsh2 := hsh
    clear hsh
    cases hv : vaB r ps qs rs && tkB st ix no an
    · -- PART bad
      have HV := Lib.hid hv
      have HCb : Hid (∀ V, Below W1.heap.size W1 V → Calls Tryz.prog 21 #[.agg (cR r), .agg #[.string st, .int .i64 ix, .string no, .string an]] V fun e w' => e = .returned (.tuple #[.slice none 0 0, .int .i64 1]) ∧ Below V.heap.size V w') := fun V hb => (HEa.out V hb).mono (fun e w' h => by
        rcases h with ⟨hok, _⟩ | ⟨_, h⟩
        · rw [HV.out] at hok; cases hok
        · exact h)
      clear HEa
      cases hva : vaB r ps qs rs
      all_goals
        rw [hva] at HVd
        have htf : vaB r ps qs rs = true → tkB st ix no an = false := fun h => by have := HV.out; rw [h, Bool.true_and] at this; exact this
        rw [hva] at htf
        have HTf := Lib.hid htf
        have HTo2 : Hid (∀ W, true = vaB r ps qs rs → Calls Tryz.prog 23 #[.agg #[.string st, .int .i64 ix, .string no, .string an]] W fun e w' => e = .returned (.bool false) ∧ Below W.heap.size W w') := fun W h => by
          have h2 := HTf.out (hva.symm.trans h.symm)
          have := HTo.out W
          rw [h2] at this; exact this
        rw [hva] at HTo2
        clear hv hva htf HTo
        go_enter Tryz.func5, Tryz.ntmps5
        go_wp2_with (first
          | (with_reducible refine wpList_load_mid (op := ⟨some 15, _, _, _, _, _⟩) rfl tR (.tmp 5) rfl w.heap.size 0 rfl (cR r).toList _ (by rw [← HWE.out]; exact HR1.out) Tryz.underlying35 rfl (sizeRL r) ?_)
          | (with_reducible refine wpList_load_mid (op := ⟨some 20, _, _, _, _, _⟩) rfl tR (.tmp 5) rfl w.heap.size 0 rfl (cR r).toList _ HRs.out Tryz.underlying35 rfl (sizeRL r) ?_)
          | (with_reducible refine wpList_load_mid (op := ⟨some 25, _, _, _, _, _⟩) rfl tR (.tmp 5) rfl w.heap.size 0 rfl (cR r).toList _ HR2.out Tryz.underlying35 rfl (sizeRL r) ?_)
          | (go_at_call 20; (with_reducible refine HSo.out.mono ?_); rintro e Ws ⟨rfl, b⟩; rw [← HWE.out] at b; (have HBs := Lib.hid b); (have HRs := Lib.hid (rangeR (HCR.out _ b))); (obtain ⟨l0, l1, l2, l3⟩ := HCT.out _ b); clear b)
          | (go_at_call 21; (with_reducible refine (HCb.out _ HBs.out).mono ?_); rintro e W2 ⟨rfl, b⟩; (have HB2 : Hid (Below W1.heap.size W1 W2) := HBs.out.trans (b.mono HBs.out.size)); (have HR2 := Lib.hid (rangeR (HCR.out _ HB2.out))); clear b l0 l1 l2 l3)
          | (go_at_call 22; (with_reducible refine (HVd.out _ HB2.out).mono ?_); rintro e W4 ⟨rfl, b⟩; (have HB4 : Hid (Below W1.heap.size W1 W4) := HB2.out.trans (b.mono HB2.out.size)); (obtain ⟨l0, l1, l2, l3⟩ := HCT.out _ HB4.out); clear b)
          | (go_at_call 23; go_loud ((with_reducible refine (HTo2.out _ (by first | rfl | trivial)).mono ?_); rintro e W5 ⟨rfl, b⟩; (have HB5 : Hid (Below W1.heap.size W1 W5) := HB4.out.trans (b.mono HB4.out.size)); clear b))
          | (go_at_call 6; (with_reducible refine (HAw.out _ HB5.out).mono ?_); rintro e w3 ⟨rfl, hb3⟩; (have HB3 : Hid (Below W1.heap.size W1 w3) := HB5.out.trans (hb3.mono HB5.out.size)); clear hb3)
          | (go_at_call 6; (with_reducible refine (HAw.out _ HB4.out).mono ?_); rintro e w3 ⟨rfl, hb3⟩; (have HB3 : Hid (Below W1.heap.size W1 w3) := HB4.out.trans (hb3.mono HB4.out.size)); clear hb3))
        go_ret
        exact ⟨rfl, HB1.out.trans (HB3.out.mono HB1.out.size)⟩
      -- END bad
    · obtain ⟨hva, htk⟩ : vaB r ps qs rs = true ∧ tkB st ix no an = true := by simpa [Bool.and_eq_true] using hv
      obtain ⟨t1, ⟨t2, t3⟩, t4, t5⟩ := tkB_facts htk
      rw [hva] at HVd
      rw [htk] at HTo
      obtain ⟨ix, rfl⟩ : ∃ k : Nat, ix = k := ⟨ix.toNat, by omega⟩
      have HV := Lib.hid hv
      have HRD := Lib.hid (encAc_read (ix := ix) hva t1 (by omega) t4 t5)
      have HRR := Lib.hid (encRc_read hva)
      have HRE : Hid (∀ V, Below W1.heap.size W1 V → Calls Tryz.prog 24 #[.agg (cR r), .agg #[.string st, .int .i64 (ix : Int), .string no, .string an]] V (Slc fB (encAc r ps qs rs st ix no an) V)) := fun V hb => reac_any r ps qs rs st ix no an B V (HXP.out V hb).1 (HXP.out V hb).2 hva t1 (by omega) t4 t5
      have HLB : Hid (∀ b ∈ encAc r ps qs rs st ix no an, 0 ≤ b ∧ b < 256) := by
        show ∀ b ∈ _, _
        unfold encAc
        exact Byt.app (Byt.app (enc_rng _) (encRc_byt r ps qs rs)) (Byt.app (Byt.app (sB_rng _) (enc_rng _)) (Byt.app (sB_rng _) (sB_rng _)))
      have HLL : Hid ((encAc r ps qs rs st ix no an).length ≤ 1000000) := by
        show _ ≤ _
        unfold encAc
        have e1 := enc_len (encRc r ps qs rs).length
        have e2 := encRc_len hva
        have e3 := enc_len ix
        have e4 := sB_len st
        have e5 := sB_len no
        have e6 := sB_len an
        simp only [List.length_append]
        omega
      have HCo : Hid (∀ V, Below W1.heap.size W1 V → Calls Tryz.prog 21 #[.agg (cR r), .agg #[.string st, .int .i64 (ix : Int), .string no, .string an]] V (Slc2 fB (encAc r ps qs rs st ix no an) 0 V)) := fun V hb => (HEa.out V hb).mono (fun e w' h => by
        rcases h with ⟨_, h⟩ | ⟨hbad, _⟩
        · exact h
        · rw [HV.out] at hbad; cases hbad)
      obtain ⟨L, hL⟩ : ∃ L, L = encAc r ps qs rs st ix no an := ⟨_, rfl⟩
      rw [← hL] at HRD HRE HLB HLL HCo
      have HPA := Lib.hid HXP.out
      have HNS := Lib.hid hsh2
      clear HEa hv hva htk hL t1 t2 t3 t4 t5 HV
      go_enter Tryz.func5, Tryz.ntmps5
      go_upto_region 6 with (first
        | (with_reducible refine wpList_load_mid (op := ⟨some 15, _, _, _, _, _⟩) rfl tR (.tmp 5) rfl w.heap.size 0 rfl (cR r).toList _ (by rw [← HWE.out]; exact HR1.out) Tryz.underlying35 rfl (sizeRL r) ?_)
        | (with_reducible refine wpList_load_mid (op := ⟨some 20, _, _, _, _, _⟩) rfl tR (.tmp 5) rfl w.heap.size 0 rfl (cR r).toList _ HRs.out Tryz.underlying35 rfl (sizeRL r) ?_)
        | (with_reducible refine wpList_load_mid (op := ⟨some 25, _, _, _, _, _⟩) rfl tR (.tmp 5) rfl w.heap.size 0 rfl (cR r).toList _ HR2.out Tryz.underlying35 rfl (sizeRL r) ?_)
        | (go_at_call 20; (with_reducible refine HSo.out.mono ?_); rintro e Ws ⟨rfl, b⟩; rw [← HWE.out] at b; (have HBs := Lib.hid b); (have HRs := Lib.hid (rangeR (HCR.out _ b))); (obtain ⟨l0, l1, l2, l3⟩ := HCT.out _ b); clear b)
        | (go_at_call 21; (with_reducible refine (HCo.out _ HBs.out).mono ?_); rintro e W2 ⟨A1, n1, c1, rfl, hc2, hs2, b⟩; (have HB2 : Hid (Below W1.heap.size W1 W2) := HBs.out.trans (b.mono HBs.out.size)); (have HR2 := Lib.hid (rangeR (HCR.out _ HB2.out))); (have HS2 := Lib.hid hs2); clear b hc2 hs2 l0 l1 l2 l3)
        | (go_at_call 22; (with_reducible refine (HVd.out _ HB2.out).mono ?_); rintro e W4 ⟨rfl, b⟩; (have HB24 := Lib.hid b); (have HB4 : Hid (Below W1.heap.size W1 W4) := HB2.out.trans (b.mono HB2.out.size)); (obtain ⟨l0, l1, l2, l3⟩ := HCT.out _ HB4.out); clear b)
        | (go_at_call 23; (with_reducible refine (HTo.out _).mono ?_); rintro e W5 ⟨rfl, b⟩; (have HB25 : Hid (Below W2.heap.size W2 W5) := HB24.out.trans (b.mono HB24.out.size)); (have HB5 : Hid (Below W1.heap.size W1 W5) := HB4.out.trans (b.mono HB4.out.size)); clear b l0 l1 l2 l3))
      have HSV : Hid (∀ V, Below W5.heap.size W5 V → Sl fB V V.heap.size A1 n1 L) := fun V hb => (HS2.out.up (HB25.out.trans (hb.mono HB25.out.size)) (Nat.le_refl _)).more' (Nat.le_trans HB25.out.size hb.size)
      have HN1 : Hid (n1 ≤ 1000000) := by show _ ≤ _; have := HS2.out.1; have := HLL.out; omega
      have HK : Hid (∀ w', Below W5.heap.size W5 w' → (convert 24 9 (.slice A1 n1 c1)).run Tryz.prog w' = .ok (.string (baOf L)) w' ∧ w'.rangeAt w.heap.size 0 (cR r).toList ∧ (w'.cell? ⟨w.heap.size + 1, 0, none⟩ = some (.string st) ∧ w'.cell? ⟨w.heap.size + 1, 1, none⟩ = some (.int .i64 (ix : Int)) ∧ w'.cell? ⟨w.heap.size + 1, 2, none⟩ = some (.string no) ∧ w'.cell? ⟨w.heap.size + 1, 3, none⟩ = some (.string an))) := fun w' hb => ⟨run_conv_sl (P := Tryz.prog) 24 5 9 Tryz.underlying24 Tryz.underlying5 Tryz.underlying9 w' w'.heap.size A1 n1 c1 L (HSV.out _ hb), rangeR (HCR.out w' (HB5.out.trans (hb.mono HB5.out.size))), HCT.out w' (HB5.out.trans (hb.mono HB5.out.size))⟩
      have HRE5 : Hid (∀ W, Below W5.heap.size W5 W → Calls Tryz.prog 24 #[.agg (cR r), .agg #[.string st, .int .i64 (ix : Int), .string no, .string an]] W fun e w' => ∃ A' n' c', e = .returned (.slice A' n' c') ∧ Below W5.heap.size W5 w' ∧ (convert 24 9 (.slice A' n' c')).run Tryz.prog w' = .ok (.string (baOf L)) w') := fun W hb =>
        (HRE.out W (HB5.out.trans (hb.mono HB5.out.size))).mono (fun e w' h => by
          obtain ⟨A', n', c', h1, _, h3, h4⟩ := h
          exact ⟨A', n', c', h1, hb.trans (h4.mono hb.size), run_conv_sl (P := Tryz.prog) 24 5 9 Tryz.underlying24 Tryz.underlying5 Tryz.underlying9 w' w'.heap.size A' n' c' L h3⟩)
      have HBq : Hid (Below W5.heap.size W5 W5) := Below.refl _ _
      have k0 := HK.out W5 (Below.refl _ _)
      refine wp_region_held_drew (S := (fun w' => (convert 24 9 (.slice A1 n1 c1)).run Tryz.prog w' = .ok (.string (baOf L)) w' ∧ w'.rangeAt w.heap.size 0 (cR r).toList ∧ (w'.cell? ⟨w.heap.size + 1, 0, none⟩ = some (.string st) ∧ w'.cell? ⟨w.heap.size + 1, 1, none⟩ = some (.int .i64 (ix : Int)) ∧ w'.cell? ⟨w.heap.size + 1, 2, none⟩ = some (.string no) ∧ w'.cell? ⟨w.heap.size + 1, 3, none⟩ = some (.string an)))) (by kernel_rfl) (by first | exact HK.out _ HBq.out | exact HK.out _ (by repeat (first | exact Below.refl _ _ | exact HBq.out | refine Below.alloc ?_ (by simp <;> omega) _ | refine below_drewN' ?_ _ | refine below_drewN' (n := 1) ?_ _))) (fun hHeld => ?_)
      refine wpAnyH_take (i := 0) (v := ?r0v) (by simp only [List.getElem?_toArray, List.getElem?_cons_zero]; rfl) (by kernel_rfl) (by kernel_rfl) (by kernel_rfl) (by exact fun _ _ _ h => h) (Or.inl ⟨by rfl, ?r0y⟩) (by assumption) ?r0r
      case r0y => (intro w hSw; (try dsimp only at hSw); go_simp; try (with_reducible rfl))
      try simp only [Act.put, List.setIfInBounds_toArray, List.set_cons_zero, List.set_cons_succ]
      refine wpAnyH_take (i := 1) (v := ?r1v) (by simp only [List.getElem?_toArray, List.getElem?_cons_succ, List.getElem?_cons_zero]; rfl) (by kernel_rfl) (by kernel_rfl) (by kernel_rfl) (by exact fun _ _ _ h => h) (Or.inl ⟨by rfl, ?r1y⟩) (by assumption) ?r1r
      case r1y => (intro w hSw; (try dsimp only at hSw); go_simp; try (with_reducible rfl))
      try simp only [Act.put, List.setIfInBounds_toArray, List.set_cons_zero, List.set_cons_succ]
      refine wpAnyH_take (i := 2) (v := ?r2v) (by simp only [List.getElem?_toArray, List.getElem?_cons_succ, List.getElem?_cons_zero]; rfl) (by kernel_rfl) (by kernel_rfl) (by kernel_rfl) (by exact fun _ _ _ h => h) (Or.inl ⟨by rfl, ?r2y⟩) (by assumption) ?r2r
      case r2y => (intro w hSw; (try dsimp only at hSw); go_simp; try (with_reducible rfl))
      try simp only [Act.put, List.setIfInBounds_toArray, List.set_cons_zero, List.set_cons_succ]
      refine wpAnyH_take (i := 3) (v := ?r3v) (by simp only [List.getElem?_toArray, List.getElem?_cons_succ, List.getElem?_cons_zero]; rfl) (by kernel_rfl) (by kernel_rfl) (by kernel_rfl) (by exact fun _ _ _ h => h) (Or.inl ⟨by rfl, ?r3y⟩) (by assumption) ?r3r
      case r3y => (intro w hSw; (try dsimp only at hSw); go_simp; try (with_reducible rfl))
      try simp only [Act.put, List.setIfInBounds_toArray, List.set_cons_zero, List.set_cons_succ]
      refine wpAnyH_take (i := 4) (v := ?r4v) (by simp only [List.getElem?_toArray, List.getElem?_cons_succ, List.getElem?_cons_zero]; rfl) (by kernel_rfl) (by kernel_rfl) (by kernel_rfl) (by exact fun _ _ _ h => h) (Or.inl ⟨by rfl, ?r4y⟩) (by assumption) ?r4r
      case r4y => (intro w hSw; (try dsimp only at hSw); (have hSc := hSw.1); go_simp; try (with_reducible rfl))
      try simp only [Act.put, List.setIfInBounds_toArray, List.set_cons_zero, List.set_cons_succ]
      refine wpAnyH_take (i := 5) (v := _) (by simp only [List.getElem?_toArray, List.getElem?_cons_succ, List.getElem?_cons_zero]; rfl) (by kernel_rfl) (by kernel_rfl) (by kernel_rfl) (by exact fun _ _ _ h => h) (yieldsIf_load_mid (by rfl) tR (.tmp 5) rfl w.heap.size 0 (by rfl) (cR r).toList _ (fun _ h => h.2.1) Tryz.underlying35 rfl (sizeRL r)) (by assumption) ?_
      try simp only [Act.put, List.setIfInBounds_toArray, List.set_cons_zero, List.set_cons_succ]
      refine wpAnyH_take (i := 6) (v := ?r6v) (by simp only [List.getElem?_toArray, List.getElem?_cons_succ, List.getElem?_cons_zero]; rfl) (by kernel_rfl) (by kernel_rfl) (by kernel_rfl) (by exact fun _ _ _ h => h) (Or.inl ⟨by rfl, ?r6y⟩) (by assumption) ?r6r
      case r6y => (intro w hSw; (try dsimp only at hSw); (obtain ⟨_, _, hSa, hSb, hSd, hSe⟩ := hSw); go_simp; try (with_reducible rfl))
      try simp only [Act.put, List.setIfInBounds_toArray, List.set_cons_zero, List.set_cons_succ]
      refine wpAnyH_ready (rs := [7]) (by kernel_rfl) (by simp) ?_
      refine AllReadyH.cons (by simp only [List.getElem?_toArray, List.getElem?_cons_succ, List.getElem?_cons_zero]; rfl) (fun K hK => ?_) (AllReadyH.nil)
      (go_simp; go_at_call 24; (refine (HRE5.out _ ?_).mono ?_); (exact (by repeat (first | exact Below.refl _ _ | exact HBq.out | refine Below.alloc ?_ (by simp <;> omega) _ | refine below_drewN' ?_ _ | refine below_drewN' (n := 1) ?_ _))); rintro e w9 ⟨A9, n9, c9, rfl, hb9, k9⟩; (have HBq : Hid (Below W5.heap.size W5 w9) := hb9); clear hb9; go_wp2_with fail)
      refine hK.out _ _ (by first | exact HK.out _ HBq.out | exact HK.out _ (by repeat (first | exact Below.refl _ _ | exact HBq.out | refine Below.alloc ?_ (by simp <;> omega) _ | refine below_drewN' ?_ _ | refine below_drewN' (n := 1) ?_ _))) (fun hHeldr7 => ?_)
      clear hK K hHeld
      try simp only [Act.put, List.setIfInBounds_toArray, List.set_cons_zero, List.set_cons_succ]
      refine wpAnyH_ready (rs := [8]) (by kernel_rfl) (by simp) ?_
      refine AllReadyH.cons (by simp only [List.getElem?_toArray, List.getElem?_cons_succ, List.getElem?_cons_zero]; rfl) (fun K hK => ?_) (AllReadyH.nil)
      go_simp
      refine hK.out _ _ (by first | exact HK.out _ HBq.out | exact HK.out _ (by repeat (first | exact Below.refl _ _ | exact HBq.out | refine Below.alloc ?_ (by simp <;> omega) _ | refine below_drewN' ?_ _ | refine below_drewN' (n := 1) ?_ _))) (fun hHeldr8 => ?_)
      clear hK K hHeldr7
      try simp only [Act.put, List.setIfInBounds_toArray, List.set_cons_zero, List.set_cons_succ]
      refine wpAnyH_take (i := 9) (v := ?r9v) (by simp only [List.getElem?_toArray, List.getElem?_cons_succ, List.getElem?_cons_zero]; rfl) (by kernel_rfl) (by kernel_rfl) (by kernel_rfl) (by exact fun _ _ _ h => h) (Or.inl ⟨by rfl, ?r9y⟩) (by assumption) ?r9r
      case r9y => (intro w hSw; (try dsimp only at hSw); go_simp; try (with_reducible rfl))
      try simp only [Act.put, List.setIfInBounds_toArray, List.set_cons_zero, List.set_cons_succ]
      refine wpAnyH_take (i := 10) (v := ?r10v) (by simp only [List.getElem?_toArray, List.getElem?_cons_succ, List.getElem?_cons_zero]; rfl) (by kernel_rfl) (by kernel_rfl) (by kernel_rfl) (by exact fun _ _ _ h => h) (Or.inl ⟨by rfl, ?r10y⟩) (by assumption) ?r10r
      case r10y => (intro w hSw; (try dsimp only at hSw); go_simp; try (with_reducible rfl))
      try simp only [Act.put, List.setIfInBounds_toArray, List.set_cons_zero, List.set_cons_succ]
      refine wpAnyH_done (by kernel_rfl) ?_ _
      have HB59 : Hid (Below W5.heap.size W5 w9) := HBq.out
      have HB9 : Hid (Below W1.heap.size W1 w9) := HB5.out.trans (HBq.out.mono HB5.out.size)
      clear k0 k9
      by_cases hk : k = 6
      · subst hk
        cases h0 : numB dv sq
        · rw [h0] at HEn
          have HDo := Lib.hid (fun V (hb : Below W1.heap.size W1 V) => dacc_num dv sq 0 ⟨#[]⟩ A1 n1 c1 V h0)
          -- PART nonum
          go_upto_region 9 with (first
            | (go_at_call 13; (with_reducible refine (HDo.out _ HB9.out).mono ?_); rintro e W6e ⟨rfl, b⟩; (have HB6e : Hid (Below W1.heap.size W1 W6e) := HB9.out.trans (b.mono HB9.out.size)); (have HGN : Hid ((W6e.alloc (.cells zA 39)).heap[W6e.heap.size]? = some (.cells zA 39 (0, 0))) := heap_alloc_new W6e _); clear b)
            | ((with_reducible refine wpList_store_but (o := ⟨none, _, _, _, _, _⟩) rfl 39 (.tmp 13) (.tmp 61) rfl W6e.heap.size 39 _ _ rfl rfl HGN.out (zA_size) rfl (zA_one) ?_); intro W6 HQ6 HB6n))
          have h6e : Below W6e.heap.size W6e W6 := ((Below.refl _ W6e).alloc (Nat.le_refl _) (.cells zA 39)).trans (HB6n.out.below (by simp) (fun i hi => by subst hi; omega))
          have HB6 : Hid (Below W1.heap.size W1 W6) := HB6e.out.trans (h6e.mono HB6e.out.size)

          clear h6e HB6n HGN
          go_wp2_with (first
            | (go_at_call 8; (with_reducible refine (HEn.out _).mono ?_); rintro e w2 ⟨rfl, rfl⟩)
            | (go_at_call 6; (with_reducible refine (HAw.out _ HB6.out).mono ?_); rintro e w10 ⟨rfl, hb10⟩; (have HB10 : Hid (Below W1.heap.size W1 w10) := HB6.out.trans (hb10.mono HB6.out.size)); (have j1 : w10.cell? ⟨W6e.heap.size, 1, none⟩ = some (.int .i64 0) := cell_of_row w10 W6e.heap.size 1 _ _ _ ((hb10.block _ (lt_of_block HQ6.out)).trans HQ6.out)); clear hb10))
          go_ret
          exact ⟨ret_bool (by simp), HB1.out.trans (HB10.out.mono HB1.out.size)⟩
          -- END nonum
        · rw [h0] at HEn
          have HDo : Hid (∀ V, Below W5.heap.size W5 V → Calls Tryz.prog 13 #[.agg #[.int .i64 dv, .int .i64 sq, .int .i64 6, .int .i64 0, .slice A1 n1 c1, .string ⟨#[]⟩]] V fun e w' => ∃ a1 d1 a2 d2 a3 d3 R, R = { r with pa := ⟨a1, r.pa.n, d1⟩, pb := ⟨a2, r.pb.n, d2⟩, pc := ⟨a3, r.pc.n, d3⟩ } ∧ e = .returned (.tuple #[.agg (cA dv sq R st (ix : Int) no an), .int .i64 0]) ∧ RcO w' V.heap.size R ps qs rs ∧ Below V.heap.size V w') := fun V hb => (dacc_any dv sq 0 ⟨#[]⟩ A1 n1 c1 V.heap.size L V h0 (HSV.out V hb) (Nat.le_refl _) HN1.out HLB.out).mono (fun e w' h => by
            obtain ⟨q1, q2, q3, q4, q5⟩ := HRD.out
            obtain ⟨y1, y2, y3, y4, y5⟩ := HRR.out
            unfold DCPost at h
            rcases h with ⟨_, pa, pb, pc, e1, e2, e3⟩ | ⟨hbad, _⟩
            · rw [q2, q3, q4, q5, y2] at e1
              rw [q2, y2, y3, y4, y5] at e2
              obtain ⟨a1, m1, d1⟩ := pa
              obtain ⟨a2, m2, d2⟩ := pb
              obtain ⟨a3, m3, d3⟩ := pc
              have z1 := e2.1.slH.1
              have z2 := e2.2.1.slH.1
              have z3 := e2.2.2.slH.1
              have x := (HPA.out W1 HBr.out).1
              have x1 := x.1.1
              have x2 := x.2.1.1
              have x3 := x.2.2.1
              dsimp only at z1 z2 z3
              obtain rfl : m1 = r.pa.n := by omega
              obtain rfl : m2 = r.pb.n := by omega
              obtain rfl : m3 = r.pc.n := by omega
              exact ⟨a1, d1, a2, d2, a3, d3, _, rfl, e1, e2, e3⟩
            · rw [q1] at hbad; cases hbad)
          -- PART num
          go_upto_region 9 with (first
            | (go_at_call 13; (with_reducible refine (HDo.out _ HB59.out).mono ?_); rintro e W6e ⟨a1, d1, a2, d2, a3, d3, R, hR, rfl, ho, b⟩; (have HB6e : Hid (Below W1.heap.size W1 W6e) := HB9.out.trans (b.mono HB9.out.size)); (have HGN : Hid ((W6e.alloc (.cells zA 39)).heap[W6e.heap.size]? = some (.cells zA 39 (0, 0))) := heap_alloc_new W6e _); (have HRQ := Lib.hid hR); (have HO := Lib.hid ho); clear b hR ho)
            | ((with_reducible refine wpList_store_but (o := ⟨none, _, _, _, _, _⟩) rfl 39 (.tmp 13) (.tmp 61) rfl W6e.heap.size 39 _ _ rfl rfl HGN.out (cA_size dv sq R st (ix : Int) no an) rfl (cA_one dv sq R st (ix : Int) no an) ?_); intro W6 HQ6 HB6n))
          have h6e : Below W6e.heap.size W6e W6 := ((Below.refl _ W6e).alloc (Nat.le_refl _) (.cells zA 39)).trans (HB6n.out.below (by simp) (fun i hi => by subst hi; omega))
          have HB6 : Hid (Below W1.heap.size W1 W6) := HB6e.out.trans (h6e.mono HB6e.out.size)
          have HO6 : Hid (RcIn W6 W6.heap.size R ps qs rs) := ((RcO.rcIn HO.out).up h6e (Nat.le_refl _)).more h6e.size
          clear h6e HB6n HGN
          have HFin : Hid (∀ V, Below W6.heap.size W6 V → Calls Tryz.prog 15 #[.agg (cA dv sq R st (ix : Int) no an), .agg (cA dv sq r st (ix : Int) no an)] V fun e w' => e = .returned (.bool true) ∧ Below V.heap.size V w') := fun V hb => by
            have h1 := ((HO6.out.up hb (Nat.le_refl _)).more hb.size)
            have hV := HB6.out.trans (hb.mono HB6.out.size)
            have h2 := (HPA.out V hV).1.more (HPA.out V hV).2
            have hn := HNS.out
            rw [HRQ.out] at h1 ⊢
            exact same45_any dv sq { r with pa := ⟨a1, r.pa.n, d1⟩, pb := ⟨a2, r.pb.n, d2⟩, pc := ⟨a3, r.pc.n, d3⟩ } r.pa r.pb r.pc st (ix : Int) no an ps qs rs V.heap.size V h1 h2 (Nat.le_refl _) ⟨by show r.pa.n ≤ _; omega, by show r.pb.n ≤ _; omega, by show r.pc.n ≤ _; omega⟩
          clear HRQ HO HO6 HDo HB6e
          go_wp2_with (first
            | (go_at_call 8; (with_reducible refine (HEn.out _).mono ?_); rintro e w2 ⟨rfl, rfl⟩)
            | (go_at_call 6; (with_reducible refine (HAw.out _ HB6.out).mono ?_); rintro e w10 ⟨rfl, hb10⟩; (have HB10 : Hid (Below W1.heap.size W1 w10) := HB6.out.trans (hb10.mono HB6.out.size)); (have HR10 := Lib.hid (rangeR (HCR.out _ HB10.out))); (have HA10 := Lib.hid (rangeA ((hb10.block _ (lt_of_block HQ6.out)).trans HQ6.out))); (obtain ⟨l0, l1, l2, l3⟩ := HCT.out _ HB10.out); (have HSm := Lib.hid (HFin.out _ hb10)); clear hb10)
            | (with_reducible refine wpList_load_mid_g (op := ⟨some 97, _, _, _, _, _⟩) (by kernel_rfl) 39 (.tmp 13) rfl W6e.heap.size 0 rfl (cA dv sq R st (ix : Int) no an).toList _ HA10.out Tryz.underlying39 rfl (sizeAL dv sq R st (ix : Int) no an) ?_)
            | (with_reducible refine wpList_load_mid_g (op := ⟨some 100, _, _, _, _, _⟩) (by kernel_rfl) tR (.tmp 5) rfl w.heap.size 0 rfl (cR r).toList _ HR10.out Tryz.underlying35 rfl (sizeRL r) ?_)
            | (with_reducible refine wpList_built_g (o := ⟨some 102, _, _, _, _, _⟩) (by kernel_rfl) 51 acP102 (by kernel_rfl) (cA dv sq r st (ix : Int) no an) (acB102 _ dv sq r st (ix : Int) no an rfl rfl rfl rfl) ?_)
            | (go_at_call 15; (with_reducible refine HSm.out.mono ?_); rintro e w11 ⟨rfl, b⟩; (have HB11 : Hid (Below W1.heap.size W1 w11) := HB10.out.trans (b.mono HB10.out.size)); clear b))
          go_ret
          exact ⟨ret_bool (by simp), HB1.out.trans (HB11.out.mono HB1.out.size)⟩
          -- END num
      · have HDo := Lib.hid (fun V (hb : Below W1.heap.size W1 V) => dacc_no dv sq k 0 ⟨#[]⟩ A1 n1 c1 V hk)
        have hkb : (k != 6) = true := by simp [hk]
        -- PART other
        go_upto_region 9 with (first
          | (go_at_call 13; (with_reducible refine (HDo.out _ HB9.out).mono ?_); rintro e W6e ⟨rfl, b⟩; (have HB6e : Hid (Below W1.heap.size W1 W6e) := HB9.out.trans (b.mono HB9.out.size)); (have HGN : Hid ((W6e.alloc (.cells zA 39)).heap[W6e.heap.size]? = some (.cells zA 39 (0, 0))) := heap_alloc_new W6e _); clear b)
          | ((with_reducible refine wpList_store_but (o := ⟨none, _, _, _, _, _⟩) rfl 39 (.tmp 13) (.tmp 61) rfl W6e.heap.size 39 _ _ rfl rfl HGN.out (zA_size) rfl (zA_one) ?_); intro W6 HQ6 HB6n))
        have h6e : Below W6e.heap.size W6e W6 := ((Below.refl _ W6e).alloc (Nat.le_refl _) (.cells zA 39)).trans (HB6n.out.below (by simp) (fun i hi => by subst hi; omega))
        have HB6 : Hid (Below W1.heap.size W1 W6) := HB6e.out.trans (h6e.mono HB6e.out.size)

        clear h6e HB6n HGN
        go_wp2_with (first
          | (go_at_call 8; (with_reducible refine (HEn.out _).mono ?_); rintro e w2 ⟨rfl, rfl⟩)
          | (go_at_call 6; (with_reducible refine (HAw.out _ HB6.out).mono ?_); rintro e w10 ⟨rfl, hb10⟩; (have HB10 : Hid (Below W1.heap.size W1 w10) := HB6.out.trans (hb10.mono HB6.out.size)); (have j1 : w10.cell? ⟨W6e.heap.size, 1, none⟩ = some (.int .i64 0) := cell_of_row w10 W6e.heap.size 1 _ _ _ ((hb10.block _ (lt_of_block HQ6.out)).trans HQ6.out)); clear hb10))
        go_ret
        exact ⟨ret_bool (by simp), HB1.out.trans (HB10.out.mono HB1.out.size)⟩
        -- END other
  · rw [decide_eq_false hsh] at HSo
    clear hsh
    go_enter Tryz.func5, Tryz.ntmps5
    go_wp2_with (first
      | (with_reducible refine wpList_load_mid (op := ⟨some 15, _, _, _, _, _⟩) rfl tR (.tmp 5) rfl w.heap.size 0 rfl (cR r).toList _ (by rw [← HWE.out]; exact HR1.out) Tryz.underlying35 rfl (sizeRL r) ?_)
      | (go_at_call 20; (with_reducible refine HSo.out.mono ?_); rintro e Ws ⟨rfl, b⟩; rw [← HWE.out] at b; (have HBs := Lib.hid b); (have HRs := Lib.hid (rangeR (HCR.out _ b))); (obtain ⟨l0, l1, l2, l3⟩ := HCT.out _ b); clear b)
      | (go_at_call 6; (with_reducible refine (HAw.out _ HBs.out).mono ?_); rintro e w3 ⟨rfl, hb3⟩; (have HB3 : Hid (Below W1.heap.size W1 w3) := HBs.out.trans (hb3.mono HBs.out.size)); clear hb3))
    go_ret
    exact ⟨rfl, HB1.out.trans (HB3.out.mono HB1.out.size)⟩
end Go.Proofs.YtnfkjnmdfijhnaaGreatDoor
