/- readVault. -/
import Derived.Test.YtkeicjokekmkpaaGreatRi
import Derived.Test.YtkeicjokekmkpaaGreatMh
import Derived.LoopN
import Derived.BigRegion
namespace Go.Proofs.YtkeicjokekmkpaaGreat
open Go.RowKit Mb
set_option linter.unusedVariables false
set_option linter.unusedSimpArgs false

theorem rC_val {bs : List Int} {m : Nat} {s : RS} : ∃ cnt : Nat, (rC bs m s).1 = cnt ∧ cnt ≤ m := by
  have h0 := numF_nonneg bs 10 0 0 s.1
  unfold rC rV limF
  generalize numF bs 10 0 0 s.1 = N at *
  obtain ⟨v, e, q⟩ := N
  simp only at h0 ⊢
  by_cases h1 : s.2 = 0
  · rw [if_pos h1]
    by_cases h2 : e = 0
    · rw [if_pos h2]
      by_cases h3 : (m : Int) < v
      · rw [if_pos h3]; exact ⟨0, rfl, Nat.zero_le _⟩
      · rw [if_neg h3]; exact ⟨v.toNat, by simp only [if_true]; omega, by omega⟩
    · rw [if_neg h2]
      simp only [h2, if_false]
      exact ⟨0, rfl, Nat.zero_le _⟩
  · rw [if_neg h1]; exact ⟨0, rfl, Nat.zero_le _⟩
abbrev zVl : Vlt := ⟨0, [], 0, 0, 0, ⟨#[]⟩, 0, 0, 0, 0, 0, 0, 0, 0, 0⟩
/-- A vault that is being read: where it lies. -/
structure VB (w : World) (g : Nat) (A : Option Addr) (n c : Nat) (bs : List Int) (s : RS) (x : Vlt) (A1 : Option Addr) (n1 c1 : Nat) (wr : World) : Prop where
  rd : RdS g A n c bs s wr
  zero : wr.heap[w.heap.size]? = some (oV zVl none 0 0)
  vb : wr.heap[w.heap.size + 1]? = some (oV x A1 n1 c1)
  own : Own I 3 wr (w.heap.size + 2) (.slice A1 n1 c1) x.ws
  but : But (fun k => k = g) w wr
  lt : g < w.heap.size
section
variable {w wr w' : World} {g n c n1 c1 : Nat} {A A1 : Option Addr} {bs : List Int} {s s' : RS} {x : Vlt}
theorem VB.read (r : RdS g A n c bs s' w') (b : But (fun k => k = g) wr w') (h : VB w g A n c bs s x A1 n1 c1 wr) : VB w g A n c bs s' x A1 n1 c1 w' :=
  ⟨r, (b.block _ (lt_of_block h.zero) (by have := h.lt; omega)).trans h.zero, (b.block _ (lt_of_block h.vb) (by have := h.lt; omega)).trans h.vb,
    h.own.same fun k hk => b.block k (World.ownsRow.lt h.own k hk).2 (by have := (World.ownsRow.lt h.own k hk).1; have := h.lt; omega), h.but.trans b (fun i hi => .inl hi), h.lt⟩
theorem VB.on (h : VB w g A n c bs s x A1 n1 c1 wr) (hb : Below wr.heap.size wr w') : VB w g A n c bs s x A1 n1 c1 w' :=
  ⟨h.rd.on hb, (hb.block _ (lt_of_block h.zero)).trans h.zero, (hb.block _ (lt_of_block h.vb)).trans h.vb, h.own.on hb, h.but.trans (q := fun k => k = g) (But.of_below hb) (fun i hi => .inl hi), h.lt⟩
/-- A number is set. -/
theorem VB.set (h : VB w g A n c bs s x A1 n1 c1 wr) (j : Nat) (u : Value) (x' : Vlt) (hw : x'.ws = x.ws) (hx : (cV x A1 n1 c1).set! j u = cV x' A1 n1 c1) : VB w g A n c bs s x' A1 n1 c1 (wr.setCell ⟨w.heap.size + 1, j, none⟩ u) := by
  have hl := h.lt
  have hvb : (wr.setCell ⟨w.heap.size + 1, j, none⟩ u).heap[w.heap.size + 1]? = some (oV x' A1 n1 c1) := by
    have := heap_setCell_same wr (w.heap.size + 1) j _ _ u h.vb
    rw [this]
    show some (Obj.cells ((cV x A1 n1 c1).set! j u) _ (0, 0)) = _
    rw [hx]
  refine ⟨h.rd.set _ (by show g < w.heap.size + 1; omega) _, (heap_setCell_other _ _ _ _ (by show w.heap.size ≠ w.heap.size + 1; omega)).trans h.zero, hvb, ?_, h.but.setCell (.inr (by show _ ≤ w.heap.size + 1; omega)) _, hl⟩
  rw [hw]
  exact h.own.same fun k hk => heap_setCell_other _ _ _ _ (by have := (World.ownsRow.lt h.own k hk).1; show k ≠ w.heap.size + 1; omega)
theorem VB.grown (h : VB w g A n c bs s x A1 n1 c1 wr) (hg : wr.grownBy w' (Value.slice A1 n1 c1).ownBlock) : RdS g A n c bs s w' ∧ w'.heap[w.heap.size]? = some (oV zVl none 0 0) ∧ w'.heap[w.heap.size + 1]? = some (oV x A1 n1 c1) ∧ But (fun k => k = g) w w' := by
  have hl := h.lt
  have hne : ∀ k, k < w.heap.size + 2 → some k ≠ (Value.slice A1 n1 c1).ownBlock := fun k hk e => by
    have := (World.ownsRow.lt h.own k e.symm).1; omega
  have hb : But (fun k => (Value.slice A1 n1 c1).ownBlock = some k) wr w' := (But.refl _ wr).grown hg fun k hk => .inl hk
  refine ⟨h.rd.but hb (fun k hk e => hne k (by omega) e.symm), (hg.block _ (lt_of_block h.zero) (hne _ (by omega))).trans h.zero, (hg.block _ (lt_of_block h.vb) (hne _ (by omega))).trans h.vb, h.but.trans hb fun i hi => .inr ?_⟩
  have := (World.ownsRow.lt h.own i hi).1; omega
/-- A writer is appended. -/
theorem VB.app {w8 : World} {A8 : Option Addr} {n8 c8 : Nat} {z : Int} (h : VB w g A n c bs s x A1 n1 c1 wr) (hg : wr.grownBy w8 (Value.slice A1 n1 c1).ownBlock) (ho : Own I 3 w8 (w.heap.size + 2) (.slice A8 n8 c8) (x.ws ++ [z])) :
    VB w g A n c bs s { x with ws := x.ws ++ [z] } A8 n8 c8 (w8.setCell ⟨w.heap.size + 1, 1, none⟩ (.slice A8 n8 c8)) := by
  have hl := h.lt
  obtain ⟨h1, h2, h3, h4⟩ := h.grown hg
  refine ⟨h1.set _ (by show g < w.heap.size + 1; omega) _, (heap_setCell_other _ _ _ _ (by show w.heap.size ≠ w.heap.size + 1; omega)).trans h2, ?_, ?_, h4.setCell (.inr (by show _ ≤ w.heap.size + 1; omega)) _, hl⟩
  · exact heap_setCell_same w8 (w.heap.size + 1) 1 _ _ (.slice A8 n8 c8) h3
  · exact ho.same fun k hk => heap_setCell_other _ _ _ _ (by have := (World.ownsRow.lt ho k hk).1; show k ≠ w.heap.size + 1; omega)
end
theorem Tryz.sizeVi : (Tryz.prog.info? 68).map (·.size) = some 15 := by kernel_rfl
theorem Tryz.infoIi : (Tryz.prog.info? 3).map (fun i => (i.zero, i.size, i.bytes)) = some (some (.int .i64 0), 1, 8) := by kernel_rfl
/-- What readVault hands back. -/
def RVPost (g : Nat) (A : Option Addr) (n c : Nat) (bs : List Int) (x : Vlt) (s : RS) (w : World) (e : Ending) (w' : World) : Prop :=
  ∃ A1 c1, e = .returned (aV x A1 x.ws.length c1) ∧ Own I 3 w' w.heap.size (.slice A1 x.ws.length c1) x.ws ∧ RdS g A n c bs s w' ∧ But (fun k => k = g) w w'
set_option maxRecDepth 20000 in
set_option maxHeartbeats 8000000 in
theorem rvlt_any (g : Nat) (A : Option Addr) (n c : Nat) (bs : List Int) (s : RS) (d : Int) (w : World) (hr : RdS g A n c bs s w) (hk : RK bs n c) (hp : s.1 ≤ n) :
    Calls Tryz.prog 40 #[.pointer (some ⟨g, 0, none⟩), .int .i64 d] w (RVPost g A n c bs (decVt bs d s).1 (decVt bs d s).2 w) := by
  have hl := hr.len
  obtain ⟨W, hW⟩ : ∃ W : World, W = (w.alloc (oV zVl none 0 0)).alloc (oV { zVl with num := d } none 0 0) := ⟨_, rfl⟩
  have hBW : Below w.heap.size w W := by rw [hW]; exact ((Below.refl _ _).alloc (Nat.le_refl _) _).alloc (by simp) _
  have hV0 : VB w g A n c bs s { zVl with num := d } none 0 0 W := by
    refine ⟨hr.on hBW, ?_, ?_, Own.nil, But.of_below hBW, hr.lt⟩
    · rw [hW, Below.heap_alloc _ _ _ (by simp)]; exact heap_alloc_new w _
    · rw [hW]; have := heap_alloc_new (w.alloc (oV zVl none 0 0)) (oV { zVl with num := d } none 0 0); simpa using this
  have hlt := hr.lt
  have HC1 := Lib.hid (rc_any g A n c bs s 3 (by decide) W hV0.rd hk hp)
  have HV0 := Lib.hid hV0
  have HWE := Lib.hid hW
  have HD : Hid (decVt bs d s = decVt bs d s) := rfl
  have hp1 := rC_le (m := 3) hl hp
  obtain ⟨cnt, hcnt, hc3⟩ := rC_val (bs := bs) (m := 3) (s := s)
  obtain ⟨s1, e1⟩ : ∃ s', rC bs 3 s = ((cnt : Int), s') := ⟨(rC bs 3 s).2, by rw [← hcnt]⟩
  rw [e1] at HC1 hp1
  simp only at hp1
  have hpl : ∀ k, (decLs (fun _ => rI bs) s1 k).2.1 ≤ n := fun k => decLs_le (fun _ s h => rI_le hl h) hp1 k
  have HPL := Lib.hid hpl
  have HE1 := Lib.hid e1
  have HK := Lib.hid hk
  have HL := Lib.hid hl
  obtain ⟨x9, s9, e9⟩ : ∃ x s', decVt bs d s = (x, s') := ⟨_, _, rfl⟩
  have HE9 := Lib.hid e9
  rw [e9]
  obtain ⟨i0, hi, hz0, hz1, hz2⟩ := info_parts Tryz.infoIi
  have HI := Lib.hid hi
  have HZ0 := Lib.hid hz0
  have HZ1 := Lib.hid hz1
  have HZ2 := Lib.hid hz2
  clear hr hk hl hBW hV0 hW hcnt e1 hpl e9 HD hi hz0 hz1 hz2
  go_enter Tryz.func40, Tryz.ntmps40
  go_wp2_with fail
  rw [← HWE.out]
  refine HC1.out.mono ?_
  rintro e w1 ⟨rfl, r1, b1⟩
  have HV1 := Lib.hid (VB.read r1 b1 HV0.out)
  clear r1 b1
  go_wp2_with fail
  go_loopw [16] (fun i wr => ∃ (k : Nat) (A1 : Option Addr) (c1 : Nat), k ≤ cnt ∧ i = .int .i64 k ∧ Hid (VB w g A n c bs (decLs (fun _ => rI bs) s1 k).2 { zVl with num := d, ws := (decLs (fun _ => rI bs) s1 k).1 } A1 k c1 wr)) (fun i _ => cnt - (intOf i).toNat)
  case atStart => exact ⟨0, none, 0, Nat.zero_le _, rfl, HV1⟩
  case round =>
    obtain ⟨k, A1, c1, hk, rfl, HV⟩ := hrel
    have hln := decLs_len (fun _ => rI bs) s1 k
    obtain ⟨ws, s2, e2⟩ : ∃ x s', decLs (fun _ => rI bs) s1 k = (x, s') := ⟨_, _, rfl⟩
    have HE2 := Lib.hid e2
    have hp2 := HPL.out k
    rw [e2] at HV hln hp2
    simp only at HV hln hp2
    clear e2
    by_cases hlt2 : k < cnt
    · obtain ⟨z, s3, e3⟩ : ∃ x s', rI bs s2 = (x, s') := ⟨_, _, rfl⟩
      have HN3 : Hid (decLs (fun _ => rI bs) s1 (k + 1) = (ws ++ [z], s3)) := by show _ = _; rw [decLs, HE2.out]; simp only; rw [e3]
      have HRI : Hid (∀ V', Below wr.heap.size wr V' → Calls Tryz.prog 41 #[.pointer (some ⟨g, 0, none⟩)] V' (RPost g A n c bs (.int .i64 z) s3 V')) := fun V' h => by
        have := ri_any g A n c bs s2 V' (HV.out.on h).rd HK.out hp2
        rwa [e3] at this
      have HON : Hid (∀ V', Below wr.heap.size wr V' → VB w g A n c bs s2 { zVl with num := d, ws := ws } A1 k c1 V') := fun V' h => HV.out.on h
      have HL1 : Hid ((ws.length + [z].length) * 8 ≤ 140737488355328) := by show _ ≤ _; simp; omega
      have HL2 : Hid (ws.length + [z].length ≤ maxLen) := by show _ ≤ _; simp [maxLen]; omega
      have hc0 := cell_of_row wr (w.heap.size + 1) 1 _ _ _ HV.out.vb
      simp at hc0
      have hwl := lt_of_block HV.out.vb
      clear e3
      go_wp2_with fail
      go_region_law (first
        | (refine step_appO rfl (.tmp 19) (.tmp 22) 49 rfl 3 i0 (.int .i64 0) 8 Tryz.underlying49 HI.out HZ0.out HZ1.out HZ2.out rfl (.slice A1 k c1) ws (w.heap.size + 2) ?_ ?_ (some ⟨w6.heap.size, 0, none⟩) 1 1 (w6.heap.size + 1) [z] ?_ ?_ I1 HL1.out HL2.out ?_ ?_; (exact rfl); (exact HM7.out _ (by repeat (first | exact Below.refl _ _ | refine Below.alloc ?_ (by simp <;> omega) _ | refine Below.drew ?_ | refine below_dN' ?_ _))); (exact rfl); (exact ⟨rfl, SL.of_block (t := 3) (fr := (0, 0)) (heap_alloc_new _ _) (Nat.lt_succ_self _)⟩); (exact Nat.le_trans HB7.out (by simp)); (intro v8 w8 HO8 HG8 HV8; (obtain ⟨A8, c8, hv8, _, _, _⟩ := HO8.out.shape); (rw [List.length_append, List.length_singleton, hln] at hv8); subst hv8; (have HG : Hid (w6.grownBy w8 (Value.slice A1 k c1).ownBlock) := grown_from (by repeat (first | exact Below.refl _ _ | refine Below.alloc ?_ (by simp <;> omega) _ | refine Below.drew ?_ | refine below_dN' ?_ _)) HG8.out); (have hst := HST.out _ HG.out); (have hfr := HFR.out _ HG.out); clear HG8 HV8))
        | (go_simp; go_at_call 41; (refine (HRI.out _ (by repeat (first | exact Below.refl _ _ | refine Below.drew ?_ | refine below_dN' ?_ _))).mono ?_); rintro e w6 ⟨rfl, r6, b6⟩; (have HV6 := Lib.hid (VB.read r6 b6 (HON.out _ (by repeat (first | exact Below.refl _ _ | refine Below.drew ?_ | refine below_dN' ?_ _))))); (have hc6 := cell_of_row w6 (w.heap.size + 1) 1 _ _ _ HV6.out.vb); (simp at hc6); (have hlt6 : w.heap.size + 1 < w6.heap.size := lt_of_block HV6.out.vb); (have hne6 := World.new_ne w6 ⟨w.heap.size + 1, 1, none⟩ hc6); (have HM7 : Hid (∀ V, Below w6.heap.size w6 V → Own I 3 V (w.heap.size + 2) (.slice A1 k c1) ws) := fun V h => HV6.out.own.on h); (have HB7 : Hid (w.heap.size + 2 ≤ w6.heap.size) := (lt_of_block HV6.out.vb)); (have HST : Hid (∀ V, w6.grownBy V (Value.slice A1 k c1).ownBlock → V.cell? ⟨w.heap.size + 1, 1, none⟩ = some (.slice A1 k c1)) := fun V h => by rw [cell_of_row V (w.heap.size + 1) _ _ _ _ (HV6.out.grown h).2.2.1]; rfl); (have HFR : Hid (∀ V, w6.grownBy V (Value.slice A1 k c1).ownBlock → V.frozen? ⟨w.heap.size + 1, 1, none⟩ = false) := fun V h => frozen_of_row V (w.heap.size + 1) 1 _ _ (HV6.out.grown h).2.2.1); clear r6 b6; (try go_simp)))
      all_goals
        have HV9 := Lib.hid (VB.app HV6.out HG.out HO8.out)
        clear hst hfr
        go_wp2_with fail
        go_roundw
        case rel => exact ⟨k + 1, A8, c8, by omega, by go_num, by show VB _ _ _ _ _ _ _ _ _ _ _ _; rw [HN3.out]; exact HV9.out⟩
        case measure => simp [intOf]; omega
    · obtain rfl : cnt = k := by omega
      clear HC1 HV0 HV1 HWE hlt2
      obtain ⟨q0, t1, f0⟩ : ∃ x s', rI bs s2 = (x, s') := ⟨_, _, rfl⟩
      have g1 := rI_le HL.out hp2
      rw [f0] at g1
      simp only at g1
      obtain ⟨q1, t2, f1⟩ : ∃ x s', rI bs t1 = (x, s') := ⟨_, _, rfl⟩
      have g2 := rI_le HL.out g1
      rw [f1] at g2
      simp only at g2
      obtain ⟨q2, t3, f2⟩ : ∃ x s', rI bs t2 = (x, s') := ⟨_, _, rfl⟩
      have g3 := rI_le HL.out g2
      rw [f2] at g3
      simp only at g3
      obtain ⟨pr, t4, f3⟩ : ∃ x s', rS bs t3 = (x, s') := ⟨_, _, rfl⟩
      have g4 := rS_le HL.out g3
      rw [f3] at g4
      simp only at g4
      obtain ⟨q3, t5, f4⟩ : ∃ x s', rI bs t4 = (x, s') := ⟨_, _, rfl⟩
      have g5 := rI_le HL.out g4
      rw [f4] at g5
      simp only at g5
      obtain ⟨q4, t6, f5⟩ : ∃ x s', rI bs t5 = (x, s') := ⟨_, _, rfl⟩
      have g6 := rI_le HL.out g5
      rw [f5] at g6
      simp only at g6
      obtain ⟨q5, t7, f6⟩ : ∃ x s', rI bs t6 = (x, s') := ⟨_, _, rfl⟩
      have g7 := rI_le HL.out g6
      rw [f6] at g7
      simp only at g7
      obtain ⟨q6, t8, f7⟩ : ∃ x s', rI bs t7 = (x, s') := ⟨_, _, rfl⟩
      have g8 := rI_le HL.out g7
      rw [f7] at g8
      simp only at g8
      obtain ⟨q7, t9, f8⟩ : ∃ x s', rI bs t8 = (x, s') := ⟨_, _, rfl⟩
      have g9 := rI_le HL.out g8
      rw [f8] at g9
      simp only at g9
      obtain ⟨q8, t10, f9⟩ : ∃ x s', rI bs t9 = (x, s') := ⟨_, _, rfl⟩
      have g10 := rI_le HL.out g9
      rw [f9] at g10
      simp only at g10
      obtain ⟨q9, t11, f10⟩ : ∃ x s', rI bs t10 = (x, s') := ⟨_, _, rfl⟩
      have g11 := rI_le HL.out g10
      rw [f10] at g11
      simp only at g11
      obtain ⟨q10, t12, f11⟩ : ∃ x s', rI bs t11 = (x, s') := ⟨_, _, rfl⟩
      have g12 := rI_le HL.out g11
      rw [f11] at g12
      simp only at g12
      have hx9 : ((⟨d, ws, q0, q1, q2, pr, q3, q4, q5, q6, 0, q7, q8, q9, q10⟩ : Vlt), t12) = (x9, s9) := by
        rw [← HE9.out]
        unfold decVt
        simp only [HE1.out, Int.toNat_natCast, HE2.out, f0, f1, f2, f3, f4, f5, f6, f7, f8, f9, f10, f11]
      obtain ⟨hx9, hs9⟩ := Prod.mk.inj hx9
      have HX9 := Lib.hid hx9
      have HS9 := Lib.hid hs9
      clear hx9 hs9
      have F0 := Lib.hid f0
      clear f0
      have F1 := Lib.hid f1
      clear f1
      have F2 := Lib.hid f2
      clear f2
      have F3 := Lib.hid f3
      clear f3
      have F4 := Lib.hid f4
      clear f4
      have F5 := Lib.hid f5
      clear f5
      have F6 := Lib.hid f6
      clear f6
      have F7 := Lib.hid f7
      clear f7
      have F8 := Lib.hid f8
      clear f8
      have F9 := Lib.hid f9
      clear f9
      have F10 := Lib.hid f10
      clear f10
      have F11 := Lib.hid f11
      clear f11
      have HVx : Hid (VB w g A n c bs s2 (⟨d, ws, 0, 0, 0, ⟨#[]⟩, 0, 0, 0, 0, 0, 0, 0, 0, 0⟩ : Vlt) A1 cnt c1 wr) := HV.out
      have hwl := lt_of_block HV.out.vb
      have hgl := HV.out.lt
      clear HV
      obtain ⟨wrp, hX⟩ : ∃ V : World, V = wr.alloc (.cells #[.pointer (some ⟨w.heap.size + 1, 2, none⟩), .pointer (some ⟨w.heap.size + 1, 3, none⟩), .pointer (some ⟨w.heap.size + 1, 4, none⟩)] 145) := ⟨_, rfl⟩
      have hBX : Below wr.heap.size wr wrp := by rw [hX]; exact (Below.refl _ _).alloc (Nat.le_refl _) _
      have HPwrp : Hid (wrp.heap[wr.heap.size]? = some (.cells #[.pointer (some ⟨w.heap.size + 1, 2, none⟩), .pointer (some ⟨w.heap.size + 1, 3, none⟩), .pointer (some ⟨w.heap.size + 1, 4, none⟩)] 145 (0, 0))) := by show _ = _; rw [hX]; exact heap_alloc_new wr _
      have HVwrp := Lib.hid (HVx.out.on hBX)
      have HXwrp := Lib.hid hX
      have HXSwrp : Hid (wrp.heap.size = wr.heap.size + 1) := by show _ = _; rw [hX]; simp
      have hp1' : ¬ wr.heap.size = w.heap.size + 1 := by omega
      have hp2' : ¬ w.heap.size + 1 = wr.heap.size := by omega
      clear hX hBX HVx
      go_wp2_with fail
      refine wp_loop_rounds 4 ?_
      rw [rounds_succ]
      go_wp2_with fail
      rw [← HXwrp.out]
      have HR0 := Lib.hid (ri_any g A n c bs s2 wrp HVwrp.out.rd HK.out hp2)
      rw [F0.out] at HR0
      refine HR0.out.mono ?_
      rintro e y0 ⟨rfl, r, b⟩
      have HVy := Lib.hid (VB.read r b HVwrp.out)
      have HPy : Hid (y0.heap[wr.heap.size]? = some (.cells #[.pointer (some ⟨w.heap.size + 1, 2, none⟩), .pointer (some ⟨w.heap.size + 1, 3, none⟩), .pointer (some ⟨w.heap.size + 1, 4, none⟩)] 145 (0, 0))) := (b.block _ (lt_of_block HPwrp.out) (by omega)).trans HPwrp.out
      have hcc := cell_of_row y0 (w.heap.size + 1) 2 _ _ _ HVy.out.vb
      have hff := frozen_of_row y0 (w.heap.size + 1) 2 _ _ HVy.out.vb
      simp at hcc
      clear r b
      obtain ⟨z0, hZ⟩ : ∃ V : World, V = y0.setCell ⟨w.heap.size + 1, 2, none⟩ (.int .i64 q0) := ⟨_, rfl⟩
      have HVz0 : Hid (VB w g A n c bs t1 (⟨d, ws, q0, 0, 0, ⟨#[]⟩, 0, 0, 0, 0, 0, 0, 0, 0, 0⟩ : Vlt) A1 cnt c1 z0) := by rw [hZ]; exact VB.set HVy.out 2 (.int .i64 q0) _ rfl rfl
      have HXz0 := Lib.hid hZ
      have HPz0 : Hid (z0.heap[wr.heap.size]? = some (.cells #[.pointer (some ⟨w.heap.size + 1, 2, none⟩), .pointer (some ⟨w.heap.size + 1, 3, none⟩), .pointer (some ⟨w.heap.size + 1, 4, none⟩)] 145 (0, 0))) := by show _ = _; rw [hZ]; exact (heap_setCell_other _ _ _ _ (by show wr.heap.size ≠ w.heap.size + 1; omega)).trans HPy.out
      clear hZ
      have hq0 := cell_of_row y0 (wr.heap.size) 0 _ _ _ HPy.out
      simp at hq0
      have hq1 := cell_of_row y0 (wr.heap.size) 1 _ _ _ HPy.out
      simp at hq1
      have hq2 := cell_of_row y0 (wr.heap.size) 2 _ _ _ HPy.out
      simp at hq2
      go_wp2_with fail
      rw [rounds_succ]
      go_wp2_with fail
      rw [← HXz0.out]
      clear hcc hff HVy HPy hq0 hq1 hq2
      have HR1 := Lib.hid (ri_any g A n c bs t1 z0 HVz0.out.rd HK.out g1)
      rw [F1.out] at HR1
      refine HR1.out.mono ?_
      rintro e y1 ⟨rfl, r, b⟩
      have HVy := Lib.hid (VB.read r b HVz0.out)
      have HPy : Hid (y1.heap[wr.heap.size]? = some (.cells #[.pointer (some ⟨w.heap.size + 1, 2, none⟩), .pointer (some ⟨w.heap.size + 1, 3, none⟩), .pointer (some ⟨w.heap.size + 1, 4, none⟩)] 145 (0, 0))) := (b.block _ (lt_of_block HPz0.out) (by omega)).trans HPz0.out
      have hcc := cell_of_row y1 (w.heap.size + 1) 3 _ _ _ HVy.out.vb
      have hff := frozen_of_row y1 (w.heap.size + 1) 3 _ _ HVy.out.vb
      simp at hcc
      clear r b
      obtain ⟨z1, hZ⟩ : ∃ V : World, V = y1.setCell ⟨w.heap.size + 1, 3, none⟩ (.int .i64 q1) := ⟨_, rfl⟩
      have HVz1 : Hid (VB w g A n c bs t2 (⟨d, ws, q0, q1, 0, ⟨#[]⟩, 0, 0, 0, 0, 0, 0, 0, 0, 0⟩ : Vlt) A1 cnt c1 z1) := by rw [hZ]; exact VB.set HVy.out 3 (.int .i64 q1) _ rfl rfl
      have HXz1 := Lib.hid hZ
      have HPz1 : Hid (z1.heap[wr.heap.size]? = some (.cells #[.pointer (some ⟨w.heap.size + 1, 2, none⟩), .pointer (some ⟨w.heap.size + 1, 3, none⟩), .pointer (some ⟨w.heap.size + 1, 4, none⟩)] 145 (0, 0))) := by show _ = _; rw [hZ]; exact (heap_setCell_other _ _ _ _ (by show wr.heap.size ≠ w.heap.size + 1; omega)).trans HPy.out
      clear hZ
      have hq0 := cell_of_row y1 (wr.heap.size) 0 _ _ _ HPy.out
      simp at hq0
      have hq1 := cell_of_row y1 (wr.heap.size) 1 _ _ _ HPy.out
      simp at hq1
      have hq2 := cell_of_row y1 (wr.heap.size) 2 _ _ _ HPy.out
      simp at hq2
      go_wp2_with fail
      rw [rounds_succ]
      go_wp2_with fail
      rw [← HXz1.out]
      clear hcc hff HVy HPy hq0 hq1 hq2
      have HR2 := Lib.hid (ri_any g A n c bs t2 z1 HVz1.out.rd HK.out g2)
      rw [F2.out] at HR2
      refine HR2.out.mono ?_
      rintro e y2 ⟨rfl, r, b⟩
      have HVy := Lib.hid (VB.read r b HVz1.out)
      have HPy : Hid (y2.heap[wr.heap.size]? = some (.cells #[.pointer (some ⟨w.heap.size + 1, 2, none⟩), .pointer (some ⟨w.heap.size + 1, 3, none⟩), .pointer (some ⟨w.heap.size + 1, 4, none⟩)] 145 (0, 0))) := (b.block _ (lt_of_block HPz1.out) (by omega)).trans HPz1.out
      have hcc := cell_of_row y2 (w.heap.size + 1) 4 _ _ _ HVy.out.vb
      have hff := frozen_of_row y2 (w.heap.size + 1) 4 _ _ HVy.out.vb
      simp at hcc
      clear r b
      obtain ⟨z2, hZ⟩ : ∃ V : World, V = y2.setCell ⟨w.heap.size + 1, 4, none⟩ (.int .i64 q2) := ⟨_, rfl⟩
      have HVz2 : Hid (VB w g A n c bs t3 (⟨d, ws, q0, q1, q2, ⟨#[]⟩, 0, 0, 0, 0, 0, 0, 0, 0, 0⟩ : Vlt) A1 cnt c1 z2) := by rw [hZ]; exact VB.set HVy.out 4 (.int .i64 q2) _ rfl rfl
      have HXz2 := Lib.hid hZ
      have HPz2 : Hid (z2.heap[wr.heap.size]? = some (.cells #[.pointer (some ⟨w.heap.size + 1, 2, none⟩), .pointer (some ⟨w.heap.size + 1, 3, none⟩), .pointer (some ⟨w.heap.size + 1, 4, none⟩)] 145 (0, 0))) := by show _ = _; rw [hZ]; exact (heap_setCell_other _ _ _ _ (by show wr.heap.size ≠ w.heap.size + 1; omega)).trans HPy.out
      clear hZ
      have hq0 := cell_of_row y2 (wr.heap.size) 0 _ _ _ HPy.out
      simp at hq0
      have hq1 := cell_of_row y2 (wr.heap.size) 1 _ _ _ HPy.out
      simp at hq1
      have hq2 := cell_of_row y2 (wr.heap.size) 2 _ _ _ HPy.out
      simp at hq2
      go_wp2_with fail
      rw [rounds_succ]
      go_wp2_with fail
      rw [← HXz2.out]
      have HR3 := Lib.hid (rs_any g A n c bs t3 z2 HVz2.out.rd HK.out g3)
      rw [F3.out] at HR3
      refine HR3.out.mono ?_
      rintro e y3 ⟨rfl, r, b⟩
      have HVy := Lib.hid (VB.read r b HVz2.out)
      have hcc := cell_of_row y3 (w.heap.size + 1) 5 _ _ _ HVy.out.vb
      have hff := frozen_of_row y3 (w.heap.size + 1) 5 _ _ HVy.out.vb
      simp at hcc
      clear r b
      obtain ⟨z3, hZ⟩ : ∃ V : World, V = y3.setCell ⟨w.heap.size + 1, 5, none⟩ (.string pr) := ⟨_, rfl⟩
      have HVz3 : Hid (VB w g A n c bs t4 (⟨d, ws, q0, q1, q2, pr, 0, 0, 0, 0, 0, 0, 0, 0, 0⟩ : Vlt) A1 cnt c1 z3) := by rw [hZ]; exact VB.set HVy.out 5 (.string pr) _ rfl rfl
      have HXz3 := Lib.hid hZ
      clear hZ
      go_wp2_with fail
      rw [← HXz3.out]
      clear hcc hff HVy HPy hq0 hq1 hq2
      go_region
      clear hp1' hp2'
      have hwl3 := lt_of_block HVz3.out.vb
      obtain ⟨z3p, hX⟩ : ∃ V : World, V = (z3.alloc (.cells #[.pointer (some ⟨w.heap.size + 1, 6, none⟩), .pointer (some ⟨w.heap.size + 1, 7, none⟩), .pointer (some ⟨w.heap.size + 1, 8, none⟩), .pointer (some ⟨w.heap.size + 1, 9, none⟩), .pointer (some ⟨w.heap.size + 1, 11, none⟩), .pointer (some ⟨w.heap.size + 1, 12, none⟩), .pointer (some ⟨w.heap.size + 1, 13, none⟩), .pointer (some ⟨w.heap.size + 1, 14, none⟩)] 145)).drew := ⟨_, rfl⟩
      have hBX : Below z3.heap.size z3 z3p := by rw [hX]; exact ((Below.refl _ _).alloc (Nat.le_refl _) _).drew
      have HPz3p : Hid (z3p.heap[z3.heap.size]? = some (.cells #[.pointer (some ⟨w.heap.size + 1, 6, none⟩), .pointer (some ⟨w.heap.size + 1, 7, none⟩), .pointer (some ⟨w.heap.size + 1, 8, none⟩), .pointer (some ⟨w.heap.size + 1, 9, none⟩), .pointer (some ⟨w.heap.size + 1, 11, none⟩), .pointer (some ⟨w.heap.size + 1, 12, none⟩), .pointer (some ⟨w.heap.size + 1, 13, none⟩), .pointer (some ⟨w.heap.size + 1, 14, none⟩)] 145 (0, 0))) := by show _ = _; rw [hX]; exact heap_alloc_new z3 _
      have HVz3p := Lib.hid (HVz3.out.on hBX)
      have HXz3p := Lib.hid hX
      have HXSz3p : Hid (z3p.heap.size = z3.heap.size + 1) := by show _ = _; rw [hX]; simp
      have hp1' : ¬ z3.heap.size = w.heap.size + 1 := by omega
      have hp2' : ¬ w.heap.size + 1 = z3.heap.size := by omega
      clear hX hBX
      go_wp2_with fail
      refine wp_loop_rounds 9 ?_
      rw [rounds_succ]
      go_wp2_with fail
      rw [← HXz3p.out]
      have HR4 := Lib.hid (ri_any g A n c bs t4 z3p HVz3p.out.rd HK.out g4)
      rw [F4.out] at HR4
      refine HR4.out.mono ?_
      rintro e y4 ⟨rfl, r, b⟩
      have HVy := Lib.hid (VB.read r b HVz3p.out)
      have HPy : Hid (y4.heap[z3.heap.size]? = some (.cells #[.pointer (some ⟨w.heap.size + 1, 6, none⟩), .pointer (some ⟨w.heap.size + 1, 7, none⟩), .pointer (some ⟨w.heap.size + 1, 8, none⟩), .pointer (some ⟨w.heap.size + 1, 9, none⟩), .pointer (some ⟨w.heap.size + 1, 11, none⟩), .pointer (some ⟨w.heap.size + 1, 12, none⟩), .pointer (some ⟨w.heap.size + 1, 13, none⟩), .pointer (some ⟨w.heap.size + 1, 14, none⟩)] 145 (0, 0))) := (b.block _ (lt_of_block HPz3p.out) (by omega)).trans HPz3p.out
      have hcc := cell_of_row y4 (w.heap.size + 1) 6 _ _ _ HVy.out.vb
      have hff := frozen_of_row y4 (w.heap.size + 1) 6 _ _ HVy.out.vb
      simp at hcc
      clear r b
      obtain ⟨z4, hZ⟩ : ∃ V : World, V = y4.setCell ⟨w.heap.size + 1, 6, none⟩ (.int .i64 q3) := ⟨_, rfl⟩
      have HVz4 : Hid (VB w g A n c bs t5 (⟨d, ws, q0, q1, q2, pr, q3, 0, 0, 0, 0, 0, 0, 0, 0⟩ : Vlt) A1 cnt c1 z4) := by rw [hZ]; exact VB.set HVy.out 6 (.int .i64 q3) _ rfl rfl
      have HXz4 := Lib.hid hZ
      have HPz4 : Hid (z4.heap[z3.heap.size]? = some (.cells #[.pointer (some ⟨w.heap.size + 1, 6, none⟩), .pointer (some ⟨w.heap.size + 1, 7, none⟩), .pointer (some ⟨w.heap.size + 1, 8, none⟩), .pointer (some ⟨w.heap.size + 1, 9, none⟩), .pointer (some ⟨w.heap.size + 1, 11, none⟩), .pointer (some ⟨w.heap.size + 1, 12, none⟩), .pointer (some ⟨w.heap.size + 1, 13, none⟩), .pointer (some ⟨w.heap.size + 1, 14, none⟩)] 145 (0, 0))) := by show _ = _; rw [hZ]; exact (heap_setCell_other _ _ _ _ (by show z3.heap.size ≠ w.heap.size + 1; omega)).trans HPy.out
      clear hZ
      have hq0 := cell_of_row y4 (z3.heap.size) 0 _ _ _ HPy.out
      simp at hq0
      have hq1 := cell_of_row y4 (z3.heap.size) 1 _ _ _ HPy.out
      simp at hq1
      have hq2 := cell_of_row y4 (z3.heap.size) 2 _ _ _ HPy.out
      simp at hq2
      have hq3 := cell_of_row y4 (z3.heap.size) 3 _ _ _ HPy.out
      simp at hq3
      have hq4 := cell_of_row y4 (z3.heap.size) 4 _ _ _ HPy.out
      simp at hq4
      have hq5 := cell_of_row y4 (z3.heap.size) 5 _ _ _ HPy.out
      simp at hq5
      have hq6 := cell_of_row y4 (z3.heap.size) 6 _ _ _ HPy.out
      simp at hq6
      have hq7 := cell_of_row y4 (z3.heap.size) 7 _ _ _ HPy.out
      simp at hq7
      go_wp2_with fail
      rw [rounds_succ]
      go_wp2_with fail
      rw [← HXz4.out]
      clear hcc hff HVy HPy hq0 hq1 hq2 hq3 hq4 hq5 hq6 hq7
      have HR5 := Lib.hid (ri_any g A n c bs t5 z4 HVz4.out.rd HK.out g5)
      rw [F5.out] at HR5
      refine HR5.out.mono ?_
      rintro e y5 ⟨rfl, r, b⟩
      have HVy := Lib.hid (VB.read r b HVz4.out)
      have HPy : Hid (y5.heap[z3.heap.size]? = some (.cells #[.pointer (some ⟨w.heap.size + 1, 6, none⟩), .pointer (some ⟨w.heap.size + 1, 7, none⟩), .pointer (some ⟨w.heap.size + 1, 8, none⟩), .pointer (some ⟨w.heap.size + 1, 9, none⟩), .pointer (some ⟨w.heap.size + 1, 11, none⟩), .pointer (some ⟨w.heap.size + 1, 12, none⟩), .pointer (some ⟨w.heap.size + 1, 13, none⟩), .pointer (some ⟨w.heap.size + 1, 14, none⟩)] 145 (0, 0))) := (b.block _ (lt_of_block HPz4.out) (by omega)).trans HPz4.out
      have hcc := cell_of_row y5 (w.heap.size + 1) 7 _ _ _ HVy.out.vb
      have hff := frozen_of_row y5 (w.heap.size + 1) 7 _ _ HVy.out.vb
      simp at hcc
      clear r b
      obtain ⟨z5, hZ⟩ : ∃ V : World, V = y5.setCell ⟨w.heap.size + 1, 7, none⟩ (.int .i64 q4) := ⟨_, rfl⟩
      have HVz5 : Hid (VB w g A n c bs t6 (⟨d, ws, q0, q1, q2, pr, q3, q4, 0, 0, 0, 0, 0, 0, 0⟩ : Vlt) A1 cnt c1 z5) := by rw [hZ]; exact VB.set HVy.out 7 (.int .i64 q4) _ rfl rfl
      have HXz5 := Lib.hid hZ
      have HPz5 : Hid (z5.heap[z3.heap.size]? = some (.cells #[.pointer (some ⟨w.heap.size + 1, 6, none⟩), .pointer (some ⟨w.heap.size + 1, 7, none⟩), .pointer (some ⟨w.heap.size + 1, 8, none⟩), .pointer (some ⟨w.heap.size + 1, 9, none⟩), .pointer (some ⟨w.heap.size + 1, 11, none⟩), .pointer (some ⟨w.heap.size + 1, 12, none⟩), .pointer (some ⟨w.heap.size + 1, 13, none⟩), .pointer (some ⟨w.heap.size + 1, 14, none⟩)] 145 (0, 0))) := by show _ = _; rw [hZ]; exact (heap_setCell_other _ _ _ _ (by show z3.heap.size ≠ w.heap.size + 1; omega)).trans HPy.out
      clear hZ
      have hq0 := cell_of_row y5 (z3.heap.size) 0 _ _ _ HPy.out
      simp at hq0
      have hq1 := cell_of_row y5 (z3.heap.size) 1 _ _ _ HPy.out
      simp at hq1
      have hq2 := cell_of_row y5 (z3.heap.size) 2 _ _ _ HPy.out
      simp at hq2
      have hq3 := cell_of_row y5 (z3.heap.size) 3 _ _ _ HPy.out
      simp at hq3
      have hq4 := cell_of_row y5 (z3.heap.size) 4 _ _ _ HPy.out
      simp at hq4
      have hq5 := cell_of_row y5 (z3.heap.size) 5 _ _ _ HPy.out
      simp at hq5
      have hq6 := cell_of_row y5 (z3.heap.size) 6 _ _ _ HPy.out
      simp at hq6
      have hq7 := cell_of_row y5 (z3.heap.size) 7 _ _ _ HPy.out
      simp at hq7
      go_wp2_with fail
      rw [rounds_succ]
      go_wp2_with fail
      rw [← HXz5.out]
      clear hcc hff HVy HPy hq0 hq1 hq2 hq3 hq4 hq5 hq6 hq7
      have HR6 := Lib.hid (ri_any g A n c bs t6 z5 HVz5.out.rd HK.out g6)
      rw [F6.out] at HR6
      refine HR6.out.mono ?_
      rintro e y6 ⟨rfl, r, b⟩
      have HVy := Lib.hid (VB.read r b HVz5.out)
      have HPy : Hid (y6.heap[z3.heap.size]? = some (.cells #[.pointer (some ⟨w.heap.size + 1, 6, none⟩), .pointer (some ⟨w.heap.size + 1, 7, none⟩), .pointer (some ⟨w.heap.size + 1, 8, none⟩), .pointer (some ⟨w.heap.size + 1, 9, none⟩), .pointer (some ⟨w.heap.size + 1, 11, none⟩), .pointer (some ⟨w.heap.size + 1, 12, none⟩), .pointer (some ⟨w.heap.size + 1, 13, none⟩), .pointer (some ⟨w.heap.size + 1, 14, none⟩)] 145 (0, 0))) := (b.block _ (lt_of_block HPz5.out) (by omega)).trans HPz5.out
      have hcc := cell_of_row y6 (w.heap.size + 1) 8 _ _ _ HVy.out.vb
      have hff := frozen_of_row y6 (w.heap.size + 1) 8 _ _ HVy.out.vb
      simp at hcc
      clear r b
      obtain ⟨z6, hZ⟩ : ∃ V : World, V = y6.setCell ⟨w.heap.size + 1, 8, none⟩ (.int .i64 q5) := ⟨_, rfl⟩
      have HVz6 : Hid (VB w g A n c bs t7 (⟨d, ws, q0, q1, q2, pr, q3, q4, q5, 0, 0, 0, 0, 0, 0⟩ : Vlt) A1 cnt c1 z6) := by rw [hZ]; exact VB.set HVy.out 8 (.int .i64 q5) _ rfl rfl
      have HXz6 := Lib.hid hZ
      have HPz6 : Hid (z6.heap[z3.heap.size]? = some (.cells #[.pointer (some ⟨w.heap.size + 1, 6, none⟩), .pointer (some ⟨w.heap.size + 1, 7, none⟩), .pointer (some ⟨w.heap.size + 1, 8, none⟩), .pointer (some ⟨w.heap.size + 1, 9, none⟩), .pointer (some ⟨w.heap.size + 1, 11, none⟩), .pointer (some ⟨w.heap.size + 1, 12, none⟩), .pointer (some ⟨w.heap.size + 1, 13, none⟩), .pointer (some ⟨w.heap.size + 1, 14, none⟩)] 145 (0, 0))) := by show _ = _; rw [hZ]; exact (heap_setCell_other _ _ _ _ (by show z3.heap.size ≠ w.heap.size + 1; omega)).trans HPy.out
      clear hZ
      have hq0 := cell_of_row y6 (z3.heap.size) 0 _ _ _ HPy.out
      simp at hq0
      have hq1 := cell_of_row y6 (z3.heap.size) 1 _ _ _ HPy.out
      simp at hq1
      have hq2 := cell_of_row y6 (z3.heap.size) 2 _ _ _ HPy.out
      simp at hq2
      have hq3 := cell_of_row y6 (z3.heap.size) 3 _ _ _ HPy.out
      simp at hq3
      have hq4 := cell_of_row y6 (z3.heap.size) 4 _ _ _ HPy.out
      simp at hq4
      have hq5 := cell_of_row y6 (z3.heap.size) 5 _ _ _ HPy.out
      simp at hq5
      have hq6 := cell_of_row y6 (z3.heap.size) 6 _ _ _ HPy.out
      simp at hq6
      have hq7 := cell_of_row y6 (z3.heap.size) 7 _ _ _ HPy.out
      simp at hq7
      go_wp2_with fail
      rw [rounds_succ]
      go_wp2_with fail
      rw [← HXz6.out]
      clear hcc hff HVy HPy hq0 hq1 hq2 hq3 hq4 hq5 hq6 hq7
      have HR7 := Lib.hid (ri_any g A n c bs t7 z6 HVz6.out.rd HK.out g7)
      rw [F7.out] at HR7
      refine HR7.out.mono ?_
      rintro e y7 ⟨rfl, r, b⟩
      have HVy := Lib.hid (VB.read r b HVz6.out)
      have HPy : Hid (y7.heap[z3.heap.size]? = some (.cells #[.pointer (some ⟨w.heap.size + 1, 6, none⟩), .pointer (some ⟨w.heap.size + 1, 7, none⟩), .pointer (some ⟨w.heap.size + 1, 8, none⟩), .pointer (some ⟨w.heap.size + 1, 9, none⟩), .pointer (some ⟨w.heap.size + 1, 11, none⟩), .pointer (some ⟨w.heap.size + 1, 12, none⟩), .pointer (some ⟨w.heap.size + 1, 13, none⟩), .pointer (some ⟨w.heap.size + 1, 14, none⟩)] 145 (0, 0))) := (b.block _ (lt_of_block HPz6.out) (by omega)).trans HPz6.out
      have hcc := cell_of_row y7 (w.heap.size + 1) 9 _ _ _ HVy.out.vb
      have hff := frozen_of_row y7 (w.heap.size + 1) 9 _ _ HVy.out.vb
      simp at hcc
      clear r b
      obtain ⟨z7, hZ⟩ : ∃ V : World, V = y7.setCell ⟨w.heap.size + 1, 9, none⟩ (.int .i64 q6) := ⟨_, rfl⟩
      have HVz7 : Hid (VB w g A n c bs t8 (⟨d, ws, q0, q1, q2, pr, q3, q4, q5, q6, 0, 0, 0, 0, 0⟩ : Vlt) A1 cnt c1 z7) := by rw [hZ]; exact VB.set HVy.out 9 (.int .i64 q6) _ rfl rfl
      have HXz7 := Lib.hid hZ
      have HPz7 : Hid (z7.heap[z3.heap.size]? = some (.cells #[.pointer (some ⟨w.heap.size + 1, 6, none⟩), .pointer (some ⟨w.heap.size + 1, 7, none⟩), .pointer (some ⟨w.heap.size + 1, 8, none⟩), .pointer (some ⟨w.heap.size + 1, 9, none⟩), .pointer (some ⟨w.heap.size + 1, 11, none⟩), .pointer (some ⟨w.heap.size + 1, 12, none⟩), .pointer (some ⟨w.heap.size + 1, 13, none⟩), .pointer (some ⟨w.heap.size + 1, 14, none⟩)] 145 (0, 0))) := by show _ = _; rw [hZ]; exact (heap_setCell_other _ _ _ _ (by show z3.heap.size ≠ w.heap.size + 1; omega)).trans HPy.out
      clear hZ
      have hq0 := cell_of_row y7 (z3.heap.size) 0 _ _ _ HPy.out
      simp at hq0
      have hq1 := cell_of_row y7 (z3.heap.size) 1 _ _ _ HPy.out
      simp at hq1
      have hq2 := cell_of_row y7 (z3.heap.size) 2 _ _ _ HPy.out
      simp at hq2
      have hq3 := cell_of_row y7 (z3.heap.size) 3 _ _ _ HPy.out
      simp at hq3
      have hq4 := cell_of_row y7 (z3.heap.size) 4 _ _ _ HPy.out
      simp at hq4
      have hq5 := cell_of_row y7 (z3.heap.size) 5 _ _ _ HPy.out
      simp at hq5
      have hq6 := cell_of_row y7 (z3.heap.size) 6 _ _ _ HPy.out
      simp at hq6
      have hq7 := cell_of_row y7 (z3.heap.size) 7 _ _ _ HPy.out
      simp at hq7
      go_wp2_with fail
      rw [rounds_succ]
      go_wp2_with fail
      rw [← HXz7.out]
      clear hcc hff HVy HPy hq0 hq1 hq2 hq3 hq4 hq5 hq6 hq7
      have HR8 := Lib.hid (ri_any g A n c bs t8 z7 HVz7.out.rd HK.out g8)
      rw [F8.out] at HR8
      refine HR8.out.mono ?_
      rintro e y8 ⟨rfl, r, b⟩
      have HVy := Lib.hid (VB.read r b HVz7.out)
      have HPy : Hid (y8.heap[z3.heap.size]? = some (.cells #[.pointer (some ⟨w.heap.size + 1, 6, none⟩), .pointer (some ⟨w.heap.size + 1, 7, none⟩), .pointer (some ⟨w.heap.size + 1, 8, none⟩), .pointer (some ⟨w.heap.size + 1, 9, none⟩), .pointer (some ⟨w.heap.size + 1, 11, none⟩), .pointer (some ⟨w.heap.size + 1, 12, none⟩), .pointer (some ⟨w.heap.size + 1, 13, none⟩), .pointer (some ⟨w.heap.size + 1, 14, none⟩)] 145 (0, 0))) := (b.block _ (lt_of_block HPz7.out) (by omega)).trans HPz7.out
      have hcc := cell_of_row y8 (w.heap.size + 1) 11 _ _ _ HVy.out.vb
      have hff := frozen_of_row y8 (w.heap.size + 1) 11 _ _ HVy.out.vb
      simp at hcc
      clear r b
      obtain ⟨z8, hZ⟩ : ∃ V : World, V = y8.setCell ⟨w.heap.size + 1, 11, none⟩ (.int .i64 q7) := ⟨_, rfl⟩
      have HVz8 : Hid (VB w g A n c bs t9 (⟨d, ws, q0, q1, q2, pr, q3, q4, q5, q6, 0, q7, 0, 0, 0⟩ : Vlt) A1 cnt c1 z8) := by rw [hZ]; exact VB.set HVy.out 11 (.int .i64 q7) _ rfl rfl
      have HXz8 := Lib.hid hZ
      have HPz8 : Hid (z8.heap[z3.heap.size]? = some (.cells #[.pointer (some ⟨w.heap.size + 1, 6, none⟩), .pointer (some ⟨w.heap.size + 1, 7, none⟩), .pointer (some ⟨w.heap.size + 1, 8, none⟩), .pointer (some ⟨w.heap.size + 1, 9, none⟩), .pointer (some ⟨w.heap.size + 1, 11, none⟩), .pointer (some ⟨w.heap.size + 1, 12, none⟩), .pointer (some ⟨w.heap.size + 1, 13, none⟩), .pointer (some ⟨w.heap.size + 1, 14, none⟩)] 145 (0, 0))) := by show _ = _; rw [hZ]; exact (heap_setCell_other _ _ _ _ (by show z3.heap.size ≠ w.heap.size + 1; omega)).trans HPy.out
      clear hZ
      have hq0 := cell_of_row y8 (z3.heap.size) 0 _ _ _ HPy.out
      simp at hq0
      have hq1 := cell_of_row y8 (z3.heap.size) 1 _ _ _ HPy.out
      simp at hq1
      have hq2 := cell_of_row y8 (z3.heap.size) 2 _ _ _ HPy.out
      simp at hq2
      have hq3 := cell_of_row y8 (z3.heap.size) 3 _ _ _ HPy.out
      simp at hq3
      have hq4 := cell_of_row y8 (z3.heap.size) 4 _ _ _ HPy.out
      simp at hq4
      have hq5 := cell_of_row y8 (z3.heap.size) 5 _ _ _ HPy.out
      simp at hq5
      have hq6 := cell_of_row y8 (z3.heap.size) 6 _ _ _ HPy.out
      simp at hq6
      have hq7 := cell_of_row y8 (z3.heap.size) 7 _ _ _ HPy.out
      simp at hq7
      go_wp2_with fail
      rw [rounds_succ]
      go_wp2_with fail
      rw [← HXz8.out]
      clear hcc hff HVy HPy hq0 hq1 hq2 hq3 hq4 hq5 hq6 hq7
      have HR9 := Lib.hid (ri_any g A n c bs t9 z8 HVz8.out.rd HK.out g9)
      rw [F9.out] at HR9
      refine HR9.out.mono ?_
      rintro e y9 ⟨rfl, r, b⟩
      have HVy := Lib.hid (VB.read r b HVz8.out)
      have HPy : Hid (y9.heap[z3.heap.size]? = some (.cells #[.pointer (some ⟨w.heap.size + 1, 6, none⟩), .pointer (some ⟨w.heap.size + 1, 7, none⟩), .pointer (some ⟨w.heap.size + 1, 8, none⟩), .pointer (some ⟨w.heap.size + 1, 9, none⟩), .pointer (some ⟨w.heap.size + 1, 11, none⟩), .pointer (some ⟨w.heap.size + 1, 12, none⟩), .pointer (some ⟨w.heap.size + 1, 13, none⟩), .pointer (some ⟨w.heap.size + 1, 14, none⟩)] 145 (0, 0))) := (b.block _ (lt_of_block HPz8.out) (by omega)).trans HPz8.out
      have hcc := cell_of_row y9 (w.heap.size + 1) 12 _ _ _ HVy.out.vb
      have hff := frozen_of_row y9 (w.heap.size + 1) 12 _ _ HVy.out.vb
      simp at hcc
      clear r b
      obtain ⟨z9, hZ⟩ : ∃ V : World, V = y9.setCell ⟨w.heap.size + 1, 12, none⟩ (.int .i64 q8) := ⟨_, rfl⟩
      have HVz9 : Hid (VB w g A n c bs t10 (⟨d, ws, q0, q1, q2, pr, q3, q4, q5, q6, 0, q7, q8, 0, 0⟩ : Vlt) A1 cnt c1 z9) := by rw [hZ]; exact VB.set HVy.out 12 (.int .i64 q8) _ rfl rfl
      have HXz9 := Lib.hid hZ
      have HPz9 : Hid (z9.heap[z3.heap.size]? = some (.cells #[.pointer (some ⟨w.heap.size + 1, 6, none⟩), .pointer (some ⟨w.heap.size + 1, 7, none⟩), .pointer (some ⟨w.heap.size + 1, 8, none⟩), .pointer (some ⟨w.heap.size + 1, 9, none⟩), .pointer (some ⟨w.heap.size + 1, 11, none⟩), .pointer (some ⟨w.heap.size + 1, 12, none⟩), .pointer (some ⟨w.heap.size + 1, 13, none⟩), .pointer (some ⟨w.heap.size + 1, 14, none⟩)] 145 (0, 0))) := by show _ = _; rw [hZ]; exact (heap_setCell_other _ _ _ _ (by show z3.heap.size ≠ w.heap.size + 1; omega)).trans HPy.out
      clear hZ
      have hq0 := cell_of_row y9 (z3.heap.size) 0 _ _ _ HPy.out
      simp at hq0
      have hq1 := cell_of_row y9 (z3.heap.size) 1 _ _ _ HPy.out
      simp at hq1
      have hq2 := cell_of_row y9 (z3.heap.size) 2 _ _ _ HPy.out
      simp at hq2
      have hq3 := cell_of_row y9 (z3.heap.size) 3 _ _ _ HPy.out
      simp at hq3
      have hq4 := cell_of_row y9 (z3.heap.size) 4 _ _ _ HPy.out
      simp at hq4
      have hq5 := cell_of_row y9 (z3.heap.size) 5 _ _ _ HPy.out
      simp at hq5
      have hq6 := cell_of_row y9 (z3.heap.size) 6 _ _ _ HPy.out
      simp at hq6
      have hq7 := cell_of_row y9 (z3.heap.size) 7 _ _ _ HPy.out
      simp at hq7
      go_wp2_with fail
      rw [rounds_succ]
      go_wp2_with fail
      rw [← HXz9.out]
      clear hcc hff HVy HPy hq0 hq1 hq2 hq3 hq4 hq5 hq6 hq7
      have HR10 := Lib.hid (ri_any g A n c bs t10 z9 HVz9.out.rd HK.out g10)
      rw [F10.out] at HR10
      refine HR10.out.mono ?_
      rintro e y10 ⟨rfl, r, b⟩
      have HVy := Lib.hid (VB.read r b HVz9.out)
      have HPy : Hid (y10.heap[z3.heap.size]? = some (.cells #[.pointer (some ⟨w.heap.size + 1, 6, none⟩), .pointer (some ⟨w.heap.size + 1, 7, none⟩), .pointer (some ⟨w.heap.size + 1, 8, none⟩), .pointer (some ⟨w.heap.size + 1, 9, none⟩), .pointer (some ⟨w.heap.size + 1, 11, none⟩), .pointer (some ⟨w.heap.size + 1, 12, none⟩), .pointer (some ⟨w.heap.size + 1, 13, none⟩), .pointer (some ⟨w.heap.size + 1, 14, none⟩)] 145 (0, 0))) := (b.block _ (lt_of_block HPz9.out) (by omega)).trans HPz9.out
      have hcc := cell_of_row y10 (w.heap.size + 1) 13 _ _ _ HVy.out.vb
      have hff := frozen_of_row y10 (w.heap.size + 1) 13 _ _ HVy.out.vb
      simp at hcc
      clear r b
      obtain ⟨z10, hZ⟩ : ∃ V : World, V = y10.setCell ⟨w.heap.size + 1, 13, none⟩ (.int .i64 q9) := ⟨_, rfl⟩
      have HVz10 : Hid (VB w g A n c bs t11 (⟨d, ws, q0, q1, q2, pr, q3, q4, q5, q6, 0, q7, q8, q9, 0⟩ : Vlt) A1 cnt c1 z10) := by rw [hZ]; exact VB.set HVy.out 13 (.int .i64 q9) _ rfl rfl
      have HXz10 := Lib.hid hZ
      have HPz10 : Hid (z10.heap[z3.heap.size]? = some (.cells #[.pointer (some ⟨w.heap.size + 1, 6, none⟩), .pointer (some ⟨w.heap.size + 1, 7, none⟩), .pointer (some ⟨w.heap.size + 1, 8, none⟩), .pointer (some ⟨w.heap.size + 1, 9, none⟩), .pointer (some ⟨w.heap.size + 1, 11, none⟩), .pointer (some ⟨w.heap.size + 1, 12, none⟩), .pointer (some ⟨w.heap.size + 1, 13, none⟩), .pointer (some ⟨w.heap.size + 1, 14, none⟩)] 145 (0, 0))) := by show _ = _; rw [hZ]; exact (heap_setCell_other _ _ _ _ (by show z3.heap.size ≠ w.heap.size + 1; omega)).trans HPy.out
      clear hZ
      have hq0 := cell_of_row y10 (z3.heap.size) 0 _ _ _ HPy.out
      simp at hq0
      have hq1 := cell_of_row y10 (z3.heap.size) 1 _ _ _ HPy.out
      simp at hq1
      have hq2 := cell_of_row y10 (z3.heap.size) 2 _ _ _ HPy.out
      simp at hq2
      have hq3 := cell_of_row y10 (z3.heap.size) 3 _ _ _ HPy.out
      simp at hq3
      have hq4 := cell_of_row y10 (z3.heap.size) 4 _ _ _ HPy.out
      simp at hq4
      have hq5 := cell_of_row y10 (z3.heap.size) 5 _ _ _ HPy.out
      simp at hq5
      have hq6 := cell_of_row y10 (z3.heap.size) 6 _ _ _ HPy.out
      simp at hq6
      have hq7 := cell_of_row y10 (z3.heap.size) 7 _ _ _ HPy.out
      simp at hq7
      go_wp2_with fail
      rw [rounds_succ]
      go_wp2_with fail
      rw [← HXz10.out]
      clear hcc hff HVy HPy hq0 hq1 hq2 hq3 hq4 hq5 hq6 hq7
      have HR11 := Lib.hid (ri_any g A n c bs t11 z10 HVz10.out.rd HK.out g11)
      rw [F11.out] at HR11
      refine HR11.out.mono ?_
      rintro e y11 ⟨rfl, r, b⟩
      have HVy := Lib.hid (VB.read r b HVz10.out)
      have HPy : Hid (y11.heap[z3.heap.size]? = some (.cells #[.pointer (some ⟨w.heap.size + 1, 6, none⟩), .pointer (some ⟨w.heap.size + 1, 7, none⟩), .pointer (some ⟨w.heap.size + 1, 8, none⟩), .pointer (some ⟨w.heap.size + 1, 9, none⟩), .pointer (some ⟨w.heap.size + 1, 11, none⟩), .pointer (some ⟨w.heap.size + 1, 12, none⟩), .pointer (some ⟨w.heap.size + 1, 13, none⟩), .pointer (some ⟨w.heap.size + 1, 14, none⟩)] 145 (0, 0))) := (b.block _ (lt_of_block HPz10.out) (by omega)).trans HPz10.out
      have hcc := cell_of_row y11 (w.heap.size + 1) 14 _ _ _ HVy.out.vb
      have hff := frozen_of_row y11 (w.heap.size + 1) 14 _ _ HVy.out.vb
      simp at hcc
      clear r b
      obtain ⟨z11, hZ⟩ : ∃ V : World, V = y11.setCell ⟨w.heap.size + 1, 14, none⟩ (.int .i64 q10) := ⟨_, rfl⟩
      have HVz11 : Hid (VB w g A n c bs t12 (⟨d, ws, q0, q1, q2, pr, q3, q4, q5, q6, 0, q7, q8, q9, q10⟩ : Vlt) A1 cnt c1 z11) := by rw [hZ]; exact VB.set HVy.out 14 (.int .i64 q10) _ rfl rfl
      have HXz11 := Lib.hid hZ
      have HPz11 : Hid (z11.heap[z3.heap.size]? = some (.cells #[.pointer (some ⟨w.heap.size + 1, 6, none⟩), .pointer (some ⟨w.heap.size + 1, 7, none⟩), .pointer (some ⟨w.heap.size + 1, 8, none⟩), .pointer (some ⟨w.heap.size + 1, 9, none⟩), .pointer (some ⟨w.heap.size + 1, 11, none⟩), .pointer (some ⟨w.heap.size + 1, 12, none⟩), .pointer (some ⟨w.heap.size + 1, 13, none⟩), .pointer (some ⟨w.heap.size + 1, 14, none⟩)] 145 (0, 0))) := by show _ = _; rw [hZ]; exact (heap_setCell_other _ _ _ _ (by show z3.heap.size ≠ w.heap.size + 1; omega)).trans HPy.out
      clear hZ
      have hq0 := cell_of_row y11 (z3.heap.size) 0 _ _ _ HPy.out
      simp at hq0
      have hq1 := cell_of_row y11 (z3.heap.size) 1 _ _ _ HPy.out
      simp at hq1
      have hq2 := cell_of_row y11 (z3.heap.size) 2 _ _ _ HPy.out
      simp at hq2
      have hq3 := cell_of_row y11 (z3.heap.size) 3 _ _ _ HPy.out
      simp at hq3
      have hq4 := cell_of_row y11 (z3.heap.size) 4 _ _ _ HPy.out
      simp at hq4
      have hq5 := cell_of_row y11 (z3.heap.size) 5 _ _ _ HPy.out
      simp at hq5
      have hq6 := cell_of_row y11 (z3.heap.size) 6 _ _ _ HPy.out
      simp at hq6
      have hq7 := cell_of_row y11 (z3.heap.size) 7 _ _ _ HPy.out
      simp at hq7
      go_wp2_with fail
      rw [rounds_succ]
      rw [← HXz11.out]
      clear hcc hff HVy HPy hq0 hq1 hq2 hq3 hq4 hq5 hq6 hq7
      have hvr := HVz11.out.vb
      have hzr := HVz11.out.zero
      go_wp2_with (first
        | (refine wpList_load_row (o := ⟨some 80, _, _, _, _, _⟩) rfl 68 (.tmp 5) rfl (w.heap.size + 1) rfl 68 (cV (⟨d, ws, q0, q1, q2, pr, q3, q4, q5, q6, 0, q7, q8, q9, q10⟩ : Vlt) A1 cnt c1) (0, 0) _ (HVz11.out.vb) Tryz.underlying68 rfl Tryz.sizeVi ?_)
        | (refine wpList_store_far (o := ⟨none, .store 68 (.tmp 4) (.tmp 80), _, _, _, _⟩) rfl 68 (.tmp 4) (.tmp 80) rfl w.heap.size 68 _ (cV (⟨d, ws, q0, q1, q2, pr, q3, q4, q5, q6, 0, q7, q8, q9, q10⟩ : Vlt) A1 cnt c1) rfl rfl HVz11.out.zero Tryz.sizeVi rfl (cV_one _ _ _ _) 0 z11 (Below.refl _ _) (Nat.zero_le _) ?_; intro w4 HG4 hb4 HB4))
      have hg4 : But (fun k => k = w.heap.size) z11 w4 := (But.refl (fun k => k = w.heap.size) z11).grown HB4.out (fun k hk => .inl (by injection hk with hk; exact hk.symm))
      rw [← HX9.out, ← HS9.out]
      refine bodyPost_ret (results_cell_row rfl _ _ _ _ _ _ _ rfl HG4.out Tryz.underlying68 rfl Tryz.sizeVi) rfl ⟨A1, c1, by rw [show ((⟨d, ws, q0, q1, q2, pr, q3, q4, q5, q6, 0, q7, q8, q9, q10⟩ : Vlt)).ws.length = cnt from hln], ?_, HVz11.out.rd.but hg4 (fun k hk e => by omega), ?_⟩
      · rw [show ((⟨d, ws, q0, q1, q2, pr, q3, q4, q5, q6, 0, q7, q8, q9, q10⟩ : Vlt)).ws.length = cnt from hln]
        exact Own.same (f := I) (base := w.heap.size) (World.ownsRow.mono (HVz11.out.own) (by omega)) fun k hk => hg4.block k (World.ownsRow.lt HVz11.out.own k hk).2 (by have := (World.ownsRow.lt HVz11.out.own k hk).1; omega)
      · exact HVz11.out.but.trans hg4 (fun i hi => .inr (by omega))
end Go.Proofs.YtkeicjokekmkpaaGreat
