/- EncodeAccusation. -/
import Derived.Test.YtnfkjnmdfijhnaaGreatDoorS7
import Derived.Test.YtnfkjnmdfijhnaaGreatDoorSw
namespace Go.Proofs.YtnfkjnmdfijhnaaGreatDoor
open Go.RowKit Go.Lib
set_option linter.unusedVariables false
set_option linter.unusedSimpArgs false

/-- An accusation's body. -/
def encAc (r : Rcp) (ps qs rs : List ByteArray) (st : ByteArray) (ix : Nat) (no an : ByteArray) : List Int :=
  (enc (encRc r ps qs rs).length ++ encRc r ps qs rs) ++ ((sB st ++ enc ix) ++ (sB no ++ sB an))
theorem encRc_len {r : Rcp} {ps qs rs : List ByteArray} (h : vaB r ps qs rs = true) : (encRc r ps qs rs).length ≤ 12000 := by
  obtain ⟨y0, y1, y2, y3, y4, y5, y6, y7, y8, y9, ⟨y10, y11⟩, ⟨y12, y13⟩, ⟨y14, y15⟩, y16⟩ := vaB_facts h
  unfold encRc
  have e1 := encSg_len r.hd.toNat r.vt.toNat r.ix.toNat r.sz.toNat r.dy.toNat r.sr.toNat r.s y2
  have e2 := enc_len r.ct.toNat
  have e3 := enc_len r.pl.toNat
  have e4 := encLs_len y11
  have e5 : (sB r.rt).length = 32 := (sB_len r.rt).trans y9
  have e6 := enc_len r.si.toNat
  have e7 := encLs_len y15
  have e8 := encLs_len y13
  simp only [List.length_append]
  omega
theorem tkB_facts {s : ByteArray} {ix : Int} {no an : ByteArray} (h : tkB s ix no an = true) : s.size = 32 ∧ (0 ≤ ix ∧ ix ≤ 15) ∧ no.size = 32 ∧ an.size = 32 := by
  unfold tkB idB at h
  simp only [Bool.and_eq_true, decide_eq_true_eq] at h
  exact ⟨h.1.1, h.1.2, h.2.1, h.2.2⟩
def EcPost (r : Rcp) (ps qs rs : List ByteArray) (st : ByteArray) (ix : Int) (no an : ByteArray) (w : World) (e : Ending) (w' : World) : Prop :=
  ((vaB r ps qs rs && tkB st ix no an) = true ∧ Slc2 fB (encAc r ps qs rs st ix.toNat no an) 0 w e w') ∨ ((vaB r ps qs rs && tkB st ix no an) = false ∧ e = .returned (.tuple #[.slice none 0 0, .int .i64 1]) ∧ Below w.heap.size w w')
set_option maxRecDepth 100000 in
set_option maxHeartbeats 16000000 in
theorem eacc_any (r : Rcp) (ps qs rs : List ByteArray) (st : ByteArray) (ix : Int) (no an : ByteArray) (B : Nat) (w : World) (hx : RcIn w B r ps qs rs) (hB : B ≤ w.heap.size) :
    Calls Tryz.prog 21 #[.agg (cR r), .agg #[.string st, .int .i64 ix, .string no, .string an]] w (EcPost r ps qs rs st ix no an w) := by
  obtain ⟨W1, hW1⟩ : ∃ W1 : World, W1 = (w.alloc (.cells (cR r) tR)).alloc (.cells #[.string st, .int .i64 ix, .string no, .string an] 37) := ⟨_, rfl⟩
  have hb1 : Below w.heap.size w W1 := by rw [hW1]; exact ((Below.refl _ _).alloc (Nat.le_refl _) _).alloc (by simp) _
  have hs1 : W1.heap.size = w.heap.size + 1 + 1 := by rw [hW1]; simp
  have hc1 : W1.heap[w.heap.size]? = some (.cells (cR r) tR (0, 0)) := by rw [hW1, Below.heap_alloc _ _ _ (by simp)]; exact heap_alloc_new w _
  have hc2 : W1.heap[w.heap.size + 1]? = some (.cells #[.string st, .int .i64 ix, .string no, .string an] 37 (0, 0)) := by
    rw [hW1]
    have := heap_alloc_new (w.alloc (.cells (cR r) tR)) (.cells #[.string st, .int .i64 ix, .string no, .string an] 37)
    simpa using this
  have HR := Lib.hid (renc_any r ps qs rs B W1 (hx.up hb1 hB) (Nat.le_trans hB hb1.size))
  unfold REPost at HR
  have HT := Lib.hid (fun W => isToken_any st ix no an W)
  have HCT : Hid (∀ V : World, V.heap[w.heap.size + 1]? = some (.cells #[.string st, .int .i64 ix, .string no, .string an] 37 (0, 0)) → V.cell? ⟨w.heap.size + 1, 0, none⟩ = some (.string st) ∧ V.cell? ⟨w.heap.size + 1, 1, none⟩ = some (.int .i64 ix) ∧ V.cell? ⟨w.heap.size + 1, 2, none⟩ = some (.string no) ∧ V.cell? ⟨w.heap.size + 1, 3, none⟩ = some (.string an)) := fun V h => by
    refine ⟨?_, ?_, ?_, ?_⟩ <;> (rw [cell_of_row V _ _ _ _ _ h]; rfl)
  have HB1 := Lib.hid hb1
  have HS1 := Lib.hid hs1
  have HC2 := Lib.hid hc2
  have HWE := Lib.hid hW1
  have HR1 := Lib.hid (rangeR hc1)
  clear hx hB hb1 hs1 hc1 hc2
  unfold EcPost
  cases hv : vaB r ps qs rs
  · have HV := Lib.hid hv
    have HCb : Hid (Calls Tryz.prog 61 #[.agg (cR r)] W1 fun e w' => e = .returned (.tuple #[.slice none 0 0, .int .i64 1]) ∧ Below W1.heap.size W1 w') := HR.out.mono (fun e w' h => by
      rcases h with ⟨hok, _⟩ | ⟨_, h⟩
      · rw [HV.out] at hok; cases hok
      · exact h)
    rw [hW1] at HCb
    clear HR hv hW1
    go_enter Tryz.func21, Tryz.ntmps21
    go_wp2_with (first
      | (with_reducible refine wpList_load_mid (op := ⟨some 10, _, _, _, _, _⟩) rfl tR (.tmp 2) rfl w.heap.size 0 rfl (cR r).toList _ (by rw [← HWE.out]; exact HR1.out) Tryz.underlying35 rfl (sizeRL r) ?_)
      | (go_at_call 61; (with_reducible refine HCb.out.mono ?_); rintro e W2 ⟨rfl, b⟩
         rw [← HWE.out] at b
         have B2 := Lib.hid b
         clear b))
    go_ret2
    exact .inr ⟨by first | trivial | rfl, rfl, HB1.out.trans (B2.out.mono HB1.out.size)⟩
  · have HV := Lib.hid hv
    have hrl := encRc_len hv
    obtain ⟨L, hL⟩ : ∃ L, L = encRc r ps qs rs := ⟨_, rfl⟩
    have HCo : Hid (Calls Tryz.prog 61 #[.agg (cR r)] W1 (Slc2 fB L 0 W1)) := HR.out.mono (fun e w' h => by
      rcases h with ⟨_, h⟩ | ⟨hbad, _⟩
      · rw [hL]; exact h
      · rw [HV.out] at hbad; cases hbad)
    rw [hW1] at HCo
    rw [← hL] at hrl
    have HLE := Lib.hid hL
    clear HR hv hW1 hL
    cases ht : tkB st ix no an
    · rw [ht] at HT
      clear ht
      go_enter Tryz.func21, Tryz.ntmps21
      go_wp2_with (first
        | (with_reducible refine wpList_load_mid (op := ⟨some 10, _, _, _, _, _⟩) rfl tR (.tmp 2) rfl w.heap.size 0 rfl (cR r).toList _ (by rw [← HWE.out]; exact HR1.out) Tryz.underlying35 rfl (sizeRL r) ?_)
        | (go_at_call 61; (with_reducible refine HCo.out.mono ?_); rintro e W2 ⟨A1, n1, c1, rfl, hc, hs, b⟩
           rw [← HWE.out] at b
           have B2 := Lib.hid b
           obtain ⟨l0, l1, l2, l3⟩ := HCT.out _ ((b.block _ (lt_of_block HC2.out)).trans HC2.out)
           clear hc hs b)
        | (go_at_call 62; (with_reducible refine (HT.out _).mono ?_); rintro e W3 ⟨rfl, b⟩
           have B3 : Hid (Below W1.heap.size W1 W3) := B2.out.trans (b.mono B2.out.size)
           clear b))
      go_ret2
      exact .inr ⟨by first | trivial | rfl, rfl, HB1.out.trans (B3.out.mono HB1.out.size)⟩
    · rw [ht] at HT
      obtain ⟨z1, z2, z3, z4⟩ := tkB_facts ht
      obtain ⟨ix, rfl⟩ : ∃ k : Nat, ix = k := ⟨ix.toNat, by omega⟩
      clear ht
      go_enter Tryz.func21, Tryz.ntmps21
      go_upto_region 4 with (first
        | (with_reducible refine wpList_load_mid (op := ⟨some 10, _, _, _, _, _⟩) rfl tR (.tmp 2) rfl w.heap.size 0 rfl (cR r).toList _ (by rw [← HWE.out]; exact HR1.out) Tryz.underlying35 rfl (sizeRL r) ?_)
        | (go_at_call 61; (with_reducible refine HCo.out.mono ?_); rintro e W2 ⟨A1, n1, c1, rfl, hc, hs, b⟩
           rw [← HWE.out] at b
           have B2 := Lib.hid b
           have HS2 := Lib.hid hs
           obtain ⟨l0, l1, l2, l3⟩ := HCT.out _ ((b.block _ (lt_of_block HC2.out)).trans HC2.out)
           clear hc hs b)
        | (go_at_call 62; (with_reducible refine (HT.out _).mono ?_); rintro e W3 ⟨rfl, b⟩
           have B23 := Lib.hid b
           have B3 : Hid (Below W1.heap.size W1 W3) := B2.out.trans (b.mono B2.out.size)
           clear b l0 l1 l2 l3))
      obtain ⟨g, hg⟩ : ∃ g, g = W3.heap.size := ⟨_, rfl⟩
      have hwg : w.heap.size + 1 + 1 ≤ g := by rw [hg, ← HS1.out]; exact B3.out.size
      have h2g : W2.heap.size ≤ g := by rw [hg]; exact B23.out.size
      obtain ⟨W4, hW4⟩ : ∃ W : World, W = W3.alloc (.cells #[.slice none 0 0, .int .i64 0] 130) := ⟨_, rfl⟩
      have h34 : Below W3.heap.size W3 W4 := by rw [hW4]; exact (Below.refl _ _).alloc (Nat.le_refl _) _
      have h14 : Below W1.heap.size W1 W4 := B3.out.trans (h34.mono B3.out.size)
      have h24 : Below W2.heap.size W2 W4 := B23.out.trans (h34.mono B23.out.size)
      have H0 : Hid (Wc g (g + 1) (.slice none 0 0) W4 [] W4) := by show Wc _ _ _ _ _ _; rw [hW4, hg]; exact Wc.start (Wr.new W3)
      have ka : W4.heap[w.heap.size + 1]? = some (.cells #[.string st, .int .i64 (ix : Int), .string no, .string an] 37 (0, 0)) := (h14.block _ (lt_of_block HC2.out)).trans HC2.out
      have HCB : Hid (∀ bs V, Wc g (g + 1) (.slice none 0 0) W4 bs V → V.cell? ⟨w.heap.size + 1, 0, none⟩ = some (.string st) ∧ V.cell? ⟨w.heap.size + 1, 1, none⟩ = some (.int .i64 (ix : Int)) ∧ V.cell? ⟨w.heap.size + 1, 2, none⟩ = some (.string no) ∧ V.cell? ⟨w.heap.size + 1, 3, none⟩ = some (.string an)) := fun bs V h => HCT.out V ((h.keep (foot_new (B := w.heap.size + 1 + 1) hwg _ (by omega)) (lt_of_block ka)).trans ka)
      have hx4 : Sl fB W4 W2.heap.size A1 n1 L := HS2.out.up h24 (Nat.le_refl _)
      have hl1 : L.length = n1 := HS2.out.1
      have h04 : Below w.heap.size w W4 := HB1.out.trans (h14.mono HB1.out.size)
      have HBW : Hid (∀ bs V, Wc g (g + 1) (.slice none 0 0) W4 bs V → Below w.heap.size w V) := fun bs V h => by
        obtain ⟨v1, _, hb, _⟩ := h
        exact h04.trans (hb.below h04.size (fun i hi => by
          rcases hi with rfl | hi
          · omega
          · cases hi))
      have HC1 := Lib.hid (H0.out.step (P := Tryz.prog) (fun v' hv' hn => wbytes_any g (g + 1) v' _ A1 n1 c1 W2.heap.size L W4 hv' hx4 h24.size (fun k hk => foot_still hn (foot_new h2g k hk) (Nat.lt_of_lt_of_le hk h24.size)) (by omega) (by simp)))
      have HW4 := Lib.hid hW4
      have HG := Lib.hid hg
      clear hg hW4 h34 h14 h24 ka h04 hx4
      go_wp2_with fail
      refine (newWriter_any W3).mono ?_
      rintro e V1 ⟨rfl, hV1⟩
      rw [← HW4.out] at hV1
      subst hV1
      rw [← HG.out]
      go_wp2_with fail
      refine HC1.out.mono ?_
      rintro e V2 ⟨rfl, h2⟩
      obtain ⟨l0, l1, l2, l3⟩ := HCB.out _ _ h2
      have e0 := enc_len n1
      have e1 := enc_len ix
      have e2 := sB_len st
      have e3 := sB_len no
      have e4 := sB_len an
      have HD2 := Lib.hid (h2.step (P := Tryz.prog) (fun v' hv' hn => wid_any g (g + 1) v' _ st ix V2 hv' z1 (by omega) (by simp only [List.length_append, List.length_nil]; omega)))
      clear h2
      go_wp2_with fail
      refine HD2.out.mono ?_
      rintro e V3 ⟨rfl, h3⟩
      clear l0 l1 l2 l3
      obtain ⟨l0, l1, l2, l3⟩ := HCB.out _ _ h3
      have HD3 := Lib.hid (h3.step (P := Tryz.prog) (fun v' hv' hn => wsum_any g (g + 1) v' _ no V3 hv' z3 (by simp only [List.length_append, List.length_nil]; omega)))
      clear h3
      go_wp2_with fail
      refine HD3.out.mono ?_
      rintro e V4 ⟨rfl, h4⟩
      clear l0 l1 l2 l3
      obtain ⟨l0, l1, l2, l3⟩ := HCB.out _ _ h4
      have HD4 := Lib.hid (h4.step (P := Tryz.prog) (fun v' hv' hn => wsum_any g (g + 1) v' _ an V4 hv' z4 (by simp only [List.length_append, List.length_nil]; omega)))
      clear h4
      go_wp2_with fail
      refine HD4.out.mono ?_
      rintro e V5 ⟨rfl, h5⟩
      clear l0 l1 l2 l3
      have HEQ : Hid ([] ++ (enc n1 ++ L) ++ (sB st ++ enc ix) ++ sB no ++ sB an = encAc r ps qs rs st (ix : Int).toNat no an) := by
        show _ = _
        unfold encAc
        rw [← HLE.out, hl1, Int.toNat_natCast]
        simp only [List.append_assoc, List.nil_append]
      obtain ⟨v9, hw9, _, _⟩ := id h5
      have HBK := Lib.hid (HBW.out _ _ h5)
      have HD := Lib.hid (wdone_any g (g + 1) v9 _ V5 hw9 (by simp only [List.length_append, List.length_nil]; omega))
      rw [HEQ.out] at HD
      clear h5 hw9
      go_wp2_with fail
      refine HD.out.mono ?_
      rintro e VX ⟨A9, n9, c9, rfl, q1, q2, q3⟩
      have Q1 := Lib.hid q1
      have Q2 := Lib.hid q2
      have Q3 := Lib.hid q3
      clear q1 q2 q3
      go_wp2_with fail
      go_ret2
      exact .inl ⟨by first | trivial | rfl, A9, n9, c9, rfl, Q1.out, Q2.out, HBK.out.trans (Q3.out.mono HBK.out.size)⟩
end Go.Proofs.YtnfkjnmdfijhnaaGreatDoor
