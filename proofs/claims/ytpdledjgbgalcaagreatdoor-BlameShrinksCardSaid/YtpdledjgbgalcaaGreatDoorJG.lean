/- The law of acquittals and dropped stripes, walked. -/
import Derived.Test.YtpdledjgbgalcaaGreatDoorJE
import Derived.Test.YtpdledjgbgalcaaGreatDoorPt
import Derived.Test.YtpdledjgbgalcaaGreatDoorPu
import Derived.Test.YtpdledjgbgalcaaGreatDoorPv
import Derived.Test.YtpdledjgbgalcaaGreatDoorZf
namespace Go.Proofs.YtpdledjgbgalcaaGreatDoor
open Go.RowKit Go.Lib
set_option linter.unusedVariables false
set_option linter.unusedSimpArgs false
theorem mem_sumB {es : List EnR} {e : EnR} (h : e ∈ es) : e.bd.n ≤ sumB es := by
  induction es with
  | nil => cases h
  | cons a t ih =>
    rw [sumB]
    rcases List.mem_cons.1 h with rfl | h
    · omega
    · have := ih h; omega
theorem acF_len {k d q : Int} {bs : List Int} (h6 : k = 6) (h0 : (acF k d q bs).er = 0) : (acF k d q bs).ps.length ≤ 1000000 ∧ (acF k d q bs).qs.length ≤ 1000000 ∧ (acF k d q bs).rs.length ≤ 1000000 := by
  unfold acF at h0 ⊢
  rw [if_pos h6] at h0 ⊢
  split at h0
  · next h1 =>
    split at h0
    · next h2 =>
      rw [if_pos h1, if_pos h2]
      unfold okT at h2
      rw [Bool.and_eq_true] at h2
      have h3 := h2.2
      unfold okR at h3
      rw [Bool.and_eq_true] at h3
      obtain ⟨_, _, _, _, _, _, _, _, _, _, g1, g2, g3, _⟩ := vaB_facts h3.2
      exact ⟨Nat.le_trans g1.1 (by decide), Nat.le_trans g3.1 (by decide), Nat.le_trans g2.1 (by decide)⟩
    · exact absurd h0 (by decide)
  · exact absurd h0 (by decide)
theorem opnV_ok (x : Vw) (es : List EnR) (vs : List VtR) (pubs drs : List ByteArray) {a : Ac} (h : a ∈ opnV x es vs pubs drs) : a.ps.length ≤ 1000000 ∧ a.qs.length ≤ 1000000 ∧ a.rs.length ≤ 1000000 := by
  obtain ⟨p, hp, rfl⟩ := List.mem_map.1 h
  obtain ⟨e, he, h1⟩ := List.mem_filterMap.1 hp
  obtain ⟨g1, g2, _, rfl⟩ := cgE_some h1
  exact acF_len g1 g2
theorem hdL_len (S : Int → Bool) : (hdL S).length ≤ 12 := by
  have := List.length_filter_le S ((List.range 12).map Int.ofNat)
  simpa [hdL] using this
theorem opnV_len (x : Vw) (es : List EnR) (vs : List VtR) (pubs drs : List ByteArray) : (opnV x es vs pubs drs).length ≤ es.length := by
  unfold opnV
  rw [List.length_map]
  exact Nat.le_trans (cgL_len _ _) (frE_length es)
set_option maxRecDepth 100000 in
set_option maxHeartbeats 4000000 in
theorem lawShrinks_any (x : Vw) (es : List EnR) (vs : List VtR) (pubs drs : List ByteArray) (fks : List Int) (dr : ByteArray) (dv sq ek dy : Int) (bd : Hd) (pr : ByteArray) (bs : List Int) (B : Nat) (w : World) (hG : Glob w) (hV : VwIn w B x es vs pubs drs fks) (hE : EnOk w B ⟨dv, sq, ek, dy, bd, pr, bs⟩) (hB : B ≤ w.heap.size) (hsm : smB es) :
    Calls Tryz.prog 4 #[.agg (cVw x), .string dr, .agg #[.int .i64 dv, .int .i64 sq, .int .i64 ek, .int .i64 dy, .slice bd.a bd.n bd.c, .string pr]] w fun e w' => e = .returned (.bool true) ∧ Below w.heap.size w w' := by
  obtain ⟨W1, hW1⟩ : ∃ W1 : World, W1 = (w.alloc (.cells (cVw x) 29)).alloc (.cells #[.int .i64 dv, .int .i64 sq, .int .i64 ek, .int .i64 dy, .slice bd.a bd.n bd.c, .string pr] 55) := ⟨_, rfl⟩
  have hsz : W1.heap.size = w.heap.size + 2 := by rw [hW1]; simp
  have hg1 : W1.heap[w.heap.size]? = some (.cells (cVw x) 29 (0, 0)) := by rw [hW1]; exact (Below.heap_alloc _ _ _ (by simp)).trans (heap_alloc_new w _)
  have hg2 : W1.heap[w.heap.size + 1]? = some (.cells #[.int .i64 dv, .int .i64 sq, .int .i64 ek, .int .i64 dy, .slice bd.a bd.n bd.c, .string pr] 55 (0, 0)) := by
    rw [hW1]
    have := heap_alloc_new (w.alloc (.cells (cVw x) 29)) (.cells #[.int .i64 dv, .int .i64 sq, .int .i64 ek, .int .i64 dy, .slice bd.a bd.n bd.c, .string pr] 55)
    simpa using this
  have HB : Hid (Below w.heap.size w W1) := by
    show Below ..
    rw [hW1]
    exact ((Below.refl _ _).alloc (Nat.le_refl _) _).alloc (by simp) _
  have HX : Hid (∀ V, Below w.heap.size w V → VwIn V B x es vs pubs drs fks ∧ EnOk V B ⟨dv, sq, ek, dy, bd, pr, bs⟩ ∧ B ≤ V.heap.size ∧ Glob V) := fun V hv => ⟨hV.up hv hB, hE.up hv hB, Nat.le_trans hB hv.size, hG.on hv⟩
  have HS := Lib.hid hsz
  have HWE := Lib.hid hW1
  have HG1 := Lib.hid hg1
  have HG2 := Lib.hid hg2
  have HFW : Hid (Calls Tryz.prog 9 #[.agg (cVw x)] W1 (FewP x es W1)) := few_any x es B W1 (HX.out W1 HB.out).1.E (HX.out W1 HB.out).2.2.1 hV.cs.1
  have HAW : Hid (∀ V, Below w.heap.size w V → Calls Tryz.prog 11 #[] V fun e w' => e = .returned (.bool true) ∧ Below V.heap.size V w') := fun V hv => awake_any V (HX.out V hv).2.2.2
  have HSM := Lib.hid hsm
  obtain ⟨v0, v1, v2, v3, v4, v5, v6⟩ := cellsV hg1
  clear hG hV hE hB hW1 hsz hg1 hg2 hsm
  go_enter Tryz.func4, Tryz.ntmps4
  go_upto_region 1 with fail
  rw [← HWE.out]
  go_wp2_with fail
  refine HFW.out.mono ?_
  rintro e w4 ⟨t, rfl, ht, hb4⟩
  have HB4 : Hid (Below W1.heap.size W1 w4) := hb4
  clear hb4 v0 v1 v2 v3 v4 v5 v6
  have HBw4 : Hid (Below w.heap.size w w4) := HB.out.trans (HB4.out.mono HB.out.size)
  cases t with
  | false =>
    clear ht
    go_wp2_with (go_at_call 11; (with_reducible refine (HAW.out _ HBw4.out).mono ?_); rintro e w9 ⟨rfl, hb9⟩; (have HB9 : Hid (Below w.heap.size w w9) := HBw4.out.trans (Below.mono hb9 HBw4.out.size)); clear hb9)
    go_ret
    exact ⟨rfl, HB9.out⟩
  | true =>
    have HFB := Lib.hid (ht rfl)
    clear ht
    have hg4v : w4.heap[w.heap.size]? = some (.cells (cVw x) 29 (0, 0)) := (HB4.out.block _ (lt_of_block HG1.out)).trans HG1.out
    have hg4e : w4.heap[w.heap.size + 1]? = some (.cells #[.int .i64 dv, .int .i64 sq, .int .i64 ek, .int .i64 dy, .slice bd.a bd.n bd.c, .string pr] 55 (0, 0)) := (HB4.out.block _ (lt_of_block HG2.out)).trans HG2.out
    obtain ⟨y0, y1, y2, y3, y4, y5⟩ := cen hg4e
    have f4 : w4.frozen? ⟨w.heap.size + 1, 2, none⟩ = false := frozen_of_row w4 _ _ _ _ hg4e
    obtain ⟨v0, v1, v2, v3, v4, v5, v6⟩ := cellsV hg4v
    by_cases hn : bd.n ≤ 3000
    · -- PART main
      have hnI : ¬ (3000 : Int) < (bd.n : Int) := by omega
      go_upto_region 5 with fail
      obtain ⟨W5, hW5⟩ : ∃ W5 : World, W5 = (w4.setCell ⟨w.heap.size + 1, 2, none⟩ (.int .i64 7)).alloc (.cells (cVw x) 29) := ⟨_, rfl⟩
      have hc5 : (w4.setCell ⟨w.heap.size + 1, 2, none⟩ (.int .i64 7)).heap.size = w4.heap.size := by simp
      have hb5 : But (fun i => i = w.heap.size + 1) w4 W5 := by
        rw [hW5]
        exact (But.setCell (p := fun i => i = w.heap.size + 1) (x := ⟨w.heap.size + 1, 2, none⟩) (But.refl _ _) (.inl rfl) _).trans (But.of_below (p := fun i => i = w.heap.size + 1) ((Below.refl _ _).alloc (Nat.le_refl _) _)) (fun i hi => .inl hi)
      have hs4 : w.heap.size + 1 < w4.heap.size := lt_of_block hg4e
      have hg5v : W5.heap[w.heap.size]? = some (.cells (cVw x) 29 (0, 0)) := (hb5.block _ (by omega) (by omega)).trans hg4v
      have hg5e : W5.heap[w.heap.size + 1]? = some (.cells #[.int .i64 dv, .int .i64 sq, .int .i64 7, .int .i64 dy, .slice bd.a bd.n bd.c, .string pr] 55 (0, 0)) := by
        rw [hW5, Below.heap_alloc _ _ _ (by rw [hc5]; exact hs4)]
        exact heap_setCell_same w4 _ 2 _ _ (.int .i64 7) hg4e
      have hg5w : W5.heap[w4.heap.size]? = some (.cells (cVw x) 29 (0, 0)) := by
        rw [hW5, ← hc5]
        exact heap_alloc_new _ _
      have HB5 : Hid (Below w.heap.size w W5) := HBw4.out.trans (hb5.below HBw4.out.size (fun i hi => by subst hi; omega))
      rw [← hW5]
      have HG5 : Hid ((W5.heap[w.heap.size]? = some (.cells (cVw x) 29 (0, 0)) ∧ W5.heap[w.heap.size + 1]? = some (.cells #[.int .i64 dv, .int .i64 sq, .int .i64 7, .int .i64 dy, .slice bd.a bd.n bd.c, .string pr] 55 (0, 0))) ∧ W5.heap[w4.heap.size]? = some (.cells (cVw x) 29 (0, 0))) := ⟨⟨hg5v, hg5e⟩, hg5w⟩
      have HS4 : Hid (w.heap.size + 1 < w4.heap.size) := hs4
      clear hW5 hc5 hb5 hs4 hg5v hg5e hg5w hg4v hg4e y0 y1 y2 y3 y4 y5 f4 v0 v1 v2 v3 v4 v5 v6
      obtain ⟨i0, z0, hi0, hi1, hi2, hi3, hi4⟩ := info_partsN Tryz.infoEn
      have HI0 := Lib.hid hi0
      have HI1 := Lib.hid hi1
      have HI2 := Lib.hid hi2
      have HI3 := Lib.hid hi3
      have HI4 := Lib.hid hi4
      have hel : es.length ≤ 12 := by have h1 := (HX.out _ HB.out).1.E.1.1; have h2 := HFB.out.1; omega
      have HK0 : Hid ((([] : List EnR).length + es.length) * 72 ≤ 140737488355328) := by show _ ≤ _; simp; omega
      have HK9 : Hid (([] : List EnR).length + es.length ≤ maxLen) := by show _ ≤ _; unfold maxLen; simp; omega
      have HK1 : Hid ((es.length + [(⟨dv, sq, 7, dy, bd, pr, bs⟩ : EnR)].length) * 72 ≤ 140737488355328) := by show _ ≤ _; simp; omega
      have HK2 : Hid (es.length + [(⟨dv, sq, 7, dy, bd, pr, bs⟩ : EnR)].length ≤ maxLen) := by show _ ≤ _; unfold maxLen; simp; omega
      have HWB : Hid (w4.heap.size < W5.heap.size) := lt_of_block HG5.out.2
      clear hi0 hi1 hi2 hi3 hi4 hel
      go_cut [] from 16 (fun wx => ∃ A6 n6 c6, Hid (Below w.heap.size w wx) ∧ Hid (OwnN fEn 6 55 wx W5.heap.size (.slice A6 n6 c6) (es ++ [(⟨dv, sq, 7, dy, bd, pr, bs⟩ : EnR)])) ∧ Hid (W5.heap.size ≤ wx.heap.size) ∧ Hid (wx.heap[w.heap.size]? = some (.cells (cVw x) 29 (0, 0))) ∧ Hid (wx.heap[w4.heap.size]? = some (.cells (cVw ⟨⟨A6, n6, c6⟩, x.V, x.P, x.b, x.h, x.D, x.F⟩) 29 (0, 0))))
      case first =>
        refine wp_region_held_drew (S := (fun w' => w'.heap[w.heap.size]? = some (.cells (cVw x) 29 (0, 0)) ∧ w'.heap[w.heap.size + 1]? = some (.cells #[.int .i64 dv, .int .i64 sq, .int .i64 7, .int .i64 dy, .slice bd.a bd.n bd.c, .string pr] 55 (0, 0)))) (by kernel_rfl) (by exact HG5.out.1) (fun hHeld => ?_)
        refine tkH (i := 1) (v := ?s1v) (y := (Or.inl ⟨by rfl, ?s1y⟩)) (h := ?s1r)
        case s1y => (intro w hSw; (try dsimp only at hSw); go_simp; try (with_reducible rfl))
        try simp only [pt]
        refine tkH (i := 2) (v := ?s2v) (y := (Or.inl ⟨by rfl, ?s2y⟩)) (h := ?s2r)
        case s2y => (intro w hSw; (try dsimp only at hSw); obtain ⟨v0, v1, v2, v3, v4, v5, v6⟩ := cellsV hSw.1; go_simp; try (with_reducible rfl))
        try simp only [pt]
        refine tkH (i := 4) (v := ?s3v) (y := (Or.inl ⟨by rfl, ?s3y⟩)) (h := ?s3r)
        case s3y => (intro w hSw; (try dsimp only at hSw); obtain ⟨q0, q1, q2, q3, q4, q5⟩ := cen hSw.2; go_simp; try (with_reducible rfl))
        try simp only [pt]
        refine wpAnyH_ready (rs := [0, 5]) (by kernel_rfl) (by simp) ?_
        refine AllReadyH.cons (by simp only [List.getElem?_toArray, List.getElem?_cons_zero]; rfl) (fun K hK => ?_) (AllReadyH.cons (by simp only [List.getElem?_toArray, List.getElem?_cons_succ, List.getElem?_cons_zero]; rfl) (fun K hK => ?_) (AllReadyH.nil))
        · ((refine step_lit0 (f := fEn) (s := 6) rfl 22 55 rfl i0 Tryz.underlying22 HI0.out W5.heap.size (by first | exact Nat.le_refl _ | exact HC1.out.size) ?_); (intro g0 w0 HE0 HB0 HQ0); (have HC0 : Hid (Below W5.heap.size W5 w0) := by first | exact HC1.out.trans (HB0.out.mono HC1.out.size) | exact (Below.refl _ W5).drew.trans HB0.out))
          refine hK.out _ _ (by exact ⟨(HC0.out.block _ (lt_of_block HG5.out.1.1)).trans HG5.out.1.1, (HC0.out.block _ (lt_of_block HG5.out.1.2)).trans HG5.out.1.2⟩) (fun hHelds5 => ?_)
          clear hK K hHeld
          try simp only [pt]
          refine wpAnyH_ready (rs := [3, 5]) (by kernel_rfl) (by simp) ?_
          refine AllReadyH.cons (by simp only [List.getElem?_toArray, List.getElem?_cons_succ, List.getElem?_cons_zero]; rfl) (fun K hK => ?_) (AllReadyH.cons (by simp only [List.getElem?_toArray, List.getElem?_cons_succ, List.getElem?_cons_zero]; rfl) (fun K hK => ?_) (AllReadyH.nil))
          · ((refine step_appJ fEn_len (by omega) rfl (.tmp 28) (.tmp 30) 22 rfl 55 i0 z0 72 Tryz.underlying22 HI0.out HI1.out HI2.out HI3.out HI4.out (.slice (some ⟨g0, 0, none⟩) 0 0) rfl [] W5.heap.size (by first | exact HE0.out | exact HE0.out.on HB1.out) es ⟨B, x.E.a, x.E.n, x.E.c, rfl, by first | exact (HX.out _ (HB5.out.trans (HC1.out.mono HB5.out.size))).1.E.1 | exact (HX.out _ (HB5.out.trans (HC0.out.mono HB5.out.size))).1.E.1⟩ fEn_one HK0.out HK9.out (by first | exact HC1.out.size | exact HC0.out.size) ?_); (intro A4 n4 c4 w6 HO4 HG4 HC4); (have HC3 : Hid (Below W5.heap.size W5 w6) := by first | exact app_tail (HE0.out.on HB1.out) HC1.out HC1.out.size HG4.out | exact app_tail HE0.out HC0.out HC0.out.size HG4.out))
            refine hK.out _ _ (by exact ⟨(HC3.out.block _ (lt_of_block HG5.out.1.1)).trans HG5.out.1.1, (HC3.out.block _ (lt_of_block HG5.out.1.2)).trans HG5.out.1.2⟩) (fun hHelds7 => ?_)
            clear hK K hHelds5
            try simp only [pt]
            refine wpAnyH_ready (rs := [5]) (by kernel_rfl) (by simp) ?_
            refine AllReadyH.cons (by simp only [List.getElem?_toArray, List.getElem?_cons_succ, List.getElem?_cons_zero]; rfl) (fun K hK => ?_) (AllReadyH.nil)
            ((refine step_lit1 rfl 22 55 (.tmp 32) rfl i0 z0 6 Tryz.underlying22 HI0.out HI1.out HI2.out HI4.out (by omega) (by omega) (fEn (⟨dv, sq, 7, dy, bd, pr, bs⟩ : EnR)).toArray rfl rfl ?_); (intro g1 w1 HX1 HB1 HQ1); (have HC1 : Hid (Below W5.heap.size W5 w1) := by first | exact HC3.out.trans (HB1.out.mono HC3.out.size) | exact HC0.out.trans (HB1.out.mono HC0.out.size) | exact (Below.refl _ W5).drew.trans HB1.out))
            refine hK.out _ _ (by exact ⟨(HC1.out.block _ (lt_of_block HG5.out.1.1)).trans HG5.out.1.1, (HC1.out.block _ (lt_of_block HG5.out.1.2)).trans HG5.out.1.2⟩) (fun hHelds8 => ?_)
            clear hK K hHelds7
            try simp only [pt]
            refine wpAnyH_ready (rs := [6]) (by kernel_rfl) (by simp) ?_
            refine AllReadyH.cons (by simp only [List.getElem?_toArray, List.getElem?_cons_succ, List.getElem?_cons_zero]; rfl) (fun K hK => ?_) (AllReadyH.nil)
            ((refine step_appJ fEn_len (by omega) rfl (.tmp 31) (.tmp 33) 22 rfl 55 i0 z0 72 Tryz.underlying22 HI0.out HI1.out HI2.out HI3.out HI4.out (.slice A4 n4 c4) rfl es W5.heap.size (by first | exact HO4.out | exact HO4.out.on HB1.out) [(⟨dv, sq, 7, dy, bd, pr, bs⟩ : EnR)] ⟨g1 + 1, some ⟨g1, 0, none⟩, 1, 1, rfl, SlN.oneK (f := fEn) (y := (⟨dv, sq, 7, dy, bd, pr, bs⟩ : EnR)) (by first | exact HX1.out | exact (HG4.out.block g1 (lt_of_block HX1.out) (fun e => by have e2 : g1 = g0 := (by injection e); have h1 := HQ0.out; have h2 := HQ1.out; omega)).trans HX1.out | exact (HG4.out.block g1 (by have := lt_of_block HX1.out; have := HB0.out.size; omega) (fun e => by have e2 : g1 = g0 := (by injection e); have h1 := HQ0.out; have h2 := HQ1.out; omega)).trans ((HB0.out.block g1 (lt_of_block HX1.out)).trans HX1.out))⟩ fEn_one HK1.out HK2.out (by first | exact HC3.out.size | exact HC1.out.size) ?_); (intro A6 n6 c6 w7 HO6 HG6 HC6); (have HC7 : Hid (Below W5.heap.size W5 w7) := by first | exact app_tail HO4.out HC3.out HC3.out.size HG6.out | exact app_tail (HO4.out.on HB1.out) HC1.out HC1.out.size HG6.out); (have HG7 : Hid (w7.heap[w4.heap.size]? = some (.cells (cVw x) 29 (0, 0))) := (HC7.out.block _ (lt_of_block HG5.out.2)).trans HG5.out.2); (have g7a := cell_of_row w7 _ 0 _ _ _ HG7.out); (have g7f := frozen_of_row w7 _ 0 _ _ HG7.out); (simp at g7a))
            refine hK.out _ _ (by exact ⟨(HC7.out.block _ (lt_of_block HG5.out.1.1)).trans HG5.out.1.1, (HC7.out.block _ (lt_of_block HG5.out.1.2)).trans HG5.out.1.2⟩) (fun hHelds9 => ?_)
            clear hK K hHelds8
            try simp only [pt]
            refine tkH (i := 7) (v := ?s10v) (y := (Or.inl ⟨by rfl, ?s10y⟩)) (h := ?s10r)
            case s10y => (intro w hSw; (try dsimp only at hSw); go_simp; try (with_reducible rfl))
            try simp only [pt]
            refine wpAnyH_ready (rs := [8]) (by kernel_rfl) (by simp) ?_
            refine AllReadyH.cons (by simp only [List.getElem?_toArray, List.getElem?_cons_succ, List.getElem?_cons_zero]; rfl) (fun K hK => ?_) (AllReadyH.nil)
            go_simp
            refine hK.out _ _ (by exact ⟨((But.setCell (p := fun i => i = w4.heap.size) (x := ⟨w4.heap.size, 0, none⟩) (But.refl _ _) (.inl rfl) _ : But (fun i => i = w4.heap.size) w7 _).block _ (by have := lt_of_block HG5.out.1.1; have := HC7.out.size; omega) (by have := HS4.out; omega)).trans ((HC7.out.block _ (lt_of_block HG5.out.1.1)).trans HG5.out.1.1), ((But.setCell (p := fun i => i = w4.heap.size) (x := ⟨w4.heap.size, 0, none⟩) (But.refl _ _) (.inl rfl) _ : But (fun i => i = w4.heap.size) w7 _).block _ (by have := lt_of_block HG5.out.1.2; have := HC7.out.size; omega) (by have := HS4.out; omega)).trans ((HC7.out.block _ (lt_of_block HG5.out.1.2)).trans HG5.out.1.2)⟩) (fun hHelds11 => ?_)
            clear hK K hHelds9
            try simp only [pt]
            refine wpAnyH_done (by kernel_rfl) ?_ _
            go_wp2_with fail
            go_meet
            case rel => exact ⟨A6, n6, c6, (HB5.out.trans (HC7.out.mono HB5.out.size)).setCell (by show w.heap.size ≤ w4.heap.size; have := HS4.out; omega) _, OwnN.setJ HO6.out HWB.out, by show _ ≤ _; simp; exact HC7.out.size, ((But.setCell (p := fun i => i = w4.heap.size) (x := ⟨w4.heap.size, 0, none⟩) (But.refl _ _) (.inl rfl) _ : But (fun i => i = w4.heap.size) w7 _).block _ (by have := lt_of_block HG5.out.1.1; have := HC7.out.size; omega) (by have := HS4.out; omega)).trans ((HC7.out.block _ (lt_of_block HG5.out.1.1)).trans HG5.out.1.1), heap_setCell_same w7 _ 0 _ _ (.slice A6 n6 c6) HG7.out⟩
          · ((refine step_lit1 rfl 22 55 (.tmp 32) rfl i0 z0 6 Tryz.underlying22 HI0.out HI1.out HI2.out HI4.out (by omega) (by omega) (fEn (⟨dv, sq, 7, dy, bd, pr, bs⟩ : EnR)).toArray rfl rfl ?_); (intro g1 w1 HX1 HB1 HQ1); (have HC1 : Hid (Below W5.heap.size W5 w1) := by first | exact HC3.out.trans (HB1.out.mono HC3.out.size) | exact HC0.out.trans (HB1.out.mono HC0.out.size) | exact (Below.refl _ W5).drew.trans HB1.out))
            refine hK.out _ _ (by exact ⟨(HC1.out.block _ (lt_of_block HG5.out.1.1)).trans HG5.out.1.1, (HC1.out.block _ (lt_of_block HG5.out.1.2)).trans HG5.out.1.2⟩) (fun hHelds12 => ?_)
            clear hK K hHelds5
            try simp only [pt]
            refine wpAnyH_ready (rs := [3]) (by kernel_rfl) (by simp) ?_
            refine AllReadyH.cons (by simp only [List.getElem?_toArray, List.getElem?_cons_succ, List.getElem?_cons_zero]; rfl) (fun K hK => ?_) (AllReadyH.nil)
            ((refine step_appJ fEn_len (by omega) rfl (.tmp 28) (.tmp 30) 22 rfl 55 i0 z0 72 Tryz.underlying22 HI0.out HI1.out HI2.out HI3.out HI4.out (.slice (some ⟨g0, 0, none⟩) 0 0) rfl [] W5.heap.size (by first | exact HE0.out | exact HE0.out.on HB1.out) es ⟨B, x.E.a, x.E.n, x.E.c, rfl, by first | exact (HX.out _ (HB5.out.trans (HC1.out.mono HB5.out.size))).1.E.1 | exact (HX.out _ (HB5.out.trans (HC0.out.mono HB5.out.size))).1.E.1⟩ fEn_one HK0.out HK9.out (by first | exact HC1.out.size | exact HC0.out.size) ?_); (intro A4 n4 c4 w6 HO4 HG4 HC4); (have HC3 : Hid (Below W5.heap.size W5 w6) := by first | exact app_tail (HE0.out.on HB1.out) HC1.out HC1.out.size HG4.out | exact app_tail HE0.out HC0.out HC0.out.size HG4.out))
            refine hK.out _ _ (by exact ⟨(HC3.out.block _ (lt_of_block HG5.out.1.1)).trans HG5.out.1.1, (HC3.out.block _ (lt_of_block HG5.out.1.2)).trans HG5.out.1.2⟩) (fun hHelds13 => ?_)
            clear hK K hHelds12
            try simp only [pt]
            refine wpAnyH_ready (rs := [6]) (by kernel_rfl) (by simp) ?_
            refine AllReadyH.cons (by simp only [List.getElem?_toArray, List.getElem?_cons_succ, List.getElem?_cons_zero]; rfl) (fun K hK => ?_) (AllReadyH.nil)
            ((refine step_appJ fEn_len (by omega) rfl (.tmp 31) (.tmp 33) 22 rfl 55 i0 z0 72 Tryz.underlying22 HI0.out HI1.out HI2.out HI3.out HI4.out (.slice A4 n4 c4) rfl es W5.heap.size (by first | exact HO4.out | exact HO4.out.on HB1.out) [(⟨dv, sq, 7, dy, bd, pr, bs⟩ : EnR)] ⟨g1 + 1, some ⟨g1, 0, none⟩, 1, 1, rfl, SlN.oneK (f := fEn) (y := (⟨dv, sq, 7, dy, bd, pr, bs⟩ : EnR)) (by first | exact HX1.out | exact (HG4.out.block g1 (lt_of_block HX1.out) (fun e => by have e2 : g1 = g0 := (by injection e); have h1 := HQ0.out; have h2 := HQ1.out; omega)).trans HX1.out | exact (HG4.out.block g1 (by have := lt_of_block HX1.out; have := HB0.out.size; omega) (fun e => by have e2 : g1 = g0 := (by injection e); have h1 := HQ0.out; have h2 := HQ1.out; omega)).trans ((HB0.out.block g1 (lt_of_block HX1.out)).trans HX1.out))⟩ fEn_one HK1.out HK2.out (by first | exact HC3.out.size | exact HC1.out.size) ?_); (intro A6 n6 c6 w7 HO6 HG6 HC6); (have HC7 : Hid (Below W5.heap.size W5 w7) := by first | exact app_tail HO4.out HC3.out HC3.out.size HG6.out | exact app_tail (HO4.out.on HB1.out) HC1.out HC1.out.size HG6.out); (have HG7 : Hid (w7.heap[w4.heap.size]? = some (.cells (cVw x) 29 (0, 0))) := (HC7.out.block _ (lt_of_block HG5.out.2)).trans HG5.out.2); (have g7a := cell_of_row w7 _ 0 _ _ _ HG7.out); (have g7f := frozen_of_row w7 _ 0 _ _ HG7.out); (simp at g7a))
            refine hK.out _ _ (by exact ⟨(HC7.out.block _ (lt_of_block HG5.out.1.1)).trans HG5.out.1.1, (HC7.out.block _ (lt_of_block HG5.out.1.2)).trans HG5.out.1.2⟩) (fun hHelds14 => ?_)
            clear hK K hHelds13
            try simp only [pt]
            refine tkH (i := 7) (v := ?s15v) (y := (Or.inl ⟨by rfl, ?s15y⟩)) (h := ?s15r)
            case s15y => (intro w hSw; (try dsimp only at hSw); go_simp; try (with_reducible rfl))
            try simp only [pt]
            refine wpAnyH_ready (rs := [8]) (by kernel_rfl) (by simp) ?_
            refine AllReadyH.cons (by simp only [List.getElem?_toArray, List.getElem?_cons_succ, List.getElem?_cons_zero]; rfl) (fun K hK => ?_) (AllReadyH.nil)
            go_simp
            refine hK.out _ _ (by exact ⟨((But.setCell (p := fun i => i = w4.heap.size) (x := ⟨w4.heap.size, 0, none⟩) (But.refl _ _) (.inl rfl) _ : But (fun i => i = w4.heap.size) w7 _).block _ (by have := lt_of_block HG5.out.1.1; have := HC7.out.size; omega) (by have := HS4.out; omega)).trans ((HC7.out.block _ (lt_of_block HG5.out.1.1)).trans HG5.out.1.1), ((But.setCell (p := fun i => i = w4.heap.size) (x := ⟨w4.heap.size, 0, none⟩) (But.refl _ _) (.inl rfl) _ : But (fun i => i = w4.heap.size) w7 _).block _ (by have := lt_of_block HG5.out.1.2; have := HC7.out.size; omega) (by have := HS4.out; omega)).trans ((HC7.out.block _ (lt_of_block HG5.out.1.2)).trans HG5.out.1.2)⟩) (fun hHelds16 => ?_)
            clear hK K hHelds14
            try simp only [pt]
            refine wpAnyH_done (by kernel_rfl) ?_ _
            go_wp2_with fail
            go_meet
            case rel => exact ⟨A6, n6, c6, (HB5.out.trans (HC7.out.mono HB5.out.size)).setCell (by show w.heap.size ≤ w4.heap.size; have := HS4.out; omega) _, OwnN.setJ HO6.out HWB.out, by show _ ≤ _; simp; exact HC7.out.size, ((But.setCell (p := fun i => i = w4.heap.size) (x := ⟨w4.heap.size, 0, none⟩) (But.refl _ _) (.inl rfl) _ : But (fun i => i = w4.heap.size) w7 _).block _ (by have := lt_of_block HG5.out.1.1; have := HC7.out.size; omega) (by have := HS4.out; omega)).trans ((HC7.out.block _ (lt_of_block HG5.out.1.1)).trans HG5.out.1.1), heap_setCell_same w7 _ 0 _ _ (.slice A6 n6 c6) HG7.out⟩
        · ((refine step_lit1 rfl 22 55 (.tmp 32) rfl i0 z0 6 Tryz.underlying22 HI0.out HI1.out HI2.out HI4.out (by omega) (by omega) (fEn (⟨dv, sq, 7, dy, bd, pr, bs⟩ : EnR)).toArray rfl rfl ?_); (intro g1 w1 HX1 HB1 HQ1); (have HC1 : Hid (Below W5.heap.size W5 w1) := by first | exact HC3.out.trans (HB1.out.mono HC3.out.size) | exact HC0.out.trans (HB1.out.mono HC0.out.size) | exact (Below.refl _ W5).drew.trans HB1.out))
          refine hK.out _ _ (by exact ⟨(HC1.out.block _ (lt_of_block HG5.out.1.1)).trans HG5.out.1.1, (HC1.out.block _ (lt_of_block HG5.out.1.2)).trans HG5.out.1.2⟩) (fun hHelds17 => ?_)
          clear hK K hHeld
          try simp only [pt]
          refine wpAnyH_ready (rs := [0]) (by kernel_rfl) (by simp) ?_
          refine AllReadyH.cons (by simp only [List.getElem?_toArray, List.getElem?_cons_zero]; rfl) (fun K hK => ?_) (AllReadyH.nil)
          ((refine step_lit0 (f := fEn) (s := 6) rfl 22 55 rfl i0 Tryz.underlying22 HI0.out W5.heap.size (by first | exact Nat.le_refl _ | exact HC1.out.size) ?_); (intro g0 w0 HE0 HB0 HQ0); (have HC0 : Hid (Below W5.heap.size W5 w0) := by first | exact HC1.out.trans (HB0.out.mono HC1.out.size) | exact (Below.refl _ W5).drew.trans HB0.out))
          refine hK.out _ _ (by exact ⟨(HC0.out.block _ (lt_of_block HG5.out.1.1)).trans HG5.out.1.1, (HC0.out.block _ (lt_of_block HG5.out.1.2)).trans HG5.out.1.2⟩) (fun hHelds18 => ?_)
          clear hK K hHelds17
          try simp only [pt]
          refine wpAnyH_ready (rs := [3]) (by kernel_rfl) (by simp) ?_
          refine AllReadyH.cons (by simp only [List.getElem?_toArray, List.getElem?_cons_succ, List.getElem?_cons_zero]; rfl) (fun K hK => ?_) (AllReadyH.nil)
          ((refine step_appJ fEn_len (by omega) rfl (.tmp 28) (.tmp 30) 22 rfl 55 i0 z0 72 Tryz.underlying22 HI0.out HI1.out HI2.out HI3.out HI4.out (.slice (some ⟨g0, 0, none⟩) 0 0) rfl [] W5.heap.size (by first | exact HE0.out | exact HE0.out.on HB1.out) es ⟨B, x.E.a, x.E.n, x.E.c, rfl, by first | exact (HX.out _ (HB5.out.trans (HC1.out.mono HB5.out.size))).1.E.1 | exact (HX.out _ (HB5.out.trans (HC0.out.mono HB5.out.size))).1.E.1⟩ fEn_one HK0.out HK9.out (by first | exact HC1.out.size | exact HC0.out.size) ?_); (intro A4 n4 c4 w6 HO4 HG4 HC4); (have HC3 : Hid (Below W5.heap.size W5 w6) := by first | exact app_tail (HE0.out.on HB1.out) HC1.out HC1.out.size HG4.out | exact app_tail HE0.out HC0.out HC0.out.size HG4.out))
          refine hK.out _ _ (by exact ⟨(HC3.out.block _ (lt_of_block HG5.out.1.1)).trans HG5.out.1.1, (HC3.out.block _ (lt_of_block HG5.out.1.2)).trans HG5.out.1.2⟩) (fun hHelds19 => ?_)
          clear hK K hHelds18
          try simp only [pt]
          refine wpAnyH_ready (rs := [6]) (by kernel_rfl) (by simp) ?_
          refine AllReadyH.cons (by simp only [List.getElem?_toArray, List.getElem?_cons_succ, List.getElem?_cons_zero]; rfl) (fun K hK => ?_) (AllReadyH.nil)
          ((refine step_appJ fEn_len (by omega) rfl (.tmp 31) (.tmp 33) 22 rfl 55 i0 z0 72 Tryz.underlying22 HI0.out HI1.out HI2.out HI3.out HI4.out (.slice A4 n4 c4) rfl es W5.heap.size (by first | exact HO4.out | exact HO4.out.on HB1.out) [(⟨dv, sq, 7, dy, bd, pr, bs⟩ : EnR)] ⟨g1 + 1, some ⟨g1, 0, none⟩, 1, 1, rfl, SlN.oneK (f := fEn) (y := (⟨dv, sq, 7, dy, bd, pr, bs⟩ : EnR)) (by first | exact HX1.out | exact (HG4.out.block g1 (lt_of_block HX1.out) (fun e => by have e2 : g1 = g0 := (by injection e); have h1 := HQ0.out; have h2 := HQ1.out; omega)).trans HX1.out | exact (HG4.out.block g1 (by have := lt_of_block HX1.out; have := HB0.out.size; omega) (fun e => by have e2 : g1 = g0 := (by injection e); have h1 := HQ0.out; have h2 := HQ1.out; omega)).trans ((HB0.out.block g1 (lt_of_block HX1.out)).trans HX1.out))⟩ fEn_one HK1.out HK2.out (by first | exact HC3.out.size | exact HC1.out.size) ?_); (intro A6 n6 c6 w7 HO6 HG6 HC6); (have HC7 : Hid (Below W5.heap.size W5 w7) := by first | exact app_tail HO4.out HC3.out HC3.out.size HG6.out | exact app_tail (HO4.out.on HB1.out) HC1.out HC1.out.size HG6.out); (have HG7 : Hid (w7.heap[w4.heap.size]? = some (.cells (cVw x) 29 (0, 0))) := (HC7.out.block _ (lt_of_block HG5.out.2)).trans HG5.out.2); (have g7a := cell_of_row w7 _ 0 _ _ _ HG7.out); (have g7f := frozen_of_row w7 _ 0 _ _ HG7.out); (simp at g7a))
          refine hK.out _ _ (by exact ⟨(HC7.out.block _ (lt_of_block HG5.out.1.1)).trans HG5.out.1.1, (HC7.out.block _ (lt_of_block HG5.out.1.2)).trans HG5.out.1.2⟩) (fun hHelds20 => ?_)
          clear hK K hHelds19
          try simp only [pt]
          refine tkH (i := 7) (v := ?s21v) (y := (Or.inl ⟨by rfl, ?s21y⟩)) (h := ?s21r)
          case s21y => (intro w hSw; (try dsimp only at hSw); go_simp; try (with_reducible rfl))
          try simp only [pt]
          refine wpAnyH_ready (rs := [8]) (by kernel_rfl) (by simp) ?_
          refine AllReadyH.cons (by simp only [List.getElem?_toArray, List.getElem?_cons_succ, List.getElem?_cons_zero]; rfl) (fun K hK => ?_) (AllReadyH.nil)
          go_simp
          refine hK.out _ _ (by exact ⟨((But.setCell (p := fun i => i = w4.heap.size) (x := ⟨w4.heap.size, 0, none⟩) (But.refl _ _) (.inl rfl) _ : But (fun i => i = w4.heap.size) w7 _).block _ (by have := lt_of_block HG5.out.1.1; have := HC7.out.size; omega) (by have := HS4.out; omega)).trans ((HC7.out.block _ (lt_of_block HG5.out.1.1)).trans HG5.out.1.1), ((But.setCell (p := fun i => i = w4.heap.size) (x := ⟨w4.heap.size, 0, none⟩) (But.refl _ _) (.inl rfl) _ : But (fun i => i = w4.heap.size) w7 _).block _ (by have := lt_of_block HG5.out.1.2; have := HC7.out.size; omega) (by have := HS4.out; omega)).trans ((HC7.out.block _ (lt_of_block HG5.out.1.2)).trans HG5.out.1.2)⟩) (fun hHelds22 => ?_)
          clear hK K hHelds20
          try simp only [pt]
          refine wpAnyH_done (by kernel_rfl) ?_ _
          go_wp2_with fail
          go_meet
          case rel => exact ⟨A6, n6, c6, (HB5.out.trans (HC7.out.mono HB5.out.size)).setCell (by show w.heap.size ≤ w4.heap.size; have := HS4.out; omega) _, OwnN.setJ HO6.out HWB.out, by show _ ≤ _; simp; exact HC7.out.size, ((But.setCell (p := fun i => i = w4.heap.size) (x := ⟨w4.heap.size, 0, none⟩) (But.refl _ _) (.inl rfl) _ : But (fun i => i = w4.heap.size) w7 _).block _ (by have := lt_of_block HG5.out.1.1; have := HC7.out.size; omega) (by have := HS4.out; omega)).trans ((HC7.out.block _ (lt_of_block HG5.out.1.1)).trans HG5.out.1.1), heap_setCell_same w7 _ 0 _ _ (.slice A6 n6 c6) HG7.out⟩
      case rest =>
        obtain ⟨A6, n6, c6, HB7, HO7, HS7, HV7, HW7⟩ := hcut
        clear HG5 HB5 HI0 HI1 HI2 HI3 HI4 HK0 HK9 HK1 HK2 HFW HB4
        obtain ⟨j0, hj0, hj1, hj2, hj3⟩ := info_parts Tryz.infoS
        have HJ0 := Lib.hid hj0
        have HJ1 := Lib.hid hj1
        have HJ2 := Lib.hid hj2
        have HJ3 := Lib.hid hj3
        have hdl : drs.length ≤ 10 := by have h1 := (HX.out _ HB7.out).1.D.1; have h2 := HFB.out.2.2.2.1; omega
        have HL0 : Hid ((([] : List ByteArray).length + drs.length) * 16 ≤ 140737488355328) := by show _ ≤ _; simp; omega
        have HL9 : Hid (([] : List ByteArray).length + drs.length ≤ maxLen) := by show _ ≤ _; unfold maxLen; simp; omega
        have HL1 : Hid ((drs.length + 1) * 16 ≤ 140737488355328) := by show _ ≤ _; omega
        have HL2 : Hid (drs.length + 1 ≤ maxLen) := by show _ ≤ _; unfold maxLen; omega
        have HE8 : Hid (Own fT 9 (wc.alloc (.cells #[] 9)) wc.heap.size (.slice (some ⟨wc.heap.size, 0, none⟩) 0 0) ([] : List ByteArray)) := World.ownsRow_made wc #[] 0 (Nat.le_refl _) (Nat.zero_le _) (by simp)
        have HB8 : Hid (Below wc.heap.size wc (wc.alloc (.cells #[] 9))) := (Below.refl _ _).alloc (Nat.le_refl _) _
        have HD8 : Hid (Sl fT (wc.alloc (.cells #[] 9)) B x.D.a x.D.n drs) := (HX.out _ (HB7.out.alloc HB7.out.size _)).1.D
        have HSW : Hid (wc.heap.size ≤ (wc.alloc (.cells #[] 9)).heap.size) := by show _ ≤ _; simp
        have v5 := (cellsV ((Below.heap_alloc wc (.cells #[] 9) _ (lt_of_block HV7.out)).trans HV7.out)).2.2.2.2.2.1
        clear hj0 hj1 hj2 hj3 hdl
        go_upto_region 7 with (first
          | ((with_reducible refine wpList_app (o := ⟨some 39, _, _, _, _, _⟩) rfl (.tmp 36) (.tmp 38) 24 rfl 9 j0 (.string ⟨#[]⟩) 16 Tryz.underlying24 HJ0.out HJ1.out HJ2.out HJ3.out rfl (.slice (some ⟨wc.heap.size, 0, none⟩) 0 0) [] wc.heap.size rfl HE8.out x.D.a x.D.n x.D.c B drs rfl HD8.out fT1 HL0.out HL9.out HSW.out ?_); intro v8 w8 HO8 HG8 HV8; (have HB8b : Hid (Below wc.heap.size wc w8) := Own.below HE8.out HB8.out (Nat.le_refl _) HSW.out HG8.out); (have HS8 : Hid (wc.heap.size ≤ w8.heap.size) := HB8b.out.size))
          | ((with_reducible refine wpList_app1 (o := ⟨some 42, _, _, _, _, _⟩) rfl (.tmp 39) (.tmp 41) 24 rfl 9 j0 (.string ⟨#[]⟩) 16 Tryz.underlying24 HJ0.out HJ1.out HJ2.out HJ3.out rfl v8 drs wc.heap.size rfl HO8.out dr 1 rfl fT1 HL1.out HL2.out HS8.out ?_); intro v9 w9 HO9 HG9 HV9; (have HB9 : Hid (Below wc.heap.size wc w9) := Own.below HO8.out HB8b.out (Nat.le_refl _) HS8.out HG9.out); (have HW9 : Hid (w9.heap[w4.heap.size]? = some (.cells (cVw ⟨⟨A6, n6, c6⟩, x.V, x.P, x.b, x.h, x.D, x.F⟩) 29 (0, 0))) := (HB9.out.block _ (lt_of_block HW7.out)).trans HW7.out); (have g9a := cell_of_row w9 _ 5 _ _ _ HW9.out); (have g9f := frozen_of_row w9 _ 5 _ _ HW9.out); (simp at g9a); (obtain ⟨AD, cD, hvD, hcD, hsD, _⟩ := HO9.out.shape); subst hvD; (have HCD := Lib.hid hcD); clear hcD hsD))
        obtain ⟨W10, hW10⟩ : ∃ W10 : World, W10 = w9.setCell ⟨w4.heap.size, 5, none⟩ (.slice AD (drs.length + 1) cD) := ⟨_, rfl⟩
        obtain ⟨y, hy⟩ : ∃ y : Vw, y = ⟨⟨A6, n6, c6⟩, x.V, x.P, x.b, x.h, ⟨AD, drs.length + 1, cD⟩, x.F⟩ := ⟨_, rfl⟩
        have hst : But (fun i => i = w4.heap.size) w9 W10 := by rw [hW10]; exact But.setCell (p := fun i => i = w4.heap.size) (x := ⟨w4.heap.size, 5, none⟩) (But.refl _ _) (.inl rfl) _
        have h49 : w4.heap.size < w9.heap.size := lt_of_block HW9.out
        have h4c : w4.heap.size < wc.heap.size := lt_of_block HW7.out
        have hB9w : Below w.heap.size w w9 := HB7.out.trans (HB9.out.mono HB7.out.size)
        have hBXw : Below w.heap.size w W10 := hB9w.trans (hst.below hB9w.size (fun i hi => by subst hi; have := HS4.out; omega))
        have hVx : W10.heap[w.heap.size]? = some (.cells (cVw x) 29 (0, 0)) := (hst.block _ (by have := HS4.out; omega) (by have := HS4.out; omega)).trans ((HB9.out.block _ (lt_of_block HV7.out)).trans HV7.out)
        have hVy : W10.heap[w4.heap.size]? = some (.cells (cVw y) 29 (0, 0)) := by
          rw [hW10, hy]
          exact heap_setCell_same w9 _ 5 _ _ (.slice AD (drs.length + 1) cD) HW9.out
        have hO9 : OwnN fEn 6 55 w9 W5.heap.size (.slice A6 n6 c6) (es ++ [(⟨dv, sq, 7, dy, bd, pr, bs⟩ : EnR)]) := HO7.out.on HB9.out
        have hO10 : OwnN fEn 6 55 W10 W5.heap.size (.slice A6 n6 c6) (es ++ [(⟨dv, sq, 7, dy, bd, pr, bs⟩ : EnR)]) := by rw [hW10]; exact OwnN.setJ hO9 HWB.out
        obtain ⟨A7, c7, hv7, hc7, hs7, _⟩ := OwnN.shape fEn_len hO10
        have hn6 : n6 = (es ++ [(⟨dv, sq, 7, dy, bd, pr, bs⟩ : EnR)]).length := by injection hv7
        have hc6 : c6 = c7 := by injection hv7
        have hA6 : A6 = A7 := by injection hv7
        have hDo : Own fT 9 W10 wc.heap.size (.slice AD (drs ++ [dr]).length cD) (drs ++ [dr]) := HO9.out.butG hst (fun k hk e => by have := (World.ownsRow.lt HO9.out k hk).1; omega)
        have hds : Sl fT W10 W10.heap.size AD (drs ++ [dr]).length (drs ++ [dr]) := hDo.slH
        have hXw := HX.out W10 hBXw
        have hel : es.length = x.E.n := hXw.1.E.1.1
        have hin : VwIn W10 W10.heap.size y (es ++ [(⟨dv, sq, 7, dy, bd, pr, bs⟩ : EnR)]) vs pubs (drs ++ [dr]) fks := by
          have hm := hXw.1.more hXw.2.2.1
          have hlen : (drs ++ [dr]).length = drs.length + 1 := by simp
          rw [hlen] at hds
          rw [hy]
          refine ⟨⟨by rw [hn6, hA6]; exact hs7, fun e he => ?_⟩, hm.V, hm.P, hds, hm.F, ?_⟩
          · rcases List.mem_append.1 he with h | h
            · exact hm.E.2 e h
            · obtain rfl : e = (⟨dv, sq, 7, dy, bd, pr, bs⟩ : EnR) := by simpa using h
              have hE0 := hXw.2.1
              exact ⟨hE0.1.more' hXw.2.2.1, hE0.2⟩
          · have h1 := hm.cs
            have h2 := HFB.out.1
            have h3 := HCD.out
            simp at hn6 h3
            exact ⟨by show n6 ≤ _; omega, by show n6 ≤ c6; rw [hc6, hn6]; simpa using hc7, h1.2.2.1, h1.2.2.2.1, h3, h1.2.2.2.2.2⟩
        have hsb := HFB.out.2.2.2.2.2 HSM.out
        have hokx : VwOk x es := ⟨by have := HFB.out.1; omega, by have := HFB.out.2.1; have := HFB.out.2.2.1; have := HFB.out.2.2.2.1; omega, fun e he => Nat.le_trans (mem_sumB he) (by omega)⟩
        have hoky : VwOk y (es ++ [(⟨dv, sq, 7, dy, bd, pr, bs⟩ : EnR)]) := by
          have h2 := HFB.out.1
          refine ⟨?_, ?_, fun e he => ?_⟩
          · rw [hy]; show n6 ≤ 1000; rw [hn6]; simp; omega
          · have h3 := HFB.out.2.1
            have h4 := HFB.out.2.2.1
            have h5 := HFB.out.2.2.2.1
            have h6 := hXw.1.D.1
            rw [hy]
            show x.V.n ≤ 1000 ∧ x.P.n ≤ 1000 ∧ drs.length + 1 ≤ 1000
            omega
          · rcases List.mem_append.1 he with h | h
            · exact hokx.2.2 e h
            · obtain rfl : e = (⟨dv, sq, 7, dy, bd, pr, bs⟩ : EnR) := by simpa using h
              show bd.n ≤ 1000000
              omega
        obtain ⟨κ, hκ, hκd⟩ := opnV_less x y es vs pubs drs dr (⟨dv, sq, 7, dy, bd, pr, bs⟩ : EnR) (by rw [hy]; exact ⟨rfl, rfl⟩) rfl
        have HUN0 : (opnV x es vs pubs drs).Pairwise (fun a b => ¬ (a.d = b.d ∧ a.q = b.q)) := cgL_un (frE_un es)
        have HLE0 := opnV_len x es vs pubs drs
        have HOK0 := fun a h => opnV_ok x es vs pubs drs (a := a) h
        have HHD0 := fun d h => opnV_hd (x := x) (es := es) (vs := vs) (pubs := pubs) (drs := drs) (d := d) h
        have HOX0 : ∀ V, Below W10.heap.size W10 V → Calls Tryz.prog 17 #[.agg (cVw x)] V (OpP (opnV x es vs pubs drs) V) := fun V hb => by
          have h1 := HX.out V (hBXw.trans (hb.mono hBXw.size))
          exact open_any x es vs pubs drs fks B V h1.2.2.2 h1.1 h1.2.2.1 hokx
        have HOY0 : ∀ V, Below W10.heap.size W10 V → Calls Tryz.prog 17 #[.agg (cVw y)] V (OpP (opnV y (es ++ [(⟨dv, sq, 7, dy, bd, pr, bs⟩ : EnR)]) vs pubs (drs ++ [dr])) V) := fun V hb =>
          open_any y (es ++ [(⟨dv, sq, 7, dy, bd, pr, bs⟩ : EnR)]) vs pubs (drs ++ [dr]) fks W10.heap.size V (HX.out V (hBXw.trans (hb.mono hBXw.size))).2.2.2 (hin.up hb (Nat.le_refl _)) hb.size hoky
        have HAX0 : ∀ V, Below W10.heap.size W10 V → Calls Tryz.prog 19 #[.agg (cVw x)] V (NwI (hdL (hdB (opnV x es vs pubs drs))) V V.heap.size V) := fun V hb => by
          have h1 := HX.out V (hBXw.trans (hb.mono hBXw.size))
          exact accused_any x es vs pubs drs fks B V h1.2.2.2 h1.1 h1.2.2.1 hokx
        have HAY0 : ∀ V, Below W10.heap.size W10 V → Calls Tryz.prog 19 #[.agg (cVw y)] V (NwI (hdL (hdB (opnV y (es ++ [(⟨dv, sq, 7, dy, bd, pr, bs⟩ : EnR)]) vs pubs (drs ++ [dr])))) V V.heap.size V) := fun V hb =>
          accused_any y (es ++ [(⟨dv, sq, 7, dy, bd, pr, bs⟩ : EnR)]) vs pubs (drs ++ [dr]) fks W10.heap.size V (HX.out V (hBXw.trans (hb.mono hBXw.size))).2.2.2 (hin.up hb (Nat.le_refl _)) hb.size hoky
        rw [hκ] at HOY0 HAY0
        generalize opnV x es vs pubs drs = al at *
        obtain ⟨lo, hlo⟩ : ∃ l, hdL (hdB al) = l := ⟨_, rfl⟩
        obtain ⟨ln, hln⟩ : ∃ l, hdL (hdB (al.filter κ)) = l := ⟨_, rfl⟩
        have hsub : ∀ d ∈ ln, d ∈ lo := fun d hd => by
          rw [← hlo, hdL_mem HHD0]
          rw [← hln, hdL_mem (fun d h => HHD0 d (hdB_filter h))] at hd
          exact hdB_filter hd
        have hll : ln.length ≤ 12 ∧ lo.length ≤ 12 := ⟨by rw [← hln]; exact hdL_len _, by rw [← hlo]; exact hdL_len _⟩
        rw [hlo] at HAX0
        rw [hln] at HAY0
        have HSUB := Lib.hid hsub
        have HLNL := Lib.hid hll
        have HUN := Lib.hid HUN0
        have HLE : Hid (al.length ≤ 12) := by show _ ≤ _; have := HFB.out.1; omega
        have HOK := Lib.hid HOK0
        have HHD := Lib.hid HHD0
        have HOX := Lib.hid HOX0
        have HOY := Lib.hid HOY0
        have HAX := Lib.hid HAX0
        have HAY := Lib.hid HAY0
        have HKD := Lib.hid hκd
        have HB10 : Hid (Below W10.heap.size W10 W10) := Below.refl _ _
        have HBX := Lib.hid hBXw
        have HCV : Hid (∀ V, Below W10.heap.size W10 V → V.heap[w.heap.size]? = some (.cells (cVw x) 29 (0, 0)) ∧ V.heap[w4.heap.size]? = some (.cells (cVw y) 29 (0, 0))) := fun V hb => ⟨(hb.block _ (lt_of_block hVx)).trans hVx, (hb.block _ (lt_of_block hVy)).trans hVy⟩
        rw [← hW10]
        clear hlo hln hsub hll hκ HUN0 HLE0 HOK0 HHD0 HOX0 HOY0 HAX0 HAY0 hκd hoky hokx hsb hin hel hXw hds hDo hA6 hc6 hn6 hs7 hc7 hv7 hO10 hO9 hVy hVx hBXw hB9w h4c h49 hst hy hW10 g9a g9f v5
        clear HJ0 HJ1 HJ2 HJ3 HL0 HL9 HL1 HL2 HE8 HB8 HD8 HSW HO7 HS7 HV7 HW7 HB7
        refine wp_region_held_drew (S := (fun w' => w'.heap[w.heap.size]? = some (.cells (cVw x) 29 (0, 0)) ∧ w'.heap[w4.heap.size]? = some (.cells (cVw y) 29 (0, 0)))) (by kernel_rfl) (by exact HCV.out _ HB10.out.drew) (fun hHeld => ?_)
        refine tkH (i := 0) (v := ?o1v) (y := (Or.inl ⟨by rfl, ?o1y⟩)) (h := ?o1r)
        case o1y => (intro w hSw; (try dsimp only at hSw); obtain ⟨v0, v1, v2, v3, v4, v5, v6⟩ := cellsV hSw.1; go_simp; try (with_reducible rfl))
        try simp only [pt]
        refine tkH (i := 2) (v := ?o2v) (y := (Or.inl ⟨by rfl, ?o2y⟩)) (h := ?o2r)
        case o2y => (intro w hSw; (try dsimp only at hSw); obtain ⟨v0, v1, v2, v3, v4, v5, v6⟩ := cellsV hSw.2; go_simp; try (with_reducible rfl))
        try simp only [pt]
        refine wpAnyH_ready (rs := [1]) (by kernel_rfl) (by simp) ?_
        refine AllReadyH.cons (by simp only [List.getElem?_toArray, List.getElem?_cons_succ, List.getElem?_cons_zero]; rfl) (fun K hK => ?_) (AllReadyH.nil)
        (go_simp; go_at_call 17; (with_reducible refine (HOX.out _ (HB10.out.drew)).mono ?_); rintro e V1 ⟨v, rfl, hb, ra, ho, hr, hm⟩; (obtain ⟨CA, cA1, hv, hc, hps, hlo⟩ := OwnN.shape fAr_len ho); subst hv; (have HPA := Lib.hid hps); (have HRA := Lib.hid hr); (have HMA := Lib.hid hm); (have HV1 : Hid (Below W10.heap.size W10 V1) := HB10.out.drew.trans (hb.mono HB10.out.drew.size)); clear ho hr hm hc hps hlo hb; go_wp2_with fail)
        refine hK.out _ _ (by exact HCV.out _ HV1.out) (fun hHeldo3 => ?_)
        clear hK K hHeld
        try simp only [pt]
        refine wpAnyH_ready (rs := [3]) (by kernel_rfl) (by simp) ?_
        refine AllReadyH.cons (by simp only [List.getElem?_toArray, List.getElem?_cons_succ, List.getElem?_cons_zero]; rfl) (fun K hK => ?_) (AllReadyH.nil)
        (go_simp; go_at_call 17; (with_reducible refine (HOY.out _ HV1.out).mono ?_); rintro e V2 ⟨v, rfl, hb, rb, ho, hr, hm⟩; (obtain ⟨CB, cB1, hv, hc, hps, hlo⟩ := OwnN.shape fAr_len ho); subst hv; (have HPB := Lib.hid hps); (have HRB := Lib.hid hr); (have HMB := Lib.hid hm); (have HV2 : Hid (Below W10.heap.size W10 V2) := HV1.out.trans (hb.mono HV1.out.size)); (have HV12 := Lib.hid hb); clear ho hr hm hc hps hlo hb; go_wp2_with fail)
        refine hK.out _ _ (by exact HCV.out _ HV2.out) (fun hHeldo4 => ?_)
        clear hK K hHeldo3
        try simp only [pt]
        refine tkH (i := 4) (v := ?o5v) (y := (Or.inl ⟨by rfl, ?o5y⟩)) (h := ?o5r)
        case o5y => (intro w hSw; (try dsimp only at hSw); go_simp; try (with_reducible rfl))
        try simp only [pt]
        refine tkH (i := 5) (v := ?o6v) (y := (Or.inl ⟨by rfl, ?o6y⟩)) (h := ?o6r)
        case o6y => (intro w hSw; (try dsimp only at hSw); go_simp; try (with_reducible rfl))
        try simp only [pt]
        refine wpAnyH_done (by kernel_rfl) ?_ _
        go_wp2_with fail
        have HLA : Hid (ra.length = al.length) := by show _ = _; rw [← HMA.out]; simp
        have HLB : Hid (rb.length = (al.filter κ).length) := by show _ = _; rw [← HMB.out]; simp
        have hla : ra.length ≤ 12 := by have h1 := HLA.out; have h2 := HLE.out; omega
        have hlb : rb.length ≤ 12 := by
          have h1 := HLB.out
          have h2 := List.length_filter_le κ al
          have h3 := HLE.out
          omega
        have HV22 : Hid (Below V2.heap.size V2 V2) := Below.refl _ _
        go_loopw [10, 11] (fun u i wr => ∃ k j : Nat, k ≤ ra.length ∧ i = .int .i64 k ∧ u = .int .i64 j ∧ Hid (((al.take k).filter κ).length = j) ∧ Hid (Below W10.heap.size W10 wr) ∧ Hid (Below V1.heap.size V1 wr) ∧ Hid (Below V2.heap.size V2 wr)) (fun _ i _ => ra.length - (intOf i).toNat)
        case atStart => exact ⟨0, 0, Nat.zero_le _, rfl, rfl, rfl, HV2, HV12, HV22⟩
        case round =>
          obtain ⟨k, j, hk, rfl, rfl, HJK, HVr, HV1r, HV2r⟩ := hrel
          by_cases hlt : k < ra.length
          · -- PART round1
            obtain ⟨b1, o1, r1, rfl, hb1B, hr1, hat1⟩ := (HPA.out.up HV1r.out (Nat.le_refl _)).at_ hlt
            have hkI : (k : Int) < (ra.length : Int) := by omega
            have HK1 : Hid (al[k]? = some r1.a) := by show _ = _; rw [← HMA.out, List.getElem?_map, hr1]; rfl
            obtain ⟨sb, hsb⟩ : ∃ t, κ r1.a = t := ⟨_, rfl⟩
            have HSB := Lib.hid hsb
            have hfa := filter_at (κ := κ) HK1.out
            rw [HJK.out] at hfa
            have HFT : Hid (sb = true → ((al.take (k + 1)).filter κ).length = j + 1) := fun h => (hfa.1 (hsb.trans h)).2
            have HFF : Hid (sb = false → ((al.take (k + 1)).filter κ).length = j) := fun h => (hfa.2 (hsb.trans h)).2
            by_cases hj : j < rb.length
            · obtain ⟨b2, o2, r2, rfl, hb2B, hr2, hat2⟩ := (HPB.out.up HV2r.out (Nat.le_refl _)).at_ hj
              have hjI : (j : Int) < (rb.length : Int) := by omega
              have hk2 : (al.filter κ)[j]? = some r2.a := by rw [← HMB.out, List.getElem?_map, hr2]; rfl
              have ho1 : ArO wr V1.heap.size r1 ∨ True := .inr trivial
              have HSA : Hid (∀ V, Below wr.heap.size wr V → Calls Tryz.prog 18 #[.agg (cAr r1), .agg (cAr r2)] V fun e w' => e = .returned (.bool sb) ∧ Below V.heap.size V w') := fun V hb => by
                have g1 := ((HRA.out r1 (List.mem_of_getElem? hr1)).on HV1r.out).on hb
                have g2 := ((HRB.out r2 (List.mem_of_getElem? hr2)).on HV2r.out).on hb
                cases sb with
                | true =>
                  have h1 := (hfa.1 hsb).1
                  rw [hk2] at h1
                  injection h1 with h1
                  exact same_rr r1 r2 _ _ V h1.symm g1 g2 (HOK.out _ (List.mem_of_getElem? HK1.out))
                | false =>
                  have h1 := (hfa.2 hsb).1 _ hk2
                  exact same_ne r1 r2 V (pairwise_drop HUN.out HK1.out h1)
              have HRG : Hid (∀ V, Below wr.heap.size wr V → V.rangeAt b1 (o1 + k * 20) (fAr r1) ∧ V.rangeAt b2 (o2 + j * 20) (fAr r2)) := fun V hb =>
                ⟨fun i v hv => by rw [Nat.add_assoc]; exact (World.cell?_of_block (hb.block b1 (Nat.lt_of_lt_of_le hb1B HV1r.out.size))).trans (hat1 i v hv), fun i v hv => by rw [Nat.add_assoc]; exact (World.cell?_of_block (hb.block b2 (Nat.lt_of_lt_of_le hb2B HV2r.out.size))).trans (hat2 i v hv)⟩
              clear hfa hsb hat1 hat2 hk2 hr1 hr2 ho1
              go_upto_region 12 with fail
              refine wp_region_held_drew (S := (fun w' => w'.rangeAt b1 (o1 + k * 20) (fAr r1) ∧ w'.rangeAt b2 (o2 + j * 20) (fAr r2))) (by kernel_rfl) (by exact HRG.out _ (Below.refl _ wr).drew) (fun hHeld => ?_)
              refine tkH (i := 0) (v := ?p1v) (y := (Or.inl ⟨by rfl, ?p1y⟩)) (h := ?p1r)
              case p1y => (intro w hSw; (try dsimp only at hSw); go_simp; try (with_reducible rfl))
              try simp only [pt]
              refine tkH (i := 1) (v := ?p2v) (y := (Or.inl ⟨by rfl, ?p2y⟩)) (h := ?p2r)
              case p2y => (intro w hSw; (try dsimp only at hSw); go_simp; try (with_reducible rfl))
              try simp only [pt]
              refine tkH (i := 2) (v := ?p3v) (y := (Or.inl ⟨by rfl, ?p3y⟩)) (h := ?p3r)
              case p3y => (intro w hSw; (try dsimp only at hSw); go_simp; try (with_reducible rfl))
              try simp only [pt]
              refine tkH (i := 3) (v := ?p4v) (y := (Or.inl ⟨by rfl, ?p4y⟩)) (h := ?p4r)
              case p4y => (intro w hSw; (try dsimp only at hSw); go_simp; try (with_reducible rfl))
              try simp only [pt]
              refine tkH (i := 4) (v := ?p5v) (y := (Or.inl ⟨by rfl, ?p5y⟩)) (h := ?p5r)
              case p5y => (intro w hSw; (try dsimp only at hSw); go_simp; try (with_reducible rfl))
              try simp only [pt]
              refine tkH (i := 5) (v := ?p6v) (y := (Or.inl ⟨by rfl, ?p6y⟩)) (h := ?p6r)
              case p6y => (intro w hSw; (try dsimp only at hSw); go_simp; try (with_reducible rfl))
              try simp only [pt]
              refine tkH (i := 6) (v := ?p7v) (y := (Or.inl ⟨by rfl, ?p7y⟩)) (h := ?p7r)
              case p7y => (intro w hSw; (try dsimp only at hSw); go_simp; try (with_reducible rfl))
              try simp only [pt]
              refine tkH (i := 7) (v := ?p8v) (y := (Or.inl ⟨by rfl, ?p8y⟩)) (h := ?p8r)
              case p8y => (intro w hSw; (try dsimp only at hSw); go_simp; try (with_reducible rfl))
              try simp only [pt]
              refine tkH (i := 8) (v := _) (y := (yieldsIf_load_mid (by rfl) 39 (.tmp 61) rfl b1 (o1 + k * 20) (by rfl) (fAr r1) _ (fun _ h => h.1) Tryz.underlying39 rfl (sizeArL r1))) (h := ?_)
              try simp only [pt]
              refine tkH (i := 9) (v := ?p10v) (y := (Or.inl ⟨by rfl, ?p10y⟩)) (h := ?p10r)
              case p10y => (intro w hSw; (try dsimp only at hSw); go_simp; try (with_reducible rfl))
              try simp only [pt]
              refine tkH (i := 10) (v := ?p11v) (y := (Or.inl ⟨by rfl, ?p11y⟩)) (h := ?p11r)
              case p11y => (intro w hSw; (try dsimp only at hSw); go_simp; try (with_reducible rfl))
              try simp only [pt]
              refine tkH (i := 11) (v := ?p12v) (y := (Or.inl ⟨by rfl, ?p12y⟩)) (h := ?p12r)
              case p12y => (intro w hSw; (try dsimp only at hSw); go_simp; try (with_reducible rfl))
              try simp only [pt]
              refine tkH (i := 12) (v := _) (y := (yieldsIf_load_mid (by rfl) 39 (.tmp 65) rfl b2 (o2 + j * 20) (by rfl) (fAr r2) _ (fun _ h => h.2) Tryz.underlying39 rfl (sizeArL r2))) (h := ?_)
              try simp only [pt]
              refine wpAnyH_ready (rs := [13]) (by kernel_rfl) (by simp) ?_
              refine AllReadyH.cons (by simp only [List.getElem?_toArray, List.getElem?_cons_succ, List.getElem?_cons_zero]; rfl) (fun K hK => ?_) (AllReadyH.nil)
              (go_simp; go_at_call 18; (with_reducible refine (HSA.out _ (Below.refl _ wr).drew).mono ?_); rintro e w13 ⟨rfl, hb13⟩; (have HB13 : Hid (Below wr.heap.size wr w13) := (Below.refl _ wr).drew.trans hb13); clear hb13; go_wp2_with fail)
              refine hK.out _ _ (by exact HRG.out _ HB13.out) (fun hHeldp14 => ?_)
              clear hK K hHeld
              try simp only [pt]
              refine tkH (i := 14) (v := ?p15v) (y := (Or.inl ⟨by rfl, ?p15y⟩)) (h := ?p15r)
              case p15y => (intro w hSw; (try dsimp only at hSw); go_simp; try (with_reducible rfl))
              try simp only [pt]
              refine wpAnyH_done (by kernel_rfl) ?_ _
              cases sb with
              | true =>
                go_wp2_with fail
                go_roundw
                case rel => exact ⟨k + 1, j + 1, by omega, by go_num, by go_num, HFT.out rfl, HVr.out.trans (HB13.out.mono HVr.out.size), HV1r.out.trans (HB13.out.mono HV1r.out.size), HV2r.out.trans (HB13.out.mono HV2r.out.size)⟩
                case measure => simp [intOf]; omega
              | false =>
                go_wp2_with fail
                go_roundw
                case rel => exact ⟨k + 1, j, by omega, rfl, by go_num, HFF.out rfl, HVr.out.trans (HB13.out.mono HVr.out.size), HV1r.out.trans (HB13.out.mono HV1r.out.size), HV2r.out.trans (HB13.out.mono HV2r.out.size)⟩
                case measure => simp [intOf]; omega
            · have hjI : ¬ (j : Int) < (rb.length : Int) := by omega
              obtain rfl : sb = false := by
                cases sb with
                | false => rfl
                | true =>
                  have h1 := (hfa.1 hsb).1
                  have h2 := (List.getElem?_eq_some_iff.1 h1).1
                  have h3 := HLB.out
                  omega
              have hjd : decide ((j : Int) < (rb.length : Int)) = false := by simpa using hjI
              have HSB2 : Hid (false = false) := rfl
              clear hfa hsb hat1 hr1
              go_upto_region 12 with fail
              refine wp_region_held_drew (S := (fun _ => True)) (by kernel_rfl) (by trivial) (fun hHeld => ?_)
              refine tkH (i := 0) (v := ?q1v) (y := (Or.inl ⟨by rfl, ?q1y⟩)) (h := ?q1r)
              case q1y => (intro w hSw; (try dsimp only at hSw); go_simp; try (with_reducible rfl))
              try simp only [pt]
              refine tkH (i := 1) (v := ?q2v) (y := (Or.inl ⟨by rfl, ?q2y⟩)) (h := ?q2r)
              case q2y => (intro w hSw; (try dsimp only at hSw); go_simp; try (with_reducible rfl))
              try simp only [pt]
              refine tkH (i := 2) (v := ?q3v) (y := (Or.inl ⟨by rfl, ?q3y⟩)) (h := ?q3r)
              case q3y => (intro w hSw; (try dsimp only at hSw); go_simp; try (with_reducible rfl))
              try simp only [pt]
              refine tkH (i := 3) (v := ?q4v) (y := (Or.inl ⟨by rfl, ?q4y⟩)) (h := ?q4r)
              case q4y => (intro w hSw; (try dsimp only at hSw); go_simp; try (with_reducible rfl))
              try simp only [pt]
              refine tkH (i := 4) (v := ?q5v) (y := (Or.inl ⟨by rfl, ?q5y⟩)) (h := ?q5r)
              case q5y => (intro w hSw; (try dsimp only at hSw); go_simp; try (with_reducible rfl))
              try simp only [pt]
              refine tkH (i := 5) (v := _) (y := (Or.inr ⟨by rfl, rfl⟩)) (h := ?_)
              try simp only [pt]
              refine tkH (i := 6) (v := _) (y := (Or.inr ⟨by rfl, rfl⟩)) (h := ?_)
              try simp only [pt]
              refine tkH (i := 7) (v := _) (y := (Or.inr ⟨by rfl, rfl⟩)) (h := ?_)
              try simp only [pt]
              refine tkH (i := 8) (v := _) (y := (Or.inr ⟨by rfl, rfl⟩)) (h := ?_)
              try simp only [pt]
              refine tkH (i := 9) (v := _) (y := (Or.inr ⟨by rfl, rfl⟩)) (h := ?_)
              try simp only [pt]
              refine tkH (i := 10) (v := _) (y := (Or.inr ⟨by rfl, rfl⟩)) (h := ?_)
              try simp only [pt]
              refine tkH (i := 11) (v := _) (y := (Or.inr ⟨by rfl, rfl⟩)) (h := ?_)
              try simp only [pt]
              refine tkH (i := 12) (v := _) (y := (Or.inr ⟨by rfl, rfl⟩)) (h := ?_)
              try simp only [pt]
              refine tkH (i := 13) (v := _) (y := (Or.inr ⟨by rfl, rfl⟩)) (h := ?_)
              try simp only [pt]
              refine tkH (i := 14) (v := ?q15v) (y := (Or.inl ⟨by rfl, ?q15y⟩)) (h := ?q15r)
              case q15y => (intro w hSw; (try dsimp only at hSw); go_simp; try (with_reducible rfl))
              try simp only [pt]
              refine wpAnyH_done (by kernel_rfl) ?_ _
              go_wp2_with fail
              go_roundw
              case rel => exact ⟨k + 1, j, by omega, rfl, by go_num, HFF.out rfl, HVr.out.drew, HV1r.out.drew, HV2r.out.drew⟩
              case measure => simp [intOf]; omega
            -- END round1
          · -- PART rest1
            obtain rfl : k = ra.length := by omega
            have HJF : Hid (j = rb.length) := by
              show _ = _
              rw [← HJK.out, HLB.out, List.take_of_length_le (by have := HLA.out; omega)]
            have HL1 := HVr
            have HL2 := HV2r
            clear HJK HV1r HV2r HVr
            go_upto_region 14 with fail
            refine wp_region_held_drew (S := (fun w' => w'.heap[w.heap.size]? = some (.cells (cVw x) 29 (0, 0)) ∧ w'.heap[w4.heap.size]? = some (.cells (cVw y) 29 (0, 0)))) (by kernel_rfl) (by exact HCV.out _ HL1.out.drew) (fun hHeld => ?_)
            refine tkH (i := 0) (v := ?a1v) (y := (Or.inl ⟨by rfl, ?a1y⟩)) (h := ?a1r)
            case a1y => (intro w hSw; (try dsimp only at hSw); obtain ⟨v0, v1, v2, v3, v4, v5, v6⟩ := cellsV hSw.1; go_simp; try (with_reducible rfl))
            try simp only [pt]
            refine tkH (i := 2) (v := ?a2v) (y := (Or.inl ⟨by rfl, ?a2y⟩)) (h := ?a2r)
            case a2y => (intro w hSw; (try dsimp only at hSw); obtain ⟨v0, v1, v2, v3, v4, v5, v6⟩ := cellsV hSw.2; go_simp; try (with_reducible rfl))
            try simp only [pt]
            refine wpAnyH_ready (rs := [1]) (by kernel_rfl) (by simp) ?_
            refine AllReadyH.cons (by simp only [List.getElem?_toArray, List.getElem?_cons_succ, List.getElem?_cons_zero]; rfl) (fun K hK => ?_) (AllReadyH.nil)
            (go_simp; go_at_call 19; (with_reducible refine (HAX.out _ (HL1.out.drew)).mono ?_); rintro e V3 ⟨v, rfl, ho, hb⟩; (obtain ⟨OA, oc, hv, hc, hps, _⟩ := ho.shape); subst hv; (have HPO := Lib.hid hps); (have HV3 : Hid (Below W10.heap.size W10 V3) := HL1.out.drew.trans (hb.mono HL1.out.drew.size)); (have HV23 : Hid (Below V2.heap.size V2 V3) := HL2.out.drew.trans (hb.mono HL2.out.drew.size)); clear ho hc hps hb; go_wp2_with fail)
            refine hK.out _ _ (by exact HCV.out _ HV3.out) (fun hHelda3 => ?_)
            clear hK K hHeld
            try simp only [pt]
            refine wpAnyH_ready (rs := [3]) (by kernel_rfl) (by simp) ?_
            refine AllReadyH.cons (by simp only [List.getElem?_toArray, List.getElem?_cons_succ, List.getElem?_cons_zero]; rfl) (fun K hK => ?_) (AllReadyH.nil)
            (go_simp; go_at_call 19; (with_reducible refine (HAY.out _ HV3.out).mono ?_); rintro e V4 ⟨v, rfl, ho, hb⟩; (obtain ⟨NA, nc, hv, hc, hps, _⟩ := ho.shape); subst hv; (have HPN := Lib.hid hps); (have HV4 : Hid (Below W10.heap.size W10 V4) := HV3.out.trans (hb.mono HV3.out.size)); (have HV34 := Lib.hid hb); (have HV24 : Hid (Below V2.heap.size V2 V4) := HV23.out.trans (hb.mono HV23.out.size)); clear ho hc hps hb; go_wp2_with fail)
            refine hK.out _ _ (by exact HCV.out _ HV4.out) (fun hHelda4 => ?_)
            clear hK K hHelda3
            try simp only [pt]
            refine tkH (i := 4) (v := ?a5v) (y := (Or.inl ⟨by rfl, ?a5y⟩)) (h := ?a5r)
            case a5y => (intro w hSw; (try dsimp only at hSw); go_simp; try (with_reducible rfl))
            try simp only [pt]
            refine tkH (i := 5) (v := ?a6v) (y := (Or.inl ⟨by rfl, ?a6y⟩)) (h := ?a6r)
            case a6y => (intro w hSw; (try dsimp only at hSw); go_simp; try (with_reducible rfl))
            try simp only [pt]
            refine wpAnyH_done (by kernel_rfl) ?_ _
            go_wp2_with fail
            have HVk : Hid (Below W10.heap.size W10 V4) := HV4
            have hln : ln.length ≤ 12 := by have := HLNL.out.1; omega
            have hlo : lo.length ≤ 12 := by have := HLNL.out.2; omega
            have HIN : Hid (∀ d ∈ ln, Calls Tryz.prog 20 #[.slice OA lo.length oc, .int .i64 d] V4 fun e w' => e = .returned (.bool true) ∧ V4 = w') := fun d hd => by
              have h1 := inJ_any OA lo.length oc V3.heap.size lo d V4 ⟨rfl, HPO.out.up HV34.out (Nat.le_refl _)⟩ (by omega)
              rw [List.contains_iff_mem.2 (HSUB.out d hd)] at h1
              exact h1
            go_wp2_with fail
            go_loop [14] (fun i => ∃ k : Nat, k ≤ ln.length ∧ i = .int .i64 k) (fun i => ln.length - (intOf i).toNat)
            case atStart => exact ⟨0, Nat.zero_le _, rfl⟩
            case round =>
              obtain ⟨k, hk, rfl⟩ := hrel
              by_cases hlt : k < ln.length
              · obtain ⟨b3, o3, d3, rfl, hb3B, hd3, hat3⟩ := HPN.out.at_ hlt
                have hkI : (k : Int) < (ln.length : Int) := by omega
                have HI3 := Lib.hid (HIN.out d3 (List.mem_of_getElem? hd3))
                clear hd3
                go_wp2_with (go_at_call 20; (with_reducible refine HI3.out.mono ?_); rintro e w15 ⟨rfl, rfl⟩)
                go_round
                case rel => exact ⟨k + 1, by omega, by go_num⟩
                case measure => simp [intOf]; omega
              · obtain rfl : k = ln.length := by omega
                clear HIN
                go_wp2_with fail
                go_loop [15] (fun i => ∃ k : Nat, k ≤ rb.length ∧ i = .int .i64 k) (fun i => rb.length - (intOf i).toNat)
                case atStart => exact ⟨0, Nat.zero_le _, rfl⟩
                case round =>
                  obtain ⟨k, hk, rfl⟩ := hrel
                  by_cases hlt : k < rb.length
                  · obtain ⟨b2, o2, r2, rfl, hb2B, hr2, hat2⟩ := (HPB.out.up HV24.out (Nat.le_refl _)).at_ hlt
                    have hkI : (k : Int) < (rb.length : Int) := by omega
                    have x4 : V4.cell? ⟨b2, o2 + k * 20 + 4, none⟩ = some (.string r2.a.R.s) := by rw [Nat.add_assoc]; exact hat2 4 _ rfl
                    have hk2 : (al.filter κ)[k]? = some r2.a := by rw [← HMB.out, List.getElem?_map, hr2]; rfl
                    have hne : r2.a.R.s ≠ dr := HKD.out _ (List.mem_filter.1 (List.mem_of_getElem? hk2)).2
                    have hnl : ¬ r2.a.R.s.toList = dr.toList := fun h => hne (by
                      have h1 := beqD r2.a.R.s dr
                      rw [decide_eq_false hne] at h1
                      simp [h] at h1)
                    have hnb : (r2.a.R.s.toList == dr.toList) = false := by simp [hnl]
                    have HNE := Lib.hid hne
                    clear hat2 hk2 hr2 hne
                    go_wp2_with fail
                    go_round
                    case rel => exact ⟨k + 1, by omega, by go_num⟩
                    case measure => simp [intOf]; omega
                  · obtain rfl : k = rb.length := by omega
                    have hjf := HJF.out
                    subst hjf
                    have HBV4 : Hid (Below w.heap.size w V4) := HBX.out.trans (HV4.out.mono HBX.out.size)
                    go_wp2_with (go_at_call 11; (with_reducible refine (HAW.out _ HBV4.out).mono ?_); rintro e w16 ⟨rfl, hb16⟩; (have HB16 : Hid (Below w.heap.size w w16) := HBV4.out.trans (Below.mono hb16 HBV4.out.size)); clear hb16)
                    go_ret
                    exact ⟨rfl, HB16.out⟩
            -- END rest1
      
      -- END main
    · have hnI : (3000 : Int) < (bd.n : Int) := by omega
      clear hg4v hg4e
      go_wp2_with (go_at_call 11; (with_reducible refine (HAW.out _ HBw4.out).mono ?_); rintro e w9 ⟨rfl, hb9⟩; (have HB9 : Hid (Below w.heap.size w w9) := HBw4.out.trans (Below.mono hb9 HBw4.out.size)); clear hb9)
      go_ret
      exact ⟨rfl, HB9.out⟩
end Go.Proofs.YtpdledjgbgalcaaGreatDoor
