/- The law of acquittals. -/
import Derived.Test.YtnfkjnmdfijhnaaGreatDoorZf
import Derived.Test.YtnfkjnmdfijhnaaGreatDoorMq
import Derived.Test.YtnfkjnmdfijhnaaGreatDoorQ3
import Derived.Test.YtnfkjnmdfijhnaaGreatDoorQ6
import Derived.Test.YtnfkjnmdfijhnaaGreatDoorD1
namespace Go.Proofs.YtnfkjnmdfijhnaaGreatDoor
open Go.RowKit Go.Lib
set_option linter.unusedVariables false
set_option linter.unusedSimpArgs false

set_option maxRecDepth 100000 in
set_option maxHeartbeats 16000000 in
theorem acquittals_any (d q : Int) (p : Pc) (k : Int) (B : Nat) (xs : List Int) (ys : List ByteArray) (w : World) (hG : Glob w) (hx : PcIn w B p xs ys) (hB : B ≤ w.heap.size) (hxb : Byt xs) :
    Calls Tryz.prog 3 #[.int .i64 d, .int .i64 q, .agg (cPc p), .int .i64 k] w fun e w' => e = .returned (.bool true) ∧ Below w.heap.size w w' := by
  obtain ⟨s, ix, ⟨a, n, c⟩, ⟨a', m, c'⟩⟩ := p
  obtain ⟨W1, hW1⟩ : ∃ W1 : World, W1 = w.alloc (.cells #[.string s, .int .i64 ix, .slice a n c, .slice a' m c'] 27) := ⟨_, rfl⟩
  have hb1 : Below w.heap.size w W1 := by rw [hW1]; exact (Below.refl _ _).alloc (Nat.le_refl _) _
  have hs1 : W1.heap.size = w.heap.size + 1 := by rw [hW1]; simp
  have hcp : W1.heap[w.heap.size]? = some (.cells #[.string s, .int .i64 ix, .slice a n c, .slice a' m c'] 27 (0, 0)) := by rw [hW1]; exact heap_alloc_new w _
  have HCB : Hid (∀ V, Below W1.heap.size W1 V → V.cell? ⟨w.heap.size, 0, none⟩ = some (.string s) ∧ V.cell? ⟨w.heap.size, 1, none⟩ = some (.int .i64 ix) ∧ V.cell? ⟨w.heap.size, 2, none⟩ = some (.slice a n c) ∧ V.cell? ⟨w.heap.size, 3, none⟩ = some (.slice a' m c')) := fun V hb => by
    have h := (hb.block w.heap.size (by omega)).trans hcp
    refine ⟨?_, ?_, ?_, ?_⟩ <;> (rw [cell_of_row V _ _ _ _ _ h]; rfl)
  have HAw : Hid (∀ W, Below W1.heap.size W1 W → Calls Tryz.prog 6 #[] W fun e w' => e = .returned (.bool true) ∧ Below W.heap.size W w') := fun W hb => awake_any W ((hG.on hb1).on hb)
  have HXP : Hid (∀ V, Below W1.heap.size W1 V → PcIn V B ⟨s, ix, ⟨a, n, c⟩, ⟨a', m, c'⟩⟩ xs ys ∧ B ≤ V.heap.size) := fun V hb => ⟨hx.up (hb1.trans (hb.mono hb1.size)) hB, Nat.le_trans hB (Nat.le_trans hb1.size hb.size)⟩
  have HXN : Hid (xs.length = n) := hx.1.1
  have HYN : Hid (ys.length = m) := hx.2.1.1
  have HXB := Lib.hid hxb
  have HB1 := Lib.hid hb1
  have HWE := Lib.hid hW1
  have HS1 := Lib.hid hs1
  have HBr : Hid (Below W1.heap.size W1 W1) := Below.refl _ _
  show Calls Tryz.prog 3 #[.int .i64 d, .int .i64 q, .agg #[.string s, .int .i64 ix, .slice a n c, .slice a' m c'], .int .i64 k] w _
  obtain ⟨k0, k1, k2, k3⟩ := HCB.out W1 HBr.out
  rw [hW1] at k0 k1 k2 k3
  clear hG hx hxb hB hb1 hs1 hcp hW1
  by_cases hn : n ≤ 2000
  · have hnI : ¬ (2000 : Int) < (n : Int) := by omega
    by_cases hm : m ≤ 20
    · have hmI : ¬ (20 : Int) < (m : Int) := by omega
      have HC := Lib.hid (eacq_any d q ⟨s, ix, ⟨a, n, c⟩, ⟨a', m, c'⟩⟩ xs ys B W1 (HXP.out W1 HBr.out).1 (HXP.out W1 HBr.out).2)
      unfold EAPost at HC
      have HEn := Lib.hid (fun W => entry_any d q W)
      have HSh : Hid (∀ V, Below W1.heap.size W1 V → Calls Tryz.prog 9 #[.agg #[.string s, .int .i64 ix, .slice a n c, .slice a' m c']] V fun e w' => e = .returned (.bool (shB ⟨s, ix, ⟨a, n, c⟩, ⟨a', m, c'⟩⟩ ys)) ∧ Below V.heap.size V w') := fun V hb => shaped_any ⟨s, ix, ⟨a, n, c⟩, ⟨a', m, c'⟩⟩ xs ys B V (HXP.out V hb).1 (HXP.out V hb).2 (by show m ≤ _; omega)
      cases h0 : numB d q
      · -- PART nonum
        rw [h0] at HEn
        have H0 := Lib.hid h0
        have HCb : Hid (Calls Tryz.prog 7 #[accZ d q, .agg #[.string s, .int .i64 ix, .slice a n c, .slice a' m c']] W1 fun e w' => e = .returned (.tuple #[.slice none 0 0, .int .i64 1]) ∧ Below W1.heap.size W1 w') := HC.out.mono (fun e w' h => by
          rcases h with ⟨hok, _⟩ | ⟨_, h⟩
          · rw [H0.out, Bool.false_and] at hok; cases hok
          · exact h)
        rw [HWE.out] at HCb
        clear HC h0
        go_enter Tryz.func3, Tryz.ntmps3
        go_wp2_with (first
          | (go_at_call 7; (with_reducible refine HCb.out.mono ?_); rintro e W2 ⟨rfl, hb2⟩; rw [← HWE.out] at hb2
             have HB2 := Lib.hid hb2
             clear hb2 k0 k1 k2 k3
             obtain ⟨k0, k1, k2, k3⟩ := HCB.out _ HB2.out)
          | (go_at_call 8; (with_reducible refine (HEn.out _).mono ?_); rintro e w2 ⟨rfl, rfl⟩)
          | (go_at_call 6; (with_reducible refine (HAw.out _ HB2.out).mono ?_); rintro e w3 ⟨rfl, hb3⟩; (have HB3 : Hid (Below W1.heap.size W1 w3) := HB2.out.trans (hb3.mono HB2.out.size)); clear hb3))
        go_ret
        exact ⟨rfl, HB1.out.trans (HB3.out.mono HB1.out.size)⟩
        -- END nonum
      · rw [h0] at HEn
        have hnb := of_decide_eq_true h0
        cases h1 : shB ⟨s, ix, ⟨a, n, c⟩, ⟨a', m, c'⟩⟩ ys
        · -- PART noshape
          rw [h1] at HSh
          have H1 := Lib.hid h1
          have HCb : Hid (Calls Tryz.prog 7 #[accZ d q, .agg #[.string s, .int .i64 ix, .slice a n c, .slice a' m c']] W1 fun e w' => e = .returned (.tuple #[.slice none 0 0, .int .i64 1]) ∧ Below W1.heap.size W1 w') := HC.out.mono (fun e w' h => by
            rcases h with ⟨hok, _⟩ | ⟨_, h⟩
            · rw [H1.out, Bool.and_false] at hok; cases hok
            · exact h)
          rw [HWE.out] at HCb
          clear HC h0 h1 hnb
          go_enter Tryz.func3, Tryz.ntmps3
          go_wp2_with (first
            | (go_at_call 7; (with_reducible refine HCb.out.mono ?_); rintro e W2 ⟨rfl, hb2⟩; rw [← HWE.out] at hb2
               have HB2 := Lib.hid hb2
               clear hb2 k0 k1 k2 k3
               obtain ⟨k0, k1, k2, k3⟩ := HCB.out _ HB2.out)
            | (go_at_call 8; (with_reducible refine (HEn.out _).mono ?_); rintro e w2 ⟨rfl, rfl⟩)
            | (go_at_call 9; (with_reducible refine (HSh.out _ HB2.out).mono ?_); rintro e w2 ⟨rfl, hb2⟩
               have HB2s : Hid (Below W1.heap.size W1 w2) := HB2.out.trans (hb2.mono HB2.out.size)
               clear hb2 k0 k1 k2 k3)
            | (go_at_call 6; (with_reducible refine (HAw.out _ HB2s.out).mono ?_); rintro e w3 ⟨rfl, hb3⟩; (have HB3 : Hid (Below W1.heap.size W1 w3) := HB2s.out.trans (hb3.mono HB2s.out.size)); clear hb3))
          go_ret
          exact ⟨rfl, HB1.out.trans (HB3.out.mono HB1.out.size)⟩
          -- END noshape
        · rw [h1] at HSh
          obtain ⟨⟨z1, z2, z3⟩, ⟨z4, z5⟩, ⟨z6, z7⟩, z8⟩ := of_decide_eq_true h1
          obtain ⟨⟨y1, y2⟩, ⟨y3, y4⟩⟩ := hnb
          dsimp only at z1 z2 z3 z4 z5 z6 z7
          have H01 : Hid ((numB d q && shB ⟨s, ix, ⟨a, n, c⟩, ⟨a', m, c'⟩⟩ ys) = true) := by show _ = _; rw [h0, h1]; rfl
          have HSU := Lib.hid (sumsB_iff.1 z8)
          obtain ⟨d, rfl⟩ : ∃ k : Nat, d = k := ⟨d.toNat, by omega⟩
          obtain ⟨q, rfl⟩ : ∃ k : Nat, q = k := ⟨q.toNat, by omega⟩
          obtain ⟨ix, rfl⟩ : ∃ k : Nat, ix = k := ⟨ix.toNat, by omega⟩
          have hxn := HXN.out
          have hyn := HYN.out
          have HRD := Lib.hid (encA_read (d := d) (q := q) (ix := ix) (s := s) (xs := xs) (ys := ys) (by omega) (by omega) (by omega) z1 (by omega) (by omega) (by omega) (by omega) (by omega) HSU.out)
          have HRE : Hid (∀ V, Below W1.heap.size W1 V → Calls Tryz.prog 11 #[.int .i64 (d : Int), .int .i64 (q : Int), .agg #[.string s, .int .i64 (ix : Int), .slice a n c, .slice a' m c']] V (Slc fB (encA d q s ix xs ys) V)) := fun V hb => reacq_any d q ix s a a' n c m c' xs ys B V (HXP.out V hb).1.1 (HXP.out V hb).1.2.1 (HXP.out V hb).2 (by omega) (by omega) (by omega) z1 HSU.out (by omega) (by omega) HXB.out
          have HLB : Hid (∀ b ∈ encA d q s ix xs ys, 0 ≤ b ∧ b < 256) := by
            show ∀ b ∈ _, _
            unfold encA
            refine Byt.app (enc_rng _) (Byt.app (enc_rng _) (Byt.app (sB_rng _) (Byt.app (enc_rng _) (Byt.app (enc_rng _) (Byt.app HXB.out (Byt.app (enc_rng _) ?_))))))
            intro b hb
            obtain ⟨x, _, h⟩ := List.mem_flatMap.1 hb
            exact sB_rng x b h
          have HLL : Hid ((encA d q s ix xs ys).length ≤ 1000000) := by
            show _ ≤ _
            unfold encA
            have e1 := enc_len d
            have e2 := enc_len q
            have e3 := enc_len ix
            have e4 := enc_len xs.length
            have e5 := enc_len ys.length
            have e6 := flat_len32 HSU.out
            have e7 := sB_len s
            simp only [List.length_append]
            omega
          obtain ⟨L, hL⟩ : ∃ L, L = encA d q s ix xs ys := ⟨_, rfl⟩
          have HCo : Hid (Calls Tryz.prog 7 #[accZ (d : Int) (q : Int), .agg #[.string s, .int .i64 (ix : Int), .slice a n c, .slice a' m c']] W1 (Slc2 fB L 0 W1)) := HC.out.mono (fun e w' h => by
            rcases h with ⟨_, h⟩ | ⟨hbad, _⟩
            · rw [hL]; exact h
            · rw [H01.out] at hbad; cases hbad)
          rw [← hL] at HRD HRE HLB HLL
          rw [HWE.out] at HCo
          clear HC h0 h1 z8 hL
          go_enter Tryz.func3, Tryz.ntmps3
          go_upto_region 6 with (first
            | (go_at_call 7; (with_reducible refine HCo.out.mono ?_); rintro e W2 ⟨A1, n1, c1, rfl, hc2, hs2, hb2⟩; rw [← HWE.out] at hb2
               have HB2e := Lib.hid hb2
               have HS2e := Lib.hid hs2
               have HC2 := Lib.hid hc2
               clear hb2 hs2 hc2 k0 k1 k2 k3
               obtain ⟨k0, k1, k2, k3⟩ := HCB.out _ HB2e.out)
            | (go_at_call 8; (with_reducible refine (HEn.out _).mono ?_); rintro e w2 ⟨rfl, rfl⟩)
            | (go_at_call 9; (with_reducible refine (HSh.out _ HB2e.out).mono ?_); rintro e W3 ⟨rfl, hb2⟩
               have HB23 := Lib.hid hb2
               clear hb2 k0 k1 k2 k3))
          have HB2 : Hid (Below W1.heap.size W1 W3) := HB2e.out.trans (HB23.out.mono HB2e.out.size)
          have HS2 : Hid (Sl fB W3 W3.heap.size A1 n1 L) := (HS2e.out.up HB23.out (Nat.le_refl _)).more' HB23.out.size
          clear HB2e HS2e HB23 HEn HSh HCo
          obtain ⟨W2, hW2⟩ : ∃ W, W = W3 := ⟨_, rfl⟩
          rw [← hW2] at HB2 HS2 ⊢
          clear hW2
          have HN1 : Hid (n1 ≤ 1000000) := by show _ ≤ _; have := HS2.out.1; have := HLL.out; omega
          obtain ⟨k0, k1, k2, k3⟩ := HCB.out _ HB2.out
          by_cases hk : k = 7
          · -- PART seven
            subst hk
            have HD := Lib.hid (dacq_any 0 0 0 ⟨#[]⟩ A1 n1 c1 W2.heap.size L W2 HS2.out (Nat.le_refl _) HN1.out HLB.out)
            unfold DAPost at HD
            have HDo : Hid (Calls Tryz.prog 10 #[.agg #[.int .i64 0, .int .i64 0, .int .i64 7, .int .i64 0, .slice A1 n1 c1, .string ⟨#[]⟩]] W2 fun e w' => ∃ a2 c2 b2 d2, e = .returned (.tuple #[.int .i64 (d : Int), .int .i64 (q : Int), .agg #[.string s, .int .i64 (ix : Int), .slice a2 n c2, .slice b2 m d2], .int .i64 0]) ∧ PcIn w' w'.heap.size ⟨s, (ix : Int), ⟨a2, n, c2⟩, ⟨b2, m, d2⟩⟩ xs ys ∧ Below W2.heap.size W2 w') := HD.out.mono (fun e w' h => by
              obtain ⟨r1, r2, r3, r4, r5, r6⟩ := HRD.out
              rcases h with ⟨_, p, e1, e2, e3, e4, e5⟩ | ⟨hbad, _⟩
              · obtain ⟨ps, pix, ⟨pa, pn, pc⟩, ⟨pb, pm, pd⟩⟩ := p
                rw [r4] at e1 e2
                rw [r2, r3] at e3
                rw [r5, r6] at e4
                dsimp only at e1 e2
                subst e1
                subst e2
                obtain rfl : pn = n := by have h1 := e4.1.1; have h2 := HXN.out; dsimp only at h1; omega
                obtain rfl : pm = m := by have h1 := e4.2.1.1; have h2 := HYN.out; dsimp only at h1; omega
                exact ⟨pa, pc, pb, pd, e3, e4, e5⟩
              · rw [r1] at hbad; cases hbad)
            clear HD
            go_upto_region 7 with (first
              | (go_at_call 10; (with_reducible refine HDo.out.mono ?_); rintro e W4e ⟨a2, c2, b2, d2, rfl, hp4, hb4⟩
                 have HP4e := Lib.hid hp4
                 have HB4e := Lib.hid hb4
                 clear hp4 hb4)
              | (refine wpList_store_new (o := ⟨none, .store 27 (.tmp 13) (.tmp 60), _, _, _, _⟩) rfl 27 (.tmp 13) (.tmp 60) rfl 27 _ (cPc ⟨s, (ix : Int), ⟨a2, n, c2⟩, ⟨b2, m, d2⟩⟩) rfl rfl (pc4_size _) rfl (pc4_one _) ?_))
            obtain ⟨W4, hW4⟩ : ∃ W, W = W4e.alloc (.cells (cPc ⟨s, (ix : Int), ⟨a2, n, c2⟩, ⟨b2, m, d2⟩⟩) 27) := ⟨_, rfl⟩
            have h4e : Below W4e.heap.size W4e W4 := by rw [hW4]; exact (Below.refl _ _).alloc (Nat.le_refl _) _
            have HB2d : Hid (Below W2.heap.size W2 W4) := HB4e.out.trans (h4e.mono HB4e.out.size)
            have HP4 : Hid (PcIn W4 W4.heap.size ⟨s, (ix : Int), ⟨a2, n, c2⟩, ⟨b2, m, d2⟩⟩ xs ys) := (HP4e.out.up h4e (Nat.le_refl _)).more h4e.size
            have HQ4 : Hid (W4.heap[W4e.heap.size]? = some (.cells (cPc ⟨s, (ix : Int), ⟨a2, n, c2⟩, ⟨b2, m, d2⟩⟩) 27 (0, 0))) := by show _ = _; rw [hW4]; exact heap_alloc_new W4e _
            have HW4 := Lib.hid hW4
            clear h4e hW4 k0 k1 k2 k3
            change Code.wp _ _ _ _ (W4e.alloc (.cells (cPc ⟨s, (ix : Int), ⟨a2, n, c2⟩, ⟨b2, m, d2⟩⟩) 27))
            rw [← HW4.out]
            clear HW4
            have HB24 : Hid (Below W2.heap.size W2 W4) := HB2d.out
            have HB4 : Hid (Below W1.heap.size W1 W4) := HB2.out.trans (HB24.out.mono HB2.out.size)
            have HK : Hid (∀ w', Below W4.heap.size W4 w' → (convert 24 9 (.slice A1 n1 c1)).run Tryz.prog w' = .ok (.string (baOf L)) w' ∧ (w'.cell? ⟨w.heap.size, 0, none⟩ = some (.string s) ∧ w'.cell? ⟨w.heap.size, 1, none⟩ = some (.int .i64 (ix : Int)) ∧ w'.cell? ⟨w.heap.size, 2, none⟩ = some (.slice a n c) ∧ w'.cell? ⟨w.heap.size, 3, none⟩ = some (.slice a' m c'))) := fun w' hb => ⟨run_conv_sl (P := Tryz.prog) 24 5 9 Tryz.underlying24 Tryz.underlying5 Tryz.underlying9 w' W2.heap.size A1 n1 c1 L (HS2.out.up (HB24.out.trans (hb.mono HB24.out.size)) (Nat.le_refl _)), HCB.out w' (HB4.out.trans (hb.mono HB4.out.size))⟩
            have k0 := HK.out W4 (Below.refl _ _)
            have HRE4 : Hid (∀ W, Below W4.heap.size W4 W → Calls Tryz.prog 11 #[.int .i64 (d : Int), .int .i64 (q : Int), .agg #[.string s, .int .i64 (ix : Int), .slice a n c, .slice a' m c']] W fun e w' => ∃ A' n' c', e = .returned (.slice A' n' c') ∧ Below W4.heap.size W4 w' ∧ (convert 24 9 (.slice A' n' c')).run Tryz.prog w' = .ok (.string (baOf L)) w') := fun W hb =>
              (HRE.out W (HB4.out.trans (hb.mono HB4.out.size))).mono (fun e w' h => by
                obtain ⟨A', n', c', h1, _, h3, h4⟩ := h
                exact ⟨A', n', c', h1, hb.trans (h4.mono hb.size), run_conv_sl (P := Tryz.prog) 24 5 9 Tryz.underlying24 Tryz.underlying5 Tryz.underlying9 w' w'.heap.size A' n' c' L h3⟩)
            have HBq : Hid (Below W4.heap.size W4 W4) := Below.refl _ _
            refine wp_region_held_drew (S := (fun w' => (convert 24 9 (.slice A1 n1 c1)).run Tryz.prog w' = .ok (.string (baOf L)) w' ∧ (w'.cell? ⟨w.heap.size, 0, none⟩ = some (.string s) ∧ w'.cell? ⟨w.heap.size, 1, none⟩ = some (.int .i64 (ix : Int)) ∧ w'.cell? ⟨w.heap.size, 2, none⟩ = some (.slice a n c) ∧ w'.cell? ⟨w.heap.size, 3, none⟩ = some (.slice a' m c')))) (by kernel_rfl) (by first | exact HK.out _ HBq.out | exact HK.out _ (by repeat (first | exact Below.refl _ _ | exact HBq.out | refine Below.alloc ?_ (by simp <;> omega) _ | refine below_drewN' ?_ _ | refine below_drewN' (n := 1) ?_ _))) (fun hHeld => ?_)
            refine wpAnyH_take (i := 0) (v := ?seven0v) (by simp only [List.getElem?_toArray, List.getElem?_cons_zero]; rfl) (by kernel_rfl) (by kernel_rfl) (by kernel_rfl) (by exact fun _ _ _ h => h) (Or.inl ⟨by rfl, ?seven0y⟩) (by assumption) ?seven0r
            case seven0y => (intro w hSw; (try dsimp only at hSw); go_simp; try (with_reducible rfl))
            try simp only [Act.put, List.setIfInBounds_toArray, List.set_cons_zero, List.set_cons_succ]
            refine wpAnyH_take (i := 1) (v := ?seven1v) (by simp only [List.getElem?_toArray, List.getElem?_cons_succ, List.getElem?_cons_zero]; rfl) (by kernel_rfl) (by kernel_rfl) (by kernel_rfl) (by exact fun _ _ _ h => h) (Or.inl ⟨by rfl, ?seven1y⟩) (by assumption) ?seven1r
            case seven1y => (intro w hSw; (try dsimp only at hSw); go_simp; try (with_reducible rfl))
            try simp only [Act.put, List.setIfInBounds_toArray, List.set_cons_zero, List.set_cons_succ]
            refine wpAnyH_take (i := 2) (v := ?seven2v) (by simp only [List.getElem?_toArray, List.getElem?_cons_succ, List.getElem?_cons_zero]; rfl) (by kernel_rfl) (by kernel_rfl) (by kernel_rfl) (by exact fun _ _ _ h => h) (Or.inl ⟨by rfl, ?seven2y⟩) (by assumption) ?seven2r
            case seven2y => (intro w hSw; (try dsimp only at hSw); go_simp; try (with_reducible rfl))
            try simp only [Act.put, List.setIfInBounds_toArray, List.set_cons_zero, List.set_cons_succ]
            refine wpAnyH_take (i := 3) (v := ?seven3v) (by simp only [List.getElem?_toArray, List.getElem?_cons_succ, List.getElem?_cons_zero]; rfl) (by kernel_rfl) (by kernel_rfl) (by kernel_rfl) (by exact fun _ _ _ h => h) (Or.inl ⟨by rfl, ?seven3y⟩) (by assumption) ?seven3r
            case seven3y => (intro w hSw; (try dsimp only at hSw); go_simp; try (with_reducible rfl))
            try simp only [Act.put, List.setIfInBounds_toArray, List.set_cons_zero, List.set_cons_succ]
            refine wpAnyH_take (i := 4) (v := ?seven4v) (by simp only [List.getElem?_toArray, List.getElem?_cons_succ, List.getElem?_cons_zero]; rfl) (by kernel_rfl) (by kernel_rfl) (by kernel_rfl) (by exact fun _ _ _ h => h) (Or.inl ⟨by rfl, ?seven4y⟩) (by assumption) ?seven4r
            case seven4y => (intro w hSw; (try dsimp only at hSw); (have hSc := hSw.1); go_simp; try (with_reducible rfl))
            try simp only [Act.put, List.setIfInBounds_toArray, List.set_cons_zero, List.set_cons_succ]
            refine wpAnyH_take (i := 5) (v := ?seven5v) (by simp only [List.getElem?_toArray, List.getElem?_cons_succ, List.getElem?_cons_zero]; rfl) (by kernel_rfl) (by kernel_rfl) (by kernel_rfl) (by exact fun _ _ _ h => h) (Or.inl ⟨by rfl, ?seven5y⟩) (by assumption) ?seven5r
            case seven5y => (intro w hSw; (try dsimp only at hSw); go_simp; try (with_reducible rfl))
            try simp only [Act.put, List.setIfInBounds_toArray, List.set_cons_zero, List.set_cons_succ]
            refine wpAnyH_take (i := 6) (v := ?seven6v) (by simp only [List.getElem?_toArray, List.getElem?_cons_succ, List.getElem?_cons_zero]; rfl) (by kernel_rfl) (by kernel_rfl) (by kernel_rfl) (by exact fun _ _ _ h => h) (Or.inl ⟨by rfl, ?seven6y⟩) (by assumption) ?seven6r
            case seven6y => (intro w hSw; (try dsimp only at hSw); go_simp; try (with_reducible rfl))
            try simp only [Act.put, List.setIfInBounds_toArray, List.set_cons_zero, List.set_cons_succ]
            refine wpAnyH_take (i := 7) (v := ?seven7v) (by simp only [List.getElem?_toArray, List.getElem?_cons_succ, List.getElem?_cons_zero]; rfl) (by kernel_rfl) (by kernel_rfl) (by kernel_rfl) (by exact fun _ _ _ h => h) (Or.inl ⟨by rfl, ?seven7y⟩) (by assumption) ?seven7r
            case seven7y => (intro w hSw; (try dsimp only at hSw); (obtain ⟨_, hSa, hSb, hSd, hSe⟩ := hSw); go_simp; try (with_reducible rfl))
            try simp only [Act.put, List.setIfInBounds_toArray, List.set_cons_zero, List.set_cons_succ]
            refine wpAnyH_ready (rs := [8]) (by kernel_rfl) (by simp) ?_
            refine AllReadyH.cons (by simp only [List.getElem?_toArray, List.getElem?_cons_succ, List.getElem?_cons_zero]; rfl) (fun K hK => ?_) (AllReadyH.nil)
            (go_simp; go_at_call 11; (refine (HRE4.out _ ?_).mono ?_); (exact (by repeat (first | exact Below.refl _ _ | exact HBq.out | refine Below.alloc ?_ (by simp <;> omega) _ | refine below_drewN' ?_ _ | refine below_drewN' (n := 1) ?_ _))); rintro e w9 ⟨A9, n9, c9, rfl, hb9, k9⟩; (have HBq : Hid (Below W4.heap.size W4 w9) := hb9); clear hb9; go_wp2_with fail)
            refine hK.out _ _ (by first | exact HK.out _ HBq.out | exact HK.out _ (by repeat (first | exact Below.refl _ _ | exact HBq.out | refine Below.alloc ?_ (by simp <;> omega) _ | refine below_drewN' ?_ _ | refine below_drewN' (n := 1) ?_ _))) (fun hHeldseven8 => ?_)
            clear hK K hHeld
            try simp only [Act.put, List.setIfInBounds_toArray, List.set_cons_zero, List.set_cons_succ]
            refine wpAnyH_ready (rs := [9]) (by kernel_rfl) (by simp) ?_
            refine AllReadyH.cons (by simp only [List.getElem?_toArray, List.getElem?_cons_succ, List.getElem?_cons_zero]; rfl) (fun K hK => ?_) (AllReadyH.nil)
            go_simp
            refine hK.out _ _ (by first | exact HK.out _ HBq.out | exact HK.out _ (by repeat (first | exact Below.refl _ _ | exact HBq.out | refine Below.alloc ?_ (by simp <;> omega) _ | refine below_drewN' ?_ _ | refine below_drewN' (n := 1) ?_ _))) (fun hHeldseven9 => ?_)
            clear hK K hHeldseven8
            try simp only [Act.put, List.setIfInBounds_toArray, List.set_cons_zero, List.set_cons_succ]
            refine wpAnyH_take (i := 10) (v := ?seven10v) (by simp only [List.getElem?_toArray, List.getElem?_cons_succ, List.getElem?_cons_zero]; rfl) (by kernel_rfl) (by kernel_rfl) (by kernel_rfl) (by exact fun _ _ _ h => h) (Or.inl ⟨by rfl, ?seven10y⟩) (by assumption) ?seven10r
            case seven10y => (intro w hSw; (try dsimp only at hSw); go_simp; try (with_reducible rfl))
            try simp only [Act.put, List.setIfInBounds_toArray, List.set_cons_zero, List.set_cons_succ]
            refine wpAnyH_take (i := 11) (v := ?seven11v) (by simp only [List.getElem?_toArray, List.getElem?_cons_succ, List.getElem?_cons_zero]; rfl) (by kernel_rfl) (by kernel_rfl) (by kernel_rfl) (by exact fun _ _ _ h => h) (Or.inl ⟨by rfl, ?seven11y⟩) (by assumption) ?seven11r
            case seven11y => (intro w hSw; (try dsimp only at hSw); go_simp; try (with_reducible rfl))
            try simp only [Act.put, List.setIfInBounds_toArray, List.set_cons_zero, List.set_cons_succ]
            refine wpAnyH_done (by kernel_rfl) ?_ _
            have HB49 : Hid (Below W4.heap.size W4 w9) := HBq.out
            have HB9 : Hid (Below W1.heap.size W1 w9) := HB4.out.trans (HBq.out.mono HB4.out.size)
            clear k0 k9
            go_wp2_with (first
              | (go_at_call 6; (with_reducible refine (HAw.out _ HB9.out).mono ?_); rintro e w10 ⟨rfl, hb10⟩
                 have HB10 : Hid (Below W1.heap.size W1 w10) := HB9.out.trans (hb10.mono HB9.out.size)
                 have HB410 : Hid (Below W4.heap.size W4 w10) := HB49.out.trans (hb10.mono HB49.out.size)
                 obtain ⟨k0, k1, k2, k3⟩ := HCB.out _ HB10.out
                 have hq4 := (HB410.out.block _ (lt_of_block HQ4.out)).trans HQ4.out
                 have j0 := cell_of_row w10 W4e.heap.size 0 _ _ _ hq4
                 have j1 := cell_of_row w10 W4e.heap.size 1 _ _ _ hq4
                 have j2 := cell_of_row w10 W4e.heap.size 2 _ _ _ hq4
                 have j3 := cell_of_row w10 W4e.heap.size 3 _ _ _ hq4
                 simp at j0 j1 j2 j3
                 have HSP := Lib.hid (samePiece_any s (ix : Int) a a2 a' b2 n c c2 m c' d2 xs ys w10.heap.size w10 ((HXP.out _ HB10.out).1.1.more' (HXP.out _ HB10.out).2) ((HP4.out.up HB410.out (Nat.le_refl _)).more HB410.out.size).1 ((HXP.out _ HB10.out).1.2.1.more' (HXP.out _ HB10.out).2) ((HP4.out.up HB410.out (Nat.le_refl _)).more HB410.out.size).2.1 (Nat.le_refl _) (by omega))
                 clear hb10 hq4)
              | (go_at_call 12; (with_reducible refine HSP.out.mono ?_); rintro e w11 ⟨rfl, hb11⟩
                 have HB11 : Hid (Below W1.heap.size W1 w11) := HB10.out.trans (hb11.mono HB10.out.size)
                 clear hb11))
            go_ret
            exact ⟨ret_bool (by simp), HB1.out.trans (HB11.out.mono HB1.out.size)⟩
            -- END seven
          · -- PART other
            have HDo := Lib.hid (dacq_no 0 0 k 0 ⟨#[]⟩ A1 n1 c1 W2 hk)
            go_upto_region 7 with (first
              | (go_at_call 10; (with_reducible refine HDo.out.mono ?_); rintro e W4e ⟨rfl, hb4⟩
                 have HB4e := Lib.hid hb4
                 clear hb4)
              | (refine wpList_store_new (o := ⟨none, .store 27 (.tmp 13) (.tmp 60), _, _, _, _⟩) rfl 27 (.tmp 13) (.tmp 60) rfl 27 _ zPc rfl rfl zpc_size rfl (pc4_one ⟨⟨#[]⟩, 0, ⟨none, 0, 0⟩, ⟨none, 0, 0⟩⟩) ?_))
            obtain ⟨W4, hW4⟩ : ∃ W, W = W4e.alloc (.cells zPc 27) := ⟨_, rfl⟩
            have h4e : Below W4e.heap.size W4e W4 := by rw [hW4]; exact (Below.refl _ _).alloc (Nat.le_refl _) _
            have HB2d : Hid (Below W2.heap.size W2 W4) := HB4e.out.trans (h4e.mono HB4e.out.size)
            have HQ4 : Hid (W4.heap[W4e.heap.size]? = some (.cells zPc 27 (0, 0))) := by show _ = _; rw [hW4]; exact heap_alloc_new W4e _
            have HW4 := Lib.hid hW4
            clear h4e hW4 k0 k1 k2 k3
            change Code.wp _ _ _ _ (W4e.alloc (.cells zPc 27))
            rw [← HW4.out]
            clear HW4
            have HB24 : Hid (Below W2.heap.size W2 W4) := HB2d.out
            have HB4 : Hid (Below W1.heap.size W1 W4) := HB2.out.trans (HB24.out.mono HB2.out.size)
            have HK : Hid (∀ w', Below W4.heap.size W4 w' → (convert 24 9 (.slice A1 n1 c1)).run Tryz.prog w' = .ok (.string (baOf L)) w' ∧ (w'.cell? ⟨w.heap.size, 0, none⟩ = some (.string s) ∧ w'.cell? ⟨w.heap.size, 1, none⟩ = some (.int .i64 (ix : Int)) ∧ w'.cell? ⟨w.heap.size, 2, none⟩ = some (.slice a n c) ∧ w'.cell? ⟨w.heap.size, 3, none⟩ = some (.slice a' m c'))) := fun w' hb => ⟨run_conv_sl (P := Tryz.prog) 24 5 9 Tryz.underlying24 Tryz.underlying5 Tryz.underlying9 w' W2.heap.size A1 n1 c1 L (HS2.out.up (HB24.out.trans (hb.mono HB24.out.size)) (Nat.le_refl _)), HCB.out w' (HB4.out.trans (hb.mono HB4.out.size))⟩
            have k0 := HK.out W4 (Below.refl _ _)
            have HRE4 : Hid (∀ W, Below W4.heap.size W4 W → Calls Tryz.prog 11 #[.int .i64 (d : Int), .int .i64 (q : Int), .agg #[.string s, .int .i64 (ix : Int), .slice a n c, .slice a' m c']] W fun e w' => ∃ A' n' c', e = .returned (.slice A' n' c') ∧ Below W4.heap.size W4 w' ∧ (convert 24 9 (.slice A' n' c')).run Tryz.prog w' = .ok (.string (baOf L)) w') := fun W hb =>
              (HRE.out W (HB4.out.trans (hb.mono HB4.out.size))).mono (fun e w' h => by
                obtain ⟨A', n', c', h1, _, h3, h4⟩ := h
                exact ⟨A', n', c', h1, hb.trans (h4.mono hb.size), run_conv_sl (P := Tryz.prog) 24 5 9 Tryz.underlying24 Tryz.underlying5 Tryz.underlying9 w' w'.heap.size A' n' c' L h3⟩)
            have HBq : Hid (Below W4.heap.size W4 W4) := Below.refl _ _
            refine wp_region_held_drew (S := (fun w' => (convert 24 9 (.slice A1 n1 c1)).run Tryz.prog w' = .ok (.string (baOf L)) w' ∧ (w'.cell? ⟨w.heap.size, 0, none⟩ = some (.string s) ∧ w'.cell? ⟨w.heap.size, 1, none⟩ = some (.int .i64 (ix : Int)) ∧ w'.cell? ⟨w.heap.size, 2, none⟩ = some (.slice a n c) ∧ w'.cell? ⟨w.heap.size, 3, none⟩ = some (.slice a' m c')))) (by kernel_rfl) (by first | exact HK.out _ HBq.out | exact HK.out _ (by repeat (first | exact Below.refl _ _ | exact HBq.out | refine Below.alloc ?_ (by simp <;> omega) _ | refine below_drewN' ?_ _ | refine below_drewN' (n := 1) ?_ _))) (fun hHeld => ?_)
            refine wpAnyH_take (i := 0) (v := ?other0v) (by simp only [List.getElem?_toArray, List.getElem?_cons_zero]; rfl) (by kernel_rfl) (by kernel_rfl) (by kernel_rfl) (by exact fun _ _ _ h => h) (Or.inl ⟨by rfl, ?other0y⟩) (by assumption) ?other0r
            case other0y => (intro w hSw; (try dsimp only at hSw); go_simp; try (with_reducible rfl))
            try simp only [Act.put, List.setIfInBounds_toArray, List.set_cons_zero, List.set_cons_succ]
            refine wpAnyH_take (i := 1) (v := ?other1v) (by simp only [List.getElem?_toArray, List.getElem?_cons_succ, List.getElem?_cons_zero]; rfl) (by kernel_rfl) (by kernel_rfl) (by kernel_rfl) (by exact fun _ _ _ h => h) (Or.inl ⟨by rfl, ?other1y⟩) (by assumption) ?other1r
            case other1y => (intro w hSw; (try dsimp only at hSw); go_simp; try (with_reducible rfl))
            try simp only [Act.put, List.setIfInBounds_toArray, List.set_cons_zero, List.set_cons_succ]
            refine wpAnyH_take (i := 2) (v := ?other2v) (by simp only [List.getElem?_toArray, List.getElem?_cons_succ, List.getElem?_cons_zero]; rfl) (by kernel_rfl) (by kernel_rfl) (by kernel_rfl) (by exact fun _ _ _ h => h) (Or.inl ⟨by rfl, ?other2y⟩) (by assumption) ?other2r
            case other2y => (intro w hSw; (try dsimp only at hSw); go_simp; try (with_reducible rfl))
            try simp only [Act.put, List.setIfInBounds_toArray, List.set_cons_zero, List.set_cons_succ]
            refine wpAnyH_take (i := 3) (v := ?other3v) (by simp only [List.getElem?_toArray, List.getElem?_cons_succ, List.getElem?_cons_zero]; rfl) (by kernel_rfl) (by kernel_rfl) (by kernel_rfl) (by exact fun _ _ _ h => h) (Or.inl ⟨by rfl, ?other3y⟩) (by assumption) ?other3r
            case other3y => (intro w hSw; (try dsimp only at hSw); go_simp; try (with_reducible rfl))
            try simp only [Act.put, List.setIfInBounds_toArray, List.set_cons_zero, List.set_cons_succ]
            refine wpAnyH_take (i := 4) (v := ?other4v) (by simp only [List.getElem?_toArray, List.getElem?_cons_succ, List.getElem?_cons_zero]; rfl) (by kernel_rfl) (by kernel_rfl) (by kernel_rfl) (by exact fun _ _ _ h => h) (Or.inl ⟨by rfl, ?other4y⟩) (by assumption) ?other4r
            case other4y => (intro w hSw; (try dsimp only at hSw); (have hSc := hSw.1); go_simp; try (with_reducible rfl))
            try simp only [Act.put, List.setIfInBounds_toArray, List.set_cons_zero, List.set_cons_succ]
            refine wpAnyH_take (i := 5) (v := ?other5v) (by simp only [List.getElem?_toArray, List.getElem?_cons_succ, List.getElem?_cons_zero]; rfl) (by kernel_rfl) (by kernel_rfl) (by kernel_rfl) (by exact fun _ _ _ h => h) (Or.inl ⟨by rfl, ?other5y⟩) (by assumption) ?other5r
            case other5y => (intro w hSw; (try dsimp only at hSw); go_simp; try (with_reducible rfl))
            try simp only [Act.put, List.setIfInBounds_toArray, List.set_cons_zero, List.set_cons_succ]
            refine wpAnyH_take (i := 6) (v := ?other6v) (by simp only [List.getElem?_toArray, List.getElem?_cons_succ, List.getElem?_cons_zero]; rfl) (by kernel_rfl) (by kernel_rfl) (by kernel_rfl) (by exact fun _ _ _ h => h) (Or.inl ⟨by rfl, ?other6y⟩) (by assumption) ?other6r
            case other6y => (intro w hSw; (try dsimp only at hSw); go_simp; try (with_reducible rfl))
            try simp only [Act.put, List.setIfInBounds_toArray, List.set_cons_zero, List.set_cons_succ]
            refine wpAnyH_take (i := 7) (v := ?other7v) (by simp only [List.getElem?_toArray, List.getElem?_cons_succ, List.getElem?_cons_zero]; rfl) (by kernel_rfl) (by kernel_rfl) (by kernel_rfl) (by exact fun _ _ _ h => h) (Or.inl ⟨by rfl, ?other7y⟩) (by assumption) ?other7r
            case other7y => (intro w hSw; (try dsimp only at hSw); (obtain ⟨_, hSa, hSb, hSd, hSe⟩ := hSw); go_simp; try (with_reducible rfl))
            try simp only [Act.put, List.setIfInBounds_toArray, List.set_cons_zero, List.set_cons_succ]
            refine wpAnyH_ready (rs := [8]) (by kernel_rfl) (by simp) ?_
            refine AllReadyH.cons (by simp only [List.getElem?_toArray, List.getElem?_cons_succ, List.getElem?_cons_zero]; rfl) (fun K hK => ?_) (AllReadyH.nil)
            (go_simp; go_at_call 11; (refine (HRE4.out _ ?_).mono ?_); (exact (by repeat (first | exact Below.refl _ _ | exact HBq.out | refine Below.alloc ?_ (by simp <;> omega) _ | refine below_drewN' ?_ _ | refine below_drewN' (n := 1) ?_ _))); rintro e w9 ⟨A9, n9, c9, rfl, hb9, k9⟩; (have HBq : Hid (Below W4.heap.size W4 w9) := hb9); clear hb9; go_wp2_with fail)
            refine hK.out _ _ (by first | exact HK.out _ HBq.out | exact HK.out _ (by repeat (first | exact Below.refl _ _ | exact HBq.out | refine Below.alloc ?_ (by simp <;> omega) _ | refine below_drewN' ?_ _ | refine below_drewN' (n := 1) ?_ _))) (fun hHeldother8 => ?_)
            clear hK K hHeld
            try simp only [Act.put, List.setIfInBounds_toArray, List.set_cons_zero, List.set_cons_succ]
            refine wpAnyH_ready (rs := [9]) (by kernel_rfl) (by simp) ?_
            refine AllReadyH.cons (by simp only [List.getElem?_toArray, List.getElem?_cons_succ, List.getElem?_cons_zero]; rfl) (fun K hK => ?_) (AllReadyH.nil)
            go_simp
            refine hK.out _ _ (by first | exact HK.out _ HBq.out | exact HK.out _ (by repeat (first | exact Below.refl _ _ | exact HBq.out | refine Below.alloc ?_ (by simp <;> omega) _ | refine below_drewN' ?_ _ | refine below_drewN' (n := 1) ?_ _))) (fun hHeldother9 => ?_)
            clear hK K hHeldother8
            try simp only [Act.put, List.setIfInBounds_toArray, List.set_cons_zero, List.set_cons_succ]
            refine wpAnyH_take (i := 10) (v := ?other10v) (by simp only [List.getElem?_toArray, List.getElem?_cons_succ, List.getElem?_cons_zero]; rfl) (by kernel_rfl) (by kernel_rfl) (by kernel_rfl) (by exact fun _ _ _ h => h) (Or.inl ⟨by rfl, ?other10y⟩) (by assumption) ?other10r
            case other10y => (intro w hSw; (try dsimp only at hSw); go_simp; try (with_reducible rfl))
            try simp only [Act.put, List.setIfInBounds_toArray, List.set_cons_zero, List.set_cons_succ]
            refine wpAnyH_take (i := 11) (v := ?other11v) (by simp only [List.getElem?_toArray, List.getElem?_cons_succ, List.getElem?_cons_zero]; rfl) (by kernel_rfl) (by kernel_rfl) (by kernel_rfl) (by exact fun _ _ _ h => h) (Or.inl ⟨by rfl, ?other11y⟩) (by assumption) ?other11r
            case other11y => (intro w hSw; (try dsimp only at hSw); go_simp; try (with_reducible rfl))
            try simp only [Act.put, List.setIfInBounds_toArray, List.set_cons_zero, List.set_cons_succ]
            refine wpAnyH_done (by kernel_rfl) ?_ _
            have HB49 : Hid (Below W4.heap.size W4 w9) := HBq.out
            have HB9 : Hid (Below W1.heap.size W1 w9) := HB4.out.trans (HBq.out.mono HB4.out.size)
            clear k0 k9
            have hkb : (k != 7) = true := by simp [hk]
            go_wp2_with (first
              | (go_at_call 6; (with_reducible refine (HAw.out _ HB9.out).mono ?_); rintro e w10 ⟨rfl, hb10⟩
                 have HB10 : Hid (Below W1.heap.size W1 w10) := HB9.out.trans (hb10.mono HB9.out.size)
                 have HB410 : Hid (Below W4.heap.size W4 w10) := HB49.out.trans (hb10.mono HB49.out.size)
                 have hq4 := (HB410.out.block _ (lt_of_block HQ4.out)).trans HQ4.out
                 have j2 := cell_of_row w10 W4e.heap.size 2 _ _ _ hq4
                 simp at j2
                 clear hb10 hq4))
            go_ret
            exact ⟨ret_bool (by simp), HB1.out.trans (HB10.out.mono HB1.out.size)⟩
            -- END other
    · have hmI : (20 : Int) < (m : Int) := by omega
      go_enter Tryz.func3, Tryz.ntmps3
      go_wp2_with (first
        | (rw [← HWE.out]; go_at_call 6; (with_reducible refine (HAw.out _ HBr.out).mono ?_); rintro e w1 ⟨rfl, hb1⟩
           have HB3 := Lib.hid hb1
           clear hb1))
      go_ret
      exact ⟨rfl, HB1.out.trans (HB3.out.mono HB1.out.size)⟩
  · have hnI : (2000 : Int) < (n : Int) := by omega
    go_enter Tryz.func3, Tryz.ntmps3
    go_wp2_with (first
      | (rw [← HWE.out]; go_at_call 6; (with_reducible refine (HAw.out _ HBr.out).mono ?_); rintro e w1 ⟨rfl, hb1⟩
         have HB3 := Lib.hid hb1
         clear hb1))
    go_ret
    exact ⟨rfl, HB1.out.trans (HB3.out.mono HB1.out.size)⟩
end Go.Proofs.YtnfkjnmdfijhnaaGreatDoor
