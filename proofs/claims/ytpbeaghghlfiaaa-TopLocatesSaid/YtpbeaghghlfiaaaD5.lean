/- The law TopLocates. -/
import Derived.Test.YtpbeaghghlfiaaaD4
namespace Go.Proofs.Ytpbeaghghlfiaaa
open Go.RowKit Go.Lib
set_option linter.unusedVariables false
set_option linter.unusedSimpArgs false
set_option maxRecDepth 100000 in
set_option maxHeartbeats 16000000 in
theorem law_any (d t : Int) (A A2 : Option Addr) (n c nw c2 B : Nat) (bl : Mt) (w : World) (hP : SLL fN w B A n bl) (hby : ∀ r ∈ bl, Bys r) (hW : WrO w B A2 nw) (hB : B ≤ w.heap.size) (hn : n ≤ 9223372036854775807) (hnw : nw ≤ 9223372036854775807) :
    Calls Try.prog 3 #[.int .i64 d, .int .i64 t, .slice A n c, .slice A2 nw c2] w fun e w' => e = .returned (.bool true) ∧ Below w.heap.size w w' := by
  have HA : Hid (∀ V, Calls Try.prog 4 #[] V fun e w' => e = .returned (.bool true) ∧ Below V.heap.size V w') := awake_any
  have HP := Lib.hid hP
  have HBY := Lib.hid hby
  have HW := Lib.hid hW
  have HBB := Lib.hid hB
  have hnI : (n : Int) ≤ 9223372036854775807 := by omega
  have hwI : (nw : Int) ≤ 9223372036854775807 := by omega
  have hbl : bl.length = n := hP.choose_spec.2.1
  have HBL := Lib.hid hbl
  have HV : Hid (∀ V, Calls Try.prog 5 #[.int .i64 d, .int .i64 t] V fun e w' => e = .returned (.bool (rsB d t)) ∧ V = w') := rsvalid_any d t
  have HBK : Hid (∀ V, Below w.heap.size w V → Calls Try.prog 6 #[.int .i64 d, .slice A n c, .int .i64 8] V (BlP d n bl V)) := fun V h => blocks_any d A n c B bl V (hP.up h hB) hn
  clear hP hby hW hB hbl hn hnw
  by_cases hrs : rsB d t = true
  · obtain ⟨q1, q2, q3, q4⟩ := of_decide_eq_true hrs
    rw [hrs] at HV
    clear hrs
    by_cases h8 : t ≤ 8
    · obtain ⟨d0, rfl⟩ : ∃ d0 : Nat, d = (d0 : Int) := ⟨d.toNat, by omega⟩
      obtain ⟨m, rfl⟩ : ∃ m : Nat, t = (m : Int) := ⟨t.toNat, by omega⟩
      go_enter Try.func3, Try.ntmps3
      go_wp2_with (first
        | (go_at_call 4; (with_reducible refine (HA.out _).mono ?_); rintro e w1 ⟨rfl, hb1⟩; (have HB1 := Lib.hid hb1); clear hb1)
        | (go_at_call 5; (with_reducible refine (HV.out _).mono ?_); rintro e w' ⟨rfl, rfl⟩))
      refine (HBK.out _ HB1.out).mono ?_
      rintro e w' ⟨b, rfl, hb, rfl⟩
      cases b with
      | false =>
        go_wp2_with (go_at_call 4; (with_reducible refine (HA.out _).mono ?_); rintro e w2 ⟨rfl, hb2⟩; (have HB2 := Lib.hid (HB1.out.trans (hb2.mono HB1.out.size))); clear hb2)
        go_ret
        exact ⟨rfl, HB2.out⟩
      | true =>
        obtain ⟨hnd, hlen⟩ := hb rfl
        obtain rfl : n = d0 := by omega
        obtain ⟨len, hl1, hl8, hlr⟩ : ∃ len, 1 ≤ len ∧ len ≤ 8 ∧ ∀ r ∈ bl, r.length = len := by
          rcases hlen with h | h
          · omega
          · exact h
        have HOK : Hid (MtOk len bl) := fun r hr => ⟨hlr r hr, HBY.out r hr⟩
        have HD := Lib.hid (show 1 ≤ n ∧ n ≤ m ∧ m ≤ 8 ∧ 1 ≤ len ∧ len ≤ 8 from ⟨by omega, by omega, by omega, hl1, hl8⟩)
        clear hb hnd hlen hl1 hl8 hlr HBK HV HBY
        by_cases hw8 : nw ≤ 8
        · have hw8I : ¬ (8 : Int) < (nw : Int) := by omega
          obtain ⟨all, hall⟩ : ∃ all, mulP len (ofP n (List.range m)) bl = all := ⟨_, rfl⟩
          have hal : all.length = m := by rw [← hall]; unfold mulP ofP; simp
          have HE : Hid (Calls Try.prog 7 #[.int .i64 n, .int .i64 m, .slice A n c] w1 (MaP2 all w1)) := by
            show Calls ..
            rw [← hall]
            have q := HD.out
            exact encode_any n m c B len A bl w1 (by omega) (by omega) (by omega) (HP.out.up HB1.out HBB.out) (Nat.le_trans HBB.out HB1.out.size) HOK.out (by omega) (by omega)
          have HALL := Lib.hid hall
          have HAL := Lib.hid hal
          clear hall hal
          have hmI : (m : Int) ≤ 8 := by omega
          have hdI : (n : Int) ≤ (m : Int) := by omega
          have hm1 : (1 : Int) ≤ (m : Int) := by omega
          go_upto_region 6 with (go_at_call 7; (with_reducible refine HE.out.mono ?_); rintro e w3 ⟨g, hs3, he, hg3, hm3, hb3⟩; rw [HAL.out] at he; subst he; (have HM3 := Lib.hid hm3); (have HB3 : Hid (Below w.heap.size w w3) := HB1.out.trans (hb3.mono HB1.out.size)); clear hb3 hm3 hg3)
          obtain ⟨j0, hj, hj1, hj2, hj3⟩ := info_parts Try.infoBR
          have HJ0 := Lib.hid hj
          have HJ1 := Lib.hid hj1
          have HJ2 := Lib.hid hj2
          have HJ3 := Lib.hid hj3
          have hsll := HM3.out.sll
          rw [HAL.out] at hsll
          have HSA := Lib.hid hsll
          obtain ⟨hds0, hh0, _, hr0⟩ := hsll
          have HHL : Hid (hds0.length = m) := hh0.1
          have HS : Hid (Sl fS (w3.alloc (.cells #[] TR)) w3.heap.size (some ⟨g, 0, none⟩) m hds0) := hh0.up ((Below.refl _ w3).alloc (Nat.le_refl _) _) (Nat.le_refl _)
          have HO : Hid (Own fS TR (w3.alloc (.cells #[] TR)) w3.heap.size (.slice (some ⟨w3.heap.size, 0, none⟩) 0 0) ([] : List Hd)) := World.ownsRow_made w3 #[] 0 (Nat.le_refl _) (Nat.zero_le _) (by simp)
          have HL1 : Hid ((([] : List Hd).length + hds0.length) * 24 ≤ 140737488355328) := by show (0 + hds0.length) * 24 ≤ _; rw [hh0.1]; omega
          have HL2 : Hid (([] : List Hd).length + hds0.length ≤ maxLen) := by show 0 + hds0.length ≤ _; rw [hh0.1]; unfold maxLen; omega
          have HSZ : Hid (w3.heap.size ≤ (w3.alloc (.cells #[] TR)).heap.size) := by show _ ≤ _; simp
          have HR0 := Lib.hid hr0
          clear hj hj1 hj2 hj3 hh0 hr0 HE
          go_upto_region 7 with (at_builtin; (refine wpList_app (o := ⟨some 67, _, _, _, _, _⟩) (f := fS) rfl (.tmp 65) (.tmp 66) 22 rfl TR j0 (.slice none 0 0) 24 Try.underlying22 HJ0.out HJ1.out HJ2.out HJ3.out rfl (.slice (some ⟨w3.heap.size, 0, none⟩) 0 0) ([] : List Hd) w3.heap.size (by rfl) HO.out (some ⟨g, 0, none⟩) m m w3.heap.size hds0 (by rfl) HS.out fS1 HL1.out HL2.out HSZ.out ?_); intro v5 W5 HO5 HG5 HV5)
          have HB5 : Below w3.heap.size w3 W5 := ((Below.refl _ w3).alloc (Nat.le_refl _) _).trans (grown_below HG5.out (fun q hq => by injection hq with hq; subst hq; exact Nat.le_refl _) HSZ.out)
          have hall : MtOk len all := by
            rw [← HALL.out]
            intro r hr
            unfold mulP at hr
            obtain ⟨x, hx, rfl⟩ := List.mem_map.1 hr
            obtain ⟨i, hi, rfl⟩ := List.mem_map.1 hx
            have hi8 := List.mem_range.1 hi
            exact ⟨comb_len _ (fun b hb => (HOK.out b hb).1), comb_bys (rowP_bys (d := n) (by omega) (by omega)).2⟩
          have HAO := Lib.hid hall
          have HG0 : Hid (GSt w3 m len v5 W5 hds0 all) := ⟨HB5, HO5.out, HHL.out, HAL.out, hall, HR0.out⟩
          obtain ⟨gg, cg, hv5, hgc⟩ : ∃ gg cg, v5 = .slice (some ⟨gg, 0, none⟩) m cg ∧ m ≤ cg := by
            have q0 := HHL.out
            have q9 := HD.out
            rcases HO5.out.2 with ⟨_, h⟩ | ⟨g', cap, cur, hv, _, _, h1, _⟩
            · rw [List.nil_append] at h; omega
            · simp at hv h1
              exact ⟨g', cap, by rw [hv, q0], by omega⟩
          subst hv5
          have HGC := Lib.hid hgc
          obtain ⟨b0, o0, a0, c0, r0, rfl, hr0, hc0, _⟩ := HP.out.cell (k := 0) (by omega)
          rw [(HOK.out.get hr0).1, Nat.add_zero] at hc0
          have HC0 : Hid (∀ V, Below w.heap.size w V → V.cell? ⟨b0, o0, none⟩ = some (.slice a0 len c0)) := fun V hv => (World.cell?_of_block (hv.block _ (World.block_lt_of_cell? w _ hc0))).trans hc0
          have hn0 : (0 : Int) < (n : Int) := by omega
          have hn0N : 0 < n := by omega
          have hlenI : (len : Int) ≤ 8 := by have := HD.out; omega
          clear hall HB5 hgc hr0 hc0 HO5 HG5 HV5 HS HO HL1 HL2 HSZ
          go_wp2_with fail
          go_loopw [70] (fun i wr => ∃ (k : Nat) (hds : List Hd) (given : Mt), k ≤ nw ∧ i = .int .i64 k ∧ Hid (GSt w3 m len (.slice (some ⟨gg, 0, none⟩) m cg) wr hds given)) (fun i _ => nw - (intOf i).toNat)
          case atStart => exact ⟨0, _, _, Nat.zero_le _, rfl, HG0⟩
          case round =>
            clear HG0
            obtain ⟨k, hds, given, hk, rfl, HG⟩ := hrel
            have HBr : Hid (Below w.heap.size w wr) := HB3.out.trans (HG.out.bw.mono HB3.out.size)
            by_cases hlt : k < nw
            · have hkI : (k : Int) < (nw : Int) := by omega
              obtain ⟨b2, o2, ix, a, l, cw, r, hA2, hb2, hc1, hc2, hs, hr⟩ := HW.out k hlt
              subst hA2
              replace hc1 := (World.cell?_of_block (HBr.out.block _ (World.block_lt_of_cell? w _ hc1))).trans hc1
              replace hc2 := (World.cell?_of_block (HBr.out.block _ (World.block_lt_of_cell? w _ hc2))).trans hc2
              have HSR : Hid (Sl fN w3 w3.heap.size a l r) := (hs.up HB3.out HBB.out).more' (Nat.le_trans HBB.out HB3.out.size)
              have HRY := Lib.hid hr
              have HSL : Hid (r.length = l) := hs.1
              clear hs hr hb2
              go_wp2_with ((refine wpList_store_new (o := ⟨none, .store 32 (.tmp 13) (.tmp 73), _, _, _, _⟩) rfl 32 (.tmp 13) (.tmp 73) rfl 32 _ (cWr ix a l cw) rfl rfl Try.sizeWr rfl (cWr_one _ _ _ _) ?_); clear hc1 hc2)
              obtain ⟨W1, hW1⟩ : ∃ V, V = wr.alloc (.cells (cWr ix a l cw) TWr) := ⟨_, rfl⟩
              have hg1 : W1.heap[wr.heap.size]? = some (.cells (cWr ix a l cw) TWr (0, 0)) := by rw [hW1]; exact heap_alloc_new wr _
              obtain ⟨hx0, hx1⟩ := wr_of hg1
              have HBW1 : Hid (Below wr.heap.size wr W1) := by show Below ..; rw [hW1]; exact (Below.refl _ wr).alloc (Nat.le_refl _) _
              rw [← hW1]
              have hc0 := HC0.out W1 (HBr.out.trans (HBW1.out.mono HBr.out.size))
              obtain ⟨bx, hbx⟩ : ∃ x, wr.heap.size = x := ⟨_, rfl⟩
              rw [hbx] at hx0 hx1 ⊢
              clear hW1 hg1 hbx
              by_cases hl : l = len
              · subst hl
                go_quiet (fail)
                obtain ⟨W2, hW2⟩ : ∃ W2, W2 = W1.drewN nq := ⟨_, rfl⟩
                rw [← hW2]
                replace hx0 : W2.cell? ⟨bx, 0, none⟩ = some (.int .i64 ix) := by rw [hW2]; exact hx0
                replace hx1 : W2.cell? ⟨bx, 1, none⟩ = some (.slice a l cw) := by rw [hW2]; exact hx1
                have hbw2 : Below wr.heap.size wr W2 := by rw [hW2]; exact below_dN' HBW1.out nq
                have hg2 := HG.out.on hbw2
                have HG2 := Lib.hid hg2
                obtain ⟨cur, hcur, _, hcl, _⟩ := hg2.ow.opn
                have HCU0 := Lib.hid hcur
                have HCUR : Hid (W2.drew.heap[gg]? = some (.cells cur TR (0, 0))) := hcur
                obtain ⟨r1, ii, hp1, hp2, hp3, hp4, hii⟩ := place (m := m) (by omega) (by omega) ix
                have HLT : Hid (ii < cur.size) := by have q := hg2.hl; show ii < _; omega
                have hiiI : (ii : Int) < (m : Int) := by omega
                have hm0 : ¬ (m : Int) = 0 := by omega
                have hm0N : ¬ m = 0 := by omega
                have hwrap : IntKind.i64.wrap (r1 + (m : Int)) = r1 + (m : Int) := by simp [IntKind.wrap, IntKind.bits, IntKind.signed]; omega
                clear hW2 hbw2 hg2 hcur hcl hc0
                go_wp2_with fail
                refine LastZ.start (by kernel_rfl) (fun w' : World => w'.cell? ⟨bx, 0, none⟩ = some (.int .i64 ix) ∧ w'.cell? ⟨bx, 1, none⟩ = some (.slice a l cw)) 12 ?_
                have hZ0 : Hid ((fun w' : World => w'.cell? ⟨bx, 0, none⟩ = some (.int .i64 ix) ∧ w'.cell? ⟨bx, 1, none⟩ = some (.slice a l cw)) W2.drew) := (by exact ⟨hx0, hx1⟩)
                refine LastZ.takeW 0 (v := _) (by simp only [List.getElem?_toArray, List.getElem?_cons_zero]; rfl) (by kernel_rfl) (by kernel_rfl) (by kernel_rfl) (by decide) (by exact fun _ _ _ h => h) (Or.inl ⟨by rfl, by (intro w hSw; (try dsimp only at hSw); go_simp; try (with_reducible rfl))⟩) hZ0.out ?_
                try simp only [Act.put, List.setIfInBounds_toArray, List.set_cons_zero, List.set_cons_succ]
                refine LastZ.takeW 1 (v := _) (by simp only [List.getElem?_toArray, List.getElem?_cons_succ, List.getElem?_cons_zero]; rfl) (by kernel_rfl) (by kernel_rfl) (by kernel_rfl) (by decide) (by exact fun _ _ _ h => h) (Or.inl ⟨by rfl, by (intro w hSw; (try dsimp only at hSw); go_simp; try (with_reducible rfl))⟩) hZ0.out ?_
                try simp only [Act.put, List.setIfInBounds_toArray, List.set_cons_zero, List.set_cons_succ]
                refine LastZ.take 2 (v := _) (by simp only [List.getElem?_toArray, List.getElem?_cons_succ, List.getElem?_cons_zero]; rfl) (by kernel_rfl) (by kernel_rfl) (by kernel_rfl) (by decide) (by kernel_rfl) (by exact fun _ _ _ h => h) (Or.inl ⟨by rfl, by (intro w hSw; (try dsimp only at hSw); go_simp; try (with_reducible rfl))⟩) hZ0.out ?_
                try simp only [Act.put, List.setIfInBounds_toArray, List.set_cons_zero, List.set_cons_succ]
                refine LastZ.takeW 3 (v := _) (by simp only [List.getElem?_toArray, List.getElem?_cons_succ, List.getElem?_cons_zero]; rfl) (by kernel_rfl) (by kernel_rfl) (by kernel_rfl) (by decide) (by exact fun _ _ _ h => h) (Or.inl ⟨by rfl, by (intro w hSw; (try dsimp only at hSw); go_simp; try (with_reducible rfl))⟩) hZ0.out ?_
                try simp only [Act.put, List.setIfInBounds_toArray, List.set_cons_zero, List.set_cons_succ]
                refine LastZ.take 4 (v := _) (by simp only [List.getElem?_toArray, List.getElem?_cons_succ, List.getElem?_cons_zero]; rfl) (by kernel_rfl) (by kernel_rfl) (by kernel_rfl) (by decide) (by kernel_rfl) (by exact fun _ _ _ h => h) (Or.inl ⟨by rfl, by (intro w hSw; (try dsimp only at hSw); go_simp; try (with_reducible rfl))⟩) hZ0.out ?_
                try simp only [Act.put, List.setIfInBounds_toArray, List.set_cons_zero, List.set_cons_succ]
                refine LastZ.takeW 5 (v := _) (by simp only [List.getElem?_toArray, List.getElem?_cons_succ, List.getElem?_cons_zero]; rfl) (by kernel_rfl) (by kernel_rfl) (by kernel_rfl) (by decide) (by exact fun _ _ _ h => h) (Or.inl ⟨by rfl, by (intro w hSw; (try dsimp only at hSw); go_simp; try (with_reducible rfl))⟩) hZ0.out ?_
                try simp only [Act.put, List.setIfInBounds_toArray, List.set_cons_zero, List.set_cons_succ]
                refine LastZ.take 6 (v := _) (by simp only [List.getElem?_toArray, List.getElem?_cons_succ, List.getElem?_cons_zero]; rfl) (by kernel_rfl) (by kernel_rfl) (by kernel_rfl) (by decide) (by kernel_rfl) (by exact fun _ _ _ h => h) (Or.inl ⟨by rfl, by (intro w hSw; (try dsimp only at hSw); go_simp; try (with_reducible rfl))⟩) hZ0.out ?_
                try simp only [Act.put, List.setIfInBounds_toArray, List.set_cons_zero, List.set_cons_succ]
                refine LastZ.takeW 7 (v := _) (by simp only [List.getElem?_toArray, List.getElem?_cons_succ, List.getElem?_cons_zero]; rfl) (by kernel_rfl) (by kernel_rfl) (by kernel_rfl) (by decide) (by exact fun _ _ _ h => h) (Or.inl ⟨by rfl, by (intro w hSw; (try dsimp only at hSw); go_simp; try (with_reducible rfl))⟩) hZ0.out ?_
                try simp only [Act.put, List.setIfInBounds_toArray, List.set_cons_zero, List.set_cons_succ]
                refine LastZ.take 8 (v := _) (by simp only [List.getElem?_toArray, List.getElem?_cons_succ, List.getElem?_cons_zero]; rfl) (by kernel_rfl) (by kernel_rfl) (by kernel_rfl) (by decide) (by kernel_rfl) (by exact fun _ _ _ h => h) (Or.inl ⟨by rfl, by (intro w hSw; (try dsimp only at hSw); go_simp; try (with_reducible rfl))⟩) hZ0.out ?_
                try simp only [Act.put, List.setIfInBounds_toArray, List.set_cons_zero, List.set_cons_succ]
                refine LastZ.take 9 (v := _) (by simp only [List.getElem?_toArray, List.getElem?_cons_succ, List.getElem?_cons_zero]; rfl) (by kernel_rfl) (by kernel_rfl) (by kernel_rfl) (by decide) (by kernel_rfl) (by exact fun _ _ _ h => h) (Or.inl ⟨by rfl, by (intro w hSw; (try dsimp only at hSw); go_simp; try (with_reducible rfl))⟩) hZ0.out ?_
                try simp only [Act.put, List.setIfInBounds_toArray, List.set_cons_zero, List.set_cons_succ]
                refine LastZ.take 10 (v := _) (by simp only [List.getElem?_toArray, List.getElem?_cons_succ, List.getElem?_cons_zero]; rfl) (by kernel_rfl) (by kernel_rfl) (by kernel_rfl) (by decide) (by kernel_rfl) (by exact fun _ _ _ h => h) (Or.inl ⟨by rfl, by (intro w hSw; (try dsimp only at hSw); go_simp; try (with_reducible rfl))⟩) hZ0.out ?_
                try simp only [Act.put, List.setIfInBounds_toArray, List.set_cons_zero, List.set_cons_succ]
                refine LastZ.take 11 (v := _) (by simp only [List.getElem?_toArray, List.getElem?_cons_succ, List.getElem?_cons_zero]; rfl) (by kernel_rfl) (by kernel_rfl) (by kernel_rfl) (by decide) (by kernel_rfl) (by exact fun _ _ _ h => h) (Or.inl ⟨by rfl, by (intro w hSw; (try dsimp only at hSw); go_simp; try (with_reducible rfl))⟩) hZ0.out ?_
                try simp only [Act.put, List.setIfInBounds_toArray, List.set_cons_zero, List.set_cons_succ]
                refine LastZ.last (by kernel_rfl) (by simp only [List.getElem?_toArray, List.getElem?_cons_succ, List.getElem?_cons_zero]; rfl) (by decide) (fun K hK => ?_)
                (refine step_store_at1 rfl 30 (.tmp 93) (.tmp 92) rfl gg TR ii cur (.slice a l cw) (by rfl) (by rfl) HCUR.out HLT.out Try.sizeR rfl ?_); intro w5 HG5 HBT5
                refine hK.out _ _ ?_
                clear hK K
                try simp only [Act.put, List.setIfInBounds_toArray, List.set_cons_zero, List.set_cons_succ]
                refine LastZ.done (by kernel_rfl) ?_ _
                have HGN : Hid (GSt w3 m l (.slice (some ⟨gg, 0, none⟩) m cg) w5 (hds.set ii ⟨a, l, cw⟩) (given.set ii r)) := (HG2.out.on (Below.refl _ W2).drew).put (wr := W2.drew) (w' := w5) HCUR.out HG5.out HBT5.out ⟨HSL.out, HRY.out⟩ HSR.out
                clear hx0 hx1
                go_wp2_with fail
                go_roundw
                case rel => exact ⟨k + 1, _, _, by omega, by go_num, HGN⟩
                case measure => simp [intOf]; omega
              · have hl1 : ((l : Int) == (len : Int)) = false := by simp; omega
                have hl2 : ((l : Int) != (len : Int)) = true := by simp; omega
                have hl3 : decide (l = len) = false := by simp; omega
                have hl4 : (l == len) = false := by simp; omega
                go_quiet (fail)
                go_wp2_with fail
                go_ret
                exact ⟨rfl, below_dN' (HBr.out.trans (HBW1.out.mono HBr.out.size)) nq⟩
            · obtain rfl : k = nw := by omega
              obtain ⟨W0, hW0⟩ : ∃ W0, W0 = wr := ⟨_, rfl⟩
              subst hW0
              obtain ⟨hsl0, hsll0⟩ := HG.out.sll
              have HHS := Lib.hid hsl0
              have HGV := Lib.hid hsll0
              have HAV : Hid (SLL fN W0 W0.heap.size (some ⟨g, 0, none⟩) m all) := (HSA.out.up HG.out.bw (Nat.le_refl _)).more HG.out.bw.size
              obtain ⟨p, hp⟩ : ∃ p, badP len n bl given = p := ⟨_, rfl⟩
              have HPD : Hid (∀ j r q, given[j]? = some r → all[j]? = some q → p j = decide (r ≠ q)) := fun j r q q1 q2 => by
                rw [← hp]
                unfold badP
                have q3 : q = pieceP len n bl j := by
                  rw [← HALL.out] at q2
                  unfold mulP ofP at q2
                  rw [List.getElem?_map, List.getElem?_map] at q2
                  obtain ⟨x, hx, rfl⟩ := Option.map_eq_some_iff.1 q2
                  obtain ⟨i, hi, rfl⟩ := Option.map_eq_some_iff.1 hx
                  obtain rfl : i = j := by
                    have hj := (List.getElem?_eq_some_iff.1 hi).1
                    rw [List.length_range] at hj
                    rw [List.getElem?_range hj] at hi
                    exact (Option.some.inj hi).symm
                  rfl
                rw [getD_some q1, q3]
              have HPE := Lib.hid hp
              have HT0 := Lib.hid (TSt.start hds p W0)
              obtain ⟨i0, hi, hi1, hi2, hi3⟩ := info_parts Try.infoI8
              have HI := Lib.hid hi
              have HI1 := Lib.hid hi1
              have HI2 := Lib.hid hi2
              have HI3 := Lib.hid hi3
              clear hsl0 hsll0 hp hi hi1 hi2 hi3
              go_wp2_with fail
              go_loopw [14, 15, 16, 17, 101] (fun x b a c i wr => ∃ (j : Nat) (x1 b1 a1 c1 : Value), j ≤ m ∧ i = .int .i64 j ∧ x1 = x ∧ b1 = b ∧ a1 = a ∧ c1 = c ∧ Hid (TSt hds p W0 wr j x1 b1 a1 c1)) (fun _ _ _ _ i _ => m - (intOf i).toNat)
              case atStart => exact ⟨0, _, _, _, _, Nat.zero_le _, rfl, rfl, rfl, rfl, rfl, HT0⟩
              case round =>
                clear HT0
                obtain ⟨j, vx, vb, va, vc, hj, rfl, rfl, rfl, rfl, rfl, HT⟩ := hrel
                by_cases hjm : j < m
                · have hjI : (j : Int) < (m : Int) := by omega
                  obtain ⟨xa, xc, hx, hxc⟩ := HT.out.ox.shape'
                  rw [List.length_range] at hx hxc
                  subst hx
                  obtain ⟨ba, bc, hb, hbc⟩ := HT.out.ob.shape'
                  obtain ⟨bn, hbn⟩ : ∃ x, (badk p j).length = x := ⟨_, rfl⟩
                  rw [hbn] at hb hbc
                  subst hb
                  have HBN := Lib.hid hbn
                  have hbl := badk_len p j
                  have hrl := restk_len p j
                  have hj8 : j < 8 := by omega
                  have HOX : Hid (Own fI TI wr W0.heap.size (.slice xa j xc) (List.range j)) := HT.out.ox
                  have HLX1 : Hid (((List.range j).length + 1) * 8 ≤ 140737488355328) := by show ((List.range j).length + 1) * 8 ≤ _; rw [List.length_range]; omega
                  have HLX2 : Hid ((List.range j).length + 1 ≤ maxLen) := by show (List.range j).length + 1 ≤ _; rw [List.length_range]; unfold maxLen; omega
                  have HLB1 : Hid (((badk p j).length + 1) * 8 ≤ 140737488355328) := by show ((badk p j).length + 1) * 8 ≤ _; omega
                  have HLB2 : Hid ((badk p j).length + 1 ≤ maxLen) := by show (badk p j).length + 1 ≤ _; unfold maxLen; omega
                  have HLI : Hid (((restk p j).length + [j].length) * 8 ≤ 140737488355328) := by show ((restk p j).length + 1) * 8 ≤ _; omega
                  have HLM : Hid ((restk p j).length + [j].length ≤ maxLen) := by show (restk p j).length + 1 ≤ _; unfold maxLen; omega
                  have HLR : Hid ((((restk p j).map (hdAt hds)).length + [(⟨none, 0, 0⟩ : Hd)].length) * 24 ≤ 140737488355328) := by show (((restk p j).map (hdAt hds)).length + 1) * 24 ≤ _; rw [List.length_map]; omega
                  have HLN : Hid (((restk p j).map (hdAt hds)).length + [(⟨none, 0, 0⟩ : Hd)].length ≤ maxLen) := by show ((restk p j).map (hdAt hds)).length + 1 ≤ _; rw [List.length_map]; unfold maxLen; omega
                  have HSZ : Hid (W0.heap.size ≤ wr.heap.size) := HT.out.bw.size
                  clear hbn hbl hrl hj8 hxc hbc
                  go_upto_region 19 with (at_builtin; (refine wpList_app1 (o := ⟨some 107, _, _, _, _, _⟩) (f := fI) rfl (.tmp 104) (.tmp 106) 33 rfl TI i0 (.int .i64 0) 8 Try.underlying33 HI.out HI1.out HI2.out HI3.out rfl (.slice xa j xc) (List.range j) W0.heap.size (by rfl) HOX.out j 1 (by rfl) (fun _ => rfl) HLX1.out HLX2.out HSZ.out ?_); intro v8 W8 HO8 HG8 HV8)
                  have HT8 : Hid (Below W0.heap.size W0 W8) := HT.out.bw.trans (grown_below HG8.out (fun q hq => (World.ownsRow.lt HOX.out q hq).1) HSZ.out)
                  have HX8 : Hid (Own fI TI W8 W0.heap.size v8 (List.range (j + 1))) := by show Own ..; rw [List.range_succ]; exact HO8.out
                  have HB8 : Hid (Own fI TI W8 W0.heap.size (.slice ba bn bc) (badk p j)) := own_dj HT.out.ob HT.out.xb.symm HG8.out
                  have HA8 : Hid (Own fI TI W8 W0.heap.size va (restk p j)) := own_dj HT.out.oa HT.out.xa.symm HG8.out
                  have HC8 : Hid (Own fS TR W8 W0.heap.size vc ((restk p j).map (hdAt hds))) := own_far HT.out.oc HOX.out HG8.out (by decide)
                  have DBX : Hid (Dj (.slice ba bn bc) v8) := Dj.new2 HT.out.ob HT.out.xb.symm HV8.out
                  have DAX : Hid (Dj va v8) := Dj.new2 HT.out.oa HT.out.xa.symm HV8.out
                  have DBA : Hid (Dj (.slice ba bn bc) va) := HT.out.ba
                  obtain ⟨gb, go, ra, rc, r, hAe, hrj, hcg, hsg⟩ := (HGV.out.up HT8.out (Nat.le_refl _)).cell hjm
                  injection hAe with hAe
                  injection hAe with e1 e2 _
                  subst e1 e2
                  obtain ⟨gb, go, qa, qc, q, hAe, hqj, hcq, hsq⟩ := (HAV.out.up HT8.out (Nat.le_refl _)).cell hjm
                  injection hAe with hAe
                  injection hAe with e1 e2 _
                  subst e1 e2
                  have hro := HG.out.ok.get hrj
                  have hqo := HAO.out.get hqj
                  rw [hro.1, Nat.zero_add] at hcg
                  rw [hqo.1, Nat.zero_add] at hcq
                  rw [hro.1] at hsg
                  rw [hqo.1] at hsq
                  replace hsg := hsg.more' HT8.out.size
                  replace hsq := hsq.more' HT8.out.size
                  have HSC0 : Hid (W0.cell? ⟨gg, j, none⟩ = some (.slice ra len rc)) := by
                    obtain ⟨gb', go', ra', rc', r', hA', hr', hc', _⟩ := HGV.out.cell hjm
                    injection hA' with hA'
                    injection hA' with e1 e2 _
                    subst e1 e2
                    rw [Nat.zero_add] at hc'
                    have h9 := (World.cell?_of_block (HT8.out.block _ (World.block_lt_of_cell? W0 _ hc'))).trans hc'
                    rw [hcg] at h9
                    exact Lib.hid (hc'.trans h9.symm)
                  have HSC : Hid (∀ V, Below W0.heap.size W0 V → V.cell? ⟨gg, j, none⟩ = some (.slice ra len rc)) := fun V hv => (World.cell?_of_block (hv.block _ (World.block_lt_of_cell? W0 _ HSC0.out))).trans HSC0.out
                  have hdj : hds[j]? = some ⟨ra, len, rc⟩ := by
                    obtain ⟨hd, hhd⟩ := get_ex (xs := hds) (k := j) (by rw [HG.out.hl]; exact hjm)
                    obtain ⟨gb', go', hA, hlt', hat'⟩ := HHS.out.2 (by rw [HG.out.hl]; omega)
                    injection hA with hA
                    injection hA with e1 e2 _
                    subst e1 e2
                    have h9 := hat' j hd hhd
                    rw [Nat.zero_add, HSC0.out] at h9
                    have h10 : Value.slice ra len rc = .slice hd.a hd.n hd.c := Option.some.inj h9
                    injection h10 with f1 f2 f3
                    rw [hhd, f1, f2, f3]
                  have HHD1 : Hid ([j].map (hdAt hds) = [⟨ra, len, rc⟩]) := by show [hdAt hds j] = _; unfold hdAt; rw [getD_some hdj]
                  have hpj := HPD.out j r q hrj hqj
                  have hbs := badk_step p j
                  have hrs := restk_step p j
                  obtain ⟨s1, hs1⟩ : ∃ s, bsN r = s := ⟨_, rfl⟩
                  have HS1 := Lib.hid hs1
                  clear hrj hqj hdj HSC0
                  by_cases hrq : r = q
                  · subst hrq
                    have hpf : p j = false := by rw [hpj]; simp
                    rw [hpf] at hbs hrs
                    have HBT : Hid (badk p (j + 1) = badk p j) := by show _ = _; rw [hbs]; simp
                    have HRT : Hid (restk p (j + 1) = restk p j ++ [j]) := hrs
                    clear hpj hpf hbs hrs hro hqo hs1
                    refine wp_region_held_drew (S := (fun w' : World => w'.cell? ⟨gg, j, none⟩ = some (.slice ra len rc) ∧ w'.cell? ⟨g, j, none⟩ = some (.slice qa len qc) ∧ Sl fN w' W8.heap.size ra len r ∧ Sl fN w' W8.heap.size qa len r)) (by kernel_rfl) (by exact ⟨hcg, hcq, hsg, hsq⟩) (fun hHeld => ?_)
                    refine wpAnyH_take (i := 0) (v := _) (by simp only [List.getElem?_toArray, List.getElem?_cons_zero]; rfl) (by kernel_rfl) (by kernel_rfl) (by kernel_rfl) (by exact fun _ _ _ h => h) (Or.inl ⟨by rfl, by (intro w hSw; (try dsimp only at hSw); go_simp; try (with_reducible rfl))⟩) (by assumption) ?_
                    try simp only [Act.put, List.setIfInBounds_toArray, List.set_cons_zero, List.set_cons_succ]
                    refine wpAnyH_take (i := 1) (v := _) (by simp only [List.getElem?_toArray, List.getElem?_cons_succ, List.getElem?_cons_zero]; rfl) (by kernel_rfl) (by kernel_rfl) (by kernel_rfl) (by exact fun _ _ _ h => h) (Or.inl ⟨by rfl, by (intro w hSw; (try dsimp only at hSw); go_simp; try (with_reducible rfl))⟩) (by assumption) ?_
                    try simp only [Act.put, List.setIfInBounds_toArray, List.set_cons_zero, List.set_cons_succ]
                    refine wpAnyH_take (i := 2) (v := _) (by simp only [List.getElem?_toArray, List.getElem?_cons_succ, List.getElem?_cons_zero]; rfl) (by kernel_rfl) (by kernel_rfl) (by kernel_rfl) (by exact fun _ _ _ h => h) (Or.inl ⟨by rfl, by (intro w hSw; (try dsimp only at hSw); go_simp; try (with_reducible rfl))⟩) (by assumption) ?_
                    try simp only [Act.put, List.setIfInBounds_toArray, List.set_cons_zero, List.set_cons_succ]
                    refine wpAnyH_take (i := 3) (v := _) (by simp only [List.getElem?_toArray, List.getElem?_cons_succ, List.getElem?_cons_zero]; rfl) (by kernel_rfl) (by kernel_rfl) (by kernel_rfl) (by exact fun _ _ _ h => h) (Or.inl ⟨by rfl, by (intro w hSw; (try dsimp only at hSw); go_simp; try (with_reducible rfl))⟩) (by assumption) ?_
                    try simp only [Act.put, List.setIfInBounds_toArray, List.set_cons_zero, List.set_cons_succ]
                    refine wpAnyH_take (i := 4) (v := _) (by simp only [List.getElem?_toArray, List.getElem?_cons_succ, List.getElem?_cons_zero]; rfl) (by kernel_rfl) (by kernel_rfl) (by kernel_rfl) (by exact fun _ _ _ h => h) (Or.inl ⟨by rfl, by (intro w hSw; (try dsimp only at hSw); have qq := run_convN (c := rc) hSw.2.2.1; rw [HS1.out] at qq; go_simp; try (with_reducible rfl))⟩) (by assumption) ?_
                    try simp only [Act.put, List.setIfInBounds_toArray, List.set_cons_zero, List.set_cons_succ]
                    refine wpAnyH_take (i := 5) (v := _) (by simp only [List.getElem?_toArray, List.getElem?_cons_succ, List.getElem?_cons_zero]; rfl) (by kernel_rfl) (by kernel_rfl) (by kernel_rfl) (by exact fun _ _ _ h => h) (Or.inl ⟨by rfl, by (intro w hSw; (try dsimp only at hSw); go_simp; try (with_reducible rfl))⟩) (by assumption) ?_
                    try simp only [Act.put, List.setIfInBounds_toArray, List.set_cons_zero, List.set_cons_succ]
                    refine wpAnyH_take (i := 6) (v := _) (by simp only [List.getElem?_toArray, List.getElem?_cons_succ, List.getElem?_cons_zero]; rfl) (by kernel_rfl) (by kernel_rfl) (by kernel_rfl) (by exact fun _ _ _ h => h) (Or.inl ⟨by rfl, by (intro w hSw; (try dsimp only at hSw); go_simp; try (with_reducible rfl))⟩) (by assumption) ?_
                    try simp only [Act.put, List.setIfInBounds_toArray, List.set_cons_zero, List.set_cons_succ]
                    refine wpAnyH_take (i := 7) (v := _) (by simp only [List.getElem?_toArray, List.getElem?_cons_succ, List.getElem?_cons_zero]; rfl) (by kernel_rfl) (by kernel_rfl) (by kernel_rfl) (by exact fun _ _ _ h => h) (Or.inl ⟨by rfl, by (intro w hSw; (try dsimp only at hSw); go_simp; try (with_reducible rfl))⟩) (by assumption) ?_
                    try simp only [Act.put, List.setIfInBounds_toArray, List.set_cons_zero, List.set_cons_succ]
                    refine wpAnyH_take (i := 8) (v := _) (by simp only [List.getElem?_toArray, List.getElem?_cons_succ, List.getElem?_cons_zero]; rfl) (by kernel_rfl) (by kernel_rfl) (by kernel_rfl) (by exact fun _ _ _ h => h) (Or.inl ⟨by rfl, by (intro w hSw; (try dsimp only at hSw); go_simp; try (with_reducible rfl))⟩) (by assumption) ?_
                    try simp only [Act.put, List.setIfInBounds_toArray, List.set_cons_zero, List.set_cons_succ]
                    refine wpAnyH_take (i := 9) (v := _) (by simp only [List.getElem?_toArray, List.getElem?_cons_succ, List.getElem?_cons_zero]; rfl) (by kernel_rfl) (by kernel_rfl) (by kernel_rfl) (by exact fun _ _ _ h => h) (Or.inl ⟨by rfl, by (intro w hSw; (try dsimp only at hSw); have qq := run_convN (c := qc) hSw.2.2.2; rw [HS1.out] at qq; go_simp; try (with_reducible rfl))⟩) (by assumption) ?_
                    try simp only [Act.put, List.setIfInBounds_toArray, List.set_cons_zero, List.set_cons_succ]
                    refine wpAnyH_take (i := 10) (v := _) (by simp only [List.getElem?_toArray, List.getElem?_cons_succ, List.getElem?_cons_zero]; rfl) (by kernel_rfl) (by kernel_rfl) (by kernel_rfl) (by exact fun _ _ _ h => h) (Or.inl ⟨by rfl, by (intro w hSw; (try dsimp only at hSw); go_simp; try (with_reducible rfl))⟩) (by assumption) ?_
                    try simp only [Act.put, List.setIfInBounds_toArray, List.set_cons_zero, List.set_cons_succ]
                    refine wpAnyH_done (by kernel_rfl) ?_ _
                    skip
                    clear hsg hsq hcq
                    go_wp2_with fail
                    have KT0 : Hid (Below W0.heap.size W0 W8.drew.drew) := HT8.out.drew.drew
                    have KX0 : Hid (Own fI TI W8.drew.drew W0.heap.size v8 (List.range (j + 1))) := HX8.out
                    have KB0 : Hid (Own fI TI W8.drew.drew W0.heap.size (.slice ba bn bc) (badk p j)) := HB8.out
                    have KA0 : Hid (Own fI TI W8.drew.drew W0.heap.size va (restk p j)) := HA8.out
                    have KC0 : Hid (Own fS TR W8.drew.drew W0.heap.size vc ((restk p j).map (hdAt hds))) := HC8.out
                    have DXB : Hid (Dj v8 (.slice ba bn bc)) := DBX.out.symm
                    have DJx0 : Hid (Dj v8 va) := DAX.out.symm
                    have DJb0 : Hid (Dj (.slice ba bn bc) va) := DBA.out
                    obtain ⟨vb, hvb⟩ : ∃ v, v = Value.slice ba bn bc := ⟨_, rfl⟩
                    rw [← hvb] at KB0 DXB DJb0 ⊢
                    refine wp_region_held_drew (S := (fun w' : World => w'.cell? ⟨gg, j, none⟩ = some (.slice ra len rc))) (by kernel_rfl) (by exact hcg) (fun hHeld => ?_)
                    refine wpAnyH_take (i := 0) (v := _) (by simp only [List.getElem?_toArray, List.getElem?_cons_zero]; rfl) (by kernel_rfl) (by kernel_rfl) (by kernel_rfl) (by exact fun _ _ _ h => h) (Or.inl ⟨by rfl, by (intro w hSw; (try dsimp only at hSw); go_simp; try (with_reducible rfl))⟩) (by assumption) ?_
                    try simp only [Act.put, List.setIfInBounds_toArray, List.set_cons_zero, List.set_cons_succ]
                    refine wpAnyH_take (i := 1) (v := _) (by simp only [List.getElem?_toArray, List.getElem?_cons_succ, List.getElem?_cons_zero]; rfl) (by kernel_rfl) (by kernel_rfl) (by kernel_rfl) (by exact fun _ _ _ h => h) (Or.inl ⟨by rfl, by (intro w hSw; (try dsimp only at hSw); go_simp; try (with_reducible rfl))⟩) (by assumption) ?_
                    try simp only [Act.put, List.setIfInBounds_toArray, List.set_cons_zero, List.set_cons_succ]
                    refine wpAnyH_take (i := 4) (v := _) (by simp only [List.getElem?_toArray, List.getElem?_cons_succ, List.getElem?_cons_zero]; rfl) (by kernel_rfl) (by kernel_rfl) (by kernel_rfl) (by exact fun _ _ _ h => h) (Or.inl ⟨by rfl, by (intro w hSw; (try dsimp only at hSw); go_simp; try (with_reducible rfl))⟩) (by assumption) ?_
                    try simp only [Act.put, List.setIfInBounds_toArray, List.set_cons_zero, List.set_cons_succ]
                    refine wpAnyH_take (i := 5) (v := _) (by simp only [List.getElem?_toArray, List.getElem?_cons_succ, List.getElem?_cons_zero]; rfl) (by kernel_rfl) (by kernel_rfl) (by kernel_rfl) (by exact fun _ _ _ h => h) (Or.inl ⟨by rfl, by (intro w hSw; (try dsimp only at hSw); go_simp; try (with_reducible rfl))⟩) (by assumption) ?_
                    try simp only [Act.put, List.setIfInBounds_toArray, List.set_cons_zero, List.set_cons_succ]
                    refine wpAnyH_take (i := 6) (v := _) (by simp only [List.getElem?_toArray, List.getElem?_cons_succ, List.getElem?_cons_zero]; rfl) (by kernel_rfl) (by kernel_rfl) (by kernel_rfl) (by exact fun _ _ _ h => h) (Or.inl ⟨by rfl, by (intro w hSw; (try dsimp only at hSw); go_simp; try (with_reducible rfl))⟩) (by assumption) ?_
                    try simp only [Act.put, List.setIfInBounds_toArray, List.set_cons_zero, List.set_cons_succ]
                    refine wpAnyH_take (i := 7) (v := _) (by simp only [List.getElem?_toArray, List.getElem?_cons_succ, List.getElem?_cons_zero]; rfl) (by kernel_rfl) (by kernel_rfl) (by kernel_rfl) (by exact fun _ _ _ h => h) (Or.inl ⟨by rfl, by (intro w hSw; (try dsimp only at hSw); go_simp; try (with_reducible rfl))⟩) (by assumption) ?_
                    try simp only [Act.put, List.setIfInBounds_toArray, List.set_cons_zero, List.set_cons_succ]
                    refine wpAnyH_take (i := 8) (v := _) (by simp only [List.getElem?_toArray, List.getElem?_cons_succ, List.getElem?_cons_zero]; rfl) (by kernel_rfl) (by kernel_rfl) (by kernel_rfl) (by exact fun _ _ _ h => h) (Or.inl ⟨by rfl, by (intro w hSw; (try dsimp only at hSw); go_simp; try (with_reducible rfl))⟩) (by assumption) ?_
                    try simp only [Act.put, List.setIfInBounds_toArray, List.set_cons_zero, List.set_cons_succ]
                    refine wpAnyH_ready (rs := [2, 9]) (by kernel_rfl) (by simp) ?_
                    refine AllReadyH.cons (by simp only [List.getElem?_toArray, List.getElem?_cons_succ, List.getElem?_cons_zero]; rfl) (fun K hK => ?_) (AllReadyH.cons (by simp only [List.getElem?_toArray, List.getElem?_cons_succ, List.getElem?_cons_zero]; rfl) (fun K hK => ?_) (AllReadyH.nil))
                    · ((refine step_one rfl 33 TI (.tmp 124) rfl i0 (.int .i64 0) Try.underlying33 HI.out HI1.out HI2.out rfl (.int .i64 (j : Int)) (by rfl) rfl ?_); intro e1 V1 HEi1 hb1; (have KT1 : Hid (Below W0.heap.size W0 V1) := KT0.out.trans (hb1.out.mono KT0.out.size)); (have KX1 := Lib.hid (KX0.out.on hb1.out)); (have KB1 := Lib.hid (KB0.out.on hb1.out)); (have KA1 := Lib.hid (KA0.out.on hb1.out)); (have KC1 := Lib.hid (KC0.out.on hb1.out)); clear hb1)
                      refine hK.out _ _ (by exact HSC.out _ KT1.out) (fun hHeldy9 => ?_)
                      clear hK K hHeld
                      try simp only [Act.put, List.setIfInBounds_toArray, List.set_cons_zero, List.set_cons_succ]
                      refine wpAnyH_ready (rs := [3, 9]) (by kernel_rfl) (by simp) ?_
                      refine AllReadyH.cons (by simp only [List.getElem?_toArray, List.getElem?_cons_succ, List.getElem?_cons_zero]; rfl) (fun K hK => ?_) (AllReadyH.cons (by simp only [List.getElem?_toArray, List.getElem?_cons_succ, List.getElem?_cons_zero]; rfl) (fun K hK => ?_) (AllReadyH.nil))
                      · ((refine step_app (.tmp 123) (.tmp 125) 33 rfl rfl TI i0 (.int .i64 0) 8 Try.underlying33 HI.out HI1.out HI2.out HI3.out rfl (f := fI) (restk p j) W0.heap.size (by exact KA1.out) [j] ⟨_, _, _, _, rfl, SL.sl (SL.of_block (xs := [j]) HEi1.out (lt_block HEi1.out))⟩ (fun _ => rfl) HLI.out HLM.out KT1.out.size ?_); intro vi V2 ho2 hg2 hv2 hB2; (have hg : Hid (World.grownBy V1 V2 (va).ownBlock) := hg2); (have KT2 : Hid (Below W0.heap.size W0 V2) := hB2.out _ _ KT1.out (Nat.le_refl _)); (have KA2 := ho2); (have KX2 := Lib.hid (own_dj KX1.out DJx0.out hg.out)); (have KB2 := Lib.hid (own_dj KB1.out DJb0.out hg.out)); (have KC2 := Lib.hid (own_far KC1.out KA1.out hg.out (by decide))); (have DJx1 : Hid (Dj v8 vi) := Dj.new KX1.out DJx0.out hv2.out); (have DJb1 : Hid (Dj vb vi) := Dj.new KB1.out DJb0.out hv2.out); clear hg hg2 hB2)
                        refine hK.out _ _ (by exact HSC.out _ KT2.out) (fun hHeldy11 => ?_)
                        clear hK K hHeldy9
                        try simp only [Act.put, List.setIfInBounds_toArray, List.set_cons_zero, List.set_cons_succ]
                        refine wpAnyH_ready (rs := [9]) (by kernel_rfl) (by simp) ?_
                        refine AllReadyH.cons (by simp only [List.getElem?_toArray, List.getElem?_cons_succ, List.getElem?_cons_zero]; rfl) (fun K hK => ?_) (AllReadyH.nil)
                        ((refine step_one rfl 22 TR (.tmp 131) rfl j0 (.slice none 0 0) Try.underlying22 HJ0.out HJ1.out HJ2.out rfl (.slice ra len rc) (by rfl) rfl ?_); intro e2 V3 HEr3 hb3; (have KT3 : Hid (Below W0.heap.size W0 V3) := KT2.out.trans (hb3.out.mono KT2.out.size)); (have KX3 := Lib.hid (KX2.out.on hb3.out)); (have KB3 := Lib.hid (KB2.out.on hb3.out)); (have KA3 := Lib.hid (KA2.out.on hb3.out)); (have KC3 := Lib.hid (KC2.out.on hb3.out)); clear hb3)
                        refine hK.out _ _ (by exact HSC.out _ KT3.out) (fun hHeldy12 => ?_)
                        clear hK K hHeldy11
                        try simp only [Act.put, List.setIfInBounds_toArray, List.set_cons_zero, List.set_cons_succ]
                        refine wpAnyH_ready (rs := [10]) (by kernel_rfl) (by simp) ?_
                        refine AllReadyH.cons (by simp only [List.getElem?_toArray, List.getElem?_cons_succ, List.getElem?_cons_zero]; rfl) (fun K hK => ?_) (AllReadyH.nil)
                        ((refine step_app (.tmp 127) (.tmp 132) 22 rfl rfl TR j0 (.slice none 0 0) 24 Try.underlying22 HJ0.out HJ1.out HJ2.out HJ3.out rfl (f := fS) ((restk p j).map (hdAt hds)) W0.heap.size (by exact KC3.out) [⟨ra, len, rc⟩] ⟨_, _, _, _, rfl, SL.sl (SL.of_block (xs := [(⟨ra, len, rc⟩ : Hd)]) HEr3.out (lt_block HEr3.out))⟩ fS1 HLR.out HLN.out KT3.out.size ?_); intro vr V4 ho4 hg4 hv4 hB4; (have hg : Hid (World.grownBy V3 V4 (vc).ownBlock) := hg4); (have KT4 : Hid (Below W0.heap.size W0 V4) := hB4.out _ _ KT3.out (Nat.le_refl _)); (have KC4 := ho4); (have KX4 := Lib.hid (own_far KX3.out KC3.out hg.out (by decide))); (have KB4 := Lib.hid (own_far KB3.out KC3.out hg.out (by decide))); (have KA4 := Lib.hid (own_far KA3.out KC3.out hg.out (by decide))); clear hg hg4 hB4)
                        refine hK.out _ _ (by exact HSC.out _ KT4.out) (fun hHeldy13 => ?_)
                        clear hK K hHeldy12
                        try simp only [Act.put, List.setIfInBounds_toArray, List.set_cons_zero, List.set_cons_succ]
                        refine wpAnyH_take (i := 11) (v := _) (by simp only [List.getElem?_toArray, List.getElem?_cons_succ, List.getElem?_cons_zero]; rfl) (by kernel_rfl) (by kernel_rfl) (by kernel_rfl) (by exact fun _ _ _ h => h) (Or.inl ⟨by rfl, by (intro w hSw; (try dsimp only at hSw); go_simp; try (with_reducible rfl))⟩) (by assumption) ?_
                        try simp only [Act.put, List.setIfInBounds_toArray, List.set_cons_zero, List.set_cons_succ]
                        refine wpAnyH_take (i := 12) (v := _) (by simp only [List.getElem?_toArray, List.getElem?_cons_succ, List.getElem?_cons_zero]; rfl) (by kernel_rfl) (by kernel_rfl) (by kernel_rfl) (by exact fun _ _ _ h => h) (Or.inl ⟨by rfl, by (intro w hSw; (try dsimp only at hSw); go_simp; try (with_reducible rfl))⟩) (by assumption) ?_
                        try simp only [Act.put, List.setIfInBounds_toArray, List.set_cons_zero, List.set_cons_succ]
                        refine wpAnyH_done (by kernel_rfl) ?_ _
                        have HTN : Hid (TSt hds p W0 V4 (j + 1) v8 vb vi vr) := ⟨KT4.out, KX4.out, by rw [HBT.out]; exact KB4.out, by rw [HRT.out]; exact KA4.out, by rw [HRT.out, List.map_append, HHD1.out]; exact KC4.out, DXB.out, DJx1.out, DJb1.out⟩
                        go_wp2_with fail
                        go_roundw
                        case rel => exact ⟨j + 1, _, _, _, _, by omega, by go_num, rfl, rfl, rfl, rfl, HTN⟩
                        case measure => simp [intOf]; omega
                      · ((refine step_one rfl 22 TR (.tmp 131) rfl j0 (.slice none 0 0) Try.underlying22 HJ0.out HJ1.out HJ2.out rfl (.slice ra len rc) (by rfl) rfl ?_); intro e2 V2 HEr2 hb2; (have KT2 : Hid (Below W0.heap.size W0 V2) := KT1.out.trans (hb2.out.mono KT1.out.size)); (have KX2 := Lib.hid (KX1.out.on hb2.out)); (have KB2 := Lib.hid (KB1.out.on hb2.out)); (have KA2 := Lib.hid (KA1.out.on hb2.out)); (have KC2 := Lib.hid (KC1.out.on hb2.out)); (have HEi2 := Lib.hid ((hb2.out.block _ (lt_block HEi1.out)).trans HEi1.out)); clear hb2)
                        refine hK.out _ _ (by exact HSC.out _ KT2.out) (fun hHeldy16 => ?_)
                        clear hK K hHeldy9
                        try simp only [Act.put, List.setIfInBounds_toArray, List.set_cons_zero, List.set_cons_succ]
                        refine wpAnyH_ready (rs := [3]) (by kernel_rfl) (by simp) ?_
                        refine AllReadyH.cons (by simp only [List.getElem?_toArray, List.getElem?_cons_succ, List.getElem?_cons_zero]; rfl) (fun K hK => ?_) (AllReadyH.nil)
                        ((refine step_app (.tmp 123) (.tmp 125) 33 rfl rfl TI i0 (.int .i64 0) 8 Try.underlying33 HI.out HI1.out HI2.out HI3.out rfl (f := fI) (restk p j) W0.heap.size (by exact KA2.out) [j] ⟨_, _, _, _, rfl, SL.sl (SL.of_block (xs := [j]) HEi2.out (lt_block HEi2.out))⟩ (fun _ => rfl) HLI.out HLM.out KT2.out.size ?_); intro vi V3 ho3 hg3 hv3 hB3; (have hg : Hid (World.grownBy V2 V3 (va).ownBlock) := hg3); (have KT3 : Hid (Below W0.heap.size W0 V3) := hB3.out _ _ KT2.out (Nat.le_refl _)); (have KA3 := ho3); (have KX3 := Lib.hid (own_dj KX2.out DJx0.out hg.out)); (have KB3 := Lib.hid (own_dj KB2.out DJb0.out hg.out)); (have KC3 := Lib.hid (own_far KC2.out KA2.out hg.out (by decide))); (have DJx1 : Hid (Dj v8 vi) := Dj.new KX2.out DJx0.out hv3.out); (have DJb1 : Hid (Dj vb vi) := Dj.new KB2.out DJb0.out hv3.out); (have HEr3 := Lib.hid (cell_far HEr2.out KA2.out hg.out (by decide))); clear hg hg3 hB3)
                        refine hK.out _ _ (by exact HSC.out _ KT3.out) (fun hHeldy17 => ?_)
                        clear hK K hHeldy16
                        try simp only [Act.put, List.setIfInBounds_toArray, List.set_cons_zero, List.set_cons_succ]
                        refine wpAnyH_ready (rs := [10]) (by kernel_rfl) (by simp) ?_
                        refine AllReadyH.cons (by simp only [List.getElem?_toArray, List.getElem?_cons_succ, List.getElem?_cons_zero]; rfl) (fun K hK => ?_) (AllReadyH.nil)
                        ((refine step_app (.tmp 127) (.tmp 132) 22 rfl rfl TR j0 (.slice none 0 0) 24 Try.underlying22 HJ0.out HJ1.out HJ2.out HJ3.out rfl (f := fS) ((restk p j).map (hdAt hds)) W0.heap.size (by exact KC3.out) [⟨ra, len, rc⟩] ⟨_, _, _, _, rfl, SL.sl (SL.of_block (xs := [(⟨ra, len, rc⟩ : Hd)]) HEr3.out (lt_block HEr3.out))⟩ fS1 HLR.out HLN.out KT3.out.size ?_); intro vr V4 ho4 hg4 hv4 hB4; (have hg : Hid (World.grownBy V3 V4 (vc).ownBlock) := hg4); (have KT4 : Hid (Below W0.heap.size W0 V4) := hB4.out _ _ KT3.out (Nat.le_refl _)); (have KC4 := ho4); (have KX4 := Lib.hid (own_far KX3.out KC3.out hg.out (by decide))); (have KB4 := Lib.hid (own_far KB3.out KC3.out hg.out (by decide))); (have KA4 := Lib.hid (own_far KA3.out KC3.out hg.out (by decide))); clear hg hg4 hB4)
                        refine hK.out _ _ (by exact HSC.out _ KT4.out) (fun hHeldy18 => ?_)
                        clear hK K hHeldy17
                        try simp only [Act.put, List.setIfInBounds_toArray, List.set_cons_zero, List.set_cons_succ]
                        refine wpAnyH_take (i := 11) (v := _) (by simp only [List.getElem?_toArray, List.getElem?_cons_succ, List.getElem?_cons_zero]; rfl) (by kernel_rfl) (by kernel_rfl) (by kernel_rfl) (by exact fun _ _ _ h => h) (Or.inl ⟨by rfl, by (intro w hSw; (try dsimp only at hSw); go_simp; try (with_reducible rfl))⟩) (by assumption) ?_
                        try simp only [Act.put, List.setIfInBounds_toArray, List.set_cons_zero, List.set_cons_succ]
                        refine wpAnyH_take (i := 12) (v := _) (by simp only [List.getElem?_toArray, List.getElem?_cons_succ, List.getElem?_cons_zero]; rfl) (by kernel_rfl) (by kernel_rfl) (by kernel_rfl) (by exact fun _ _ _ h => h) (Or.inl ⟨by rfl, by (intro w hSw; (try dsimp only at hSw); go_simp; try (with_reducible rfl))⟩) (by assumption) ?_
                        try simp only [Act.put, List.setIfInBounds_toArray, List.set_cons_zero, List.set_cons_succ]
                        refine wpAnyH_done (by kernel_rfl) ?_ _
                        have HTN : Hid (TSt hds p W0 V4 (j + 1) v8 vb vi vr) := ⟨KT4.out, KX4.out, by rw [HBT.out]; exact KB4.out, by rw [HRT.out]; exact KA4.out, by rw [HRT.out, List.map_append, HHD1.out]; exact KC4.out, DXB.out, DJx1.out, DJb1.out⟩
                        go_wp2_with fail
                        go_roundw
                        case rel => exact ⟨j + 1, _, _, _, _, by omega, by go_num, rfl, rfl, rfl, rfl, HTN⟩
                        case measure => simp [intOf]; omega
                    · ((refine step_one rfl 22 TR (.tmp 131) rfl j0 (.slice none 0 0) Try.underlying22 HJ0.out HJ1.out HJ2.out rfl (.slice ra len rc) (by rfl) rfl ?_); intro e2 V1 HEr1 hb1; (have KT1 : Hid (Below W0.heap.size W0 V1) := KT0.out.trans (hb1.out.mono KT0.out.size)); (have KX1 := Lib.hid (KX0.out.on hb1.out)); (have KB1 := Lib.hid (KB0.out.on hb1.out)); (have KA1 := Lib.hid (KA0.out.on hb1.out)); (have KC1 := Lib.hid (KC0.out.on hb1.out)); clear hb1)
                      refine hK.out _ _ (by exact HSC.out _ KT1.out) (fun hHeldy21 => ?_)
                      clear hK K hHeld
                      try simp only [Act.put, List.setIfInBounds_toArray, List.set_cons_zero, List.set_cons_succ]
                      refine wpAnyH_ready (rs := [2]) (by kernel_rfl) (by simp) ?_
                      refine AllReadyH.cons (by simp only [List.getElem?_toArray, List.getElem?_cons_succ, List.getElem?_cons_zero]; rfl) (fun K hK => ?_) (AllReadyH.nil)
                      ((refine step_one rfl 33 TI (.tmp 124) rfl i0 (.int .i64 0) Try.underlying33 HI.out HI1.out HI2.out rfl (.int .i64 (j : Int)) (by rfl) rfl ?_); intro e1 V2 HEi2 hb2; (have KT2 : Hid (Below W0.heap.size W0 V2) := KT1.out.trans (hb2.out.mono KT1.out.size)); (have KX2 := Lib.hid (KX1.out.on hb2.out)); (have KB2 := Lib.hid (KB1.out.on hb2.out)); (have KA2 := Lib.hid (KA1.out.on hb2.out)); (have KC2 := Lib.hid (KC1.out.on hb2.out)); (have HEr2 := Lib.hid ((hb2.out.block _ (lt_block HEr1.out)).trans HEr1.out)); clear hb2)
                      refine hK.out _ _ (by exact HSC.out _ KT2.out) (fun hHeldy22 => ?_)
                      clear hK K hHeldy21
                      try simp only [Act.put, List.setIfInBounds_toArray, List.set_cons_zero, List.set_cons_succ]
                      refine wpAnyH_ready (rs := [3]) (by kernel_rfl) (by simp) ?_
                      refine AllReadyH.cons (by simp only [List.getElem?_toArray, List.getElem?_cons_succ, List.getElem?_cons_zero]; rfl) (fun K hK => ?_) (AllReadyH.nil)
                      ((refine step_app (.tmp 123) (.tmp 125) 33 rfl rfl TI i0 (.int .i64 0) 8 Try.underlying33 HI.out HI1.out HI2.out HI3.out rfl (f := fI) (restk p j) W0.heap.size (by exact KA2.out) [j] ⟨_, _, _, _, rfl, SL.sl (SL.of_block (xs := [j]) HEi2.out (lt_block HEi2.out))⟩ (fun _ => rfl) HLI.out HLM.out KT2.out.size ?_); intro vi V3 ho3 hg3 hv3 hB3; (have hg : Hid (World.grownBy V2 V3 (va).ownBlock) := hg3); (have KT3 : Hid (Below W0.heap.size W0 V3) := hB3.out _ _ KT2.out (Nat.le_refl _)); (have KA3 := ho3); (have KX3 := Lib.hid (own_dj KX2.out DJx0.out hg.out)); (have KB3 := Lib.hid (own_dj KB2.out DJb0.out hg.out)); (have KC3 := Lib.hid (own_far KC2.out KA2.out hg.out (by decide))); (have DJx1 : Hid (Dj v8 vi) := Dj.new KX2.out DJx0.out hv3.out); (have DJb1 : Hid (Dj vb vi) := Dj.new KB2.out DJb0.out hv3.out); (have HEr3 := Lib.hid (cell_far HEr2.out KA2.out hg.out (by decide))); clear hg hg3 hB3)
                      refine hK.out _ _ (by exact HSC.out _ KT3.out) (fun hHeldy23 => ?_)
                      clear hK K hHeldy22
                      try simp only [Act.put, List.setIfInBounds_toArray, List.set_cons_zero, List.set_cons_succ]
                      refine wpAnyH_ready (rs := [10]) (by kernel_rfl) (by simp) ?_
                      refine AllReadyH.cons (by simp only [List.getElem?_toArray, List.getElem?_cons_succ, List.getElem?_cons_zero]; rfl) (fun K hK => ?_) (AllReadyH.nil)
                      ((refine step_app (.tmp 127) (.tmp 132) 22 rfl rfl TR j0 (.slice none 0 0) 24 Try.underlying22 HJ0.out HJ1.out HJ2.out HJ3.out rfl (f := fS) ((restk p j).map (hdAt hds)) W0.heap.size (by exact KC3.out) [⟨ra, len, rc⟩] ⟨_, _, _, _, rfl, SL.sl (SL.of_block (xs := [(⟨ra, len, rc⟩ : Hd)]) HEr3.out (lt_block HEr3.out))⟩ fS1 HLR.out HLN.out KT3.out.size ?_); intro vr V4 ho4 hg4 hv4 hB4; (have hg : Hid (World.grownBy V3 V4 (vc).ownBlock) := hg4); (have KT4 : Hid (Below W0.heap.size W0 V4) := hB4.out _ _ KT3.out (Nat.le_refl _)); (have KC4 := ho4); (have KX4 := Lib.hid (own_far KX3.out KC3.out hg.out (by decide))); (have KB4 := Lib.hid (own_far KB3.out KC3.out hg.out (by decide))); (have KA4 := Lib.hid (own_far KA3.out KC3.out hg.out (by decide))); clear hg hg4 hB4)
                      refine hK.out _ _ (by exact HSC.out _ KT4.out) (fun hHeldy24 => ?_)
                      clear hK K hHeldy23
                      try simp only [Act.put, List.setIfInBounds_toArray, List.set_cons_zero, List.set_cons_succ]
                      refine wpAnyH_take (i := 11) (v := _) (by simp only [List.getElem?_toArray, List.getElem?_cons_succ, List.getElem?_cons_zero]; rfl) (by kernel_rfl) (by kernel_rfl) (by kernel_rfl) (by exact fun _ _ _ h => h) (Or.inl ⟨by rfl, by (intro w hSw; (try dsimp only at hSw); go_simp; try (with_reducible rfl))⟩) (by assumption) ?_
                      try simp only [Act.put, List.setIfInBounds_toArray, List.set_cons_zero, List.set_cons_succ]
                      refine wpAnyH_take (i := 12) (v := _) (by simp only [List.getElem?_toArray, List.getElem?_cons_succ, List.getElem?_cons_zero]; rfl) (by kernel_rfl) (by kernel_rfl) (by kernel_rfl) (by exact fun _ _ _ h => h) (Or.inl ⟨by rfl, by (intro w hSw; (try dsimp only at hSw); go_simp; try (with_reducible rfl))⟩) (by assumption) ?_
                      try simp only [Act.put, List.setIfInBounds_toArray, List.set_cons_zero, List.set_cons_succ]
                      refine wpAnyH_done (by kernel_rfl) ?_ _
                      have HTN : Hid (TSt hds p W0 V4 (j + 1) v8 vb vi vr) := ⟨KT4.out, KX4.out, by rw [HBT.out]; exact KB4.out, by rw [HRT.out]; exact KA4.out, by rw [HRT.out, List.map_append, HHD1.out]; exact KC4.out, DXB.out, DJx1.out, DJb1.out⟩
                      go_wp2_with fail
                      go_roundw
                      case rel => exact ⟨j + 1, _, _, _, _, by omega, by go_num, rfl, rfl, rfl, rfl, HTN⟩
                      case measure => simp [intOf]; omega
                  · obtain ⟨s2, hs2⟩ : ∃ s, bsN q = s := ⟨_, rfl⟩
                    have HS2 := Lib.hid hs2
                    have hne : s1 ≠ s2 := fun e => hrq (bsN_inj hro.2 hqo.2 (by rw [hs1, hs2, e]))
                    have hne1 : ¬ s1.toList = s2.toList := fun e => hne (by rw [ByteArray.toList_eq, ByteArray.toList_eq] at e; exact ByteArray.ext (Array.toList_inj.1 e))
                    have hne2 : (s1.toList == s2.toList) = false := by simpa using hne1
                    have hne3 : decide (s1.toList = s2.toList) = false := by simpa using hne1
                    have hne4 : (s1.toList != s2.toList) = true := by simpa using hne1
                    clear hne
                    have hpt : p j = true := by rw [hpj]; simp [hrq]
                    rw [hpt] at hbs hrs
                    have HBT : Hid (badk p (j + 1) = badk p j ++ [j]) := hbs
                    have HRT : Hid (restk p (j + 1) = restk p j) := by show _ = _; rw [hrs]; simp
                    clear hpj hpt hbs hrs hro hqo hs1 hs2 hrq
                    refine wp_region_held_drew (S := (fun w' : World => w'.cell? ⟨gg, j, none⟩ = some (.slice ra len rc) ∧ w'.cell? ⟨g, j, none⟩ = some (.slice qa len qc) ∧ Sl fN w' W8.heap.size ra len r ∧ Sl fN w' W8.heap.size qa len q)) (by kernel_rfl) (by exact ⟨hcg, hcq, hsg, hsq⟩) (fun hHeld => ?_)
                    refine wpAnyH_take (i := 0) (v := _) (by simp only [List.getElem?_toArray, List.getElem?_cons_zero]; rfl) (by kernel_rfl) (by kernel_rfl) (by kernel_rfl) (by exact fun _ _ _ h => h) (Or.inl ⟨by rfl, by (intro w hSw; (try dsimp only at hSw); go_simp; try (with_reducible rfl))⟩) (by assumption) ?_
                    try simp only [Act.put, List.setIfInBounds_toArray, List.set_cons_zero, List.set_cons_succ]
                    refine wpAnyH_take (i := 1) (v := _) (by simp only [List.getElem?_toArray, List.getElem?_cons_succ, List.getElem?_cons_zero]; rfl) (by kernel_rfl) (by kernel_rfl) (by kernel_rfl) (by exact fun _ _ _ h => h) (Or.inl ⟨by rfl, by (intro w hSw; (try dsimp only at hSw); go_simp; try (with_reducible rfl))⟩) (by assumption) ?_
                    try simp only [Act.put, List.setIfInBounds_toArray, List.set_cons_zero, List.set_cons_succ]
                    refine wpAnyH_take (i := 2) (v := _) (by simp only [List.getElem?_toArray, List.getElem?_cons_succ, List.getElem?_cons_zero]; rfl) (by kernel_rfl) (by kernel_rfl) (by kernel_rfl) (by exact fun _ _ _ h => h) (Or.inl ⟨by rfl, by (intro w hSw; (try dsimp only at hSw); go_simp; try (with_reducible rfl))⟩) (by assumption) ?_
                    try simp only [Act.put, List.setIfInBounds_toArray, List.set_cons_zero, List.set_cons_succ]
                    refine wpAnyH_take (i := 3) (v := _) (by simp only [List.getElem?_toArray, List.getElem?_cons_succ, List.getElem?_cons_zero]; rfl) (by kernel_rfl) (by kernel_rfl) (by kernel_rfl) (by exact fun _ _ _ h => h) (Or.inl ⟨by rfl, by (intro w hSw; (try dsimp only at hSw); go_simp; try (with_reducible rfl))⟩) (by assumption) ?_
                    try simp only [Act.put, List.setIfInBounds_toArray, List.set_cons_zero, List.set_cons_succ]
                    refine wpAnyH_take (i := 4) (v := _) (by simp only [List.getElem?_toArray, List.getElem?_cons_succ, List.getElem?_cons_zero]; rfl) (by kernel_rfl) (by kernel_rfl) (by kernel_rfl) (by exact fun _ _ _ h => h) (Or.inl ⟨by rfl, by (intro w hSw; (try dsimp only at hSw); have qq := run_convN (c := rc) hSw.2.2.1; rw [HS1.out] at qq; go_simp; try (with_reducible rfl))⟩) (by assumption) ?_
                    try simp only [Act.put, List.setIfInBounds_toArray, List.set_cons_zero, List.set_cons_succ]
                    refine wpAnyH_take (i := 5) (v := _) (by simp only [List.getElem?_toArray, List.getElem?_cons_succ, List.getElem?_cons_zero]; rfl) (by kernel_rfl) (by kernel_rfl) (by kernel_rfl) (by exact fun _ _ _ h => h) (Or.inl ⟨by rfl, by (intro w hSw; (try dsimp only at hSw); go_simp; try (with_reducible rfl))⟩) (by assumption) ?_
                    try simp only [Act.put, List.setIfInBounds_toArray, List.set_cons_zero, List.set_cons_succ]
                    refine wpAnyH_take (i := 6) (v := _) (by simp only [List.getElem?_toArray, List.getElem?_cons_succ, List.getElem?_cons_zero]; rfl) (by kernel_rfl) (by kernel_rfl) (by kernel_rfl) (by exact fun _ _ _ h => h) (Or.inl ⟨by rfl, by (intro w hSw; (try dsimp only at hSw); go_simp; try (with_reducible rfl))⟩) (by assumption) ?_
                    try simp only [Act.put, List.setIfInBounds_toArray, List.set_cons_zero, List.set_cons_succ]
                    refine wpAnyH_take (i := 7) (v := _) (by simp only [List.getElem?_toArray, List.getElem?_cons_succ, List.getElem?_cons_zero]; rfl) (by kernel_rfl) (by kernel_rfl) (by kernel_rfl) (by exact fun _ _ _ h => h) (Or.inl ⟨by rfl, by (intro w hSw; (try dsimp only at hSw); go_simp; try (with_reducible rfl))⟩) (by assumption) ?_
                    try simp only [Act.put, List.setIfInBounds_toArray, List.set_cons_zero, List.set_cons_succ]
                    refine wpAnyH_take (i := 8) (v := _) (by simp only [List.getElem?_toArray, List.getElem?_cons_succ, List.getElem?_cons_zero]; rfl) (by kernel_rfl) (by kernel_rfl) (by kernel_rfl) (by exact fun _ _ _ h => h) (Or.inl ⟨by rfl, by (intro w hSw; (try dsimp only at hSw); go_simp; try (with_reducible rfl))⟩) (by assumption) ?_
                    try simp only [Act.put, List.setIfInBounds_toArray, List.set_cons_zero, List.set_cons_succ]
                    refine wpAnyH_take (i := 9) (v := _) (by simp only [List.getElem?_toArray, List.getElem?_cons_succ, List.getElem?_cons_zero]; rfl) (by kernel_rfl) (by kernel_rfl) (by kernel_rfl) (by exact fun _ _ _ h => h) (Or.inl ⟨by rfl, by (intro w hSw; (try dsimp only at hSw); have qq := run_convN (c := qc) hSw.2.2.2; rw [HS2.out] at qq; go_simp; try (with_reducible rfl))⟩) (by assumption) ?_
                    try simp only [Act.put, List.setIfInBounds_toArray, List.set_cons_zero, List.set_cons_succ]
                    refine wpAnyH_take (i := 10) (v := _) (by simp only [List.getElem?_toArray, List.getElem?_cons_succ, List.getElem?_cons_zero]; rfl) (by kernel_rfl) (by kernel_rfl) (by kernel_rfl) (by exact fun _ _ _ h => h) (Or.inl ⟨by rfl, by (intro w hSw; (try dsimp only at hSw); go_simp; try (with_reducible rfl))⟩) (by assumption) ?_
                    try simp only [Act.put, List.setIfInBounds_toArray, List.set_cons_zero, List.set_cons_succ]
                    refine wpAnyH_done (by kernel_rfl) ?_ _
                    skip
                    clear hsg hsq hcg hcq
                    have HBd : Hid (Own fI TI W8.drew W0.heap.size (.slice ba bn bc) (badk p j)) := HB8.out
                    have HSZ8 : Hid (W0.heap.size ≤ W8.drew.heap.size) := HT8.out.size
                    go_wp2_with (at_builtin; (refine wpList_app1 (o := ⟨some 122, _, _, _, _, _⟩) (f := fI) rfl (.tmp 119) (.tmp 121) 33 rfl TI i0 (.int .i64 0) 8 Try.underlying33 HI.out HI1.out HI2.out HI3.out rfl (.slice ba bn bc) (badk p j) W0.heap.size (by rfl) HBd.out j 1 (by rfl) (fun _ => rfl) HLB1.out HLB2.out HSZ8.out ?_); intro v9 W9 HO9 HG9 HV9)
                    have HTN : Hid (TSt hds p W0 W9 (j + 1) v8 v9 va vc) := ⟨HT8.out.drew.trans (grown_below HG9.out (fun q hq => (World.ownsRow.lt HBd.out q hq).1) HSZ8.out), own_dj (w := W8.drew) HX8.out DBX.out.symm HG9.out, by rw [HBT.out]; exact HO9.out, by rw [HRT.out]; exact own_dj (w := W8.drew) HA8.out DBA.out.symm HG9.out, by rw [HRT.out]; exact own_far (w := W8.drew) HC8.out HBd.out HG9.out (by decide), Dj.new2 (w := W8.drew) HX8.out DBX.out.symm HV9.out, DAX.out.symm, (Dj.new2 (w := W8.drew) HA8.out DBA.out.symm HV9.out).symm⟩
                    go_roundw
                    case rel => exact ⟨j + 1, _, _, _, _, by omega, by go_num, rfl, rfl, rfl, rfl, HTN⟩
                    case measure => simp [intOf]; omega
                · obtain rfl : j = m := by omega
                  have HBr2 : Hid (Below w3.heap.size w3 wr) := HG.out.bw.trans (HT.out.bw.mono HG.out.bw.size)
                  have HBw2 : Hid (Below w.heap.size w wr) := HB3.out.trans (HBr2.out.mono HB3.out.size)
                  obtain ⟨h1, hdm, h8m, hl1, hl8⟩ := HD.out
                  obtain ⟨A1, c1, hx, hxc, hxs, _⟩ := HT.out.ox.shape
                  obtain ⟨A3, c3, hb, hbc, hbs, _⟩ := HT.out.ob.shape
                  obtain ⟨A4, c4, ha, hac, has, _⟩ := HT.out.oa.shape
                  obtain ⟨A5, c5, hc, hcc, hcs⟩ := sll_of HG.out.gl HG.out.hl HG.out.rows HBr2.out HBr2.out.size HT.out.oc (fun i hi => List.mem_range.1 (List.mem_filter.1 hi).1)
                  obtain ⟨bad, hbad⟩ : ∃ l, badk p j = l := ⟨_, rfl⟩
                  obtain ⟨rest, hrest⟩ : ∃ l, restk p j = l := ⟨_, rfl⟩
                  have hsp := filter_split p (List.range j)
                  rw [show (List.range j).filter p = bad from hbad, show (List.range j).filter (fun i => !p i) = rest from hrest, List.length_range] at hsp
                  have hbL : badL len n j bl given = bad := by rw [← hbad, ← HPE.out]; rfl
                  have hrL : (List.range j).filter (fun i => !badP len n bl given i) = rest := by rw [← hrest, ← HPE.out]
                  have hra : Asc rest := by rw [← hrest]; exact asc_filter _ j
                  have hrm : ∀ i ∈ rest, i < j := fun i hi => by rw [← hrest] at hi; exact List.mem_range.1 (List.mem_filter.1 hi).1
                  rw [List.length_range] at hx hxc
                  rw [hbad] at hb hbc hbs
                  rw [hrest] at ha hac has hc hcc hcs
                  obtain ⟨bn, hbn⟩ : ∃ x, bad.length = x := ⟨_, rfl⟩
                  obtain ⟨rn, hrn⟩ : ∃ x, rest.length = x := ⟨_, rfl⟩
                  rw [hbn] at hb hbc hsp
                  rw [hrn] at ha hac hc hcc hcs hsp
                  subst hx hb ha hc
                  have hgv := HGV.out.up HT.out.bw (Nat.le_refl _)
                  obtain ⟨wq, hwq⟩ : ∃ q, (j - n) / 2 = q := ⟨_, rfl⟩
                  have hqI : (wq : Int) ≤ 8 := by omega
                  have hbI : (bn : Int) ≤ 8 := by omega
                  have hdif : ((j : Int) - (n : Int)) / 2 = (wq : Int) := by omega
                  have HDIF := Lib.hid hdif
                  have HBD : Hid (Sl fI wr wr.heap.size A3 bn bad) := ⟨hbn, hbs⟩
                  by_cases hq : wq < bn
                  · have hqi : (wq : Int) < (bn : Int) := by omega
                    clear hxs hbs has hcs hgv hra hrm hbL hrL hsp hxc hbc hac hcc hwq h1 hdm h8m hl1 hl8
                    go_wp2_with fail
                    go_ret
                    exact ⟨rfl, HBw2.out⟩
                  · have hqi : ¬ (wq : Int) < (bn : Int) := by omega
                    have hbadl : (badL len n j bl given).length ≤ (j - n) / 2 := by rw [hbL, hbn, hwq]; omega
                    have hgb : ∀ r ∈ given, r.length = len ∧ Bys r := HG.out.ok
                    have hbb : ∀ r ∈ bl, r.length = len ∧ Bys r := HOK.out
                    have hsz : W0.heap.size ≤ wr.heap.size := HT.out.bw.size
                    have hxS : Sl fI wr wr.heap.size A1 j (List.range j) := ⟨List.length_range, hxs⟩
                    have haS : Sl fI wr wr.heap.size A4 rn rest := ⟨hrn, has⟩
                    have hgv2 := hgv.more hsz
                    have HLO : Hid (Calls Try.prog 8 #[.int .i64 n, .int .i64 j, .slice A1 j c1, .slice (some ⟨gg, 0, none⟩) j cg] wr (LoP bad wr)) :=
                      locate_any n j c1 cg wr.heap.size len wq A1 (some ⟨gg, 0, none⟩) given bad wr h1 hdm h8m hxS hgv2 (Nat.le_refl _) hgb (by omega) (by omega) hwq.symm
                        (by rw [← hwq]; exact loc_ex h1 hdm h8m HG.out.gl hgb HBL.out hbb hbadl)
                        (fun s _ hs hok => by rw [← hbL]; exact loc_bad h1 hdm h8m HG.out.gl hgb HBL.out hbb hbadl (by rw [hwq]; exact hs) hok)
                    have HCH : Hid (∀ V, Below wr.heap.size wr V → Calls Try.prog 9 #[.int .i64 n, .int .i64 j, .slice A1 j c1, .slice (some ⟨gg, 0, none⟩) j cg] V (ChP (bn = 0) V)) := fun V hv => by
                      refine (check_any n j j c1 cg wr.heap.size len A1 (some ⟨gg, 0, none⟩) (List.range j) given V h1 (by omega) hdm (by omega) (hxS.up hv (Nat.le_refl _)) (hgv2.up hv (Nat.le_refl _)) hv.size List.pairwise_lt_range (fun i hi => List.mem_range.1 hi) (fun i hi => by have := List.mem_range.1 hi; omega) (by omega) hdm hxc HGC.out hgb (by omega) (by omega)).mono ?_
                      rintro e w' ⟨b, rfl, hb, hb2⟩
                      refine ⟨b, rfl, hb.trans ((range_drop_ok h1 hdm h8m HG.out.gl hgb HBL.out hbb hbadl).trans ?_), hb2⟩
                      rw [hbL, ← hbn]
                      exact List.length_eq_zero_iff.symm
                    have HRE : Hid (∀ V, Below wr.heap.size wr V → Calls Try.prog 10 #[.int .i64 n, .int .i64 j, .slice A4 rn c4, .slice A5 rn c5] V (MaP2 bl V)) := fun V hv => by
                      have q := reconstruct_any n j rn c4 c5 wr.heap.size len A4 A5 rest (atL given rest) V h1 (by omega) hdm (by omega) (haS.up hv (Nat.le_refl _)) (hcs.up hv (Nat.le_refl _)) hv.size hra hrm (fun i hi => by have := hrm i hi; omega) (by omega) (by omega) hac hcc (atL_bys HG.out.gl hgb hrm) (by omega) (by omega)
                      have e := rest_blocks h1 hdm h8m HG.out.gl hgb HBL.out hbb hbadl
                      rw [hrL] at e
                      rwa [e] at q
                    have HSM : Hid (∀ V g2, Below wr.heap.size wr V → SLL fN V V.heap.size (some ⟨g2, 0, none⟩) n bl → Calls Try.prog 11 #[.slice (some ⟨g2, 0, none⟩) n n, .slice (some ⟨b0, o0, none⟩) n c] V fun e w' => e = .returned (.bool true) ∧ Below V.heap.size V w') := fun V g2 hv hs =>
                      same_yes _ _ n n c V.heap.size bl V hs ((HP.out.up (HBw2.out.trans (hv.mono HBw2.out.size)) HBB.out).more (Nat.le_trans HBB.out (Nat.le_trans HBw2.out.size hv.size))) (Nat.le_refl _) (by omega)
                    have HBN := Lib.hid hbn
                    obtain ⟨bq, hbq⟩ : ∃ b, decide (bn = 0) = b := ⟨_, rfl⟩
                    have hbq1 : ((bn : Int) == 0) = bq := by
                      rw [← hbq]
                      by_cases h : bn = 0
                      · subst h; rfl
                      · rw [decide_eq_false h]; simp; omega
                    have hbq2 : decide ((bn : Int) = 0) = bq := by
                      rw [← hbq]
                      by_cases h : bn = 0
                      · subst h; rfl
                      · rw [decide_eq_false h]; simp; omega
                    have hbq3 : (bn == 0) = bq := by
                      rw [← hbq]
                      by_cases h : bn = 0
                      · subst h; rfl
                      · rw [decide_eq_false h]; simp; omega
                    have HBQ : Hid (∀ b : Bool, (b = true ↔ bn = 0) → b = bq) := fun b h => by
                      rw [← hbq]
                      cases b with
                      | true => exact (decide_eq_true (h.1 rfl)).symm
                      | false => exact (decide_eq_false (fun e => by have := h.2 e; cases this)).symm
                    clear hxs hbs has hcs hgv hra hrm hbL hrL hsp hxc hbc hac hcc hwq h1 hdm h8m hl1 hl8 hbadl hgb hbb hsz hxS haS hgv2
                    go_wp2_with (first
                      | (go_at_call 8; (with_reducible refine HLO.out.mono ?_); rintro e w6 ⟨AF, cf, he, hs6, hb6⟩; rw [HBN.out] at he; subst he; (have HS6 := Lib.hid hs6); (have HB6 := Lib.hid hb6); clear hs6 hb6)
                      | (go_at_call 9; (with_reducible refine (HCH.out _ HB6.out).mono ?_); rintro e w7 ⟨b7, rfl, h7, hb7⟩; (obtain rfl := HBQ.out b7 h7); (have HB7 : Hid (Below wr.heap.size wr w7) := HB6.out.trans (hb7.mono HB6.out.size)); (have HB67 := Lib.hid hb7); clear h7 hb7)
                      | (go_at_call 10; (with_reducible refine (HRE.out _ HB7.out).mono ?_); rintro e w8 ⟨g8, hs8, he, hg8, hm8, hb8⟩; rw [HBL.out] at he; subst he; (have HM8 := Lib.hid hm8.sll); (have HB8 : Hid (Below wr.heap.size wr w8) := HB7.out.trans (hb8.mono HB7.out.size)); (have HB68 : Hid (Below w6.heap.size w6 w8) := HB67.out.trans (hb8.mono HB67.out.size)); clear hm8 hb8 hg8))
                    have HZ9 : Hid (Below w8.heap.size w8 w8) := Below.refl _ _
                    clear hbq1 hbq2 hbq3 hbq HBQ HLO HCH HRE HB67
                    go_loopw [192] (fun i wr => ∃ k : Nat, k ≤ bn ∧ i = .int .i64 k ∧ Hid (Below w8.heap.size w8 wr)) (fun i _ => bn - (intOf i).toNat)
                    case atStart => exact ⟨0, Nat.zero_le _, rfl, HZ9⟩
                    case round =>
                      clear HZ9
                      obtain ⟨k, hk, rfl, HB9⟩ := hrel
                      by_cases hlt : k < bn
                      · have hkI : (k : Int) < (bn : Int) := by omega
                        obtain ⟨fb, fo, x, hAF, _, hxk, hcf⟩ := (SL.up HS6.out.2 (HB68.out.trans (HB9.out.mono HB68.out.size)) (Nat.le_refl _)).at_ (k := k) (by rw [HBN.out]; exact hlt)
                        obtain ⟨tb, to', y, hA3, _, hyk, hcy⟩ := (SL.up HBD.out.2 (HB8.out.trans (HB9.out.mono HB8.out.size)) (Nat.le_refl _)).at_ (k := k) (by rw [HBN.out]; exact hlt)
                        rw [hxk] at hyk
                        obtain rfl : x = y := Option.some.inj hyk
                        subst hAF hA3
                        clear hxk
                        go_wp2_with fail
                        go_quiet (fail)
                        have HB10 : Hid (Below w8.heap.size w8 (wr.drewN nq)) := below_dN' HB9.out nq
                        clear hcf hcy
                        go_wp2_with fail
                        go_roundw
                        case rel => exact ⟨k + 1, by omega, by go_num, HB10⟩
                        case measure => simp [intOf]; omega
                      · obtain rfl : k = bn := by omega
                        have HM9 : Hid (SLL fN wr wr.heap.size (some ⟨g8, 0, none⟩) n bl) := by
                          have q := HM8.out
                          rw [HBL.out] at q
                          exact (q.up HB9.out (Nat.le_refl _)).more HB9.out.size
                        go_wp2_with (go_at_call 11; (with_reducible refine (HSM.out _ g8 (HB8.out.trans (HB9.out.mono HB8.out.size)) HM9.out).mono ?_); rintro e w9 ⟨rfl, hb9⟩; (have HB99 := Lib.hid hb9); clear hb9)
                        go_ret
                        exact ⟨rfl, (HBw2.out.trans ((HB8.out.trans (HB9.out.mono HB8.out.size)).mono HBw2.out.size)).trans (HB99.out.mono (Nat.le_trans HBw2.out.size (HB8.out.trans (HB9.out.mono HB8.out.size)).size))⟩
        · have hw8I : (8 : Int) < (nw : Int) := by omega
          go_wp2_with (go_at_call 4; (with_reducible refine (HA.out _).mono ?_); rintro e w2 ⟨rfl, hb2⟩; (have HB2 := Lib.hid (HB1.out.trans (hb2.mono HB1.out.size))); clear hb2)
          go_ret
          exact ⟨rfl, HB2.out⟩
    · have h8I : (8 : Int) < t := by omega
      go_enter Try.func3, Try.ntmps3
      go_upto_region 2 with (first
        | (go_at_call 4; (with_reducible refine (HA.out _).mono ?_); rintro e w1 ⟨rfl, hb1⟩; (have HB1 := Lib.hid hb1); clear hb1)
        | (go_at_call 5; (with_reducible refine (HV.out _).mono ?_); rintro e w' ⟨rfl, rfl⟩))
      go_wp2_with (go_at_call 4; (with_reducible refine (HA.out _).mono ?_); rintro e w2 ⟨rfl, hb2⟩; (have HB2 := Lib.hid (HB1.out.trans (hb2.mono HB1.out.size))); clear hb2)
      go_ret
      exact ⟨rfl, HB2.out⟩
  · have hrf : rsB d t = false := by simpa using hrs
    rw [hrf] at HV
    clear hrs hrf
    go_enter Try.func3, Try.ntmps3
    go_upto_region 2 with (first
      | (go_at_call 4; (with_reducible refine (HA.out _).mono ?_); rintro e w1 ⟨rfl, hb1⟩; (have HB1 := Lib.hid hb1); clear hb1)
      | (go_at_call 5; (with_reducible refine (HV.out _).mono ?_); rintro e w' ⟨rfl, rfl⟩))
    go_wp2_with (go_at_call 4; (with_reducible refine (HA.out _).mono ?_); rintro e w2 ⟨rfl, hb2⟩; (have HB2 := Lib.hid (HB1.out.trans (hb2.mono HB1.out.size))); clear hb2)
    go_ret
    exact ⟨rfl, HB2.out⟩
end Go.Proofs.Ytpbeaghghlfiaaa
