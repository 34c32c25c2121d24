/- matrix: combine. -/
import Derived.Test.YtpbeaghghlfiaaaB1
namespace Go.Proofs.Ytpbeaghghlfiaaa
open Go.RowKit Go.Lib
set_option linter.unusedVariables false
set_option linter.unusedSimpArgs false
/-- At a step of a region that draws its order. -/
theorem step_store_at1 {P : Program} {w : World} {ops : Array Oper} {o : Oper} {a : Act} {K : Act → World → Prop} {Q : Exit → Act → World → Prop} {E : Prop} (hgd : o.guard = none) (ty : TypeId) (x y : Operand) (ho : o.op = .store ty x y)
    (b : Nat) (t : TypeId) (k : Nat) (cs : Array Value) (v : Value) (hx : a.eval x = .pointer (some ⟨b, k, none⟩)) (hy : a.eval y = v) (hg : w.heap[b]? = some (.cells cs t (0, 0))) (hk : k < cs.size) (hi : (P.info? ty).map (·.size) = some 1)
    (h1 : v.oneCell' = true)
    (h : ∀ w', Hid (w'.heap[b]? = some (.cells (cs.setIfInBounds k v) t (0, 0))) → Hid (But (fun k => k = b) w w') → K (a.put o.dst undef) w') : if Region.wanted o (yielded ops a.tmps) = true then Oper.wp P o a w K Q else E := by
  have hw : Region.wanted o (yielded ops a.tmps) = true := by simp [Region.wanted, hgd]
  rw [if_pos hw]
  have ht : w.there b k 1 := by
    intro j hj
    obtain rfl : j = 0 := by omega
    refine ⟨?_, frozen_of_row w b _ _ _ hg⟩
    rw [cell_of_row w b _ _ _ _ hg, Nat.add_zero, Array.getElem?_eq_getElem hk]; rfl
  unfold Oper.wp execOp
  simp only [ho, hx, hy, Instr.storeAt, Instr.sureAddr, Sem.run_bind, Sem.run_pure, Result.andThen_ok, run_storeVar_at1 w b k ty v ht hi h1]
  exact h _ (heap_setCell_same w b k _ _ v hg) (But.setCell (p := fun k => k = b) (x := ⟨b, k, none⟩) (But.refl _ _) (.inl rfl) _)
/-- A matrix that is handed back. -/
def MaP (m : Mt) (w : World) (e : Ending) (w' : World) : Prop := ∃ hs, e = .returned (.slice (some ⟨w.heap.size, 0, none⟩) m.length m.length) ∧ Mat w' w.heap.size hs m ∧ Below w.heap.size w w'
theorem set_same {α : Type} {l : List α} {k : Nat} {x : α} (h : l[k]? = some x) : l.set k x = l := by
  refine List.ext_getElem? (fun j => ?_)
  rw [List.getElem?_set]
  by_cases e : k = j
  · subst e
    rw [if_pos rfl, if_pos (List.getElem?_eq_some_iff.1 h).1, h]
  · rw [if_neg e]
theorem combK_len {n : Nat} (r : List Nat) {bl : Mt} (hb : ∀ b ∈ bl, b.length = n) (k : Nat) : (combK n r bl k).length = n := comb_len _ (fun b h => hb b (List.mem_of_mem_take h))
theorem combK_bys {n : Nat} {r : List Nat} {bl : Mt} (hr : Bys r) (k : Nat) : Bys (combK n r bl k) := comb_bys (fun x hx => hr x (List.mem_of_mem_take hx))
set_option maxRecDepth 100000 in
set_option maxHeartbeats 4000000 in
theorem combine_any (A1 A2 : Option Addr) (n1 c1 d c2 len B : Nat) (m bl : Mt) (w : World) (h1 : SLL fN w B A1 n1 m) (h2 : SLL fN w B A2 d bl) (hB : B ≤ w.heap.size) (hm : MtOk d m) (hb : MtOk len bl) (hn : n1 ≤ 64) (hd : d ≤ 64) (hl : len ≤ 65536) :
    Calls Try.prog 34 #[.slice A1 n1 c1, .slice A2 d c2, .int .i64 len] w (MaP (mulP len m bl) w) := by
  have HZ := Lib.hid (zeros_any n1 len hn hl w)
  have hml : m.length = n1 := h1.choose_spec.2.1
  have hbl : bl.length = d := h2.choose_spec.2.1
  have HML := Lib.hid hml
  have HBL := Lib.hid hbl
  have H1 := Lib.hid h1
  have H2 := Lib.hid h2
  have HBB := Lib.hid hB
  have HMO := Lib.hid hm
  have HBO := Lib.hid hb
  have hnI : (n1 : Int) ≤ 64 := by omega
  have hdI : (d : Int) ≤ 64 := by omega
  have hlI : (len : Int) ≤ 65536 := by omega
  have HPL : Hid ((mulP len m bl).length = n1) := by show _ = _; unfold mulP; rw [List.length_map]; exact hml
  have HNN := Lib.hid hn
  have HLL := Lib.hid hl
  obtain ⟨f, hf⟩ : ∃ f : List Nat → List Nat, f = fun r => comb len r bl := ⟨_, rfl⟩
  have HFE := Lib.hid hf
  obtain ⟨z, hz⟩ : ∃ z, z = List.replicate len 0 := ⟨_, rfl⟩
  have HZE := Lib.hid hz
  clear h1 h2 hB hm hb hml hbl hn hd hl hf hz
  go_enter Try.func34, Try.ntmps34
  go_wp2_with (go_at_call 31; (with_reducible refine HZ.out.mono ?_); rintro e w1 ⟨he, hz, hb1⟩; rw [List.length_replicate] at he; subst he; (have HZ1 := Lib.hid hz); (have HB1 := Lib.hid hb1); clear hz hb1)
  have HM1 : Hid (Mat w1 w.heap.size ((List.range n1).map (zHd w.heap.size len)) (fill f z m 0)) := by
    have h := HZ1.out.mat
    rw [List.length_replicate] at h
    show Mat ..
    rw [fill_zero, HML.out, HZE.out]
    exact h
  clear HZ HZ1
  go_loopw [18] (fun i wr => ∃ (k : Nat) (hs : List Hd), k ≤ n1 ∧ i = .int .i64 k ∧ Hid (Below w.heap.size w wr) ∧ Hid (Mat wr w.heap.size hs (fill f z m k))) (fun i _ => n1 - (intOf i).toNat)
  case atStart => exact ⟨0, _, Nat.zero_le _, rfl, HB1, HM1⟩
  case round =>
    clear HB1 HM1
    obtain ⟨i, hs0, hi, rfl, HB, HM⟩ := hrel
    have HFL : Hid ((fill f z m i).length = n1) := by show _ = _; rw [fill_len _ _ _ (by rw [HML.out]; exact hi), HML.out]
    by_cases hlt : i < n1
    · have hiI : (i : Int) < (n1 : Int) := by omega
      have HSL := H1.out.up HB.out HBB.out
      obtain ⟨b1, off1, a1, c1', r, rfl, hri, hci, hsl⟩ := HSL.cell hlt
      have hok := HMO.out.get hri
      have HRI := Lib.hid hri
      have HRO := Lib.hid hok
      rw [hok.1] at hci hsl
      have HS1 : Hid (Sl fN w B a1 d r) := by
        obtain ⟨b9, off9, a9, c9, r9, hA9, hr9, hc9, hs9⟩ := H1.out.cell hlt
        injection hA9 with hA9
        injection hA9 with e1 e2 _
        subst e1 e2
        rw [hri] at hr9
        injection hr9 with hr9
        subst hr9
        have h9 := (World.cell?_of_block (HB.out.block _ (by obtain ⟨bx, ox, ax, cx, hAx, hbx, _, _⟩ := H1.out.row hri; injection hAx with hAx; injection hAx with e1 _ _; subst e1; exact Nat.lt_of_lt_of_le hbx HBB.out))).trans hc9
        rw [hci] at h9
        injection h9 with h9
        injection h9 with h9 _ _
        subst h9
        rw [hok.1] at hs9
        exact hs9
      clear hsl hri hok HSL
      go_upto_region 5 with fail
      clear hci
      go_upto_region 6 with fail
      obtain ⟨W0, hW0⟩ : ∃ W0, W0 = wr := ⟨_, rfl⟩
      subst hW0
      have hgt := fill_get f z (l := m) (i := i) (by rw [HML.out]; exact hlt)
      have HMi : Hid (Mat W0 w.heap.size hs0 ((fill f z m i).set i (combK len r bl 0))) := by
        show Mat ..
        rw [combK_zero, ← HZE.out, set_same hgt]
        exact HM.out
      have HFS : Hid ((fill f z m i).set i (comb len r bl) = fill f z m (i + 1)) := by
        have h := fill_step f z HRI.out
        rw [HFE.out] at h ⊢
        exact h
      clear hgt HM
      go_loopw [25] (fun j wr => ∃ (k : Nat) (hs : List Hd), k ≤ d ∧ j = .int .i64 k ∧ Hid (Below w.heap.size w wr) ∧ Hid (Mat wr w.heap.size hs ((fill f z m i).set i (combK len r bl k)))) (fun j _ => d - (intOf j).toNat)
      case atStart => exact ⟨0, _, Nat.zero_le _, rfl, HB, HMi⟩
      case round =>
        clear HB HMi
        obtain ⟨j, hs, hj, rfl, HB, HM⟩ := hrel
        have HIL : Hid (i < ((fill f z m i).set i (combK len r bl j)).length) := by show _ < _; rw [List.length_set, HFL.out]; exact hlt
        by_cases hjt : j < d
        · have hjI : (j : Int) < (d : Int) := by omega
          obtain ⟨br, offr, a, hA1, hbr, hra, hca⟩ := (HS1.out.up HB.out HBB.out).2.at_ (k := j) (by rw [HS1.out.1]; exact hjt)
          subst hA1
          have hab : a < 256 := HRO.out.2 a (List.mem_of_getElem? hra)
          obtain ⟨bj, hbj⟩ := get_ex (xs := bl) (k := j) (by rw [HBL.out]; exact hjt)
          have hst := combK_step (n := len) hra hbj
          by_cases h0 : a = 0
          · subst h0
            rw [if_pos rfl] at hst
            have HST := Lib.hid hst
            clear hst hbj hra hab
            go_wp2_with fail
            go_roundw
            case rel => exact ⟨j + 1, hs, by omega, by go_num, HB, by show Mat ..; rw [HST.out]; exact HM.out⟩
            case measure => simp [intOf]; omega
          · rw [if_neg h0] at hst
            have HST := Lib.hid hst
            obtain ⟨b2, off2, a2, c2', bj', hA2, hbj', hcj, hsj⟩ := (H2.out.up HB.out HBB.out).cell hjt
            rw [hbj] at hbj'
            injection hbj' with hbj'
            subst hbj'
            subst hA2
            have hbo := HBO.out.get hbj
            rw [hbo.1] at hcj hsj
            obtain ⟨ha, hn, hc, racc, hhs, hracc, hci, hrx⟩ := HM.out.at_ (k := i) HIL.out
            rw [List.getElem?_set, if_pos rfl, HFL.out, if_pos hlt] at hracc
            injection hracc with hracc
            subst hracc
            have hkl := combK_len r (fun b h => (HBO.out b h).1) (n := len) (bl := bl) j
            obtain rfl : len = hn := (hrx.2.1.symm.trans hkl).symm
            have HMA : Hid (Calls Try.prog 46 #[.slice ha len hc, .slice a2 len c2', fN a] wr.drew (OwP2 (addv (sclv a bj) (combK len r bl j)) wr.drew)) :=
              mulAdd_any ha a2 len hc c2' a wr.heap.size (combK len r bl j) bj wr.drew hrx.sl ((hsj.more' (Nat.le_trans HBB.out HB.out.size))) (Nat.le_refl _) (combK_bys HRO.out.2 j) hbo.2 (by have := HLL.out; omega) hab
            have HCI := Lib.hid hci
            have HCJ := Lib.hid hcj
            have HLT1 : Hid (w.heap.size < wr.heap.size) := HM.out.lt
            have HLT2 : Hid (b2 < wr.heap.size) := World.block_lt_of_cell? wr _ hcj
            have ha0 : ((a : Int) == 0) = false := by simp; omega
            have ha1 : ((a : Int) != 0) = true := by simp; omega
            clear hst hbj hra hab hkl hrx hsj hbo hhs
            go_wp2_with fail
            refine LastZ.start (by kernel_rfl) (fun w' : World => w'.cell? ⟨w.heap.size, i, none⟩ = some (.slice ha len hc) ∧ w'.cell? ⟨b2, off2 + j, none⟩ = some (.slice a2 len c2')) 16 ?_
            have hZ0 : Hid ((fun w' : World => w'.cell? ⟨w.heap.size, i, none⟩ = some (.slice ha len hc) ∧ w'.cell? ⟨b2, off2 + j, none⟩ = some (.slice a2 len c2')) wr.drew) := (by exact ⟨hci, hcj⟩)
            refine LastZ.take 0 (v := _) (by simp only [List.getElem?_toArray, List.getElem?_cons_zero]; rfl) (by kernel_rfl) (by kernel_rfl) (by kernel_rfl) (by decide) (by kernel_rfl) (by exact fun _ _ _ h => h) (Or.inl ⟨by rfl, by (intro w hSw; (try dsimp only at hSw); go_simp; try (with_reducible rfl))⟩) hZ0.out ?_
            try simp only [Act.put, List.setIfInBounds_toArray, List.set_cons_zero, List.set_cons_succ]
            refine LastZ.take 1 (v := _) (by simp only [List.getElem?_toArray, List.getElem?_cons_succ, List.getElem?_cons_zero]; rfl) (by kernel_rfl) (by kernel_rfl) (by kernel_rfl) (by decide) (by kernel_rfl) (by exact fun _ _ _ h => h) (Or.inl ⟨by rfl, by (intro w hSw; (try dsimp only at hSw); go_simp; try (with_reducible rfl))⟩) hZ0.out ?_
            try simp only [Act.put, List.setIfInBounds_toArray, List.set_cons_zero, List.set_cons_succ]
            refine LastZ.take 2 (v := _) (by simp only [List.getElem?_toArray, List.getElem?_cons_succ, List.getElem?_cons_zero]; rfl) (by kernel_rfl) (by kernel_rfl) (by kernel_rfl) (by decide) (by kernel_rfl) (by exact fun _ _ _ h => h) (Or.inl ⟨by rfl, by (intro w hSw; (try dsimp only at hSw); go_simp; try (with_reducible rfl))⟩) hZ0.out ?_
            try simp only [Act.put, List.setIfInBounds_toArray, List.set_cons_zero, List.set_cons_succ]
            refine LastZ.take 3 (v := _) (by simp only [List.getElem?_toArray, List.getElem?_cons_succ, List.getElem?_cons_zero]; rfl) (by kernel_rfl) (by kernel_rfl) (by kernel_rfl) (by decide) (by kernel_rfl) (by exact fun _ _ _ h => h) (Or.inl ⟨by rfl, by (intro w hSw; (try dsimp only at hSw); go_simp; try (with_reducible rfl))⟩) hZ0.out ?_
            try simp only [Act.put, List.setIfInBounds_toArray, List.set_cons_zero, List.set_cons_succ]
            refine LastZ.take 4 (v := _) (by simp only [List.getElem?_toArray, List.getElem?_cons_succ, List.getElem?_cons_zero]; rfl) (by kernel_rfl) (by kernel_rfl) (by kernel_rfl) (by decide) (by kernel_rfl) (by exact fun _ _ _ h => h) (Or.inl ⟨by rfl, by (intro w hSw; (try dsimp only at hSw); go_simp; try (with_reducible rfl))⟩) hZ0.out ?_
            try simp only [Act.put, List.setIfInBounds_toArray, List.set_cons_zero, List.set_cons_succ]
            refine LastZ.take 5 (v := _) (by simp only [List.getElem?_toArray, List.getElem?_cons_succ, List.getElem?_cons_zero]; rfl) (by kernel_rfl) (by kernel_rfl) (by kernel_rfl) (by decide) (by kernel_rfl) (by exact fun _ _ _ h => h) (Or.inl ⟨by rfl, by (intro w hSw; (try dsimp only at hSw); go_simp; try (with_reducible rfl))⟩) hZ0.out ?_
            try simp only [Act.put, List.setIfInBounds_toArray, List.set_cons_zero, List.set_cons_succ]
            refine LastZ.take 6 (v := _) (by simp only [List.getElem?_toArray, List.getElem?_cons_succ, List.getElem?_cons_zero]; rfl) (by kernel_rfl) (by kernel_rfl) (by kernel_rfl) (by decide) (by kernel_rfl) (by exact fun _ _ _ h => h) (Or.inl ⟨by rfl, by (intro w hSw; (try dsimp only at hSw); go_simp; try (with_reducible rfl))⟩) hZ0.out ?_
            try simp only [Act.put, List.setIfInBounds_toArray, List.set_cons_zero, List.set_cons_succ]
            refine LastZ.take 7 (v := _) (by simp only [List.getElem?_toArray, List.getElem?_cons_succ, List.getElem?_cons_zero]; rfl) (by kernel_rfl) (by kernel_rfl) (by kernel_rfl) (by decide) (by kernel_rfl) (by exact fun _ _ _ h => h) (Or.inl ⟨by rfl, by (intro w hSw; (try dsimp only at hSw); go_simp; try (with_reducible rfl))⟩) hZ0.out ?_
            try simp only [Act.put, List.setIfInBounds_toArray, List.set_cons_zero, List.set_cons_succ]
            refine LastZ.take 8 (v := _) (by simp only [List.getElem?_toArray, List.getElem?_cons_succ, List.getElem?_cons_zero]; rfl) (by kernel_rfl) (by kernel_rfl) (by kernel_rfl) (by decide) (by kernel_rfl) (by exact fun _ _ _ h => h) (Or.inl ⟨by rfl, by (intro w hSw; (try dsimp only at hSw); go_simp; try (with_reducible rfl))⟩) hZ0.out ?_
            try simp only [Act.put, List.setIfInBounds_toArray, List.set_cons_zero, List.set_cons_succ]
            refine LastZ.take 9 (v := _) (by simp only [List.getElem?_toArray, List.getElem?_cons_succ, List.getElem?_cons_zero]; rfl) (by kernel_rfl) (by kernel_rfl) (by kernel_rfl) (by decide) (by kernel_rfl) (by exact fun _ _ _ h => h) (Or.inl ⟨by rfl, by (intro w hSw; (try dsimp only at hSw); go_simp; try (with_reducible rfl))⟩) hZ0.out ?_
            try simp only [Act.put, List.setIfInBounds_toArray, List.set_cons_zero, List.set_cons_succ]
            refine LastZ.take 10 (v := _) (by simp only [List.getElem?_toArray, List.getElem?_cons_succ, List.getElem?_cons_zero]; rfl) (by kernel_rfl) (by kernel_rfl) (by kernel_rfl) (by decide) (by kernel_rfl) (by exact fun _ _ _ h => h) (Or.inl ⟨by rfl, by (intro w hSw; (try dsimp only at hSw); go_simp; try (with_reducible rfl))⟩) hZ0.out ?_
            try simp only [Act.put, List.setIfInBounds_toArray, List.set_cons_zero, List.set_cons_succ]
            refine LastZ.one 11 (by kernel_rfl) (by simp only [List.getElem?_toArray, List.getElem?_cons_succ, List.getElem?_cons_zero]; rfl) (fun K hK => ?_)
            (go_simp; go_at_call 46; (with_reducible refine HMA.out.mono ?_); rintro e w5 ⟨v5, rfl, ho5, hb5⟩; (obtain ⟨hd5, hv5, hx5, hn5⟩ := RowX.of_own ho5); (have HX5 := Lib.hid hx5); (have HB5 : Hid (Below wr.heap.size wr w5) := (Below.refl _ wr).drew.trans hb5); (have HV5 := Lib.hid hv5); clear ho5 hb5 hx5 hn5 hv5; go_wp2_with fail)
            refine hK.out _ _ (by exact ⟨(World.cell?_of_block (HB5.out.block _ HLT1.out)).trans HCI.out, (World.cell?_of_block (HB5.out.block _ HLT2.out)).trans HCJ.out⟩) (fun hHeldZ => ?_)
            have hZ1 := Lib.hid hHeldZ
            clear hK K hZ0 hHeldZ
            try simp only [Act.put, List.setIfInBounds_toArray, List.set_cons_zero, List.set_cons_succ]
            refine LastZ.take 12 (v := _) (by simp only [List.getElem?_toArray, List.getElem?_cons_succ, List.getElem?_cons_zero]; rfl) (by kernel_rfl) (by kernel_rfl) (by kernel_rfl) (by decide) (by kernel_rfl) (by exact fun _ _ _ h => h) (Or.inl ⟨by rfl, by (intro w hSw; (try dsimp only at hSw); go_simp; try (with_reducible rfl))⟩) hZ1.out ?_
            try simp only [Act.put, List.setIfInBounds_toArray, List.set_cons_zero, List.set_cons_succ]
            refine LastZ.take 13 (v := _) (by simp only [List.getElem?_toArray, List.getElem?_cons_succ, List.getElem?_cons_zero]; rfl) (by kernel_rfl) (by kernel_rfl) (by kernel_rfl) (by decide) (by kernel_rfl) (by exact fun _ _ _ h => h) (Or.inl ⟨by rfl, by (intro w hSw; (try dsimp only at hSw); go_simp; try (with_reducible rfl))⟩) hZ1.out ?_
            try simp only [Act.put, List.setIfInBounds_toArray, List.set_cons_zero, List.set_cons_succ]
            refine LastZ.takeW 14 (v := _) (by simp only [List.getElem?_toArray, List.getElem?_cons_succ, List.getElem?_cons_zero]; rfl) (by kernel_rfl) (by kernel_rfl) (by kernel_rfl) (by decide) (by exact fun _ _ _ h => h) (Or.inl ⟨by rfl, by (intro w hSw; (try dsimp only at hSw); go_simp; try (with_reducible rfl))⟩) hZ1.out ?_
            try simp only [Act.put, List.setIfInBounds_toArray, List.set_cons_zero, List.set_cons_succ]
            refine LastZ.take 15 (v := _) (by simp only [List.getElem?_toArray, List.getElem?_cons_succ, List.getElem?_cons_zero]; rfl) (by kernel_rfl) (by kernel_rfl) (by kernel_rfl) (by decide) (by kernel_rfl) (by exact fun _ _ _ h => h) (Or.inl ⟨by rfl, by (intro w hSw; (try dsimp only at hSw); go_simp; try (with_reducible rfl))⟩) hZ1.out ?_
            try simp only [Act.put, List.setIfInBounds_toArray, List.set_cons_zero, List.set_cons_succ]
            refine LastZ.last (by kernel_rfl) (by simp only [List.getElem?_toArray, List.getElem?_cons_succ, List.getElem?_cons_zero]; rfl) (by decide) (fun K hK => ?_)
            (obtain ⟨cur5, hcur5, hcs5⟩ := (HM.out.on HB5.out).cells; (have hlt5 : i < cur5.size := (by obtain ⟨x, hx⟩ := get_ex (xs := hs) (k := i) (by rw [HM.out.len]; exact HIL.out); exact (Array.getElem?_eq_some_iff.1 (hcs5 i x hx)).1)); (have HC5 := Lib.hid hcur5); (refine step_store_at1 rfl 30 (.tmp 47) (.tmp 45) rfl w.heap.size TR i cur5 v5 (by rfl) (by rfl) HC5.out hlt5 Try.sizeR (by rw [HV5.out]; rfl) ?_); intro W6 HG6 HB6)
            refine hK.out _ _ ?_
            clear hK K
            try simp only [Act.put, List.setIfInBounds_toArray, List.set_cons_zero, List.set_cons_succ]
            refine LastZ.done (by kernel_rfl) ?_ _
            skip
            go_wp2_with fail
            have HM6 : Hid (Mat W6 w.heap.size (hs.set i hd5) ((fill f z m i).set i (combK len r bl (j + 1)))) := by
              have h := (HM.out.on HB5.out).put HC5.out (by rw [← HV5.out]; exact HG6.out) HB6.out HX5.out
              rw [List.set_set] at h
              show Mat ..
              rw [HST.out]
              exact h
            have HB6w : Hid (Below w.heap.size w W6) := HB6.out.below (HB.out.trans (HB5.out.mono HB.out.size)) (Nat.le_trans HB.out.size HB5.out.size) (fun q hq => by subst hq; exact Nat.le_refl _)
            go_roundw
            case rel => exact ⟨j + 1, _, by omega, by go_num, HB6w, HM6⟩
            case measure => simp [intOf]; omega
        · obtain rfl : j = d := by omega
          have HE : Hid (combK len r bl j = comb len r bl) := by
            have h := combK_all (n := len) (r := r) (bl := bl) (by rw [HRO.out.1, HBL.out])
            rw [HRO.out.1] at h
            exact h
          rw [HE.out, HFS.out] at HM
          go_wp2_with fail
          go_roundw
          case rel => exact ⟨i + 1, hs, by omega, by go_num, HB, HM⟩
          case measure => simp [intOf]; omega
    · obtain rfl : i = n1 := by omega
      have HE : Hid (fill f z m i = mulP len m bl) := by
        have h := fill_all f z m
        rw [HML.out] at h
        show _ = _
        rw [h, HFE.out]
        rfl
      rw [HE.out] at HM
      go_wp2_with fail
      go_ret
      exact ⟨hs0, by rw [HPL.out]; rfl, HM.out, HB.out⟩
end Go.Proofs.Ytpbeaghghlfiaaa
