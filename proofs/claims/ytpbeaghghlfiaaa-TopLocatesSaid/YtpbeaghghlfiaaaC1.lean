/- reedsolomon: the table's rows, their inverse, factors. -/
import Derived.Test.YtpbeaghghlfiaaaC0
namespace Go.Proofs.Ytpbeaghghlfiaaa
open Go.RowKit Go.Lib
set_option linter.unusedVariables false
set_option linter.unusedSimpArgs false
theorem mat_new {w W : World} {N : Nat} (h : W = w.alloc (.cells (Array.replicate N (Value.slice none 0 0)) TR)) : Mat W w.heap.size (List.replicate N ⟨none, 0, 0⟩) (List.replicate N []) := by
  have hg3 : W.heap[w.heap.size]? = some (.cells (rowA fS (List.replicate N ⟨none, 0, 0⟩)) TR (0, 0)) := by rw [h, ← replicate_hd]; exact heap_alloc_new w _
  refine ⟨⟨_, hg3, fun k hd hk => by rw [List.getElem?_toArray, List.getElem?_map, hk]; rfl⟩, by simp, fun k hd r q1 q2 => ?_⟩
  have e1 := List.eq_of_mem_replicate (List.mem_of_getElem? q1)
  have e2 := List.eq_of_mem_replicate (List.mem_of_getElem? q2)
  subst e1 e2
  exact ⟨Nat.le_refl _, rfl, fun h => absurd h (by simp)⟩
theorem tFull_row {w : World} {tb d i : Nat} (h : w.heap[tb]? = some (.cells (tFull d) TT (0, 0))) (hd : d ≤ 8) (hi : i < 16) : At fN w tb (1 + i * 8) (rowP d i) := fun c x hx => by
  have hc : c < d := by have := (List.getElem?_eq_some_iff.1 hx).1; rwa [rowP_length] at this
  rw [cell_of_row w tb _ _ _ _ h, show 1 + i * 8 + c = (i * 8 + c) + 1 by omega, tT_get, tabN_row hi hd hc, hx]
  rfl
set_option maxRecDepth 100000 in
set_option maxHeartbeats 4000000 in
theorem of_any (tb d n c B : Nat) (A : Option Addr) (l : List Nat) (w : World) (ht : w.heap[tb]? = some (.cells (tFull d) TT (0, 0))) (h1 : 1 ≤ d) (h8 : d ≤ 8) (hl : Sl fI w B A n l) (hB : B ≤ w.heap.size) (hi16 : ∀ i ∈ l, i < 16) (hn : n ≤ 64) :
    Calls Try.prog 20 #[.pointer (some ⟨tb, 0, none⟩), .slice A n c] w (MaP (ofP d l) w) := by
  have hln := hl.1
  have HMK := Lib.hid (run_makeR n (by omega) w)
  obtain ⟨W1, hW1⟩ : ∃ W, W = w.alloc (.cells (Array.replicate n (Value.slice none 0 0)) TR) := ⟨_, rfl⟩
  have hb1 : Below w.heap.size w W1 := by rw [hW1]; exact (Below.refl _ _).alloc (Nat.le_refl _) _
  obtain ⟨f, hf⟩ : ∃ f, rowP d = f := ⟨_, rfl⟩
  have hM1 : Mat W1 w.heap.size (List.replicate n ⟨none, 0, 0⟩) (fill f [] l 0) := by rw [fill_zero, hln]; exact mat_new hW1
  have hmk := HMK.out
  rw [← hW1] at hmk
  have HM1 := Lib.hid hM1
  have HB1 := Lib.hid hb1
  have HT1 : Hid (W1.heap[tb]? = some (.cells (tFull d) TT (0, 0))) := (hb1.block _ (lt_block ht)).trans ht
  have HNT : Hid (tb < w.heap.size) := lt_block ht
  have HTW := Lib.hid ht
  have HL := Lib.hid hl
  have HBB := Lib.hid hB
  have H16 := Lib.hid hi16
  have HLN := Lib.hid hln
  have H8 := Lib.hid h8
  have hnI : (n : Int) ≤ 64 := by omega
  have hd0 : (0 : Int) ≤ (d : Int) := by omega
  have hd8 : (d : Int) ≤ 8 := by omega
  have HFE := Lib.hid hf
  have HEQ : Hid (ofP d l = l.map f) := by show _ = _; rw [← hf]; rfl
  obtain ⟨i0, hi, hi1, hi2, hi3⟩ := info_parts Try.infoB8
  have HI := Lib.hid hi
  have HI1 := Lib.hid hi1
  have HI2 := Lib.hid hi2
  have HI3 := Lib.hid hi3
  clear ht h1 h8 hl hB hi16 hn hln hW1 hb1 hM1 HMK hf hi hi1 hi2 hi3
  go_enter Try.func20, Try.ntmps20
  go_wp2_with fail
  clear hmk
  go_loopw [13] (fun i wr => ∃ (k : Nat) (hs : List Hd), k ≤ n ∧ i = .int .i64 k ∧ Hid (Below w.heap.size w wr) ∧ Hid (Mat wr w.heap.size hs (fill f [] l k))) (fun i _ => n - (intOf i).toNat)
  case atStart => exact ⟨0, _, Nat.zero_le _, rfl, HB1, HM1⟩
  case round =>
    clear HB1 HM1 HT1
    obtain ⟨k, hs, hk, rfl, HB, HM⟩ := hrel
    by_cases hlt : k < n
    · have hkI : (k : Int) < (n : Int) := by omega
      obtain ⟨b, off, i, rfl, hbB, hik, hck⟩ := (SL.up HL.out.2 HB.out HBB.out).at_ (k := k) (by rw [HLN.out]; exact hlt)
      have hi16 : i < 16 := H16.out i (List.mem_of_getElem? hik)
      have hiI : (i : Int) < 16 := by omega
      have HTB : Hid (wr.heap[tb]? = some (.cells (tFull d) TT (0, 0))) := (HB.out.block _ HNT.out).trans HTW.out
      have hc0 : wr.cell? ⟨tb, 0, none⟩ = some (.int .i64 (d : Int)) := by rw [cell_of_row wr tb _ _ _ _ HTB.out]; rfl
      have HC0 := Lib.hid hc0
      have HC1 : Hid ((wr.drew.alloc (.cells #[] T8)).cell? ⟨tb, 0, none⟩ = some (.int .i64 (d : Int))) := (World.cell?_of_block (Below.heap_alloc wr.drew _ _ (lt_block HTB.out))).trans HC0.out
      have HO0 : Hid (Own fN T8 (wr.drew.alloc (.cells #[] T8)) wr.heap.size (.slice (some ⟨wr.heap.size, 0, none⟩) 0 0) ([] : List Nat)) := World.ownsRow_made wr.drew #[] 0 (Nat.le_refl _) (Nat.zero_le _) (by simp)
      have HS1 : Hid (Sl fN (wr.drew.alloc (.cells #[] T8)) wr.heap.size (some ⟨tb, 1 + i * 8, none⟩) d (rowP d i)) := by
        refine ⟨rowP_length d i, fun _ => ⟨tb, 1 + i * 8, rfl, lt_block HTB.out, fun j x hx => ?_⟩⟩
        exact (World.cell?_of_block (Below.heap_alloc wr.drew _ _ (lt_block HTB.out))).trans (tFull_row HTB.out H8.out hi16 j x hx)
      have HL1 : Hid ((([] : List Nat).length + (rowP d i).length) * 1 ≤ 140737488355328) := by show (0 + (rowP d i).length) * 1 ≤ _; rw [rowP_length]; have := H8.out; omega
      have HL1m : Hid (([] : List Nat).length + (rowP d i).length ≤ maxLen) := by show 0 + (rowP d i).length ≤ _; rw [rowP_length]; have := H8.out; unfold maxLen; omega
      have HSZ : Hid (wr.heap.size ≤ (wr.drew.alloc (.cells #[] T8)).heap.size) := by show _ ≤ _; simp
      have hst := fill_step f [] hik
      rw [show f i = rowP d i by rw [← HFE.out]] at hst
      have HST := Lib.hid hst
      have HKL : Hid (k < (fill f [] l k).length) := by show _ < _; rw [fill_len _ _ _ (by rw [HLN.out]; exact hk), HLN.out]; exact hlt
      obtain ⟨cur, hcur, hcs⟩ := HM.out.cells
      have HCU := Lib.hid hcur
      have HCL : Hid (k < cur.size) := by
        obtain ⟨x, hx⟩ := get_ex (xs := hs) (k := k) (by rw [HM.out.len]; exact HKL.out)
        exact (Array.getElem?_eq_some_iff.1 (hcs k x hx)).1
      have hsl : ∀ w, (Instr.sliceAt 67 (.pointer (some ⟨tb, 1 + i * 8, none⟩)) none (some (.int .i64 (d : Int))) none).run Try.prog w = .ok (.slice (some ⟨tb, 1 + i * 8, none⟩) d 8) w := fun w => run_slice_arr 67 T8 8 i0 Try.underlying67 HI.out tb (1 + i * 8) .i64 (d : Int) d rfl H8.out w
      clear hik hst hcur hcs hi16
      go_wp2_with fail
      refine LastZ.start (by kernel_rfl) (fun w' : World => w'.cell? ⟨tb, 0, none⟩ = some (.int .i64 (d : Int))) 15 ?_
      have hZ0 : Hid ((fun w' : World => w'.cell? ⟨tb, 0, none⟩ = some (.int .i64 (d : Int))) wr.drew) := (by exact hc0)
      refine LastZ.take 0 (v := _) (by simp only [List.getElem?_toArray, List.getElem?_cons_zero]; rfl) (by kernel_rfl) (by kernel_rfl) (by kernel_rfl) (by decide) (by kernel_rfl) (by exact fun _ _ _ h => h) (Or.inl ⟨by rfl, by (intro w hSw; (try dsimp only at hSw); go_simp; try (with_reducible rfl))⟩) hZ0.out ?_
      try simp only [Act.put, List.setIfInBounds_toArray, List.set_cons_zero, List.set_cons_succ]
      refine LastZ.take 1 (v := _) (by simp only [List.getElem?_toArray, List.getElem?_cons_succ, List.getElem?_cons_zero]; rfl) (by kernel_rfl) (by kernel_rfl) (by kernel_rfl) (by decide) (by kernel_rfl) (by exact fun _ _ _ h => h) (Or.inl ⟨by rfl, by (intro w hSw; (try dsimp only at hSw); go_simp; try (with_reducible rfl))⟩) hZ0.out ?_
      try simp only [Act.put, List.setIfInBounds_toArray, List.set_cons_zero, List.set_cons_succ]
      refine LastZ.take 3 (v := _) (by simp only [List.getElem?_toArray, List.getElem?_cons_succ, List.getElem?_cons_zero]; rfl) (by kernel_rfl) (by kernel_rfl) (by kernel_rfl) (by decide) (by kernel_rfl) (by exact fun _ _ _ h => h) (Or.inl ⟨by rfl, by (intro w hSw; (try dsimp only at hSw); go_simp; try (with_reducible rfl))⟩) hZ0.out ?_
      try simp only [Act.put, List.setIfInBounds_toArray, List.set_cons_zero, List.set_cons_succ]
      refine LastZ.take 4 (v := _) (by simp only [List.getElem?_toArray, List.getElem?_cons_succ, List.getElem?_cons_zero]; rfl) (by kernel_rfl) (by kernel_rfl) (by kernel_rfl) (by decide) (by kernel_rfl) (by exact fun _ _ _ h => h) (Or.inl ⟨by rfl, by (intro w hSw; (try dsimp only at hSw); go_simp; try (with_reducible rfl))⟩) hZ0.out ?_
      try simp only [Act.put, List.setIfInBounds_toArray, List.set_cons_zero, List.set_cons_succ]
      refine LastZ.take 5 (v := _) (by simp only [List.getElem?_toArray, List.getElem?_cons_succ, List.getElem?_cons_zero]; rfl) (by kernel_rfl) (by kernel_rfl) (by kernel_rfl) (by decide) (by kernel_rfl) (by exact fun _ _ _ h => h) (Or.inl ⟨by rfl, by (intro w hSw; (try dsimp only at hSw); go_simp; try (with_reducible rfl))⟩) hZ0.out ?_
      try simp only [Act.put, List.setIfInBounds_toArray, List.set_cons_zero, List.set_cons_succ]
      refine LastZ.take 6 (v := _) (by simp only [List.getElem?_toArray, List.getElem?_cons_succ, List.getElem?_cons_zero]; rfl) (by kernel_rfl) (by kernel_rfl) (by kernel_rfl) (by decide) (by kernel_rfl) (by exact fun _ _ _ h => h) (Or.inl ⟨by rfl, by (intro w hSw; (try dsimp only at hSw); go_simp; try (with_reducible rfl))⟩) hZ0.out ?_
      try simp only [Act.put, List.setIfInBounds_toArray, List.set_cons_zero, List.set_cons_succ]
      refine LastZ.take 7 (v := _) (by simp only [List.getElem?_toArray, List.getElem?_cons_succ, List.getElem?_cons_zero]; rfl) (by kernel_rfl) (by kernel_rfl) (by kernel_rfl) (by decide) (by kernel_rfl) (by exact fun _ _ _ h => h) (Or.inl ⟨by rfl, by (intro w hSw; (try dsimp only at hSw); go_simp; try (with_reducible rfl))⟩) hZ0.out ?_
      try simp only [Act.put, List.setIfInBounds_toArray, List.set_cons_zero, List.set_cons_succ]
      refine LastZ.take 8 (v := _) (by simp only [List.getElem?_toArray, List.getElem?_cons_succ, List.getElem?_cons_zero]; rfl) (by kernel_rfl) (by kernel_rfl) (by kernel_rfl) (by decide) (by kernel_rfl) (by exact fun _ _ _ h => h) (Or.inl ⟨by rfl, by (intro w hSw; (try dsimp only at hSw); go_simp; try (with_reducible rfl))⟩) hZ0.out ?_
      try simp only [Act.put, List.setIfInBounds_toArray, List.set_cons_zero, List.set_cons_succ]
      refine LastZ.take 9 (v := _) (by simp only [List.getElem?_toArray, List.getElem?_cons_succ, List.getElem?_cons_zero]; rfl) (by kernel_rfl) (by kernel_rfl) (by kernel_rfl) (by decide) (by kernel_rfl) (by exact fun _ _ _ h => h) (Or.inl ⟨by rfl, by (intro w hSw; (try dsimp only at hSw); go_simp; try (with_reducible rfl))⟩) hZ0.out ?_
      try simp only [Act.put, List.setIfInBounds_toArray, List.set_cons_zero, List.set_cons_succ]
      refine LastZ.take 10 (v := _) (by simp only [List.getElem?_toArray, List.getElem?_cons_succ, List.getElem?_cons_zero]; rfl) (by kernel_rfl) (by kernel_rfl) (by kernel_rfl) (by decide) (by kernel_rfl) (by exact fun _ _ _ h => h) (Or.inl ⟨by rfl, by (intro w hSw; (try dsimp only at hSw); go_simp; try (with_reducible rfl))⟩) hZ0.out ?_
      try simp only [Act.put, List.setIfInBounds_toArray, List.set_cons_zero, List.set_cons_succ]
      refine LastZ.take 11 (v := _) (by simp only [List.getElem?_toArray, List.getElem?_cons_succ, List.getElem?_cons_zero]; rfl) (by kernel_rfl) (by kernel_rfl) (by kernel_rfl) (by decide) (by kernel_rfl) (by exact fun _ _ _ h => h) (Or.inl ⟨by rfl, by (intro w hSw; (try dsimp only at hSw); go_simp; try (with_reducible rfl))⟩) hZ0.out ?_
      try simp only [Act.put, List.setIfInBounds_toArray, List.set_cons_zero, List.set_cons_succ]
      refine LastZ.take 12 (v := _) (by simp only [List.getElem?_toArray, List.getElem?_cons_succ, List.getElem?_cons_zero]; rfl) (by kernel_rfl) (by kernel_rfl) (by kernel_rfl) (by decide) (by kernel_rfl) (by exact fun _ _ _ h => h) (Or.inl ⟨by rfl, by (intro w hSw; (try dsimp only at hSw); go_simp; try (with_reducible rfl))⟩) hZ0.out ?_
      try simp only [Act.put, List.setIfInBounds_toArray, List.set_cons_zero, List.set_cons_succ]
      refine LastZ.one 2 (by kernel_rfl) (by simp only [List.getElem?_toArray, List.getElem?_cons_succ, List.getElem?_cons_zero]; rfl) (fun K hK => ?_)
      go_simp
      refine hK.out _ _ (by exact HC1.out) (fun hHeldZ => ?_)
      have hZ1 := Lib.hid hHeldZ
      clear hK K hZ0 hHeldZ
      try simp only [Act.put, List.setIfInBounds_toArray, List.set_cons_zero, List.set_cons_succ]
      refine LastZ.one 13 (by kernel_rfl) (by simp only [List.getElem?_toArray, List.getElem?_cons_succ, List.getElem?_cons_zero]; rfl) (fun K hK => ?_)
      ((refine step_app (.tmp 20) (.tmp 30) 30 rfl rfl T8 i0 (.int .u8 0) 1 Try.underlying30 HI.out HI1.out HI2.out HI3.out rfl (f := fN) ([] : List Nat) wr.heap.size (by exact HO0.out) (rowP d i) ⟨_, _, _, _, rfl, HS1.out⟩ fN1 HL1.out HL1m.out HSZ.out ?_); intro v5 W5 HO5 HG5 HV5 HBK; (have HB5 : Hid (Below wr.heap.size wr W5) := HBK.out _ _ ((Below.refl _ wr).drew.alloc (Nat.le_refl _) _) (Nat.le_refl _)); (have HO5' : Hid (Own fN T8 W5 wr.heap.size v5 (rowP d i)) := HO5.out); (obtain ⟨hd, hhd, hx5, hn5⟩ := RowX.of_own HO5'.out); (obtain ⟨da, dn, dc⟩ := hd); (have hhd' : v5 = .slice da dn dc := hhd); clear hhd; subst hhd'; (have HX5 := Lib.hid hx5); (have HCU5 : Hid (W5.heap[w.heap.size]? = some (.cells cur TR (0, 0))) := (HB5.out.block _ (lt_block HCU.out)).trans HCU.out); clear hx5 hn5)
      refine hK.out _ _ (by exact (World.cell?_of_block (HB5.out.block _ (lt_block HTB.out))).trans HC0.out) (fun hHeldZ => ?_)
      have hZ2 := Lib.hid hHeldZ
      clear hK K hZ1 hHeldZ
      try simp only [Act.put, List.setIfInBounds_toArray, List.set_cons_zero, List.set_cons_succ]
      refine LastZ.take 14 (v := _) (by simp only [List.getElem?_toArray, List.getElem?_cons_succ, List.getElem?_cons_zero]; rfl) (by kernel_rfl) (by kernel_rfl) (by kernel_rfl) (by decide) (by kernel_rfl) (by exact fun _ _ _ h => h) (Or.inl ⟨by rfl, by (intro w hSw; (try dsimp only at hSw); go_simp; try (with_reducible rfl))⟩) hZ2.out ?_
      try simp only [Act.put, List.setIfInBounds_toArray, List.set_cons_zero, List.set_cons_succ]
      refine LastZ.last (by kernel_rfl) (by simp only [List.getElem?_toArray, List.getElem?_cons_succ, List.getElem?_cons_zero]; rfl) (by decide) (fun K hK => ?_)
      ((refine step_store_at1 rfl 30 (.tmp 32) (.tmp 31) rfl w.heap.size TR k cur (.slice da dn dc) (by rfl) (by rfl) HCU5.out HCL.out Try.sizeR rfl ?_); intro W6 HG6 HB6)
      refine hK.out _ _ ?_
      clear hK K
      try simp only [Act.put, List.setIfInBounds_toArray, List.set_cons_zero, List.set_cons_succ]
      refine LastZ.done (by kernel_rfl) ?_ _
      skip
      have HM6 : Hid (Mat W6 w.heap.size (hs.set k ⟨da, dn, dc⟩) (fill f [] l (k + 1))) := by
        show Mat ..
        rw [← HST.out]
        exact (HM.out.on HB5.out).put HCU5.out HG6.out HB6.out HX5.out
      have HBw5 : Hid (Below w.heap.size w W5) := HB.out.trans (HB5.out.mono HB.out.size)
      have HBw6 : Hid (Below w.heap.size w W6) := HB6.out.below HBw5.out HBw5.out.size (fun i hi => by subst hi; exact Nat.le_refl _)
      clear hsl hc0
      go_wp2_with fail
      go_roundw
      case rel => exact ⟨k + 1, _, by omega, by go_num, HBw6, HM6⟩
      case measure => simp [intOf]; omega
    · obtain rfl : k = n := by omega
      have HE := fill_all f [] l
      rw [HLN.out] at HE
      rw [HE, ← HEQ.out] at HM
      have HLM : Hid ((ofP d l).length = k) := by show _ = _; unfold ofP; rw [List.length_map]; exact HLN.out
      clear HE
      go_wp2_with fail
      go_ret
      exact ⟨hs, by rw [HLM.out]; rfl, HM.out, HB.out⟩
end Go.Proofs.Ytpbeaghghlfiaaa
