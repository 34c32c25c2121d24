/- Admit. -/
import Derived.Test.YtkeicjokekmkpaaGreatMh
namespace Go.Proofs.YtkeicjokekmkpaaGreat
open Go.RowKit Mb
set_option linter.unusedVariables false
set_option linter.unusedSimpArgs false

theorem Tryz.infoC : (Tryz.prog.info? 86).map (fun i => (i.zero, i.size, i.bytes)) = some (some .nilIface, 1, 16) := by kernel_rfl
set_option maxRecDepth 20000 in
set_option maxHeartbeats 4000000 in
theorem admit_full (g : Nat) (lab : Nat → Nat) (S : Cst) (m : Mem) (w : World) (hC : Cir w lab g S) (hn : S.s.ms.length ≤ 1000) (hf : 12 ≤ S.s.ms.length) :
    Calls Tryz.prog 70 #[fG g, aM m] w (MutP S lab g (.int .i64 7) w) := by
  obtain ⟨W, hW⟩ : ∃ W : World, W = w.alloc (cM m) := ⟨_, rfl⟩
  have hB : Below w.heap.size w W := by rw [hW]; exact (Below.refl _ _).alloc (Nat.le_refl _) _
  have hWS : W.heap.size = w.heap.size + 1 := by rw [hW]; simp
  have hWG : W.heap[w.heap.size]? = some (cM m) := by rw [hW]; exact heap_alloc_new w _
  have hgl := hC.lt
  have hCW := hC.on hB
  obtain ⟨A, c, hcm, hsm, hcc⟩ := hCW.mem
  have HC := Lib.hid hC
  have HCW := Lib.hid hCW
  have HB := Lib.hid hB
  have HWS := Lib.hid hWS
  have HWG := Lib.hid hWG
  have HCM := Lib.hid hcm
  have HGL : Hid (g < W.heap.size) := by show _ < _; omega
  have HSM := Lib.hid hsm
  have HW := Lib.hid hW
  have e0 : decide (12 ≤ (S.s.ms.length : Int)) = true := by simp; omega
  rw [hW] at hcm
  clear hC hB hWS hWG hgl hCW hsm hW
  go_enter Tryz.func70, Tryz.ntmps70
  go_wp2
  go_ret
  exact MutP.of_below HC.out rfl ((Below.refl _ _).alloc (Nat.le_refl _) _)
set_option maxRecDepth 20000 in
set_option maxHeartbeats 4000000 in
theorem admit_bad (g : Nat) (lab : Nat → Nat) (S : Cst) (m : Mem) (w : World) (hC : Cir w lab g S) (hf : S.s.ms.length < 12) (hs : m.name.size ≤ 9223372036854775807) (hp : m.pub.size ≤ 9223372036854775807) (hm : memB m S.s.ms.length = false) :
    Calls Tryz.prog 70 #[fG g, aM m] w (MutP S lab g (.int .i64 1) w) := by
  obtain ⟨W, hW⟩ : ∃ W : World, W = w.alloc (cM m) := ⟨_, rfl⟩
  have hB : Below w.heap.size w W := by rw [hW]; exact (Below.refl _ _).alloc (Nat.le_refl _) _
  have hWS : W.heap.size = w.heap.size + 1 := by rw [hW]; simp
  have hWG : W.heap[w.heap.size]? = some (cM m) := by rw [hW]; exact heap_alloc_new w _
  have hgl := hC.lt
  have hCW := hC.on hB
  obtain ⟨A, c, hcm, hsm, hcc⟩ := hCW.mem
  have HC := Lib.hid hC
  have HCW := Lib.hid hCW
  have HB := Lib.hid hB
  have HWS := Lib.hid hWS
  have HWG := Lib.hid hWG
  have HCM := Lib.hid hcm
  have HGL : Hid (g < W.heap.size) := by show _ < _; omega
  have HSM := Lib.hid hsm
  have HW := Lib.hid hW
  have HV : Hid (∀ V, Calls Tryz.prog 65 #[aM m, .int .i64 S.s.ms.length] V (BoolB false V)) := fun V => hm ▸ vmem_any m S.s.ms.length V hs hp
  have e0 : ¬ 12 ≤ (S.s.ms.length : Int) := by omega
  rw [hW] at hcm
  clear hC hB hWS hWG hgl hCW hsm hW hs hp hm
  go_enter Tryz.func70, Tryz.ntmps70
  go_wp2
  rw [← HW.out]
  clear hcm HW
  have hc0 := HCM.out
  obtain ⟨x0, x1, x2, x3, x4⟩ := five_of (x := m) HWG.out
  go_region_held3 (fun w' => w'.cell? ⟨g, 0, none⟩ = some (.slice A S.s.ms.length c) ∧ w'.cell? ⟨w.heap.size, 0, none⟩ = some (.int .i64 m.dev) ∧ w'.cell? ⟨w.heap.size, 1, none⟩ = some (.string m.name) ∧ w'.cell? ⟨w.heap.size, 2, none⟩ = some (.string m.pub) ∧ w'.cell? ⟨w.heap.size, 3, none⟩ = some (.int .i64 m.quota) ∧ w'.cell? ⟨w.heap.size, 4, none⟩ = some (.bool m.exp)) (first | exact ⟨HK6.out, five_of HG6.out⟩ | exact ⟨HCM.out, five_of HWG.out⟩) ((go_at_call 65; refine (HV.out _).mono ?_; rintro e w6 ⟨rfl, hb⟩; (have HB6 : Hid (Below W.heap.size W w6) := (Below.trans (by first | exact Below.refl _ _ | exact (Below.refl _ _).drew | exact below_dN' (Below.refl _ _) _) hb)); (have HG6 : Hid (w6.heap[w.heap.size]? = some (cM m)) := (HB6.out.block _ (by rw [HWS.out]; exact Nat.lt_succ_self _)).trans HWG.out); (have HK6 : Hid (w6.cell? ⟨g, 0, none⟩ = some (.slice A S.s.ms.length c)) := (HB6.out.cell (p := ⟨g, 0, none⟩) HGL.out).trans HCM.out); clear hb))
  clear hc0 x0 x1 x2 x3 x4
  go_wp2_with fail
  go_wp2
  go_ret
  exact MutP.of_below HC.out rfl (HB.out.trans (HB6.out.mono HB.out.size))
set_option maxRecDepth 20000 in
set_option maxHeartbeats 4000000 in
theorem admit_taken (g : Nat) (lab : Nat → Nat) (S : Cst) (m : Mem) (w : World) (hC : Cir w lab g S) (hf : S.s.ms.length < 12) (hs : m.name.size ≤ 9223372036854775807) (hp : m.pub.size ≤ 9223372036854775807) (hm : memB m S.s.ms.length = true) (ht : takenB S.s.ms m = true) :
    Calls Tryz.prog 70 #[fG g, aM m] w (MutP S lab g (.int .i64 5) w) := by
  obtain ⟨W, hW⟩ : ∃ W : World, W = w.alloc (cM m) := ⟨_, rfl⟩
  have hB : Below w.heap.size w W := by rw [hW]; exact (Below.refl _ _).alloc (Nat.le_refl _) _
  have hWS : W.heap.size = w.heap.size + 1 := by rw [hW]; simp
  have hWG : W.heap[w.heap.size]? = some (cM m) := by rw [hW]; exact heap_alloc_new w _
  have hgl := hC.lt
  have hCW := hC.on hB
  obtain ⟨A, c, hcm, hsm, hcc⟩ := hCW.mem
  have HC := Lib.hid hC
  have HCW := Lib.hid hCW
  have HB := Lib.hid hB
  have HWS := Lib.hid hWS
  have HWG := Lib.hid hWG
  have HCM := Lib.hid hcm
  have HGL : Hid (g < W.heap.size) := by show _ < _; omega
  have HSM := Lib.hid hsm
  have HW := Lib.hid hW
  have HV : Hid (∀ V, Calls Tryz.prog 65 #[aM m, .int .i64 S.s.ms.length] V (BoolB true V)) := fun V => hm ▸ vmem_any m S.s.ms.length V hs hp
  have HT : Hid (∀ V, Below W.heap.size W V → Calls Tryz.prog 66 #[.slice A S.s.ms.length c, aM m] V (BoolB true V)) := fun V hb => ht ▸ taken_any m A S.s.ms.length c S.s.ms V ((hsm.up hb (Nat.le_refl _)).more hb.size) (by omega)
  have e0 : ¬ 12 ≤ (S.s.ms.length : Int) := by omega
  rw [hW] at hcm
  clear hC hB hWS hWG hgl hCW hsm hW hs hp hm ht
  go_enter Tryz.func70, Tryz.ntmps70
  go_wp2
  rw [← HW.out]
  clear hcm HW
  have hc0 := HCM.out
  obtain ⟨x0, x1, x2, x3, x4⟩ := five_of (x := m) HWG.out
  go_region_held3 (fun w' => w'.cell? ⟨g, 0, none⟩ = some (.slice A S.s.ms.length c) ∧ w'.cell? ⟨w.heap.size, 0, none⟩ = some (.int .i64 m.dev) ∧ w'.cell? ⟨w.heap.size, 1, none⟩ = some (.string m.name) ∧ w'.cell? ⟨w.heap.size, 2, none⟩ = some (.string m.pub) ∧ w'.cell? ⟨w.heap.size, 3, none⟩ = some (.int .i64 m.quota) ∧ w'.cell? ⟨w.heap.size, 4, none⟩ = some (.bool m.exp)) (first | exact ⟨HK6.out, five_of HG6.out⟩ | exact ⟨HCM.out, five_of HWG.out⟩) ((go_at_call 65; refine (HV.out _).mono ?_; rintro e w6 ⟨rfl, hb⟩; (have HB6 : Hid (Below W.heap.size W w6) := (Below.trans (by first | exact Below.refl _ _ | exact (Below.refl _ _).drew | exact below_dN' (Below.refl _ _) _) hb)); (have HG6 : Hid (w6.heap[w.heap.size]? = some (cM m)) := (HB6.out.block _ (by rw [HWS.out]; exact Nat.lt_succ_self _)).trans HWG.out); (have HK6 : Hid (w6.cell? ⟨g, 0, none⟩ = some (.slice A S.s.ms.length c)) := (HB6.out.cell (p := ⟨g, 0, none⟩) HGL.out).trans HCM.out); clear hb))
  clear hc0 x0 x1 x2 x3 x4
  go_wp2_with fail
  have hc0 := HK6.out
  obtain ⟨x0, x1, x2, x3, x4⟩ := five_of (x := m) HG6.out
  go_region_held3 (fun w' => w'.cell? ⟨g, 0, none⟩ = some (.slice A S.s.ms.length c) ∧ w'.cell? ⟨w.heap.size, 0, none⟩ = some (.int .i64 m.dev) ∧ w'.cell? ⟨w.heap.size, 1, none⟩ = some (.string m.name) ∧ w'.cell? ⟨w.heap.size, 2, none⟩ = some (.string m.pub) ∧ w'.cell? ⟨w.heap.size, 3, none⟩ = some (.int .i64 m.quota) ∧ w'.cell? ⟨w.heap.size, 4, none⟩ = some (.bool m.exp)) (first | exact ⟨HK7.out, five_of HG7.out⟩ | exact ⟨HK6.out, five_of HG6.out⟩) ((go_at_call 66; refine (HT.out _ (by first | exact HB6.out | exact HB6.out.drew | exact below_dN' HB6.out _)).mono ?_; rintro e w7 ⟨rfl, hb⟩; (have HB7 : Hid (Below W.heap.size W w7) := (Below.trans (by first | exact HB6.out | exact HB6.out.drew | exact below_dN' HB6.out _) (hb.mono (by first | exact HB6.out.size | exact HB6.out.drew.size)))); (have HG7 : Hid (w7.heap[w.heap.size]? = some (cM m)) := (HB7.out.block _ (by rw [HWS.out]; exact Nat.lt_succ_self _)).trans HWG.out); (have HK7 : Hid (w7.cell? ⟨g, 0, none⟩ = some (.slice A S.s.ms.length c)) := (HB7.out.cell (p := ⟨g, 0, none⟩) HGL.out).trans HCM.out); clear hb))
  clear hc0 x0 x1 x2 x3 x4
  go_wp2_with fail
  go_wp2
  go_ret
  exact MutP.of_below HC.out rfl (HB.out.trans (HB7.out.mono HB.out.size))
set_option maxRecDepth 20000 in
set_option maxHeartbeats 4000000 in
theorem admit_ok (g : Nat) (lab : Nat → Nat) (S : Cst) (m : Mem) (w : World) (hC : Cir w lab g S) (hf : S.s.ms.length < 12) (hch : S.chs.length ≤ 1000000) (hs : m.name.size ≤ 9223372036854775807) (hp : m.pub.size ≤ 9223372036854775807) (hm : memB m S.s.ms.length = true) (ht : takenB S.s.ms m = false) :
    Calls Tryz.prog 70 #[fG g, aM m] w (MutP { S with s := admS S.s m, chs := S.chs ++ [.adm m] } lab g (.int .i64 0) w) := by
  obtain ⟨W, hW⟩ : ∃ W : World, W = w.alloc (cM m) := ⟨_, rfl⟩
  have hB : Below w.heap.size w W := by rw [hW]; exact (Below.refl _ _).alloc (Nat.le_refl _) _
  have hWS : W.heap.size = w.heap.size + 1 := by rw [hW]; simp
  have hWG : W.heap[w.heap.size]? = some (cM m) := by rw [hW]; exact heap_alloc_new w _
  have hgl := hC.lt
  have hCW := hC.on hB
  obtain ⟨vm, vv, bm, vfm, vfv, vc, ps1, ps2, hP⟩ := hCW
  obtain ⟨A, c, rfl, hcc, hsm, _⟩ := hP.ms.shape fM_len
  obtain ⟨A6, c6, rfl, hcc6, _, _⟩ := hP.ch.shape
  have hcm : W.cell? ⟨g, 0, none⟩ = some (.slice A S.s.ms.length c) := by rw [cell_of_row W g _ _ _ _ hP.cell]; rfl
  obtain ⟨i0, hi, hz0, hz1, hz2⟩ := info_parts Tryz.infoM
  have HI := Lib.hid hi
  have HZ0 := Lib.hid hz0
  have HZ1 := Lib.hid hz1
  have HZ2 := Lib.hid hz2
  obtain ⟨j0, hj, hy0, hy1, hy2⟩ := info_parts Tryz.infoC
  have HJ := Lib.hid hj
  have HY0 := Lib.hid hy0
  have HY1 := Lib.hid hy1
  have HY2 := Lib.hid hy2
  have HK1 : Hid ((S.s.ms.length + 1) * 56 ≤ 140737488355328) := by show _ ≤ _; omega
  have HK2 : Hid (S.s.ms.length + 1 ≤ maxLen) := by show _ ≤ _; unfold maxLen; omega
  have HK3 : Hid ((S.chs.length + 1) * 16 ≤ 140737488355328) := by show _ ≤ _; omega
  have HK4 : Hid (S.chs.length + 1 ≤ maxLen) := by show _ ≤ _; unfold maxLen; omega
  clear hi hz0 hz1 hz2 hj hy0 hy1 hy2
  have HC := Lib.hid hC
  have HCW := Lib.hid hP
  have HB := Lib.hid hB
  have HWS := Lib.hid hWS
  have HWG := Lib.hid hWG
  have HCM := Lib.hid hcm
  have HGL : Hid (g < W.heap.size) := by show _ < _; omega
  have HSM := Lib.hid hsm
  have HW := Lib.hid hW
  have HV : Hid (∀ V, Calls Tryz.prog 65 #[aM m, .int .i64 S.s.ms.length] V (BoolB true V)) := fun V => hm ▸ vmem_any m S.s.ms.length V hs hp
  have HT : Hid (∀ V, Below W.heap.size W V → Calls Tryz.prog 66 #[.slice A S.s.ms.length c, aM m] V (BoolB false V)) := fun V hb => ht ▸ taken_any m A S.s.ms.length c S.s.ms V ((hsm.up hb (Nat.le_refl _)).more hb.size) (by omega)
  have e0 : ¬ 12 ≤ (S.s.ms.length : Int) := by omega
  rw [hW] at hcm
  clear hC hB hWS hWG hgl hP hsm hW hs hp hm ht
  go_enter Tryz.func70, Tryz.ntmps70
  go_wp2
  rw [← HW.out]
  clear hcm HW
  have hc0 := HCM.out
  obtain ⟨x0, x1, x2, x3, x4⟩ := five_of (x := m) HWG.out
  go_region_held3 (fun w' => w'.cell? ⟨g, 0, none⟩ = some (.slice A S.s.ms.length c) ∧ w'.cell? ⟨w.heap.size, 0, none⟩ = some (.int .i64 m.dev) ∧ w'.cell? ⟨w.heap.size, 1, none⟩ = some (.string m.name) ∧ w'.cell? ⟨w.heap.size, 2, none⟩ = some (.string m.pub) ∧ w'.cell? ⟨w.heap.size, 3, none⟩ = some (.int .i64 m.quota) ∧ w'.cell? ⟨w.heap.size, 4, none⟩ = some (.bool m.exp)) (first | exact ⟨HK6.out, five_of HG6.out⟩ | exact ⟨HCM.out, five_of HWG.out⟩) ((go_at_call 65; refine (HV.out _).mono ?_; rintro e w6 ⟨rfl, hb⟩; (have HB6 : Hid (Below W.heap.size W w6) := (Below.trans (by first | exact Below.refl _ _ | exact (Below.refl _ _).drew | exact below_dN' (Below.refl _ _) _) hb)); (have HG6 : Hid (w6.heap[w.heap.size]? = some (cM m)) := (HB6.out.block _ (by rw [HWS.out]; exact Nat.lt_succ_self _)).trans HWG.out); (have HK6 : Hid (w6.cell? ⟨g, 0, none⟩ = some (.slice A S.s.ms.length c)) := (HB6.out.cell (p := ⟨g, 0, none⟩) HGL.out).trans HCM.out); clear hb))
  clear hc0 x0 x1 x2 x3 x4
  go_wp2_with fail
  have hc0 := HK6.out
  obtain ⟨x0, x1, x2, x3, x4⟩ := five_of (x := m) HG6.out
  go_region_held3 (fun w' => w'.cell? ⟨g, 0, none⟩ = some (.slice A S.s.ms.length c) ∧ w'.cell? ⟨w.heap.size, 0, none⟩ = some (.int .i64 m.dev) ∧ w'.cell? ⟨w.heap.size, 1, none⟩ = some (.string m.name) ∧ w'.cell? ⟨w.heap.size, 2, none⟩ = some (.string m.pub) ∧ w'.cell? ⟨w.heap.size, 3, none⟩ = some (.int .i64 m.quota) ∧ w'.cell? ⟨w.heap.size, 4, none⟩ = some (.bool m.exp)) (first | exact ⟨HK7.out, five_of HG7.out⟩ | exact ⟨HK6.out, five_of HG6.out⟩) ((go_at_call 66; refine (HT.out _ (by first | exact HB6.out | exact HB6.out.drew | exact below_dN' HB6.out _)).mono ?_; rintro e w7 ⟨rfl, hb⟩; (have HB7 : Hid (Below W.heap.size W w7) := (Below.trans (by first | exact HB6.out | exact HB6.out.drew | exact below_dN' HB6.out _) (hb.mono (by first | exact HB6.out.size | exact HB6.out.drew.size)))); (have HG7 : Hid (w7.heap[w.heap.size]? = some (cM m)) := (HB7.out.block _ (by rw [HWS.out]; exact Nat.lt_succ_self _)).trans HWG.out); (have HK7 : Hid (w7.cell? ⟨g, 0, none⟩ = some (.slice A S.s.ms.length c)) := (HB7.out.cell (p := ⟨g, 0, none⟩) HGL.out).trans HCM.out); clear hb))
  clear hc0 x0 x1 x2 x3 x4
  go_wp2_with fail
  have hP7 := HCW.out.on HB7.out
  have HP7 := Lib.hid hP7
  have HM7 : Hid (∀ V, Below w7.heap.size w7 V → OwnN fM 5 40 V 0 (.slice A S.s.ms.length c) S.s.ms) := fun V h => hP7.ms.on h
  have HST : Hid (∀ V, w7.grownBy V (Value.slice A S.s.ms.length c).ownBlock → V.cell? ⟨g, 0, none⟩ = some (.slice A S.s.ms.length c)) := fun V h => by rw [cell_of_row V g _ _ _ _ (grown_cell hP7 h hP7.lms (by decide))]; rfl
  have HFR : Hid (∀ V, w7.grownBy V (Value.slice A S.s.ms.length c).ownBlock → V.frozen? ⟨g, 0, none⟩ = false) := fun V h => frozen_of_row V g 0 _ _ (grown_cell hP7 h hP7.lms (by decide))
  clear hP7
  have hc0 := HK7.out
  obtain ⟨x0, x1, x2, x3, x4⟩ := five_of (x := m) HG7.out
  have hgl7 : g < w7.heap.size := Nat.lt_of_lt_of_le HGL.out HB7.out.size
  have hwl7 : w.heap.size < w7.heap.size := lt_of_block HG7.out
  go_region_law (first | (refine step_appN fM_len (by omega) rfl (.tmp 29) (.tmp 31) 22 rfl 40 i0 _ 56 Tryz.underlying22 HI.out HZ0.out HZ1.out HZ2.out Tryz.zsM (.slice A S.s.ms.length c) S.s.ms 0 ?_ ?_ (some ⟨w7.heap.size, 0, none⟩) 1 1 (w7.heap.size + 1) [m] ?_ ?_ fM_one HK1.out HK2.out (Nat.zero_le _) ?_; (exact rfl); (exact HM7.out _ (by repeat (first | exact Below.refl _ _ | refine Below.alloc ?_ (by simp <;> omega) _ | refine Below.drew ?_ | refine below_dN' ?_ _))); (exact rfl); (exact SlN.of_block (t := 40) (fr := (0, 0)) (heap_alloc_new _ _) (Nat.lt_succ_self _)); (intro v8 w8 HO8 HG8 HV8; (obtain ⟨A8, c8, hv8, _, _, _⟩ := HO8.out.shape fM_len); (rw [List.length_append, List.length_singleton] at hv8); subst hv8; (have HG : Hid (w7.grownBy w8 (Value.slice A S.s.ms.length c).ownBlock) := grown_from (by repeat (first | exact Below.refl _ _ | refine Below.alloc ?_ (by simp <;> omega) _ | refine Below.drew ?_ | refine below_dN' ?_ _)) HG8.out); (have HVV : Hid ((Value.slice A8 (S.s.ms.length + 1) c8).ownBlock = (Value.slice A S.s.ms.length c).ownBlock ∨ ∃ k, (Value.slice A8 (S.s.ms.length + 1) c8).ownBlock = some k ∧ w7.heap.size ≤ k) := own_from (by repeat (first | exact Below.refl _ _ | refine Below.alloc ?_ (by simp <;> omega) _ | refine Below.drew ?_ | refine below_dN' ?_ _)) HV8.out); (have hst := HST.out _ HG.out); (have hfr := HFR.out _ HG.out); clear HG8 HV8)))
  all_goals
    clear hst hfr hc0 x0 x1 x2 x3 x4 HST HFR HM7 hgl7 hwl7
    obtain ⟨W8, hW8⟩ : ∃ V : World, V = w8.setCell ⟨g, 0, none⟩ (.slice A8 (S.s.ms.length + 1) c8) := ⟨_, rfl⟩
    have hP8 := HP7.out.addM (m := m) HG.out HO8.out HVV.out
    have hF8 := turn_fr (i := 0) (u := .slice A8 (S.s.ms.length + 1) c8) HG.out HP7.out.lms (by decide) HP7.out.lg
    rw [← hW8] at hP8 hF8 ⊢
    have hG8 : W8.heap[w.heap.size]? = some (cM m) := (hF8.block _ (lt_of_block HG7.out) (HC.out.top _ (Nat.le_refl _))).trans HG7.out
    have hc6 : W8.cell? ⟨g, 6, none⟩ = some (.slice A6 S.chs.length c6) := by rw [cell_of_row W8 g _ _ _ _ hP8.cell]; rfl
    have HP8 := Lib.hid hP8
    have HF8 := Lib.hid hF8
    have HM8 : Hid (∀ V, Below W8.heap.size W8 V → Own fC 86 V 0 (.slice A6 S.chs.length c6) S.chs) := fun V h => hP8.ch.on h
    have HST : Hid (∀ V, W8.grownBy V (Value.slice A6 S.chs.length c6).ownBlock → V.cell? ⟨g, 6, none⟩ = some (.slice A6 S.chs.length c6)) := fun V h => by rw [cell_of_row V g _ _ _ _ (grown_cell hP8 h hP8.lch (by decide))]; rfl
    have HFR : Hid (∀ V, W8.grownBy V (Value.slice A6 S.chs.length c6).ownBlock → V.frozen? ⟨g, 6, none⟩ = false) := fun V h => frozen_of_row V g 6 _ _ (grown_cell hP8 h hP8.lch (by decide))
    obtain ⟨x0, x1, x2, x3, x4⟩ := five_of (x := m) hG8
    have hgl8 : g < W8.heap.size := lt_of_block hP8.cell
    have hwl8 : w.heap.size < W8.heap.size := lt_of_block hG8
    clear hP8 hF8 hW8 hG8
    go_wp2_with fail
    go_region_law (first | (refine step_appO rfl (.tmp 39) (.tmp 43) 79 rfl 86 j0 .nilIface 16 Tryz.underlying79 HJ.out HY0.out HY1.out HY2.out rfl (.slice A6 S.chs.length c6) S.chs 0 ?_ ?_ (some ⟨W8.heap.size, 0, none⟩) 1 1 (W8.heap.size + 1) [.adm m] ?_ ?_ fC_one HK3.out HK4.out (Nat.zero_le _) ?_; (exact rfl); (exact HM8.out _ (by repeat (first | exact Below.refl _ _ | refine Below.alloc ?_ (by simp <;> omega) _ | refine Below.drew ?_ | refine below_dN' ?_ _))); (exact rfl); (exact ⟨rfl, SL.of_block (t := 86) (fr := (0, 0)) (heap_alloc_new _ _) (Nat.lt_succ_self _)⟩); (intro v9 w9 HO9 HG9 HV9; (obtain ⟨A9, c9, hv9, _, _, _⟩ := HO9.out.shape); (rw [List.length_append, List.length_singleton] at hv9); subst hv9; (have HGC : Hid (W8.grownBy w9 (Value.slice A6 S.chs.length c6).ownBlock) := grown_from (by repeat (first | exact Below.refl _ _ | refine Below.alloc ?_ (by simp <;> omega) _ | refine Below.drew ?_ | refine below_dN' ?_ _)) HG9.out); (have HVC : Hid ((Value.slice A9 (S.chs.length + 1) c9).ownBlock = (Value.slice A6 S.chs.length c6).ownBlock ∨ ∃ k, (Value.slice A9 (S.chs.length + 1) c9).ownBlock = some k ∧ W8.heap.size ≤ k) := own_from (by repeat (first | exact Below.refl _ _ | refine Below.alloc ?_ (by simp <;> omega) _ | refine Below.drew ?_ | refine below_dN' ?_ _)) HV9.out); (have hst := HST.out _ HGC.out); (have hfr := HFR.out _ HGC.out); clear HG9 HV9)))
    all_goals
      clear hst hfr hc6 x0 x1 x2 x3 x4 HST HFR HM8 hgl8 hwl8
      have HP9 := Lib.hid (HP8.out.addC (x := .adm m) HGC.out HO9.out HVC.out)
      have HF9 := Lib.hid (turn_fr (i := 6) (u := .slice A9 (S.chs.length + 1) c9) HGC.out HP8.out.lch (by decide) HP8.out.lg)
      go_wp2_with fail
      go_ret
      exact ⟨rfl, _, ⟨_, _, _, _, _, _, _, _, HP9.out⟩, ((Fr.of_below (HB.out.trans (HB7.out.mono HB.out.size))).trans HF8.out).trans HF9.out⟩
end Go.Proofs.YtkeicjokekmkpaaGreat
