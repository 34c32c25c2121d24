/- awake: the chapter's examples hold. -/
import Derived.Test.YtkeicjokekmkpaaEx
namespace Go.Proofs.Ytkeicjokekmkpaa
open Go.RowKit Mb
set_option linter.unusedVariables false
set_option linter.unusedSimpArgs false

theorem active_cir (g : Nat) (lab : Nat → Nat) (S : Cst) (w : World) (hC : Cir w lab g S) (hn : S.s.ms.length ≤ 1000) :
    Calls Try.prog 13 #[fG g] w (OwnI (activeL S.s) w) := by
  obtain ⟨A, c, hcm, hs, _⟩ := hC.mem
  exact active_list g A _ c S.s.ms w hcm hC.lt hs hn
theorem members_cir (g : Nat) (lab : Nat → Nat) (S : Cst) (w : World) (hC : Cir w lab g S) (hn : S.s.ms.length ≤ 1000) :
    Calls Try.prog 11 #[fG g] w (OwnR fM 5 44 S.s.ms w) := by
  obtain ⟨A, c, hcm, hs, _⟩ := hC.mem
  exact members_any g A _ c S.s.ms w hcm hs (by omega)
theorem vaults_cir (g : Nat) (lab : Nat → Nat) (S : Cst) (w : World) (hC : Cir w lab g S) (hI : Inv S.s) :
    Calls Try.prog 10 #[fG g] w (CopVs S.s.vs w) := by
  obtain ⟨A, c, ps, hcv, hv, hp, hn⟩ := hC.vlt
  have h := vaults_any g A _ c ps w hcv hv (by have := hI.v12; omega) (fun p hp2 => by
    rw [hn p hp2]
    have := hI.ws3 p.1 (by rw [← hp]; exact List.mem_map_of_mem hp2)
    omega)
  rwa [hp] at h
def xS0 : Cst := ⟨⟨exMs, [exV 3], 2, []⟩, exMs, [exV 3], []⟩
def xS1 : Cst := votC xS0 1 0
def xS2 : Cst := votC xS1 2 0
def xS3 : Cst := votC xS2 0 1
def xS4 : Cst := repC xS3 0 0 3
theorem x_new4 : newE exMs [exV 4] 2 = 14 := by decide +kernel
theorem x_new3 : newE exMs [exV 3] 2 = 0 := by decide +kernel
theorem x_hol : hoL xS0.s [0] = [1, 2, 3] := by decide +kernel
theorem x_v1 : votE xS0.s 1 0 = 0 ∧ votB xS0.s 1 0 = false := by decide +kernel
theorem x_v2 : votE xS1.s 2 0 = 0 ∧ votB xS1.s 2 0 = true := by decide +kernel
theorem x_v3 : votE xS2.s 0 1 = 14 ∧ votB xS2.s 0 1 = false := by decide +kernel
theorem x_r4 : repE xS3.s 0 0 3 = 0 := by decide +kernel
theorem x_act : activeL xS4.s = [1, 2, 3] := by decide +kernel
theorem votC_inv {S : Cst} {a b : Int} (h : Inv S.s) : Inv (votC S a b).s := by
  unfold votC
  split
  · next h0 => exact votS_inv h h0
  · exact h
theorem repC_inv {S : Cst} {v a b : Int} (h : Inv S.s) : Inv (repC S v a b).s := by
  unfold repC
  split
  · next h0 => exact repS_inv h h0
  · exact h
theorem x_i0 : Inv xS0.s := newE_inv x_new3
theorem x_i1 : Inv xS1.s := votC_inv x_i0
theorem x_i2 : Inv xS2.s := votC_inv x_i1
theorem x_i3 : Inv xS3.s := votC_inv x_i2
theorem x_i4 : Inv xS4.s := repC_inv x_i3
theorem x_len : xS0.chs.length ≤ 1000 ∧ xS1.chs.length ≤ 1000 ∧ xS2.chs.length ≤ 1000 ∧ xS3.chs.length ≤ 1000 ∧ xS0.s.votes.length ≤ 1000 ∧ xS1.s.votes.length ≤ 1000 ∧ xS2.s.votes.length ≤ 1000 := by decide +kernel
set_option maxRecDepth 20000 in
set_option maxHeartbeats 4000000 in
theorem awake_any (w : World) : Calls Try.prog 6 #[] w (BoolB true w) := by
  go_enter Try.func6, Try.ntmps6
  go_wp2_with fail
  refine (example_any 4 w).mono ?_
  rintro e w1 (⟨h0, _⟩ | ⟨_, h, hb⟩)
  · rw [x_new4] at h0; cases h0
  rw [x_new4] at h
  subst h
  have HB1 := Lib.hid hb
  clear hb
  go_wp2_with fail
  refine (example_any 3 w1).mono ?_
  rintro e w2 (⟨_, g, lab, rfl, hC, hl, hb⟩ | ⟨h0, _⟩)
  rotate_left
  · exact absurd x_new3 h0
  have HC2 : Hid (Cir w2 lab g xS0) := hC
  have HL : Hid (∀ k, k < w.heap.size → lab k = 0) := fun k hk => hl k (Nat.lt_of_lt_of_le hk HB1.out.size)
  have HB2 : Hid (Below w.heap.size w w2) := HB1.out.trans (hb.mono HB1.out.size)
  clear hC hl hb
  go_wp2_with fail
  have hv0 : vltOf xS0.s 0 = some (exV 3) := rfl
  refine (hol_yes g lab xS0 0 (exV 3) w2 HC2.out (by decide) (by decide) hv0 (by decide)).mono ?_
  rintro e w3 ⟨v3, rfl, ho, hb⟩
  rw [show hoL xS0.s (exV 3).ws = [1, 2, 3] from x_hol] at ho
  have HC3 := Lib.hid (HC2.out.on hb)
  have HF3 : Hid (Fr w2 lab w3 lab) := Fr.of_below hb
  obtain ⟨A3, c3, rfl, _, hs3, _⟩ := ho.shape
  have HS3 : Hid (Sl I w3 w3.heap.size A3 3 [1, 2, 3]) := ⟨rfl, hs3⟩
  clear ho hb hs3 hv0
  go_wp2_with fail
  refine (sameI_any A3 (some ⟨w3.heap.size, 0, none⟩) 3 3 [1, 2, 3] [1, 2, 3] c3 3 _ (w3.heap.size + 1) (HS3.out.up ((Below.refl _ _).alloc (Nat.le_refl _) _) (Nat.le_refl _) |>.more' (Nat.le_succ _)) ⟨rfl, SL.of_block (f := I) (xs := [1, 2, 3]) (t := 3) (fr := (0, 0)) (heap_alloc_new w3 _) (Nat.lt_succ_self _)⟩ (by decide) (by decide)).mono ?_
  rintro e w4 ⟨rfl, r, h4⟩
  have hb4 : Below w3.heap.size w3 w4 := by rw [h4]; exact below_dN' ((Below.refl _ _).alloc (Nat.le_refl _) _) _
  have HC4 := Lib.hid (HC3.out.on hb4)
  have HF4 : Hid (Fr w2 lab w4 lab) := HF3.out.trans (Fr.of_below hb4)
  clear hb4 h4
  go_wp2_with fail
  refine (vote_any g lab xS0 1 0 w4 HC4.out x_i0 (Nat.le_trans x_len.1 (by decide)) (Nat.le_trans x_len.2.2.2.2.1 (by decide))).mono ?_
  rintro e w5 ⟨rfl, lab5, hC, hF⟩
  rw [x_v1.1, x_v1.2]
  unfold votR
  have HC5 : Hid (Cir w5 lab5 g xS1) := hC
  have HF5 := Lib.hid (HF4.out.trans hF)
  clear hC hF
  go_wp2_with fail
  refine (vote_any g lab5 xS1 2 0 w5 HC5.out x_i1 (Nat.le_trans x_len.2.1 (by decide)) (Nat.le_trans x_len.2.2.2.2.2.1 (by decide))).mono ?_
  rintro e w6 ⟨rfl, lab6, hC, hF⟩
  rw [x_v2.1, x_v2.2]
  unfold votR
  have HC6 : Hid (Cir w6 lab6 g xS2) := hC
  have HF6 := Lib.hid (HF5.out.trans hF)
  clear hC hF
  go_wp2_with fail
  refine (vote_any g lab6 xS2 0 1 w6 HC6.out x_i2 (Nat.le_trans x_len.2.2.1 (by decide)) (Nat.le_trans x_len.2.2.2.2.2.2 (by decide))).mono ?_
  rintro e w7 ⟨rfl, lab7, hC, hF⟩
  rw [x_v3.1, x_v3.2]
  unfold votR
  have HC7 : Hid (Cir w7 lab7 g xS3) := hC
  have HF7 := Lib.hid (HF6.out.trans hF)
  clear hC hF
  go_wp2_with fail
  refine (replace_any g lab7 xS3 0 0 3 w7 HC7.out x_i3 (Nat.le_trans x_len.2.2.2.1 (by decide))).mono ?_
  rintro e w8 ⟨rfl, lab8, hC, hF⟩
  rw [x_r4]
  have HC8 : Hid (Cir w8 lab8 g xS4) := hC
  have HF8 := Lib.hid (HF7.out.trans hF)
  clear hC hF
  go_wp2_with fail
  refine (active_cir g lab8 xS4 w8 HC8.out (Nat.le_trans x_i4.n12 (by decide))).mono ?_
  rintro e w9 ⟨v9, rfl, ho, hb⟩
  rw [x_act] at ho
  have HF9 := Lib.hid (HF8.out.trans (Fr.of_below hb))
  obtain ⟨A9, c9, rfl, _, hs9, _⟩ := ho.shape
  have HS9 : Hid (Sl I w9 w9.heap.size A9 3 [1, 2, 3]) := ⟨rfl, hs9⟩
  clear ho hb hs9
  go_wp2_with fail
  refine (sameI_any A9 (some ⟨w9.heap.size, 0, none⟩) 3 3 [1, 2, 3] [1, 2, 3] c9 3 _ (w9.heap.size + 1) (HS9.out.up ((Below.refl _ _).alloc (Nat.le_refl _) _) (Nat.le_refl _) |>.more' (Nat.le_succ _)) ⟨rfl, SL.of_block (f := I) (xs := [1, 2, 3]) (t := 3) (fr := (0, 0)) (heap_alloc_new w9 _) (Nat.lt_succ_self _)⟩ (by decide) (by decide)).mono ?_
  rintro e w10 ⟨rfl, r, h10⟩
  have hb10 : Below w9.heap.size w9 w10 := by rw [h10]; exact below_dN' ((Below.refl _ _).alloc (Nat.le_refl _) _) _
  have HF10 : Hid (Fr w2 lab w10 lab8) := HF9.out.trans (Fr.of_below hb10)
  clear hb10 h10
  go_wp2
  go_ret
  exact ⟨rfl, HB2.out.trans (HF10.out.below HB2.out.size HL.out)⟩
end Go.Proofs.Ytkeicjokekmkpaa
