/- Vote. -/
import Derived.Test.YtkeicjokekmkpaaGreatMi
namespace Go.Proofs.YtkeicjokekmkpaaGreat
open Go.RowKit Mb
set_option linter.unusedVariables false
set_option linter.unusedSimpArgs false

/-- What Vote hands back. -/
def votR (b : Bool) (e : Int) : Value := .tuple #[.bool b, .int .i64 e]
set_option maxRecDepth 20000 in
set_option maxHeartbeats 4000000 in
theorem vote_e1 (g : Nat) (lab : Nat → Nat) (S : Cst) (a b : Int) (w : World) (hC : Cir w lab g S) (hn : S.s.ms.length ≤ 12) (ha : hasB S.s a = false) :
    Calls Tryz.prog 16 #[fG g, .int .i64 a, .int .i64 b] w (MutP S lab g (votR false 4) w) := by
  have H1 : Hid (Calls Tryz.prog 61 #[fG g, .int .i64 a] w fun e w' => e = .returned (.bool false) ∧ w = w') := ha ▸ has_cir g lab S a w hC (by omega)
  have HC := Lib.hid hC
  clear hC ha
  go_enter Tryz.func16, Tryz.ntmps16
  go_wp2_with (first | (go_at_call 61; (first | (with_reducible refine H1.out.mono ?_)); rintro e w1 ⟨rfl, rfl⟩))
  go_ret2
  exact MutP.of_below HC.out rfl (Below.refl _ _)
set_option maxRecDepth 20000 in
set_option maxHeartbeats 4000000 in
theorem vote_e2 (g : Nat) (lab : Nat → Nat) (S : Cst) (a b : Int) (w : World) (hC : Cir w lab g S) (hn : S.s.ms.length ≤ 12) (ha : hasB S.s a = true) (hb : hasB S.s b = false) :
    Calls Tryz.prog 16 #[fG g, .int .i64 a, .int .i64 b] w (MutP S lab g (votR false 4) w) := by
  have H1 : Hid (Calls Tryz.prog 61 #[fG g, .int .i64 a] w fun e w' => e = .returned (.bool true) ∧ w = w') := ha ▸ has_cir g lab S a w hC (by omega)
  have H2 : Hid (Calls Tryz.prog 61 #[fG g, .int .i64 b] w fun e w' => e = .returned (.bool false) ∧ w = w') := hb ▸ has_cir g lab S b w hC (by omega)
  have HC := Lib.hid hC
  clear hC ha hb
  go_enter Tryz.func16, Tryz.ntmps16
  go_wp2_with (first | (go_at_call 61; (first | (with_reducible refine H1.out.mono ?_) | (with_reducible refine H2.out.mono ?_)); rintro e w1 ⟨rfl, rfl⟩))
  go_ret2
  exact MutP.of_below HC.out rfl (Below.refl _ _)
set_option maxRecDepth 20000 in
set_option maxHeartbeats 4000000 in
theorem vote_e3 (g : Nat) (lab : Nat → Nat) (S : Cst) (a b : Int) (w : World) (hC : Cir w lab g S) (hn : S.s.ms.length ≤ 12) (ha : hasB S.s a = true) (hb : hasB S.s b = true) (ka : actI S.s a = false) :
    Calls Tryz.prog 16 #[fG g, .int .i64 a, .int .i64 b] w (MutP S lab g (votR false 14) w) := by
  have H1 : Hid (Calls Tryz.prog 61 #[fG g, .int .i64 a] w fun e w' => e = .returned (.bool true) ∧ w = w') := ha ▸ has_cir g lab S a w hC (by omega)
  have H2 : Hid (Calls Tryz.prog 61 #[fG g, .int .i64 b] w fun e w' => e = .returned (.bool true) ∧ w = w') := hb ▸ has_cir g lab S b w hC (by omega)
  have H3 : Hid (Calls Tryz.prog 59 #[fG g, .int .i64 a] w fun e w' => e = .returned (.bool false) ∧ w = w') := ka ▸ act_cir g lab S a w hC (by omega) ha
  have HC := Lib.hid hC
  clear hC ha hb ka
  go_enter Tryz.func16, Tryz.ntmps16
  go_wp2_with (first | (go_at_call 61; (first | (with_reducible refine H1.out.mono ?_) | (with_reducible refine H2.out.mono ?_)); rintro e w1 ⟨rfl, rfl⟩) | (go_at_call 59; (first | (with_reducible refine H3.out.mono ?_)); rintro e w1 ⟨rfl, rfl⟩))
  go_ret2
  exact MutP.of_below HC.out rfl (Below.refl _ _)
set_option maxRecDepth 20000 in
set_option maxHeartbeats 4000000 in
theorem vote_e4 (g : Nat) (lab : Nat → Nat) (S : Cst) (a b : Int) (w : World) (hC : Cir w lab g S) (hn : S.s.ms.length ≤ 12) (ha : hasB S.s a = true) (hb : hasB S.s b = true) (ka : actI S.s a = true) (he : a = b) :
    Calls Tryz.prog 16 #[fG g, .int .i64 a, .int .i64 b] w (MutP S lab g (votR false 14) w) := by
  subst he
  have H1 : Hid (Calls Tryz.prog 61 #[fG g, .int .i64 a] w fun e w' => e = .returned (.bool true) ∧ w = w') := ha ▸ has_cir g lab S a w hC (by omega)
  have H3 : Hid (Calls Tryz.prog 59 #[fG g, .int .i64 a] w fun e w' => e = .returned (.bool true) ∧ w = w') := ka ▸ act_cir g lab S a w hC (by omega) ha
  have HC := Lib.hid hC
  clear hC ha hb ka
  go_enter Tryz.func16, Tryz.ntmps16
  go_wp2_with (first | (go_at_call 61; (first | (with_reducible refine H1.out.mono ?_)); rintro e w1 ⟨rfl, rfl⟩) | (go_at_call 59; (first | (with_reducible refine H3.out.mono ?_)); rintro e w1 ⟨rfl, rfl⟩))
  go_ret2
  exact MutP.of_below HC.out rfl (Below.refl _ _)
set_option maxRecDepth 20000 in
set_option maxHeartbeats 4000000 in
theorem vote_e5 (g : Nat) (lab : Nat → Nat) (S : Cst) (a b : Int) (w : World) (hC : Cir w lab g S) (hn : S.s.ms.length ≤ 12) (ha : hasB S.s a = true) (hb : hasB S.s b = true) (ka : actI S.s a = true) (he : a ≠ b) (kb : actI S.s b = false) :
    Calls Tryz.prog 16 #[fG g, .int .i64 a, .int .i64 b] w (MutP S lab g (votR false 6) w) := by
  have H1 : Hid (Calls Tryz.prog 61 #[fG g, .int .i64 a] w fun e w' => e = .returned (.bool true) ∧ w = w') := ha ▸ has_cir g lab S a w hC (by omega)
  have H2 : Hid (Calls Tryz.prog 61 #[fG g, .int .i64 b] w fun e w' => e = .returned (.bool true) ∧ w = w') := hb ▸ has_cir g lab S b w hC (by omega)
  have H3 : Hid (Calls Tryz.prog 59 #[fG g, .int .i64 a] w fun e w' => e = .returned (.bool true) ∧ w = w') := ka ▸ act_cir g lab S a w hC (by omega) ha
  have H4 : Hid (Calls Tryz.prog 59 #[fG g, .int .i64 b] w fun e w' => e = .returned (.bool false) ∧ w = w') := kb ▸ act_cir g lab S b w hC (by omega) hb
  have e0 : (a == b) = false := by simpa using he
  have HC := Lib.hid hC
  clear hC ha hb ka kb
  go_enter Tryz.func16, Tryz.ntmps16
  go_wp2_with (first | (go_at_call 61; (first | (with_reducible refine H1.out.mono ?_) | (with_reducible refine H2.out.mono ?_)); rintro e w1 ⟨rfl, rfl⟩) | (go_at_call 59; (first | (with_reducible refine H3.out.mono ?_) | (with_reducible refine H4.out.mono ?_)); rintro e w1 ⟨rfl, rfl⟩))
  go_ret2
  exact MutP.of_below HC.out rfl (Below.refl _ _)
set_option maxRecDepth 20000 in
set_option maxHeartbeats 4000000 in
theorem vote_e6 (g : Nat) (lab : Nat → Nat) (S : Cst) (a b : Int) (w : World) (hC : Cir w lab g S) (hn : S.s.ms.length ≤ 12) (ha : hasB S.s a = true) (hb : hasB S.s b = true) (ka : actI S.s a = true) (he : a ≠ b) (kb : actI S.s b = true) (hv : votedB S.s a b = true) :
    Calls Tryz.prog 16 #[fG g, .int .i64 a, .int .i64 b] w (MutP S lab g (votR false 5) w) := by
  have H1 : Hid (Calls Tryz.prog 61 #[fG g, .int .i64 a] w fun e w' => e = .returned (.bool true) ∧ w = w') := ha ▸ has_cir g lab S a w hC (by omega)
  have H2 : Hid (Calls Tryz.prog 61 #[fG g, .int .i64 b] w fun e w' => e = .returned (.bool true) ∧ w = w') := hb ▸ has_cir g lab S b w hC (by omega)
  have H3 : Hid (Calls Tryz.prog 59 #[fG g, .int .i64 a] w fun e w' => e = .returned (.bool true) ∧ w = w') := ka ▸ act_cir g lab S a w hC (by omega) ha
  have H4 : Hid (Calls Tryz.prog 59 #[fG g, .int .i64 b] w fun e w' => e = .returned (.bool true) ∧ w = w') := kb ▸ act_cir g lab S b w hC (by omega) hb
  have e0 : (a == b) = false := by simpa using he
  obtain ⟨bm, hcb, hmp⟩ := hC.votes
  have ha64 : int64 a := by have := hasB_iff.1 ha; unfold int64; omega
  have hb64 : int64 b := by have := hasB_iff.1 hb; unfold int64; omega
  have hl : (Instr.lookup 78 (.map (some bm)) (.agg #[.int .i64 a, .int .i64 b]) false).run Tryz.prog w = .ok (.bool true) w := (hmp.look a b ha64 hb64).trans (by rw [show S.s.votes.contains (a, b) = true from hv])
  have HC := Lib.hid hC
  clear hC ha hb ka kb hv ha64 hb64 hmp
  go_enter Tryz.func16, Tryz.ntmps16
  go_wp2_with (first | (go_at_call 61; (first | (with_reducible refine H1.out.mono ?_) | (with_reducible refine H2.out.mono ?_)); rintro e w1 ⟨rfl, rfl⟩) | (go_at_call 59; (first | (with_reducible refine H3.out.mono ?_) | (with_reducible refine H4.out.mono ?_)); rintro e w1 ⟨rfl, rfl⟩))
  go_ret2
  exact MutP.of_below HC.out rfl (Below.refl _ _)
set_option maxRecDepth 20000 in
set_option maxHeartbeats 4000000 in
theorem vote_ok (g : Nat) (lab : Nat → Nat) (S : Cst) (a b : Int) (w : World) (hC : Cir w lab g S) (hn : S.s.ms.length ≤ 12) (ha : hasB S.s a = true) (hb : hasB S.s b = true) (ka : actI S.s a = true) (he : a ≠ b) (kb : actI S.s b = true) (hv : votedB S.s a b = false) (hch : S.chs.length ≤ 1000000) (hvl : S.s.votes.length ≤ 1000000) :
    Calls Tryz.prog 16 #[fG g, .int .i64 a, .int .i64 b] w (MutP { S with s := votS S.s a b, chs := S.chs ++ [.bal a b] } lab g (votR (outB S.s a b) 0) w) := by
  have H1 : Hid (Calls Tryz.prog 61 #[fG g, .int .i64 a] w fun e w' => e = .returned (.bool true) ∧ w = w') := ha ▸ has_cir g lab S a w hC (by omega)
  have H2 : Hid (Calls Tryz.prog 61 #[fG g, .int .i64 b] w fun e w' => e = .returned (.bool true) ∧ w = w') := hb ▸ has_cir g lab S b w hC (by omega)
  have H3 : Hid (Calls Tryz.prog 59 #[fG g, .int .i64 a] w fun e w' => e = .returned (.bool true) ∧ w = w') := ka ▸ act_cir g lab S a w hC (by omega) ha
  have H4 : Hid (Calls Tryz.prog 59 #[fG g, .int .i64 b] w fun e w' => e = .returned (.bool true) ∧ w = w') := kb ▸ act_cir g lab S b w hC (by omega) hb
  have e0 : (a == b) = false := by simpa using he
  have hga := hasB_iff.1 ha
  have hgb := hasB_iff.1 hb
  have ha64 : int64 a := by unfold int64; omega
  have hb64 : int64 b := by unfold int64; omega
  obtain ⟨vm, vv, bm, vfm, vfv, vc, ps1, ps2, hP⟩ := hC
  obtain ⟨k, rfl⟩ : ∃ k : Nat, b = k := ⟨b.toNat, by omega⟩
  have hkn : k < S.s.ms.length := by omega
  obtain ⟨m, hm⟩ := get_ex hkn
  have hme : m.exp = false := by
    have h5 : actB S.s k = true := kb
    unfold actB at h5
    rw [hm] at h5
    simpa using h5
  obtain ⟨gb, c, rfl⟩ : ∃ gb c, vm = .slice (some ⟨gb, 0, none⟩) S.s.ms.length c := by
    rcases hP.ms.2 with ⟨_, h0⟩ | ⟨gb, c, _, h1, _⟩
    · omega
    · exact ⟨gb, c, h1⟩
  obtain ⟨A6, c6, rfl, hcc6, _, _⟩ := hP.ch.shape
  have hcb : w.cell? ⟨g, 3, none⟩ = some (.map (some bm)) := by rw [cell_of_row w g _ _ _ _ hP.cell]; rfl
  have hl : (Instr.lookup 78 (.map (some bm)) (.agg #[.int .i64 a, .int .i64 (k : Int)]) false).run Tryz.prog w = .ok (.bool false) w := (hP.mp.look a k ha64 hb64).trans (by rw [show S.s.votes.contains (a, (k : Int)) = false from hv])
  obtain ⟨j0, hj, hy0, hy1, hy2⟩ := info_parts Tryz.infoC
  have HJ := Lib.hid hj
  have HY0 := Lib.hid hy0
  have HY1 := Lib.hid hy1
  have HY2 := Lib.hid hy2
  have HK3 : Hid ((S.chs.length + 1) * 16 ≤ 140737488355328) := by show _ ≤ _; omega
  have HK4 : Hid (S.chs.length + 1 ≤ maxLen) := by show _ ≤ _; unfold maxLen; omega
  have HK5 : Hid (S.s.votes.length < maxLen) := by show _ < _; unfold maxLen; omega
  have HP := Lib.hid hP
  have HM := Lib.hid hm
  have HME := Lib.hid hme
  have HA64 := Lib.hid ha64
  have HB64 := Lib.hid hb64
  obtain ⟨fl, hfl⟩ : ∃ z, outB S.s a k = z := ⟨_, rfl⟩
  rw [hfl]
  have HO := Lib.hid hfl
  have HHB := Lib.hid hb
  clear hP hm hme ha64 hb64 hfl hj hy0 hy1 hy2 hv ha hb ka kb hga hgb
  go_enter Tryz.func16, Tryz.ntmps16
  go_wp2_with (first | (go_at_call 61; (first | (with_reducible refine H1.out.mono ?_) | (with_reducible refine H2.out.mono ?_)); rintro e w1 ⟨rfl, rfl⟩) | (go_at_call 59; (first | (with_reducible refine H3.out.mono ?_) | (with_reducible refine H4.out.mono ?_)); rintro e w1 ⟨rfl, rfl⟩) | ((refine wpList_updV (o := ⟨none, .mapUpdate 78 (.tmp 42) (.tmp 45) _, _, _, _, _⟩) rfl (.tmp 42) (.tmp 45) _ rfl (by rfl) HP.out.mp HK5.out a k (by rfl) (by rfl) HA64.out HB64.out ?_); intro w1 HM1 HG1; (have HP1 := Lib.hid (HP.out.addV HG1.out HM1.out)); (have HF1 := Lib.hid (one_fr HG1.out HP.out.lmp (by decide))); (have hc6 : w1.cell? ⟨g, 6, none⟩ = some (.slice A6 S.chs.length c6) := by rw [cell_of_row w1 g _ _ _ _ HP1.out.cell]; rfl); clear hcb hl) | ((refine wpList_app1 (f := fC) (o := ⟨some 56, _, _, _, _, _⟩) rfl (.tmp 50) (.tmp 55) 79 rfl 86 j0 .nilIface 16 Tryz.underlying79 HJ.out HY0.out HY1.out HY2.out rfl (.slice A6 S.chs.length c6) S.chs 0 (by rfl) HP1.out.ch (.bal a k) 1 (by rfl) fC_one HK3.out HK4.out (Nat.zero_le _) ?_); intro v2 w2 HO2 HG2 HV2; (obtain ⟨A9, c9, hv9, _, _, _⟩ := HO2.out.shape); (rw [List.length_append, List.length_singleton] at hv9); subst hv9; (have hst : w2.cell? ⟨g, 6, none⟩ = some (.slice A6 S.chs.length c6) := by rw [cell_of_row w2 g _ _ _ _ (grown_cell HP1.out HG2.out HP1.out.lch (by decide))]; rfl); (have hfr : w2.frozen? ⟨g, 6, none⟩ = false := frozen_of_row w2 g 6 _ _ (grown_cell HP1.out HG2.out HP1.out.lch (by decide))); clear hc6))
  clear hst hfr
  obtain ⟨W3, hW3⟩ : ∃ V : World, V = w2.setCell ⟨g, 6, none⟩ (.slice A9 (S.chs.length + 1) c9) := ⟨_, rfl⟩
  have hP3 := HP1.out.addC (x := .bal a k) HG2.out HO2.out HV2.out
  have hF3 := turn_fr (i := 6) (u := .slice A9 (S.chs.length + 1) c9) HG2.out HP1.out.lch (by decide) HP1.out.lg
  rw [← hW3] at hP3 hF3 ⊢
  have HP3 := Lib.hid hP3
  have HF3 := Lib.hid hF3
  have HCN : Hid (∀ V, Below W3.heap.size W3 V → Calls Tryz.prog 62 #[fG g, .int .i64 (k : Int)] V (OwnI (counting (vot1 S.s a k) k) V)) := fun V h => counting_any g _ { s := vot1 S.s a k, fm := S.fm, fv := S.fv, chs := S.chs ++ [.bal a k] } k V ⟨_, _, _, _, _, _, _, _, hP3.on h⟩ HB64.out (Nat.le_trans hn (by decide))
  have hq : W3.cell? ⟨g, 2, none⟩ = some (.int .i64 S.s.q) := by rw [cell_of_row W3 g _ _ _ _ hP3.cell]; rfl
  have HQ := Lib.hid hq
  have HGL : Hid (g < W3.heap.size) := lt_of_block hP3.cell
  clear hP3 hF3 hW3
  go_region_held3 (fun w' => w'.cell? ⟨g, 2, none⟩ = some (.int .i64 S.s.q)) (first | exact HQ4.out | exact HQ.out) ((go_at_call 62; refine (HCN.out _ (by first | exact Below.refl _ _ | exact (Below.refl _ _).drew | exact below_dN' (Below.refl _ _) _)).mono ?_; rintro e w4 ⟨v4, rfl, ho4, hb4⟩; (have HB4 : Hid (Below W3.heap.size W3 w4) := Below.trans (by first | exact Below.refl _ _ | exact (Below.refl _ _).drew | exact below_dN' (Below.refl _ _) _) (hb4.mono (by first | exact Nat.le_refl _ | exact Nat.le_of_eq rfl))); (obtain ⟨A4, c4, rfl, _, _, _⟩ := Own.shape (f := I) ho4); (have HQ4 : Hid (w4.cell? ⟨g, 2, none⟩ = some (.int .i64 S.s.q)) := (HB4.out.cell (p := ⟨g, 2, none⟩) HGL.out).trans HQ.out); clear ho4 hb4))
  have HP4 := Lib.hid (HP3.out.on HB4.out)
  have hc0 : w4.cell? ⟨g, 0, none⟩ = some (.slice (some ⟨gb, 0, none⟩) S.s.ms.length c) := by rw [cell_of_row w4 g _ _ _ _ HP4.out.cell]; rfl
  obtain ⟨hx, hxf⟩ := HP4.out.ms.cell fM_len (k := k) (j := 4) (by decide) HM.out
  replace hx : w4.cell? ⟨gb, k * 5 + 4, none⟩ = some (.bool false) := hx.trans (by rw [← HME.out]; rfl)
  have HF4 : Hid (Fr w lab w4 _) := (HF1.out.trans HF3.out).trans (Fr.of_below HB4.out)
  have hne : gb ≠ g := fun e => by
    have h5 := HP4.out.lms gb rfl
    rw [e, HP4.out.lg] at h5
    cases h5
  cases fl
  · have e7 : decide (S.s.q ≤ ((counting (vot1 S.s a k) k).length : Int)) = false := HO.out
    have e8 : ¬ S.s.q ≤ ((counting (vot1 S.s a k) k).length : Int) := of_decide_eq_false e7
    have HE : Hid (votS S.s a k = vot1 S.s a k) := by show _ = _; unfold votS; rw [HO.out]; rfl
    clear hq hcc6
    go_wp2_with fail
    go_ret2
    exact ⟨rfl, _, ⟨_, _, _, _, _, _, _, _, by rw [HE.out]; exact HP4.out⟩, HF4.out⟩
  · have e7 : decide (S.s.q ≤ ((counting (vot1 S.s a k) k).length : Int)) = true := HO.out
    have e8 : S.s.q ≤ ((counting (vot1 S.s a k) k).length : Int) := of_decide_eq_true e7
    have HE : Hid (votS S.s a k = { vot1 S.s a k with ms := expel S.s.ms k }) := by show _ = _; unfold votS; rw [HO.out]; rfl
    obtain ⟨hP5, hF5⟩ := HP4.out.outM HM.out
    have HP5 := Lib.hid hP5
    have HF5 := Lib.hid hF5
    have hc5 : (w4.setCell ⟨gb, k * 5 + 4, none⟩ (.bool true)).cell? ⟨g, 0, none⟩ = some (.slice (some ⟨gb, 0, none⟩) S.s.ms.length c) := by rw [cell_of_row _ g _ _ _ _ hP5.cell]; rfl
    clear hq hcc6 hP5 hF5
    go_wp2_with fail
    go_ret2
    exact ⟨rfl, _, ⟨_, _, _, _, _, _, _, _, by rw [HE.out]; exact HP5.out⟩, HF4.out.trans HF5.out⟩
end Go.Proofs.YtkeicjokekmkpaaGreat
