/- retention.Reasons. -/
import Derived.Test.YtfffhdclbdmfnaaKeep
namespace Go.Proofs.Ytfffhdclbdmfnaa
open Go.RowKit Ret
set_option linter.unusedVariables false
set_option linter.unusedSimpArgs false

def Int2 (v er : Int) (w : World) (e : Ending) (w' : World) : Prop := e = .returned (.tuple #[.int .i64 v, .int .i64 er]) ∧ Below w.heap.size w w'
set_option maxRecDepth 20000 in
set_option maxHeartbeats 2000000 in
theorem reasonsF_no (a b c d day : Int) (A A' : Option Addr) (n n' cp cp' : Nat) (xs ys : List Int) (w : World) (hx : Sl I w w.heap.size A n xs) (hy : Sl I w w.heap.size A' n' ys) (hn : n ≤ 100000) (hn' : n' ≤ 100000) (hb : argB a b c d xs ys = false) :
    Calls Try.prog 16 #[fR a b c d, .slice A n cp, .slice A' n' cp', .int .i64 day] w (Int2 0 1 w) := by
  have hb0 : Below w.heap.size w (w.alloc (.cells #[.int .i64 a, .int .i64 b, .int .i64 c, .int .i64 d] 23)) := (Below.refl _ _).alloc (Nat.le_refl _) _
  have HC := Lib.hid (chk_any a b c d A A' n n' cp cp' xs ys (w.alloc (.cells #[.int .i64 a, .int .i64 b, .int .i64 c, .int .i64 d] 23)) ((hx.up hb0 (Nat.le_refl _)).more' (by simp)) ((hy.up hb0 (Nat.le_refl _)).more' (by simp)) (by omega) (by omega))
  rw [argE, hb] at HC
  have HB0 := Lib.hid hb0
  clear hx hy hb hb0
  go_enter Try.func16, Try.ntmps16
  go_wp2_with fail
  refine HC.out.mono ?_
  rintro e w1 ⟨rfl, hb1⟩
  have HB1 : Hid (Below w.heap.size w w1) := HB0.out.trans (hb1.mono (by simp))
  clear hb1
  go_wp2_with fail
  go_ret2
  exact ⟨rfl, HB1.out⟩

set_option maxRecDepth 20000 in
set_option maxHeartbeats 4000000 in
theorem reasonsF_yes (nm : Nums) (h1 : nm.a ≤ 1000) (h2 : nm.b ≤ 1000) (h3 : nm.c ≤ 1000) (h4 : nm.d ≤ 1000) (day : Int) (A A' : Option Addr) (n n' cp cp' : Nat) (xs ys : List Int) (w : World) (hx : Sl I w w.heap.size A n xs) (hy : Sl I w w.heap.size A' n' ys) (hn : n ≤ 100000) (hn' : n' ≤ 100000) (hb : argB nm.a nm.b nm.c nm.d xs ys = true) :
    Calls Try.prog 16 #[fR nm.a nm.b nm.c nm.d, .slice A n cp, .slice A' n' cp', .int .i64 day] w (Int2 (if day ∈ xs then rsn nm xs ys day else 0) (if day ∈ xs then 0 else 4) w) := by
  obtain ⟨W0, hW0⟩ : ∃ W0 : World, W0 = w.alloc (.cells #[.int .i64 nm.a, .int .i64 nm.b, .int .i64 nm.c, .int .i64 nm.d] 23) := ⟨_, rfl⟩
  have hb0 : Below w.heap.size w W0 := by rw [hW0]; exact (Below.refl _ _).alloc (Nat.le_refl _) _
  have hg0 : W0.heap[w.heap.size]? = some (.cells #[.int .i64 nm.a, .int .i64 nm.b, .int .i64 nm.c, .int .i64 nm.d] 23 (0, 0)) := by rw [hW0]; exact heap_alloc_new w _
  have HX0 : Hid (Sl I W0 W0.heap.size A n xs) := (hx.up hb0 (Nat.le_refl _)).more' hb0.size
  have HY0 : Hid (Sl I W0 W0.heap.size A' n' ys) := (hy.up hb0 (Nat.le_refl _)).more' hb0.size
  have HC := Lib.hid (chk_any nm.a nm.b nm.c nm.d A A' n n' cp cp' xs ys W0 HX0.out HY0.out (by omega) (by omega))
  rw [argE, hb] at HC
  simp only [if_true] at HC
  unfold argB at hb
  simp only [Bool.and_eq_true] at hb
  obtain ⟨_, hbx, hby⟩ := hb
  have HXO : Hid (∀ x ∈ xs, okD x) := allOk hbx
  have HYO : Hid (∀ x ∈ ys, okD x) := allOk hby
  have HB0 := Lib.hid hb0
  have HG0 := Lib.hid hg0
  have hlx : xs.length = n := hx.1
  have HLX := Lib.hid hlx
  have hly : ys.length = n' := hy.1
  have HLY := Lib.hid hly
  clear hx hy hb0 hg0 hbx hby hlx hly
  obtain ⟨zs, hzs⟩ := to_days (srt xs) (fun x hx => HXO.out x ((srt_mem x xs).1 hx))
  obtain ⟨hs, hhs⟩ := to_days ys HYO.out
  have HZS := Lib.hid hzs
  have HHS := Lib.hid hhs
  have hlz : zs.length ≤ 100000 := by
    have h1 := srt_len xs
    rw [← hzs] at h1
    simp at h1
    have := HLX.out
    omega
  have hlh : hs.length = n' := by
    have := HLY.out
    rw [← hhs] at this
    simpa using this
  subst hlh
  clear hzs hhs
  by_cases hm : day ∈ xs
  · have HCN : Hid (∀ W, Sl I W W.heap.size A n xs → Calls Try.prog 30 #[.slice A n cp, .int .i64 day] W fun e w' => e = .returned (.bool true) ∧ W = w') := fun W h => by
      have := has_any A n xs cp day W _ h (by omega)
      rwa [decide_eq_true hm] at this
    have HDM : Hid (day ∈ dys zs) := by show _ ∈ _; rw [HZS.out]; exact (srt_mem day xs).2 hm
    have hyd := HXO.out day hm
    have HWF : Hid ((Lit.int .i64 day).wf = true) := int_wf (by unfold okD at hyd; omega)
    have HRS : Hid (whyF zs hs nm.a nm.b nm.c nm.d day = rsn nm xs ys day) := by
      have hz : Asc (dys zs) := by rw [HZS.out]; exact srt_asc xs
      have h := whyF_rsn zs hs nm.a nm.b nm.c nm.d hz day HDM.out
      rw [HHS.out] at h
      show _ = _
      rw [h]
      exact rsn_congr (fun x => by rw [HZS.out]; exact srt_mem x xs) day
    rw [if_pos hm, if_pos hm]
    clear hm hyd
    obtain ⟨r, hr⟩ : ∃ r, rsn nm xs ys day = r := ⟨_, rfl⟩
    rw [hr] at HRS ⊢
    clear hr
    go_enter Try.func16, Try.ntmps16
    go_wp2_with fail
    rw [← hW0]
    clear hW0
    refine HC.out.mono ?_
    rintro e w1 ⟨rfl, hb1⟩
    have HB1 : Hid (Below w.heap.size w w1) := HB0.out.trans (hb1.mono HB0.out.size)
    have HX1 := Lib.hid (HX0.out.up hb1 (Nat.le_refl _) |>.more' hb1.size)
    have HY1 := Lib.hid (HY0.out.up hb1 (Nat.le_refl _) |>.more' hb1.size)
    have HG1 : Hid (w1.heap[w.heap.size]? = some (.cells #[.int .i64 nm.a, .int .i64 nm.b, .int .i64 nm.c, .int .i64 nm.d] 23 (0, 0))) := (hb1.block _ (lt_of_block HG0.out)).trans HG0.out
    clear hb1
    go_wp2_with fail
    refine (HCN.out w1 HX1.out).mono ?_
    rintro e w' ⟨rfl, rfl⟩
    go_wp2_with fail
    have g0 := cell_of_row w1 w.heap.size 0 _ _ _ HG1.out
    have g1 := cell_of_row w1 w.heap.size 1 _ _ _ HG1.out
    have g2 := cell_of_row w1 w.heap.size 2 _ _ _ HG1.out
    have g3 := cell_of_row w1 w.heap.size 3 _ _ _ HG1.out
    simp at g0 g1 g2 g3
    have hd1 : Below w1.heap.size w1 w1.drew := (Below.refl _ _).drew
    go_region_with (first
      | (go_at_call 32; refine (set_any A n cp xs _ (HX1.out.up hd1 (Nat.le_refl _) |>.more' hd1.size) (by omega)).mono ?_; rintro e w2 ⟨v2, rfl, ho2, hb2⟩
         have hb2' := hd1.trans (hb2.mono hd1.size)
         have HB2 : Hid (Below w.heap.size w w2) := HB1.out.trans (hb2'.mono HB1.out.size)
         have HY2 := Lib.hid (HY1.out.up hb2' (Nat.le_refl _) |>.more' hb2'.size)
         have HG2 : Hid (w2.heap[w.heap.size]? = some (.cells #[.int .i64 nm.a, .int .i64 nm.b, .int .i64 nm.c, .int .i64 nm.d] 23 (0, 0))) := (hb2'.block _ (lt_of_block HG1.out)).trans HG1.out
         obtain ⟨A2, c2, rfl, hc2, hs2, _⟩ := ho2.shape
         have HLZ : Hid ((srt xs).length = zs.length) := by show _ = _; rw [← HZS.out]; simp
         have HS2 : Hid (Sl I w2 w2.heap.size A2 zs.length (dys zs)) := ⟨by simp, by rw [HZS.out]; exact hs2⟩
         rw [HLZ.out]
         have k0 := cell_of_row w2 w.heap.size 0 _ _ _ HG2.out
         have k1 := cell_of_row w2 w.heap.size 1 _ _ _ HG2.out
         have k2 := cell_of_row w2 w.heap.size 2 _ _ _ HG2.out
         have k3 := cell_of_row w2 w.heap.size 3 _ _ _ HG2.out
         simp at k0 k1 k2 k3
         clear ho2 hb2 hb2' hs2 hc2)
      | (go_at_call 31; refine (reasons_any nm.a nm.b nm.c nm.d h1 h2 h3 h4 A2 A' c2 cp' zs hs _ HS2.out (by rw [HHS.out]; exact HY2.out) hlz (by omega)).mono ?_; rintro e w3 ⟨bm, m, rfl, hm3, hb3⟩
         have HB3 : Hid (Below w.heap.size w w3) := HB2.out.trans (hb3.mono HB2.out.size)
         have hl := hm3.look (mt := 44) Try.underlying3 Try.underlying44 Try.underlying3 zeroI day HWF.out
         rw [HRS.out] at hl
         clear hm3 hb3))
    all_goals
      go_wp2
      go_ret2
      exact ⟨rfl, HB3.out⟩
  · have HCN : Hid (∀ W, Sl I W W.heap.size A n xs → Calls Try.prog 30 #[.slice A n cp, .int .i64 day] W fun e w' => e = .returned (.bool false) ∧ W = w') := fun W h => by
      have := has_any A n xs cp day W _ h (by omega)
      rwa [decide_eq_false hm] at this
    rw [if_neg hm, if_neg hm]
    clear hm
    go_enter Try.func16, Try.ntmps16
    go_wp2_with fail
    rw [← hW0]
    clear hW0
    refine HC.out.mono ?_
    rintro e w1 ⟨rfl, hb1⟩
    have HB1 : Hid (Below w.heap.size w w1) := HB0.out.trans (hb1.mono HB0.out.size)
    have HX1 := Lib.hid (HX0.out.up hb1 (Nat.le_refl _) |>.more' hb1.size)
    clear hb1
    go_wp2_with fail
    refine (HCN.out w1 HX1.out).mono ?_
    rintro e w' ⟨rfl, rfl⟩
    go_wp2_with fail
    go_ret2
    exact ⟨rfl, HB1.out⟩
end Go.Proofs.Ytfffhdclbdmfnaa
