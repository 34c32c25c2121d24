/- The law Keeps. -/
import Derived.Test.YtkeicjokekmkpaaEm
import Derived.Test.YtkeicjokekmkpaaPe
import Derived.Test.YtkeicjokekmkpaaWm
namespace Go.Proofs.Ytkeicjokekmkpaa
open Go.RowKit Mb
set_option linter.unusedVariables false
set_option linter.unusedSimpArgs false

theorem encL_rng (xs : List Int) : ∀ b ∈ encL xs, 0 ≤ b ∧ b < 256 := fun b hb => by
  unfold encL at hb
  obtain ⟨x, _, hx⟩ := List.mem_flatMap.1 hb
  exact enc_rng _ b hx
theorem app_rng {xs ys : List Int} (h : ∀ b ∈ xs, 0 ≤ b ∧ b < 256) (k : ∀ b ∈ ys, 0 ≤ b ∧ b < 256) : ∀ b ∈ xs ++ ys, 0 ≤ b ∧ b < 256 := fun b hb => by
  rcases List.mem_append.1 hb with hb | hb
  · exact h b hb
  · exact k b hb
theorem flat_rng {α : Type} {f : α → List Int} {xs : List α} (h : ∀ x, ∀ b ∈ f x, 0 ≤ b ∧ b < 256) : ∀ b ∈ xs.flatMap f, 0 ≤ b ∧ b < 256 := fun b hb => by
  obtain ⟨x, _, hx⟩ := List.mem_flatMap.1 hb
  exact h x b hx
theorem encM_rng (m : Mem) : ∀ b ∈ encM m, 0 ≤ b ∧ b < 256 := app_rng (enc_rng _) (app_rng (sB_rng _) (app_rng (sB_rng _) (encL_rng _)))
theorem encVt_rng (v : Vlt) : ∀ b ∈ encVt v, 0 ≤ b ∧ b < 256 := app_rng (enc_rng _) (app_rng (encL_rng _) (app_rng (encL_rng _) (app_rng (sB_rng _) (app_rng (encL_rng _) (encL_rng _)))))
theorem encX_rng (x : Chg) : ∀ b ∈ encX x, 0 ≤ b ∧ b < 256 := by
  cases x with
  | adm m => exact app_rng (encL_rng _) (encM_rng m)
  | bal a b => exact encL_rng _
  | rep v a b => exact encL_rng _
theorem encC_rng (S : Cst) : ∀ b ∈ encC S, 0 ≤ b ∧ b < 256 := app_rng (enc_rng _) (app_rng (flat_rng encM_rng) (app_rng (enc_rng _) (app_rng (flat_rng encVt_rng) (app_rng (encL_rng _) (app_rng (enc_rng _) (flat_rng encX_rng))))))
theorem baOf_list {xs ys : List Int} (h : (baOf xs).toList = (baOf ys).toList) : baOf xs = baOf ys := by
  rw [ByteArray.toList_eq, ByteArray.toList_eq] at h
  exact ByteArray.ext (Array.toList_inj.1 h)
theorem baOf_inj {xs ys : List Int} (hx : ∀ b ∈ xs, 0 ≤ b ∧ b < 256) (hy : ∀ b ∈ ys, 0 ≤ b ∧ b < 256) (h : baOf xs = baOf ys) : xs = ys := by
  rw [← baOf_sB hx, ← baOf_sB hy, h]
abbrev oX' (x : Chn) : Obj := .cells #[.int .i64 x.kind, .int .i64 x.m.dev, .string x.m.name, .string x.m.pub, .int .i64 x.m.quota, .bool x.m.exp, .int .i64 x.v, .int .i64 x.a, .int .i64 x.b] 53
set_option maxRecDepth 20000 in
set_option maxHeartbeats 8000000 in
theorem lawKeeps_any (A : Option Addr) (n c : Nat) (A' : Option Addr) (n' c' : Nat) (q : Int) (A'' : Option Addr) (n'' c'' : Nat) (ms : List Mem) (ps : List VP) (xs : List Chn) (w : World) (hx : InSet w A n c A' n' c' A'' n'' c'' ms ps xs) :
    Calls Try.prog 4 #[aSet A n c A' n' c' q A'' n'' c''] w (BoolB true w) := by
  obtain ⟨W, hW⟩ : ∃ W : World, W = w.alloc (oSet A n c A' n' c' q A'' n'' c'') := ⟨_, rfl⟩
  have hB : Below w.heap.size w W := by rw [hW]; exact (Below.refl _ _).alloc (Nat.le_refl _) _
  have hG : W.heap[w.heap.size]? = some (oSet A n c A' n' c' q A'' n'' c'') := by rw [hW]; exact heap_alloc_new w _
  have HX := Lib.hid (hx.on hB)
  have HB := Lib.hid hB
  have HG := Lib.hid hG
  have HW := Lib.hid hW
  have HGL := Lib.hid (lt_of_block hG)
  clear hx hB hG hW
  go_enter Try.func4, Try.ntmps4
  go_wp2_with fail
  refine (show Calls Try.prog 6 _ _ (BoolB true W) from HW.out ▸ awake_any W).mono ?_
  rintro e w1 ⟨rfl, hb⟩
  have HB1 : Hid (Below W.heap.size W w1) := hb
  obtain ⟨s0, s1, s2, s3⟩ := four_of ((hb.block _ HGL.out).trans HG.out)
  clear hb
  go_wp2_with fail
  refine (small_any A n c A' n' c' q A'' n'' c'' w1).mono ?_
  rintro e w2 ⟨rfl, hb⟩
  have HB2 : Hid (Below W.heap.size W w2) := HB1.out.trans (hb.mono HB1.out.size)
  clear hb s0 s1 s2 s3
  obtain ⟨sm, hsm⟩ : ∃ z, smallB n n' n'' = z := ⟨_, rfl⟩
  rw [hsm]
  cases sm
  · clear hsm
    go_wp2_with fail
    go_ret
    exact ⟨rfl, HB.out.trans (HB2.out.mono HB.out.size)⟩
  have hn : n ≤ 14 ∧ n' ≤ 14 ∧ n'' ≤ 40 := by unfold smallB at hsm; simpa using hsm
  obtain ⟨hn1, hn2, hn3⟩ := hn
  clear hsm
  have HX2 := Lib.hid (HX.out.on HB2.out)
  have HN := Lib.hid (new_set q HX2.out)
  obtain ⟨s0, s1, s2, s3⟩ := four_of ((HB2.out.block _ HGL.out).trans HG.out)
  go_wp2_with fail
  refine HN.out.mono ?_
  rintro e w3 h1
  clear s0 s1 s2 s3
  rcases h1 with ⟨h0, h1⟩ | ⟨h0, h1, h2⟩
  · obtain ⟨g, lab0, rfl, hC, hl, _, hb⟩ := h1.cir
    have HI0 : Hid (Inv (S0 ms ps q).s) := newE_inv h0
    have HE0 : Hid (EInv (S0 ms ps q)) := newE_einv h0
    have HL0 : Hid (∀ k, k < w2.heap.size → lab0 k = 0) := hl
    have HC0 : Hid (Cir w3 lab0 g (S0 ms ps q)) := hC
    have HB3 : Hid (Below w2.heap.size w2 w3) := hb
    clear h1 hC hl hb h0
    go_wp2_with fail
    go_loopw [5] (fun i wr => ∃ (k : Nat) (lab : Nat → Nat), k ≤ n'' ∧ i = .int .i64 k ∧ Hid (Cir wr lab g (playsC (S0 ms ps q) (xs.take k))) ∧ Hid (Fr w3 lab0 wr lab)) (fun i _ => n'' - (intOf i).toNat)
    case atStart => exact ⟨0, lab0, Nat.zero_le _, rfl, HC0, Fr.refl _ _⟩
    case round =>
      obtain ⟨k, lab, hk, rfl, HC, HF⟩ := hrel
      have HBk2 : Hid (Below w2.heap.size w2 wr) := HB3.out.trans (HF.out.below HB3.out.size HL0.out)
      have HBk : Hid (Below W.heap.size W wr) := HB2.out.trans (HBk2.out.mono HB2.out.size)
      obtain ⟨s0, s1, s2, s3⟩ := four_of ((HBk.out.block _ HGL.out).trans HG.out)
      by_cases hlt : k < n''
      · have hXk := HX.out.on HBk.out
        obtain ⟨b, off, x, hA'', hbB, hxk, hcell⟩ := hXk.fxs.at_ hlt
        subst hA''
        have HXZ := Lib.hid (hXk.xz x (List.mem_of_getElem? hxk))
        have HTK : Hid (playsC (S0 ms ps q) (xs.take (k + 1)) = playC (playsC (S0 ms ps q) (xs.take k)) x) := by show _ = _; rw [take_snoc hxk, playsC_snoc]
        obtain ⟨S, hS⟩ : ∃ S, playsC (S0 ms ps q) (xs.take k) = S := ⟨_, rfl⟩
        have hlen : (xs.take k).length ≤ 40 := by rw [List.length_take]; omega
        have HCH : Hid (S.chs.length ≤ 40) := by show _ ≤ _; have := playsC_chs (S0 ms ps q) (xs.take k); rw [hS] at this; simp at this; omega
        have HVL : Hid (S.s.votes.length ≤ 40) := by show _ ≤ _; have := playsC_votes (S0 ms ps q) (xs.take k); rw [hS] at this; simp at this; omega
        have HIV : Hid (Inv S.s) := hS ▸ playsC_inv HI0.out (xs.take k)
        have HIE : Hid (EInv S) := hS ▸ playsC_einv HE0.out HI0.out (xs.take k)
        rw [hS] at HC HTK
        have HXC : Hid (∀ j v, (fX x)[j]? = some v → wr.cell? ⟨b, off + (k * 9 + j), none⟩ = some v) := hcell
        have HBB : Hid (b < wr.heap.size) := hbB
        clear hXk hcell hxk hlen hbB hS
        go_wp2_with fail
        refine (encode_any g lab S wr HC.out HIE.out (Nat.le_trans HCH.out (by decide))).mono ?_
        rintro e w5 ⟨A6, n6, c6, rfl, _, ho, hb⟩
        have HC5 := Lib.hid (HC.out.on hb)
        have HB5 : Hid (Below wr.heap.size wr w5) := hb
        obtain ⟨z0, hz0⟩ : ∃ s, s = baOf (encC S) := ⟨_, rfl⟩
        have HZ0 := Lib.hid hz0
        have hcv : (convert 41 9 (.slice A6 n6 c6)).run Try.prog w5 = .ok (.string z0) w5 := by
          rw [hz0]; exact run_conv_sl (P := Try.prog) 41 5 9 Try.underlying41 Try.underlying5 Try.underlying9 w5 _ A6 n6 c6 _ ho
        obtain ⟨t0, t1, t2, t3⟩ := four_of (((HBk.out.trans (HB5.out.mono HBk.out.size)).block _ HGL.out).trans HG.out)
        obtain ⟨c0, c1, c2, c3, c4, c5, cc6, c7, c8⟩ := nine (fun j v hv => (hb.cell (p := ⟨b, off + (k * 9 + j), none⟩) HBB.out).trans (HXC.out j v hv))
        have HPL := Lib.hid (play_any g lab S x w5 HC5.out HIV.out (Nat.le_trans HCH.out (by decide)) (Nat.le_trans HVL.out (by decide)) HXZ.out.1 HXZ.out.2)
        clear ho hb s0 s1 s2 s3 hz0
        go_wp2_with fail
        refine HPL.out.mono ?_
        rintro e w7 ⟨rfl, lab7, hC7, hF7⟩
        obtain ⟨bd, hbd⟩ : ∃ z, playB S.s x = z := ⟨_, rfl⟩
        rw [hbd]
        unfold votR
        have HC7 := Lib.hid hC7
        have HF7 : Hid (Fr w3 lab0 w7 lab7) := (HF.out.trans (Fr.of_below HB5.out)).trans hF7
        have HI7 : Hid (Inv (playC S x).s) := playS_inv HIV.out
        have HE7 : Hid (EInv (playC S x)) := playC_einv HIE.out HIV.out
        have HCH7 : Hid ((playC S x).chs.length ≤ 41) := by
          show _ ≤ _
          have h1 := chgs_le S.s x
          have h2 : (playC S x).chs.length = S.chs.length + (chgs S.s x).length := by simp [playC]
          have := HCH.out
          omega
        have HBW7 : Hid (Below W.heap.size W w7) := HB2.out.trans ((HB3.out.trans (HF7.out.below HB3.out.size HL0.out)).mono HB2.out.size)
        clear hC7 hF7 hbd t0 t1 t2 t3 c0 c1 c2 c3 c4 c5 cc6 c7 c8 hcv
        have HEN := Lib.hid (encode_any g lab7 (playC S x) w7 HC7.out HE7.out (Nat.le_trans HCH7.out (by decide)))
        by_cases hpe : playE S.s x = 0
        · have HNE : Hid (((baOf (encC (playC S x))).toList == z0.toList) = false) := by
            show _ = _
            simp only [beq_eq_false_iff_ne, ne_eq]
            intro h
            rw [HZ0.out] at h
            exact encC_turn hpe (by have := HCH.out; omega) (baOf_inj (encC_rng _) (encC_rng _) (baOf_list h))
          rw [hpe]
          clear hpe
          go_wp2_with fail
          refine HEN.out.mono ?_
          rintro e w8 ⟨A8, n8, c8, rfl, _, ho, hb⟩
          obtain ⟨z1, hz1⟩ : ∃ s, s = baOf (encC (playC S x)) := ⟨_, rfl⟩
          have hcv : (convert 41 9 (.slice A8 n8 c8)).run Try.prog w8 = .ok (.string z1) w8 := by
            rw [hz1]; exact run_conv_sl (P := Try.prog) 41 5 9 Try.underlying41 Try.underlying5 Try.underlying9 w8 _ A8 n8 c8 _ ho
          have hne : (z1.toList == z0.toList) = false := hz1 ▸ HNE.out
          have HTC : Hid (Cir w8 lab7 g (playsC (S0 ms ps q) (xs.take (k + 1)))) := by show Cir _ _ _ _; rw [HTK.out]; exact HC7.out.on hb
          have HF8 : Hid (Fr w3 lab0 w8 lab7) := HF7.out.trans (Fr.of_below hb)
          clear ho hb hz1
          go_wp2_with fail
          go_roundw
          case rel => exact ⟨k + 1, lab7, by omega, by go_num, HTC, HF8⟩
          case measure => simp [intOf]; omega
        · have hpb : (playE S.s x == 0) = false := by simpa using hpe
          have HSS : Hid (playC S x = S) := playC_no hpe
          obtain ⟨pe, hpe2⟩ : ∃ z, playE S.s x = z := ⟨_, rfl⟩
          rw [hpe2] at hpb ⊢
          clear hpe hpe2
          go_wp2_with fail
          refine HEN.out.mono ?_
          rintro e w8 ⟨A8, n8, c8, rfl, _, ho, hb⟩
          rw [HSS.out] at ho
          have hcv : (convert 41 9 (.slice A8 n8 c8)).run Try.prog w8 = .ok (.string z0) w8 := by
            rw [HZ0.out]; exact run_conv_sl (P := Try.prog) 41 5 9 Try.underlying41 Try.underlying5 Try.underlying9 w8 _ A8 n8 c8 _ ho
          have hzz : (z0.toList == z0.toList) = true := by simp
          have HTC : Hid (Cir w8 lab7 g (playsC (S0 ms ps q) (xs.take (k + 1)))) := by show Cir _ _ _ _; rw [HTK.out]; exact HC7.out.on hb
          have HF8 : Hid (Fr w3 lab0 w8 lab7) := HF7.out.trans (Fr.of_below hb)
          clear ho hb
          go_wp2_with fail
          go_roundw
          case rel => exact ⟨k + 1, lab7, by omega, by go_num, HTC, HF8⟩
          case measure => simp [intOf]; omega
      · obtain rfl : k = n'' := by omega
        go_wp2_with fail
        go_ret
        exact ⟨rfl, HB.out.trans (HBk.out.mono HB.out.size)⟩
  · subst h1
    have HE := Lib.hid h0
    have HB3 : Hid (Below W.heap.size W w3) := HB2.out.trans (h2.mono HB2.out.size)
    obtain ⟨s0, s1, s2, s3⟩ := four_of ((HB3.out.block _ HGL.out).trans HG.out)
    have he0 : (newE ms (ps.map Prod.fst) q == 0) = false := by simpa using h0
    clear h2 h0
    go_wp2_with fail
    go_loopw [5] (fun i wr => i = .int .i64 0 ∧ wr = w3) (fun _ _ => 0)
    case atStart => exact ⟨rfl, rfl⟩
    case round =>
      obtain ⟨rfl, rfl⟩ := hrel
      by_cases hz : n'' = 0
      · subst hz
        go_wp2_with fail
        go_ret
        exact ⟨rfl, HB.out.trans (HB3.out.mono HB.out.size)⟩
      · have hz' : (0 : Int) < (n'' : Int) := by omega
        go_wp2_with fail
        go_ret
        exact ⟨rfl, HB.out.trans (HB3.out.mono HB.out.size)⟩
end Go.Proofs.Ytkeicjokekmkpaa
