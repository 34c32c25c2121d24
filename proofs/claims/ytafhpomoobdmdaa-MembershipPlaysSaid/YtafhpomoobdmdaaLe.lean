/- The law Expels. -/
import Derived.Test.YtafhpomoobdmdaaBu
namespace Go.Proofs.Ytafhpomoobdmdaa
open Go.RowKit Mb
set_option linter.unusedVariables false
set_option linter.unusedSimpArgs false

theorem Try.sizeX : (Try.prog.info? 37).map (·.size) = some 9 := by kernel_rfl
abbrev cX (x : Chn) : Array Value := #[.int .i64 x.kind, .int .i64 x.m.dev, .string x.m.name, .string x.m.pub, .int .i64 x.m.quota, .bool x.m.exp, .int .i64 x.v, .int .i64 x.a, .int .i64 x.b]
theorem cX_one (x : Chn) : (cX x).all (·.oneCell') = true := by
  rw [Array.all_eq_true']
  intro u hu
  simp only [cX, List.mem_toArray, List.mem_cons, List.not_mem_nil, or_false] at hu
  rcases hu with rfl | rfl | rfl | rfl | rfl | rfl | rfl | rfl | rfl <;> rfl
abbrev oX (x : Chn) : Obj := .cells (cX x) 37
theorem nine_of {w : World} {b : Nat} {x : Chn} (h : w.heap[b]? = some (oX x)) :
    w.cell? ⟨b, 0, none⟩ = some (.int .i64 x.kind) ∧ w.cell? ⟨b, 1, none⟩ = some (.int .i64 x.m.dev) ∧ w.cell? ⟨b, 2, none⟩ = some (.string x.m.name) ∧ w.cell? ⟨b, 3, none⟩ = some (.string x.m.pub) ∧ w.cell? ⟨b, 4, none⟩ = some (.int .i64 x.m.quota) ∧ w.cell? ⟨b, 5, none⟩ = some (.bool x.m.exp) ∧ w.cell? ⟨b, 6, none⟩ = some (.int .i64 x.v) ∧ w.cell? ⟨b, 7, none⟩ = some (.int .i64 x.a) ∧ w.cell? ⟨b, 8, none⟩ = some (.int .i64 x.b) := by
  refine ⟨?_, ?_, ?_, ?_, ?_, ?_, ?_, ?_, ?_⟩ <;> (rw [cell_of_row w b _ _ _ _ h]; rfl)
/-- What a row's own block is, behind a change of a circle. -/
theorem OwnN.fr {α : Type} {f : α → List Value} {s : Nat} {e : TypeId} {w w' : World} {lab lab' : Nat → Nat} {base : Nat} {v : Value} {xs : List α} (h : OwnN f s e w base v xs) (hf : Fr w lab w' lab') (h0 : ∀ k, v.ownBlock = some k → lab k = 0) : OwnN f s e w' base v xs :=
  h.same fun k hk => hf.block k (World.ownsRow.lt h k hk).2 (h0 k hk)
theorem actB_get {S : St} {d : Nat} {m : Mem} (h : S.ms[d]? = some m) : m.exp = !actB S d := by unfold actB; rw [h]; simp
set_option maxRecDepth 20000 in
set_option maxHeartbeats 8000000 in
theorem lawExpels_any (A : Option Addr) (n c : Nat) (A' : Option Addr) (n' c' : Nat) (q : Int) (A'' : Option Addr) (n'' c'' : Nat) (ms : List Mem) (ps : List VP) (xs : List Chn) (w : World) (hx : InSet w A n c A' n' c' A'' n'' c'' ms ps xs) :
    Calls Try.prog 3 #[aSet A n c A' n' c' q A'' n'' c''] w (BoolB true w) := by
  obtain ⟨W, hW⟩ : ∃ W : World, W = w.alloc (oSet A n c A' n' c' q A'' n'' c'') := ⟨_, rfl⟩
  have hB : Below w.heap.size w W := by rw [hW]; exact (Below.refl _ _).alloc (Nat.le_refl _) _
  have hG : W.heap[w.heap.size]? = some (oSet A n c A' n' c' q A'' n'' c'') := by rw [hW]; exact heap_alloc_new w _
  have HX := Lib.hid (hx.on hB)
  have HB := Lib.hid hB
  have HG := Lib.hid hG
  have HW := Lib.hid hW
  have HGL := Lib.hid (lt_of_block hG)
  clear hx hB hG hW
  go_enter Try.func3, Try.ntmps3
  go_wp2_with fail
  refine (show Calls Try.prog 7 _ _ (BoolB true W) from HW.out ▸ awake_any W).mono ?_
  rintro e w1 ⟨rfl, hb⟩
  have HB1 : Hid (Below W.heap.size W w1) := hb
  obtain ⟨s0, s1, s2, s3⟩ := four_of ((hb.block _ HGL.out).trans HG.out)
  clear hb
  go_wp2_with fail
  refine (small_any A n c A' n' c' q A'' n'' c'' w1).mono ?_
  rintro e w2 ⟨rfl, hb⟩
  have HB2 : Hid (Below W.heap.size W w2) := HB1.out.trans (hb.mono HB1.out.size)
  clear hb s0 s1 s2 s3
  obtain ⟨sm, hsm⟩ : ∃ z, smallB n n' n'' = z := ⟨_, rfl⟩
  rw [hsm]
  cases sm
  · clear hsm
    go_wp2_with fail
    go_ret
    exact ⟨rfl, HB.out.trans (HB2.out.mono HB.out.size)⟩
  have hn : n ≤ 14 ∧ n' ≤ 14 ∧ n'' ≤ 40 := by unfold smallB at hsm; simpa using hsm
  obtain ⟨hn1, hn2, hn3⟩ := hn
  clear hsm
  have HX2 := Lib.hid (HX.out.on HB2.out)
  have HN := Lib.hid (new_set q HX2.out)
  obtain ⟨s0, s1, s2, s3⟩ := four_of ((HB2.out.block _ HGL.out).trans HG.out)
  go_wp2_with fail
  refine HN.out.mono ?_
  rintro e w3 h1
  clear s0 s1 s2 s3
  rcases h1 with ⟨h0, h1⟩ | ⟨h0, h1, h2⟩
  · obtain ⟨g, lab0, rfl, hC, hl, _, hb⟩ := h1.cir
    have HI0 : Hid (Inv (S0 ms ps q).s) := newE_inv h0
    have HL0 : Hid (∀ k, k < w2.heap.size → lab0 k = 0) := hl
    have HC0 : Hid (Cir w3 lab0 g (S0 ms ps q)) := hC
    have HB3 : Hid (Below w2.heap.size w2 w3) := hb
    clear h1 hC hl hb h0
    go_wp2_with fail
    go_loopw [5] (fun i wr => ∃ (k : Nat) (lab : Nat → Nat), k ≤ n'' ∧ i = .int .i64 k ∧ Hid (Cir wr lab g (playsC (S0 ms ps q) (xs.take k))) ∧ Hid (Fr w3 lab0 wr lab)) (fun i _ => n'' - (intOf i).toNat)
    case atStart => exact ⟨0, lab0, Nat.zero_le _, rfl, HC0, Fr.refl _ _⟩
    case round =>
      obtain ⟨k, lab, hk, rfl, HC, HF⟩ := hrel
      have HBk2 : Hid (Below w2.heap.size w2 wr) := HB3.out.trans (HF.out.below HB3.out.size HL0.out)
      have HBk : Hid (Below W.heap.size W wr) := HB2.out.trans (HBk2.out.mono HB2.out.size)
      obtain ⟨s0, s1, s2, s3⟩ := four_of ((HBk.out.block _ HGL.out).trans HG.out)
      by_cases hlt : k < n''
      · have hXk := HX.out.on HBk.out
        obtain ⟨b, off, x, hA'', hbB, hxk, hcell⟩ := hXk.fxs.at_ hlt
        subst hA''
        have HXZ := Lib.hid (hXk.xz x (List.mem_of_getElem? hxk))
        have HTK : Hid (playsC (S0 ms ps q) (xs.take (k + 1)) = playC (playsC (S0 ms ps q) (xs.take k)) x) := by show _ = _; rw [take_snoc hxk, playsC_snoc]
        obtain ⟨S, hS⟩ : ∃ S, playsC (S0 ms ps q) (xs.take k) = S := ⟨_, rfl⟩
        have hlen : (xs.take k).length ≤ 40 := by rw [List.length_take]; omega
        have HCH : Hid (S.chs.length ≤ 40) := by show _ ≤ _; have := playsC_chs (S0 ms ps q) (xs.take k); rw [hS] at this; simp at this; omega
        have HVL : Hid (S.s.votes.length ≤ 40) := by show _ ≤ _; have := playsC_votes (S0 ms ps q) (xs.take k); rw [hS] at this; simp at this; omega
        have HIV : Hid (Inv S.s) := hS ▸ playsC_inv HI0.out (xs.take k)
        have HSQ : Hid (S.s.q = q) := by show _ = _; rw [← hS, playsC_s, plays_q]
        rw [hS] at HC HTK
        have HXC : Hid (∀ j v, (fX x)[j]? = some v → wr.cell? ⟨b, off + (k * 9 + j), none⟩ = some v) := hcell
        have HBB : Hid (b < wr.heap.size) := hbB
        clear hXk hcell hxk hlen hbB hS
        go_wp2_with fail
        refine (members_cir g lab S wr HC.out (Nat.le_trans HIV.out.n12 (by decide))).mono ?_
        rintro e w5 ⟨v6, rfl, ho, hb⟩
        have HC5 := Lib.hid (HC.out.on hb)
        have HB5 : Hid (Below wr.heap.size wr w5) := hb
        have HO6 : Hid (OwnN fM 5 35 w5 wr.heap.size v6 S.s.ms) := ho
        obtain ⟨A6, c6, hv6, _, _, _⟩ := ho.shape fM_len
        subst hv6
        have HL6 : Hid (∀ j, (Value.slice A6 S.s.ms.length c6).ownBlock = some j → lab j = 0) := fun j hj => HC.out.top j (World.ownsRow.lt HO6.out j hj).1
        obtain ⟨t0, t1, t2, t3⟩ := four_of (((HBk.out.trans (HB5.out.mono HBk.out.size)).block _ HGL.out).trans HG.out)
        obtain ⟨c0, c1, c2, c3, c4, c5, cc6, c7, c8⟩ := nine (fun j v hv => (hb.cell (p := ⟨b, off + (k * 9 + j), none⟩) HBB.out).trans (HXC.out j v hv))
        obtain ⟨w6, hw6⟩ : ∃ V : World, V = w5.alloc (oX x) := ⟨_, rfl⟩
        have HW6 := Lib.hid hw6
        have HB6 : Hid (Below w5.heap.size w5 w6) := by show Below _ _ _; rw [hw6]; exact (Below.refl _ _).alloc (Nat.le_refl _) _
        have HG6 : Hid (w6.heap[w5.heap.size]? = some (oX x)) := by show _ = _; rw [hw6]; exact heap_alloc_new w5 _
        have HPL := Lib.hid (play_any g lab S x w6 (HC5.out.on HB6.out) HIV.out (Nat.le_trans HCH.out (by decide)) (Nat.le_trans HVL.out (by decide)) HXZ.out.1 HXZ.out.2)
        clear ho hb hw6 s0 s1 s2 s3
        go_wp2_with (refine wpList_store_new (o := ⟨none, .store 37 (.tmp 7) (.tmp 47), _, _, _, _⟩) rfl 37 (.tmp 7) (.tmp 47) rfl 37 _ (cX x) rfl rfl Try.sizeX rfl (cX_one _) ?_)
        refine (show Calls Try.prog 11 _ _ (MutP (playC S x) lab g (votR (playB S.s x) (playE S.s x)) w6) from HW6.out ▸ HPL.out).mono ?_
        rintro e w7 ⟨rfl, lab7, hC7, hF7⟩
        obtain ⟨bd, hbd⟩ : ∃ z, playB S.s x = z := ⟨_, rfl⟩
        obtain ⟨pe, hpe⟩ : ∃ z, playE S.s x = z := ⟨_, rfl⟩
        rw [hbd, hpe]
        unfold votR
        have HBD := Lib.hid hbd
        have HPE := Lib.hid hpe
        have HC7 := Lib.hid hC7
        have HF7 : Hid (Fr w3 lab0 w7 lab7) := ((HF.out.trans (Fr.of_below HB5.out)).trans (Fr.of_below HB6.out)).trans hF7
        have HTC : Hid (Cir w7 lab7 g (playsC (S0 ms ps q) (xs.take (k + 1)))) := by show Cir _ _ _ _; rw [HTK.out]; exact hC7
        have HI7 : Hid (Inv (playC S x).s) := playS_inv HIV.out
        have HO7 : Hid (OwnN fM 5 35 w7 wr.heap.size (.slice A6 S.s.ms.length c6) S.s.ms) := (HO6.out.on HB6.out).fr hF7 HL6.out
        have HG7 : Hid (w7.heap[w5.heap.size]? = some (oX x)) := (hF7.block _ (lt_of_block HG6.out) (HC5.out.top _ (Nat.le_refl _))).trans HG6.out
        have HBW7 : Hid (Below W.heap.size W w7) := HB2.out.trans ((HB3.out.trans (HF7.out.below HB3.out.size HL0.out)).mono HB2.out.size)
        clear hC7 hF7 hbd hpe t0 t1 t2 t3 c0 c1 c2 c3 c4 c5 cc6 c7 c8
        go_wp2_with fail
        refine (members_cir g lab7 (playC S x) w7 HC7.out (Nat.le_trans HI7.out.n12 (by decide))).mono ?_
        rintro e w8 ⟨v10, rfl, ho, hb⟩
        obtain ⟨A10, c10, hv10, _, _, _⟩ := ho.shape fM_len
        subst hv10
        have HO10 : Hid (OwnN fM 5 35 w8 w7.heap.size (.slice A10 (playC S x).s.ms.length c10) (playC S x).s.ms) := ho
        have HB8 : Hid (Below w7.heap.size w7 w8) := hb
        have HC8 := Lib.hid (HC7.out.on hb)
        have HO8 := Lib.hid (HO7.out.on hb)
        have HG8 : Hid (w8.heap[w5.heap.size]? = some (oX x)) := (hb.block _ (lt_of_block HG7.out)).trans HG7.out
        have HBW8 : Hid (Below W.heap.size W w8) := HBW7.out.trans (hb.mono HBW7.out.size)
        have hge0 : S.s.ms.length ≤ (playC S x).s.ms.length := playS_ge
        have hge : ¬ ((playC S x).s.ms.length : Int) < (S.s.ms.length : Int) := by omega
        have hge' : decide ((playC S x).s.ms.length < S.s.ms.length) = false := by simp; omega
        clear ho hb
        go_wp2_with fail
        clear hge hge'
        have hn12 : S.s.ms.length ≤ 12 := HIV.out.n12
        go_loopw [11] (fun i w' => ∃ d : Nat, d ≤ S.s.ms.length ∧ i = .int .i64 d ∧ Hid (Below w8.heap.size w8 w')) (fun i _ => S.s.ms.length - (intOf i).toNat)
        case atStart => exact ⟨0, Nat.zero_le _, rfl, Below.refl _ _⟩
        case round =>
          obtain ⟨d, hd, rfl, HBr⟩ := hrel
          by_cases hlt2 : d < S.s.ms.length
          · have hlt3 : d < (playC S x).s.ms.length := Nat.lt_of_lt_of_le hlt2 hge0
            have hhas : hasB (playC S x).s d = true := hasB_iff.2 ⟨by omega, by omega⟩
            have HVO := Lib.hid (votes_yes g lab7 (playC S x) d wr (HC8.out.on HBr.out) (Nat.le_trans HI7.out.n12 (by decide)) hhas)
            obtain ⟨m, hm⟩ := get_ex hlt2
            obtain ⟨m', hm'⟩ := get_ex hlt3
            have HM1 : Hid (m.exp = !actB S.s d) := actB_get hm
            have HM2 : Hid (m'.exp = !actB (playC S x).s d) := actB_get hm'
            have HNOW : Hid (actB (playC S x).s d = (actB S.s d && !(bd && decide (x.b = d)))) := by show _ = _; rw [← HBD.out]; exact play_now HIV.out hlt2
            have HFEW : Hid (actB (playC S x).s d = true → ((counting (playC S x).s d).length : Int) < q) := fun h => by have h5 := HI7.out.few d hlt3 h; rwa [show (playC S x).s.q = q from (playS_q).trans HSQ.out] at h5
            have HK2 : Hid (bd = true → x.kind = 2) := fun h => by
              have h5 := HBD.out
              rw [h] at h5
              unfold playB at h5
              simp only [Bool.and_eq_true, decide_eq_true_eq] at h5
              exact h5.1
            have HHIT : Hid (bd = true → x.b = d → pe = 0 ∧ q ≤ ((counting (playC S x).s d).length : Int) ∧ x.a ∈ counting (playC S x).s d ∧ actB S.s d = true) := fun h h' => by
              have h5 := play_now' HIV.out hlt2 (HBD.out.trans h) h'
              refine ⟨HPE.out ▸ h5.1, by rw [← HSQ.out]; exact h5.2.1, h5.2.2, ?_⟩
              have h6 := HBD.out.trans h
              unfold playB at h6
              simp only [Bool.and_eq_true, decide_eq_true_eq] at h6
              have h7 := (votE_ok h6.2.1).2.2.2.2.1
              unfold actI at h7
              rwa [h', show ((d : Nat) : Int).toNat = d by omega] at h7
            -- cells
            obtain ⟨A6', c6', e6, _, hs6, _⟩ := (HO8.out.on HBr.out).shape fM_len
            obtain ⟨rfl, rfl⟩ : A6 = A6' ∧ c6 = c6' := by simpa using e6
            obtain ⟨A10', c10', e10, _, hs10, _⟩ := (HO10.out.on HBr.out).shape fM_len
            obtain ⟨rfl, rfl⟩ : A10 = A10' ∧ c10 = c10' := by simpa using e10
            have HS6 := Lib.hid hs6
            have HS10 := Lib.hid hs10
            clear e6 e10 hs6 hs10 hhas
            go_wp2_with fail
            refine HVO.out.mono ?_
            rintro e w9 ⟨v12, rfl, ho, hb⟩
            obtain ⟨A12, c12, hv12, _, hs12, _⟩ := Own.shape (f := I) ho
            subst hv12
            have HB9 : Hid (Below w8.heap.size w8 w9) := HBr.out.trans (hb.mono HBr.out.size)
            have HIN : Hid (Calls Try.prog 13 #[.slice A12 (counting (playC S x).s d).length c12, .int .i64 x.a] w9 fun e w' => e = .returned (.bool ((counting (playC S x).s d).contains x.a)) ∧ w9 = w') := inI_any A12 _ (counting (playC S x).s d) c12 x.a w9 _ ⟨rfl, hs12⟩ (by
              have h5 := HI7.out.n12
              have h6 : (counting (playC S x).s d).length ≤ (playC S x).s.ms.length := by
                unfold counting
                rw [List.length_map]
                have := List.length_filter_le (fun v => actB (playC S x).s v && votedB (playC S x).s v d) (List.range (playC S x).s.ms.length)
                rwa [List.length_range] at this
              omega)
            obtain ⟨b6, o6, mm, e6, hb6, hm6, hc6⟩ := HS6.out.at_ hlt2
            obtain rfl : mm = m := Option.some.inj (hm6.symm.trans hm)
            obtain ⟨b10, o10, mm', e10, hb10, hm10, hc10⟩ := HS10.out.at_ hlt3
            obtain rfl : mm' = m' := Option.some.inj (hm10.symm.trans hm')
            have hc64 := (five (fun j v hv => (hb.cell (p := ⟨b6, o6 + (d * 5 + j), none⟩) hb6).trans (hc6 j v hv))).2.2.2.2
            have hc104 := (five (fun j v hv => (hb.cell (p := ⟨b10, o10 + (d * 5 + j), none⟩) hb10).trans (hc10 j v hv))).2.2.2.2
            subst e6 e10
            have hgx := (HB9.out.block _ (lt_of_block HG8.out)).trans HG8.out
            obtain ⟨x0, _, _, _, _, _, _, x7, x8⟩ := nine_of hgx
            obtain ⟨_, _, t2, _⟩ := four_of ((HBW8.out.trans (HB9.out.mono HBW8.out.size)).block _ HGL.out |>.trans HG.out)
            obtain ⟨be, hbe⟩ : ∃ z, mm.exp = z := ⟨_, rfl⟩
            obtain ⟨ae, hae⟩ : ∃ z, mm'.exp = z := ⟨_, rfl⟩
            rw [hbe] at hc64 HM1
            rw [hae] at hc104 HM2
            obtain ⟨L, hL⟩ : ∃ z, (counting (playC S x).s d).length = z := ⟨_, rfl⟩
            rw [hL] at HFEW HHIT HIN ⊢
            clear ho hb hs12 hb6 hb10 hm6 hm10 hc6 hc10 hm hm' hgx hbe hae hL
            cases bd
            · obtain rfl : ae = be := by
                have h1 := HM1.out
                have h2 := HM2.out
                rw [HNOW.out] at h2
                rw [h1, h2]; simp
              cases ae
              · have hlq : (L : Int) < q := HFEW.out (by have h2 := HM2.out; revert h2; cases actB (playC S x).s d <;> intro h2 <;> first | rfl | cases h2)
                have f1 : decide (q ≤ (L : Int)) = false := by simp; omega
                have f2 : ¬ q ≤ (L : Int) := by omega
                go_wp2_with fail
                go_roundw
                case rel => exact ⟨d + 1, by omega, by go_num, HB9⟩
                case measure => simp [intOf]; omega
              · go_wp2_with fail
                go_roundw
                case rel => exact ⟨d + 1, by omega, by go_num, HB9⟩
                case measure => simp [intOf]; omega
            · have hk2 : (x.kind == 2) = true := by simp [HK2.out rfl]
              by_cases hbb : x.b = d
              · have hbb' : (x.b == (d : Int)) = true := by simp [hbb]
                obtain ⟨rfl, h6, h7, h8⟩ := HHIT.out rfl hbb
                obtain rfl : be = false := by have h1 := HM1.out; rw [h8] at h1; simpa using h1
                obtain rfl : ae = true := by have h2 := HM2.out; rw [HNOW.out, h8] at h2; simpa [hbb] using h2
                have f1 : decide ((L : Int) < q) = false := by simp; omega
                have f2 : ¬ (L : Int) < q := by omega
                have HINT : Hid (Calls Try.prog 13 #[.slice A12 L c12, .int .i64 x.a] w9 fun e w' => e = .returned (.bool true) ∧ w9 = w') := by
                  show Calls _ _ _ _ _
                  rw [← show (counting (playC S x).s d).contains x.a = true from by simpa using h7]
                  exact HIN.out
                clear h6 h7 h8 hbb
                go_wp2_with ((go_at_call 13; refine HINT.out.mono ?_; rintro e w10 ⟨rfl, rfl⟩))
                go_roundw
                case rel => exact ⟨d + 1, by omega, by go_num, HB9⟩
                case measure => simp [intOf]; omega
              · have hbb' : (x.b == (d : Int)) = false := by simp [hbb]
                obtain rfl : ae = be := by
                  have h1 := HM1.out
                  have h2 := HM2.out
                  rw [HNOW.out] at h2
                  rw [h1, h2]; simp [hbb]
                clear hbb
                cases ae
                · have hlq : (L : Int) < q := HFEW.out (by have h2 := HM2.out; revert h2; cases actB (playC S x).s d <;> intro h2 <;> first | rfl | cases h2)
                  have f1 : decide (q ≤ (L : Int)) = false := by simp; omega
                  have f2 : ¬ q ≤ (L : Int) := by omega
                  go_wp2_with fail
                  go_roundw
                  case rel => exact ⟨d + 1, by omega, by go_num, HB9⟩
                  case measure => simp [intOf]; omega
                · go_wp2_with fail
                  go_roundw
                  case rel => exact ⟨d + 1, by omega, by go_num, HB9⟩
                  case measure => simp [intOf]; omega
          · obtain rfl : d = S.s.ms.length := by omega
            go_wp2_with fail
            go_roundw
            case rel => exact ⟨k + 1, lab7, by omega, by go_num, HTC.out.on (HB8.out.trans (HBr.out.mono HB8.out.size)), HF7.out.trans (Fr.of_below (HB8.out.trans (HBr.out.mono HB8.out.size)))⟩
            case measure => simp [intOf]; omega
      · obtain rfl : k = n'' := by omega
        go_wp2_with fail
        go_ret
        exact ⟨rfl, HB.out.trans (HBk.out.mono HB.out.size)⟩
  · subst h1
    have HB3 : Hid (Below W.heap.size W w3) := HB2.out.trans (h2.mono HB2.out.size)
    obtain ⟨s0, s1, s2, s3⟩ := four_of ((HB3.out.block _ HGL.out).trans HG.out)
    have he0 : (newE ms (ps.map Prod.fst) q == 0) = false := by simpa using h0
    clear h2 h0
    go_wp2_with fail
    go_loopw [5] (fun i wr => i = .int .i64 0 ∧ wr = w3) (fun _ _ => 0)
    case atStart => exact ⟨rfl, rfl⟩
    case round =>
      obtain ⟨rfl, rfl⟩ := hrel
      by_cases hz : n'' = 0
      · subst hz
        go_wp2_with fail
        go_ret
        exact ⟨rfl, HB.out.trans (HB3.out.mono HB.out.size)⟩
      · have hz' : (0 : Int) < (n'' : Int) := by omega
        go_wp2_with fail
        go_ret
        exact ⟨rfl, HB.out.trans (HB3.out.mono HB.out.size)⟩
end Go.Proofs.Ytafhpomoobdmdaa
