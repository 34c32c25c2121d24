/- The law Roles. -/
import Derived.Test.YtafhpomoobdmdaaBu
namespace Go.Proofs.Ytafhpomoobdmdaa
open Go.RowKit Mb
set_option linter.unusedVariables false
set_option linter.unusedSimpArgs false

theorem lens_get {S T : St} (h : lens S = lens T) {k : Nat} {x y : Vlt} (hx : S.vs[k]? = some x) (hy : T.vs[k]? = some y) : x.ws.length = y.ws.length := by
  have h1 : (lens S)[k]? = some x.ws.length := by unfold lens; rw [List.getElem?_map, hx]; rfl
  have h2 : (lens T)[k]? = some y.ws.length := by unfold lens; rw [List.getElem?_map, hy]; rfl
  rw [h, h2] at h1
  exact (Option.some.inj h1).symm
set_option maxRecDepth 20000 in
set_option maxHeartbeats 8000000 in
theorem lawRoles_any (A : Option Addr) (n c : Nat) (A' : Option Addr) (n' c' : Nat) (q : Int) (A'' : Option Addr) (n'' c'' : Nat) (ms : List Mem) (ps : List VP) (xs : List Chn) (w : World) (hx : InSet w A n c A' n' c' A'' n'' c'' ms ps xs) :
    Calls Try.prog 4 #[aSet A n c A' n' c' q A'' n'' c''] w (BoolB true w) := by
  obtain ⟨W, hW⟩ : ∃ W : World, W = w.alloc (oSet A n c A' n' c' q A'' n'' c'') := ⟨_, rfl⟩
  have hB : Below w.heap.size w W := by rw [hW]; exact (Below.refl _ _).alloc (Nat.le_refl _) _
  have hG : W.heap[w.heap.size]? = some (oSet A n c A' n' c' q A'' n'' c'') := by rw [hW]; exact heap_alloc_new w _
  have HX := Lib.hid (hx.on hB)
  have HB := Lib.hid hB
  have HG := Lib.hid hG
  have HW := Lib.hid hW
  have HGL := Lib.hid (lt_of_block hG)
  clear hx hB hG hW
  go_enter Try.func4, Try.ntmps4
  go_wp2_with fail
  refine (show Calls Try.prog 7 _ _ (BoolB true W) from HW.out ▸ awake_any W).mono ?_
  rintro e w1 ⟨rfl, hb⟩
  have HB1 : Hid (Below W.heap.size W w1) := hb
  obtain ⟨s0, s1, s2, s3⟩ := four_of ((hb.block _ HGL.out).trans HG.out)
  clear hb
  go_wp2_with fail
  refine (small_any A n c A' n' c' q A'' n'' c'' w1).mono ?_
  rintro e w2 ⟨rfl, hb⟩
  have HB2 : Hid (Below W.heap.size W w2) := HB1.out.trans (hb.mono HB1.out.size)
  clear hb s0 s1 s2 s3
  obtain ⟨sm, hsm⟩ : ∃ z, smallB n n' n'' = z := ⟨_, rfl⟩
  rw [hsm]
  cases sm
  · clear hsm
    go_wp2_with fail
    go_ret
    exact ⟨rfl, HB.out.trans (HB2.out.mono HB.out.size)⟩
  have hn : n ≤ 14 ∧ n' ≤ 14 ∧ n'' ≤ 40 := by unfold smallB at hsm; simpa using hsm
  obtain ⟨hn1, hn2, hn3⟩ := hn
  clear hsm
  have HX2 := Lib.hid (HX.out.on HB2.out)
  have HN := Lib.hid (built_any A n c A' n' c' q A'' n'' c'' ms ps xs w2 HX2.out hn3)
  obtain ⟨s0, s1, s2, s3⟩ := four_of ((HB2.out.block _ HGL.out).trans HG.out)
  go_wp2_with fail
  refine HN.out.mono ?_
  rintro e w3 h1
  clear s0 s1 s2 s3
  rcases h1 with ⟨h0, g, lab, rfl, hC, hl, hb⟩ | ⟨h0, rfl, hb⟩
  · have HI0 : Hid (Inv (S0 ms ps q).s) := newE_inv h0
    obtain ⟨S, hS⟩ : ∃ S, playsC (S0 ms ps q) xs = S := ⟨_, rfl⟩
    have HLS : Hid (lens S.s = lens (S0 ms ps q).s) := by show _ = _; rw [← hS, playsC_s, plays_lens]
    have HIV : Hid (Inv S.s) := hS ▸ playsC_inv HI0.out xs
    rw [hS] at hC
    have HC3 := Lib.hid hC
    have HB3 : Hid (Below W.heap.size W w3) := HB2.out.trans (hb.mono HB2.out.size)
    clear hC hl hb h0 hS
    go_wp2_with fail
    refine (active_cir g lab S w3 HC3.out (Nat.le_trans HIV.out.n12 (by decide))).mono ?_
    rintro e w4 ⟨v5, rfl, ho, hb⟩
    obtain ⟨A5, c5, hv5, _, hs5, _⟩ := Own.shape (f := I) ho
    subst hv5
    have HS5 : Hid (SL I w4 w4.heap.size A5 (activeL S.s)) := hs5
    have HC4 := Lib.hid (HC3.out.on hb)
    have HB4 : Hid (Below W.heap.size W w4) := HB3.out.trans (hb.mono HB3.out.size)
    clear ho hb hs5
    go_wp2_with fail
    refine (vaults_cir g lab S w4 HC4.out HIV.out).mono ?_
    rintro e w5 ⟨v6, ps6, rfl, hr, hp6, hb⟩
    obtain ⟨A6, c6, hv6, _, hvi⟩ := hr.vin
    subst hv6
    have HVI : Hid (VIn w5 w5.heap.size A6 ps6.length ps6) := hvi
    have HP6 : Hid (ps6.map Prod.fst = S.s.vs) := hp6
    have HC5 := Lib.hid (HC4.out.on hb)
    have HB5 : Hid (Below W.heap.size W w5) := HB4.out.trans (hb.mono HB4.out.size)
    have HS6 : Hid (SL I w5 w5.heap.size A5 (activeL S.s)) := (HS5.out.up hb (Nat.le_refl _)).more hb.size
    obtain ⟨NV, hNV⟩ : ∃ z, ps6.length = z := ⟨_, rfl⟩
    have HNV : Hid (S.s.vs.length = NV) := by show _ = _; rw [← hp6, List.length_map, hNV]
    have hnv : NV ≤ 12 := by rw [← HNV.out]; exact HIV.out.v12
    rw [hNV] at HVI ⊢
    obtain ⟨NA, hNA⟩ : ∃ z, (activeL S.s).length = z := ⟨_, rfl⟩
    have HNA := Lib.hid hNA
    have hna : NA ≤ 12 := by
      have h5 := HIV.out.n12
      have h6 := List.length_filter_le (fun v => actB S.s v) (List.range S.s.ms.length)
      rw [List.length_range] at h6
      rw [← hNA]
      unfold activeL
      rw [List.length_map]
      omega
    rw [hNA]
    clear hr hp6 hb hvi hNV hNA
    go_wp2_with fail
    go_loopw [7] (fun i wr => ∃ k : Nat, k ≤ NV ∧ i = .int .i64 k ∧ Hid (Below w5.heap.size w5 wr)) (fun i _ => NV - (intOf i).toNat)
    case atStart => exact ⟨0, Nat.zero_le _, rfl, Below.refl _ _⟩
    case round =>
      obtain ⟨k, hk, rfl, HBk⟩ := hrel
      by_cases hlt : k < NV
      · obtain ⟨x, hx⟩ := get_ex (xs := S.s.vs) (k := k) (by rw [HNV.out]; exact hlt)
        have hvl : vltOf S.s (k : Int) = some x := by unfold vltOf; rw [if_pos (by omega), show ((k : Int)).toNat = k by omega]; exact hx
        have hx3 := HIV.out.ws3 x (List.mem_of_getElem? hx)
        have HVL := Lib.hid hvl
        have HXK := Lib.hid hx
        have HX3 := Lib.hid hx3
        clear hvl hx hx3
        go_wp2_with fail
        refine (wri_yes g lab S k x wr (HC5.out.on HBk.out) (Nat.le_trans HIV.out.v12 (by decide)) (Nat.le_trans HIV.out.n12 (by decide)) HVL.out (Nat.le_trans HX3.out (by decide))).mono ?_
        rintro e w6 ⟨v8, rfl, ho, hb⟩
        obtain ⟨A8, c8, hv8, _, hs8, _⟩ := Own.shape (f := I) ho
        subst hv8
        have HS8 : Hid (SL I w6 w6.heap.size A8 (wrL S.s x.ws)) := hs8
        have HBa : Hid (Below w5.heap.size w5 w6) := HBk.out.trans (hb.mono HBk.out.size)
        clear ho hb hs8
        go_wp2_with fail
        refine (hol_yes g lab S k x w6 (HC5.out.on HBa.out) (Nat.le_trans HIV.out.v12 (by decide)) (Nat.le_trans HIV.out.n12 (by decide)) HVL.out (Nat.le_trans HX3.out (by decide))).mono ?_
        rintro e w7 ⟨v10, rfl, ho, hb⟩
        obtain ⟨A10, c10, hv10, _, hs10, _⟩ := Own.shape (f := I) ho
        subst hv10
        have HS10 : Hid (SL I w7 w7.heap.size A10 (hoL S.s x.ws)) := hs10
        have HS8' : Hid (SL I w7 w7.heap.size A8 (wrL S.s x.ws)) := (HS8.out.up hb (Nat.le_refl _)).more hb.size
        have HBb : Hid (Below w5.heap.size w5 w7) := HBa.out.trans (hb.mono HBa.out.size)
        have HBW7 : Hid (Below W.heap.size W w7) := HB5.out.trans (HBb.out.mono HB5.out.size)
        obtain ⟨LW, hLW⟩ : ∃ z, (wrL S.s x.ws).length = z := ⟨_, rfl⟩
        obtain ⟨LH, hLH⟩ : ∃ z, (hoL S.s x.ws).length = z := ⟨_, rfl⟩
        have hsum : LW + LH = NA := by rw [← hLW, ← hLH, ← HNA.out]; exact roles_len S.s x.ws
        have HLW := Lib.hid hLW
        have HLH := Lib.hid hLH
        rw [hLW, hLH]
        -- the two vaults' heads
        have hvi7 := HVI.out.up HBb.out (Nat.le_refl _)
        obtain ⟨b6, o6, p6, ha6, hb6, hp6, hc6⟩ := hvi7.1.at_ hlt
        have hx7 := HX.out.on HBW7.out
        have hn'k : k < n' := by
          have h5 : (lens S.s).length = (lens (S0 ms ps q).s).length := by rw [HLS.out]
          unfold lens at h5
          rw [List.length_map, List.length_map, HNV.out] at h5
          have h6 := hx7.fvs.1
          simp at h5
          omega
        obtain ⟨b0, o0, p0, ha0, hb0, hp0, hc0⟩ := hx7.fvs.at_ hn'k
        have d6 := (fifteen hc6).2.1
        have d0 := (fifteen hc0).2.1
        have hpx : p6.1 = x := by
          have h5 := HXK.out
          rw [← HP6.out, List.getElem?_map, hp6] at h5
          exact Option.some.inj h5
        have hsw6 := hvi7.2 p6 (List.mem_of_getElem? hp6)
        have hle : p6.2.n = p0.2.n := by
          have h5 := lens_get HLS.out HXK.out (y := p0.1) (by show (ps.map Prod.fst)[k]? = _; rw [List.getElem?_map, hp0]; rfl)
          have h6 := hsw6.1
          have h7 := (hx7.vk p0 (List.mem_of_getElem? hp0)).1.1
          rw [← h6, ← h7, ← h5, hpx]
        rw [hle] at d6
        obtain ⟨s0, s1, s2, s3⟩ := four_of ((HBW7.out.block _ HGL.out).trans HG.out)
        subst ha6 ha0
        have HSW6 : Hid (Sl I w7 w7.heap.size p6.2.a p0.2.n x.ws) := by
          show Sl _ _ _ _ _ _
          rw [← hpx, ← hle]
          exact hsw6.more' HBb.out.size
        have hk0 : (0 : Int) ≤ (k : Int) := by omega
        have hk1 : (k : Int) < (NV : Int) := by omega
        have hk2 : (k : Int) < (n' : Int) := by omega
        have hee : ((p0.2.n : Int) != (p0.2.n : Int)) = false := by simp
        clear ho hb hs10 hLW hLH hvi7 hb6 hp6 hc6 hx7 hb0 hp0 hc0 hpx hsw6 hle
        go_wp2_with fail
        go_quiet (fail)
        obtain ⟨V, hV⟩ : ∃ V : World, V = w7.drewN nq := ⟨_, rfl⟩
        have hBV : Below w7.heap.size w7 V := by rw [hV]; exact below_dN' (Below.refl _ _) _
        rw [← hV]
        have HBV := Lib.hid hBV
        have HD6 : Hid (w7.cell? ⟨b6, o6 + k * 15 + 1, none⟩ = some (.slice p6.2.a p0.2.n p6.2.c)) := d6
        have HB6L : Hid (b6 < w7.heap.size) := block_lt_of_cell d6
        clear hV hBV s0 s1 s2 s3 d0 d6 hee
        go_wp2_with fail
        go_loopw [12, 13] (fun u i w' => ∃ j : Nat, j ≤ NA ∧ u = .int .i64 j ∧ i = .int .i64 j ∧ Hid (Below w7.heap.size w7 w')) (fun _ i _ => NA - (intOf i).toNat)
        case atStart => exact ⟨0, Nat.zero_le _, rfl, rfl, HBV⟩
        case round =>
          obtain ⟨j, hj, rfl, rfl, HBr⟩ := hrel
          by_cases hlt2 : j < NA
          · have hb5r : Below w5.heap.size w5 wr := HBb.out.trans (HBr.out.mono HBb.out.size)
            obtain ⟨b5, o5, a, ha5, hbl5, hak, hc5⟩ := (HS6.out.up hb5r (Nat.le_refl _)).at_ (k := j) (by rw [HNA.out]; exact hlt2)
            have ham := List.mem_of_getElem? hak
            obtain ⟨bw, hbw⟩ : ∃ z, x.ws.contains a = z := ⟨_, rfl⟩
            have HQ1 : Hid (∀ nq, Calls Try.prog 13 #[.slice A8 LW c8, .int .i64 a] (wr.drewN nq) fun e w' => e = .returned (.bool bw) ∧ (wr.drewN nq) = w') := fun nq => by
              have h5 := inI_any A8 LW (wrL S.s x.ws) c8 a (wr.drewN nq) _ ⟨HLW.out, HS8'.out.up (below_dN' HBr.out nq) (Nat.le_refl _)⟩ (by omega)
              rwa [wrL_contains ham, hbw] at h5
            have HQ2 : Hid (∀ nq, Calls Try.prog 13 #[.slice A10 LH c10, .int .i64 a] (wr.drewN nq) fun e w' => e = .returned (.bool (!bw)) ∧ (wr.drewN nq) = w') := fun nq => by
              have h5 := inI_any A10 LH (hoL S.s x.ws) c10 a (wr.drewN nq) _ ⟨HLH.out, HS10.out.up (below_dN' HBr.out nq) (Nat.le_refl _)⟩ (by omega)
              rwa [hoL_contains ham, hbw] at h5
            have HQ3 : Hid (∀ V2, Below w7.heap.size w7 V2 → Calls Try.prog 13 #[.slice p6.2.a p0.2.n p6.2.c, .int .i64 a] V2 fun e w' => e = .returned (.bool bw) ∧ V2 = w') := fun V2 hV2 => by
              have h5 := inI_any p6.2.a p0.2.n x.ws p6.2.c a V2 _ (HSW6.out.up hV2 (Nat.le_refl _)) (by have h6 := HSW6.out.1; have := HX3.out; omega)
              rwa [hbw] at h5
            subst ha5
            have hj0 : (0 : Int) ≤ (j : Int) := by omega
            have hj1 : (j : Int) < (NA : Int) := by omega
            have HC5A := Lib.hid hc5
            have HBL5 : Hid (b5 < wr.heap.size) := Nat.lt_of_lt_of_le hbl5 hb5r.size
            clear hb5r hbl5 hak ham hbw
            go_wp2_with fail
            go_quiet ((first | (go_at_call 13; with_reducible exact Calls.quiet_of_same (same_of (HQ1.out _))) | (go_at_call 13; with_reducible exact Calls.quiet_of_same (same_of (HQ2.out _)))))
            obtain ⟨V2, hV2⟩ : ∃ V2 : World, V2 = wr.drewN nq := ⟨_, rfl⟩
            have hBV2 : Below wr.heap.size wr V2 := by rw [hV2]; exact below_dN' (Below.refl _ _) _
            rw [← hV2]
            have HBV2 : Hid (Below w7.heap.size w7 V2) := HBr.out.trans (hBV2.mono HBr.out.size)
            have hc52 : V2.cell? ⟨b5, o5 + j, none⟩ = some (.int .i64 a) := (hBV2.cell (p := ⟨b5, o5 + j, none⟩) HBL5.out).trans HC5A.out
            have hd62 : V2.cell? ⟨b6, o6 + k * 15 + 1, none⟩ = some (.slice p6.2.a p0.2.n p6.2.c) := (HBV2.out.cell (p := ⟨b6, o6 + k * 15 + 1, none⟩) HB6L.out).trans HD6.out
            have HQ4 : Hid (∀ nq, Calls Try.prog 13 #[.slice p6.2.a p0.2.n p6.2.c, .int .i64 a] (V2.drewN nq) fun e w' => e = .returned (.bool bw) ∧ (V2.drewN nq) = w') := fun nq => HQ3.out _ (below_dN' HBV2.out nq)
            clear hV2 hBV2 hc5
            cases bw
            all_goals
              go_wp2_with fail
              go_quiet ((go_at_call 13; with_reducible exact Calls.quiet_of_same (same_of (HQ4.out _))))
              go_wp2_with fail
              go_roundw
              case rel => exact ⟨j + 1, by omega, by go_num, by go_num, below_dN' HBV2.out _⟩
              case measure => simp [intOf]; omega
          · obtain rfl : j = NA := by omega
            have hne : ((j : Int) != (LW : Int) + (LH : Int)) = false := by simp; omega
            go_wp2_with fail
            go_roundw
            case rel => exact ⟨k + 1, by omega, by go_num, HBb.out.trans (HBr.out.mono HBb.out.size)⟩
            case measure => simp [intOf]; omega
      · obtain rfl : k = NV := by omega
        go_wp2_with fail
        go_ret
        exact ⟨rfl, HB.out.trans ((HB5.out.trans (HBk.out.mono HB5.out.size)).mono HB.out.size)⟩
  · have HB3 : Hid (Below W.heap.size W w3) := HB2.out.trans (hb.mono HB2.out.size)
    clear hb h0
    go_wp2_with fail
    go_ret
    exact ⟨rfl, HB.out.trans (HB3.out.mono HB.out.size)⟩
end Go.Proofs.Ytafhpomoobdmdaa
