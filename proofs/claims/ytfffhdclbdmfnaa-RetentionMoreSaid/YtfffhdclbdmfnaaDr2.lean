/- (period).dropped. -/
import Derived.Test.YtfffhdclbdmfnaaDrp
namespace Go.Proofs.Ytfffhdclbdmfnaa
open Go.RowKit Ret
set_option linter.unusedVariables false
set_option linter.unusedSimpArgs false

theorem ext_succ_in {s : List Int} {last : Int} {i : Nat} (h : last + ((i : Int) + 1) ≤ 999999) : ext s last (i + 1) = ext s last i ++ [last + ((i : Int) + 1)] := by rw [ext, if_pos h]
theorem ext_succ_out {s : List Int} {last : Int} {i : Nat} (h : ¬ last + ((i : Int) + 1) ≤ 999999) : ext s last (i + 1) = ext s last i := by rw [ext, if_neg h]
theorem run_lt (k : Nat) (d : Int) : ∀ l : List Int, (Cnt.run k d l).lt ≤ l.length := by
  refine snoc_ind (by simp [Cnt.run, Cnt.ini]) (fun l x ih => ?_)
  rw [Cnt.run_snoc, List.length_append]
  unfold Cnt.add
  simp only [List.length_cons, List.length_nil]
  split <;> omega
theorem ext_len (s : List Int) (last : Int) : ∀ i, (ext s last i).length ≤ s.length + i
  | 0 => Nat.le_refl _
  | i + 1 => by
    have := ext_len s last i
    rw [ext]
    split
    · rw [List.length_append]; simp only [List.length_cons, List.length_nil]; omega
    · omega

set_option maxRecDepth 20000 in
set_option maxHeartbeats 4000000 in
theorem dropped_any (k : Nat) (hk : k < 4) (most : Nat) (hmost : most ≤ 1000) (reason day : Int) (limit : Nat) (hlim : limit ≤ 4000) (A : Option Addr) (n c : Nat) (s : List Int) (last : Int) (w : World) (hx : Sl I w w.heap.size A n s) (hn : n ≤ 100000) (hs : Asc s) (hok : ∀ x ∈ s, okD x) (hlast : s[n - 1]? = some last) (hday : okD day) :
    Calls Try.prog 37 #[.agg #[fF (fidOf k), .int .i64 (most : Int), .int .i64 reason], .slice A n c, .int .i64 day, .int .i64 (limit : Int)] w (IntB (dropN k most s last day limit) w) := by
  have hcf := callFunc_fid hk
  have hn0 : 0 < n := by
    have h1 := (List.getElem?_eq_some_iff.1 hlast).1
    have h2 := hx.1
    omega
  have hlk : okD last := hok last (List.mem_of_getElem? hlast)
  have hlt : ∀ x ∈ s, x ≤ last := fun x hx' => by
    obtain ⟨i, hi, rfl⟩ := List.getElem_of_mem hx'
    obtain ⟨h1, h2⟩ := List.getElem?_eq_some_iff.1 hlast
    rw [← h2]
    have hl := hx.1
    rcases Nat.lt_or_ge i (n - 1) with h | h
    · have := (List.pairwise_iff_getElem.1 hs) i (n - 1) hi h1 h
      omega
    · have : i = n - 1 := by omega
      subst this
      exact Int.le_refl _
  have HLT := Lib.hid hlt
  have HX := Lib.hid hx
  have HS : Hid (Asc s) := hs
  have HOK := Lib.hid hok
  have HLEN : Hid (s.length = n) := hx.1
  have HLA := Lib.hid hlast
  have hlk' : 0 ≤ last ∧ last ≤ 999999 := hlk
  have hADD : Hid (∀ (d : Int) (c : Cnt) (O : Nat) (W : World), okD d → CB W w.heap.size (w.heap.size + 1) O (fidOf k) most reason day (per k day) c → w.heap.size + 1 < O → c.lt ≤ 1000000 →
      Calls Try.prog 54 #[.int .i64 d, .pointer (some ⟨w.heap.size, 0, none⟩), .pointer (some ⟨w.heap.size + 1, 0, none⟩), .pointer (some ⟨O, 0, none⟩), .pointer (some ⟨O + 1, 0, none⟩), .pointer (some ⟨O + 1 + 1 + 1, 0, none⟩), .pointer (some ⟨O + 1 + 1, 0, none⟩)] W (AddP w.heap.size (w.heap.size + 1) O (fidOf k) most reason day (per k day) (Cnt.add k day c d) W)) := fun d c O W hd hC hO hc =>
    add_any k hk w.heap.size (w.heap.size + 1) O most reason day c d hd hday W hC (by omega) hO hc
  have hPF : Hid (∀ W, Calls Try.prog (fidOf k) #[.int .i64 day] W (IntB (per k day) W)) := fun W => per_any k hk day W hday
  clear hx hs hok hlast hlk hlt
  obtain ⟨f, hf⟩ : ∃ f, fidOf k = f := ⟨_, rfl⟩
  rw [hf] at hcf hADD hPF ⊢
  clear hf
  obtain ⟨own, hown⟩ : ∃ own, per k day = own := ⟨_, rfl⟩
  have HOWN := Lib.hid hown
  rw [hown] at hADD hPF
  clear hown
  obtain ⟨res, hres⟩ : ∃ res, dropN k most s last day limit = res := ⟨_, rfl⟩
  have HRES := Lib.hid hres
  rw [hres]
  clear hres
  go_enter Try.func37, Try.ntmps37
  go_wp2_with (refine (hPF.out _).mono ?_; rintro e w1 ⟨rfl, hb1⟩; have HB1 : Hid (Below (w.heap.size + 1 + 1) ((w.alloc (.cells #[fF f, .int .i64 (most : Int), .int .i64 reason] 51)).alloc (.cells #[.int .i64 day] 3)) w1) := hb1.mono (by simp); clear hb1)
  have hs1 := HB1.out.size
  simp at hs1
  have HP1 : Hid (w1.heap[w.heap.size]? = some (.cells #[fF f, .int .i64 (most : Int), .int .i64 reason] 51 (0, 0))) := by
    refine (HB1.out.block _ (by omega)).trans ?_
    rw [Below.heap_alloc _ _ _ (by simp)]
    exact heap_alloc_new w _
  have HD1 : Hid (w1.heap[w.heap.size + 1]? = some (.cells #[.int .i64 day] 3 (0, 0))) := by
    refine (HB1.out.block _ (by omega)).trans ?_
    have := heap_alloc_new (w.alloc (.cells #[fF f, .int .i64 (most : Int), .int .i64 reason] 51)) (.cells #[.int .i64 day] 3)
    simpa using this
  have HBw : Hid (Below w.heap.size w w1) := (((Below.refl _ _).alloc (Nat.le_refl _) _).alloc (by simp) _).trans (HB1.out.mono (by omega))
  obtain ⟨W0, hW0⟩ : ∃ W0 : World, W0 = (((w1.alloc (.cells #[.int .i64 own] 3)).alloc (.cells #[.bool true] 4)).alloc (.cells #[.int .i64 0] 3)).alloc (.cells #[.int .i64 own] 3) := ⟨_, rfl⟩
  have HCB0 : Hid (CB W0 w.heap.size (w.heap.size + 1) w1.heap.size f most reason day own (Cnt.run k day [])) := by
    have hold : ∀ g, g < w1.heap.size → W0.heap[g]? = w1.heap[g]? := fun g hg => by
      rw [hW0, Below.heap_alloc _ _ _ (by simp; omega), Below.heap_alloc _ _ _ (by simp; omega), Below.heap_alloc _ _ _ (by simp; omega), Below.heap_alloc _ _ _ hg]
    refine ⟨(hold _ (by omega)).trans HP1.out, (hold _ (by omega)).trans HD1.out, ?_, ?_, ?_, ?_⟩
    · rw [hW0, Below.heap_alloc _ _ _ (by simp; omega), Below.heap_alloc _ _ _ (by simp; omega), Below.heap_alloc _ _ _ (by simp)]
      exact heap_alloc_new _ _
    · rw [hW0, Below.heap_alloc _ _ _ (by simp), Below.heap_alloc _ _ _ (by simp)]
      have := heap_alloc_new (w1.alloc (.cells #[.int .i64 own] 3)) (.cells #[.bool true] 4)
      simpa [Cnt.run, Cnt.ini] using this
    · rw [hW0, Below.heap_alloc _ _ _ (by simp)]
      have := heap_alloc_new ((w1.alloc (.cells #[.int .i64 own] 3)).alloc (.cells #[.bool true] 4)) (.cells #[.int .i64 0] 3)
      simpa [Cnt.run, Cnt.ini] using this
    · rw [hW0]
      have := heap_alloc_new (((w1.alloc (.cells #[.int .i64 own] 3)).alloc (.cells #[.bool true] 4)).alloc (.cells #[.int .i64 0] 3)) (.cells #[.int .i64 own] 3)
      have e : (Cnt.run k day []).la = own := HOWN.out
      rw [e]
      simpa using this
  have HBO : Hid (Below w1.heap.size w1 W0) := by
    show Below _ _ _
    rw [hW0]
    exact ((((Below.refl _ _).alloc (Nat.le_refl _) _).alloc (by simp) _).alloc (by simp; omega) _).alloc (by simp; omega) _
  try rw [← hW0]
  clear hW0
  obtain ⟨O, hO⟩ : ∃ O, w1.heap.size = O := ⟨_, rfl⟩
  have HBOw : Hid (Below w.heap.size w W0) := HBw.out.trans (HBO.out.mono (by omega))
  have HBO2 : Hid (Below O W0 W0) := Below.refl _ _
  have hOs : O + 1 + 1 + 1 < W0.heap.size := by have := lt_of_block HCB0.out.la; omega
  rw [hO] at HCB0 hs1 ⊢
  have hO1 : w.heap.size + 1 < O := by omega
  clear hs1 HP1 HD1 HBw HBO HB1 hO w1
  go_wp2
  go_loopw [26] (fun i wr => ∃ j : Nat, j ≤ n ∧ i = .int .i64 j ∧ Hid (CB wr w.heap.size (w.heap.size + 1) O f most reason day own (Cnt.run k day (s.take j))) ∧ Hid (Below O W0 wr)) (fun i _ => n - (intOf i).toNat)
  case atStart => exact ⟨0, Nat.zero_le _, rfl, by rw [List.take_zero]; exact HCB0, HBO2⟩
  case round =>
    clear HCB0 HBO2
    obtain ⟨j, hj, rfl, HCB, HBO⟩ := hrel
    have HBX : Hid (Below w.heap.size w wr) := HBOw.out.trans (HBO.out.mono (by omega))
    have hsl := HX.out.up HBX.out (Nat.le_refl _)
    by_cases hlt : j < n
    · obtain ⟨bb, off, y, rfl, hbb, hyk, hcy⟩ := hsl.2.at_ (k := j) (by have := HLEN.out; omega)
      have HYK := Lib.hid hyk
      have HY : Hid (okD y) := HOK.out y (List.mem_of_getElem? hyk)
      have HLTJ : Hid ((Cnt.run k day (s.take j)).lt ≤ 1000000) := by
        show _ ≤ _
        have h1 := run_lt k day (s.take j)
        rw [List.length_take] at h1
        omega
      clear hsl hyk
      go_wp2_with (go_at_call 54; refine (hADD.out y _ O wr HY.out HCB.out hO1 HLTJ.out).mono ?_; rintro e w4 ⟨rfl, hc4, hb4⟩; have HC4 := Lib.hid hc4; have HB4 := Lib.hid hb4; clear hc4 hb4)
      go_roundw
      case rel => exact ⟨j + 1, by omega, by go_num, by show CB _ _ _ _ _ _ _ _ _ _; rw [take_snoc HYK.out, Cnt.run_snoc]; exact HC4.out, HBO.out.trans HB4.out⟩
      case measure => simp [intOf]; omega
    · obtain rfl : j = n := by omega
      have HCB2 : Hid (CB wr w.heap.size (w.heap.size + 1) O f most reason day own (Cnt.run k day (ext s last 0))) := by
        have := HCB.out
        rw [List.take_of_length_le (by have := HLEN.out; omega)] at this
        exact this
      clear hsl HCB
      obtain ⟨W5, hW5⟩ : ∃ W5 : World, W5 = wr := ⟨_, rfl⟩
      rw [← hW5] at HCB2 HBO HBX ⊢
      clear hW5 wr
      go_wp2
      go_loopw [16, 17] (fun i _ wr => ∃ i' : Nat, i' ≤ limit ∧ i = .int .i64 ((i' : Int) + 1) ∧ Hid (CB wr w.heap.size (w.heap.size + 1) O f most reason day own (Cnt.run k day (ext s last i'))) ∧ Hid (∀ j, 1 ≤ j → j < 1 + i' → By k most (ext s last j) day) ∧ Hid (Below O W0 wr)) (fun i _ _ => limit + 1 - (intOf i).toNat)
      case atStart => exact ⟨0, Nat.zero_le _, rfl, HCB2, fun j h1 h2 => absurd h1 (by omega), HBO⟩
      case round =>
        clear HCB2 HBO HBX
        obtain ⟨i', hi', rfl, HCB, HBY, HBO⟩ := hrel
        have HBX : Hid (Below w.heap.size w wr) := HBOw.out.trans (HBO.out.mono (by omega))
        have hsl := HX.out.up HBX.out (Nat.le_refl _)
        obtain ⟨bb, off, y, rfl, hbb, hyk, hcy⟩ := hsl.2.at_ (k := j - 1) (by have := HLEN.out; omega)
        obtain rfl : y = last := by have := HLA.out; rw [hyk] at this; exact Option.some.inj this
        have hcell : wr.cell? ⟨bb, off + (j - 1), none⟩ = some (.int .i64 y) := hcy
        clear hsl hyk hcy
        by_cases hil : i' < limit
        · have HTS := Lib.hid (Cnt.test k most day hday (ext s y (i' + 1)) (ext_asc HS.out HLT.out (i' + 1)) (ext_ok HOK.out (by omega) (i' + 1)))
          have HLTJ : Hid ((Cnt.run k day (ext s y i')).lt ≤ 1000000) := by
            show _ ≤ _
            have h1 := run_lt k day (ext s y i')
            have h2 := ext_len s y i'
            have := HLEN.out
            omega
          have hfin : ∀ b : Bool, Hid (b = true → res = i' + 1) → True := fun _ _ => trivial
          obtain ⟨cc, hcc⟩ : ∃ cc, Cnt.run k day (ext s y (i' + 1)) = cc := ⟨_, rfl⟩
          rw [hcc] at HTS
          have HCC := Lib.hid hcc
          have HRET : Hid ((cc.g = false ∨ most ≤ cc.lt) → res = i' + 1) := fun h => by
            rw [← HRES.out]
            exact (lst_pos (by omega) (by omega)).2 ⟨by omega, by omega, HTS.out.1 h, fun j h1 h2 h3 => h3 (HBY.out j h1 (by omega))⟩
          have HGO : Hid (¬ (cc.g = false ∨ most ≤ cc.lt) → ∀ j, 1 ≤ j → j < 1 + (i' + 1) → By k most (ext s y j) day) := fun h j h1 h2 => by
            rcases Nat.lt_or_ge j (i' + 1) with h3 | h3
            · exact HBY.out j h1 (by omega)
            · obtain rfl : j = i' + 1 := by omega
              exact Classical.byContradiction fun hb => h (HTS.out.2 hb)
          clear hcc HTS hfin
          by_cases hmx : y + ((i' : Int) + 1) ≤ 999999
          · have HSUC : Hid (Cnt.add k day (Cnt.run k day (ext s y i')) (y + ((i' : Int) + 1)) = cc) := by show _ = _; rw [← HCC.out, ext_succ_in hmx, Cnt.run_snoc]
            have HYO : Hid (okD (y + ((i' : Int) + 1))) := by show okD _; unfold okD; omega
            obtain ⟨g, lt, la⟩ := cc
            simp only [] at HRET HGO
            cases g
            · have HRT : Hid (res = i' + 1) := HRET.out (.inl rfl)
              go_wp2_with (go_at_call 54; refine (hADD.out _ _ O wr HYO.out HCB.out hO1 HLTJ.out).mono ?_; rintro e w4 ⟨rfl, hc4, hb4⟩; rw [HSUC.out] at hc4; have q0 := cell_of_row w4 w.heap.size 1 _ _ _ hc4.p; have q1 := cell_of_row w4 (O + 1) 0 _ _ _ hc4.g; have q2 := cell_of_row w4 (O + 1 + 1) 0 _ _ _ hc4.lt; simp at q0 q1 q2; have HC4 := Lib.hid hc4; have HB4 := Lib.hid hb4; clear hc4 hb4)
              go_ret
              exact ⟨ret_int (by rw [HRT.out]; omega), HBOw.out.trans ((HBO.out.trans HB4.out).mono (by omega))⟩
            · by_cases hml : most ≤ lt
              · have HRT : Hid (res = i' + 1) := HRET.out (.inr hml)
                go_wp2_with (go_at_call 54; refine (hADD.out _ _ O wr HYO.out HCB.out hO1 HLTJ.out).mono ?_; rintro e w4 ⟨rfl, hc4, hb4⟩; rw [HSUC.out] at hc4; have q0 := cell_of_row w4 w.heap.size 1 _ _ _ hc4.p; have q1 := cell_of_row w4 (O + 1) 0 _ _ _ hc4.g; have q2 := cell_of_row w4 (O + 1 + 1) 0 _ _ _ hc4.lt; simp at q0 q1 q2; have HC4 := Lib.hid hc4; have HB4 := Lib.hid hb4; clear hc4 hb4)
                go_ret
                exact ⟨ret_int (by rw [HRT.out]; omega), HBOw.out.trans ((HBO.out.trans HB4.out).mono (by omega))⟩
              · have HNX := Lib.hid (HGO.out (fun h => h.elim (fun h => by cases h) (fun h => hml h)))
                go_wp2_with (go_at_call 54; refine (hADD.out _ _ O wr HYO.out HCB.out hO1 HLTJ.out).mono ?_; rintro e w4 ⟨rfl, hc4, hb4⟩; rw [HSUC.out] at hc4; have q0 := cell_of_row w4 w.heap.size 1 _ _ _ hc4.p; have q1 := cell_of_row w4 (O + 1) 0 _ _ _ hc4.g; have q2 := cell_of_row w4 (O + 1 + 1) 0 _ _ _ hc4.lt; simp at q0 q1 q2; have HC4 := Lib.hid hc4; have HB4 := Lib.hid hb4; clear hc4 hb4)
                go_roundw
                case rel => exact ⟨i' + 1, by omega, by go_num, by show CB _ _ _ _ _ _ _ _ _ _; rw [HCC.out]; exact HC4.out, HNX.out, HBO.out.trans HB4.out⟩
                case measure => simp [intOf]; omega
          · have HCB3 : Hid (CB wr w.heap.size (w.heap.size + 1) O f most reason day own cc) := by
              show CB _ _ _ _ _ _ _ _ _ _
              rw [← HCC.out, ext_succ_out hmx]
              exact HCB.out
            obtain ⟨g, lt, la⟩ := cc
            simp only [] at HRET HGO
            cases g
            · have HRT : Hid (res = i' + 1) := HRET.out (.inl rfl)
              have q0 := cell_of_row wr w.heap.size 1 _ _ _ HCB3.out.p
              have q1 := cell_of_row wr (O + 1) 0 _ _ _ HCB3.out.g
              have q2 := cell_of_row wr (O + 1 + 1) 0 _ _ _ HCB3.out.lt
              simp at q0 q1 q2
              go_wp2
              go_ret
              exact ⟨ret_int (by rw [HRT.out]; omega), HBOw.out.trans ((HBO.out).mono (by omega))⟩
            · by_cases hml : most ≤ lt
              · have HRT : Hid (res = i' + 1) := HRET.out (.inr hml)
                have q0 := cell_of_row wr w.heap.size 1 _ _ _ HCB3.out.p
                have q1 := cell_of_row wr (O + 1) 0 _ _ _ HCB3.out.g
                have q2 := cell_of_row wr (O + 1 + 1) 0 _ _ _ HCB3.out.lt
                simp at q0 q1 q2
                go_wp2
                go_ret
                exact ⟨ret_int (by rw [HRT.out]; omega), HBOw.out.trans ((HBO.out).mono (by omega))⟩
              · have HNX := Lib.hid (HGO.out (fun h => h.elim (fun h => by cases h) (fun h => hml h)))
                have q0 := cell_of_row wr w.heap.size 1 _ _ _ HCB3.out.p
                have q1 := cell_of_row wr (O + 1) 0 _ _ _ HCB3.out.g
                have q2 := cell_of_row wr (O + 1 + 1) 0 _ _ _ HCB3.out.lt
                simp at q0 q1 q2
                go_wp2
                go_roundw
                case rel => exact ⟨i' + 1, by omega, by go_num, by show CB _ _ _ _ _ _ _ _ _ _; rw [HCC.out]; exact HCB3.out, HNX.out, HBO.out⟩
                case measure => simp [intOf]; omega
        · obtain rfl : i' = limit := by omega
          have HRT : Hid (res = 0) := by
            show _ = _
            rw [← HRES.out]
            exact (lst_zero (by omega)).2 (fun j h1 h2 h3 => h3 (HBY.out j h1 h2))
          go_wp2
          go_ret
          exact ⟨ret_int (by rw [HRT.out]; rfl), HBX.out⟩
end Go.Proofs.Ytfffhdclbdmfnaa
