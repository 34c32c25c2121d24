/- The reference: Next. -/
import Derived.Test.YtfffhdclbdmfnaaRdv
import Derived.Test.YtfffhdclbdmfnaaNext
namespace Go.Proofs.Ytfffhdclbdmfnaa
open Go.RowKit Ret
set_option linter.unusedVariables false
set_option linter.unusedSimpArgs false

set_option maxRecDepth 20000 in
set_option maxHeartbeats 4000000 in
theorem rnextF_err (a b c d day limit : Int) (A A' : Option Addr) (n n' cp cp' : Nat) (w : World) (v er : Int) (her : er ≠ 0)
    (hr : ∀ W, Below w.heap.size w W → Calls Try.prog 17 #[fR a b c d, .slice A n cp, .slice A' n' cp', .int .i64 day] W (Int2 v er W)) :
    Calls Try.prog 19 #[fR a b c d, .slice A n cp, .slice A' n' cp', .int .i64 day, .int .i64 limit] w (Int2 0 er w) := by
  obtain ⟨W0, hW0⟩ : ∃ W0 : World, W0 = w.alloc (.cells #[.int .i64 a, .int .i64 b, .int .i64 c, .int .i64 d] 23) := ⟨_, rfl⟩
  have hb0 : Below w.heap.size w W0 := by rw [hW0]; exact (Below.refl _ _).alloc (Nat.le_refl _) _
  have HB0 := Lib.hid hb0
  have HG0 : Hid (W0.heap[w.heap.size]? = some (.cells #[.int .i64 a, .int .i64 b, .int .i64 c, .int .i64 d] 23 (0, 0))) := by show _ = _; rw [hW0]; exact heap_alloc_new w _
  have HR := Lib.hid hr
  have hb1 : (er != 0) = true := by simp [her]
  clear her
  clear hr hb0
  go_enter Try.func19, Try.ntmps19
  go_wp2_with fail
  rw [← hW0]
  clear hW0
  refine (HR.out _ HB0.out).mono ?_
  rintro e w1 ⟨rfl, hb⟩
  have HB1 : Hid (Below w.heap.size w w1) := HB0.out.trans (hb.mono HB0.out.size)
  have HG1 : Hid (w1.heap[w.heap.size]? = some (.cells #[.int .i64 a, .int .i64 b, .int .i64 c, .int .i64 d] 23 (0, 0))) := (hb.block _ (lt_of_block HG0.out)).trans HG0.out
  clear hb
  go_wp2_with fail
  go_ret2
  exact ⟨rfl, HB1.out⟩
set_option maxRecDepth 20000 in
set_option maxHeartbeats 4000000 in
theorem rnextF_neg (a b c d day limit : Int) (A A' : Option Addr) (n n' cp cp' : Nat) (w : World) (v : Int) (hl : limit < 0)
    (hr : ∀ W, Below w.heap.size w W → Calls Try.prog 17 #[fR a b c d, .slice A n cp, .slice A' n' cp', .int .i64 day] W (Int2 v 0 W)) :
    Calls Try.prog 19 #[fR a b c d, .slice A n cp, .slice A' n' cp', .int .i64 day, .int .i64 limit] w (Int2 0 1 w) := by
  obtain ⟨W0, hW0⟩ : ∃ W0 : World, W0 = w.alloc (.cells #[.int .i64 a, .int .i64 b, .int .i64 c, .int .i64 d] 23) := ⟨_, rfl⟩
  have hb0 : Below w.heap.size w W0 := by rw [hW0]; exact (Below.refl _ _).alloc (Nat.le_refl _) _
  have HB0 := Lib.hid hb0
  have HG0 : Hid (W0.heap[w.heap.size]? = some (.cells #[.int .i64 a, .int .i64 b, .int .i64 c, .int .i64 d] 23 (0, 0))) := by show _ = _; rw [hW0]; exact heap_alloc_new w _
  have HR := Lib.hid hr
  clear hr hb0
  go_enter Try.func19, Try.ntmps19
  go_wp2_with fail
  rw [← hW0]
  clear hW0
  refine (HR.out _ HB0.out).mono ?_
  rintro e w1 ⟨rfl, hb⟩
  have HB1 : Hid (Below w.heap.size w w1) := HB0.out.trans (hb.mono HB0.out.size)
  have HG1 : Hid (w1.heap[w.heap.size]? = some (.cells #[.int .i64 a, .int .i64 b, .int .i64 c, .int .i64 d] 23 (0, 0))) := (hb.block _ (lt_of_block HG0.out)).trans HG0.out
  clear hb
  go_wp2_with fail
  go_ret2
  exact ⟨rfl, HB1.out⟩
set_option maxRecDepth 20000 in
set_option maxHeartbeats 4000000 in
theorem rnextF_big (a b c d day limit : Int) (A A' : Option Addr) (n n' cp cp' : Nat) (w : World) (v : Int) (hl : 4000 < limit)
    (hr : ∀ W, Below w.heap.size w W → Calls Try.prog 17 #[fR a b c d, .slice A n cp, .slice A' n' cp', .int .i64 day] W (Int2 v 0 W)) :
    Calls Try.prog 19 #[fR a b c d, .slice A n cp, .slice A' n' cp', .int .i64 day, .int .i64 limit] w (Int2 0 1 w) := by
  obtain ⟨W0, hW0⟩ : ∃ W0 : World, W0 = w.alloc (.cells #[.int .i64 a, .int .i64 b, .int .i64 c, .int .i64 d] 23) := ⟨_, rfl⟩
  have hb0 : Below w.heap.size w W0 := by rw [hW0]; exact (Below.refl _ _).alloc (Nat.le_refl _) _
  have HB0 := Lib.hid hb0
  have HG0 : Hid (W0.heap[w.heap.size]? = some (.cells #[.int .i64 a, .int .i64 b, .int .i64 c, .int .i64 d] 23 (0, 0))) := by show _ = _; rw [hW0]; exact heap_alloc_new w _
  have HR := Lib.hid hr
  have hl2 : ¬ limit < 0 := by omega
  clear hr hb0
  go_enter Try.func19, Try.ntmps19
  go_wp2_with fail
  rw [← hW0]
  clear hW0
  refine (HR.out _ HB0.out).mono ?_
  rintro e w1 ⟨rfl, hb⟩
  have HB1 : Hid (Below w.heap.size w w1) := HB0.out.trans (hb.mono HB0.out.size)
  have HG1 : Hid (w1.heap[w.heap.size]? = some (.cells #[.int .i64 a, .int .i64 b, .int .i64 c, .int .i64 d] 23 (0, 0))) := (hb.block _ (lt_of_block HG0.out)).trans HG0.out
  clear hb
  go_wp2_with fail
  go_ret2
  exact ⟨rfl, HB1.out⟩
set_option maxRecDepth 20000 in
set_option maxHeartbeats 4000000 in
theorem rnextF_none (a b c d day limit : Int) (A A' : Option Addr) (n n' cp cp' : Nat) (w : World) (hl0 : 0 ≤ limit) (hl4 : limit ≤ 4000)
    (hr : ∀ W, Below w.heap.size w W → Calls Try.prog 17 #[fR a b c d, .slice A n cp, .slice A' n' cp', .int .i64 day] W (Int2 0 0 W)) :
    Calls Try.prog 19 #[fR a b c d, .slice A n cp, .slice A' n' cp', .int .i64 day, .int .i64 limit] w (Int2 0 6 w) := by
  obtain ⟨W0, hW0⟩ : ∃ W0 : World, W0 = w.alloc (.cells #[.int .i64 a, .int .i64 b, .int .i64 c, .int .i64 d] 23) := ⟨_, rfl⟩
  have hb0 : Below w.heap.size w W0 := by rw [hW0]; exact (Below.refl _ _).alloc (Nat.le_refl _) _
  have HB0 := Lib.hid hb0
  have HG0 : Hid (W0.heap[w.heap.size]? = some (.cells #[.int .i64 a, .int .i64 b, .int .i64 c, .int .i64 d] 23 (0, 0))) := by show _ = _; rw [hW0]; exact heap_alloc_new w _
  have HR := Lib.hid hr
  have hl2 : ¬ limit < 0 := by omega
  have hl3 : ¬ 4000 < limit := by omega
  clear hr hb0
  go_enter Try.func19, Try.ntmps19
  go_wp2_with fail
  rw [← hW0]
  clear hW0
  refine (HR.out _ HB0.out).mono ?_
  rintro e w1 ⟨rfl, hb⟩
  have HB1 : Hid (Below w.heap.size w w1) := HB0.out.trans (hb.mono HB0.out.size)
  have HG1 : Hid (w1.heap[w.heap.size]? = some (.cells #[.int .i64 a, .int .i64 b, .int .i64 c, .int .i64 d] 23 (0, 0))) := (hb.block _ (lt_of_block HG0.out)).trans HG0.out
  clear hb
  go_wp2_with fail
  go_ret2
  exact ⟨rfl, HB1.out⟩
set_option maxRecDepth 20000 in
set_option maxHeartbeats 4000000 in
theorem rnextF_go (nm : Nums) (h1 : nm.a ≤ 1000) (h2 : nm.b ≤ 1000) (h3 : nm.c ≤ 1000) (h4 : nm.d ≤ 1000) (day : Int) (limit : Nat) (hlim : limit ≤ 4000) (v : Int) (hv : (v == 0) = false) (A A' : Option Addr) (n n' cp cp' : Nat) (xs ys : List Int) (last : Int) (w : World) (hx : Sl I w w.heap.size A n xs) (hy : Sl I w w.heap.size A' n' ys) (hn : n ≤ 100000) (hn' : n' ≤ 100000) (hok : ∀ x ∈ xs, okD x) (hday : okD day) (hlast : (srt xs)[(srt xs).length - 1]? = some last)
    (hr : ∀ W, Below w.heap.size w W → Calls Try.prog 17 #[fR nm.a nm.b nm.c nm.d, .slice A n cp, .slice A' n' cp', .int .i64 day] W (Int2 v 0 W)) :
    Calls Try.prog 19 #[fR nm.a nm.b nm.c nm.d, .slice A n cp, .slice A' n' cp', .int .i64 day, .int .i64 (limit : Int)] w (Int2 (nextR nm (srt xs) ys last day limit) 0 w) := by
  obtain ⟨W0, hW0⟩ : ∃ W0 : World, W0 = w.alloc (.cells #[.int .i64 nm.a, .int .i64 nm.b, .int .i64 nm.c, .int .i64 nm.d] 23) := ⟨_, rfl⟩
  have hb0 : Below w.heap.size w W0 := by rw [hW0]; exact (Below.refl _ _).alloc (Nat.le_refl _) _
  have HB0 := Lib.hid hb0
  have HG0 : Hid (W0.heap[w.heap.size]? = some (.cells #[.int .i64 nm.a, .int .i64 nm.b, .int .i64 nm.c, .int .i64 nm.d] 23 (0, 0))) := by show _ = _; rw [hW0]; exact heap_alloc_new w _
  have HXF : Hid (∀ W, Below w.heap.size w W → Sl I W W.heap.size A n xs) := fun W h => (hx.up h (Nat.le_refl _)).more' h.size
  have HYF : Hid (∀ W, Below w.heap.size w W → Sl I W W.heap.size A' n' ys) := fun W h => (hy.up h (Nat.le_refl _)).more' h.size
  have HR := Lib.hid hr
  have hls : (srt xs).length ≤ n := by have := srt_len xs; have := hx.1; omega
  have hlm : last ∈ srt xs := List.mem_of_getElem? hlast
  have hlo : okD last := hok last ((srt_mem last xs).1 hlm)
  have hl0 : 0 ≤ last ∧ last ≤ 999999 := hlo
  obtain ⟨hl0, hl1⟩ := hl0
  have hpos : 0 < (srt xs).length := List.length_pos_of_mem hlm
  have HSO : Hid (∀ x ∈ srt xs, okD x) := fun x hx' => hok x ((srt_mem x xs).1 hx')
  have HDO := Lib.hid hday
  have HLS := Lib.hid hlast
  obtain ⟨i0, hi, hz0, hz1, hz2⟩ := info_parts Try.infoInt
  have HI := Lib.hid hi
  have HZ0 := Lib.hid hz0
  have HZ1 := Lib.hid hz1
  have HZ2 := Lib.hid hz2
  obtain ⟨q, hq⟩ : ∃ q, (srt xs).length = q + 1 := ⟨(srt xs).length - 1, by omega⟩
  have HQ := Lib.hid hq
  have hqn : q + 1 ≤ 100000 := by omega
  have HRES : Hid (∀ i : Nat, 1 ≤ i → (∀ k, 1 ≤ k → k < i → rsn nm (ext (srt xs) last k) ys day ≠ 0) → (rsn nm (ext (srt xs) last i) ys day = 0 → i ≤ limit → last + i ≤ 999999 → nextR nm (srt xs) ys last day limit = i) ∧ (¬ (i ≤ limit ∧ last + i ≤ 999999) → nextR nm (srt xs) ys last day limit = 0)) := fun i hi1 hk => by
    constructor
    · intro h0 hil hil2
      unfold nextR
      rw [lst_pos (by omega) (by omega)]
      exact ⟨hi1, by omega, h0, fun j hj1 hj2 => hk j hj1 hj2⟩
    · intro hno
      unfold nextR
      rw [lst_zero (by omega)]
      intro j hj1 hj2
      refine hk j hj1 ?_
      rcases Nat.lt_or_ge j i with h | h
      · exact h
      · exact absurd ⟨by omega, by omega⟩ hno
  obtain ⟨res, hres⟩ : ∃ res, nextR nm (srt xs) ys last day limit = res := ⟨_, rfl⟩
  rw [hres] at HRES ⊢
  have hl2 : ¬ (limit : Int) < 0 := by omega
  have hl3 : ¬ 4000 < (limit : Int) := by omega
  clear hr hx hy hb0 hok hday hlast hlm hlo hpos hq hres hi hz0 hz1 hz2
  go_enter Try.func19, Try.ntmps19
  go_wp2_with fail
  rw [← hW0]
  clear hW0
  refine (HR.out _ HB0.out).mono ?_
  rintro e w1 ⟨rfl, hb⟩
  have HB1 : Hid (Below w.heap.size w w1) := HB0.out.trans (hb.mono HB0.out.size)
  have HG1 : Hid (w1.heap[w.heap.size]? = some (.cells #[.int .i64 nm.a, .int .i64 nm.b, .int .i64 nm.c, .int .i64 nm.d] 23 (0, 0))) := (hb.block _ (lt_of_block HG0.out)).trans HG0.out
  clear hb
  go_wp2_with fail
  refine (rsorted_any A n cp xs w1 (HXF.out w1 HB1.out) (by omega)).mono ?_
  rintro e w2 ⟨v2, rfl, ho2, hb⟩
  have HB2 : Hid (Below w.heap.size w w2) := HB1.out.trans (hb.mono HB1.out.size)
  have HG2 : Hid (w2.heap[w.heap.size]? = some (.cells #[.int .i64 nm.a, .int .i64 nm.b, .int .i64 nm.c, .int .i64 nm.d] 23 (0, 0))) := (hb.block _ (lt_of_block HG1.out)).trans HG1.out
  have HO2 := Lib.hid ho2
  have HZ12 : Hid (w1.heap.size ≤ w2.heap.size) := hb.size
  obtain ⟨A2, c2, rfl, hc2, hs2, _⟩ := ho2.shape
  rw [HQ.out]
  have hci := hs2.at_ (k := q) (by have := HQ.out; omega)
  obtain ⟨b2, off2, y, rfl, _, hyk, hcy⟩ := hci
  obtain rfl : last = y := by have h5 := HLS.out; rw [HQ.out, Nat.add_sub_cancel] at h5; exact Option.some.inj (h5.symm.trans hyk)
  have HLT : Hid (w.heap.size < w1.heap.size) := lt_of_block HG1.out
  have HC2 := Lib.hid hc2
  clear ho2 hs2 hyk hc2
  clear hb
  have hsz : Hid (w1.heap.size ≤ w2.heap.size) := by
    show _ ≤ _
    exact HZ12.out
  have HO3 : Hid (Own I 3 w2 w1.heap.size (.slice (some ⟨b2, off2, none⟩) (q + 1) c2) (ext (srt xs) last 0)) := by
    show Own _ _ _ _ _ _
    have h5 := HO2.out
    rw [HQ.out] at h5
    exact h5
  clear HO2
  go_wp2
  clear hcy
  go_loopw [14, 16] (fun v i wr => ∃ j : Nat, 1 ≤ j ∧ j ≤ limit + 1 ∧ last + j ≤ 1000000 ∧ i = .int .i64 j ∧ Hid (Own I 3 wr w1.heap.size v (ext (srt xs) last (j - 1))) ∧ Hid (∀ k, 1 ≤ k → k < j → rsn nm (ext (srt xs) last k) ys day ≠ 0) ∧ Hid (Below w.heap.size w wr) ∧ Hid (wr.heap[w.heap.size]? = some (.cells #[.int .i64 nm.a, .int .i64 nm.b, .int .i64 nm.c, .int .i64 nm.d] 23 (0, 0))) ∧ Hid (w1.heap.size ≤ wr.heap.size)) (fun _ i _ => 4002 - (intOf i).toNat)
  case atStart => exact ⟨1, by omega, by omega, by omega, rfl, HO3, fun k h5 h6 => absurd h6 (by omega), HB2, HG2, hsz⟩
  case round =>
    obtain ⟨j, hj1, hj2, hj3, rfl, HV0, HK0, HBW, HGW, HSZ⟩ := hrel
    clear HO3 HB2 HG2
    by_cases hgo : j ≤ limit ∧ last + j ≤ 999999
    · obtain ⟨hg1, hg2⟩ := hgo
      have hel := ext_len (srt xs) last (j - 1)
      rw [HQ.out] at hel
      have HEX : Hid (ext (srt xs) last j = ext (srt xs) last (j - 1) ++ [last + j]) := by
        show _ = _
        obtain ⟨p, rfl⟩ : ∃ p, j = p + 1 := ⟨j - 1, by omega⟩
        rw [ext, if_pos (by omega), Nat.add_sub_cancel]
        rfl
      have HEO : Hid (∀ x ∈ ext (srt xs) last j, okD x) := ext_ok HSO.out hl0 j
      have HK1 : Hid (((ext (srt xs) last (j - 1)).length + 1) * 8 ≤ 140737488355328) := by show _ ≤ _; omega
      have HK2 : Hid ((ext (srt xs) last (j - 1)).length + 1 ≤ maxLen) := by show _ ≤ _; unfold maxLen; omega
      have hel2 := ext_len (srt xs) last j
      rw [HQ.out] at hel2
      obtain ⟨r, hr⟩ : ∃ r, rsn nm (ext (srt xs) last j) ys day = r := ⟨_, rfl⟩
      have HRR := Lib.hid hr
      have HNN : Hid (∀ k, 1 ≤ k → k < j + 1 → r ≠ 0 → rsn nm (ext (srt xs) last k) ys day ≠ 0) := fun k h5 h6 h7 => by
        rcases Nat.lt_or_ge k j with h | h
        · exact HK0.out k h5 h
        · obtain rfl : k = j := by omega
          rw [hr]; exact h7
      have HRES2 : Hid (r = 0 → res = j) := fun h5 => (HRES.out j hj1 HK0.out).1 (hr.trans h5) hg1 hg2
      clear hr hel
      go_wp2_with ((with_reducible refine wpList_app1 (o := ⟨some 60, _, _, _, _, _⟩) rfl (.tmp 55) (.tmp 59) 26 rfl 3 i0 (.int .i64 0) 8 Try.underlying26 HI.out HZ0.out HZ1.out HZ2.out rfl _ _ w1.heap.size rfl HV0.out (last + j) 1 rfl I1 HK1.out HK2.out HSZ.out ?_); intro v6 w6 HO6 HG6 HV6; (have HB6 : Hid (Below w.heap.size w w6) := HV0.out.below HBW.out (Nat.le_of_lt HLT.out) HBW.out.size HG6.out); (have HG7 : Hid (w6.heap[w.heap.size]? = some (.cells #[.int .i64 nm.a, .int .i64 nm.b, .int .i64 nm.c, .int .i64 nm.d] 23 (0, 0))) := (HG6.out.block _ (lt_of_block HGW.out) (fun e => by have h5 := (World.ownsRow.lt HV0.out _ e.symm).1; have h6 := HLT.out; omega)).trans HGW.out); (have HO7 : Hid (Own I 3 w6 w1.heap.size v6 (ext (srt xs) last j)) := by show Own _ _ _ _ _ _; rw [HEX.out]; exact HO6.out); obtain ⟨A6, c6, rfl, _, hs6, _⟩ := HO7.out.shape; (have HS6 : Hid (Sl I w6 w6.heap.size A6 (ext (srt xs) last j).length (ext (srt xs) last j)) := ⟨rfl, hs6⟩); (have HZ6 : Hid (w1.heap.size ≤ w6.heap.size) := Nat.le_trans HSZ.out HG6.out.size); (have g0 := cell_of_row w6 w.heap.size 0 _ _ _ HG7.out); (have g1 := cell_of_row w6 w.heap.size 1 _ _ _ HG7.out); (have g2 := cell_of_row w6 w.heap.size 2 _ _ _ HG7.out); (have g3 := cell_of_row w6 w.heap.size 3 _ _ _ HG7.out); simp at g0 g1 g2 g3; clear hs6 HO6 HG6 HV6 HV0 HBW HGW HSZ)
      refine (rreason_any nm h1 h2 h3 h4 day A6 A' _ n' c6 cp' (ext (srt xs) last j) ys w6 HS6.out (HYF.out w6 HB6.out) (by omega) (by omega) HEO.out HDO.out).mono ?_
      rintro e w7 ⟨rfl, hb⟩
      have HB7 : Hid (Below w.heap.size w w7) := HB6.out.trans (hb.mono HB6.out.size)
      have HG8 : Hid (w7.heap[w.heap.size]? = some (.cells #[.int .i64 nm.a, .int .i64 nm.b, .int .i64 nm.c, .int .i64 nm.d] 23 (0, 0))) := (hb.block _ (lt_of_block HG7.out)).trans HG7.out
      have HO8 := Lib.hid (HO7.out.on hb)
      have HZ7 : Hid (w1.heap.size ≤ w7.heap.size) := Nat.le_trans HZ6.out hb.size
      clear hb hel2
      rw [HRR.out]
      by_cases h0 : r = 0
      · have hb0 : (r == 0) = true := by simp [h0]
        have HRJ : Hid (res = j) := HRES2.out h0
        clear h0
        go_wp2
        go_ret2
        exact ⟨by rw [HRJ.out]; rfl, HB7.out⟩
      · have hb0 : (r == 0) = false := by simp [h0]
        have HK9 : Hid (∀ k, 1 ≤ k → k < j + 1 → rsn nm (ext (srt xs) last k) ys day ≠ 0) := fun k h5 h6 => HNN.out k h5 h6 h0
        clear h0
        go_wp2
        go_roundw
        case rel => exact ⟨j + 1, by omega, by omega, by omega, by go_num, HO8, HK9, HB7, HG8, HZ7⟩
        case measure => simp [intOf]; omega
    · have HRJ : Hid (res = 0) := (HRES.out j hj1 HK0.out).2 hgo
      by_cases hg1 : j ≤ limit
      · have hg2 : ¬ last + (j : Int) ≤ 999999 := fun h5 => hgo ⟨hg1, h5⟩
        clear hgo
        go_wp2
        go_ret2
        exact ⟨by rw [HRJ.out]; rfl, HBW.out⟩
      · clear hgo
        go_wp2
        go_ret2
        exact ⟨by rw [HRJ.out]; rfl, HBW.out⟩
end Go.Proofs.Ytfffhdclbdmfnaa
