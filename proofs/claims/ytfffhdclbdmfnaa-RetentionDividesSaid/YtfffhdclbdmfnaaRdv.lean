/- The reference: divide, Keep, Drop, Reasons. -/
import Derived.Test.YtfffhdclbdmfnaaRst2
import Derived.Test.YtfffhdclbdmfnaaRsn
import Derived.Test.YtfffhdclbdmfnaaLw0
namespace Go.Proofs.Ytfffhdclbdmfnaa
open Go.RowKit Ret
set_option linter.unusedVariables false
set_option linter.unusedSimpArgs false

def selL (k : Bool) (nm : Nums) (xs ys : List Int) (y : Int) : Bool := (decide (0 < rsn nm xs ys y)) == k
def partL (k : Bool) (nm : Nums) (xs ys : List Int) : List Int := (srt xs).filter (selL k nm xs ys)
theorem Own.base_le {α : Type} {f : α → Value} {e : TypeId} {w : World} {base : Nat} {v : Value} {xs : List α} {j : Nat} (h : Own f e w base v xs) (hj : j < xs.length) : base ≤ w.heap.size := by
  rcases h.2 with ⟨_, h0⟩ | ⟨g, cap, cur, rfl, hb, _⟩
  · omega
  · have := (World.ownsRow.lt h g rfl).2
    omega
theorem partL_true (nm : Nums) (xs ys : List Int) : partL true nm xs ys = keptL nm xs ys := by
  unfold partL keptL
  refine List.filter_congr fun y _ => ?_
  have := rsn_nonneg nm xs ys y
  by_cases h : rsn nm xs ys y = 0
  · simp [selL, h]
  · have : 0 < rsn nm xs ys y := by omega
    simp [selL, h, this]
theorem partL_false (nm : Nums) (xs ys : List Int) : partL false nm xs ys = dropL nm xs ys := by
  unfold partL dropL
  refine List.filter_congr fun y _ => ?_
  have := rsn_nonneg nm xs ys y
  by_cases h : rsn nm xs ys y = 0
  · simp [selL, h]
  · have : 0 < rsn nm xs ys y := by omega
    simp [selL, h, this]
set_option maxRecDepth 20000 in
set_option maxHeartbeats 4000000 in
theorem rdivide_no (a b c d : Int) (A A' : Option Addr) (n n' cp cp' : Nat) (xs ys : List Int) (w : World) (hx : Sl I w w.heap.size A n xs) (hy : Sl I w w.heap.size A' n' ys) (hn : n ≤ 100000) (hn' : n' ≤ 100000) (kept : Bool) (hb : argB a b c d xs ys = false) :
    Calls Try.prog 41 #[fR a b c d, .slice A n cp, .slice A' n' cp', .bool kept] w (Slc2 I ([] : List Int) 1 w) := by
  obtain ⟨W0, hW0⟩ : ∃ W0 : World, W0 = w.alloc (.cells #[.int .i64 a, .int .i64 b, .int .i64 c, .int .i64 d] 23) := ⟨_, rfl⟩
  have hb0 : Below w.heap.size w W0 := by rw [hW0]; exact (Below.refl _ _).alloc (Nat.le_refl _) _
  have HB0 := Lib.hid hb0
  have HG0 : Hid (W0.heap[w.heap.size]? = some (.cells #[.int .i64 a, .int .i64 b, .int .i64 c, .int .i64 d] 23 (0, 0))) := by show _ = _; rw [hW0]; exact heap_alloc_new w _
  have HX0 : Hid (Sl I W0 W0.heap.size A n xs) := (hx.up hb0 (Nat.le_refl _)).more' hb0.size
  have HY0 : Hid (Sl I W0 W0.heap.size A' n' ys) := (hy.up hb0 (Nat.le_refl _)).more' hb0.size
  have HC := Lib.hid (rchk_any a b c d A A' n n' cp cp' xs ys W0 HX0.out HY0.out (by omega) (by omega))
  rw [argE, hb] at HC
  clear hx hy hb hb0
  go_enter Try.func41, Try.ntmps41
  go_wp2_with fail
  rw [← hW0]
  clear hW0
  refine (HC.out).mono ?_
  rintro e w1 ⟨rfl, hb⟩
  have HB1 : Hid (Below w.heap.size w w1) := HB0.out.trans (hb.mono HB0.out.size)
  have HG1 : Hid (w1.heap[w.heap.size]? = some (.cells #[.int .i64 a, .int .i64 b, .int .i64 c, .int .i64 d] 23 (0, 0))) := (hb.block _ (lt_of_block HG0.out)).trans HG0.out
  have HX1 : Hid (Sl I w1 w1.heap.size A n xs) := (HX0.out.up hb (Nat.le_refl _)).more' hb.size
  have HY1 : Hid (Sl I w1 w1.heap.size A' n' ys) := (HY0.out.up hb (Nat.le_refl _)).more' hb.size
  clear hb
  go_wp2_with fail
  go_ret2
  exact ⟨none, 0, 0, rfl, Nat.le_refl _, ⟨rfl, SL.nil⟩, HB1.out⟩
set_option maxRecDepth 20000 in
set_option maxHeartbeats 4000000 in
theorem rdivide_yes (nm : Nums) (h1 : nm.a ≤ 1000) (h2 : nm.b ≤ 1000) (h3 : nm.c ≤ 1000) (h4 : nm.d ≤ 1000) (A A' : Option Addr) (n n' cp cp' : Nat) (xs ys : List Int) (w : World) (hx : Sl I w w.heap.size A n xs) (hy : Sl I w w.heap.size A' n' ys) (hn : n ≤ 100000) (hn' : n' ≤ 100000) (kept : Bool) (hb : argB nm.a nm.b nm.c nm.d xs ys = true) :
    Calls Try.prog 41 #[fR nm.a nm.b nm.c nm.d, .slice A n cp, .slice A' n' cp', .bool kept] w (Slc2 I (partL kept nm xs ys) 0 w) := by
  obtain ⟨W0, hW0⟩ : ∃ W0 : World, W0 = w.alloc (.cells #[.int .i64 nm.a, .int .i64 nm.b, .int .i64 nm.c, .int .i64 nm.d] 23) := ⟨_, rfl⟩
  have hb0 : Below w.heap.size w W0 := by rw [hW0]; exact (Below.refl _ _).alloc (Nat.le_refl _) _
  have HB0 := Lib.hid hb0
  have HG0 : Hid (W0.heap[w.heap.size]? = some (.cells #[.int .i64 nm.a, .int .i64 nm.b, .int .i64 nm.c, .int .i64 nm.d] 23 (0, 0))) := by show _ = _; rw [hW0]; exact heap_alloc_new w _
  have HX0 : Hid (Sl I W0 W0.heap.size A n xs) := (hx.up hb0 (Nat.le_refl _)).more' hb0.size
  have HY0 : Hid (Sl I W0 W0.heap.size A' n' ys) := (hy.up hb0 (Nat.le_refl _)).more' hb0.size
  have HC := Lib.hid (rchk_any nm.a nm.b nm.c nm.d A A' n n' cp cp' xs ys W0 HX0.out HY0.out (by omega) (by omega))
  rw [argE, hb] at HC
  simp only [if_true] at HC
  have HXF : Hid (∀ W, Below w.heap.size w W → Sl I W W.heap.size A n xs) := fun W h => (hx.up h (Nat.le_refl _)).more' h.size
  have HYF : Hid (∀ W, Below w.heap.size w W → Sl I W W.heap.size A' n' ys) := fun W h => (hy.up h (Nat.le_refl _)).more' h.size
  have HOK : Hid (∀ x ∈ xs, okD x) := argB_days hb
  have hlen := srt_len xs
  rw [hx.1] at hlen
  obtain ⟨i0, hi, hz0, hz1, hz2⟩ := info_parts Try.infoInt
  have HI := Lib.hid hi
  have HZ0 := Lib.hid hz0
  have HZ1 := Lib.hid hz1
  have HZ2 := Lib.hid hz2
  clear hx hy hb hb0 hi hz0 hz1 hz2
  go_enter Try.func41, Try.ntmps41
  go_wp2_with fail
  rw [← hW0]
  clear hW0
  refine (HC.out).mono ?_
  rintro e w1 ⟨rfl, hb⟩
  have HB1 : Hid (Below w.heap.size w w1) := HB0.out.trans (hb.mono HB0.out.size)
  have HG1 : Hid (w1.heap[w.heap.size]? = some (.cells #[.int .i64 nm.a, .int .i64 nm.b, .int .i64 nm.c, .int .i64 nm.d] 23 (0, 0))) := (hb.block _ (lt_of_block HG0.out)).trans HG0.out
  have HX1 : Hid (Sl I w1 w1.heap.size A n xs) := (HX0.out.up hb (Nat.le_refl _)).more' hb.size
  have HY1 : Hid (Sl I w1 w1.heap.size A' n' ys) := (HY0.out.up hb (Nat.le_refl _)).more' hb.size
  clear hb
  have hb : Below w1.heap.size w1 (w1.alloc (.cells #[] 3)) := (Below.refl _ _).alloc (Nat.le_refl _) _
  obtain ⟨w2, hw2⟩ : ∃ w2 : World, w2 = w1.alloc (.cells #[] 3) := ⟨_, rfl⟩
  rw [← hw2] at hb
  have HB2 : Hid (Below w.heap.size w w2) := HB1.out.trans (hb.mono HB1.out.size)
  have HG2 : Hid (w2.heap[w.heap.size]? = some (.cells #[.int .i64 nm.a, .int .i64 nm.b, .int .i64 nm.c, .int .i64 nm.d] 23 (0, 0))) := (hb.block _ (lt_of_block HG1.out)).trans HG1.out
  have HX2 : Hid (Sl I w2 w2.heap.size A n xs) := (HX1.out.up hb (Nat.le_refl _)).more' hb.size
  have HY2 : Hid (Sl I w2 w2.heap.size A' n' ys) := (HY1.out.up hb (Nat.le_refl _)).more' hb.size
  have HO2 : Hid (Own I 3 w2 w1.heap.size (.slice (some ⟨w1.heap.size, 0, none⟩) 0 0) []) := by show Own _ _ _ _ _ _; rw [hw2]; exact World.ownsRow_lit w1 #[] 0 (Nat.le_refl _) (by unfold maxLen; omega) rfl
  have hs2 : w1.heap.size < w2.heap.size := by rw [hw2]; simp
  clear hb
  go_wp2_with fail
  rw [← hw2]
  clear hw2
  refine (rsorted_any A n cp xs w2 HX2.out (by omega)).mono ?_
  rintro e w3 ⟨v3, rfl, ho3, hb⟩
  have HB3 : Hid (Below w.heap.size w w3) := HB2.out.trans (hb.mono HB2.out.size)
  have HG3 : Hid (w3.heap[w.heap.size]? = some (.cells #[.int .i64 nm.a, .int .i64 nm.b, .int .i64 nm.c, .int .i64 nm.d] 23 (0, 0))) := (hb.block _ (lt_of_block HG2.out)).trans HG2.out
  have HX3 : Hid (Sl I w3 w3.heap.size A n xs) := (HX2.out.up hb (Nat.le_refl _)).more' hb.size
  have HY3 : Hid (Sl I w3 w3.heap.size A' n' ys) := (HY2.out.up hb (Nat.le_refl _)).more' hb.size
  have HO3 := Lib.hid (HO2.out.on hb)
  have HS3 := Lib.hid ho3
  have HD3 : Hid (v3.ownBlock = none ∨ v3.ownBlock ≠ some w1.heap.size) := by
    rcases hk : v3.ownBlock with _ | k
    · exact .inl rfl
    · exact .inr (fun e => by have h5 := (World.ownsRow.lt ho3 k hk).1; injection e with e; omega)
  obtain ⟨A3, c3, rfl, hc3, _, _⟩ := ho3.shape
  clear ho3
  clear hb
  have HLE : Hid (w1.heap.size ≤ w2.heap.size) := Nat.le_of_lt hs2
  clear hs2
  go_wp2
  go_loopw [11, 25] (fun v i wr => ∃ j : Nat, j ≤ (srt xs).length ∧ i = .int .i64 j ∧ Hid (Own I 3 wr w1.heap.size v (((srt xs).take j).filter (selL kept nm xs ys))) ∧ Hid (Own I 3 wr w2.heap.size (.slice A3 (srt xs).length c3) (srt xs)) ∧ Hid ((Value.slice A3 (srt xs).length c3).ownBlock = none ∨ (Value.slice A3 (srt xs).length c3).ownBlock ≠ v.ownBlock) ∧ Hid (Below w.heap.size w wr) ∧ Hid (wr.heap[w.heap.size]? = some (.cells #[.int .i64 nm.a, .int .i64 nm.b, .int .i64 nm.c, .int .i64 nm.d] 23 (0, 0))) ∧ Hid (w.heap.size < w1.heap.size)) (fun _ i _ => (srt xs).length - (intOf i).toNat)
  case atStart => exact ⟨0, Nat.zero_le _, rfl, HO3, HS3, HD3, HB3, HG3, lt_of_block HG1.out⟩
  case round =>
    obtain ⟨j, hj, rfl, HV0, HT0, HDJ, HBW, HGW, HLT⟩ := hrel
    clear HS3 HD3 HB3 HG3 HO3
    by_cases hlt : j < (srt xs).length
    · obtain ⟨A5, c5, hv5, _, hs5, _⟩ := HT0.out.shape
      obtain ⟨rfl, rfl⟩ : A5 = A3 ∧ c5 = c3 := by simpa using hv5.symm
      obtain ⟨b5, off5, y, rfl, _, hyk, hcy⟩ := hs5.at_ (k := j) hlt
      have HYK := Lib.hid hyk
      have hym : y ∈ xs := (srt_mem y xs).1 (List.mem_of_getElem? hyk)
      have HYO : Hid (okD y) := HOK.out y hym
      have HTK : Hid ((srt xs).take (j + 1) = (srt xs).take j ++ [y]) := take_snoc hyk
      obtain ⟨r, hr⟩ : ∃ r, rsn nm xs ys y = r := ⟨_, rfl⟩
      have hbd := rsn_nonneg nm xs ys y
      rw [hr] at hbd
      obtain ⟨hr0, hr1⟩ := hbd
      have HR := Lib.hid hr
      have g0 := cell_of_row wr w.heap.size 0 _ _ _ HGW.out
      have g1 := cell_of_row wr w.heap.size 1 _ _ _ HGW.out
      have g2 := cell_of_row wr w.heap.size 2 _ _ _ HGW.out
      have g3 := cell_of_row wr w.heap.size 3 _ _ _ HGW.out
      simp at g0 g1 g2 g3
      have hll : (((srt xs).take j).filter (selL kept nm xs ys)).length ≤ n := by
        have h5 := List.length_filter_le (selL kept nm xs ys) ((srt xs).take j)
        rw [List.length_take] at h5
        omega
      have HK1 : Hid (((((srt xs).take j).filter (selL kept nm xs ys)).length + 1) * 8 ≤ 140737488355328) := by show _ ≤ _; omega
      have HK2 : Hid ((((srt xs).take j).filter (selL kept nm xs ys)).length + 1 ≤ maxLen) := by show _ ≤ _; unfold maxLen; omega
      have hone : True := trivial
      clear hyk hym hr hs5 hv5 hll hone
      go_wp2_with fail
      clear g0 g1 g2 g3
      refine (rreason_any nm h1 h2 h3 h4 y A A' n n' cp cp' xs ys wr (HXF.out wr HBW.out) (HYF.out wr HBW.out) (by omega) (by omega) HOK.out HYO.out).mono ?_
      rintro e w4 ⟨rfl, hb⟩
      have HB4 : Hid (Below w.heap.size w w4) := HBW.out.trans (hb.mono HBW.out.size)
      have HG4 : Hid (w4.heap[w.heap.size]? = some (.cells #[.int .i64 nm.a, .int .i64 nm.b, .int .i64 nm.c, .int .i64 nm.d] 23 (0, 0))) := (hb.block _ (lt_of_block HGW.out)).trans HGW.out
      have HV4 := Lib.hid (HV0.out.on hb)
      have HT4 := Lib.hid (HT0.out.on hb)
      have HL4 : Hid (w1.heap.size ≤ w4.heap.size) := by
        have h5 := hb.size
        have h6 := HT0.out
        show _ ≤ _
        exact Nat.le_trans (Nat.le_trans HLE.out (HT0.out.base_le hlt)) hb.size
      clear hb
      rw [HR.out]
      cases kept
      · by_cases h0 : 0 < r
        · have hd : decide (0 < r) = true := by simp [h0]
          have HSL : Hid (selL false nm xs ys y = false) := by show _ = _; unfold selL; rw [HR.out, hd]; rfl
          have HF : Hid (((srt xs).take (j + 1)).filter (selL false nm xs ys) = ((srt xs).take j).filter (selL false nm xs ys)) := by
            show _ = _
            rw [HTK.out, List.filter_append]
            simp [HSL.out]
          clear h0
          go_wp2
          go_roundw
          case rel => exact ⟨j + 1, by omega, by go_num, by show Own _ _ _ _ _ _; rw [HF.out]; exact HV4.out, HT4, HDJ, HB4, HG4, HLT⟩
          case measure => simp [intOf]; omega
        · have hd : decide (0 < r) = false := by simp [h0]
          have HSL : Hid (selL false nm xs ys y = true) := by show _ = _; unfold selL; rw [HR.out, hd]; rfl
          have HF : Hid (((srt xs).take (j + 1)).filter (selL false nm xs ys) = ((srt xs).take j).filter (selL false nm xs ys) ++ [y]) := by
            show _ = _
            rw [HTK.out, List.filter_append]
            simp [HSL.out]
          clear h0
          go_wp2_with (with_reducible refine wpList_app1 (o := ⟨some 40, _, _, _, _, _⟩) rfl (.tmp 37) (.tmp 39) 26 rfl 3 i0 (.int .i64 0) 8 Try.underlying26 HI.out HZ0.out HZ1.out HZ2.out rfl _ _ w1.heap.size rfl HV4.out y 1 rfl I1 HK1.out HK2.out HL4.out ?_; intro v6 w6 HO6 HG6 HV6)
          go_roundw
          case rel => exact ⟨j + 1, by omega, by go_num, by show Own _ _ _ _ _ _; rw [HF.out]; exact HO6.out, HT4.out.kept HG6.out HDJ.out, own_apart HT4.out HDJ.out HV6.out, HV4.out.below HB4.out (Nat.le_of_lt HLT.out) HB4.out.size HG6.out, (HG6.out.block _ (lt_of_block HG4.out) (fun e => by have h5 := (World.ownsRow.lt HV4.out _ e.symm).1; have h6 := HLT.out; omega)).trans HG4.out, HLT⟩
          case measure => simp [intOf]; omega
      · by_cases h0 : 0 < r
        · have hd : decide (0 < r) = true := by simp [h0]
          have HSL : Hid (selL true nm xs ys y = true) := by show _ = _; unfold selL; rw [HR.out, hd]; rfl
          have HF : Hid (((srt xs).take (j + 1)).filter (selL true nm xs ys) = ((srt xs).take j).filter (selL true nm xs ys) ++ [y]) := by
            show _ = _
            rw [HTK.out, List.filter_append]
            simp [HSL.out]
          clear h0
          go_wp2_with (with_reducible refine wpList_app1 (o := ⟨some 40, _, _, _, _, _⟩) rfl (.tmp 37) (.tmp 39) 26 rfl 3 i0 (.int .i64 0) 8 Try.underlying26 HI.out HZ0.out HZ1.out HZ2.out rfl _ _ w1.heap.size rfl HV4.out y 1 rfl I1 HK1.out HK2.out HL4.out ?_; intro v6 w6 HO6 HG6 HV6)
          go_roundw
          case rel => exact ⟨j + 1, by omega, by go_num, by show Own _ _ _ _ _ _; rw [HF.out]; exact HO6.out, HT4.out.kept HG6.out HDJ.out, own_apart HT4.out HDJ.out HV6.out, HV4.out.below HB4.out (Nat.le_of_lt HLT.out) HB4.out.size HG6.out, (HG6.out.block _ (lt_of_block HG4.out) (fun e => by have h5 := (World.ownsRow.lt HV4.out _ e.symm).1; have h6 := HLT.out; omega)).trans HG4.out, HLT⟩
          case measure => simp [intOf]; omega
        · have hd : decide (0 < r) = false := by simp [h0]
          have HSL : Hid (selL true nm xs ys y = false) := by show _ = _; unfold selL; rw [HR.out, hd]; rfl
          have HF : Hid (((srt xs).take (j + 1)).filter (selL true nm xs ys) = ((srt xs).take j).filter (selL true nm xs ys)) := by
            show _ = _
            rw [HTK.out, List.filter_append]
            simp [HSL.out]
          clear h0
          go_wp2
          go_roundw
          case rel => exact ⟨j + 1, by omega, by go_num, by show Own _ _ _ _ _ _; rw [HF.out]; exact HV4.out, HT4, HDJ, HB4, HG4, HLT⟩
          case measure => simp [intOf]; omega
    · obtain rfl : j = (srt xs).length := by omega
      have HV2 := HV0.out
      rw [List.take_length] at HV2
      obtain ⟨A5, c5, rfl, hc5, hs5, _⟩ := HV2.shape
      have HS5 := Lib.hid hs5
      have HC5 := Lib.hid hc5
      clear hc5 hs5 HV2
      go_wp2
      go_ret2
      exact ⟨_, _, _, rfl, HC5.out, ⟨rfl, HS5.out⟩, HBW.out⟩
set_option maxRecDepth 20000 in
set_option maxHeartbeats 4000000 in
theorem rkeep_walk (a b c d : Int) (A A' : Option Addr) (n n' cp cp' : Nat) (k : List Int) (er : Int) (w : World)
    (hD : Calls Try.prog 41 #[fR a b c d, .slice A n cp, .slice A' n' cp', .bool true] (w.alloc (.cells #[.int .i64 a, .int .i64 b, .int .i64 c, .int .i64 d] 23)) (Slc2 I k er (w.alloc (.cells #[.int .i64 a, .int .i64 b, .int .i64 c, .int .i64 d] 23)))) :
    Calls Try.prog 26 #[fR a b c d, .slice A n cp, .slice A' n' cp'] w (Slc2 I k er w) := by
  have HD := Lib.hid hD
  have HB0 : Hid (Below w.heap.size w (w.alloc (.cells #[.int .i64 a, .int .i64 b, .int .i64 c, .int .i64 d] 23))) := (Below.refl _ _).alloc (Nat.le_refl _) _
  clear hD
  go_enter Try.func26, Try.ntmps26
  go_wp2_with fail
  refine HD.out.mono ?_
  rintro e w1 ⟨A1, n1, c1, rfl, hc1, hs1, hb⟩
  have HC1 := Lib.hid hc1
  have HS1 := Lib.hid hs1
  have HB : Hid (Below w.heap.size w w1) := HB0.out.trans (hb.mono (by simp))
  clear hc1 hs1 hb
  go_wp2_with fail
  go_ret2
  exact ⟨_, _, _, rfl, HC1.out, HS1.out, HB.out⟩
theorem rkeep_no (a b c d : Int) (A A' : Option Addr) (n n' cp cp' : Nat) (xs ys : List Int) (w : World) (hx : Sl I w w.heap.size A n xs) (hy : Sl I w w.heap.size A' n' ys) (hn : n ≤ 100000) (hn' : n' ≤ 100000) (hb : argB a b c d xs ys = false) : Calls Try.prog 26 #[fR a b c d, .slice A n cp, .slice A' n' cp'] w (Slc2 I ([] : List Int) 1 w) := by
  have hb0 : Below w.heap.size w (w.alloc (.cells #[.int .i64 a, .int .i64 b, .int .i64 c, .int .i64 d] 23)) := (Below.refl _ _).alloc (Nat.le_refl _) _
  exact rkeep_walk a b c d A A' n n' cp cp' _ _ w (rdivide_no a b c d A A' n n' cp cp' xs ys _ ((hx.up hb0 (Nat.le_refl _)).more' hb0.size) ((hy.up hb0 (Nat.le_refl _)).more' hb0.size) hn hn' true hb)
theorem rkeep_yes (nm : Nums) (h1 : nm.a ≤ 1000) (h2 : nm.b ≤ 1000) (h3 : nm.c ≤ 1000) (h4 : nm.d ≤ 1000) (A A' : Option Addr) (n n' cp cp' : Nat) (xs ys : List Int) (w : World) (hx : Sl I w w.heap.size A n xs) (hy : Sl I w w.heap.size A' n' ys) (hn : n ≤ 100000) (hn' : n' ≤ 100000) (hb : argB nm.a nm.b nm.c nm.d xs ys = true) : Calls Try.prog 26 #[fR nm.a nm.b nm.c nm.d, .slice A n cp, .slice A' n' cp'] w (Slc2 I (keptL nm xs ys) 0 w) := by
  have hb0 : Below w.heap.size w (w.alloc (.cells #[.int .i64 nm.a, .int .i64 nm.b, .int .i64 nm.c, .int .i64 nm.d] 23)) := (Below.refl _ _).alloc (Nat.le_refl _) _
  rw [← partL_true]
  exact rkeep_walk nm.a nm.b nm.c nm.d A A' n n' cp cp' _ _ w (rdivide_yes nm h1 h2 h3 h4 A A' n n' cp cp' xs ys _ ((hx.up hb0 (Nat.le_refl _)).more' hb0.size) ((hy.up hb0 (Nat.le_refl _)).more' hb0.size) hn hn' true hb)
set_option maxRecDepth 20000 in
set_option maxHeartbeats 4000000 in
theorem rdrop_walk (a b c d : Int) (A A' : Option Addr) (n n' cp cp' : Nat) (k : List Int) (er : Int) (w : World)
    (hD : Calls Try.prog 41 #[fR a b c d, .slice A n cp, .slice A' n' cp', .bool false] (w.alloc (.cells #[.int .i64 a, .int .i64 b, .int .i64 c, .int .i64 d] 23)) (Slc2 I k er (w.alloc (.cells #[.int .i64 a, .int .i64 b, .int .i64 c, .int .i64 d] 23)))) :
    Calls Try.prog 27 #[fR a b c d, .slice A n cp, .slice A' n' cp'] w (Slc2 I k er w) := by
  have HD := Lib.hid hD
  have HB0 : Hid (Below w.heap.size w (w.alloc (.cells #[.int .i64 a, .int .i64 b, .int .i64 c, .int .i64 d] 23))) := (Below.refl _ _).alloc (Nat.le_refl _) _
  clear hD
  go_enter Try.func27, Try.ntmps27
  go_wp2_with fail
  refine HD.out.mono ?_
  rintro e w1 ⟨A1, n1, c1, rfl, hc1, hs1, hb⟩
  have HC1 := Lib.hid hc1
  have HS1 := Lib.hid hs1
  have HB : Hid (Below w.heap.size w w1) := HB0.out.trans (hb.mono (by simp))
  clear hc1 hs1 hb
  go_wp2_with fail
  go_ret2
  exact ⟨_, _, _, rfl, HC1.out, HS1.out, HB.out⟩
theorem rdrop_no (a b c d : Int) (A A' : Option Addr) (n n' cp cp' : Nat) (xs ys : List Int) (w : World) (hx : Sl I w w.heap.size A n xs) (hy : Sl I w w.heap.size A' n' ys) (hn : n ≤ 100000) (hn' : n' ≤ 100000) (hb : argB a b c d xs ys = false) : Calls Try.prog 27 #[fR a b c d, .slice A n cp, .slice A' n' cp'] w (Slc2 I ([] : List Int) 1 w) := by
  have hb0 : Below w.heap.size w (w.alloc (.cells #[.int .i64 a, .int .i64 b, .int .i64 c, .int .i64 d] 23)) := (Below.refl _ _).alloc (Nat.le_refl _) _
  exact rdrop_walk a b c d A A' n n' cp cp' _ _ w (rdivide_no a b c d A A' n n' cp cp' xs ys _ ((hx.up hb0 (Nat.le_refl _)).more' hb0.size) ((hy.up hb0 (Nat.le_refl _)).more' hb0.size) hn hn' false hb)
theorem rdrop_yes (nm : Nums) (h1 : nm.a ≤ 1000) (h2 : nm.b ≤ 1000) (h3 : nm.c ≤ 1000) (h4 : nm.d ≤ 1000) (A A' : Option Addr) (n n' cp cp' : Nat) (xs ys : List Int) (w : World) (hx : Sl I w w.heap.size A n xs) (hy : Sl I w w.heap.size A' n' ys) (hn : n ≤ 100000) (hn' : n' ≤ 100000) (hb : argB nm.a nm.b nm.c nm.d xs ys = true) : Calls Try.prog 27 #[fR nm.a nm.b nm.c nm.d, .slice A n cp, .slice A' n' cp'] w (Slc2 I (dropL nm xs ys) 0 w) := by
  have hb0 : Below w.heap.size w (w.alloc (.cells #[.int .i64 nm.a, .int .i64 nm.b, .int .i64 nm.c, .int .i64 nm.d] 23)) := (Below.refl _ _).alloc (Nat.le_refl _) _
  rw [← partL_false]
  exact rdrop_walk nm.a nm.b nm.c nm.d A A' n n' cp cp' _ _ w (rdivide_yes nm h1 h2 h3 h4 A A' n n' cp cp' xs ys _ ((hx.up hb0 (Nat.le_refl _)).more' hb0.size) ((hy.up hb0 (Nat.le_refl _)).more' hb0.size) hn hn' false hb)
set_option maxRecDepth 20000 in
set_option maxHeartbeats 4000000 in
theorem rreasonsF_no (a b c d day : Int) (A A' : Option Addr) (n n' cp cp' : Nat) (xs ys : List Int) (w : World) (hx : Sl I w w.heap.size A n xs) (hy : Sl I w w.heap.size A' n' ys) (hn : n ≤ 100000) (hn' : n' ≤ 100000) (hb : argB a b c d xs ys = false) :
    Calls Try.prog 17 #[fR a b c d, .slice A n cp, .slice A' n' cp', .int .i64 day] w (Int2 0 1 w) := by
  obtain ⟨W0, hW0⟩ : ∃ W0 : World, W0 = w.alloc (.cells #[.int .i64 a, .int .i64 b, .int .i64 c, .int .i64 d] 23) := ⟨_, rfl⟩
  have hb0 : Below w.heap.size w W0 := by rw [hW0]; exact (Below.refl _ _).alloc (Nat.le_refl _) _
  have HB0 := Lib.hid hb0
  have HG0 : Hid (W0.heap[w.heap.size]? = some (.cells #[.int .i64 a, .int .i64 b, .int .i64 c, .int .i64 d] 23 (0, 0))) := by show _ = _; rw [hW0]; exact heap_alloc_new w _
  have HX0 : Hid (Sl I W0 W0.heap.size A n xs) := (hx.up hb0 (Nat.le_refl _)).more' hb0.size
  have HY0 : Hid (Sl I W0 W0.heap.size A' n' ys) := (hy.up hb0 (Nat.le_refl _)).more' hb0.size
  have HC := Lib.hid (rchk_any a b c d A A' n n' cp cp' xs ys W0 HX0.out HY0.out (by omega) (by omega))
  rw [argE, hb] at HC
  clear hx hy hb hb0
  go_enter Try.func17, Try.ntmps17
  go_wp2_with fail
  rw [← hW0]
  clear hW0
  refine (HC.out).mono ?_
  rintro e w1 ⟨rfl, hb⟩
  have HB1 : Hid (Below w.heap.size w w1) := HB0.out.trans (hb.mono HB0.out.size)
  have HG1 : Hid (w1.heap[w.heap.size]? = some (.cells #[.int .i64 a, .int .i64 b, .int .i64 c, .int .i64 d] 23 (0, 0))) := (hb.block _ (lt_of_block HG0.out)).trans HG0.out
  have HX1 : Hid (Sl I w1 w1.heap.size A n xs) := (HX0.out.up hb (Nat.le_refl _)).more' hb.size
  have HY1 : Hid (Sl I w1 w1.heap.size A' n' ys) := (HY0.out.up hb (Nat.le_refl _)).more' hb.size
  clear hb
  go_wp2_with fail
  go_ret2
  exact ⟨rfl, HB1.out⟩
set_option maxRecDepth 20000 in
set_option maxHeartbeats 4000000 in
theorem rreasonsF_yes (nm : Nums) (h1 : nm.a ≤ 1000) (h2 : nm.b ≤ 1000) (h3 : nm.c ≤ 1000) (h4 : nm.d ≤ 1000) (day : Int) (A A' : Option Addr) (n n' cp cp' : Nat) (xs ys : List Int) (w : World) (hx : Sl I w w.heap.size A n xs) (hy : Sl I w w.heap.size A' n' ys) (hn : n ≤ 100000) (hn' : n' ≤ 100000) (hb : argB nm.a nm.b nm.c nm.d xs ys = true) :
    Calls Try.prog 17 #[fR nm.a nm.b nm.c nm.d, .slice A n cp, .slice A' n' cp', .int .i64 day] w (Int2 (if day ∈ xs then rsn nm xs ys day else 0) (if day ∈ xs then 0 else 4) w) := by
  obtain ⟨W0, hW0⟩ : ∃ W0 : World, W0 = w.alloc (.cells #[.int .i64 nm.a, .int .i64 nm.b, .int .i64 nm.c, .int .i64 nm.d] 23) := ⟨_, rfl⟩
  have hb0 : Below w.heap.size w W0 := by rw [hW0]; exact (Below.refl _ _).alloc (Nat.le_refl _) _
  have HB0 := Lib.hid hb0
  have HG0 : Hid (W0.heap[w.heap.size]? = some (.cells #[.int .i64 nm.a, .int .i64 nm.b, .int .i64 nm.c, .int .i64 nm.d] 23 (0, 0))) := by show _ = _; rw [hW0]; exact heap_alloc_new w _
  have HX0 : Hid (Sl I W0 W0.heap.size A n xs) := (hx.up hb0 (Nat.le_refl _)).more' hb0.size
  have HY0 : Hid (Sl I W0 W0.heap.size A' n' ys) := (hy.up hb0 (Nat.le_refl _)).more' hb0.size
  have HC := Lib.hid (rchk_any nm.a nm.b nm.c nm.d A A' n n' cp cp' xs ys W0 HX0.out HY0.out (by omega) (by omega))
  rw [argE, hb] at HC
  simp only [if_true] at HC
  have HOK : Hid (∀ x ∈ xs, okD x) := argB_days hb
  clear hx hy hb hb0
  by_cases hin : day ∈ xs
  · have HT : Hid (decide (day ∈ xs) = true) := decide_eq_true hin
    have HDO : Hid (okD day) := HOK.out day hin
    rw [if_pos hin, if_pos hin]
    clear hin
    go_enter Try.func17, Try.ntmps17
    go_wp2_with fail
    rw [← hW0]
    clear hW0
    refine (HC.out).mono ?_
    rintro e w1 ⟨rfl, hb⟩
    have HB1 : Hid (Below w.heap.size w w1) := HB0.out.trans (hb.mono HB0.out.size)
    have HG1 : Hid (w1.heap[w.heap.size]? = some (.cells #[.int .i64 nm.a, .int .i64 nm.b, .int .i64 nm.c, .int .i64 nm.d] 23 (0, 0))) := (hb.block _ (lt_of_block HG0.out)).trans HG0.out
    have HX1 : Hid (Sl I w1 w1.heap.size A n xs) := (HX0.out.up hb (Nat.le_refl _)).more' hb.size
    have HY1 : Hid (Sl I w1 w1.heap.size A' n' ys) := (HY0.out.up hb (Nat.le_refl _)).more' hb.size
    clear hb
    go_wp2_with fail
    refine (rhas_any A n xs cp day w1 _ HX1.out (by omega)).mono ?_
    rintro e w' ⟨rfl, rfl⟩
    rw [HT.out]
    have g0 := cell_of_row w1 w.heap.size 0 _ _ _ HG1.out
    have g1 := cell_of_row w1 w.heap.size 1 _ _ _ HG1.out
    have g2 := cell_of_row w1 w.heap.size 2 _ _ _ HG1.out
    have g3 := cell_of_row w1 w.heap.size 3 _ _ _ HG1.out
    simp at g0 g1 g2 g3
    go_wp2_with fail
    refine (rreason_any nm h1 h2 h3 h4 day A A' n n' cp cp' xs ys w1 HX1.out HY1.out (by omega) (by omega) HOK.out HDO.out).mono ?_
    rintro e w2 ⟨rfl, hb⟩
    have HB2 : Hid (Below w.heap.size w w2) := HB1.out.trans (hb.mono HB1.out.size)
    have HG2 : Hid (w2.heap[w.heap.size]? = some (.cells #[.int .i64 nm.a, .int .i64 nm.b, .int .i64 nm.c, .int .i64 nm.d] 23 (0, 0))) := (hb.block _ (lt_of_block HG1.out)).trans HG1.out
    have HX2 : Hid (Sl I w2 w2.heap.size A n xs) := (HX1.out.up hb (Nat.le_refl _)).more' hb.size
    have HY2 : Hid (Sl I w2 w2.heap.size A' n' ys) := (HY1.out.up hb (Nat.le_refl _)).more' hb.size
    clear g0 g1 g2 g3
    clear hb
    go_wp2_with fail
    go_ret2
    exact ⟨rfl, HB2.out⟩
  · have HT : Hid (decide (day ∈ xs) = false) := decide_eq_false hin
    rw [if_neg hin, if_neg hin]
    clear hin
    go_enter Try.func17, Try.ntmps17
    go_wp2_with fail
    rw [← hW0]
    clear hW0
    refine (HC.out).mono ?_
    rintro e w1 ⟨rfl, hb⟩
    have HB1 : Hid (Below w.heap.size w w1) := HB0.out.trans (hb.mono HB0.out.size)
    have HG1 : Hid (w1.heap[w.heap.size]? = some (.cells #[.int .i64 nm.a, .int .i64 nm.b, .int .i64 nm.c, .int .i64 nm.d] 23 (0, 0))) := (hb.block _ (lt_of_block HG0.out)).trans HG0.out
    have HX1 : Hid (Sl I w1 w1.heap.size A n xs) := (HX0.out.up hb (Nat.le_refl _)).more' hb.size
    have HY1 : Hid (Sl I w1 w1.heap.size A' n' ys) := (HY0.out.up hb (Nat.le_refl _)).more' hb.size
    clear hb
    go_wp2_with fail
    refine (rhas_any A n xs cp day w1 _ HX1.out (by omega)).mono ?_
    rintro e w' ⟨rfl, rfl⟩
    rw [HT.out]
    go_wp2_with fail
    go_ret2
    exact ⟨rfl, HB1.out⟩
end Go.Proofs.Ytfffhdclbdmfnaa
