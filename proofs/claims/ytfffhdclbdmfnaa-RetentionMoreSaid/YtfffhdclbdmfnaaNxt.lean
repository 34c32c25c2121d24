/- retention.Next. -/
import Derived.Test.YtfffhdclbdmfnaaRsn
import Derived.Test.YtfffhdclbdmfnaaDr2
namespace Go.Proofs.Ytfffhdclbdmfnaa
open Go.RowKit Ret
set_option linter.unusedVariables false
set_option linter.unusedSimpArgs false

set_option maxRecDepth 20000 in
set_option maxHeartbeats 2000000 in
theorem nextF_err (a b c d day limit v er : Int) (A A' : Option Addr) (n n' cp cp' : Nat) (w : World) (her : er ≠ 0)
    (hr : ∀ W, Below w.heap.size w W → Calls Try.prog 16 #[fR a b c d, .slice A n cp, .slice A' n' cp', .int .i64 day] W (Int2 v er W)) :
    Calls Try.prog 18 #[fR a b c d, .slice A n cp, .slice A' n' cp', .int .i64 day, .int .i64 limit] w (Int2 0 er w) := by
  obtain ⟨W0, hW0⟩ : ∃ W0 : World, W0 = w.alloc (.cells #[.int .i64 a, .int .i64 b, .int .i64 c, .int .i64 d] 23) := ⟨_, rfl⟩
  have HB0 : Hid (Below w.heap.size w W0) := by show Below _ _ _; rw [hW0]; exact (Below.refl _ _).alloc (Nat.le_refl _) _
  have HR := Lib.hid hr
  clear hr
  go_enter Try.func18, Try.ntmps18
  go_wp2_with fail
  rw [← hW0]
  clear hW0
  refine (HR.out _ HB0.out).mono ?_
  rintro e w1 ⟨rfl, hb1⟩
  have HB1 : Hid (Below w.heap.size w w1) := HB0.out.trans (hb1.mono HB0.out.size)
  clear hb1
  go_wp2_with fail
  go_ret2
  exact ⟨rfl, HB1.out⟩

set_option maxRecDepth 20000 in
set_option maxHeartbeats 2000000 in
theorem nextF_lim (a b c d day limit v : Int) (A A' : Option Addr) (n n' cp cp' : Nat) (w : World) (hl : ¬ (0 ≤ limit ∧ limit ≤ 4000))
    (hr : ∀ W, Below w.heap.size w W → Calls Try.prog 16 #[fR a b c d, .slice A n cp, .slice A' n' cp', .int .i64 day] W (Int2 v 0 W)) :
    Calls Try.prog 18 #[fR a b c d, .slice A n cp, .slice A' n' cp', .int .i64 day, .int .i64 limit] w (Int2 0 1 w) := by
  obtain ⟨W0, hW0⟩ : ∃ W0 : World, W0 = w.alloc (.cells #[.int .i64 a, .int .i64 b, .int .i64 c, .int .i64 d] 23) := ⟨_, rfl⟩
  have HB0 : Hid (Below w.heap.size w W0) := by show Below _ _ _; rw [hW0]; exact (Below.refl _ _).alloc (Nat.le_refl _) _
  have HR := Lib.hid hr
  clear hr
  go_enter Try.func18, Try.ntmps18
  go_wp2_with fail
  rw [← hW0]
  clear hW0
  refine (HR.out _ HB0.out).mono ?_
  rintro e w1 ⟨rfl, hb1⟩
  have HB1 : Hid (Below w.heap.size w w1) := HB0.out.trans (hb1.mono HB0.out.size)
  clear hb1
  by_cases hl0 : limit < 0
  · go_wp2_with fail
    go_ret2
    exact ⟨rfl, HB1.out⟩
  · have hl4 : 4000 < limit := by omega
    go_wp2_with fail
    go_ret2
    exact ⟨rfl, HB1.out⟩

set_option maxRecDepth 20000 in
set_option maxHeartbeats 2000000 in
theorem nextF_none (a b c d day limit : Int) (A A' : Option Addr) (n n' cp cp' : Nat) (w : World) (hl0 : 0 ≤ limit) (hl4 : limit ≤ 4000)
    (hr : ∀ W, Below w.heap.size w W → Calls Try.prog 16 #[fR a b c d, .slice A n cp, .slice A' n' cp', .int .i64 day] W (Int2 0 0 W)) :
    Calls Try.prog 18 #[fR a b c d, .slice A n cp, .slice A' n' cp', .int .i64 day, .int .i64 limit] w (Int2 0 6 w) := by
  obtain ⟨W0, hW0⟩ : ∃ W0 : World, W0 = w.alloc (.cells #[.int .i64 a, .int .i64 b, .int .i64 c, .int .i64 d] 23) := ⟨_, rfl⟩
  have HB0 : Hid (Below w.heap.size w W0) := by show Below _ _ _; rw [hW0]; exact (Below.refl _ _).alloc (Nat.le_refl _) _
  have HR := Lib.hid hr
  clear hr
  go_enter Try.func18, Try.ntmps18
  go_wp2_with fail
  rw [← hW0]
  clear hW0
  refine (HR.out _ HB0.out).mono ?_
  rintro e w1 ⟨rfl, hb1⟩
  have HB1 : Hid (Below w.heap.size w w1) := HB0.out.trans (hb1.mono HB0.out.size)
  clear hb1
  go_wp2_with fail
  go_ret2
  exact ⟨rfl, HB1.out⟩

theorem and16 : ∀ v : Fin 32, bits BinOp.and IntKind.i64 ((v.val : Nat) : Int) 16 = if v.val < 16 then 0 else 16 := by decide

set_option maxRecDepth 20000 in
set_option maxHeartbeats 2000000 in
theorem nextF_held (a b c d day limit : Int) (v : Nat) (A A' : Option Addr) (n n' cp cp' : Nat) (w : World) (hl0 : 0 ≤ limit) (hl4 : limit ≤ 4000) (hv : 16 ≤ v) (hv' : v < 32)
    (hr : ∀ W, Below w.heap.size w W → Calls Try.prog 16 #[fR a b c d, .slice A n cp, .slice A' n' cp', .int .i64 day] W (Int2 v 0 W)) :
    Calls Try.prog 18 #[fR a b c d, .slice A n cp, .slice A' n' cp', .int .i64 day, .int .i64 limit] w (Int2 0 0 w) := by
  obtain ⟨W0, hW0⟩ : ∃ W0 : World, W0 = w.alloc (.cells #[.int .i64 a, .int .i64 b, .int .i64 c, .int .i64 d] 23) := ⟨_, rfl⟩
  have HB0 : Hid (Below w.heap.size w W0) := by show Below _ _ _; rw [hW0]; exact (Below.refl _ _).alloc (Nat.le_refl _) _
  have HR := Lib.hid hr
  have h16 := and16 ⟨v, hv'⟩
  rw [if_neg (by show ¬ v < 16; omega)] at h16
  simp only [] at h16
  clear hr
  go_enter Try.func18, Try.ntmps18
  go_wp2_with fail
  rw [← hW0]
  clear hW0
  refine (HR.out _ HB0.out).mono ?_
  rintro e w1 ⟨rfl, hb1⟩
  have HB1 : Hid (Below w.heap.size w w1) := HB0.out.trans (hb1.mono HB0.out.size)
  clear hb1
  go_wp2_with fail
  go_ret2
  exact ⟨rfl, HB1.out⟩

def dk (nm : Nums) (s : List Int) (last day : Int) (limit k : Nat) : Nat := dropN k (nOf nm.a nm.b nm.c nm.d k).toNat s last day limit
def mk (nm : Nums) (s : List Int) (last day : Int) (limit : Nat) : Nat → Nat
  | 0 => 0
  | k + 1 => max (mk nm s last day limit k) (dk nm s last day limit k)
theorem next_mk (nm : Nums) (s : List Int) (last day : Int) (limit : Nat) (h : ∀ k, k < 4 → dk nm s last day limit k ≠ 0) : nextN nm s last day limit = mk nm s last day limit 4 := by
  have e0 := h 0 (by omega)
  have e1 := h 1 (by omega)
  have e2 := h 2 (by omega)
  have e3 := h 3 (by omega)
  simp only [mk]
  simp only [dk, nOf] at *
  simp at *
  unfold nextN
  rw [if_neg (by simp [e0, e1, e2, e3])]
  omega
theorem next_mk0 (nm : Nums) (s : List Int) (last day : Int) (limit k : Nat) (hk : k < 4) (h : dk nm s last day limit k = 0) : nextN nm s last day limit = 0 := by
  have : k = 0 ∨ k = 1 ∨ k = 2 ∨ k = 3 := by omega
  unfold nextN
  rw [if_pos]
  rcases this with rfl | rfl | rfl | rfl <;> simp [dk, nOf] at h <;> simp [h]
theorem dk_le (nm : Nums) (s : List Int) (last day : Int) (limit k : Nat) : dk nm s last day limit k ≤ limit := by
  rcases Nat.eq_zero_or_pos (dk nm s last day limit k) with h | h
  · omega
  · have := (lst_pos (n := dk nm s last day limit k) (by omega) h).1 (show lst (fun i => ¬ By k (nOf nm.a nm.b nm.c nm.d k).toNat (ext s last i) day) limit 1 = _ from rfl)
    omega
theorem mk_le (nm : Nums) (s : List Int) (last day : Int) (limit : Nat) : ∀ k : Nat, mk nm s last day limit k ≤ limit
  | 0 => Nat.zero_le _
  | k + 1 => by
    have h1 := mk_le nm s last day limit k
    have h2 := dk_le nm s last day limit k
    show max _ _ ≤ _
    omega

set_option maxRecDepth 20000 in
set_option maxHeartbeats 4000000 in
theorem nextF_go (nm : Nums) (h1 : nm.a ≤ 1000) (h2 : nm.b ≤ 1000) (h3 : nm.c ≤ 1000) (h4 : nm.d ≤ 1000) (day : Int) (limit : Nat) (hlim : limit ≤ 4000) (v : Nat) (hv : 0 < v) (hv' : v < 16) (A A' : Option Addr) (n n' cp cp' : Nat) (xs : List Int) (last : Int) (w : World) (hx : Sl I w w.heap.size A n xs) (hn : n ≤ 100000) (hok : ∀ x ∈ xs, okD x) (hday : okD day) (hlast : (srt xs)[(srt xs).length - 1]? = some last)
    (hr : ∀ W, Below w.heap.size w W → Calls Try.prog 16 #[fR nm.a nm.b nm.c nm.d, .slice A n cp, .slice A' n' cp', .int .i64 day] W (Int2 v 0 W)) :
    Calls Try.prog 18 #[fR nm.a nm.b nm.c nm.d, .slice A n cp, .slice A' n' cp', .int .i64 day, .int .i64 (limit : Int)] w (Int2 (nextN nm (srt xs) last day limit) 0 w) := by
  obtain ⟨W0, hW0⟩ : ∃ W0 : World, W0 = w.alloc (.cells #[.int .i64 nm.a, .int .i64 nm.b, .int .i64 nm.c, .int .i64 nm.d] 23) := ⟨_, rfl⟩
  have hb0 : Below w.heap.size w W0 := by rw [hW0]; exact (Below.refl _ _).alloc (Nat.le_refl _) _
  have HG0 : Hid (W0.heap[w.heap.size]? = some (.cells #[.int .i64 nm.a, .int .i64 nm.b, .int .i64 nm.c, .int .i64 nm.d] 23 (0, 0))) := by show _ = _; rw [hW0]; exact heap_alloc_new w _
  have HX0 : Hid (Sl I W0 W0.heap.size A n xs) := (hx.up hb0 (Nat.le_refl _)).more' hb0.size
  have HB0 := Lib.hid hb0
  have HR := Lib.hid hr
  have hls : (srt xs).length ≤ n := by have := srt_len xs; have := hx.1; omega
  have hso : ∀ x ∈ srt xs, okD x := fun x hx' => hok x ((srt_mem x xs).1 hx')
  have hsa : Asc (srt xs) := srt_asc xs
  obtain ⟨s, hs⟩ : ∃ s, srt xs = s := ⟨_, rfl⟩
  have HSE := Lib.hid hs
  rw [hs] at hlast hls hso hsa ⊢
  clear hs
  have HLS := Lib.hid hlast
  have HLL := Lib.hid hls
  have HSO := Lib.hid hso
  have HSA := Lib.hid hsa
  have HZ : Hid (∀ k, k < 4 → dk nm s last day limit k = 0 → nextN nm s last day limit = 0) := fun k => next_mk0 nm s last day limit k
  have HM : Hid ((∀ k, k < 4 → dk nm s last day limit k ≠ 0) → nextN nm s last day limit = mk nm s last day limit 4) := next_mk nm s last day limit
  obtain ⟨res, hres⟩ : ∃ res, nextN nm s last day limit = res := ⟨_, rfl⟩
  rw [hres] at HZ HM ⊢
  clear hres hso hsa
  have h16 := and16 ⟨v, by omega⟩
  rw [if_pos (by show v < 16; omega)] at h16
  simp only [] at h16
  have hv1 : ¬ (v : Int) = 0 := by omega
  clear hr hx hb0 hlast hok hls
  go_enter Try.func18, Try.ntmps18
  go_wp2_with fail
  rw [← hW0]
  clear hW0
  refine (HR.out _ HB0.out).mono ?_
  rintro e w1 ⟨rfl, hb1⟩
  have HB1 : Hid (Below w.heap.size w w1) := HB0.out.trans (hb1.mono HB0.out.size)
  have HX1 := Lib.hid (HX0.out.up hb1 (Nat.le_refl _) |>.more' hb1.size)
  have HG1 : Hid (w1.heap[w.heap.size]? = some (.cells #[.int .i64 nm.a, .int .i64 nm.b, .int .i64 nm.c, .int .i64 nm.d] 23 (0, 0))) := (hb1.block _ (lt_of_block HG0.out)).trans HG0.out
  clear hb1
  go_wp2_with fail
  refine (set_any A n cp xs _ HX1.out (by omega)).mono ?_
  rintro e w2 ⟨v2, rfl, ho2, hb2⟩
  rw [HSE.out] at ho2
  have HB2 : Hid (Below w.heap.size w w2) := HB1.out.trans (hb2.mono HB1.out.size)
  have HG2 : Hid (w2.heap[w.heap.size]? = some (.cells #[.int .i64 nm.a, .int .i64 nm.b, .int .i64 nm.c, .int .i64 nm.d] 23 (0, 0))) := (hb2.block _ (lt_of_block HG1.out)).trans HG1.out
  have h02 : w.heap.size < w2.heap.size := lt_of_block HG2.out
  obtain ⟨A2, c2, rfl, hc2, hs2, _⟩ := ho2.shape
  obtain ⟨m, hm⟩ : ∃ m, s.length = m := ⟨_, rfl⟩
  have HS2 : Hid (Sl I w2 w2.heap.size A2 m s) := ⟨hm, hs2⟩
  rw [hm] at HLS HLL ⊢
  have k0 := cell_of_row w2 w.heap.size 0 _ _ _ HG2.out
  have k1 := cell_of_row w2 w.heap.size 1 _ _ _ HG2.out
  have k2 := cell_of_row w2 w.heap.size 2 _ _ _ HG2.out
  have k3 := cell_of_row w2 w.heap.size 3 _ _ _ HG2.out
  simp at k0 k1 k2 k3
  clear ho2 hb2 hs2 hc2 HX0 HX1 HG0 HG1 HG2 HB0 HB1 HR hm
  have hmn : m ≤ 100000 := Nat.le_trans HLL.out hn
  go_wp2_with (refine (periods_any _ _ _ _ _).mono ?_; rintro e w3 ⟨rfl, rfl⟩)
  obtain ⟨W3, hW3⟩ : ∃ W3 : World, W3 = (w2.alloc (.cells #[.int .i64 nm.a, .int .i64 nm.b, .int .i64 nm.c, .int .i64 nm.d] 23)).alloc (.cells (pcells nm.a nm.b nm.c nm.d) 51) := ⟨_, rfl⟩
  have HB3 : Hid (Below w2.heap.size w2 W3) := by show Below _ _ _; rw [hW3]; exact ((Below.refl _ _).alloc (Nat.le_refl _) _).alloc (by simp) _
  have HP3 : Hid (W3.heap[w2.heap.size + 1]? = some (.cells (pcells nm.a nm.b nm.c nm.d) 51 (0, 0))) := by
    show _ = _
    rw [hW3]
    have := heap_alloc_new (w2.alloc (.cells #[.int .i64 nm.a, .int .i64 nm.b, .int .i64 nm.c, .int .i64 nm.d] 23)) (.cells (pcells nm.a nm.b nm.c nm.d) 51)
    simpa using this
  rw [← hW3]
  clear hW3 k0 k1 k2 k3
  go_loopw [15, 46] (fun mv i wr => ∃ k : Nat, k ≤ 4 ∧ mv = .int .i64 ((mk nm s last day limit k : Nat) : Int) ∧ i = .int .i64 (k : Int) ∧ Hid (∀ j, j < k → dk nm s last day limit j ≠ 0) ∧ Hid (wr.heap[w2.heap.size + 1]? = some (.cells (pcells nm.a nm.b nm.c nm.d) 51 (0, 0))) ∧ Hid (Below w2.heap.size w2 wr)) (fun _ i _ => 4 - (intOf i).toNat)
  case atStart => exact ⟨0, by omega, rfl, rfl, fun j h => absurd h (Nat.not_lt_zero _), HP3, HB3⟩
  case round =>
    clear HB3 HP3
    obtain ⟨k, hk, rfl, rfl, HND, HP, HB⟩ := hrel
    by_cases hlt : k < 4
    · obtain ⟨p0, p1, p2⟩ := pcells_at (nm.a : Int) nm.b nm.c nm.d hlt
      obtain ⟨q, hq⟩ : ∃ q : Nat, nOf (nm.a : Int) nm.b nm.c nm.d k = q := by
        unfold nOf
        split
        · exact ⟨nm.a, rfl⟩
        · split
          · exact ⟨nm.b, rfl⟩
          · split
            · exact ⟨nm.c, rfl⟩
            · exact ⟨nm.d, rfl⟩
      have hq1 : q ≤ 1000 := by
        have : nOf (nm.a : Int) nm.b nm.c nm.d k ≤ 1000 := by
          unfold nOf
          split
          · omega
          · split
            · omega
            · split <;> omega
        omega
      obtain ⟨r, hr⟩ : ∃ r, rOf k = r := ⟨_, rfl⟩
      have hdk : dropN k q s last day limit = dk nm s last day limit k := by unfold dk; rw [hq]; rfl
      have hML := mk_le nm s last day limit k
      have hDL := dk_le nm s last day limit k
      have HMK : Hid (mk nm s last day limit (k + 1) = max (mk nm s last day limit k) (dk nm s last day limit k)) := rfl
      obtain ⟨mm, hmm⟩ : ∃ mm, mk nm s last day limit k = mm := ⟨_, rfl⟩
      rw [hmm] at HMK hML ⊢
      clear hmm
      have HDR : Hid (∀ W, Below w2.heap.size w2 W → Calls Try.prog 37 #[.agg #[fF (fidOf k), .int .i64 (q : Int), .int .i64 r], .slice A2 m c2, .int .i64 day, .int .i64 (limit : Int)] W (IntB (dk nm s last day limit k) W)) := fun W hW => by
        have := dropped_any k hlt q hq1 r day limit hlim A2 m c2 s last W ((HS2.out.up hW (Nat.le_refl _)).more' hW.size) hmn HSA.out HSO.out HLS.out hday
        rwa [hdk] at this
      have HZK : Hid (dk nm s last day limit k = 0 → res = 0) := HZ.out k hlt
      obtain ⟨f, hf⟩ : ∃ f, fidOf k = f := ⟨_, rfl⟩
      rw [hf] at p0 HDR
      rw [hq] at p1
      rw [hr] at p2
      have c0 : wr.cell? ⟨w2.heap.size + 1, k * 3, none⟩ = some (fF f) := (cell_of_row _ _ _ _ _ _ HP.out).trans p0
      have c1 : wr.cell? ⟨w2.heap.size + 1, k * 3 + 1, none⟩ = some (.int .i64 q) := (cell_of_row _ _ _ _ _ _ HP.out).trans p1
      have c2' : wr.cell? ⟨w2.heap.size + 1, k * 3 + 2, none⟩ = some (.int .i64 r) := (cell_of_row _ _ _ _ _ _ HP.out).trans p2
      clear p0 p1 p2 hf hq hr hdk
      have HNK : Hid (∀ dd, dk nm s last day limit k = dd → dd ≠ 0 → ∀ j, j < k + 1 → dk nm s last day limit j ≠ 0) := fun dd h1 h2 j hj => by
        rcases Nat.lt_or_ge j k with h | h
        · exact HND.out j h
        · have : j = k := by omega
          subst this
          omega
      obtain ⟨dd, hdd⟩ : ∃ dd, dk nm s last day limit k = dd := ⟨_, rfl⟩
      have HNK2 := Lib.hid (HNK.out dd hdd)
      rw [hdd] at HMK HDR HZK hDL
      clear hdd HNK
      have hBA : ∀ cs, Below w2.heap.size w2 (wr.alloc (.cells cs 51)) := fun cs => HB.out.trans ((Below.refl _ _).alloc HB.out.size _)
      have HBA := Lib.hid hBA
      clear hBA
      have hw2 : w2.heap.size ≤ wr.heap.size := HB.out.size
      have hP' : (wr.alloc (.cells #[fF f, .int .i64 (q : Int), .int .i64 r] 51)).heap[w2.heap.size + 1]? = some (.cells (pcells nm.a nm.b nm.c nm.d) 51 (0, 0)) := by rw [Below.heap_alloc _ _ _ (lt_of_block HP.out)]; exact HP.out
      have HP' := Lib.hid hP'
      clear hP'
      by_cases hz : dd = 0
      · have HRZ := Lib.hid (HZK.out hz)
        subst hz
        go_wp2_with (refine (HDR.out _ (HBA.out _)).mono ?_; rintro e w4 ⟨rfl, hb4⟩; have HB4 : Hid (Below w.heap.size w w4) := HB2.out.trans (((HBA.out _).trans (hb4.mono (HBA.out _).size)).mono (Nat.le_of_lt h02)); clear hb4)
        go_ret2
        exact ⟨by rw [HRZ.out]; rfl, HB4.out⟩
      · have hz' : ¬ (dd : Int) = 0 := by omega
        have HND' := Lib.hid (HNK2.out hz)
        have hmx : max (mm : Int) (dd : Int) = ((max mm dd : Nat) : Int) := by omega
        go_wp2_with (refine (HDR.out _ (HBA.out _)).mono ?_; rintro e w4 ⟨rfl, hb4⟩; have HP4 : Hid (w4.heap[w2.heap.size + 1]? = some (.cells (pcells nm.a nm.b nm.c nm.d) 51 (0, 0))) := (hb4.block _ (lt_of_block HP'.out)).trans HP'.out; have HB4 : Hid (Below w2.heap.size w2 w4) := (HBA.out _).trans (hb4.mono (HBA.out _).size); clear hb4)
        go_roundw
        case rel => exact ⟨k + 1, by omega, by rw [HMK.out], by go_num, HND'.out, HP4, HB4⟩
        case measure => simp [intOf]; omega
    · obtain rfl : k = 4 := by omega
      have HRS := Lib.hid (HM.out HND.out)
      have HBF : Hid (Below w.heap.size w wr) := HB2.out.trans (HB.out.mono (Nat.le_of_lt h02))
      go_wp2
      go_ret2
      exact ⟨by rw [HRS.out]; rfl, HBF.out⟩
end Go.Proofs.Ytfffhdclbdmfnaa
