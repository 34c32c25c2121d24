/- The law Divides. -/
import Derived.Test.YtfffhdclbdmfnaaLwC
namespace Go.Proofs.Ytfffhdclbdmfnaa
open Go.RowKit Ret
set_option linter.unusedVariables false
set_option linter.unusedSimpArgs false

theorem kept_or {nm : Nums} {xs ys : List Int} {x : Int} (h : x ∈ xs) : (decide (x ∈ keptL nm xs ys) == decide (x ∈ dropL nm xs ys)) = false := by
  by_cases h0 : rsn nm xs ys x = 0
  · rw [decide_eq_false (fun h1 => (keptL_mem.1 h1).2 h0), decide_eq_true (dropL_mem.2 ⟨h, h0⟩)]; rfl
  · rw [decide_eq_true (keptL_mem.2 ⟨h, h0⟩), decide_eq_false (fun h1 => h0 (dropL_mem.1 h1).2)]; rfl
theorem asc_at {L : List Int} (h : Asc L) {p : Nat} {y z : Int} (hz : L[p]? = some z) (hy : L[p + 1]? = some y) : z < y := by
  obtain ⟨h1, rfl⟩ := List.getElem?_eq_some_iff.1 hz
  obtain ⟨h2, rfl⟩ := List.getElem?_eq_some_iff.1 hy
  exact (List.pairwise_iff_getElem.1 h) p (p + 1) h1 h2 (by omega)
set_option maxRecDepth 20000 in
set_option maxHeartbeats 2000000 in
theorem lawDivides_many (a b c d : Int) (A A' : Option Addr) (n n' cp cp' : Nat) (w : World) (hf : (decide (n ≤ 40) && decide (n' ≤ 10)) = false) : Calls Try.prog 11 #[fR a b c d, .slice A n cp, .slice A' n' cp'] w (BoolB true w) := by
  obtain ⟨W0, hW0⟩ : ∃ W0 : World, W0 = w.alloc (.cells #[.int .i64 a, .int .i64 b, .int .i64 c, .int .i64 d] 23) := ⟨_, rfl⟩
  have hb0 : Below w.heap.size w W0 := by rw [hW0]; exact (Below.refl _ _).alloc (Nat.le_refl _) _
  have HB0 := Lib.hid hb0
  have HG0 : Hid (W0.heap[w.heap.size]? = some (.cells #[.int .i64 a, .int .i64 b, .int .i64 c, .int .i64 d] 23 (0, 0))) := by show _ = _; rw [hW0]; exact heap_alloc_new w _
  have HF := Lib.hid hf
  clear hf hb0
  go_enter Try.func11, Try.ntmps11
  go_wp2_with fail
  rw [← hW0]
  clear hW0
  refine (awake_any W0).mono ?_
  rintro e w1 ⟨rfl, hb⟩
  have HB1 : Hid (Below w.heap.size w w1) := HB0.out.trans (hb.mono HB0.out.size)
  have HG1 : Hid (w1.heap[w.heap.size]? = some (.cells #[.int .i64 a, .int .i64 b, .int .i64 c, .int .i64 d] 23 (0, 0))) := (hb.block _ (lt_of_block HG0.out)).trans HG0.out
  clear hb
  go_wp2_with fail
  refine (few_no HF.out A A' cp cp' _).mono ?_
  rintro e w' ⟨rfl, rfl⟩
  go_wp2_with fail
  refine (awake_any w1).mono ?_
  rintro e w2 ⟨rfl, hb⟩
  have HB2 : Hid (Below w.heap.size w w2) := HB1.out.trans (hb.mono HB1.out.size)
  have HG2 : Hid (w2.heap[w.heap.size]? = some (.cells #[.int .i64 a, .int .i64 b, .int .i64 c, .int .i64 d] 23 (0, 0))) := (hb.block _ (lt_of_block HG1.out)).trans HG1.out
  clear hb
  go_wp2_with fail
  go_ret
  exact ⟨rfl, HB2.out⟩
set_option maxRecDepth 20000 in
set_option maxHeartbeats 2000000 in
theorem lawDivides_bad (a b c d : Int) (A A' : Option Addr) (n n' cp cp' : Nat) (xs ys : List Int) (w : World) (hx : Sl I w w.heap.size A n xs) (hy : Sl I w w.heap.size A' n' ys) (hf : (decide (n ≤ 40) && decide (n' ≤ 10)) = true) (hb : argB a b c d xs ys = false) : Calls Try.prog 11 #[fR a b c d, .slice A n cp, .slice A' n' cp'] w (BoolB true w) := by
  obtain ⟨W0, hW0⟩ : ∃ W0 : World, W0 = w.alloc (.cells #[.int .i64 a, .int .i64 b, .int .i64 c, .int .i64 d] 23) := ⟨_, rfl⟩
  have hb0 : Below w.heap.size w W0 := by rw [hW0]; exact (Below.refl _ _).alloc (Nat.le_refl _) _
  have HB0 := Lib.hid hb0
  have HG0 : Hid (W0.heap[w.heap.size]? = some (.cells #[.int .i64 a, .int .i64 b, .int .i64 c, .int .i64 d] 23 (0, 0))) := by show _ = _; rw [hW0]; exact heap_alloc_new w _
  have HX0 : Hid (Sl I W0 W0.heap.size A n xs) := (hx.up hb0 (Nat.le_refl _)).more' hb0.size
  have HY0 : Hid (Sl I W0 W0.heap.size A' n' ys) := (hy.up hb0 (Nat.le_refl _)).more' hb0.size
  have hn : n ≤ 40 ∧ n' ≤ 10 := by simpa using hf
  obtain ⟨hn1, hn2⟩ := hn
  have HF := Lib.hid hf
  have HA := Lib.hid hb
  clear hf hx hy hb hb0
  go_enter Try.func11, Try.ntmps11
  go_wp2_with fail
  rw [← hW0]
  clear hW0
  refine (awake_any W0).mono ?_
  rintro e w1 ⟨rfl, hb⟩
  have HB1 : Hid (Below w.heap.size w w1) := HB0.out.trans (hb.mono HB0.out.size)
  have HG1 : Hid (w1.heap[w.heap.size]? = some (.cells #[.int .i64 a, .int .i64 b, .int .i64 c, .int .i64 d] 23 (0, 0))) := (hb.block _ (lt_of_block HG0.out)).trans HG0.out
  have HX1 : Hid (Sl I w1 w1.heap.size A n xs) := (HX0.out.up hb (Nat.le_refl _)).more' hb.size
  have HY1 : Hid (Sl I w1 w1.heap.size A' n' ys) := (HY0.out.up hb (Nat.le_refl _)).more' hb.size
  clear hb
  go_wp2_with fail
  refine (few_yes HF.out A A' cp cp' _).mono ?_
  rintro e w' ⟨rfl, rfl⟩
  have g0 := cell_of_row w1 w.heap.size 0 _ _ _ HG1.out
  have g1 := cell_of_row w1 w.heap.size 1 _ _ _ HG1.out
  have g2 := cell_of_row w1 w.heap.size 2 _ _ _ HG1.out
  have g3 := cell_of_row w1 w.heap.size 3 _ _ _ HG1.out
  simp at g0 g1 g2 g3
  go_wp2_with fail
  refine (keep_no a b c d A A' n n' cp cp' xs ys w1 HX1.out HY1.out (by omega) (by omega) HA.out).mono ?_
  rintro e w2 ⟨A1, n1, c1, rfl, hc1, hk1, hb⟩
  have HB2 : Hid (Below w.heap.size w w2) := HB1.out.trans (hb.mono HB1.out.size)
  have HG2 : Hid (w2.heap[w.heap.size]? = some (.cells #[.int .i64 a, .int .i64 b, .int .i64 c, .int .i64 d] 23 (0, 0))) := (hb.block _ (lt_of_block HG1.out)).trans HG1.out
  have HX2 : Hid (Sl I w2 w2.heap.size A n xs) := (HX1.out.up hb (Nat.le_refl _)).more' hb.size
  have HY2 : Hid (Sl I w2 w2.heap.size A' n' ys) := (HY1.out.up hb (Nat.le_refl _)).more' hb.size
  clear hk1 hc1 g0 g1 g2 g3
  clear hb
  have g0 := cell_of_row w2 w.heap.size 0 _ _ _ HG2.out
  have g1 := cell_of_row w2 w.heap.size 1 _ _ _ HG2.out
  have g2 := cell_of_row w2 w.heap.size 2 _ _ _ HG2.out
  have g3 := cell_of_row w2 w.heap.size 3 _ _ _ HG2.out
  simp at g0 g1 g2 g3
  go_wp2_with fail
  refine (drop_no a b c d A A' n n' cp cp' xs ys w2 HX2.out HY2.out (by omega) (by omega) HA.out).mono ?_
  rintro e w3 ⟨A2, n2, c2, rfl, hc2, hk2, hb⟩
  have HB3 : Hid (Below w.heap.size w w3) := HB2.out.trans (hb.mono HB2.out.size)
  have HG3 : Hid (w3.heap[w.heap.size]? = some (.cells #[.int .i64 a, .int .i64 b, .int .i64 c, .int .i64 d] 23 (0, 0))) := (hb.block _ (lt_of_block HG2.out)).trans HG2.out
  have HX3 : Hid (Sl I w3 w3.heap.size A n xs) := (HX2.out.up hb (Nat.le_refl _)).more' hb.size
  have HY3 : Hid (Sl I w3 w3.heap.size A' n' ys) := (HY2.out.up hb (Nat.le_refl _)).more' hb.size
  clear hk2 hc2 g0 g1 g2 g3
  clear hb
  go_wp2_with fail
  go_ret
  exact ⟨rfl, HB3.out⟩
set_option maxRecDepth 20000 in
set_option maxHeartbeats 6000000 in
theorem lawDivides_good (nm : Nums) (h1 : nm.a ≤ 1000) (h2 : nm.b ≤ 1000) (h3 : nm.c ≤ 1000) (h4 : nm.d ≤ 1000) (A A' : Option Addr) (n n' cp cp' : Nat) (xs ys : List Int) (w : World) (hx : Sl I w w.heap.size A n xs) (hy : Sl I w w.heap.size A' n' ys) (hf : (decide (n ≤ 40) && decide (n' ≤ 10)) = true) (hb : argB nm.a nm.b nm.c nm.d xs ys = true) : Calls Try.prog 11 #[fR nm.a nm.b nm.c nm.d, .slice A n cp, .slice A' n' cp'] w (BoolB true w) := by
  obtain ⟨W0, hW0⟩ : ∃ W0 : World, W0 = w.alloc (.cells #[.int .i64 nm.a, .int .i64 nm.b, .int .i64 nm.c, .int .i64 nm.d] 23) := ⟨_, rfl⟩
  have hb0 : Below w.heap.size w W0 := by rw [hW0]; exact (Below.refl _ _).alloc (Nat.le_refl _) _
  have HB0 := Lib.hid hb0
  have HG0 : Hid (W0.heap[w.heap.size]? = some (.cells #[.int .i64 nm.a, .int .i64 nm.b, .int .i64 nm.c, .int .i64 nm.d] 23 (0, 0))) := by show _ = _; rw [hW0]; exact heap_alloc_new w _
  have HX0 : Hid (Sl I W0 W0.heap.size A n xs) := (hx.up hb0 (Nat.le_refl _)).more' hb0.size
  have HY0 : Hid (Sl I W0 W0.heap.size A' n' ys) := (hy.up hb0 (Nat.le_refl _)).more' hb0.size
  have hn : n ≤ 40 ∧ n' ≤ 10 := by simpa using hf
  obtain ⟨hn1, hn2⟩ := hn
  have HF := Lib.hid hf
  have HA := Lib.hid hb
  have HOK : Hid (∀ x ∈ xs, okD x) := argB_days hb
  have hk := keptL_len nm xs ys
  have hd := dropL_len nm xs ys
  rw [hx.1] at hk hd
  clear hf hx hy hb hb0
  go_enter Try.func11, Try.ntmps11
  go_wp2_with fail
  rw [← hW0]
  clear hW0
  refine (awake_any W0).mono ?_
  rintro e w1 ⟨rfl, hb⟩
  have HB1 : Hid (Below w.heap.size w w1) := HB0.out.trans (hb.mono HB0.out.size)
  have HG1 : Hid (w1.heap[w.heap.size]? = some (.cells #[.int .i64 nm.a, .int .i64 nm.b, .int .i64 nm.c, .int .i64 nm.d] 23 (0, 0))) := (hb.block _ (lt_of_block HG0.out)).trans HG0.out
  have HX1 : Hid (Sl I w1 w1.heap.size A n xs) := (HX0.out.up hb (Nat.le_refl _)).more' hb.size
  have HY1 : Hid (Sl I w1 w1.heap.size A' n' ys) := (HY0.out.up hb (Nat.le_refl _)).more' hb.size
  clear hb
  go_wp2_with fail
  refine (few_yes HF.out A A' cp cp' _).mono ?_
  rintro e w' ⟨rfl, rfl⟩
  have g0 := cell_of_row w1 w.heap.size 0 _ _ _ HG1.out
  have g1 := cell_of_row w1 w.heap.size 1 _ _ _ HG1.out
  have g2 := cell_of_row w1 w.heap.size 2 _ _ _ HG1.out
  have g3 := cell_of_row w1 w.heap.size 3 _ _ _ HG1.out
  simp at g0 g1 g2 g3
  go_wp2_with fail
  refine (keep_yes nm A A' n n' cp cp' xs ys w1 HX1.out HY1.out (by omega) (by omega) HA.out).mono ?_
  rintro e w2 ⟨A1, n1, c1, rfl, hc1, hk1, hb⟩
  have HB2 : Hid (Below w.heap.size w w2) := HB1.out.trans (hb.mono HB1.out.size)
  have HG2 : Hid (w2.heap[w.heap.size]? = some (.cells #[.int .i64 nm.a, .int .i64 nm.b, .int .i64 nm.c, .int .i64 nm.d] 23 (0, 0))) := (hb.block _ (lt_of_block HG1.out)).trans HG1.out
  have HX2 : Hid (Sl I w2 w2.heap.size A n xs) := (HX1.out.up hb (Nat.le_refl _)).more' hb.size
  have HY2 : Hid (Sl I w2 w2.heap.size A' n' ys) := (HY1.out.up hb (Nat.le_refl _)).more' hb.size
  have HK2 := Lib.hid hk1
  have hl1 : n1 ≤ 40 := by have := hk1.1; omega
  clear hk1 hc1 g0 g1 g2 g3
  clear hb
  have g0 := cell_of_row w2 w.heap.size 0 _ _ _ HG2.out
  have g1 := cell_of_row w2 w.heap.size 1 _ _ _ HG2.out
  have g2 := cell_of_row w2 w.heap.size 2 _ _ _ HG2.out
  have g3 := cell_of_row w2 w.heap.size 3 _ _ _ HG2.out
  simp at g0 g1 g2 g3
  go_wp2_with fail
  refine (drop_yes nm A A' n n' cp cp' xs ys w2 HX2.out HY2.out (by omega) (by omega) HA.out).mono ?_
  rintro e w3 ⟨A2, n2, c2, rfl, hc2, hk2, hb⟩
  have HB3 : Hid (Below w.heap.size w w3) := HB2.out.trans (hb.mono HB2.out.size)
  have HG3 : Hid (w3.heap[w.heap.size]? = some (.cells #[.int .i64 nm.a, .int .i64 nm.b, .int .i64 nm.c, .int .i64 nm.d] 23 (0, 0))) := (hb.block _ (lt_of_block HG2.out)).trans HG2.out
  have HX3 : Hid (Sl I w3 w3.heap.size A n xs) := (HX2.out.up hb (Nat.le_refl _)).more' hb.size
  have HY3 : Hid (Sl I w3 w3.heap.size A' n' ys) := (HY2.out.up hb (Nat.le_refl _)).more' hb.size
  have HK3 : Hid (Sl I w3 w3.heap.size A1 n1 (keptL nm xs ys)) := (HK2.out.up hb (Nat.le_refl _)).more' hb.size
  have HD3 := Lib.hid hk2
  have hl2 : n2 ≤ 40 := by have := hk2.1; omega
  clear hk2 hc2 g0 g1 g2 g3
  clear hb
  have HWF : Hid (∀ W, Below w3.heap.size w3 W → Sl I W w3.heap.size A n xs ∧ Sl I W w3.heap.size A1 n1 (keptL nm xs ys) ∧ Sl I W w3.heap.size A2 n2 (dropL nm xs ys)) := fun W h => ⟨HX3.out.up h (Nat.le_refl _), HK3.out.up h (Nat.le_refl _), HD3.out.up h (Nat.le_refl _)⟩
  have HXL : Hid (xs.length = n) := HX3.out.1
  have HKL : Hid ((keptL nm xs ys).length = n1) := HK3.out.1
  have HDL : Hid ((dropL nm xs ys).length = n2) := HD3.out.1
  go_wp2
  go_loopw [11, 12] (fun l i wr => ∃ (m : Int) (j : Nat), j ≤ n ∧ i = .int .i64 j ∧ l = .int .i64 m ∧ Hid (∀ y ∈ xs.take j, y ≤ m) ∧ Hid (m = -1 ∨ m ∈ xs) ∧ Hid (j = 0 ∨ 0 ≤ m) ∧ Hid (Below w3.heap.size w3 wr)) (fun _ i _ => n - (intOf i).toNat)
  case atStart => exact ⟨-1, 0, Nat.zero_le _, rfl, rfl, by show ∀ y ∈ _, _; simp, .inl rfl, .inl rfl, Below.refl _ _⟩
  case round =>
    obtain ⟨l, j, hj, rfl, rfl, HM, HN, HZ, HBr⟩ := hrel
    by_cases hlt : j < n
    · obtain ⟨hsx, hsk, hsd⟩ := HWF.out wr HBr.out
      obtain ⟨b, off, x, rfl, _, hxk, hcx⟩ := hsx.2.at_ (k := j) (by have := HXL.out; omega)
      have hxm := List.mem_of_getElem? hxk
      have hx0 : 0 ≤ x ∧ x ≤ 999999 := HOK.out x hxm
      obtain ⟨hx0, hx1⟩ := hx0
      have HTK : Hid (xs.take (j + 1) = xs.take j ++ [x]) := take_snoc hxk
      have HXM := Lib.hid hxm
      have HKO := Lib.hid (kept_or (nm := nm) (ys := ys) hxm)
      obtain ⟨bk, hbk⟩ : ∃ z, decide (x ∈ keptL nm xs ys) = z := ⟨_, rfl⟩
      obtain ⟨bd, hbd⟩ : ∃ z, decide (x ∈ dropL nm xs ys) = z := ⟨_, rfl⟩
      have HKq : Hid (∀ a, Sl I (wr.drewN a) w3.heap.size A1 n1 (keptL nm xs ys)) := fun a => hsk
      have HDq : Hid (∀ a, Sl I (wr.drewN a) w3.heap.size A2 n2 (dropL nm xs ys)) := fun a => hsd
      have cK : Hid (∀ W, Sl I W w3.heap.size A1 n1 (keptL nm xs ys) → Calls Try.prog 23 #[.slice A1 n1 c1, .int .i64 x] W fun e w' => e = .returned (.bool bk) ∧ W = w') := fun W h => by rw [← hbk]; exact lhas_any A1 n1 (keptL nm xs ys) c1 x W _ h (by omega)
      have cD : Hid (∀ W, Sl I W w3.heap.size A2 n2 (dropL nm xs ys) → Calls Try.prog 23 #[.slice A2 n2 c2, .int .i64 x] W fun e w' => e = .returned (.bool bd) ∧ W = w') := fun W h => by rw [← hbd]; exact lhas_any A2 n2 (dropL nm xs ys) c2 x W _ h (by omega)
      rw [hbk, hbd] at HKO
      have hkd := HKO.out
      obtain ⟨m, hm⟩ : ∃ m, max l x = m := ⟨_, rfl⟩
      have HM2 : Hid (∀ y ∈ xs.take (j + 1), y ≤ m) := by
        show ∀ y ∈ _, _
        rw [HTK.out]
        intro y hy
        rcases List.mem_append.1 hy with hy | hy
        · have h5 := HM.out y hy
          omega
        · obtain rfl := List.mem_singleton.1 hy
          omega
      have HN2 : Hid (m = -1 ∨ m ∈ xs) := by
        show _ ∨ _
        by_cases h5 : l < x
        · exact .inr (by rw [← hm, show max l x = x from by omega]; exact HXM.out)
        · rw [← hm, show max l x = l from by omega]; exact HN.out
      have HZ2 : Hid (j + 1 = 0 ∨ 0 ≤ m) := by
        refine .inr ?_
        omega
      clear hsx hsk hsd hxk hxm hbk hbd
      go_wp2
      go_quiet ((first | (go_at_call 23; with_reducible exact Calls.quiet_of_same (same_of (cK.out _ (HKq.out _)))) | (go_at_call 23; with_reducible exact Calls.quiet_of_same (same_of (cD.out _ (HDq.out _))))))
      go_wp2
      go_roundw
      case rel => exact ⟨m, j + 1, by omega, by go_num, rfl, HM2, HN2, HZ2, below_dN HBr.out _⟩
      case measure => simp [intOf]; omega
    · obtain rfl : n = j := by omega
      have HM3 : Hid (∀ y ∈ xs, y ≤ l) := by
        show ∀ y ∈ _, _
        have h5 := HM.out
        rw [List.take_of_length_le (by have := HXL.out; omega)] at h5
        exact h5
      clear HM hlt
      obtain ⟨w4, hw4⟩ : ∃ w4 : World, w4 = wr := ⟨_, rfl⟩
      rw [← hw4] at HBr ⊢
      clear hw4
      go_wp2
      go_loopw [13] (fun i wr => ∃ j : Nat, j ≤ n1 ∧ i = .int .i64 j ∧ Hid (Below w3.heap.size w3 wr)) (fun i _ => n1 - (intOf i).toNat)
      case atStart => exact ⟨0, Nat.zero_le _, rfl, HBr⟩
      case round =>
        obtain ⟨j, hj, rfl, HBq⟩ := hrel
        by_cases hlt : j < n1
        · obtain ⟨hsx, hsk, hsd⟩ := HWF.out wr HBq.out
          obtain ⟨b, off, y, rfl, _, hyk, hcy⟩ := hsk.2.at_ (k := j) (by have := HKL.out; omega)
          have hym : y ∈ xs := (keptL_mem.1 (List.mem_of_getElem? hyk)).1
          have HXq : Hid (∀ a, Sl I (wr.drewN a) w3.heap.size A n xs) := fun a => hsx
          have cX : Hid (∀ W, Sl I W w3.heap.size A n xs → Calls Try.prog 23 #[.slice A n cp, .int .i64 y] W fun e w' => e = .returned (.bool true) ∧ W = w') := fun W h => by have h5 := lhas_any A n xs cp y W _ h (by omega); rw [decide_eq_true hym] at h5; exact h5
          rcases Nat.eq_zero_or_pos j with h0 | h0
          · subst h0
            rw [Nat.add_zero] at hcy
            have hn0 : (0 : Int) < (n1 : Int) := by omega
            clear hyk hsx hsk hsd hym
            go_wp2
            go_quiet ((go_at_call 23; with_reducible exact Calls.quiet_of_same (same_of (cX.out _ (HXq.out _)))))
            go_wp2
            go_roundw
            case rel => exact ⟨1, by omega, by go_num, below_dN HBq.out _⟩
            case measure => simp [intOf]; omega
          · obtain ⟨p, rfl⟩ : ∃ p, j = p + 1 := ⟨j - 1, by omega⟩
            obtain ⟨b', off', z, hA', _, hzk, hcz⟩ := hsk.2.at_ (k := p) (by have := HKL.out; omega)
            have hA'' : b' = b ∧ off' = off := by simpa [eq_comm] using hA'
            obtain ⟨rfl, rfl⟩ := hA''
            have hzy := asc_at (keptL_asc nm xs ys) hzk hyk
            have hd1 : decide (y ≤ z) = false := by simp; omega
            have hd2 : ¬ y ≤ z := by omega
            have hw1 : IntKind.i64.wrap ((p : Int) + 1 - 1) = (p : Int) := by rw [show ((p : Int) + 1 - 1) = (p : Int) from by omega]; exact IntWalk.i64_in _ (by omega)
            have hp0 : (0 : Int) ≤ (p : Int) := by omega
            have hp1 : (p : Int) < (n1 : Int) := by omega
            have hp2 : decide (0 < (p : Int) + 1) = true := by simp <;> omega
            clear hyk hsx hsk hsd hym hA' hzk hzy
            go_wp2
            go_quiet ((go_at_call 23; with_reducible exact Calls.quiet_of_same (same_of (cX.out _ (HXq.out _)))))
            go_wp2
            go_roundw
            case rel => exact ⟨p + 1 + 1, by omega, by go_num, below_dN HBq.out _⟩
            case measure => simp [intOf]; omega
        · obtain rfl : n1 = j := by omega
          obtain ⟨w5, hw5⟩ : ∃ w5 : World, w5 = wr := ⟨_, rfl⟩
          rw [← hw5] at HBq ⊢
          clear hw5 hlt
          go_wp2
          go_loopw [14] (fun i wr => ∃ j : Nat, j ≤ n2 ∧ i = .int .i64 j ∧ Hid (Below w3.heap.size w3 wr)) (fun i _ => n2 - (intOf i).toNat)
          case atStart => exact ⟨0, Nat.zero_le _, rfl, HBq⟩
          case round =>
            obtain ⟨j, hj, rfl, HBq⟩ := hrel
            by_cases hlt : j < n2
            · obtain ⟨hsx, hsk, hsd⟩ := HWF.out wr HBq.out
              obtain ⟨b, off, y, rfl, _, hyk, hcy⟩ := hsd.2.at_ (k := j) (by have := HDL.out; omega)
              have hym : y ∈ xs := (dropL_mem.1 (List.mem_of_getElem? hyk)).1
              have HXq : Hid (∀ a, Sl I (wr.drewN a) w3.heap.size A n xs) := fun a => hsx
              have cX : Hid (∀ W, Sl I W w3.heap.size A n xs → Calls Try.prog 23 #[.slice A n cp, .int .i64 y] W fun e w' => e = .returned (.bool true) ∧ W = w') := fun W h => by have h5 := lhas_any A n xs cp y W _ h (by omega); rw [decide_eq_true hym] at h5; exact h5
              rcases Nat.eq_zero_or_pos j with h0 | h0
              · subst h0
                rw [Nat.add_zero] at hcy
                have hn0 : (0 : Int) < (n2 : Int) := by omega
                clear hyk hsx hsk hsd hym
                go_wp2
                go_quiet ((go_at_call 23; with_reducible exact Calls.quiet_of_same (same_of (cX.out _ (HXq.out _)))))
                go_wp2
                go_roundw
                case rel => exact ⟨1, by omega, by go_num, below_dN HBq.out _⟩
                case measure => simp [intOf]; omega
              · obtain ⟨p, rfl⟩ : ∃ p, j = p + 1 := ⟨j - 1, by omega⟩
                obtain ⟨b', off', z, hA', _, hzk, hcz⟩ := hsd.2.at_ (k := p) (by have := HDL.out; omega)
                have hA'' : b' = b ∧ off' = off := by simpa [eq_comm] using hA'
                obtain ⟨rfl, rfl⟩ := hA''
                have hzy := asc_at (dropL_asc nm xs ys) hzk hyk
                have hd1 : decide (y ≤ z) = false := by simp; omega
                have hd2 : ¬ y ≤ z := by omega
                have hw1 : IntKind.i64.wrap ((p : Int) + 1 - 1) = (p : Int) := by rw [show ((p : Int) + 1 - 1) = (p : Int) from by omega]; exact IntWalk.i64_in _ (by omega)
                have hp0 : (0 : Int) ≤ (p : Int) := by omega
                have hp1 : (p : Int) < (n2 : Int) := by omega
                have hp2 : decide (0 < (p : Int) + 1) = true := by simp <;> omega
                clear hyk hsx hsk hsd hym hA' hzk hzy
                go_wp2
                go_quiet ((go_at_call 23; with_reducible exact Calls.quiet_of_same (same_of (cX.out _ (HXq.out _)))))
                go_wp2
                go_roundw
                case rel => exact ⟨p + 1 + 1, by omega, by go_num, below_dN HBq.out _⟩
                case measure => simp [intOf]; omega
            · obtain rfl : n2 = j := by omega
              obtain ⟨w6, hw5⟩ : ∃ w5 : World, w5 = wr := ⟨_, rfl⟩
              rw [← hw5] at HBq ⊢
              clear hw5 hlt
              have HG9 : Hid (w6.heap[w.heap.size]? = some (.cells #[.int .i64 nm.a, .int .i64 nm.b, .int .i64 nm.c, .int .i64 nm.d] 23 (0, 0))) := (HBq.out.block _ (Nat.lt_of_lt_of_le (lt_of_block HG3.out) (Nat.le_refl _))).trans HG3.out
              have HB9 : Hid (Below w.heap.size w w6) := HB3.out.trans (HBq.out.mono HB3.out.size)
              have hsk := (HWF.out w6 HBq.out).2.1
              have g0 := cell_of_row w6 w.heap.size 0 _ _ _ HG9.out
              have g1 := cell_of_row w6 w.heap.size 1 _ _ _ HG9.out
              have g2 := cell_of_row w6 w.heap.size 2 _ _ _ HG9.out
              have g3 := cell_of_row w6 w.heap.size 3 _ _ _ HG9.out
              simp at g0 g1 g2 g3
              by_cases hl0 : l < 0
              · clear hsk
                go_wp2
                go_ret
                exact ⟨rfl, HB9.out⟩
              · have hl9 : decide (l < 0) = false := by simp; omega
                by_cases hs : nm.a + nm.b + nm.c + nm.d = 0
                · have z1 : nm.a = 0 := by omega
                  have z2 : nm.b = 0 := by omega
                  have z3 : nm.c = 0 := by omega
                  have z4 : nm.d = 0 := by omega
                  rw [z1] at g0
                  rw [z2] at g1
                  rw [z3] at g2
                  rw [z4] at g3
                  clear hsk hs z1 z2 z3 z4
                  go_wp2
                  go_ret
                  exact ⟨rfl, HB9.out⟩
                · have hsb : ((nm.a : Int) + nm.b + nm.c + nm.d == 0) = false := by simp; omega
                  have hmem : l ∈ xs := by
                    rcases HN.out with h5 | h5
                    · omega
                    · exact h5
                  have htop := top_kept (n := nm) (holds := ys) HOK.out hmem HM3.out hs
                  have cT : Hid (∀ W, Sl I W w3.heap.size A1 n1 (keptL nm xs ys) → Calls Try.prog 23 #[.slice A1 n1 c1, .int .i64 l] W fun e w' => e = .returned (.bool true) ∧ W = w') := fun W h => by have h5 := lhas_any A1 n1 (keptL nm xs ys) c1 l W _ h (by omega); rw [decide_eq_true htop] at h5; exact h5
                  have HSK := Lib.hid hsk
                  clear hsk hs hmem htop
                  go_wp2_with fail
                  refine (cT.out _ HSK.out).mono ?_
                  rintro e w' ⟨rfl, rfl⟩
                  go_wp2
                  go_ret
                  exact ⟨rfl, HB9.out⟩
theorem lawDivides_any (a b c d : Int) (A A' : Option Addr) (n n' cp cp' : Nat) (xs ys : List Int) (w : World) (hx : Sl I w w.heap.size A n xs) (hy : Sl I w w.heap.size A' n' ys) : Calls Try.prog 11 #[fR a b c d, .slice A n cp, .slice A' n' cp'] w (BoolB true w) := by
  cases hf : (decide (n ≤ 40) && decide (n' ≤ 10))
  · exact lawDivides_many a b c d A A' n n' cp cp' w hf
  · cases hb : argB a b c d xs ys
    · exact lawDivides_bad a b c d A A' n n' cp cp' xs ys w hx hy hf hb
    · obtain ⟨nm, rfl, rfl, rfl, rfl, h1, h2, h3, h4⟩ := argB_nums hb
      exact lawDivides_good nm h1 h2 h3 h4 A A' n n' cp cp' xs ys w hx hy hf hb
end Go.Proofs.Ytfffhdclbdmfnaa
