/- Acquits, both. -/
import Derived.Test.YtpdledjgbgalcaaGreatDoorNL
import Derived.Test.YtpdledjgbgalcaaGreatDoorPd
namespace Go.Proofs.YtpdledjgbgalcaaGreatDoor
open Go.RowKit Go.Lib
set_option linter.unusedVariables false
set_option linter.unusedSimpArgs false
abbrev cPi (s : ByteArray) (ix : Int) (A : Option Addr) (n c : Nat) (A' : Option Addr) (m c' : Nat) : Array Value := #[.string s, .int .i64 ix, .slice A n c, .slice A' m c']
/-- Does a piece acquit of an accusation over a receipt? -/
def aqB (R : Rcp) (s : ByteArray) (ix : Int) (xs : List Int) (ys : List ByteArray) : Bool := decide (s = R.s) && (decide (ix = R.ix) && (decide ((xs.length : Int) = R.sz) && vrB s ix xs ys))
set_option maxRecDepth 100000 in
set_option maxHeartbeats 16000000 in
theorem acquits_any (d q : Int) (R : Rcp) (st : ByteArray) (tx : Int) (no an : ByteArray) (s : ByteArray) (ix : Int) (A A' : Option Addr) (n c m c' B : Nat) (xs : List Int) (ys : List ByteArray) (w : World) (hG : Glob w) (hc : n ≤ c) (hc' : m ≤ c') (hx : Sl fB w B A n xs) (hy : Sl fT w B A' m ys) (hB : B ≤ w.heap.size) (hn : n ≤ 1000000) (hm : m ≤ 1000000) (hxb : Byt xs) :
    Calls Tryz.prog 15 #[.agg (cA d q R st tx no an), .agg (cPi s ix A n c A' m c')] w fun e w' => e = .returned (.bool (aqB R s ix xs ys)) ∧ Below w.heap.size w w' := by
  have HF : Hid (aqB R s ix xs ys = (decide (s = R.s) && (decide (ix = R.ix) && (decide ((xs.length : Int) = R.sz) && vrB s ix xs ys)))) := rfl
  have hxl : xs.length = n := hx.1
  have hb1 : Below w.heap.size w ((w.alloc (.cells (cA d q R st tx no an) 39)).alloc (.cells (cPi s ix A n c A' m c') 42)) := ((Below.refl _ _).alloc (Nat.le_refl _) _).alloc (by simp) _
  have HV : Hid (∀ V, Below w.heap.size w V → Calls Tryz.prog 48 #[.agg (cPi s ix A n c A' m c')] V fun e w' => e = .returned (.bool (vrB s ix xs ys)) ∧ Below V.heap.size V w') := fun V hb => sverify_any s ix A A' n c m c' B xs ys V (hG.on hb) hc hc' (hx.up hb hB) (hy.up hb hB) (Nat.le_trans hB hb.size) hn hm hxb
  have HB1 := Lib.hid hb1
  have HC := Lib.hid (HV.out _ hb1)
  rw [hxl] at HF
  obtain ⟨vb, hvb⟩ : ∃ v, vrB s ix xs ys = v := ⟨_, rfl⟩
  rw [hvb] at HC HF
  clear HV hx hy hxb hxl hvb hb1 hG
  obtain ⟨hd, vt, rst, rix, sz, dy, sr, ct, pl, rt, pa, si, pb, pc⟩ := R
  dsimp only at HF HC HB1 ⊢
  by_cases h1 : s = rst
  · subst h1
    rw [decide_eq_true rfl, Bool.true_and] at HF
    by_cases h2 : ix = rix
    · subst h2
      rw [decide_eq_true rfl, Bool.true_and] at HF
      by_cases h3 : (n : Int) = sz
      · subst h3
        rw [decide_eq_true rfl, Bool.true_and] at HF
        go_enter Tryz.func15, Tryz.ntmps15
        go_wp2_with (go_at_call 48; (with_reducible refine HC.out.mono ?_); rintro e w1 ⟨rfl, hb2⟩; (have HB2 := Lib.hid hb2); clear hb2)
        go_ret
        exact ⟨by rw [HF.out]; rfl, HB1.out.trans (HB2.out.mono (by simp; omega))⟩
      · rw [decide_eq_false h3, Bool.false_and] at HF
        have h3I : ((n : Int) == sz) = false := by simp [h3]
        go_enter Tryz.func15, Tryz.ntmps15
        go_wp2
        go_ret
        exact ⟨by rw [HF.out]; rfl, HB1.out⟩
    · rw [decide_eq_false h2, Bool.false_and] at HF
      have h2I : (ix == rix) = false := by simp [h2]
      go_enter Tryz.func15, Tryz.ntmps15
      go_wp2
      go_ret
      exact ⟨by rw [HF.out]; rfl, HB1.out⟩
  · rw [decide_eq_false h1, Bool.false_and] at HF
    have h1t : ¬ s.toList = rst.toList := fun h => h1 (by have := beqD s rst; rw [decide_eq_false h1] at this; simp [h] at this)
    have h1I : (s.toList == rst.toList) = false := by rw [← beqD, decide_eq_false h1]
    have h1D : decide (s.toList = rst.toList) = false := by simp [h1t]
    go_enter Tryz.func15, Tryz.ntmps15
    go_wp2
    go_ret
    exact ⟨by rw [HF.out]; rfl, HB1.out⟩
set_option maxRecDepth 100000 in
set_option maxHeartbeats 16000000 in
theorem racquits_any (d q : Int) (R : Rcp) (st : ByteArray) (tx : Int) (no an : ByteArray) (s : ByteArray) (ix : Int) (A A' : Option Addr) (n c m c' B : Nat) (xs : List Int) (ys : List ByteArray) (w : World) (hc : n ≤ c) (hc' : m ≤ c') (hx : Sl fB w B A n xs) (hy : Sl fT w B A' m ys) (hB : B ≤ w.heap.size) (hn : n ≤ 1000000) (hm : m ≤ 1000000) (hxb : Byt xs) :
    Calls Tryz.prog 16 #[.agg (cA d q R st tx no an), .agg (cPi s ix A n c A' m c')] w fun e w' => e = .returned (.bool (aqB R s ix xs ys)) ∧ Below w.heap.size w w' := by
  have HF : Hid (aqB R s ix xs ys = (decide (s = R.s) && (decide (ix = R.ix) && (decide ((xs.length : Int) = R.sz) && vrB s ix xs ys)))) := rfl
  have hxl : xs.length = n := hx.1
  have hb1 : Below w.heap.size w ((w.alloc (.cells (cA d q R st tx no an) 50)).alloc (.cells (cPi s ix A n c A' m c') 42)) := ((Below.refl _ _).alloc (Nat.le_refl _) _).alloc (by simp) _
  have HV : Hid (∀ V, Below w.heap.size w V → Calls Tryz.prog 49 #[.agg (cPi s ix A n c A' m c')] V fun e w' => e = .returned (.bool (vrB s ix xs ys)) ∧ Below V.heap.size V w') := fun V hb => gverify_any s ix A A' n c m c' B xs ys V hc hc' (hx.up hb hB) (hy.up hb hB) (Nat.le_trans hB hb.size) hn hm hxb
  have HB1 := Lib.hid hb1
  have HC := Lib.hid (HV.out _ hb1)
  rw [hxl] at HF
  obtain ⟨vb, hvb⟩ : ∃ v, vrB s ix xs ys = v := ⟨_, rfl⟩
  rw [hvb] at HC HF
  clear HV hx hy hxb hxl hvb hb1
  obtain ⟨hd, vt, rst, rix, sz, dy, sr, ct, pl, rt, pa, si, pb, pc⟩ := R
  dsimp only at HF HC HB1 ⊢
  have hsz : (((w.alloc (.cells (cA d q ⟨hd, vt, rst, rix, sz, dy, sr, ct, pl, rt, pa, si, pb, pc⟩ st tx no an) 50)).alloc (.cells (cPi s ix A n c A' m c') 42))).heap.size = w.heap.size + 2 := by simp
  have hq1 : (((w.alloc (.cells (cA d q ⟨hd, vt, rst, rix, sz, dy, sr, ct, pl, rt, pa, si, pb, pc⟩ st tx no an) 50)).alloc (.cells (cPi s ix A n c A' m c') 42))).heap[w.heap.size]? = some (.cells (cA d q ⟨hd, vt, rst, rix, sz, dy, sr, ct, pl, rt, pa, si, pb, pc⟩ st tx no an) 50 (0, 0)) := (Below.heap_alloc _ _ _ (by simp)).trans (heap_alloc_new w _)
  have hq2 : (((w.alloc (.cells (cA d q ⟨hd, vt, rst, rix, sz, dy, sr, ct, pl, rt, pa, si, pb, pc⟩ st tx no an) 50)).alloc (.cells (cPi s ix A n c A' m c') 42))).heap[w.heap.size + 1]? = some (.cells (cPi s ix A n c A' m c') 42 (0, 0)) := by
    have := heap_alloc_new (w.alloc (.cells (cA d q ⟨hd, vt, rst, rix, sz, dy, sr, ct, pl, rt, pa, si, pb, pc⟩ st tx no an) 50)) (.cells (cPi s ix A n c A' m c') 42)
    simpa using this
  have HG1 : Hid (∀ V, Below (((w.alloc (.cells (cA d q ⟨hd, vt, rst, rix, sz, dy, sr, ct, pl, rt, pa, si, pb, pc⟩ st tx no an) 50)).alloc (.cells (cPi s ix A n c A' m c') 42))).heap.size (((w.alloc (.cells (cA d q ⟨hd, vt, rst, rix, sz, dy, sr, ct, pl, rt, pa, si, pb, pc⟩ st tx no an) 50)).alloc (.cells (cPi s ix A n c A' m c') 42))) V → V.heap[w.heap.size]? = some (.cells (cA d q ⟨hd, vt, rst, rix, sz, dy, sr, ct, pl, rt, pa, si, pb, pc⟩ st tx no an) 50 (0, 0))) := fun V hb => (hb.block _ (by rw [hsz]; omega)).trans hq1
  have HG2 : Hid (∀ V, Below (((w.alloc (.cells (cA d q ⟨hd, vt, rst, rix, sz, dy, sr, ct, pl, rt, pa, si, pb, pc⟩ st tx no an) 50)).alloc (.cells (cPi s ix A n c A' m c') 42))).heap.size (((w.alloc (.cells (cA d q ⟨hd, vt, rst, rix, sz, dy, sr, ct, pl, rt, pa, si, pb, pc⟩ st tx no an) 50)).alloc (.cells (cPi s ix A n c A' m c') 42))) V → V.heap[w.heap.size + 1]? = some (.cells (cPi s ix A n c A' m c') 42 (0, 0))) := fun V hb => (hb.block _ (by rw [hsz]; omega)).trans hq2
  clear hsz hq1 hq2
  cases vb with
  | false =>
    have HF2 : Hid (aqB ⟨hd, vt, rst, rix, sz, dy, sr, ct, pl, rt, pa, si, pb, pc⟩ s ix xs ys = false) := by show _ = _; rw [HF.out]; simp
    go_enter Tryz.func16, Tryz.ntmps16
    go_wp2_with (go_at_call 49; (with_reducible refine HC.out.mono ?_); rintro e w1 ⟨rfl, hb2⟩; (have HB2 := Lib.hid hb2); (have g1 := HG1.out w1 hb2); (have g2 := HG2.out w1 hb2); (have k4 : w1.cell? ⟨w.heap.size, 4, none⟩ = some (.string rst) := by rw [cell_of_row w1 _ _ _ _ _ g1]; rfl); (have k5 : w1.cell? ⟨w.heap.size, 5, none⟩ = some (.int .i64 rix) := by rw [cell_of_row w1 _ _ _ _ _ g1]; rfl); (have k6 : w1.cell? ⟨w.heap.size, 6, none⟩ = some (.int .i64 sz) := by rw [cell_of_row w1 _ _ _ _ _ g1]; rfl); (have p0 : w1.cell? ⟨w.heap.size + 1, 0, none⟩ = some (.string s) := by rw [cell_of_row w1 _ _ _ _ _ g2]; rfl); (have p1 : w1.cell? ⟨w.heap.size + 1, 1, none⟩ = some (.int .i64 ix) := by rw [cell_of_row w1 _ _ _ _ _ g2]; rfl); (have p2 : w1.cell? ⟨w.heap.size + 1, 2, none⟩ = some (.slice A n c) := by rw [cell_of_row w1 _ _ _ _ _ g2]; rfl); clear hb2 g1 g2)
    go_ret
    exact ⟨by rw [HF2.out]; rfl, HB1.out.trans (HB2.out.mono (by simp; omega))⟩
  | true =>
    by_cases h1 : s = rst
    · subst h1
      rw [decide_eq_true rfl, Bool.true_and] at HF
      by_cases h2 : ix = rix
      · subst h2
        rw [decide_eq_true rfl, Bool.true_and, Bool.and_true] at HF
        by_cases h3 : (n : Int) = sz
        · subst h3
          rw [decide_eq_true rfl] at HF
          go_enter Tryz.func16, Tryz.ntmps16
          go_wp2_with (go_at_call 49; (with_reducible refine HC.out.mono ?_); rintro e w1 ⟨rfl, hb2⟩; (have HB2 := Lib.hid hb2); (have g1 := HG1.out w1 hb2); (have g2 := HG2.out w1 hb2); (have k4 : w1.cell? ⟨w.heap.size, 4, none⟩ = some (.string s) := by rw [cell_of_row w1 _ _ _ _ _ g1]; rfl); (have k5 : w1.cell? ⟨w.heap.size, 5, none⟩ = some (.int .i64 ix) := by rw [cell_of_row w1 _ _ _ _ _ g1]; rfl); (have k6 : w1.cell? ⟨w.heap.size, 6, none⟩ = some (.int .i64 (n : Int)) := by rw [cell_of_row w1 _ _ _ _ _ g1]; rfl); (have p0 : w1.cell? ⟨w.heap.size + 1, 0, none⟩ = some (.string s) := by rw [cell_of_row w1 _ _ _ _ _ g2]; rfl); (have p1 : w1.cell? ⟨w.heap.size + 1, 1, none⟩ = some (.int .i64 ix) := by rw [cell_of_row w1 _ _ _ _ _ g2]; rfl); (have p2 : w1.cell? ⟨w.heap.size + 1, 2, none⟩ = some (.slice A n c) := by rw [cell_of_row w1 _ _ _ _ _ g2]; rfl); clear hb2 g1 g2)
          go_ret
          exact ⟨by rw [HF.out]; rfl, HB1.out.trans (HB2.out.mono (by simp; omega))⟩
        · rw [decide_eq_false h3] at HF
          have h3I : ((n : Int) == sz) = false := by simp [h3]
          go_enter Tryz.func16, Tryz.ntmps16
          go_wp2_with (go_at_call 49; (with_reducible refine HC.out.mono ?_); rintro e w1 ⟨rfl, hb2⟩; (have HB2 := Lib.hid hb2); (have g1 := HG1.out w1 hb2); (have g2 := HG2.out w1 hb2); (have k4 : w1.cell? ⟨w.heap.size, 4, none⟩ = some (.string s) := by rw [cell_of_row w1 _ _ _ _ _ g1]; rfl); (have k5 : w1.cell? ⟨w.heap.size, 5, none⟩ = some (.int .i64 ix) := by rw [cell_of_row w1 _ _ _ _ _ g1]; rfl); (have k6 : w1.cell? ⟨w.heap.size, 6, none⟩ = some (.int .i64 sz) := by rw [cell_of_row w1 _ _ _ _ _ g1]; rfl); (have p0 : w1.cell? ⟨w.heap.size + 1, 0, none⟩ = some (.string s) := by rw [cell_of_row w1 _ _ _ _ _ g2]; rfl); (have p1 : w1.cell? ⟨w.heap.size + 1, 1, none⟩ = some (.int .i64 ix) := by rw [cell_of_row w1 _ _ _ _ _ g2]; rfl); (have p2 : w1.cell? ⟨w.heap.size + 1, 2, none⟩ = some (.slice A n c) := by rw [cell_of_row w1 _ _ _ _ _ g2]; rfl); clear hb2 g1 g2)
          go_ret
          exact ⟨by rw [HF.out]; rfl, HB1.out.trans (HB2.out.mono (by simp; omega))⟩
      · rw [decide_eq_false h2, Bool.false_and] at HF
        have h2I : (ix == rix) = false := by simp [h2]
        go_enter Tryz.func16, Tryz.ntmps16
        go_wp2_with (go_at_call 49; (with_reducible refine HC.out.mono ?_); rintro e w1 ⟨rfl, hb2⟩; (have HB2 := Lib.hid hb2); (have g1 := HG1.out w1 hb2); (have g2 := HG2.out w1 hb2); (have k4 : w1.cell? ⟨w.heap.size, 4, none⟩ = some (.string s) := by rw [cell_of_row w1 _ _ _ _ _ g1]; rfl); (have k5 : w1.cell? ⟨w.heap.size, 5, none⟩ = some (.int .i64 rix) := by rw [cell_of_row w1 _ _ _ _ _ g1]; rfl); (have k6 : w1.cell? ⟨w.heap.size, 6, none⟩ = some (.int .i64 sz) := by rw [cell_of_row w1 _ _ _ _ _ g1]; rfl); (have p0 : w1.cell? ⟨w.heap.size + 1, 0, none⟩ = some (.string s) := by rw [cell_of_row w1 _ _ _ _ _ g2]; rfl); (have p1 : w1.cell? ⟨w.heap.size + 1, 1, none⟩ = some (.int .i64 ix) := by rw [cell_of_row w1 _ _ _ _ _ g2]; rfl); (have p2 : w1.cell? ⟨w.heap.size + 1, 2, none⟩ = some (.slice A n c) := by rw [cell_of_row w1 _ _ _ _ _ g2]; rfl); clear hb2 g1 g2)
        go_ret
        exact ⟨by rw [HF.out]; rfl, HB1.out.trans (HB2.out.mono (by simp; omega))⟩
    · rw [decide_eq_false h1, Bool.false_and] at HF
      have h1t : ¬ s.toList = rst.toList := fun h => h1 (by have := beqD s rst; rw [decide_eq_false h1] at this; simp [h] at this)
      have h1I : (s.toList == rst.toList) = false := by rw [← beqD, decide_eq_false h1]
      have h1D : decide (s.toList = rst.toList) = false := by simp [h1t]
      go_enter Tryz.func16, Tryz.ntmps16
      go_wp2_with (go_at_call 49; (with_reducible refine HC.out.mono ?_); rintro e w1 ⟨rfl, hb2⟩; (have HB2 := Lib.hid hb2); (have g1 := HG1.out w1 hb2); (have g2 := HG2.out w1 hb2); (have k4 : w1.cell? ⟨w.heap.size, 4, none⟩ = some (.string rst) := by rw [cell_of_row w1 _ _ _ _ _ g1]; rfl); (have k5 : w1.cell? ⟨w.heap.size, 5, none⟩ = some (.int .i64 rix) := by rw [cell_of_row w1 _ _ _ _ _ g1]; rfl); (have k6 : w1.cell? ⟨w.heap.size, 6, none⟩ = some (.int .i64 sz) := by rw [cell_of_row w1 _ _ _ _ _ g1]; rfl); (have p0 : w1.cell? ⟨w.heap.size + 1, 0, none⟩ = some (.string s) := by rw [cell_of_row w1 _ _ _ _ _ g2]; rfl); (have p1 : w1.cell? ⟨w.heap.size + 1, 1, none⟩ = some (.int .i64 ix) := by rw [cell_of_row w1 _ _ _ _ _ g2]; rfl); (have p2 : w1.cell? ⟨w.heap.size + 1, 2, none⟩ = some (.slice A n c) := by rw [cell_of_row w1 _ _ _ _ _ g2]; rfl); clear hb2 g1 g2)
      go_ret
      exact ⟨by rw [HF.out]; rfl, HB1.out.trans (HB2.out.mono (by simp; omega))⟩
end Go.Proofs.YtpdledjgbgalcaaGreatDoor
