/- The reference: Reason. -/
import Derived.Test.YtfffhdclbdmfnaaRby
import Derived.Test.YtfffhdclbdmfnaaWhy
namespace Go.Proofs.Ytfffhdclbdmfnaa
open Go.RowKit Ret
set_option linter.unusedVariables false
set_option linter.unusedSimpArgs false

/-- The sum of the reasons of the first kinds. -/
def rsF (nm : Nums) (xs : List Int) (day : Int) : Nat → Int
  | 0 => 0
  | 1 => if By 0 nm.a xs day then 1 else 0
  | 2 => (if By 0 nm.a xs day then 1 else 0) + (if By 1 nm.b xs day then 2 else 0)
  | 3 => (if By 0 nm.a xs day then 1 else 0) + (if By 1 nm.b xs day then 2 else 0) + (if By 2 nm.c xs day then 4 else 0)
  | _ => (if By 0 nm.a xs day then 1 else 0) + (if By 1 nm.b xs day then 2 else 0) + (if By 2 nm.c xs day then 4 else 0) + (if By 3 nm.d xs day then 8 else 0)
theorem rsF_bd (nm : Nums) (xs : List Int) (day : Int) (k : Nat) : 0 ≤ rsF nm xs day k ∧ rsF nm xs day k ≤ 15 := by
  unfold rsF
  split
  all_goals
    repeat' split
    all_goals omega
theorem rsF_four (nm : Nums) (xs ys : List Int) (day : Int) : rsn nm xs ys day = rsF nm xs day 4 + if day ∈ ys then 16 else 0 := rfl
theorem rsF_y0 {nm : Nums} {xs : List Int} {day : Int} (h : By 0 nm.a xs day) : rsF nm xs day 1 = rsF nm xs day 0 + 1 := by simp [rsF, h]
theorem rsF_n0 {nm : Nums} {xs : List Int} {day : Int} (h : ¬ By 0 nm.a xs day) : rsF nm xs day 1 = rsF nm xs day 0 := by simp [rsF, h]
theorem rsF_y1 {nm : Nums} {xs : List Int} {day : Int} (h : By 1 nm.b xs day) : rsF nm xs day 2 = rsF nm xs day 1 + 2 := by simp [rsF, h]
theorem rsF_n1 {nm : Nums} {xs : List Int} {day : Int} (h : ¬ By 1 nm.b xs day) : rsF nm xs day 2 = rsF nm xs day 1 := by simp [rsF, h]
theorem rsF_y2 {nm : Nums} {xs : List Int} {day : Int} (h : By 2 nm.c xs day) : rsF nm xs day 3 = rsF nm xs day 2 + 4 := by simp [rsF, h]
theorem rsF_n2 {nm : Nums} {xs : List Int} {day : Int} (h : ¬ By 2 nm.c xs day) : rsF nm xs day 3 = rsF nm xs day 2 := by simp [rsF, h]
theorem rsF_y3 {nm : Nums} {xs : List Int} {day : Int} (h : By 3 nm.d xs day) : rsF nm xs day 4 = rsF nm xs day 3 + 8 := by simp [rsF, h]
theorem rsF_n3 {nm : Nums} {xs : List Int} {day : Int} (h : ¬ By 3 nm.d xs day) : rsF nm xs day 4 = rsF nm xs day 3 := by simp [rsF, h]

set_option maxRecDepth 20000 in
set_option maxHeartbeats 4000000 in
theorem rreason_any (nm : Nums) (h1 : nm.a ≤ 1000) (h2 : nm.b ≤ 1000) (h3 : nm.c ≤ 1000) (h4 : nm.d ≤ 1000) (day : Int) (A A' : Option Addr) (n n' cp cp' : Nat) (xs ys : List Int) (w : World) (hx : Sl I w w.heap.size A n xs) (hy : Sl I w w.heap.size A' n' ys) (hn : n ≤ 1000000) (hn' : n' ≤ 1000000) (hok : ∀ x ∈ xs, okD x) (hd : okD day) :
    Calls Try.prog 35 #[fR nm.a nm.b nm.c nm.d, .slice A n cp, .slice A' n' cp', .int .i64 day] w (IntB (rsn nm xs ys day) w) := by
  obtain ⟨W0, hW0⟩ : ∃ W0 : World, W0 = w.alloc (.cells #[.int .i64 nm.a, .int .i64 nm.b, .int .i64 nm.c, .int .i64 nm.d] 23) := ⟨_, rfl⟩
  have hb0 : Below w.heap.size w W0 := by rw [hW0]; exact (Below.refl _ _).alloc (Nat.le_refl _) _
  have HB0 := Lib.hid hb0
  have hg0 : W0.heap[w.heap.size]? = some (.cells #[.int .i64 nm.a, .int .i64 nm.b, .int .i64 nm.c, .int .i64 nm.d] 23 (0, 0)) := by rw [hW0]; exact heap_alloc_new w _
  have HG0 := Lib.hid hg0
  have HX : Hid (∀ W, Below w.heap.size w W → Sl I W W.heap.size A n xs) := fun W h => (hx.up h (Nat.le_refl _)).more' h.size
  have HY : Hid (∀ W, Below w.heap.size w W → Sl I W W.heap.size A' n' ys) := fun W h => (hy.up h (Nat.le_refl _)).more' h.size
  have HC0 : Hid (∀ W, Below w.heap.size w W → Calls Try.prog 50 #[.int .i64 0, .int .i64 nm.a, .slice A n cp, .int .i64 day] W (BoolB (decide (By 0 nm.a xs day)) W)) := fun W h => rby_any 0 nm.a (by omega) A n cp xs day W (HX.out W h) hn (by omega) hok hd
  have HC1 : Hid (∀ W, Below w.heap.size w W → Calls Try.prog 50 #[.int .i64 1, .int .i64 nm.b, .slice A n cp, .int .i64 day] W (BoolB (decide (By 1 nm.b xs day)) W)) := fun W h => rby_any 1 nm.b (by omega) A n cp xs day W (HX.out W h) hn (by omega) hok hd
  have HC2 : Hid (∀ W, Below w.heap.size w W → Calls Try.prog 50 #[.int .i64 2, .int .i64 nm.c, .slice A n cp, .int .i64 day] W (BoolB (decide (By 2 nm.c xs day)) W)) := fun W h => rby_any 2 nm.c (by omega) A n cp xs day W (HX.out W h) hn (by omega) hok hd
  have HC3 : Hid (∀ W, Below w.heap.size w W → Calls Try.prog 50 #[.int .i64 3, .int .i64 nm.d, .slice A n cp, .int .i64 day] W (BoolB (decide (By 3 nm.d xs day)) W)) := fun W h => rby_any 3 nm.d (by omega) A n cp xs day W (HX.out W h) hn (by omega) hok hd
  have i0 : ∀ w, (Instr.index 72 (.agg #[.int .i64 nm.a, .int .i64 nm.b, .int .i64 nm.c, .int .i64 nm.d]) (.int .i64 0)).run Try.prog w = .ok (.int .i64 nm.a) w := fun _ => by kernel_rfl
  have i1 : ∀ w, (Instr.index 72 (.agg #[.int .i64 nm.a, .int .i64 nm.b, .int .i64 nm.c, .int .i64 nm.d]) (.int .i64 1)).run Try.prog w = .ok (.int .i64 nm.b) w := fun _ => by kernel_rfl
  have i2 : ∀ w, (Instr.index 72 (.agg #[.int .i64 nm.a, .int .i64 nm.b, .int .i64 nm.c, .int .i64 nm.d]) (.int .i64 2)).run Try.prog w = .ok (.int .i64 nm.c) w := fun _ => by kernel_rfl
  have i3 : ∀ w, (Instr.index 72 (.agg #[.int .i64 nm.a, .int .i64 nm.b, .int .i64 nm.c, .int .i64 nm.d]) (.int .i64 3)).run Try.prog w = .ok (.int .i64 nm.d) w := fun _ => by kernel_rfl
  clear hx hy hok hd hb0 hg0
  go_enter Try.func35, Try.ntmps35
  go_wp2
  rw [← hW0]
  clear hW0
  go_loopw [9, 21] (fun o i wr => ∃ j : Nat, j ≤ 4 ∧ i = .int .i64 j ∧ o = .int .i64 (rsF nm xs day j) ∧ Hid (Below w.heap.size w wr)) (fun _ i _ => 4 - (intOf i).toNat)
  case atStart => exact ⟨0, by omega, rfl, rfl, HB0⟩
  case round =>
    obtain ⟨j, hj, rfl, rfl, HB1⟩ := hrel
    have hj4 : j = 0 ∨ j = 1 ∨ j = 2 ∨ j = 3 ∨ j = 4 := by omega
    rcases hj4 with rfl | rfl | rfl | rfl | rfl
    · obtain ⟨r, hr⟩ : ∃ r, rsF nm xs day 0 = r := ⟨_, rfl⟩
      have hbd := rsF_bd nm xs day 0
      rw [hr] at hbd
      obtain ⟨hr0, hr1⟩ := hbd
      by_cases hby : By 0 nm.a xs day
      · have HN : Hid (rsF nm xs day 1 = r + 1) := by show _ = _; rw [rsF_y0 hby, hr]
        have HT : Hid (decide (By 0 nm.a xs day) = true) := decide_eq_true hby
        rw [hr]
        clear hr hby
        go_wp2_with fail
        refine (HC0.out wr HB1.out).mono ?_
        rintro e w1 ⟨rfl, hb⟩
        have HB2 : Hid (Below w.heap.size w w1) := HB1.out.trans (hb.mono HB1.out.size)
        clear hb
        rw [HT.out]
        go_wp2
        go_roundw
        case rel => exact ⟨1, by omega, by go_num, by rw [HN.out], HB2⟩
        case measure => simp [intOf]
      · have HN : Hid (rsF nm xs day 1 = r) := by show _ = _; rw [rsF_n0 hby, hr]
        have HT : Hid (decide (By 0 nm.a xs day) = false) := decide_eq_false hby
        rw [hr]
        clear hr hby
        go_wp2_with fail
        refine (HC0.out wr HB1.out).mono ?_
        rintro e w1 ⟨rfl, hb⟩
        have HB2 : Hid (Below w.heap.size w w1) := HB1.out.trans (hb.mono HB1.out.size)
        clear hb
        rw [HT.out]
        go_wp2
        go_roundw
        case rel => exact ⟨1, by omega, by go_num, by rw [HN.out], HB2⟩
        case measure => simp [intOf]
    · obtain ⟨r, hr⟩ : ∃ r, rsF nm xs day 1 = r := ⟨_, rfl⟩
      have hbd := rsF_bd nm xs day 1
      rw [hr] at hbd
      obtain ⟨hr0, hr1⟩ := hbd
      by_cases hby : By 1 nm.b xs day
      · have HN : Hid (rsF nm xs day 2 = r + 2) := by show _ = _; rw [rsF_y1 hby, hr]
        have HT : Hid (decide (By 1 nm.b xs day) = true) := decide_eq_true hby
        rw [hr]
        clear hr hby
        go_wp2_with fail
        refine (HC1.out wr HB1.out).mono ?_
        rintro e w1 ⟨rfl, hb⟩
        have HB2 : Hid (Below w.heap.size w w1) := HB1.out.trans (hb.mono HB1.out.size)
        clear hb
        rw [HT.out]
        go_wp2
        go_roundw
        case rel => exact ⟨2, by omega, by go_num, by rw [HN.out], HB2⟩
        case measure => simp [intOf]
      · have HN : Hid (rsF nm xs day 2 = r) := by show _ = _; rw [rsF_n1 hby, hr]
        have HT : Hid (decide (By 1 nm.b xs day) = false) := decide_eq_false hby
        rw [hr]
        clear hr hby
        go_wp2_with fail
        refine (HC1.out wr HB1.out).mono ?_
        rintro e w1 ⟨rfl, hb⟩
        have HB2 : Hid (Below w.heap.size w w1) := HB1.out.trans (hb.mono HB1.out.size)
        clear hb
        rw [HT.out]
        go_wp2
        go_roundw
        case rel => exact ⟨2, by omega, by go_num, by rw [HN.out], HB2⟩
        case measure => simp [intOf]
    · obtain ⟨r, hr⟩ : ∃ r, rsF nm xs day 2 = r := ⟨_, rfl⟩
      have hbd := rsF_bd nm xs day 2
      rw [hr] at hbd
      obtain ⟨hr0, hr1⟩ := hbd
      by_cases hby : By 2 nm.c xs day
      · have HN : Hid (rsF nm xs day 3 = r + 4) := by show _ = _; rw [rsF_y2 hby, hr]
        have HT : Hid (decide (By 2 nm.c xs day) = true) := decide_eq_true hby
        rw [hr]
        clear hr hby
        go_wp2_with fail
        refine (HC2.out wr HB1.out).mono ?_
        rintro e w1 ⟨rfl, hb⟩
        have HB2 : Hid (Below w.heap.size w w1) := HB1.out.trans (hb.mono HB1.out.size)
        clear hb
        rw [HT.out]
        go_wp2
        go_roundw
        case rel => exact ⟨3, by omega, by go_num, by rw [HN.out], HB2⟩
        case measure => simp [intOf]
      · have HN : Hid (rsF nm xs day 3 = r) := by show _ = _; rw [rsF_n2 hby, hr]
        have HT : Hid (decide (By 2 nm.c xs day) = false) := decide_eq_false hby
        rw [hr]
        clear hr hby
        go_wp2_with fail
        refine (HC2.out wr HB1.out).mono ?_
        rintro e w1 ⟨rfl, hb⟩
        have HB2 : Hid (Below w.heap.size w w1) := HB1.out.trans (hb.mono HB1.out.size)
        clear hb
        rw [HT.out]
        go_wp2
        go_roundw
        case rel => exact ⟨3, by omega, by go_num, by rw [HN.out], HB2⟩
        case measure => simp [intOf]
    · obtain ⟨r, hr⟩ : ∃ r, rsF nm xs day 3 = r := ⟨_, rfl⟩
      have hbd := rsF_bd nm xs day 3
      rw [hr] at hbd
      obtain ⟨hr0, hr1⟩ := hbd
      by_cases hby : By 3 nm.d xs day
      · have HN : Hid (rsF nm xs day 4 = r + 8) := by show _ = _; rw [rsF_y3 hby, hr]
        have HT : Hid (decide (By 3 nm.d xs day) = true) := decide_eq_true hby
        rw [hr]
        clear hr hby
        go_wp2_with fail
        refine (HC3.out wr HB1.out).mono ?_
        rintro e w1 ⟨rfl, hb⟩
        have HB2 : Hid (Below w.heap.size w w1) := HB1.out.trans (hb.mono HB1.out.size)
        clear hb
        rw [HT.out]
        go_wp2
        go_roundw
        case rel => exact ⟨4, by omega, by go_num, by rw [HN.out], HB2⟩
        case measure => simp [intOf]
      · have HN : Hid (rsF nm xs day 4 = r) := by show _ = _; rw [rsF_n3 hby, hr]
        have HT : Hid (decide (By 3 nm.d xs day) = false) := decide_eq_false hby
        rw [hr]
        clear hr hby
        go_wp2_with fail
        refine (HC3.out wr HB1.out).mono ?_
        rintro e w1 ⟨rfl, hb⟩
        have HB2 : Hid (Below w.heap.size w w1) := HB1.out.trans (hb.mono HB1.out.size)
        clear hb
        rw [HT.out]
        go_wp2
        go_roundw
        case rel => exact ⟨4, by omega, by go_num, by rw [HN.out], HB2⟩
        case measure => simp [intOf]
    · obtain ⟨r, hr⟩ : ∃ r, rsF nm xs day 4 = r := ⟨_, rfl⟩
      have hbd := rsF_bd nm xs day 4
      rw [hr] at hbd
      obtain ⟨hr0, hr1⟩ := hbd
      by_cases hin : day ∈ ys
      · have HN : Hid (rsn nm xs ys day = r + 16) := by show _ = _; rw [rsF_four, hr, if_pos hin]
        have HT : Hid (decide (day ∈ ys) = true) := decide_eq_true hin
        rw [hr]
        clear hr hin
        go_wp2_with fail
        refine (rhas_any A' n' ys cp' day wr _ (HY.out wr HB1.out) hn').mono ?_
        rintro e w' ⟨rfl, rfl⟩
        rw [HT.out]
        go_wp2
        go_ret
        exact ⟨ret_int HN.out.symm, HB1.out⟩
      · have HN : Hid (rsn nm xs ys day = r) := by show _ = _; rw [rsF_four, hr, if_neg hin]; omega
        have HT : Hid (decide (day ∈ ys) = false) := decide_eq_false hin
        rw [hr]
        clear hr hin
        go_wp2_with fail
        refine (rhas_any A' n' ys cp' day wr _ (HY.out wr HB1.out) hn').mono ?_
        rintro e w' ⟨rfl, rfl⟩
        rw [HT.out]
        go_wp2
        go_ret
        exact ⟨ret_int HN.out.symm, HB1.out⟩
end Go.Proofs.Ytfffhdclbdmfnaa
