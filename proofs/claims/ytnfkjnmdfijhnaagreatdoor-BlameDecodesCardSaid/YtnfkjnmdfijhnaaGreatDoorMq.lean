/- Numbers, IDs and pieces checked: isNumber, isID, isShown; the reference's Entry, Shaped. The reference's Shaped. -/
import Derived.Test.YtnfkjnmdfijhnaaGreatDoorZb
import Derived.Test.YtnfkjnmdfijhnaaGreatDoorMr
namespace Go.Proofs.YtnfkjnmdfijhnaaGreatDoor
open Go.RowKit Go.Lib
set_option linter.unusedVariables false
set_option linter.unusedSimpArgs false

def numB (d q : Int) : Bool := decide ((0 ≤ d ∧ d ≤ 11) ∧ (1 ≤ q ∧ q ≤ 1099511627776))
def idB (s : ByteArray) (ix : Int) : Bool := decide (s.size = 32 ∧ 0 ≤ ix ∧ ix ≤ 15)
def sumsB (ys : List ByteArray) : Bool := ys.all fun s => decide (s.size = 32)
/-- A piece's value: its ID, the headers of its data and sums. -/
structure Pc where
  s : ByteArray
  ix : Int
  d : Hd
  q : Hd
abbrev cPc (p : Pc) : Array Value := #[.string p.s, .int .i64 p.ix, .slice p.d.a p.d.n p.d.c, .slice p.q.a p.q.n p.q.c]
def shB (p : Pc) (ys : List ByteArray) : Bool := decide ((p.s.size = 32 ∧ 0 ≤ p.ix ∧ p.ix ≤ 15) ∧ (1 ≤ p.d.n ∧ p.d.n ≤ 65536) ∧ (1 ≤ p.q.n ∧ p.q.n ≤ 16) ∧ sumsB ys = true)
theorem sumsB_iff {ys : List ByteArray} : sumsB ys = true ↔ ∀ s ∈ ys, s.size = 32 := by unfold sumsB; simp
theorem sumsB_of_bad {ys : List ByteArray} {s : ByteArray} (h : s ∈ ys) (hs : s.size ≠ 32) : sumsB ys = false := by
  cases hb : sumsB ys
  · rfl
  · exact absurd (sumsB_iff.1 hb s h) hs
/-- A piece's data and sums in memory. -/
def PcIn (w : World) (B : Nat) (p : Pc) (xs : List Int) (ys : List ByteArray) : Prop := Sl fB w B p.d.a p.d.n xs ∧ Sl fT w B p.q.a p.q.n ys ∧ p.d.n ≤ p.d.c ∧ p.q.n ≤ p.q.c
theorem PcIn.up {w w' : World} {B B' : Nat} {p : Pc} {xs : List Int} {ys : List ByteArray} (h : PcIn w B p xs ys) (hb : Below B' w w') (hB : B ≤ B') : PcIn w' B p xs ys := ⟨h.1.up hb hB, h.2.1.up hb hB, h.2.2⟩
theorem PcIn.more {w : World} {B B' : Nat} {p : Pc} {xs : List Int} {ys : List ByteArray} (h : PcIn w B p xs ys) (hB : B ≤ B') : PcIn w B' p xs ys := ⟨h.1.more' hB, h.2.1.more' hB, h.2.2⟩
set_option maxRecDepth 100000 in
theorem entry_any (d q : Int) (w : World) : Calls Tryz.prog 8 #[.int .i64 d, .int .i64 q] w fun e w' => e = .returned (.bool (numB d q)) ∧ w = w' := by
  by_cases h0 : 0 ≤ d
  · skip
    by_cases h1 : d < 12
    · skip
      by_cases h2 : 1 ≤ q
      · skip
        by_cases h3 : q ≤ 1099511627776
        · skip
          go_enter Tryz.func8, Tryz.ntmps8
          go_wp2
          go_ret
          exact ⟨ret_bool (by first | exact (decide_eq_true (by omega)).symm | exact (decide_eq_false (by omega)).symm), rfl⟩
        · go_enter Tryz.func8, Tryz.ntmps8
          go_wp2
          go_ret
          exact ⟨ret_bool (by first | exact (decide_eq_true (by omega)).symm | exact (decide_eq_false (by omega)).symm), rfl⟩
      · go_enter Tryz.func8, Tryz.ntmps8
        go_wp2
        go_ret
        exact ⟨ret_bool (by first | exact (decide_eq_true (by omega)).symm | exact (decide_eq_false (by omega)).symm), rfl⟩
    · go_enter Tryz.func8, Tryz.ntmps8
      go_wp2
      go_ret
      exact ⟨ret_bool (by first | exact (decide_eq_true (by omega)).symm | exact (decide_eq_false (by omega)).symm), rfl⟩
  · go_enter Tryz.func8, Tryz.ntmps8
    go_wp2
    go_ret
    exact ⟨ret_bool (by first | exact (decide_eq_true (by omega)).symm | exact (decide_eq_false (by omega)).symm), rfl⟩
set_option maxRecDepth 100000 in
theorem isNumber_any (d q : Int) (w : World) : Calls Tryz.prog 29 #[.int .i64 d, .int .i64 q] w fun e w' => e = .returned (.bool (numB d q)) ∧ w = w' := by
  have H1 := Lib.hid (fun W => within_any d 0 11 W)
  have H2 := Lib.hid (fun W => within_any q 1 1099511627776 W)
  have HN : Hid (numB d q = (decide (0 ≤ d ∧ d ≤ 11) && decide (1 ≤ q ∧ q ≤ 1099511627776))) := by show _ = _; unfold numB; rw [Bool.decide_and]
  rw [HN.out]
  cases h1 : decide (0 ≤ d ∧ d ≤ 11)
  all_goals
    rw [h1] at H1
    clear h1 HN
    go_enter Tryz.func29, Tryz.ntmps29
    go_wp2_with (first
      | (go_at_call 69; (with_reducible refine (H1.out _).mono ?_); rintro e w1 ⟨rfl, rfl⟩)
      | (go_at_call 69; (with_reducible refine (H2.out _).mono ?_); rintro e w1 ⟨rfl, rfl⟩))
    go_ret
    exact ⟨ret_bool (by simp), rfl⟩
set_option maxRecDepth 100000 in
theorem isID_any (s : ByteArray) (ix : Int) (w : World) : Calls Tryz.prog 75 #[.agg #[.string s, .int .i64 ix]] w fun e w' => e = .returned (.bool (idB s ix)) ∧ Below w.heap.size w w' := by
  have H1 := Lib.hid (fun W => within_any ix 0 15 W)
  have HN : Hid (idB s ix = (decide (s.size = 32) && decide (0 ≤ ix ∧ ix ≤ 15))) := by show _ = _; unfold idB; rw [Bool.decide_and]
  rw [HN.out]
  by_cases hs : s.size = 32
  · have hsI : ((s.size : Nat) : Int) = 32 := by omega
    have hd : decide (s.size = 32) = true := decide_eq_true hs
    rw [hd]
    clear HN hs hd
    go_enter Tryz.func75, Tryz.ntmps75
    go_wp2_with (first
      | (go_at_call 69; (with_reducible refine (H1.out _).mono ?_); rintro e w1 ⟨rfl, rfl⟩))
    go_ret
    exact ⟨ret_bool (by simp), (Below.refl _ _).alloc (Nat.le_refl _) _⟩
  · have hsI : (((s.size : Nat) : Int) == 32) = false := by simp; omega
    have hd : decide (s.size = 32) = false := decide_eq_false hs
    rw [hd]
    clear HN hs hd H1
    go_enter Tryz.func75, Tryz.ntmps75
    go_wp2
    go_ret
    exact ⟨rfl, (Below.refl _ _).alloc (Nat.le_refl _) _⟩
set_option maxRecDepth 100000 in
theorem indexF_shown (A : Option Addr) (n c B : Nat) (ys : List ByteArray) (w : World) (q : Nat) (hx : Sl fT w B A n ys) (hn : n ≤ 1000000) (hf : ∀ s, Calls Tryz.prog 77 #[.string s, .pointer (some ⟨q, 0, none⟩)] w fun e w' => e = .returned (.bool (!decide (s.size = 32))) ∧ w = w') :
    Calls Tryz.prog 116 #[.slice A n c, .func (.func 77) #[] #[.pointer (some ⟨q, 0, none⟩)]] w fun e w' => ∃ z : Int, e = .returned (.int .i64 z) ∧ decide (0 ≤ z) = !sumsB ys ∧ w = w' := by
  have HX := Lib.hid hx
  have HXN : Hid (ys.length = n) := hx.1
  have HC := Lib.hid hf
  clear hx hf
  go_enter Tryz.func116, Tryz.ntmps116
  go_wp2
  go_loopw [8] (fun i wr => ∃ k : Nat, k ≤ n ∧ i = .int .i64 k ∧ Hid (∀ s ∈ ys.take k, s.size = 32) ∧ w = wr) (fun i _ => n - (intOf i).toNat)
  case atStart => exact ⟨0, by omega, rfl, fun s h => by simp at h, rfl⟩
  case round =>
    obtain ⟨k, hk, rfl, HN, rfl⟩ := hrel
    by_cases hlt : k < n
    · obtain ⟨b, off, x, rfl, _, hg, hc⟩ := HX.out.2.at_ (k := k) (by rw [HXN.out]; exact hlt)
      have hkI : (k : Int) < (n : Int) := by omega
      have HC1 := Lib.hid (HC.out x)
      by_cases hs : x.size = 32
      · have HT : Hid (∀ s ∈ ys.take (k + 1), s.size = 32) := fun s h => by
          rw [take_snoc hg, List.mem_append, List.mem_singleton] at h
          rcases h with h | rfl
          · exact HN.out s h
          · exact hs
        have hd : decide (x.size = 32) = true := decide_eq_true hs
        rw [hd] at HC1
        clear hs hd hg
        go_wp2_with (first
          | (go_at_call 77; (with_reducible refine HC1.out.mono ?_); rintro e w1 ⟨rfl, rfl⟩))
        refine ⟨?rel, ?measure⟩
        case rel => exact ⟨k + 1, by omega, by go_num, HT, by trivial⟩
        case measure => simp [intOf]; omega
      · have HS : Hid (sumsB ys = false) := sumsB_of_bad (List.mem_of_getElem? hg) hs
        have hd : decide (x.size = 32) = false := decide_eq_false hs
        rw [hd] at HC1
        clear hs hd hg
        go_wp2_with (first
          | (go_at_call 77; (with_reducible refine HC1.out.mono ?_); rintro e w1 ⟨rfl, rfl⟩))
        go_ret
        exact ⟨_, rfl, by rw [HS.out]; simp, rfl⟩
    · obtain rfl : k = n := by omega
      go_wp2
      go_ret
      have h1 := HN.out
      rw [List.take_of_length_le (by rw [HXN.out]; exact Nat.le_refl _)] at h1
      exact ⟨-1, rfl, by rw [sumsB_iff.2 h1]; rfl, rfl⟩
set_option maxRecDepth 100000 in
theorem containsF_shown (A : Option Addr) (n c B : Nat) (ys : List ByteArray) (w : World) (q : Nat) (hx : Sl fT w B A n ys) (hn : n ≤ 1000000) (hf : ∀ s, Calls Tryz.prog 77 #[.string s, .pointer (some ⟨q, 0, none⟩)] w fun e w' => e = .returned (.bool (!decide (s.size = 32))) ∧ w = w') :
    Calls Tryz.prog 76 #[.slice A n c, .func (.func 77) #[] #[.pointer (some ⟨q, 0, none⟩)]] w fun e w' => e = .returned (.bool (!sumsB ys)) ∧ w = w' := by
  have HC := Lib.hid (indexF_shown A n c B ys w q hx hn hf)
  clear hx hf
  go_enter Tryz.func76, Tryz.ntmps76
  go_wp2_with (first
    | (go_at_call 116; (with_reducible refine HC.out.mono ?_); rintro e w1 ⟨z, rfl, hz, rfl⟩; (have HZ := Lib.hid hz); clear hz))
  go_ret
  exact ⟨ret_bool HZ.out, rfl⟩
set_option maxRecDepth 100000 in
theorem isShown1_any (s : ByteArray) (w : World) : Calls Tryz.prog 74 #[.string s] w fun e w' => e = .returned (.bool (decide (s.size = 32))) ∧ w = w' := by
  by_cases hs : s.size = 32
  · have hsI : ((s.size : Nat) : Int) = 32 := by omega
    rw [decide_eq_true hs]
    clear hs
    go_enter Tryz.func74, Tryz.ntmps74
    go_wp2
    go_ret
    exact ⟨rfl, rfl⟩
  · have hsI : (((s.size : Nat) : Int) == 32) = false := by simp; omega
    rw [decide_eq_false hs]
    clear hs
    go_enter Tryz.func74, Tryz.ntmps74
    go_wp2
    go_ret
    exact ⟨rfl, rfl⟩
set_option maxRecDepth 100000 in
theorem isShown2_any (q : Nat) (s : ByteArray) (w : World) (hq : w.cell? ⟨q, 0, none⟩ = some (.func (.func 74) #[] #[])) : Calls Tryz.prog 77 #[.string s, .pointer (some ⟨q, 0, none⟩)] w fun e w' => e = .returned (.bool (!decide (s.size = 32))) ∧ w = w' := by
  have H1 := Lib.hid (isShown1_any s w)
  go_enter Tryz.func77, Tryz.ntmps77
  go_wp2_with (first
    | (go_at_call 74; (with_reducible refine H1.out.mono ?_); rintro e w1 ⟨rfl, rfl⟩))
  go_ret
  exact ⟨rfl, rfl⟩
set_option maxRecDepth 100000 in
set_option maxHeartbeats 2000000 in
theorem isShown_any (p : Pc) (xs : List Int) (ys : List ByteArray) (B : Nat) (w : World) (hx : PcIn w B p xs ys) (hB : B ≤ w.heap.size) : Calls Tryz.prog 30 #[.agg (cPc p)] w fun e w' => e = .returned (.bool (shB p ys)) ∧ Below w.heap.size w w' := by
  have hsf : ∀ (a : Addr) (m : Mode) (w : World), (store a (.func (.func 74) #[] #[]) m).run Tryz.prog w = stored Tryz.prog w a (.func (.func 74) #[] #[]) m := fun a m w => run_store Tryz.prog w a _ m rfl
  have hmf : ∀ (fn : Fn) (first cap : Array Value) (w : World), (Instr.makeFunc fn first cap).run Tryz.prog w = .ok (.func fn first cap) w := fun _ _ _ _ => rfl
  obtain ⟨s, ix, ⟨a, n, c⟩, ⟨a', m, c'⟩⟩ := p
  have hy : Sl fT w B a' m ys := hx.2.1
  have hcn : Hid (n ≤ c) := hx.2.2.1
  obtain ⟨W1, hW1⟩ : ∃ W1 : World, W1 = (w.alloc (.cells #[.string s, .int .i64 ix, .slice a n c, .slice a' m c'] 27)).alloc (.cells #[.func (.func 74) #[] #[]] 126) := ⟨_, rfl⟩
  have hb1 : Below w.heap.size w W1 := by rw [hW1]; exact ((Below.refl _ _).alloc (Nat.le_refl _) _).alloc (by simp) _
  have hs1 : W1.heap.size = w.heap.size + 1 + 1 := by rw [hW1]; simp
  have hc : W1.heap[w.heap.size]? = some (.cells #[.string s, .int .i64 ix, .slice a n c, .slice a' m c'] 27 (0, 0)) := by rw [hW1, Below.heap_alloc _ _ _ (by simp)]; exact heap_alloc_new w _
  have hq : W1.heap[w.heap.size + 1]? = some (.cells #[.func (.func 74) #[] #[]] 126 (0, 0)) := by
    rw [hW1]
    have := heap_alloc_new (w.alloc (.cells #[.string s, .int .i64 ix, .slice a n c, .slice a' m c'] 27)) (.cells #[.func (.func 74) #[] #[]] 126)
    simpa using this
  have HC : Hid (∀ W, Below W1.heap.size W1 W → W.cell? ⟨w.heap.size, 2, none⟩ = some (.slice a n c) ∧ W.cell? ⟨w.heap.size, 3, none⟩ = some (.slice a' m c')) := fun W hb => by
    have h := (hb.block w.heap.size (by omega)).trans hc
    exact ⟨by rw [cell_of_row W _ 2 _ _ _ h]; rfl, by rw [cell_of_row W _ 3 _ _ _ h]; rfl⟩
  have HF : Hid (m ≤ 16 → ∀ W, Below W1.heap.size W1 W → Calls Tryz.prog 76 #[.slice a' m c', .func (.func 77) #[] #[.pointer (some ⟨w.heap.size + 1, 0, none⟩)]] W fun e w' => e = .returned (.bool (!sumsB ys)) ∧ W = w') := fun hm W hb =>
    containsF_shown a' m c' B ys W (w.heap.size + 1) (hy.up (hb1.trans (hb.mono hb1.size)) hB) (by omega) (fun z => isShown2_any _ z W (by rw [cell_of_row W _ 0 _ _ _ ((hb.block _ (by omega)).trans hq)]; rfl))
  have HI := Lib.hid (isID_any s ix W1)
  have H1 := Lib.hid (fun W => within_any n 1 65536 W)
  have H2 := Lib.hid (fun W => within_any m 1 16 W)
  have HB1 := Lib.hid hb1
  have HR : Hid (shB ⟨s, ix, ⟨a, n, c⟩, ⟨a', m, c'⟩⟩ ys = (idB s ix && (decide ((1 : Int) ≤ n ∧ (n : Int) ≤ 65536) && (decide ((1 : Int) ≤ m ∧ (m : Int) ≤ 16) && sumsB ys)))) := by
    show decide _ = _
    unfold idB
    rw [Bool.eq_iff_iff]
    simp only [decide_eq_true_eq, Bool.and_eq_true]
    constructor
    · rintro ⟨h1, h2, h3, h4⟩
      exact ⟨h1, by omega, by omega, h4⟩
    · rintro ⟨h1, h2, h3, h4⟩
      exact ⟨h1, by omega, by omega, h4⟩
  have HWE := Lib.hid hW1
  rw [HR.out]
  rw [hW1] at HI
  show Calls Tryz.prog 30 #[.agg #[.string s, .int .i64 ix, .slice a n c, .slice a' m c']] w _
  clear hx hy hB hb1 hs1 hc hq hW1 HR
  cases h0 : idB s ix
  · rw [h0] at HI
    clear h0 HC HF H1 H2
    go_enter Tryz.func30, Tryz.ntmps30
    go_wp2_with (first
      | (go_at_call 75; (with_reducible refine HI.out.mono ?_); rintro e w2 ⟨rfl, hb2⟩; rw [← HWE.out] at hb2; have HB2 := Lib.hid hb2; clear hb2))
    go_ret
    exact ⟨rfl, HB1.out.trans (HB2.out.mono HB1.out.size)⟩
  · rw [h0] at HI
    clear h0
    cases h1 : decide ((1 : Int) ≤ n ∧ (n : Int) ≤ 65536)
    · rw [h1] at H1
      clear h1 HF H2
      go_enter Tryz.func30, Tryz.ntmps30
      go_wp2_with (first
        | (go_at_call 75; (with_reducible refine HI.out.mono ?_); rintro e w2 ⟨rfl, hb2⟩; rw [← HWE.out] at hb2; have HB2 := Lib.hid hb2; obtain ⟨k2, k3⟩ := HC.out w2 hb2; clear hb2)
        | (go_at_call 69; (with_reducible refine (H1.out _).mono ?_); rintro e w1 ⟨rfl, rfl⟩))
      go_ret
      exact ⟨rfl, HB1.out.trans (HB2.out.mono HB1.out.size)⟩
    · rw [h1] at H1
      clear h1
      cases h2 : decide ((1 : Int) ≤ m ∧ (m : Int) ≤ 16)
      · rw [h2] at H2
        clear h2 HF
        go_enter Tryz.func30, Tryz.ntmps30
        go_wp2_with (first
          | (go_at_call 75; (with_reducible refine HI.out.mono ?_); rintro e w2 ⟨rfl, hb2⟩; rw [← HWE.out] at hb2; have HB2 := Lib.hid hb2; obtain ⟨k2, k3⟩ := HC.out w2 hb2; clear hb2)
          | (go_at_call 69; (with_reducible refine (H1.out _).mono ?_); rintro e w1 ⟨rfl, rfl⟩)
          | (go_at_call 69; (with_reducible refine (H2.out _).mono ?_); rintro e w1 ⟨rfl, rfl⟩))
        go_ret
        exact ⟨rfl, HB1.out.trans (HB2.out.mono HB1.out.size)⟩
      · rw [h2] at H2
        have HF1 := Lib.hid (HF.out (by have := of_decide_eq_true h2; omega))
        clear h2 HF
        go_enter Tryz.func30, Tryz.ntmps30
        go_wp2_with (first
          | (go_at_call 75; (with_reducible refine HI.out.mono ?_); rintro e w2 ⟨rfl, hb2⟩; rw [← HWE.out] at hb2; have HB2 := Lib.hid hb2; have HF2 := Lib.hid (HF1.out w2 hb2); obtain ⟨k2, k3⟩ := HC.out w2 hb2; clear hb2)
          | (go_at_call 69; (with_reducible refine (H1.out _).mono ?_); rintro e w1 ⟨rfl, rfl⟩)
          | (go_at_call 69; (with_reducible refine (H2.out _).mono ?_); rintro e w1 ⟨rfl, rfl⟩)
          | (go_at_call 76; (with_reducible refine HF2.out.mono ?_); rintro e w1 ⟨rfl, rfl⟩))
        go_ret
        exact ⟨ret_bool (by simp), HB1.out.trans (HB2.out.mono HB1.out.size)⟩
end Go.Proofs.YtnfkjnmdfijhnaaGreatDoor
namespace Go.Proofs.YtnfkjnmdfijhnaaGreatDoor
open Go.RowKit Go.Lib
set_option linter.unusedVariables false
set_option linter.unusedSimpArgs false

set_option maxRecDepth 100000 in
set_option maxHeartbeats 4000000 in
theorem shaped_any (p : Pc) (xs : List Int) (ys : List ByteArray) (B : Nat) (w : World) (hx : PcIn w B p xs ys) (hB : B ≤ w.heap.size) (hm : p.q.n ≤ 1000000) : Calls Tryz.prog 9 #[.agg (cPc p)] w fun e w' => e = .returned (.bool (shB p ys)) ∧ Below w.heap.size w w' := by
  obtain ⟨s, ix, ⟨a, n, c⟩, ⟨a', m, c'⟩⟩ := p
  have hy : Sl fT w B a' m ys := hx.2.1
  have hmn : m ≤ 1000000 := hm
  obtain ⟨W1, hW1⟩ : ∃ W1 : World, W1 = w.alloc (.cells #[.string s, .int .i64 ix, .slice a n c, .slice a' m c'] 27) := ⟨_, rfl⟩
  have hb1 : Below w.heap.size w W1 := by rw [hW1]; exact (Below.refl _ _).alloc (Nat.le_refl _) _
  have hc : W1.heap[w.heap.size]? = some (.cells #[.string s, .int .i64 ix, .slice a n c, .slice a' m c'] 27 (0, 0)) := by rw [hW1]; exact heap_alloc_new w _
  have k0 : W1.cell? ⟨w.heap.size, 0, none⟩ = some (.string s) := by rw [cell_of_row W1 _ 0 _ _ _ hc]; rfl
  have k1 : W1.cell? ⟨w.heap.size, 1, none⟩ = some (.int .i64 ix) := by rw [cell_of_row W1 _ 1 _ _ _ hc]; rfl
  have k2 : W1.cell? ⟨w.heap.size, 2, none⟩ = some (.slice a n c) := by rw [cell_of_row W1 _ 2 _ _ _ hc]; rfl
  have k3 : W1.cell? ⟨w.heap.size, 3, none⟩ = some (.slice a' m c') := by rw [cell_of_row W1 _ 3 _ _ _ hc]; rfl
  have HY := Lib.hid (hy.up hb1 hB)
  have HYN : Hid (ys.length = m) := hy.1
  have HB1 := Lib.hid hb1
  have HWE := Lib.hid hW1
  show Calls Tryz.prog 9 #[.agg #[.string s, .int .i64 ix, .slice a n c, .slice a' m c']] w _
  clear hx hy hB hb1 hc hW1 hm
  go_enter Tryz.func9, Tryz.ntmps9
  go_wp2_with fail
  rw [← HWE.out]
  go_loopw [3] (fun i wr => ∃ k : Nat, k ≤ m ∧ i = .int .i64 k ∧ Hid (∀ s ∈ ys.take k, s.size = 32) ∧ W1 = wr) (fun i _ => m - (intOf i).toNat)
  case atStart => exact ⟨0, by omega, rfl, fun s h => by simp at h, rfl⟩
  case round =>
    obtain ⟨k, hk, rfl, HN, rfl⟩ := hrel
    by_cases hlt : k < m
    · obtain ⟨b, off, x, rfl, _, hg, hc⟩ := HY.out.2.at_ (k := k) (by rw [HYN.out]; exact hlt)
      have hkI : (k : Int) < (m : Int) := by omega
      by_cases hs : x.size = 32
      · have HT : Hid (∀ s ∈ ys.take (k + 1), s.size = 32) := fun s h => by
          rw [take_snoc hg, List.mem_append, List.mem_singleton] at h
          rcases h with h | rfl
          · exact HN.out s h
          · exact hs
        have hd : (((x.size : Nat) : Int) != 32) = false := by simp; omega
        clear hs hg
        go_wp2
        refine ⟨?rel, ?measure⟩
        case rel => exact ⟨k + 1, by omega, by go_num, HT, by trivial⟩
        case measure => simp [intOf]; omega
      · have HS : Hid (sumsB ys = false) := sumsB_of_bad (List.mem_of_getElem? hg) hs
        have hd : (((x.size : Nat) : Int) != 32) = true := by simp; omega
        clear hs hg
        go_wp2
        go_ret
        exact ⟨ret_bool (by show false = decide _; rw [HS.out]; simp), HB1.out⟩
    · obtain rfl : k = m := by omega
      have HS : sumsB ys = true := sumsB_iff.2 (by
        have h1 := HN.out
        rwa [List.take_of_length_le (by rw [HYN.out]; exact Nat.le_refl _)] at h1)
      have HR : Hid (shB ⟨s, ix, ⟨a, n, c⟩, ⟨a', k, c'⟩⟩ ys = decide ((s.size = 32 ∧ 0 ≤ ix ∧ ix ≤ 15) ∧ (1 ≤ n ∧ n ≤ 65536) ∧ (1 ≤ k ∧ k ≤ 16))) := by
        show decide _ = _
        rw [HS]
        simp only [and_true]
      clear HS HN
      by_cases h0 : ((s.size : Nat) : Int) = 32
      · skip
        by_cases h1 : 0 ≤ ix
        · skip
          by_cases h2 : ix < 16
          · skip
            by_cases h3 : (1 : Int) ≤ (n : Int)
            · skip
              by_cases h4 : (n : Int) ≤ 65536
              · skip
                by_cases h5 : (1 : Int) ≤ (k : Int)
                · skip
                  by_cases h6 : (k : Int) ≤ 16
                  · skip
                    go_wp2
                    go_ret
                    exact ⟨ret_bool (by rw [HR.out]; first | exact (decide_eq_true (by omega)).symm | exact (decide_eq_false (by omega)).symm), HB1.out⟩
                  · skip
                    go_wp2
                    go_ret
                    exact ⟨ret_bool (by rw [HR.out]; first | exact (decide_eq_true (by omega)).symm | exact (decide_eq_false (by omega)).symm), HB1.out⟩
                · skip
                  go_wp2
                  go_ret
                  exact ⟨ret_bool (by rw [HR.out]; first | exact (decide_eq_true (by omega)).symm | exact (decide_eq_false (by omega)).symm), HB1.out⟩
              · skip
                go_wp2
                go_ret
                exact ⟨ret_bool (by rw [HR.out]; first | exact (decide_eq_true (by omega)).symm | exact (decide_eq_false (by omega)).symm), HB1.out⟩
            · skip
              go_wp2
              go_ret
              exact ⟨ret_bool (by rw [HR.out]; first | exact (decide_eq_true (by omega)).symm | exact (decide_eq_false (by omega)).symm), HB1.out⟩
          · skip
            go_wp2
            go_ret
            exact ⟨ret_bool (by rw [HR.out]; first | exact (decide_eq_true (by omega)).symm | exact (decide_eq_false (by omega)).symm), HB1.out⟩
        · skip
          go_wp2
          go_ret
          exact ⟨ret_bool (by rw [HR.out]; first | exact (decide_eq_true (by omega)).symm | exact (decide_eq_false (by omega)).symm), HB1.out⟩
      · have hsz : (((s.size : Nat) : Int) == 32) = false := by simp; omega
        go_wp2
        go_ret
        exact ⟨ret_bool (by rw [HR.out]; first | exact (decide_eq_true (by omega)).symm | exact (decide_eq_false (by omega)).symm), HB1.out⟩
end Go.Proofs.YtnfkjnmdfijhnaaGreatDoor
