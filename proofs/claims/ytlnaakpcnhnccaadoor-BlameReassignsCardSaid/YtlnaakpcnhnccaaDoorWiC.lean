/- wire.Reader: readValue. -/
import Derived.Test.YtlnaakpcnhnccaaDoorWiB
import Derived.Test.YtlnaakpcnhnccaaDoorWiD
import Derived.Deep.RegionHeld3
import Derived.Laws.ResultCell
namespace Go.Proofs.YtlnaakpcnhnccaaDoor
open Go.RowKit
set_option linter.unusedVariables false
set_option linter.unusedSimpArgs false

/-- What readValue hands back: v, or 0 at an error; the place behind, or the one before. -/
def RP (kd : IntKind) (g : Nat) (A : Option Addr) (n c p : Nat) (v er : Int) (p' : Nat) (w : World) (e : Ending) (w' : World) : Prop :=
  e = .returned (.int kd (if er = 0 then v else 0)) ∧ Rd w' g A n c (if er = 0 then p' else p) p er ∧ But (fun k => k = g) w w'

set_option maxRecDepth 20000 in
set_option maxHeartbeats 1000000 in
theorem read65 (g : Nat) (A : Option Addr) (n c p : Nat) (pv : Int) (bs : List Int) (w : World) (hr : Rd w g A n c p pv 0) (hx : Sl fB w g A n bs) (hb : ∀ b ∈ bs, 0 ≤ b ∧ b < 256) (hp : p ≤ n) (hn : n ≤ 1000000) :
    Calls Tryd.prog 37 #[.pointer (some ⟨g, 0, none⟩), .func (.func 38) #[.pointer (some ⟨g, 0, none⟩)] #[]] w (RP .u64 g A n c p (numF bs 10 0 0 p).1 (numF bs 10 0 0 p).2.1 (numF bs 10 0 0 p).2.2 w) := by
  have HR := Lib.hid hr
  have hgw : g < w.heap.size := lt_of_block hr
  have hmf : ∀ (fn : Fn) (first cap : Array Value) (w : World), (Instr.makeFunc fn first cap).run Tryd.prog w = .ok (.func fn first cap) w := fun _ _ _ _ => rfl
  have c1 := cell_of_row w g 1 _ _ _ hr
  have c3 := cell_of_row w g 3 _ _ _ hr
  have f3 := frozen_of_row w g 3 _ _ hr
  simp at c1 c3
  obtain ⟨v, er, p', hN⟩ : ∃ v er p', numF bs 10 0 0 p = (v, er, p') := ⟨_, _, _, rfl⟩
  have cN : Hid (∀ W, Rd W g A n c p pv 0 → Sl fB W g A n bs → Calls Tryd.prog 38 #[.pointer (some ⟨g, 0, none⟩)] W fun e w' => e = .returned (.tuple #[.int .u64 v, .int .i64 er]) ∧ Rd w' g A n c p' pv 0 ∧ But (fun k => k = g) W w') := fun W h1 h2 => by
    have := number_any g A n c p pv 0 bs W h1 h2 hb hp hn
    rw [hN] at this
    exact this
  rw [hN]
  have HX := Lib.hid hx
  clear hr hx hb hN
  go_enter_defers Tryd.func37, Tryd.ntmps37
  go_wp2
  obtain ⟨W3, hW3⟩ : ∃ W3 : World, W3 = ((w.alloc (.cells #[.pointer (some ⟨g, 0, none⟩)] 62)).alloc (.cells #[.int .u64 0] 61)).alloc (.cells #[.int .i64 p] 3) := ⟨_, rfl⟩
  rw [← hW3]
  have HB3 : Hid (Below w.heap.size w W3) := by rw [hW3]; exact (((Below.refl _ _).alloc (Nat.le_refl _) _).alloc (by simp) _).alloc (by simp; omega) _
  have hs3 : W3.heap.size = w.heap.size + 1 + 1 + 1 := by rw [hW3]; simp
  have HA3 : Hid (W3.heap[w.heap.size]? = some (.cells #[.pointer (some ⟨g, 0, none⟩)] 62 (0, 0))) := by
    show _ = _
    rw [hW3, Below.heap_alloc _ _ _ (by simp; omega), Below.heap_alloc _ _ _ (by simp)]
    exact heap_alloc_new w _
  have HC3 : Hid (W3.heap[w.heap.size + 1]? = some (.cells #[.int .u64 0] 61 (0, 0))) := by
    show _ = _
    rw [hW3, Below.heap_alloc _ _ _ (by simp)]
    have := heap_alloc_new (w.alloc (.cells #[.pointer (some ⟨g, 0, none⟩)] 62)) (.cells #[.int .u64 0] 61)
    simpa using this
  have HD3 : Hid (W3.heap[w.heap.size + 1 + 1]? = some (.cells #[.int .i64 p] 3 (0, 0))) := by
    show _ = _
    rw [hW3]
    have := heap_alloc_new ((w.alloc (.cells #[.pointer (some ⟨g, 0, none⟩)] 62)).alloc (.cells #[.int .u64 0] 61)) (.cells #[.int .i64 p] 3)
    simpa using this
  have HR3 : Hid (Rd W3 g A n c p pv 0) := (HB3.out.block g hgw).trans HR.out
  have HX3 : Hid (Sl fB W3 g A n bs) := HX.out.up HB3.out (Nat.le_of_lt hgw)
  have cA := cell_of_row W3 w.heap.size 0 _ _ _ HA3.out
  simp at cA
  clear hW3 c1 c3 f3
  have hne1 : ¬ g = w.heap.size := by omega
  have hne2 : ¬ w.heap.size = g := by omega
  have hne3 : ¬ g = w.heap.size + 1 := by omega
  have hne4 : ¬ w.heap.size + 1 = g := by omega
  go_region_held3 (fun w' => w'.cell? ⟨w.heap.size, 0, none⟩ = some (.pointer (some ⟨g, 0, none⟩))) (first | go_keep | exact cA5) (first | (go_at_call 38; (refine (cN.out W3.drew HR3.out HX3.out).mono ?_); (rintro e w5 ⟨rfl, hR5, hb5⟩); (have HR5 := Lib.hid hR5); (have HB5 : Hid (But (fun k => k = g) W3 w5) := ⟨hb5.os, hb5.tape, hb5.output, hb5.size, hb5.block⟩); (have HA5 : Hid (w5.heap[w.heap.size]? = some (.cells #[.pointer (some ⟨g, 0, none⟩)] 62 (0, 0))) := (hb5.block w.heap.size (by show _ < W3.heap.size; omega) (by omega)).trans HA3.out); (have HC5 : Hid (w5.heap[w.heap.size + 1]? = some (.cells #[.int .u64 0] 61 (0, 0))) := (hb5.block (w.heap.size + 1) (by show _ < W3.heap.size; omega) (by omega)).trans HC3.out); (have cA5 := cell_of_row w5 w.heap.size 0 _ _ _ HA5.out); (simp at cA5); (have cC5 := cell_of_row w5 (w.heap.size + 1) 0 _ _ _ HC5.out); (have cG5 := cell_of_row w5 g 3 _ _ _ hR5); (simp at cC5 cG5); (have f5r := frozen_of_row w5 (w.heap.size + 1) 0 _ _ HC5.out); (have f5g := frozen_of_row w5 g 3 _ _ hR5); (clear hb5 hR5)))
  go_wp2
  have HD5 : Hid (w5.heap[w.heap.size + 1 + 1]? = some (.cells #[.int .i64 p] 3 (0, 0))) := (HB5.out.block (w.heap.size + 1 + 1) (by omega) (by omega)).trans HD3.out
  obtain ⟨WD, hWD⟩ : ∃ WD : World, WD = ((w5.setCell ⟨w.heap.size + 1, 0, none⟩ (.int .u64 v)).setCell ⟨g, 3, none⟩ (.int .i64 er)).setCell ⟨w.heap.size + 1, 0, none⟩ (.int .u64 v) := ⟨_, rfl⟩
  rw [← hWD]
  have o1 : ∀ k, k ≠ w.heap.size + 1 → k ≠ g → WD.heap[k]? = w5.heap[k]? := fun k h1 h2 => by
    rw [hWD]
    exact (heap_setCell_other _ _ _ _ h1).trans ((heap_setCell_other _ _ _ _ h2).trans (heap_setCell_other _ _ _ _ h1))
  have HAD : WD.heap[w.heap.size]? = some (.cells #[.pointer (some ⟨g, 0, none⟩)] 62 (0, 0)) := (o1 _ (by omega) (by omega)).trans HA5.out
  have HDD : WD.heap[w.heap.size + 1 + 1]? = some (.cells #[.int .i64 p] 3 (0, 0)) := (o1 _ (by omega) (by omega)).trans HD5.out
  have hR6 : Rd (w5.setCell ⟨w.heap.size + 1, 0, none⟩ (.int .u64 v)) g A n c p' pv 0 := (heap_setCell_other _ _ _ _ hne3).trans HR5.out
  have hR7 : Rd ((w5.setCell ⟨w.heap.size + 1, 0, none⟩ (.int .u64 v)).setCell ⟨g, 3, none⟩ (.int .i64 er)) g A n c p' pv er := heap_setCell_same _ _ 3 _ _ (.int .i64 er) hR6
  have hR8 : Rd WD g A n c p' pv er := by rw [hWD]; exact (heap_setCell_other _ _ _ _ hne3).trans hR7
  have hC6 : (w5.setCell ⟨w.heap.size + 1, 0, none⟩ (.int .u64 v)).heap[w.heap.size + 1]? = some (.cells #[.int .u64 v] 61 (0, 0)) := heap_setCell_same _ _ 0 _ _ (.int .u64 v) HC5.out
  have hC8 : WD.heap[w.heap.size + 1]? = some (.cells #[.int .u64 v] 61 (0, 0)) := by
    rw [hWD]
    exact heap_setCell_same _ _ 0 _ _ (.int .u64 v) ((heap_setCell_other _ _ _ _ hne4).trans hC6)
  have HBD : Hid (But (fun k => k = g) w WD) := by
    have h1 : But (fun k => k = g) w w5 := (But.of_below (p := fun k => k = g) HB3.out).trans (q := fun k => k = g) HB5.out (fun i hi => .inl hi)
    rw [hWD]
    exact ((h1.setCell (.inr (by show _ ≤ w.heap.size + 1; omega)) _).setCell (.inl rfl) _).setCell (.inr (by show _ ≤ w.heap.size + 1; omega)) _
  clear hWD
  refine leaves_cons (f := 53) (args := #[.pointer (some ⟨w.heap.size + 1 + 1, 0, none⟩), .pointer (some ⟨w.heap.size, 0, none⟩), .pointer (some ⟨w.heap.size + 1, 0, none⟩)]) (by simp) (by simp [go_sem]) ?_
  refine (closed_69 _ _ _ g A n c p' p pv er v _ HDD HAD hC8 hR8 hgw (by omega) (by omega)).mono ?_
  rintro e u' w9 ⟨rfl, rfl, hR9, hC9, hB9⟩
  have hC9' := cell_of_row w9 (w.heap.size + 1) 0 _ _ _ hC9.out
  have hfin : RP .u64 g A n c p v er p' w (.returned (.int .u64 (if er = 0 then v else 0))) w9 := ⟨rfl, hR9.out, HBD.out.trans hB9.out (fun i hi => by rcases hi with rfl | rfl; exact .inl rfl; exact .inr (by omega))⟩
  refine ⟨.int .u64 (if er = 0 then v else 0), ?_, hfin⟩
  obtain ⟨z, hz⟩ : ∃ z : Int, (if er = 0 then v else 0) = z := ⟨_, rfl⟩
  rw [hz] at hC9' ⊢
  simp at hC9'
  simp [results, go_sem, hC9']
  done
set_option maxRecDepth 20000 in
set_option maxHeartbeats 1000000 in
theorem read62 (a b m g : Nat) (A : Option Addr) (n c p : Nat) (pv : Int) (bs : List Int) (w : World) (ha : w.heap[a]? = some (.cells #[.pointer (some ⟨g, 0, none⟩)] 62 (0, 0))) (hbk : w.heap[b]? = some (.cells #[.int .i64 m] 3 (0, 0))) (hm : m ≤ 1000000) (hr : Rd w g A n c p pv 0) (hx : Sl fB w g A n bs) (hb : ∀ b ∈ bs, 0 ≤ b ∧ b < 256) (hp : p ≤ n) (hn : n ≤ 1000000) :
    Calls Tryd.prog 54 #[.pointer (some ⟨g, 0, none⟩), .func (.func 55) #[] #[.pointer (some ⟨a, 0, none⟩), .pointer (some ⟨b, 0, none⟩)]] w (RP .i64 g A n c p (limF m (numF bs 10 0 0 p)).1 (limF m (numF bs 10 0 0 p)).2.1 (limF m (numF bs 10 0 0 p)).2.2 w) := by
  have HR := Lib.hid hr
  have hgw : g < w.heap.size := lt_of_block hr
  have hmf : ∀ (fn : Fn) (first cap : Array Value) (w : World), (Instr.makeFunc fn first cap).run Tryd.prog w = .ok (.func fn first cap) w := fun _ _ _ _ => rfl
  have c1 := cell_of_row w g 1 _ _ _ hr
  have c3 := cell_of_row w g 3 _ _ _ hr
  have f3 := frozen_of_row w g 3 _ _ hr
  simp at c1 c3
  obtain ⟨v, er, p', hN⟩ : ∃ v er p', limF m (numF bs 10 0 0 p) = (v, er, p') := ⟨_, _, _, rfl⟩
  have cN : Hid (∀ W, Rd W g A n c p pv 0 → Sl fB W g A n bs → W.heap[a]? = some (.cells #[.pointer (some ⟨g, 0, none⟩)] 62 (0, 0)) → W.heap[b]? = some (.cells #[.int .i64 m] 3 (0, 0)) → Calls Tryd.prog 55 #[.pointer (some ⟨a, 0, none⟩), .pointer (some ⟨b, 0, none⟩)] W fun e w' => e = .returned (.tuple #[.int .i64 v, .int .i64 er]) ∧ Rd w' g A n c p' pv 0 ∧ But (fun k => k = g) W w') := fun W h1 h2 h3 h4 => by
    have := limc_any a b g A n c p m pv 0 bs W h3 h4 h1 h2 hb hp hn hm
    rw [hN] at this
    exact this
  rw [hN]
  have HX := Lib.hid hx
  have HAA := Lib.hid ha
  have HBB := Lib.hid hbk
  clear hr hx hb hN ha hbk
  go_enter_defers Tryd.func54, Tryd.ntmps54
  go_wp2
  obtain ⟨W3, hW3⟩ : ∃ W3 : World, W3 = ((w.alloc (.cells #[.pointer (some ⟨g, 0, none⟩)] 62)).alloc (.cells #[.int .i64 0] 3)).alloc (.cells #[.int .i64 p] 3) := ⟨_, rfl⟩
  rw [← hW3]
  have HB3 : Hid (Below w.heap.size w W3) := by rw [hW3]; exact (((Below.refl _ _).alloc (Nat.le_refl _) _).alloc (by simp) _).alloc (by simp; omega) _
  have hs3 : W3.heap.size = w.heap.size + 1 + 1 + 1 := by rw [hW3]; simp
  have HA3 : Hid (W3.heap[w.heap.size]? = some (.cells #[.pointer (some ⟨g, 0, none⟩)] 62 (0, 0))) := by
    show _ = _
    rw [hW3, Below.heap_alloc _ _ _ (by simp; omega), Below.heap_alloc _ _ _ (by simp)]
    exact heap_alloc_new w _
  have HC3 : Hid (W3.heap[w.heap.size + 1]? = some (.cells #[.int .i64 0] 3 (0, 0))) := by
    show _ = _
    rw [hW3, Below.heap_alloc _ _ _ (by simp)]
    have := heap_alloc_new (w.alloc (.cells #[.pointer (some ⟨g, 0, none⟩)] 62)) (.cells #[.int .i64 0] 3)
    simpa using this
  have HD3 : Hid (W3.heap[w.heap.size + 1 + 1]? = some (.cells #[.int .i64 p] 3 (0, 0))) := by
    show _ = _
    rw [hW3]
    have := heap_alloc_new ((w.alloc (.cells #[.pointer (some ⟨g, 0, none⟩)] 62)).alloc (.cells #[.int .i64 0] 3)) (.cells #[.int .i64 p] 3)
    simpa using this
  have HR3 : Hid (Rd W3 g A n c p pv 0) := (HB3.out.block g hgw).trans HR.out
  have HX3 : Hid (Sl fB W3 g A n bs) := HX.out.up HB3.out (Nat.le_of_lt hgw)
  have HAA3 : Hid (W3.heap[a]? = some (.cells #[.pointer (some ⟨g, 0, none⟩)] 62 (0, 0))) := (HB3.out.block a (lt_of_block HAA.out)).trans HAA.out
  have HBB3 : Hid (W3.heap[b]? = some (.cells #[.int .i64 m] 3 (0, 0))) := (HB3.out.block b (lt_of_block HBB.out)).trans HBB.out
  have cA := cell_of_row W3 w.heap.size 0 _ _ _ HA3.out
  simp at cA
  clear hW3 c1 c3 f3
  have hne1 : ¬ g = w.heap.size := by omega
  have hne2 : ¬ w.heap.size = g := by omega
  have hne3 : ¬ g = w.heap.size + 1 := by omega
  have hne4 : ¬ w.heap.size + 1 = g := by omega
  go_region_held3 (fun w' => w'.cell? ⟨w.heap.size, 0, none⟩ = some (.pointer (some ⟨g, 0, none⟩))) (first | go_keep | exact cA5) (first | (go_at_call 55; (refine (cN.out W3.drew HR3.out HX3.out HAA3.out HBB3.out).mono ?_); (rintro e w5 ⟨rfl, hR5, hb5⟩); (have HR5 := Lib.hid hR5); (have HB5 : Hid (But (fun k => k = g) W3 w5) := ⟨hb5.os, hb5.tape, hb5.output, hb5.size, hb5.block⟩); (have HA5 : Hid (w5.heap[w.heap.size]? = some (.cells #[.pointer (some ⟨g, 0, none⟩)] 62 (0, 0))) := (hb5.block w.heap.size (by show _ < W3.heap.size; omega) (by omega)).trans HA3.out); (have HC5 : Hid (w5.heap[w.heap.size + 1]? = some (.cells #[.int .i64 0] 3 (0, 0))) := (hb5.block (w.heap.size + 1) (by show _ < W3.heap.size; omega) (by omega)).trans HC3.out); (have cA5 := cell_of_row w5 w.heap.size 0 _ _ _ HA5.out); (simp at cA5); (have cC5 := cell_of_row w5 (w.heap.size + 1) 0 _ _ _ HC5.out); (have cG5 := cell_of_row w5 g 3 _ _ _ hR5); (simp at cC5 cG5); (have f5r := frozen_of_row w5 (w.heap.size + 1) 0 _ _ HC5.out); (have f5g := frozen_of_row w5 g 3 _ _ hR5); (clear hb5 hR5)))
  go_wp2
  have HD5 : Hid (w5.heap[w.heap.size + 1 + 1]? = some (.cells #[.int .i64 p] 3 (0, 0))) := (HB5.out.block (w.heap.size + 1 + 1) (by omega) (by omega)).trans HD3.out
  obtain ⟨WD, hWD⟩ : ∃ WD : World, WD = ((w5.setCell ⟨w.heap.size + 1, 0, none⟩ (.int .i64 v)).setCell ⟨g, 3, none⟩ (.int .i64 er)).setCell ⟨w.heap.size + 1, 0, none⟩ (.int .i64 v) := ⟨_, rfl⟩
  rw [← hWD]
  have o1 : ∀ k, k ≠ w.heap.size + 1 → k ≠ g → WD.heap[k]? = w5.heap[k]? := fun k h1 h2 => by
    rw [hWD]
    exact (heap_setCell_other _ _ _ _ h1).trans ((heap_setCell_other _ _ _ _ h2).trans (heap_setCell_other _ _ _ _ h1))
  have HAD : WD.heap[w.heap.size]? = some (.cells #[.pointer (some ⟨g, 0, none⟩)] 62 (0, 0)) := (o1 _ (by omega) (by omega)).trans HA5.out
  have HDD : WD.heap[w.heap.size + 1 + 1]? = some (.cells #[.int .i64 p] 3 (0, 0)) := (o1 _ (by omega) (by omega)).trans HD5.out
  have hR6 : Rd (w5.setCell ⟨w.heap.size + 1, 0, none⟩ (.int .i64 v)) g A n c p' pv 0 := (heap_setCell_other _ _ _ _ hne3).trans HR5.out
  have hR7 : Rd ((w5.setCell ⟨w.heap.size + 1, 0, none⟩ (.int .i64 v)).setCell ⟨g, 3, none⟩ (.int .i64 er)) g A n c p' pv er := heap_setCell_same _ _ 3 _ _ (.int .i64 er) hR6
  have hR8 : Rd WD g A n c p' pv er := by rw [hWD]; exact (heap_setCell_other _ _ _ _ hne3).trans hR7
  have hC6 : (w5.setCell ⟨w.heap.size + 1, 0, none⟩ (.int .i64 v)).heap[w.heap.size + 1]? = some (.cells #[.int .i64 v] 3 (0, 0)) := heap_setCell_same _ _ 0 _ _ (.int .i64 v) HC5.out
  have hC8 : WD.heap[w.heap.size + 1]? = some (.cells #[.int .i64 v] 3 (0, 0)) := by
    rw [hWD]
    exact heap_setCell_same _ _ 0 _ _ (.int .i64 v) ((heap_setCell_other _ _ _ _ hne4).trans hC6)
  have HBD : Hid (But (fun k => k = g) w WD) := by
    have h1 : But (fun k => k = g) w w5 := (But.of_below (p := fun k => k = g) HB3.out).trans (q := fun k => k = g) HB5.out (fun i hi => .inl hi)
    rw [hWD]
    exact ((h1.setCell (.inr (by show _ ≤ w.heap.size + 1; omega)) _).setCell (.inl rfl) _).setCell (.inr (by show _ ≤ w.heap.size + 1; omega)) _
  clear hWD
  refine leaves_cons (f := 68) (args := #[.pointer (some ⟨w.heap.size + 1 + 1, 0, none⟩), .pointer (some ⟨w.heap.size, 0, none⟩), .pointer (some ⟨w.heap.size + 1, 0, none⟩)]) (by simp) (by simp [go_sem]) ?_
  refine (closed_68 _ _ _ g A n c p' p pv er v _ HDD HAD hC8 hR8 hgw (by omega) (by omega)).mono ?_
  rintro e u' w9 ⟨rfl, rfl, hR9, hC9, hB9⟩
  have hC9' := cell_of_row w9 (w.heap.size + 1) 0 _ _ _ hC9.out
  have hfin : RP .i64 g A n c p v er p' w (.returned (.int .i64 (if er = 0 then v else 0))) w9 := ⟨rfl, hR9.out, HBD.out.trans hB9.out (fun i hi => by rcases hi with rfl | rfl; exact .inl rfl; exact .inr (by omega))⟩
  refine ⟨.int .i64 (if er = 0 then v else 0), ?_, hfin⟩
  obtain ⟨z, hz⟩ : ∃ z : Int, (if er = 0 then v else 0) = z := ⟨_, rfl⟩
  rw [hz] at hC9' ⊢
  simp at hC9'
  simp [results, go_sem, hC9']
  done
end Go.Proofs.YtlnaakpcnhnccaaDoor
