/- wire.Reader: Uint, Count. -/
import Derived.Test.YtlnaakpcnhnccaaDoorWiC
namespace Go.Proofs.YtlnaakpcnhnccaaDoor
open Go.RowKit
set_option linter.unusedVariables false
set_option linter.unusedSimpArgs false

set_option maxRecDepth 20000 in
theorem read65_err (g : Nat) (A : Option Addr) (n c p : Nat) (pv er : Int) (w : World) (hr : Rd w g A n c p pv er) (he : er ≠ 0) :
    Calls Tryd.prog 37 #[.pointer (some ⟨g, 0, none⟩), .func (.func 38) #[.pointer (some ⟨g, 0, none⟩)] #[]] w fun e w' => e = .returned (.int .u64 0) ∧ Rd w' g A n c p pv er ∧ Below w.heap.size w w' := by
  have heb : (er != 0) = true := by simp [he]
  have c3 := cell_of_row w g 3 _ _ _ hr
  simp at c3
  have HR := Lib.hid hr
  have hgw : g < w.heap.size := lt_of_block hr
  clear hr he
  go_enter_defers Tryd.func37, Tryd.ntmps37
  go_wp2
  obtain ⟨W2, hW2⟩ : ∃ W2 : World, W2 = (w.alloc (.cells #[.pointer (some ⟨g, 0, none⟩)] 62)).alloc (.cells #[.int .u64 0] 61) := ⟨_, rfl⟩
  have hb2 : Below w.heap.size w W2 := by rw [hW2]; exact ((Below.refl _ _).alloc (Nat.le_refl _) _).alloc (by simp) _
  have hc2 : W2.heap[w.heap.size + 1]? = some (.cells #[.int .u64 0] 61 (0, 0)) := by
    rw [hW2]
    have := heap_alloc_new (w.alloc (.cells #[.pointer (some ⟨g, 0, none⟩)] 62)) (.cells #[.int .u64 0] 61)
    simpa using this
  rw [← hW2]
  have hd9 := cell_of_row _ (w.heap.size + 1) 0 _ _ _ hc2
  simp at hd9
  refine ⟨.int .u64 0, ?_, rfl, (hb2.block g hgw).trans HR.out, hb2⟩
  simp [results, go_sem, hd9]

theorem ruint_ok (g : Nat) (A : Option Addr) (n c p : Nat) (pv : Int) (bs : List Int) (w : World) (hr : Rd w g A n c p pv 0) (hx : Sl fB w g A n bs) (hb : ∀ b ∈ bs, 0 ≤ b ∧ b < 256) (hp : p ≤ n) (hn : n ≤ 1000000) :
    Calls Tryd.prog 21 #[.pointer (some ⟨g, 0, none⟩)] w (RP .u64 g A n c p (numF bs 10 0 0 p).1 (numF bs 10 0 0 p).2.1 (numF bs 10 0 0 p).2.2 w) := by
  have HC := Lib.hid (read65 g A n c p pv bs w hr hx hb hp hn)
  have hmf : ∀ (fn : Fn) (first cap : Array Value) (w : World), (Instr.makeFunc fn first cap).run Tryd.prog w = .ok (.func fn first cap) w := fun _ _ _ _ => rfl
  obtain ⟨v, er, p', hN⟩ : ∃ v er p', numF bs 10 0 0 p = (v, er, p') := ⟨_, _, _, rfl⟩
  rw [hN] at HC ⊢
  clear hr hx hb hN
  go_enter Tryd.func21, Tryd.ntmps21
  go_wp2_with (go_at_call 37; refine HC.out.mono ?_; rintro e w1 ⟨he, h1, h2⟩; have H1 := Lib.hid h1; have H2 := Lib.hid h2; obtain ⟨z, hz⟩ : ∃ z, (if er = 0 then v else 0) = z := ⟨_, rfl⟩; rw [hz] at he; have HZ := Lib.hid hz; clear hz h1 h2; subst he)
  go_ret
  exact ⟨by rw [HZ.out]; rfl, H1.out, H2.out⟩
theorem ruint_err (g : Nat) (A : Option Addr) (n c p : Nat) (pv er : Int) (w : World) (hr : Rd w g A n c p pv er) (he : er ≠ 0) :
    Calls Tryd.prog 21 #[.pointer (some ⟨g, 0, none⟩)] w fun e w' => e = .returned (.int .u64 0) ∧ Rd w' g A n c p pv er ∧ Below w.heap.size w w' := by
  have HC := Lib.hid (read65_err g A n c p pv er w hr he)
  have hmf : ∀ (fn : Fn) (first cap : Array Value) (w : World), (Instr.makeFunc fn first cap).run Tryd.prog w = .ok (.func fn first cap) w := fun _ _ _ _ => rfl
  clear hr he
  go_enter Tryd.func21, Tryd.ntmps21
  go_wp2_with (go_at_call 37; refine HC.out.mono ?_; rintro e w1 ⟨rfl, h1, h2⟩)
  go_ret
  exact ⟨rfl, h1, h2⟩
set_option maxRecDepth 20000 in
theorem rcount_ok (g : Nat) (A : Option Addr) (n c p m : Nat) (pv : Int) (bs : List Int) (w : World) (hr : Rd w g A n c p pv 0) (hx : Sl fB w g A n bs) (hb : ∀ b ∈ bs, 0 ≤ b ∧ b < 256) (hp : p ≤ n) (hn : n ≤ 1000000) (hm : m ≤ 1000000) :
    Calls Tryd.prog 39 #[.pointer (some ⟨g, 0, none⟩), .int .i64 m] w (RP .i64 g A n c p (limF m (numF bs 10 0 0 p)).1 (limF m (numF bs 10 0 0 p)).2.1 (limF m (numF bs 10 0 0 p)).2.2 w) := by
  have hmf : ∀ (fn : Fn) (first cap : Array Value) (w : World), (Instr.makeFunc fn first cap).run Tryd.prog w = .ok (.func fn first cap) w := fun _ _ _ _ => rfl
  obtain ⟨W2, hW2⟩ : ∃ W2 : World, W2 = (w.alloc (.cells #[.pointer (some ⟨g, 0, none⟩)] 62)).alloc (.cells #[.int .i64 m] 3) := ⟨_, rfl⟩
  have hgw : g < w.heap.size := lt_of_block hr
  have hb2 : Below w.heap.size w W2 := by rw [hW2]; exact ((Below.refl _ _).alloc (Nat.le_refl _) _).alloc (by simp) _
  have hA2 : W2.heap[w.heap.size]? = some (.cells #[.pointer (some ⟨g, 0, none⟩)] 62 (0, 0)) := by
    rw [hW2, Below.heap_alloc _ _ _ (by simp)]
    exact heap_alloc_new w _
  have hB2 : W2.heap[w.heap.size + 1]? = some (.cells #[.int .i64 m] 3 (0, 0)) := by
    rw [hW2]
    have := heap_alloc_new (w.alloc (.cells #[.pointer (some ⟨g, 0, none⟩)] 62)) (.cells #[.int .i64 m] 3)
    simpa using this
  have HC := Lib.hid (read62 w.heap.size (w.heap.size + 1) m g A n c p pv bs W2 hA2 hB2 hm ((hb2.block g hgw).trans hr) (hx.up hb2 (Nat.le_of_lt hgw)) hb hp hn)
  have HB2 := Lib.hid hb2
  rw [hW2] at HC HB2
  obtain ⟨v, er, p', hN⟩ : ∃ v er p', limF m (numF bs 10 0 0 p) = (v, er, p') := ⟨_, _, _, rfl⟩
  rw [hN] at HC ⊢
  clear hr hx hb hN hA2 hB2 hb2 hW2
  go_enter Tryd.func39, Tryd.ntmps39
  go_wp2_with (go_at_call 54; refine HC.out.mono ?_; rintro e w1 ⟨he, h1, h2⟩; have H1 := Lib.hid h1; have H2 := Lib.hid h2; obtain ⟨z, hz⟩ : ∃ z, (if er = 0 then v else 0) = z := ⟨_, rfl⟩; rw [hz] at he; have HZ := Lib.hid hz; clear hz h1 h2; subst he)
  go_ret
  exact ⟨by rw [HZ.out]; rfl, H1.out, (But.of_below (p := fun k => k = g) HB2.out).trans (q := fun k => k = g) H2.out (fun i hi => .inl hi)⟩
end Go.Proofs.YtlnaakpcnhnccaaDoor
