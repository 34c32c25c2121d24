/- wire.Reader: Uint, Count. wire.Reader: Text, Sum, Count, Left; and behind an error. wire.Reader: NewReader, End. wire.Reader: what it reads, in terms of its state. -/
import Derived.Test.YtkeicjokekmkpaaGreatMm
import Derived.Test.YtkeicjokekmkpaaGreatWiT
import Derived.Test.YtkeicjokekmkpaaGreatMl
namespace Go.Proofs.YtkeicjokekmkpaaGreat
open Go.RowKit
set_option linter.unusedVariables false
set_option linter.unusedSimpArgs false

set_option maxRecDepth 20000 in
theorem read65_err (g : Nat) (A : Option Addr) (n c p : Nat) (pv er : Int) (w : World) (hr : Rd w g A n c p pv er) (he : er ≠ 0) :
    Calls Tryz.prog 103 #[.pointer (some ⟨g, 0, none⟩), .func (.func 97) #[.pointer (some ⟨g, 0, none⟩)] #[]] w fun e w' => e = .returned (.int .u64 0) ∧ Rd w' g A n c p pv er ∧ Below w.heap.size w w' := by
  have heb : (er != 0) = true := by simp [he]
  have c3 := cell_of_row w g 3 _ _ _ hr
  simp at c3
  have HR := Lib.hid hr
  have hgw : g < w.heap.size := lt_of_block hr
  clear hr he
  go_enter_defers Tryz.func103, Tryz.ntmps103
  go_wp2
  obtain ⟨W2, hW2⟩ : ∃ W2 : World, W2 = (w.alloc (.cells #[.pointer (some ⟨g, 0, none⟩)] 101)).alloc (.cells #[.int .u64 0] 62) := ⟨_, rfl⟩
  have hb2 : Below w.heap.size w W2 := by rw [hW2]; exact ((Below.refl _ _).alloc (Nat.le_refl _) _).alloc (by simp) _
  have hc2 : W2.heap[w.heap.size + 1]? = some (.cells #[.int .u64 0] 62 (0, 0)) := by
    rw [hW2]
    have := heap_alloc_new (w.alloc (.cells #[.pointer (some ⟨g, 0, none⟩)] 101)) (.cells #[.int .u64 0] 62)
    simpa using this
  rw [← hW2]
  have hd9 := cell_of_row _ (w.heap.size + 1) 0 _ _ _ hc2
  simp at hd9
  refine ⟨.int .u64 0, ?_, rfl, (hb2.block g hgw).trans HR.out, hb2⟩
  simp [results, go_sem, hd9]

theorem ruint_ok (g : Nat) (A : Option Addr) (n c p : Nat) (pv : Int) (bs : List Int) (w : World) (hr : Rd w g A n c p pv 0) (hx : Sl fB w g A n bs) (hb : ∀ b ∈ bs, 0 ≤ b ∧ b < 256) (hp : p ≤ n) (hn : n ≤ 1000000) :
    Calls Tryz.prog 85 #[.pointer (some ⟨g, 0, none⟩)] w (RP .u64 g A n c p (numF bs 10 0 0 p).1 (numF bs 10 0 0 p).2.1 (numF bs 10 0 0 p).2.2 w) := by
  have HC := Lib.hid (read65 g A n c p pv bs w hr hx hb hp hn)
  have hmf : ∀ (fn : Fn) (first cap : Array Value) (w : World), (Instr.makeFunc fn first cap).run Tryz.prog w = .ok (.func fn first cap) w := fun _ _ _ _ => rfl
  obtain ⟨v, er, p', hN⟩ : ∃ v er p', numF bs 10 0 0 p = (v, er, p') := ⟨_, _, _, rfl⟩
  rw [hN] at HC ⊢
  clear hr hx hb hN
  go_enter Tryz.func85, Tryz.ntmps85
  go_wp2_with (go_at_call 103; refine HC.out.mono ?_; rintro e w1 ⟨he, h1, h2⟩; have H1 := Lib.hid h1; have H2 := Lib.hid h2; obtain ⟨z, hz⟩ : ∃ z, (if er = 0 then v else 0) = z := ⟨_, rfl⟩; rw [hz] at he; have HZ := Lib.hid hz; clear hz h1 h2; subst he)
  go_ret
  exact ⟨by rw [HZ.out]; rfl, H1.out, H2.out⟩
theorem ruint_err (g : Nat) (A : Option Addr) (n c p : Nat) (pv er : Int) (w : World) (hr : Rd w g A n c p pv er) (he : er ≠ 0) :
    Calls Tryz.prog 85 #[.pointer (some ⟨g, 0, none⟩)] w fun e w' => e = .returned (.int .u64 0) ∧ Rd w' g A n c p pv er ∧ Below w.heap.size w w' := by
  have HC := Lib.hid (read65_err g A n c p pv er w hr he)
  have hmf : ∀ (fn : Fn) (first cap : Array Value) (w : World), (Instr.makeFunc fn first cap).run Tryz.prog w = .ok (.func fn first cap) w := fun _ _ _ _ => rfl
  clear hr he
  go_enter Tryz.func85, Tryz.ntmps85
  go_wp2_with (go_at_call 103; refine HC.out.mono ?_; rintro e w1 ⟨rfl, h1, h2⟩)
  go_ret
  exact ⟨rfl, h1, h2⟩
set_option maxRecDepth 20000 in
theorem rcount_ok (g : Nat) (A : Option Addr) (n c p m : Nat) (pv : Int) (bs : List Int) (w : World) (hr : Rd w g A n c p pv 0) (hx : Sl fB w g A n bs) (hb : ∀ b ∈ bs, 0 ≤ b ∧ b < 256) (hp : p ≤ n) (hn : n ≤ 1000000) (hm : m ≤ 1000000) :
    Calls Tryz.prog 38 #[.pointer (some ⟨g, 0, none⟩), .int .i64 m] w (RP .i64 g A n c p (limF m (numF bs 10 0 0 p)).1 (limF m (numF bs 10 0 0 p)).2.1 (limF m (numF bs 10 0 0 p)).2.2 w) := by
  have hmf : ∀ (fn : Fn) (first cap : Array Value) (w : World), (Instr.makeFunc fn first cap).run Tryz.prog w = .ok (.func fn first cap) w := fun _ _ _ _ => rfl
  obtain ⟨W2, hW2⟩ : ∃ W2 : World, W2 = (w.alloc (.cells #[.pointer (some ⟨g, 0, none⟩)] 101)).alloc (.cells #[.int .i64 m] 3) := ⟨_, rfl⟩
  have hgw : g < w.heap.size := lt_of_block hr
  have hb2 : Below w.heap.size w W2 := by rw [hW2]; exact ((Below.refl _ _).alloc (Nat.le_refl _) _).alloc (by simp) _
  have hA2 : W2.heap[w.heap.size]? = some (.cells #[.pointer (some ⟨g, 0, none⟩)] 101 (0, 0)) := by
    rw [hW2, Below.heap_alloc _ _ _ (by simp)]
    exact heap_alloc_new w _
  have hB2 : W2.heap[w.heap.size + 1]? = some (.cells #[.int .i64 m] 3 (0, 0)) := by
    rw [hW2]
    have := heap_alloc_new (w.alloc (.cells #[.pointer (some ⟨g, 0, none⟩)] 101)) (.cells #[.int .i64 m] 3)
    simpa using this
  have HC := Lib.hid (read62 w.heap.size (w.heap.size + 1) m g A n c p pv bs W2 hA2 hB2 hm ((hb2.block g hgw).trans hr) (hx.up hb2 (Nat.le_of_lt hgw)) hb hp hn)
  have HB2 := Lib.hid hb2
  rw [hW2] at HC HB2
  obtain ⟨v, er, p', hN⟩ : ∃ v er p', limF m (numF bs 10 0 0 p) = (v, er, p') := ⟨_, _, _, rfl⟩
  rw [hN] at HC ⊢
  clear hr hx hb hN hA2 hB2 hb2 hW2
  go_enter Tryz.func38, Tryz.ntmps38
  go_wp2_with (go_at_call 80; refine HC.out.mono ?_; rintro e w1 ⟨he, h1, h2⟩; have H1 := Lib.hid h1; have H2 := Lib.hid h2; obtain ⟨z, hz⟩ : ∃ z, (if er = 0 then v else 0) = z := ⟨_, rfl⟩; rw [hz] at he; have HZ := Lib.hid hz; clear hz h1 h2; subst he)
  go_ret
  exact ⟨by rw [HZ.out]; rfl, H1.out, (But.of_below (p := fun k => k = g) HB2.out).trans (q := fun k => k = g) H2.out (fun i hi => .inl hi)⟩
end Go.Proofs.YtkeicjokekmkpaaGreat
namespace Go.Proofs.YtkeicjokekmkpaaGreat
open Go.RowKit
set_option linter.unusedVariables false
set_option linter.unusedSimpArgs false

set_option maxRecDepth 20000 in
theorem readI_err (fv : Value) (g : Nat) (A : Option Addr) (n c p : Nat) (pv er : Int) (w : World) (hr : Rd w g A n c p pv er) (he : er ≠ 0) :
    Calls Tryz.prog 80 #[.pointer (some ⟨g, 0, none⟩), fv] w fun e w' => e = .returned (.int .i64 0) ∧ Rd w' g A n c p pv er ∧ Below w.heap.size w w' := by
  have heb : (er != 0) = true := by simp [he]
  have c3 := cell_of_row w g 3 _ _ _ hr
  simp at c3
  have HR := Lib.hid hr
  have hgw : g < w.heap.size := lt_of_block hr
  clear hr he
  go_enter_defers Tryz.func80, Tryz.ntmps80
  go_wp2
  obtain ⟨W2, hW2⟩ : ∃ W2 : World, W2 = (w.alloc (.cells #[.pointer (some ⟨g, 0, none⟩)] 101)).alloc (.cells #[.int .i64 0] 3) := ⟨_, rfl⟩
  have hb2 : Below w.heap.size w W2 := by rw [hW2]; exact ((Below.refl _ _).alloc (Nat.le_refl _) _).alloc (by simp) _
  have hc2 : W2.heap[w.heap.size + 1]? = some (.cells #[.int .i64 0] 3 (0, 0)) := by
    rw [hW2]
    have := heap_alloc_new (w.alloc (.cells #[.pointer (some ⟨g, 0, none⟩)] 101)) (.cells #[.int .i64 0] 3)
    simpa using this
  rw [← hW2]
  have hd9 := cell_of_row _ (w.heap.size + 1) 0 _ _ _ hc2
  simp at hd9
  refine ⟨.int .i64 0, ?_, rfl, (hb2.block g hgw).trans HR.out, hb2⟩
  simp [results, go_sem, hd9]

set_option maxRecDepth 20000 in
theorem readS_err (fv : Value) (g : Nat) (A : Option Addr) (n c p : Nat) (pv er : Int) (w : World) (hr : Rd w g A n c p pv er) (he : er ≠ 0) :
    Calls Tryz.prog 98 #[.pointer (some ⟨g, 0, none⟩), fv] w fun e w' => e = .returned (.string ⟨#[]⟩) ∧ Rd w' g A n c p pv er ∧ Below w.heap.size w w' := by
  have heb : (er != 0) = true := by simp [he]
  have c3 := cell_of_row w g 3 _ _ _ hr
  simp at c3
  have HR := Lib.hid hr
  have hgw : g < w.heap.size := lt_of_block hr
  clear hr he
  go_enter_defers Tryz.func98, Tryz.ntmps98
  go_wp2
  obtain ⟨W2, hW2⟩ : ∃ W2 : World, W2 = (w.alloc (.cells #[.pointer (some ⟨g, 0, none⟩)] 101)).alloc (.cells #[.string ⟨#[]⟩] 9) := ⟨_, rfl⟩
  have hb2 : Below w.heap.size w W2 := by rw [hW2]; exact ((Below.refl _ _).alloc (Nat.le_refl _) _).alloc (by simp) _
  have hc2 : W2.heap[w.heap.size + 1]? = some (.cells #[.string ⟨#[]⟩] 9 (0, 0)) := by
    rw [hW2]
    have := heap_alloc_new (w.alloc (.cells #[.pointer (some ⟨g, 0, none⟩)] 101)) (.cells #[.string ⟨#[]⟩] 9)
    simpa using this
  rw [← hW2]
  have hd9 := cell_of_row _ (w.heap.size + 1) 0 _ _ _ hc2
  simp at hd9
  refine ⟨.string ⟨#[]⟩, ?_, rfl, (hb2.block g hgw).trans HR.out, hb2⟩
  simp [results, go_sem, hd9]

set_option maxRecDepth 20000 in
theorem rtext_ok (g : Nat) (A : Option Addr) (n c p m : Nat) (pv : Int) (bs : List Int) (w : World) (hr : Rd w g A n c p pv 0) (hx : Sl fB w g A n bs) (hb : ∀ b ∈ bs, 0 ≤ b ∧ b < 256) (hp : p ≤ n) (hn : n ≤ 1000000) (hm : m ≤ 1000000) (hnc : n ≤ c) :
    Calls Tryz.prog 83 #[.pointer (some ⟨g, 0, none⟩), .int .i64 m] w (RPs g A n c p (blkF bs m p).1 (blkF bs m p).2.1 (blkF bs m p).2.2 w) := by
  have hmf : ∀ (fn : Fn) (first cap : Array Value) (w : World), (Instr.makeFunc fn first cap).run Tryz.prog w = .ok (.func fn first cap) w := fun _ _ _ _ => rfl
  obtain ⟨W2, hW2⟩ : ∃ W2 : World, W2 = (w.alloc (.cells #[.pointer (some ⟨g, 0, none⟩)] 101)).alloc (.cells #[.int .i64 m] 3) := ⟨_, rfl⟩
  have hgw : g < w.heap.size := lt_of_block hr
  have hb2 : Below w.heap.size w W2 := by rw [hW2]; exact ((Below.refl _ _).alloc (Nat.le_refl _) _).alloc (by simp) _
  have hA2 : W2.heap[w.heap.size]? = some (.cells #[.pointer (some ⟨g, 0, none⟩)] 101 (0, 0)) := by
    rw [hW2, Below.heap_alloc _ _ _ (by simp)]
    exact heap_alloc_new w _
  have hB2 : W2.heap[w.heap.size + 1]? = some (.cells #[.int .i64 m] 3 (0, 0)) := by
    rw [hW2]
    have := heap_alloc_new (w.alloc (.cells #[.pointer (some ⟨g, 0, none⟩)] 101)) (.cells #[.int .i64 m] 3)
    simpa using this
  have HC := Lib.hid (readT w.heap.size (w.heap.size + 1) m g A n c p pv bs W2 hA2 hB2 hm ((hb2.block g hgw).trans hr) (hx.up hb2 (Nat.le_of_lt hgw)) hb hp hn hnc)
  have HB2 := Lib.hid hb2
  rw [hW2] at HC HB2
  obtain ⟨v, er, p', hN⟩ : ∃ v er p', blkF bs m p = (v, er, p') := ⟨_, _, _, rfl⟩
  rw [hN] at HC ⊢
  clear hr hx hb hN hA2 hB2 hb2 hW2
  go_enter Tryz.func83, Tryz.ntmps83
  go_wp2_with (go_at_call 98; refine HC.out.mono ?_; rintro e w1 ⟨he, h1, h2⟩; have H1 := Lib.hid h1; have H2 := Lib.hid h2; obtain ⟨z, hz⟩ : ∃ z, (if er = 0 then v else baNo) = z := ⟨_, rfl⟩; rw [hz] at he; have HZ := Lib.hid hz; clear hz h1 h2; subst he)
  go_ret
  exact ⟨by rw [HZ.out]; rfl, H1.out, (But.of_below (p := fun k => k = g) HB2.out).trans (q := fun k => k = g) H2.out (fun i hi => .inl hi)⟩
set_option maxRecDepth 20000 in
theorem rsum_ok (g : Nat) (A : Option Addr) (n c p : Nat) (pv : Int) (bs : List Int) (w : World) (hr : Rd w g A n c p pv 0) (hx : Sl fB w g A n bs) (hb : ∀ b ∈ bs, 0 ≤ b ∧ b < 256) (hp : p ≤ n) (hn : n ≤ 1000000) (hnc : n ≤ c) :
    Calls Tryz.prog 84 #[.pointer (some ⟨g, 0, none⟩)] w (RPs g A n c p (tkF bs 32 p).1 (tkF bs 32 p).2.1 (tkF bs 32 p).2.2 w) := by
  have hmf : ∀ (fn : Fn) (first cap : Array Value) (w : World), (Instr.makeFunc fn first cap).run Tryz.prog w = .ok (.func fn first cap) w := fun _ _ _ _ => rfl
  obtain ⟨W2, hW2⟩ : ∃ W2 : World, W2 = w.alloc (.cells #[.pointer (some ⟨g, 0, none⟩)] 101) := ⟨_, rfl⟩
  have hgw : g < w.heap.size := lt_of_block hr
  have hb2 : Below w.heap.size w W2 := by rw [hW2]; exact (Below.refl _ _).alloc (Nat.le_refl _) _
  have hA2 : W2.heap[w.heap.size]? = some (.cells #[.pointer (some ⟨g, 0, none⟩)] 101 (0, 0)) := by
    rw [hW2]
    exact heap_alloc_new w _
  have HC := Lib.hid (readSm w.heap.size g A n c p pv bs W2 hA2 ((hb2.block g hgw).trans hr) (hx.up hb2 (Nat.le_of_lt hgw)) hb hp hn hnc)
  have HB2 := Lib.hid hb2
  rw [hW2] at HC HB2
  obtain ⟨v, er, p', hN⟩ : ∃ v er p', tkF bs 32 p = (v, er, p') := ⟨_, _, _, rfl⟩
  rw [hN] at HC ⊢
  clear hr hx hb hN hA2 hb2 hW2
  go_enter Tryz.func84, Tryz.ntmps84
  go_wp2_with (go_at_call 98; refine HC.out.mono ?_; rintro e w1 ⟨he, h1, h2⟩; have H1 := Lib.hid h1; have H2 := Lib.hid h2; obtain ⟨z, hz⟩ : ∃ z, (if er = 0 then v else baNo) = z := ⟨_, rfl⟩; rw [hz] at he; have HZ := Lib.hid hz; clear hz h1 h2; subst he)
  go_ret
  exact ⟨by rw [HZ.out]; rfl, H1.out, (But.of_below (p := fun k => k = g) HB2.out).trans (q := fun k => k = g) H2.out (fun i hi => .inl hi)⟩

set_option maxRecDepth 20000 in
theorem rcount_err (g : Nat) (A : Option Addr) (n c p m : Nat) (pv er : Int) (w : World) (hr : Rd w g A n c p pv er) (he : er ≠ 0) :
    Calls Tryz.prog 38 #[.pointer (some ⟨g, 0, none⟩), .int .i64 m] w fun e w' => e = .returned (.int .i64 0) ∧ Rd w' g A n c p pv er ∧ Below w.heap.size w w' := by
  have hmf : ∀ (fn : Fn) (first cap : Array Value) (w : World), (Instr.makeFunc fn first cap).run Tryz.prog w = .ok (.func fn first cap) w := fun _ _ _ _ => rfl
  obtain ⟨W2, hW2⟩ : ∃ W2 : World, W2 = (w.alloc (.cells #[.pointer (some ⟨g, 0, none⟩)] 101)).alloc (.cells #[.int .i64 m] 3) := ⟨_, rfl⟩
  have hgw : g < w.heap.size := lt_of_block hr
  have hb2 : Below w.heap.size w W2 := by rw [hW2]; exact ((Below.refl _ _).alloc (Nat.le_refl _) _).alloc (by simp) _
  have HC := Lib.hid (fun fv => readI_err fv g A n c p pv er W2 ((hb2.block g hgw).trans hr) he)
  have HB2 := Lib.hid hb2
  have HW2 := Lib.hid hW2
  clear hr he hb2 hW2
  go_enter Tryz.func38, Tryz.ntmps38
  go_wp2_with fail
  rw [← HW2.out]
  refine (HC.out _).mono ?_
  rintro e w1 ⟨rfl, h1, h2⟩
  have H1 := Lib.hid h1
  have H2 := Lib.hid h2
  clear h1 h2
  go_wp2_with fail
  go_ret
  exact ⟨rfl, H1.out, HB2.out.trans (H2.out.mono HB2.out.size)⟩

set_option maxRecDepth 20000 in
theorem rtext_err (g : Nat) (A : Option Addr) (n c p m : Nat) (pv er : Int) (w : World) (hr : Rd w g A n c p pv er) (he : er ≠ 0) :
    Calls Tryz.prog 83 #[.pointer (some ⟨g, 0, none⟩), .int .i64 m] w fun e w' => e = .returned (.string ⟨#[]⟩) ∧ Rd w' g A n c p pv er ∧ Below w.heap.size w w' := by
  have hmf : ∀ (fn : Fn) (first cap : Array Value) (w : World), (Instr.makeFunc fn first cap).run Tryz.prog w = .ok (.func fn first cap) w := fun _ _ _ _ => rfl
  obtain ⟨W2, hW2⟩ : ∃ W2 : World, W2 = (w.alloc (.cells #[.pointer (some ⟨g, 0, none⟩)] 101)).alloc (.cells #[.int .i64 m] 3) := ⟨_, rfl⟩
  have hgw : g < w.heap.size := lt_of_block hr
  have hb2 : Below w.heap.size w W2 := by rw [hW2]; exact ((Below.refl _ _).alloc (Nat.le_refl _) _).alloc (by simp) _
  have HC := Lib.hid (fun fv => readS_err fv g A n c p pv er W2 ((hb2.block g hgw).trans hr) he)
  have HB2 := Lib.hid hb2
  have HW2 := Lib.hid hW2
  clear hr he hb2 hW2
  go_enter Tryz.func83, Tryz.ntmps83
  go_wp2_with fail
  rw [← HW2.out]
  refine (HC.out _).mono ?_
  rintro e w1 ⟨rfl, h1, h2⟩
  have H1 := Lib.hid h1
  have H2 := Lib.hid h2
  clear h1 h2
  go_wp2_with fail
  go_ret
  exact ⟨rfl, H1.out, HB2.out.trans (H2.out.mono HB2.out.size)⟩

set_option maxRecDepth 20000 in
theorem rsum_err (g : Nat) (A : Option Addr) (n c p : Nat) (pv er : Int) (w : World) (hr : Rd w g A n c p pv er) (he : er ≠ 0) :
    Calls Tryz.prog 84 #[.pointer (some ⟨g, 0, none⟩)] w fun e w' => e = .returned (.string ⟨#[]⟩) ∧ Rd w' g A n c p pv er ∧ Below w.heap.size w w' := by
  have hmf : ∀ (fn : Fn) (first cap : Array Value) (w : World), (Instr.makeFunc fn first cap).run Tryz.prog w = .ok (.func fn first cap) w := fun _ _ _ _ => rfl
  obtain ⟨W2, hW2⟩ : ∃ W2 : World, W2 = w.alloc (.cells #[.pointer (some ⟨g, 0, none⟩)] 101) := ⟨_, rfl⟩
  have hgw : g < w.heap.size := lt_of_block hr
  have hb2 : Below w.heap.size w W2 := by rw [hW2]; exact (Below.refl _ _).alloc (Nat.le_refl _) _
  have HC := Lib.hid (fun fv => readS_err fv g A n c p pv er W2 ((hb2.block g hgw).trans hr) he)
  have HB2 := Lib.hid hb2
  have HW2 := Lib.hid hW2
  clear hr he hb2 hW2
  go_enter Tryz.func84, Tryz.ntmps84
  go_wp2_with fail
  rw [← HW2.out]
  refine (HC.out _).mono ?_
  rintro e w1 ⟨rfl, h1, h2⟩
  have H1 := Lib.hid h1
  have H2 := Lib.hid h2
  clear h1 h2
  go_wp2_with fail
  go_ret
  exact ⟨rfl, H1.out, HB2.out.trans (H2.out.mono HB2.out.size)⟩

theorem left_any (g : Nat) (A : Option Addr) (n c p : Nat) (pv er : Int) (w : World) (hr : Rd w g A n c p pv er) (hp : p ≤ n) (hn : n ≤ 1000000) :
    Calls Tryz.prog 42 #[.pointer (some ⟨g, 0, none⟩)] w fun e w' => e = .returned (.int .i64 ((n - p : Nat) : Int)) ∧ Below w.heap.size w w' := by
  have c0 := cell_of_row w g 0 _ _ _ hr
  have c1 := cell_of_row w g 1 _ _ _ hr
  simp at c0 c1
  have he : ((n - p : Nat) : Int) = (n : Int) - (p : Int) := by omega
  rw [he]
  clear hr he
  go_enter Tryz.func42, Tryz.ntmps42
  go_wp2
  go_quiet (fail)
  go_wp2
  go_ret
  exact ⟨rfl, below_drewN (Below.refl _ _) _⟩
end Go.Proofs.YtkeicjokekmkpaaGreat
namespace Go.Proofs.YtkeicjokekmkpaaGreat
open Go.RowKit
theorem Sl.on {α : Type} {f : α → Value} {w w' : World} {A : Option Addr} {n : Nat} {xs : List α} (h : Sl f w w.heap.size A n xs) (hb : Below w.heap.size w w') : Sl f w' w'.heap.size A n xs := (h.up hb (Nat.le_refl _)).more' hb.size
set_option linter.unusedVariables false
set_option linter.unusedSimpArgs false

theorem rend_any (g : Nat) (A : Option Addr) (n c p : Nat) (pv er : Int) (w : World) (hr : Rd w g A n c p pv er) :
    Calls Tryz.prog 44 #[.pointer (some ⟨g, 0, none⟩)] w fun e w' => e = .returned (.tuple #[.int .i64 p, .int .i64 (if er = 0 then (if p < n then 3 else 0) else er)]) ∧ Below w.heap.size w w' := by
  have c0 := cell_of_row w g 0 _ _ _ hr
  have c1 := cell_of_row w g 1 _ _ _ hr
  have c3 := cell_of_row w g 3 _ _ _ hr
  simp at c0 c1 c3
  clear hr
  obtain ⟨z, hz⟩ : ∃ z : Int, (if er = 0 then (if p < n then 3 else 0) else er) = z := ⟨_, rfl⟩
  rw [hz]
  by_cases he : er = 0
  · have heb : (er != 0) = false := by simp [he]
    rw [if_pos he] at hz
    clear he
    by_cases hlt : p < n
    · rw [if_pos hlt] at hz
      subst hz
      go_enter Tryz.func44, Tryz.ntmps44
      go_wp2
      go_quiet (fail)
      go_wp2
      go_ret2
      exact ⟨rfl, below_drewN (Below.refl _ _) _⟩
    · rw [if_neg hlt] at hz
      subst hz
      go_enter Tryz.func44, Tryz.ntmps44
      go_wp2
      go_quiet (fail)
      go_wp2
      go_ret2
      exact ⟨rfl, below_drewN (Below.refl _ _) _⟩
  · have heb : (er != 0) = true := by simp [he]
    rw [if_neg he] at hz
    clear he
    subst hz
    go_enter Tryz.func44, Tryz.ntmps44
    go_wp2
    go_quiet (fail)
    go_wp2
    go_ret2
    exact ⟨rfl, below_drewN (Below.refl _ _) _⟩

/-- A new reader: its block, its own row of the bytes. -/
def NewRd (n : Nat) (bs : List Int) (w : World) (e : Ending) (w' : World) : Prop :=
  ∃ g A1 c1, e = .returned (.pointer (some ⟨g, 0, none⟩)) ∧ Rd w' g A1 n c1 0 0 0 ∧ Sl fB w' g A1 n bs ∧ w.heap.size ≤ g ∧ Below w.heap.size w w' ∧ n ≤ c1

set_option maxRecDepth 20000 in
theorem newReader_any (A : Option Addr) (n c : Nat) (bs : List Int) (w : World) (hx : Sl fB w w.heap.size A n bs) (hn : n ≤ 1000000) :
    Calls Tryz.prog 37 #[.slice A n c] w (NewRd n bs w) := by
  obtain ⟨i0, hi, hz0, hz1, hz2⟩ := info_parts Tryz.infoB
  have HI := Lib.hid hi
  have HZ0 := Lib.hid hz0
  have HZ1 := Lib.hid hz1
  have HZ2 := Lib.hid hz2
  clear hi hz0 hz1 hz2
  have HO0 : Hid (Own fB 5 (w.alloc (.cells #[] 5)) w.heap.size (.slice (some ⟨w.heap.size, 0, none⟩) 0 0) []) := World.ownsRow_lit w #[] 0 (Nat.le_refl _) (by unfold maxLen; omega) rfl
  have HB0 : Hid (Below w.heap.size w (w.alloc (.cells #[] 5))) := (Below.refl _ _).alloc (Nat.le_refl _) _
  have HS0 : Hid (Sl fB (w.alloc (.cells #[] 5)) (w.alloc (.cells #[] 5)).heap.size A n bs) := hx.on HB0.out
  have HL1 : Hid ((([] : List Int).length + bs.length) * 1 ≤ 140737488355328) := by show _ ≤ _; rw [hx.1]; simp; omega
  have HL3 : Hid (([] : List Int).length + bs.length ≤ maxLen) := by show _ ≤ _; rw [hx.1]; unfold maxLen; simp; omega
  have HLN : Hid (bs.length = n) := hx.1
  clear hx
  go_enter Tryz.func37, Tryz.ntmps37
  go_wp2_with (refine wpList_app (o := ⟨some 5, _, _, _, _, _⟩) rfl (.tmp 3) (.tmp 4) 43 rfl 5 i0 (.int .u8 0) 1 Tryz.underlying43 HI.out HZ0.out HZ1.out HZ2.out rfl (.slice (some ⟨w.heap.size, 0, none⟩) 0 0) ([] : List Int) w.heap.size rfl HO0.out A n c (w.alloc (.cells #[] 5)).heap.size bs rfl HS0.out fB1 HL1.out HL3.out HB0.out.size ?_; intro v6 w6 HO6 HG6 _; obtain ⟨A6, c6, hv6, hc6, hs6, _⟩ := HO6.out.shape; have HS6 : Hid (Sl fB w6 w6.heap.size A6 n bs) := ⟨HLN.out, hs6⟩; have HB6 : Hid (Below w.heap.size w w6) := HO0.out.below HB0.out (Nat.le_refl _) HB0.out.size HG6.out; rw [List.nil_append, HLN.out] at hv6; (have HC6 : Hid (n ≤ c6) := Nat.le_trans (Nat.le_of_eq HLN.out.symm) hc6); clear hc6 hs6; subst hv6)
  go_ret
  have hb7 : Below w.heap.size w (w6.alloc (.cells #[.slice A6 n c6, .int .i64 0, .int .i64 0, .int .i64 0] 140)) := HB6.out.alloc HB6.out.size _
  exact ⟨w6.heap.size, A6, c6, rfl, heap_alloc_new w6 _, HS6.out.up ((Below.refl _ _).alloc (Nat.le_refl _) _) (Nat.le_refl _), HB6.out.size, hb7, HC6.out⟩
end Go.Proofs.YtkeicjokekmkpaaGreat
namespace Go.Proofs.YtkeicjokekmkpaaGreat
open Go.RowKit
set_option linter.unusedVariables false
set_option linter.unusedSimpArgs false

/-- What holds of the bytes that are read. -/
def RK (bs : List Int) (n c : Nat) : Prop := (∀ b ∈ bs, 0 ≤ b ∧ b < 256) ∧ n ≤ 1000000 ∧ n ≤ c
/-- A reader in memory, in the state s. -/
def RdS (g : Nat) (A : Option Addr) (n c : Nat) (bs : List Int) (s : RS) (w : World) : Prop := (∃ pv, Rd w g A n c s.1 pv s.2) ∧ Sl fB w g A n bs
def RPost (g : Nat) (A : Option Addr) (n c : Nat) (bs : List Int) (v : Value) (s : RS) (w : World) (e : Ending) (w' : World) : Prop := e = .returned v ∧ RdS g A n c bs s w' ∧ But (fun k => k = g) w w'
theorem RdS.len {g : Nat} {A : Option Addr} {n c : Nat} {bs : List Int} {s : RS} {w : World} (h : RdS g A n c bs s w) : bs.length = n := h.2.1
theorem RdS.lt {g : Nat} {A : Option Addr} {n c : Nat} {bs : List Int} {s : RS} {w : World} (h : RdS g A n c bs s w) : g < w.heap.size := by
  obtain ⟨⟨pv, h1⟩, _⟩ := h
  exact lt_of_block h1
theorem RdS.on {g : Nat} {A : Option Addr} {n c : Nat} {bs : List Int} {s : RS} {w w' : World} (h : RdS g A n c bs s w) (hb : Below w.heap.size w w') : RdS g A n c bs s w' := by
  have hl := h.lt
  obtain ⟨⟨pv, h1⟩, h2⟩ := h
  exact ⟨⟨pv, (hb.block g hl).trans h1⟩, h2.up hb (Nat.le_of_lt hl)⟩
/-- What is written is another block. -/
theorem RdS.but {g : Nat} {A : Option Addr} {n c : Nat} {bs : List Int} {s : RS} {w w' : World} {p : Nat → Prop} (h : RdS g A n c bs s w) (hb : But p w w') (hp : ∀ k, k ≤ g → ¬ p k) : RdS g A n c bs s w' := by
  have hl := h.lt
  obtain ⟨⟨pv, h1⟩, h2⟩ := h
  refine ⟨⟨pv, (hb.block g hl (hp g (Nat.le_refl _))).trans h1⟩, h2.1, fun hn => ?_⟩
  obtain ⟨b, off, e, hlt, hc⟩ := h2.2 hn
  exact ⟨b, off, e, hlt, hc.keep (hb.block b (Nat.lt_trans hlt hl) (hp b (Nat.le_of_lt hlt)))⟩
theorem rU_le {bs : List Int} {s : RS} {n : Nat} (hl : bs.length = n) (h : s.1 ≤ n) : (rU bs s).2.1 ≤ n := rV_le h (by rw [← hl]; exact numF_le bs 10 0 0 s.1 (by omega))
theorem rI_le {bs : List Int} {s : RS} {n : Nat} (hl : bs.length = n) (h : s.1 ≤ n) : (rI bs s).2.1 ≤ n := rU_le hl h
theorem rC_le {bs : List Int} {s : RS} {m n : Nat} (hl : bs.length = n) (h : s.1 ≤ n) : (rC bs m s).2.1 ≤ n := rV_le h (by rw [limF_place, ← hl]; exact numF_le bs 10 0 0 s.1 (by omega))
theorem tkF_le {bs : List Int} {k p n : Nat} (hl : bs.length = n) (h : p ≤ n) : (tkF bs k p).2.2 ≤ n := by
  rw [tkF_eq]
  split
  · exact h
  · next h1 => show p + k ≤ n; omega
theorem rS_le {bs : List Int} {s : RS} {n : Nat} (hl : bs.length = n) (h : s.1 ≤ n) : (rS bs s).2.1 ≤ n := rV_le h (tkF_le hl h)
theorem rT_le {bs : List Int} {s : RS} {m n : Nat} (hl : bs.length = n) (h : s.1 ≤ n) : (rT bs m s).2.1 ≤ n := rV_le h (by
  have hq : (limF m (numF bs 10 0 0 s.1)).2.2 ≤ n := by rw [limF_place, ← hl]; exact numF_le bs 10 0 0 s.1 (by omega)
  rw [blkF_eq]
  split
  · exact tkF_le hl hq
  · exact hq)

theorem ru_any (g : Nat) (A : Option Addr) (n c : Nat) (bs : List Int) (s : RS) (w : World) (hr : RdS g A n c bs s w) (hk : RK bs n c) (hp : s.1 ≤ n) :
    Calls Tryz.prog 85 #[.pointer (some ⟨g, 0, none⟩)] w (RPost g A n c bs (.int .u64 (rU bs s).1) (rU bs s).2 w) := by
  obtain ⟨⟨pv, h1⟩, h2⟩ := hr
  obtain ⟨p, er⟩ := s
  have hgl := Nat.le_of_lt (lt_of_block h1)
  by_cases h0 : er = 0
  · subst h0
    refine (ruint_ok g A n c p pv bs w h1 h2 hk.1 hp hk.2.1).mono ?_
    rintro e w' ⟨rfl, k1, k2⟩
    have hx := h2.butg k2 hgl
    unfold rU
    simp only [rV, if_true] at k1 ⊢
    split
    · next hz =>
      rw [if_pos hz] at k1
      rw [hz] at k1
      skip
      exact ⟨rfl, ⟨⟨_, k1⟩, hx⟩, k2⟩
    · next hz =>
      rw [if_neg hz] at k1
      exact ⟨rfl, ⟨⟨_, k1⟩, hx⟩, k2⟩
  · refine (ruint_err g A n c p pv er w h1 h0).mono ?_
    rintro e w' ⟨rfl, k1, k2⟩
    unfold rU
    simp only [rV, h0, if_false]
    exact ⟨rfl, ⟨⟨pv, k1⟩, h2.butg (But.of_below k2) hgl⟩, But.of_below k2⟩

theorem rc_any (g : Nat) (A : Option Addr) (n c : Nat) (bs : List Int) (s : RS) (m : Nat) (hm : m ≤ 1000000) (w : World) (hr : RdS g A n c bs s w) (hk : RK bs n c) (hp : s.1 ≤ n) :
    Calls Tryz.prog 38 #[.pointer (some ⟨g, 0, none⟩), .int .i64 m] w (RPost g A n c bs (.int .i64 (rC bs m s).1) (rC bs m s).2 w) := by
  obtain ⟨⟨pv, h1⟩, h2⟩ := hr
  obtain ⟨p, er⟩ := s
  have hgl := Nat.le_of_lt (lt_of_block h1)
  by_cases h0 : er = 0
  · subst h0
    refine (rcount_ok g A n c p m pv bs w h1 h2 hk.1 hp hk.2.1 hm).mono ?_
    rintro e w' ⟨rfl, k1, k2⟩
    have hx := h2.butg k2 hgl
    unfold rC
    simp only [rV, if_true] at k1 ⊢
    split
    · next hz =>
      rw [if_pos hz] at k1
      rw [hz] at k1
      skip
      exact ⟨rfl, ⟨⟨_, k1⟩, hx⟩, k2⟩
    · next hz =>
      rw [if_neg hz] at k1
      exact ⟨rfl, ⟨⟨_, k1⟩, hx⟩, k2⟩
  · refine (rcount_err g A n c p m pv er w h1 h0).mono ?_
    rintro e w' ⟨rfl, k1, k2⟩
    unfold rC
    simp only [rV, h0, if_false]
    exact ⟨rfl, ⟨⟨pv, k1⟩, h2.butg (But.of_below k2) hgl⟩, But.of_below k2⟩

theorem rt_any (g : Nat) (A : Option Addr) (n c : Nat) (bs : List Int) (s : RS) (m : Nat) (hm : m ≤ 1000000) (w : World) (hr : RdS g A n c bs s w) (hk : RK bs n c) (hp : s.1 ≤ n) :
    Calls Tryz.prog 83 #[.pointer (some ⟨g, 0, none⟩), .int .i64 m] w (RPost g A n c bs (.string (rT bs m s).1) (rT bs m s).2 w) := by
  obtain ⟨⟨pv, h1⟩, h2⟩ := hr
  obtain ⟨p, er⟩ := s
  have hgl := Nat.le_of_lt (lt_of_block h1)
  by_cases h0 : er = 0
  · subst h0
    refine (rtext_ok g A n c p m pv bs w h1 h2 hk.1 hp hk.2.1 hm hk.2.2).mono ?_
    rintro e w' ⟨rfl, k1, k2⟩
    have hx := h2.butg k2 hgl
    unfold rT
    simp only [rV, if_true] at k1 ⊢
    split
    · next hz =>
      rw [if_pos hz] at k1
      rw [hz] at k1
      skip
      exact ⟨rfl, ⟨⟨_, k1⟩, hx⟩, k2⟩
    · next hz =>
      rw [if_neg hz] at k1
      exact ⟨rfl, ⟨⟨_, k1⟩, hx⟩, k2⟩
  · refine (rtext_err g A n c p m pv er w h1 h0).mono ?_
    rintro e w' ⟨rfl, k1, k2⟩
    unfold rT
    simp only [rV, h0, if_false]
    exact ⟨rfl, ⟨⟨pv, k1⟩, h2.butg (But.of_below k2) hgl⟩, But.of_below k2⟩

theorem rs_any (g : Nat) (A : Option Addr) (n c : Nat) (bs : List Int) (s : RS) (w : World) (hr : RdS g A n c bs s w) (hk : RK bs n c) (hp : s.1 ≤ n) :
    Calls Tryz.prog 84 #[.pointer (some ⟨g, 0, none⟩)] w (RPost g A n c bs (.string (rS bs s).1) (rS bs s).2 w) := by
  obtain ⟨⟨pv, h1⟩, h2⟩ := hr
  obtain ⟨p, er⟩ := s
  have hgl := Nat.le_of_lt (lt_of_block h1)
  by_cases h0 : er = 0
  · subst h0
    refine (rsum_ok g A n c p pv bs w h1 h2 hk.1 hp hk.2.1 hk.2.2).mono ?_
    rintro e w' ⟨rfl, k1, k2⟩
    have hx := h2.butg k2 hgl
    unfold rS
    simp only [rV, if_true] at k1 ⊢
    split
    · next hz =>
      rw [if_pos hz] at k1
      rw [hz] at k1
      skip
      exact ⟨rfl, ⟨⟨_, k1⟩, hx⟩, k2⟩
    · next hz =>
      rw [if_neg hz] at k1
      exact ⟨rfl, ⟨⟨_, k1⟩, hx⟩, k2⟩
  · refine (rsum_err g A n c p pv er w h1 h0).mono ?_
    rintro e w' ⟨rfl, k1, k2⟩
    unfold rS
    simp only [rV, h0, if_false]
    exact ⟨rfl, ⟨⟨pv, k1⟩, h2.butg (But.of_below k2) hgl⟩, But.of_below k2⟩
end Go.Proofs.YtkeicjokekmkpaaGreat
