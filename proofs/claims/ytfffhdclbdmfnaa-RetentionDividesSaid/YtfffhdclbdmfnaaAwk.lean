/- The law's own example, plainly. -/
import Derived.Test.YtfffhdclbdmfnaaNxt
import Derived.Test.YtfffhdclbdmfnaaCov
namespace Go.Proofs.Ytfffhdclbdmfnaa
open Go.RowKit Ret
set_option linter.unusedVariables false
set_option linter.unusedSimpArgs false

def rl : Nums := ⟨2, 2, 0, 0⟩
def t10 : List Int := [0, 1, 2, 3, 4, 5, 6, 7, 8, 9]
theorem aw_arg : argB 2 2 0 0 t10 [] = true := by kernel_rfl
theorem aw_rules : rulesB 2 2 0 0 = true := by kernel_rfl
theorem aw_srt : srt t10 = t10 := by kernel_rfl
theorem aw_kept : keptL rl t10 [] = [8, 9] := by kernel_rfl
theorem aw_rsn : rsn rl t10 [] 9 = 3 := by kernel_rfl
theorem aw_rsn8 : rsn rl t10 [] 8 = 3 := by kernel_rfl
theorem aw_next : nextN rl (srt t10) 9 8 30 = 7 := by kernel_rfl
theorem aw_cov : cov 7 [3, 8, 9] = (3, true) := by kernel_rfl
theorem sl_nil (W : World) (B : Nat) : Sl I W B none 0 [] := ⟨rfl, fun h => absurd h (Nat.lt_irrefl 0)⟩
theorem aw_valid (W : World) : Calls Try.prog 13 #[fR 2 2 0 0] W (BoolB true W) := by
  have := valid_any 2 2 0 0 W
  rwa [aw_rules] at this
theorem aw_keep (W : World) (A : Option Addr) (c : Nat) (h : Sl I W W.heap.size A 10 t10) : Calls Try.prog 22 #[fR 2 2 0 0, .slice A 10 c, .slice none 0 0] W (Slc2 I [8, 9] 0 W) := by
  refine (keep_any 2 2 0 0 A none 10 0 c 0 t10 [] W h (sl_nil _ _) (by omega) (by omega)).mono ?_
  rintro e w' (⟨h1, _⟩ | ⟨_, nm, e1, e2, e3, e4, _, _, _, _, h2⟩)
  · rw [aw_arg] at h1; cases h1
  · have : nm = rl := by
      obtain ⟨a, b, c, d⟩ := nm
      simp only [] at e1 e2 e3 e4
      simp only [rl, Nums.mk.injEq]
      omega
    rw [this, aw_kept] at h2
    exact h2
theorem aw_reasons (day : Int) (hd : day ∈ t10) (hr : rsn rl t10 [] day = 3) (W : World) (A : Option Addr) (c : Nat) (h : Sl I W W.heap.size A 10 t10) : Calls Try.prog 16 #[fR 2 2 0 0, .slice A 10 c, .slice none 0 0, .int .i64 day] W (Int2 3 0 W) := by
  have := reasonsF_yes rl (by decide) (by decide) (by decide) (by decide) day A none 10 0 c 0 t10 [] W h (sl_nil _ _) (by omega) (by omega) aw_arg
  rw [if_pos hd, if_pos hd, hr] at this
  exact this
theorem aw_nextF (W : World) (A : Option Addr) (c : Nat) (h : Sl I W W.heap.size A 10 t10) : Calls Try.prog 18 #[fR 2 2 0 0, .slice A 10 c, .slice none 0 0, .int .i64 8, .int .i64 30] W (Int2 7 0 W) := by
  have := nextF_go rl (by decide) (by decide) (by decide) (by decide) 8 30 (by omega) 3 (by omega) (by omega) A none 10 0 c 0 t10 9 W h (by omega) (fun x hx => by unfold okD; simp [t10] at hx; omega) (by unfold okD; omega) (by kernel_rfl) (fun W' hb => aw_reasons 8 (by decide) aw_rsn8 W' A c ((h.up hb (Nat.le_refl _)).more' hb.size))
  rw [aw_next] at this
  exact this
theorem aw_cover (W : World) (A : Option Addr) (c B : Nat) (h : Sl I W B A 3 [3, 8, 9]) : Calls Try.prog 20 #[.slice A 3 c, .int .i64 7] W fun e w' => e = .returned (.tuple #[.int .i64 3, .bool true]) ∧ W = w' := by
  have := cover_any A 3 [3, 8, 9] c 7 W B h (by omega)
  rwa [aw_cov] at this
theorem aw_same (W : World) (A A' : Option Addr) (c c' B : Nat) (h : Sl I W B A 2 [8, 9]) (h' : Sl I W B A' 2 [8, 9]) : Calls Try.prog 28 #[.slice A 2 c, .slice A' 2 c'] W fun e w' => e = .returned (.bool true) ∧ ∃ r, w' = W.drewN r := by
  have := same_any A A' 2 2 [8, 9] [8, 9] c c' W B h h' (by omega) (by omega)
  rwa [decide_eq_true rfl] at this

set_option maxRecDepth 20000 in
set_option maxHeartbeats 4000000 in
theorem awake_any (w : World) : Calls Try.prog 12 #[] w (BoolB true w) := by
  obtain ⟨W0, hW0⟩ : ∃ W0 : World, W0 = (w.alloc (.cells #[.int .i64 2, .int .i64 2, .int .i64 0, .int .i64 0] 23)).alloc (.cells #[.int .i64 0, .int .i64 1, .int .i64 2, .int .i64 3, .int .i64 4, .int .i64 5, .int .i64 6, .int .i64 7, .int .i64 8, .int .i64 9] 3) := ⟨_, rfl⟩
  have HB0 : Hid (Below w.heap.size w W0) := by show Below _ _ _; rw [hW0]; exact ((Below.refl _ _).alloc (Nat.le_refl _) _).alloc (by simp) _
  have HG0 : Hid (W0.heap[w.heap.size]? = some (.cells #[.int .i64 2, .int .i64 2, .int .i64 0, .int .i64 0] 23 (0, 0))) := by
    show _ = _
    rw [hW0, Below.heap_alloc _ _ _ (by simp)]
    exact heap_alloc_new w _
  have hg1 : W0.heap[w.heap.size + 1]? = some (.cells #[.int .i64 0, .int .i64 1, .int .i64 2, .int .i64 3, .int .i64 4, .int .i64 5, .int .i64 6, .int .i64 7, .int .i64 8, .int .i64 9] 3 (0, 0)) := by
    rw [hW0]
    have := heap_alloc_new (w.alloc (.cells #[.int .i64 2, .int .i64 2, .int .i64 0, .int .i64 0] 23)) (.cells #[.int .i64 0, .int .i64 1, .int .i64 2, .int .i64 3, .int .i64 4, .int .i64 5, .int .i64 6, .int .i64 7, .int .i64 8, .int .i64 9] 3)
    simpa using this
  have HS0 : Hid (Sl I W0 W0.heap.size (some ⟨w.heap.size + 1, 0, none⟩) 10 t10) := ⟨rfl, fun _ => ⟨_, 0, rfl, lt_of_block hg1, fun k x hx => by
    rw [Nat.zero_add]
    have hk : k < 10 := by have := (List.getElem?_eq_some_iff.1 hx).1; exact this
    refine (cell_of_row _ _ _ _ _ _ hg1).trans ?_
    have : k = 0 ∨ k = 1 ∨ k = 2 ∨ k = 3 ∨ k = 4 ∨ k = 5 ∨ k = 6 ∨ k = 7 ∨ k = 8 ∨ k = 9 := by omega
    rcases this with rfl | rfl | rfl | rfl | rfl | rfl | rfl | rfl | rfl | rfl <;> (simp [t10] at hx; subst hx; rfl)⟩⟩
  clear hg1
  go_enter Try.func12, Try.ntmps12
  go_wp2_with fail
  rw [← hW0]
  clear hW0
  refine (aw_keep W0 _ _ HS0.out).mono ?_
  rintro e w1 ⟨A1, n1, c1, rfl, hc1, hk1, hb1⟩
  obtain rfl : n1 = 2 := hk1.1.symm
  have HK1 := Lib.hid hk1
  have HB1 : Hid (Below w.heap.size w w1) := HB0.out.trans (hb1.mono HB0.out.size)
  have HS1 := Lib.hid (HS0.out.up hb1 (Nat.le_refl _) |>.more' hb1.size)
  have HG1 : Hid (w1.heap[w.heap.size]? = some (.cells #[.int .i64 2, .int .i64 2, .int .i64 0, .int .i64 0] 23 (0, 0))) := (hb1.block _ (lt_of_block HG0.out)).trans HG0.out
  clear hc1 hk1 hb1
  have g0 := cell_of_row w1 w.heap.size 0 _ _ _ HG1.out
  have g1 := cell_of_row w1 w.heap.size 1 _ _ _ HG1.out
  have g2 := cell_of_row w1 w.heap.size 2 _ _ _ HG1.out
  have g3 := cell_of_row w1 w.heap.size 3 _ _ _ HG1.out
  simp at g0 g1 g2 g3
  go_wp2_with fail
  clear g0 g1 g2 g3
  refine (aw_nextF w1 _ _ HS1.out).mono ?_
  rintro e w2 ⟨rfl, hb2⟩
  have HB2 : Hid (Below w.heap.size w w2) := HB1.out.trans (hb2.mono HB1.out.size)
  have HS2 := Lib.hid (HS1.out.up hb2 (Nat.le_refl _) |>.more' hb2.size)
  have HG2 : Hid (w2.heap[w.heap.size]? = some (.cells #[.int .i64 2, .int .i64 2, .int .i64 0, .int .i64 0] 23 (0, 0))) := (hb2.block _ (lt_of_block HG1.out)).trans HG1.out
  have HK2 := Lib.hid (HK1.out.up hb2 (Nat.le_refl _) |>.more' hb2.size)
  clear hb2
  have g0 := cell_of_row w2 w.heap.size 0 _ _ _ HG2.out
  have g1 := cell_of_row w2 w.heap.size 1 _ _ _ HG2.out
  have g2 := cell_of_row w2 w.heap.size 2 _ _ _ HG2.out
  have g3 := cell_of_row w2 w.heap.size 3 _ _ _ HG2.out
  simp at g0 g1 g2 g3
  go_wp2_with fail
  clear g0 g1 g2 g3
  refine (aw_reasons 9 (by decide) aw_rsn w2 _ _ HS2.out).mono ?_
  rintro e w3 ⟨rfl, hb3⟩
  have HB3 : Hid (Below w.heap.size w w3) := HB2.out.trans (hb3.mono HB2.out.size)
  have HS3 := Lib.hid (HS2.out.up hb3 (Nat.le_refl _) |>.more' hb3.size)
  have HG3 : Hid (w3.heap[w.heap.size]? = some (.cells #[.int .i64 2, .int .i64 2, .int .i64 0, .int .i64 0] 23 (0, 0))) := (hb3.block _ (lt_of_block HG2.out)).trans HG2.out
  have HK3 := Lib.hid (HK2.out.up hb3 (Nat.le_refl _) |>.more' hb3.size)
  clear hb3
  obtain ⟨w4, hw4⟩ : ∃ w4 : World, w4 = w3.alloc (.cells #[.int .i64 3, .int .i64 8, .int .i64 9] 3) := ⟨_, rfl⟩
  have hb4 : Below w3.heap.size w3 w4 := by rw [hw4]; exact (Below.refl _ _).alloc (Nat.le_refl _) _
  have hg4 : w4.heap[w3.heap.size]? = some (.cells #[.int .i64 3, .int .i64 8, .int .i64 9] 3 (0, 0)) := by rw [hw4]; exact heap_alloc_new _ _
  have HC4 : Hid (Sl I w4 w4.heap.size (some ⟨w3.heap.size, 0, none⟩) 3 [3, 8, 9]) := ⟨rfl, fun _ => ⟨_, 0, rfl, lt_of_block hg4, fun k x hx => by
    rw [Nat.zero_add]
    have hk : k < 3 := by have := (List.getElem?_eq_some_iff.1 hx).1; exact this
    refine (cell_of_row _ _ _ _ _ _ hg4).trans ?_
    have : k = 0 ∨ k = 1 ∨ k = 2 := by omega
    rcases this with rfl | rfl | rfl <;> (simp at hx; subst hx; rfl)⟩⟩
  have HB4 : Hid (Below w.heap.size w w4) := HB3.out.trans (hb4.mono HB3.out.size)
  have HS4 := Lib.hid (HS3.out.up hb4 (Nat.le_refl _) |>.more' hb4.size)
  have HG4 : Hid (w4.heap[w.heap.size]? = some (.cells #[.int .i64 2, .int .i64 2, .int .i64 0, .int .i64 0] 23 (0, 0))) := (hb4.block _ (lt_of_block HG3.out)).trans HG3.out
  have HK4 := Lib.hid (HK3.out.up hb4 (Nat.le_refl _) |>.more' hb4.size)
  clear hb4 hg4
  go_wp2_with fail
  rw [← hw4]
  clear hw4
  refine (aw_cover w4 _ _ _ HC4.out).mono ?_
  rintro e w' ⟨rfl, rfl⟩
  have g0 := cell_of_row w4 w.heap.size 0 _ _ _ HG4.out
  have g1 := cell_of_row w4 w.heap.size 1 _ _ _ HG4.out
  have g2 := cell_of_row w4 w.heap.size 2 _ _ _ HG4.out
  have g3 := cell_of_row w4 w.heap.size 3 _ _ _ HG4.out
  simp at g0 g1 g2 g3
  go_wp2_with fail
  clear g0 g1 g2 g3
  refine (aw_valid w4).mono ?_
  rintro e w5 ⟨rfl, hb5⟩
  have HB5 : Hid (Below w.heap.size w w5) := HB4.out.trans (hb5.mono HB4.out.size)
  have HS5 := Lib.hid (HS4.out.up hb5 (Nat.le_refl _) |>.more' hb5.size)
  have HG5 : Hid (w5.heap[w.heap.size]? = some (.cells #[.int .i64 2, .int .i64 2, .int .i64 0, .int .i64 0] 23 (0, 0))) := (hb5.block _ (lt_of_block HG4.out)).trans HG4.out
  have HK5 := Lib.hid (HK4.out.up hb5 (Nat.le_refl _) |>.more' hb5.size)
  clear hb5
  obtain ⟨w6, hw6⟩ : ∃ w6 : World, w6 = w5.alloc (.cells #[.int .i64 8, .int .i64 9] 3) := ⟨_, rfl⟩
  have hb6 : Below w5.heap.size w5 w6 := by rw [hw6]; exact (Below.refl _ _).alloc (Nat.le_refl _) _
  have hg6 : w6.heap[w5.heap.size]? = some (.cells #[.int .i64 8, .int .i64 9] 3 (0, 0)) := by rw [hw6]; exact heap_alloc_new _ _
  have HC6 : Hid (Sl I w6 w6.heap.size (some ⟨w5.heap.size, 0, none⟩) 2 [8, 9]) := ⟨rfl, fun _ => ⟨_, 0, rfl, lt_of_block hg6, fun k x hx => by
    rw [Nat.zero_add]
    have hk : k < 2 := by have := (List.getElem?_eq_some_iff.1 hx).1; exact this
    refine (cell_of_row _ _ _ _ _ _ hg6).trans ?_
    have : k = 0 ∨ k = 1 := by omega
    rcases this with rfl | rfl <;> (simp at hx; subst hx; rfl)⟩⟩
  have HB6 : Hid (Below w.heap.size w w6) := HB5.out.trans (hb6.mono HB5.out.size)
  have HS6 := Lib.hid (HS5.out.up hb6 (Nat.le_refl _) |>.more' hb6.size)
  have HG6 : Hid (w6.heap[w.heap.size]? = some (.cells #[.int .i64 2, .int .i64 2, .int .i64 0, .int .i64 0] 23 (0, 0))) := (hb6.block _ (lt_of_block HG5.out)).trans HG5.out
  have HK6 := Lib.hid (HK5.out.up hb6 (Nat.le_refl _) |>.more' hb6.size)
  clear hb6 hg6
  go_wp2_with fail
  rw [← hw6]
  clear hw6
  refine (aw_same w6 _ _ _ _ _ HK6.out HC6.out).mono ?_
  rintro e w7 ⟨rfl, r, rfl⟩
  have HB7 : Hid (Below w.heap.size w (w6.drewN r)) := ⟨HB6.out.os, HB6.out.tape, HB6.out.output, HB6.out.size, HB6.out.block⟩
  go_wp2_with fail
  go_ret
  exact ⟨rfl, HB7.out⟩
end Go.Proofs.Ytfffhdclbdmfnaa
