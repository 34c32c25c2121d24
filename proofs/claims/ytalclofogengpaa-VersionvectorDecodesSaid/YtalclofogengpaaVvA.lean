/- Compare, Normal, Get, Covers. -/
import Derived.Test.YtalclofogengpaaRef
namespace Go.Proofs.Ytalclofogengpaa
open Go.RowKit

theorem or_any (a b d : Int) (g n c : Nat) (w : World) (hn : n = 3) (hg : w.heap[g]? = some (.cells #[I a, I b, I d] 3 (0, 0))) :
    Calls Try.prog 41 #[.slice (some ⟨g, 0, none⟩) n c] w fun e w' => e = .returned (.int .i64 (if a = 0 then (if b = 0 then d else b) else a)) ∧ Below w.heap.size w w' := by
  subst hn
  have h0 := cell_of_row w g 0 _ _ _ hg
  have h1 := cell_of_row w g 1 _ _ _ hg
  have h2 := cell_of_row w g 2 _ _ _ hg
  simp at h0 h1 h2
  have HG := Lib.hid hg
  clear hg
  by_cases ha : a = 0
  · subst ha
    by_cases hb : b = 0
    · subst hb
      by_cases hd : d = 0
      · subst hd
        go_enter Try.func41, Try.ntmps41
        go_wp2
        refine wp_loop_rounds 4 ?_
        rw [rounds_succ]
        go_wp2
        rw [rounds_succ]
        go_wp2
        rw [rounds_succ]
        go_wp2
        rw [rounds_succ]
        go_wp2
        go_ret
        exact ⟨rfl, Below.refl _ _⟩
      · have hd' : (d != 0) = true := by simpa using hd
        go_enter Try.func41, Try.ntmps41
        go_wp2
        refine wp_loop_rounds 3 ?_
        rw [rounds_succ]
        go_wp2
        rw [rounds_succ]
        go_wp2
        rw [rounds_succ]
        go_wp2
        go_ret
        exact ⟨rfl, Below.refl _ _⟩
    · have hb' : (b != 0) = true := by simpa using hb
      go_enter Try.func41, Try.ntmps41
      go_wp2
      refine wp_loop_rounds 2 ?_
      rw [rounds_succ]
      go_wp2
      rw [rounds_succ]
      go_wp2
      go_ret
      exact ⟨ret_int (by simp), Below.refl _ _⟩
  · have ha' : (a != 0) = true := by simpa using ha
    go_enter Try.func41, Try.ntmps41
    go_wp2
    refine wp_loop_rounds 1 ?_
    simp only [rounds_succ]
    go_wp2
    go_ret
    exact ⟨ret_int (by simp), Below.refl _ _⟩

def cmpI (x y : List Int) : Int := if coversB x y = true then (if coversB y x = true then 0 else 2) else (if coversB y x = true then 1 else 3)

set_option maxHeartbeats 400000 in
theorem compare_any (A A' : Option Addr) (n n' : Nat) (xs ys : List Int) (c c' : Nat) (w : World) (B : Nat) (hx : Sl I w B A n xs) (hy : Sl I w B A' n' ys) (hB : B ≤ w.heap.size) (hl : n ≤ 1000000) (hl' : n' ≤ 1000000) :
    Calls Try.prog 15 #[.slice A n c, .slice A' n' c'] w fun e w' => e = .returned (if validB xs && validB ys then .tuple #[.int .i64 (cmpI (pd xs) (pd ys)), .int .i64 0] else .tuple #[.int .i64 0, .int .i64 1]) ∧ Below w.heap.size w w' := by
  have HX := Lib.hid hx
  have HY := Lib.hid hy
  clear hx hy
  obtain ⟨px, hpx⟩ : ∃ p, p = pd xs := ⟨_, rfl⟩
  obtain ⟨py, hpy⟩ : ∃ p, p = pd ys := ⟨_, rfl⟩
  obtain ⟨vx, hvx⟩ : ∃ p, p = validB xs := ⟨_, rfl⟩
  obtain ⟨vy, hvy⟩ : ∃ p, p = validB ys := ⟨_, rfl⟩
  have c1 : Hid (∀ W, Sl I W B A n xs → B ≤ W.heap.size → Calls Try.prog 39 #[.slice A n c] W fun e w' => e = .returned (.tuple #[.agg (av px), .bool vx]) ∧ Below W.heap.size W w') := fun W h hb => by rw [hpx, hvx]; exact padded_any A n xs c W B h hb hl
  have c2 : Hid (∀ W, Sl I W B A' n' ys → B ≤ W.heap.size → Calls Try.prog 39 #[.slice A' n' c'] W fun e w' => e = .returned (.tuple #[.agg (av py), .bool vy]) ∧ Below W.heap.size W w') := fun W h hb => by rw [hpy, hvy]; exact padded_any A' n' ys c' W B h hb hl'
  rw [← hpx, ← hpy, ← hvx, ← hvy]
  have S1 : Hid ((Try.prog.info? 57).map (·.size) = some (av px).size) := hpx ▸ pd_size57 xs
  have S2 : Hid ((Try.prog.info? 57).map (·.size) = some (av py).size) := hpy ▸ pd_size57 ys
  have T1 : Hid (Z12.toArray.size = (av px).size) := hpx ▸ pd_sizeZ xs
  have T2 : Hid (Z12.toArray.size = (av py).size) := hpy ▸ pd_sizeZ ys
  have L1 : Hid (px.length = 12) := hpx ▸ pd_len xs
  have L2 : Hid (py.length = 12) := hpy ▸ pd_len ys
  clear hpx hpy hvx hvy
  go_enter Try.func15, Try.ntmps15
  go_wp2_with fail
  refine (c1.out _ HX.out hB).mono ?_; rintro e w1 ⟨rfl, hb1⟩
  have HB1 := Lib.hid hb1
  have hs1 := hb1.size
  clear hb1
  go_wp2_with (with_reducible refine wpList_store_new (o := ⟨none, .store 57 (.tmp 6) (.tmp 15), _, _, _, _⟩) rfl 57 (.tmp 6) (.tmp 15) rfl 57 Z12.toArray (av px) rfl rfl S1.out T1.out (av_one _) ?_)
  have HB2 : Hid (Below w.heap.size w (w1.alloc (.cells (av px) 57))) := HB1.out.alloc hs1 _
  refine (c2.out _ (HY.out.up HB2.out hB) (by simp; omega)).mono ?_; rintro e w3 ⟨rfl, hb3⟩
  have HB3 : Hid (Below w.heap.size w w3) := HB2.out.trans (hb3.mono (by simp; omega))
  have HG6 : Hid (w3.heap[w1.heap.size]? = some (.cells (av px) 57 (0, 0))) := (hb3.block _ (by simp)).trans (heap_alloc_new w1 _)
  have hs3 : w1.heap.size < w3.heap.size := by have := hb3.size; simp at this; omega
  clear hb3
  cases vx
  · cases vy
    all_goals
      go_wp2_with (with_reducible refine wpList_store_new (o := ⟨none, .store 57 (.tmp 8) (.tmp 20), _, _, _, _⟩) rfl 57 (.tmp 8) (.tmp 20) rfl 57 Z12.toArray (av py) rfl rfl S2.out T2.out (av_one _) ?_)
      go_ret2
      exact ⟨rfl, HB3.out.alloc (by omega) _⟩
  · cases vy
    · go_wp2_with (with_reducible refine wpList_store_new (o := ⟨none, .store 57 (.tmp 8) (.tmp 20), _, _, _, _⟩) rfl 57 (.tmp 8) (.tmp 20) rfl 57 Z12.toArray (av py) rfl rfl S2.out T2.out (av_one _) ?_)
      go_ret2
      exact ⟨rfl, HB3.out.alloc (by omega) _⟩
    · have HG6' : Hid ((w3.alloc (.cells (av py) 57)).heap[w1.heap.size]? = some (.cells (av px) 57 (0, 0))) := (Below.heap_alloc w3 _ _ hs3).trans HG6.out
      obtain ⟨b1, hb1⟩ : ∃ b, b = coversB px py := ⟨_, rfl⟩
      obtain ⟨b2, hb2⟩ : ∃ b, b = coversB py px := ⟨_, rfl⟩
      have c3 : Hid (∀ W, Calls Try.prog 40 #[.agg (av px), .agg (av py)] W fun e w' => e = .returned (.bool b1) ∧ Below W.heap.size W w') := fun W => by rw [hb1]; exact covers_any px py W L1.out L2.out
      have c4 : Hid (∀ W, Calls Try.prog 40 #[.agg (av py), .agg (av px)] W fun e w' => e = .returned (.bool b2) ∧ Below W.heap.size W w') := fun W => by rw [hb2]; exact covers_any py px W L2.out L1.out
      have HC : Hid (cmpI px py = if b1 = true then (if b2 = true then 0 else 2) else (if b2 = true then 1 else 3)) := by show _ = _; rw [hb1, hb2]; rfl
      clear hb1 hb2
      go_wp2_with (first
        | (with_reducible refine wpList_store_new (o := ⟨none, .store 57 (.tmp 8) (.tmp 20), _, _, _, _⟩) rfl 57 (.tmp 8) (.tmp 20) rfl 57 Z12.toArray (av py) rfl rfl S2.out T2.out (av_one _) ?_)
        | (with_reducible refine wpList_load_row (o := ⟨some 28, _, _, _, _, _⟩) rfl 57 (.tmp 6) rfl w1.heap.size rfl 57 (av px) (0, 0) _ HG6'.out Try.underlying57 rfl S1.out ?_)
        | (with_reducible refine wpList_load_row (o := ⟨some 29, _, _, _, _, _⟩) rfl 57 (.tmp 8) rfl w3.heap.size rfl 57 (av py) (0, 0) _ (heap_alloc_new w3 _) Try.underlying57 rfl S2.out ?_))
      refine (c3.out _).mono ?_; rintro e w5 ⟨rfl, hb5⟩
      have HG6b : Hid (w5.heap[w1.heap.size]? = some (.cells (av px) 57 (0, 0))) := (hb5.block _ (by simp; omega)).trans HG6'.out
      have HG8b : Hid (w5.heap[w3.heap.size]? = some (.cells (av py) 57 (0, 0))) := (hb5.block _ (by simp)).trans (heap_alloc_new w3 _)
      have HB5 : Hid (Below w.heap.size w w5) := (HB3.out.alloc (by omega) _).trans (hb5.mono (by simp; omega))
      have hs5 : w3.heap.size < w5.heap.size := by have := hb5.size; simp at this; omega
      clear hb5
      cases b1 <;> cases b2
      all_goals
        go_wp2_with (first
          | (with_reducible refine wpList_load_row (o := ⟨some 33, _, _, _, _, _⟩) rfl 57 (.tmp 6) rfl w1.heap.size rfl 57 (av px) (0, 0) _ HG6b.out Try.underlying57 rfl S1.out ?_)
          | (with_reducible refine wpList_load_row (o := ⟨some 32, _, _, _, _, _⟩) rfl 57 (.tmp 8) rfl w3.heap.size rfl 57 (av py) (0, 0) _ HG8b.out Try.underlying57 rfl S2.out ?_))
        refine (c4.out _).mono ?_; rintro e w7 ⟨rfl, hb7⟩
        have HB7 : Hid (Below w.heap.size w w7) := HB5.out.trans (hb7.mono (by omega))
        have hs7 := hb7.size
        clear hb7
        go_wp2_with (go_at_call 41; refine (or_any _ _ _ w7.heap.size _ _ _ rfl (heap_alloc_new w7 _)).mono ?_; rintro e w9 ⟨rfl, hb9⟩)
        first
          | (go_ret2
             exact ⟨by rw [HC.out]; rfl, HB7.out⟩)
          | (go_ret2
             exact ⟨by rw [HC.out]; rfl, (HB7.out.alloc (by omega) _).trans (hb9.mono (by simp; omega))⟩)
end Go.Proofs.Ytalclofogengpaa
