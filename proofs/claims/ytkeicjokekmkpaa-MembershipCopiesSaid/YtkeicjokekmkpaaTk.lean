/- taken: the name or the key of another one. -/
import Derived.Test.YtkeicjokekmkpaaLf
namespace Go.Proofs.Ytkeicjokekmkpaa
open Go.RowKit Mb
set_option linter.unusedVariables false
set_option linter.unusedSimpArgs false

abbrev cM (m : Mem) : Obj := .cells #[.int .i64 m.dev, .string m.name, .string m.pub, .int .i64 m.quota, .bool m.exp] 44 (0, 0)
/-- The five cells of a member in a row. -/
theorem five {w : World} {b off k : Nat} {x : Mem} (h : ∀ j v, (fM x)[j]? = some v → w.cell? ⟨b, off + (k * 5 + j), none⟩ = some v) :
    w.cell? ⟨b, off + k * 5, none⟩ = some (.int .i64 x.dev) ∧ w.cell? ⟨b, off + k * 5 + 1, none⟩ = some (.string x.name) ∧ w.cell? ⟨b, off + k * 5 + 2, none⟩ = some (.string x.pub) ∧ w.cell? ⟨b, off + k * 5 + 3, none⟩ = some (.int .i64 x.quota) ∧ w.cell? ⟨b, off + k * 5 + 4, none⟩ = some (.bool x.exp) := by
  refine ⟨?_, ?_, ?_, ?_, ?_⟩
  · exact h 0 _ rfl
  · rw [Nat.add_assoc]; exact h 1 _ rfl
  · rw [Nat.add_assoc]; exact h 2 _ rfl
  · rw [Nat.add_assoc]; exact h 3 _ rfl
  · rw [Nat.add_assoc]; exact h 4 _ rfl

set_option maxRecDepth 20000 in
set_option maxHeartbeats 1000000 in
theorem like_any (m x : Mem) (gm : Nat) (w : World) (hg : w.heap[gm]? = some (cM m)) : Calls Try.prog 52 #[aM x, .pointer (some ⟨gm, 0, none⟩)] w (BoolB (likeB m x) w) := by
  have hlt := lt_of_block hg
  have hb0 : Below w.heap.size w (w.alloc (cM x)) := (Below.refl _ _).alloc (Nat.le_refl _) _
  have HB0 := Lib.hid hb0
  have hg1 := (hb0.block _ hlt).trans hg
  have g1 := cell_of_row (w.alloc (cM x)) gm 1 _ _ _ hg1
  have g2 := cell_of_row (w.alloc (cM x)) gm 2 _ _ _ hg1
  simp at g1 g2
  clear hb0 hg1 hg
  cases hq : (x.name.toList == m.name.toList)
  · have HR : Hid (likeB m x = (x.pub.toList == m.pub.toList)) := by show _ = _; unfold likeB; rw [hq]; rfl
    go_enter Try.func52, Try.ntmps52
    go_wp2
    go_ret
    exact ⟨ret_bool HR.out.symm, HB0.out⟩
  · have HR : Hid (likeB m x = true) := by show _ = _; unfold likeB; rw [hq]; rfl
    go_enter Try.func52, Try.ntmps52
    go_wp2
    go_ret
    exact ⟨ret_bool HR.out.symm, HB0.out⟩

def IdxB (b : Bool) (w : World) (e : Ending) (w' : World) : Prop := ∃ r : Int, e = .returned (.int .i64 r) ∧ decide (0 ≤ r) = b ∧ Below w.heap.size w w'
set_option maxRecDepth 20000 in
set_option maxHeartbeats 1000000 in
theorem mindex_any (f : Mem → Bool) (cap : Array Value) (A : Option Addr) (n c : Nat) (ms : List Mem) (w : World) (hx : SlN fM 5 w w.heap.size A n ms) (hn : n ≤ 1000000)
    (hc : ∀ W x, Below w.heap.size w W → Calls Try.prog 52 (#[aM x] ++ cap) W (BoolB (f x) W)) (gm : Nat) (hcap : cap = #[.pointer (some ⟨gm, 0, none⟩)]) :
    Calls Try.prog 68 #[.slice A n c, .func (.func 52) #[] cap] w (IdxB (ms.any f) w) := by
  subst hcap
  have HX := Lib.hid hx
  have HC := Lib.hid hc
  have HLEN : Hid (ms.length = n) := hx.1
  have HB : Hid (Below w.heap.size w w) := Below.refl _ _
  clear hx hc
  go_enter Try.func68, Try.ntmps68
  go_wp2
  go_loopw [8] (fun i wr => ∃ k : Nat, k ≤ n ∧ i = .int .i64 k ∧ Hid ((ms.take k).any f = false) ∧ Hid (Below w.heap.size w wr)) (fun i _ => n - (intOf i).toNat)
  case atStart => exact ⟨0, Nat.zero_le _, rfl, by show _ = _; simp, HB⟩
  case round =>
    obtain ⟨k, hk, rfl, HF, HBr⟩ := hrel
    by_cases hlt : k < n
    · obtain ⟨b, off, x, rfl, hbB, hxk, hcell⟩ := (HX.out.up HBr.out (Nat.le_refl _)).at_ hlt
      obtain ⟨c0, c1, c2, c3, c4⟩ := five hcell
      have HXK := Lib.hid hxk
      obtain ⟨bx, hbx⟩ : ∃ z, f x = z := ⟨_, rfl⟩
      have HCX : Hid (Calls Try.prog 52 #[aM x, .pointer (some ⟨gm, 0, none⟩)] wr (BoolB bx wr)) := by
        have h5 := HC.out wr x HBr.out
        rw [hbx] at h5
        exact h5
      have HN : Hid ((ms.take (k + 1)).any f = bx) := by show _ = _; rw [take_snoc hxk, List.any_append, HF.out, ← hbx]; simp
      have HM : Hid (bx = true → ms.any f = true) := fun h => List.any_eq_true.2 ⟨x, List.mem_of_getElem? hxk, by rw [hbx]; exact h⟩
      clear hcell hxk hbx
      go_wp2_with fail
      refine HCX.out.mono ?_
      rintro e w1 ⟨rfl, hb⟩
      have HB2 : Hid (Below w.heap.size w w1) := HBr.out.trans (hb.mono HBr.out.size)
      clear hb
      cases bx
      · go_wp2
        go_roundw
        case rel => exact ⟨k + 1, by omega, by go_num, HN, HB2⟩
        case measure => simp [intOf]; omega
      · have HT := Lib.hid (HM.out rfl)
        go_wp2
        go_ret
        exact ⟨_, rfl, by rw [HT.out]; simp, HB2.out⟩
    · have HT : Hid (ms.any f = false) := by
        show _ = _
        have h5 := HF.out
        rw [List.take_of_length_le (by have := HLEN.out; omega)] at h5
        exact h5
      go_wp2
      go_ret
      exact ⟨_, rfl, by rw [HT.out]; rfl, HBr.out⟩

theorem mcont_any (args : Array Value) (b : Bool) (w : World) (hsz : ∃ x y, args = #[x, y])
    (hi : Calls Try.prog 68 args w (IdxB b w)) :
    Calls Try.prog 51 args w (BoolB b w) := by
  obtain ⟨x, y, rfl⟩ := hsz
  have HI := Lib.hid hi
  clear hi
  go_enter Try.func51, Try.ntmps51
  go_wp2_with fail
  refine HI.out.mono ?_
  rintro e w1 ⟨r, rfl, hr, hb⟩
  have HR := Lib.hid hr
  have HB := Lib.hid hb
  clear hr hb
  go_wp2
  go_ret
  exact ⟨ret_bool (by rw [← HR.out]), HB.out⟩

set_option maxRecDepth 20000 in
theorem taken_any (m : Mem) (A : Option Addr) (n c : Nat) (ms : List Mem) (w : World) (hx : SlN fM 5 w w.heap.size A n ms) (hn : n ≤ 1000000) :
    Calls Try.prog 22 #[.slice A n c, aM m] w (BoolB (takenB ms m) w) := by
  obtain ⟨W0, hW0⟩ : ∃ W0 : World, W0 = w.alloc (cM m) := ⟨_, rfl⟩
  have hb0 : Below w.heap.size w W0 := by rw [hW0]; exact (Below.refl _ _).alloc (Nat.le_refl _) _
  have hg0 : W0.heap[w.heap.size]? = some (cM m) := by rw [hW0]; exact heap_alloc_new w _
  have HB0 := Lib.hid hb0
  have HI : Hid (Calls Try.prog 68 #[.slice A n c, .func (.func 52) #[] #[.pointer (some ⟨w.heap.size, 0, none⟩)]] W0 (IdxB (takenB ms m) W0)) := by
    refine mindex_any (likeB m) _ A n c ms W0 ((hx.up hb0 (Nat.le_refl _)).more hb0.size) hn (fun W x h => ?_) w.heap.size rfl
    exact like_any m x w.heap.size W ((h.block _ (lt_of_block hg0)).trans hg0)
  have HCF := Lib.hid (mcont_any _ _ _ ⟨_, _, rfl⟩ HI.out)
  clear hx hb0 hg0
  go_enter Try.func22, Try.ntmps22
  go_wp2_with fail
  rw [← hW0]
  clear hW0
  refine HCF.out.mono ?_
  rintro e w1 ⟨rfl, hb⟩
  have HB := Lib.hid hb
  clear hb
  go_wp2
  go_ret
  exact ⟨rfl, HB0.out.trans (HB.out.mono HB0.out.size)⟩
end Go.Proofs.Ytkeicjokekmkpaa
