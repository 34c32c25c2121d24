/- gf256: multiplier. -/
import Derived.Test.YtpbeaghghlfiaaaA2
namespace Go.Proofs.Ytpbeaghghlfiaaa
open Go.RowKit Go.Lib
set_option linter.unusedVariables false
set_option linter.unusedSimpArgs false
theorem Try.sizeB : (Try.prog.info? 5).map (·.size) = some 1 := by kernel_rfl
theorem lt_block {w : World} {b : Nat} {o : Obj} (h : w.heap[b]? = some o) : b < w.heap.size := (Array.getElem?_eq_some_iff.1 h).1
/-- What multiplier hands back. -/
def MpP (c : Nat) (w : World) (e : Ending) (w' : World) : Prop :=
  ∃ l h, e = .returned (.func (.func 70) #[] #[.pointer (some ⟨l, 0, none⟩), .pointer (some ⟨h, 0, none⟩)]) ∧ w'.heap[l]? = some (.cells (tabM c 1 16) T16 (0, 0)) ∧ w'.heap[h]? = some (.cells (tabM c 16 16) T16 (0, 0)) ∧ Below w.heap.size w w'
theorem multiplier_any (c : Nat) (hc : c < 256) (w : World) : Calls Try.prog 63 #[fN c] w (MpP c w) := by
  have HC := Lib.hid hc
  obtain ⟨W1, hW1⟩ : ∃ W1 : World, W1 = (w.alloc (.cells (tabM c 1 0) T16)).alloc (.cells (tabM c 16 0) T16) := ⟨_, rfl⟩
  have HG1 : Hid (W1.heap[w.heap.size]? = some (.cells (tabM c 1 0) T16 (0, 0))) := by show _ = _; rw [hW1]; exact (Below.heap_alloc _ _ _ (by simp)).trans (heap_alloc_new w _)
  have HG2 : Hid (W1.heap[w.heap.size + 1]? = some (.cells (tabM c 16 0) T16 (0, 0))) := by
    have h := heap_alloc_new (w.alloc (.cells (tabM c 1 0) T16)) (.cells (tabM c 16 0) T16)
    rw [← hW1, show (w.alloc (.cells (tabM c 1 0) T16)).heap.size = w.heap.size + 1 by simp] at h
    exact h
  have HB1 : Hid (Below w.heap.size w W1) := by show Below ..; rw [hW1]; exact ((Below.refl _ _).alloc (Nat.le_refl _) _).alloc (by simp) _
  have HS1 : Hid (w.heap.size + 1 < W1.heap.size) := by show _ < _; rw [hW1]; simp
  rw [tabM_z, tabM_z] at hW1
  have HWE := Lib.hid hW1
  have hmf : ∀ (fn : Fn) (first cap : Array Value) (w : World), (Instr.makeFunc fn first cap).run Try.prog w = .ok (.func fn first cap) w := fun _ _ _ _ => rfl
  clear hc hW1
  go_enter Try.func63, Try.ntmps63
  go_upto_region 2 with fail
  rw [← HWE.out]
  go_wp2_with fail
  go_loopw [6] (fun i wr => ∃ k : Nat, k ≤ 16 ∧ i = .int .i64 k ∧ Hid (Below w.heap.size w wr) ∧ Hid (wr.heap[w.heap.size]? = some (.cells (tabM c 1 k) T16 (0, 0))) ∧ Hid (wr.heap[w.heap.size + 1]? = some (.cells (tabM c 16 k) T16 (0, 0)))) (fun i _ => 16 - (intOf i).toNat)
  case atStart => exact ⟨0, Nat.zero_le _, rfl, HB1, HG1, HG2⟩
  case round =>
    clear HB1 HG1 HG2 HS1 HWE
    obtain ⟨k, hk, rfl, HB, HG, HH⟩ := hrel
    by_cases hlt : k < 16
    · have hkI : (k : Int) < 16 := by omega
      have HM : Hid (∀ b, b < 256 → ∀ w, Calls Try.prog 15 #[fN c, fN b] w fun e w' => e = .returned (fN (mulN c b)) ∧ w = w') := fun b hb w => mul_any c b HC.out hb w
      have C1 : Hid (∀ w, Calls Try.prog 15 #[fN c, fN k] w fun e w' => e = .returned (fN (mulN c (k * 1))) ∧ w = w') := fun w => by have := HM.out k (by omega) w; rwa [Nat.mul_one]
      have C2 : Hid (∀ w, Calls Try.prog 15 #[fN c, .int .u8 ((k : Int) * 16)] w fun e w' => e = .returned (fN (mulN c (k * 16))) ∧ w = w') := fun w => by
        have := HM.out (k * 16) (by omega) w
        rwa [show fN (k * 16) = .int .u8 ((k : Int) * 16) by show Value.int _ _ = _; rw [Int.natCast_mul]; rfl] at this
      have hs1 : k < (tabM c 1 k).size := by rw [tabM_size]; exact hlt
      have hs2 : k < (tabM c 16 k).size := by rw [tabM_size]; exact hlt
      have HT1 := Lib.hid (tabM_step (c := c) (s := 1) hlt)
      have HT2 := Lib.hid (tabM_step (c := c) (s := 16) hlt)
      obtain ⟨x, hx⟩ : ∃ x, mulN c (k * 1) = x := ⟨_, rfl⟩
      obtain ⟨y, hy⟩ : ∃ y, mulN c (k * 16) = y := ⟨_, rfl⟩
      rw [hx] at C1 HT1
      rw [hy] at C2 HT2
      clear HM hx hy
      go_upto_region 6 with (first
        | (go_at_call 15; (with_reducible refine (C1.out _).mono ?_); rintro e w' ⟨rfl, rfl⟩)
        | ((with_reducible refine wpList_store_at1 rfl 5 (.tmp 14) (.tmp 13) rfl w.heap.size T16 k (tabM c 1 k) (fN x) rfl rfl HG.out hs1 Try.sizeB rfl ?_); intro W5 HG5 HB5))
      rw [HT1.out] at HG5
      have HH5 : Hid (W5.heap[w.heap.size + 1]? = some (.cells (tabM c 16 k) T16 (0, 0))) := (HB5.out.block _ (lt_block HH.out) (by omega)).trans HH.out
      go_wp2_with (first
        | (go_at_call 15; (with_reducible refine (C2.out _).mono ?_); rintro e w' ⟨rfl, rfl⟩)
        | ((with_reducible refine wpList_store_at1 rfl 5 (.tmp 21) (.tmp 20) rfl (w.heap.size + 1) T16 k (tabM c 16 k) (fN y) rfl rfl HH5.out hs2 Try.sizeB rfl ?_); intro W6 HG6 HB6))
      rw [HT2.out] at HG6
      have HBw : Hid (Below w.heap.size w W6) := HB6.out.below (HB5.out.below HB.out HB.out.size (fun i hi => by subst hi; exact Nat.le_refl _)) (Nat.le_trans HB.out.size HB5.out.size) (fun i hi => by subst hi; exact Nat.le_succ _)
      go_roundw
      case rel => exact ⟨k + 1, by omega, by go_num, HBw, (HB6.out.block _ (lt_block HG5.out) (by omega)).trans HG5.out, HG6⟩
      case measure => simp [intOf]; omega
    · obtain rfl : k = 16 := by omega
      go_wp2_with fail
      go_ret
      exact ⟨_, _, rfl, HG.out, HH.out, HB.out⟩
/-- Scale. -/
def OwP (r : List Nat) (w : World) (e : Ending) (w' : World) : Prop := ∃ v, e = .returned v ∧ Own fN T8 w' w.heap.size v r ∧ Below w.heap.size w w'
end Go.Proofs.Ytpbeaghghlfiaaa
