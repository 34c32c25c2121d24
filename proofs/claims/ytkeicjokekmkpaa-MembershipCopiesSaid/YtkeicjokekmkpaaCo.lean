/- counting and Votes. -/
import Derived.Test.YtkeicjokekmkpaaCir
namespace Go.Proofs.Ytkeicjokekmkpaa
open Go.RowKit Mb
set_option linter.unusedVariables false
set_option linter.unusedSimpArgs false

theorem int64_nat {k : Nat} (h : k ≤ 1000000) : int64 (k : Int) := by unfold int64; omega
theorem below_dN' {B : Nat} {a w : World} (h : Below B a w) (n : Nat) : Below B a (w.drewN n) := ⟨h.os, h.tape, h.output, h.size, h.block⟩
theorem MapV.drewN {w : World} {b n : Nat} {F : Int → Int → Bool} (h : MapV w b n F) (a : Nat) : MapV (w.drewN a) b n F := h.block rfl
set_option maxRecDepth 20000 in
set_option maxHeartbeats 2000000 in
theorem cnt1_any (x y g : Nat) (lab : Nat → Nat) (S : Cst) (d : Int) (k : Nat) (w : World) (hC : Cir w lab g S) (hx : w.cell? ⟨x, 0, none⟩ = some (fG g)) (hy : w.cell? ⟨y, 0, none⟩ = some (.int .i64 d)) (hk : k < S.s.ms.length) (hd : int64 d) (hn : S.s.ms.length ≤ 1000) :
    Calls Try.prog 65 #[.int .i64 (k : Int), fG x, fG y] w (BoolB (actB S.s k && votedB S.s k d) w) := by
  obtain ⟨A, c, hcm, hsm, _⟩ := hC.mem
  obtain ⟨bm, hcb, hmp⟩ := hC.votes
  obtain ⟨m, hm⟩ := get_ex hk
  have HA : Hid (actB S.s k = !m.exp) := by show _ = _; unfold actB; rw [hm]
  have HQ : Hid (∀ a, (w.drewN a).cell? ⟨g, 0, none⟩ = some (.slice A S.s.ms.length c)) := fun a => hcm
  have HS : Hid (∀ a, SlN fM 5 (w.drewN a) w.heap.size A S.s.ms.length S.s.ms) := fun a => hsm
  have HM := Lib.hid hm
  have hl : ∀ a, (Instr.lookup 67 (.map (some bm)) (.agg #[.int .i64 (k : Int), .int .i64 d]) false).run Try.prog (w.drewN a) = .ok (.bool (votedB S.s k d)) (w.drewN a) := fun a => (hmp.drewN a).look k d (int64_nat (by omega)) hd
  obtain ⟨v, hv⟩ : ∃ z, votedB S.s k d = z := ⟨_, rfl⟩
  simp only [hv] at hl
  have HV := Lib.hid hv
  obtain ⟨ex, hex⟩ : ∃ z, m.exp = z := ⟨_, rfl⟩
  have hA : ∀ a, Calls Try.prog 34 #[fG g, .int .i64 k] (w.drewN a) fun e w' => e = .returned (.bool (!ex)) ∧ (w.drewN a) = w' := fun a => hex ▸ active_any g A _ c k S.s.ms m _ _ (HQ.out a) (HS.out a) (by omega) hm
  have HAC := Lib.hid hA
  have HEX := Lib.hid hex
  have HB : Hid (Below w.heap.size w w) := Below.refl _ _
  clear hm hsm hmp hC hv hex hA
  cases ex
  · simp only [Bool.not_false] at HAC
    go_enter Try.func65, Try.ntmps65
    go_wp2
    go_quiet ((go_at_call 34; with_reducible exact Calls.quiet_of_same (same_of (HAC.out _))))
    go_wp2
    go_ret
    exact ⟨ret_bool (by rw [HA.out, HEX.out, HV.out]; first | rfl | simp), by first | exact HB.out | exact below_dN' HB.out _⟩
  · simp only [Bool.not_true] at HAC
    go_enter Try.func65, Try.ntmps65
    go_wp2
    go_quiet ((go_at_call 34; with_reducible exact Calls.quiet_of_same (same_of (HAC.out _))))
    go_wp2
    go_ret
    exact ⟨ret_bool (by rw [HA.out, HEX.out]; first | rfl | simp), by first | exact HB.out | exact below_dN' HB.out _⟩

/-- counting. -/
theorem counting_any (g : Nat) (lab : Nat → Nat) (S : Cst) (d : Int) (w : World) (hC : Cir w lab g S) (hd : int64 d) (hn : S.s.ms.length ≤ 1000) :
    Calls Try.prog 48 #[fG g, .int .i64 d] w (OwnI (counting S.s d) w) := by
  obtain ⟨W, hW⟩ : ∃ W : World, W = (w.alloc (.cells #[fG g] 37)).alloc (.cells #[.int .i64 d] 3) := ⟨_, rfl⟩
  have hB : Below w.heap.size w W := by rw [hW]; exact ((Below.refl _ _).alloc (Nat.le_refl _) _).alloc (by simp) _
  have hsz : W.heap.size = w.heap.size + 2 := by rw [hW]; simp
  have h0 : W.heap[w.heap.size]? = some (.cells #[fG g] 37 (0, 0)) := by rw [hW]; exact (Below.heap_alloc _ _ _ (by simp)).trans (heap_alloc_new w _)
  have h1 : W.heap[w.heap.size + 1]? = some (.cells #[.int .i64 d] 3 (0, 0)) := by rw [hW]; exact heap_new_at (w := w.alloc _) (by simp)
  have hCW := hC.on hB
  obtain ⟨A, c, hcm, _, _⟩ := hCW.mem
  have HD := Lib.hid (devices_count g A S.s.ms.length c w.heap.size (w.heap.size + 1) (fun k => actB S.s k && votedB S.s k d) W hcm hn (fun V k h hk =>
    cnt1_any w.heap.size (w.heap.size + 1) g lab S d k V (hCW.on h) ((h.cell (p := ⟨w.heap.size, 0, none⟩) (by show w.heap.size < _; omega)).trans (by rw [cell_of_row W _ _ _ _ _ h0]; rfl)) ((h.cell (p := ⟨w.heap.size + 1, 0, none⟩) (by show w.heap.size + 1 < _; omega)).trans (by rw [cell_of_row W _ _ _ _ _ h1]; rfl)) hk hd hn))
  have HB := Lib.hid hB
  have HSZ := Lib.hid hsz
  have hc0 : W.cell? ⟨w.heap.size, 0, none⟩ = some (fG g) := by rw [cell_of_row W _ _ _ _ _ h0]; rfl
  clear hC hCW hcm h0 h1 hB hsz
  go_enter Try.func48, Try.ntmps48
  go_wp2_with fail
  rw [← hW]
  refine HD.out.mono ?_
  rintro e w1 ⟨v, rfl, ho, hb⟩
  have HO : Hid (Own I 3 w1 w.heap.size v (counting S.s d)) := World.ownsRow.mono ho HB.out.size
  have HB1 : Hid (Below w.heap.size w w1) := HB.out.trans (hb.mono HB.out.size)
  clear ho hb hW hc0
  go_wp2
  go_ret
  exact ⟨v, rfl, HO.out, HB1.out⟩
/-- A row of ints and an error. -/
def OwnI2 (xs : List Int) (r : Int) (w : World) (e : Ending) (w' : World) : Prop := ∃ v, e = .returned (.tuple #[v, .int .i64 r]) ∧ Own I 3 w' w.heap.size v xs ∧ Below w.heap.size w w'
theorem has_cir (g : Nat) (lab : Nat → Nat) (S : Cst) (d : Int) (w : World) (hC : Cir w lab g S) (hn : S.s.ms.length ≤ 1000) :
    Calls Try.prog 47 #[fG g, .int .i64 d] w fun e w' => e = .returned (.bool (hasB S.s d)) ∧ w = w' := by
  obtain ⟨A, c, hcm, _, _⟩ := hC.mem
  exact has_any g A _ c d w hcm (by omega)
theorem act_cir (g : Nat) (lab : Nat → Nat) (S : Cst) (d : Int) (w : World) (hC : Cir w lab g S) (hn : S.s.ms.length ≤ 1000) (hd : hasB S.s d = true) :
    Calls Try.prog 34 #[fG g, .int .i64 d] w fun e w' => e = .returned (.bool (actB S.s d.toNat)) ∧ w = w' := by
  obtain ⟨A, c, hcm, hs, _⟩ := hC.mem
  have h5 : 0 ≤ d ∧ d < S.s.ms.length := by unfold hasB at hd; simpa using hd
  obtain ⟨m, hm⟩ := get_ex (xs := S.s.ms) (k := d.toNat) (by omega)
  have e : actB S.s d.toNat = !m.exp := by unfold actB; rw [hm]
  have e2 : ((d.toNat : Nat) : Int) = d := by omega
  rw [e]
  have h6 := active_any g A _ c d.toNat S.s.ms m w _ hcm hs (by omega) hm
  rw [e2] at h6
  exact h6
end Go.Proofs.Ytkeicjokekmkpaa
