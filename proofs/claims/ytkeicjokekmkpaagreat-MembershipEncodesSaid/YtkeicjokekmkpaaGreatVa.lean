/- Vault. -/
import Derived.Test.YtkeicjokekmkpaaGreatMg
namespace Go.Proofs.YtkeicjokekmkpaaGreat
open Go.RowKit Mb
set_option linter.unusedVariables false
set_option linter.unusedSimpArgs false

def VltN (w : World) (e : Ending) (w' : World) : Prop := e = .returned (.tuple #[aV zV none 0 0, .int .i64 4]) ∧ Below w.heap.size w w'
def VltP (x : Vlt) (w : World) (e : Ending) (w' : World) : Prop := ∃ A n c, e = .returned (.tuple #[aV x A n c, .int .i64 0]) ∧ Own I 3 w' w.heap.size (.slice A n c) x.ws ∧ Below w.heap.size w w'
set_option maxRecDepth 20000 in
set_option maxHeartbeats 2000000 in
theorem vault_no (g : Nat) (lab : Nat → Nat) (S : Cst) (v : Int) (w : World) (hC : Cir w lab g S) (hn : S.s.vs.length ≤ 1000) (hv : vltOf S.s v = none) :
    Calls Tryz.prog 51 #[fG g, .int .i64 v] w (VltN w) := by
  obtain ⟨W, hW⟩ : ∃ W : World, W = w.alloc (.cells #[.int .i64 0, .slice none 0 0, .int .i64 0, .int .i64 0, .int .i64 0, .string ⟨#[]⟩, .int .i64 0, .int .i64 0, .int .i64 0, .int .i64 0, .int .u64 0, .int .i64 0, .int .i64 0, .int .i64 0, .int .i64 0] 68) := ⟨_, rfl⟩
  have hB : Below w.heap.size w W := by rw [hW]; exact (Below.refl _ _).alloc (Nat.le_refl _) _
  have HB := Lib.hid hB
  have HW := Lib.hid hW
  have HG : Hid (W.heap[w.heap.size]? = some (oV zV none 0 0)) := by show _ = _; rw [hW]; exact heap_alloc_new w _
  obtain ⟨A, c, ps, hcv, hvi, hps, hpn⟩ := (hC.on hB).vlt
  by_cases h0 : v < 0
  · clear hC hv hB hW hvi hps hpn
    go_enter Tryz.func51, Tryz.ntmps51
    go_wp2_with (first
      | ((refine wpList_store_new (o := ⟨none, .store 68 (.tmp 4) (.tmp 17), _, _, _, _⟩) rfl 68 (.tmp 4) (.tmp 17) rfl 68 _ (cV zV none 0 0) rfl rfl Tryz.sizeV rfl (cV_one _ _ _ _) ?_)))
    exact bodyPost_ret (ret_cell_tmpS (cs := cV zV none 0 0) rfl rfl (heap_alloc_new w _) Tryz.underlying68 rfl Tryz.sizeV) rfl ⟨rfl, (Below.refl _ _).alloc (Nat.le_refl _) _⟩
  · have h1 : (S.s.vs.length : Int) ≤ v := by
      unfold vltOf at hv
      rw [if_pos (by omega)] at hv
      have := List.getElem?_eq_none_iff.1 hv
      omega
    have e0 : decide (v < 0) = false := by simp; omega
    have e1 : decide ((S.s.vs.length : Int) ≤ v) = true := by simp; omega
    rw [hW] at hcv
    clear hC hv hB hW hvi hps hpn
    go_enter Tryz.func51, Tryz.ntmps51
    go_wp2_with (first
      | ((refine wpList_store_new (o := ⟨none, .store 68 (.tmp 4) (.tmp 17), _, _, _, _⟩) rfl 68 (.tmp 4) (.tmp 17) rfl 68 _ (cV zV none 0 0) rfl rfl Tryz.sizeV rfl (cV_one _ _ _ _) ?_)))
    exact bodyPost_ret (ret_cell_tmpS (cs := cV zV none 0 0) rfl rfl (heap_alloc_new w _) Tryz.underlying68 rfl Tryz.sizeV) rfl ⟨rfl, (Below.refl _ _).alloc (Nat.le_refl _) _⟩
set_option maxRecDepth 20000 in
set_option maxHeartbeats 4000000 in
theorem vault_yes (g : Nat) (lab : Nat → Nat) (S : Cst) (v : Int) (x : Vlt) (w : World) (hC : Cir w lab g S) (hn : S.s.vs.length ≤ 1000) (hv : vltOf S.s v = some x) (hws : x.ws.length ≤ 1000) :
    Calls Tryz.prog 51 #[fG g, .int .i64 v] w (VltP x w) := by
  obtain ⟨W, hW⟩ : ∃ W : World, W = w.alloc (.cells #[.int .i64 0, .slice none 0 0, .int .i64 0, .int .i64 0, .int .i64 0, .string ⟨#[]⟩, .int .i64 0, .int .i64 0, .int .i64 0, .int .i64 0, .int .u64 0, .int .i64 0, .int .i64 0, .int .i64 0, .int .i64 0] 68) := ⟨_, rfl⟩
  have hB : Below w.heap.size w W := by rw [hW]; exact (Below.refl _ _).alloc (Nat.le_refl _) _
  have HB := Lib.hid hB
  have HW := Lib.hid hW
  have HG : Hid (W.heap[w.heap.size]? = some (oV zV none 0 0)) := by show _ = _; rw [hW]; exact heap_alloc_new w _
  have HWS : Hid (W.heap.size = w.heap.size + 1) := by show _ = _; rw [hW]; simp
  obtain ⟨A, c, ps, hcv, hvi, hps, hpn⟩ := (hC.on hB).vlt
  obtain ⟨hg, hv0, hv1⟩ := vltOf_get hv
  obtain ⟨k, rfl⟩ : ∃ k : Nat, v = k := ⟨v.toNat, by omega⟩
  rw [show ((k : Int)).toNat = k by omega] at hg
  have hk : k < S.s.vs.length := by omega
  obtain ⟨b, off, p, rfl, hbB, hpk, hcell⟩ := hvi.1.at_ hk
  have hpx : p.1 = x := by
    rw [← hps, List.getElem?_map, hpk] at hg
    exact Option.some.inj hg
  subst hpx
  have hpm := List.mem_of_getElem? hpk
  have hsw := hvi.2 p hpm
  have hpl := hpn p hpm
  obtain ⟨c0, c1, c2, c3, c4, c5, c6, c7, c8, c9, c10, c11, c12, c13, c14⟩ := fifteen hcell
  obtain ⟨vk, A0, n0, cc0⟩ := p
  simp only at hsw hpl hws c0 c1 c2 c3 c4 c5 c6 c7 c8 c9 c10 c11 c12 c13 c14 ⊢
  have HC := Lib.hid (copyV_any vk A0 n0 cc0 W hsw (by omega))
  rw [hW] at hcv c0 c1 c2 c3 c4 c5 c6 c7 c8 c9 c10 c11 c12 c13 c14
  clear hcell hpk hg hps hpm hsw hpl hpn hvi hC hv hB hW
  go_enter Tryz.func51, Tryz.ntmps51
  go_wp2_with (first
    | (go_at_call 86; rw [← HW.out]; (refine HC.out.mono ?_); rintro e w6 ⟨A1, n1, cc1, rfl, ho, hb⟩; (have HO6 := Lib.hid ho); (have HB6 : Hid (Below w.heap.size w w6) := HB.out.trans (hb.mono HB.out.size)); (have HG6 : Hid (w6.heap[w.heap.size]? = some (oV zV none 0 0)) := (hb.block _ (by rw [HWS.out]; omega)).trans HG.out); clear ho hb)
    | ((refine wpList_store_far (o := ⟨none, .store 68 (.tmp 4) (.tmp 25), _, _, _, _⟩) rfl 68 (.tmp 4) (.tmp 25) rfl w.heap.size 68 _ (cV vk A1 n1 cc1) rfl rfl HG6.out Tryz.sizeV rfl (cV_one _ _ _ _) w.heap.size w HB6.out (Nat.le_refl _) ?_); intro w3 HG3 hb3 HB3))
  refine bodyPost_ret (ret_cell_tmpS (cs := cV vk A1 n1 cc1) rfl rfl HG3.out Tryz.underlying68 rfl Tryz.sizeV) rfl ⟨A1, n1, cc1, rfl, ?_, hb3⟩
  refine Own.kept (f := I) (World.ownsRow.mono HO6.out (by rw [HWS.out]; omega)) HB3.out ?_
  rcases hk : (Value.slice A1 n1 cc1).ownBlock with _ | j
  · exact .inl rfl
  · refine .inr (fun e => ?_)
    have h7 := (World.ownsRow.lt HO6.out j hk).1
    have := HWS.out
    injection e with e
    omega
end Go.Proofs.YtkeicjokekmkpaaGreat
