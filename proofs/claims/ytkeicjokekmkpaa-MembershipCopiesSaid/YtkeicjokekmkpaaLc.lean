/- The law Copies. -/
import Derived.Test.YtkeicjokekmkpaaLk
namespace Go.Proofs.Ytkeicjokekmkpaa
open Go.RowKit Mb
set_option linter.unusedVariables false
set_option linter.unusedSimpArgs false

/-- Blocks without a role may turn. -/
theorem Cir.free {w w' : World} {lab : Nat → Nat} {gc : Nat} {S : Cst} (h : Cir w lab gc S) (hb : But (fun k => lab k = 0) w w') : Cir w' lab gc S := by
  obtain ⟨vm, vv, bm, vfm, vfv, vc, ps1, ps2, h⟩ := h
  exact ⟨vm, vv, bm, vfm, vfv, vc, ps1, ps2, h.same (fun k hk => hb.block k (h.lt hk) hk) hb.size⟩
/-- A block of so many cells that may be written. -/
def Blk (w : World) (g sz : Nat) (t : TypeId) : Prop := ∃ cs : Array Value, cs.size = sz ∧ w.heap[g]? = some (.cells cs t (0, 0))
theorem Blk.cell {w : World} {g sz : Nat} {t : TypeId} (h : Blk w g sz t) {j : Nat} (hj : j < sz) : ∃ v, w.cell? ⟨g, j, none⟩ = some v := by
  obtain ⟨cs, h1, h2⟩ := h
  exact ⟨cs[j]'(by omega), by rw [cell_of_row w g _ _ _ _ h2, Array.getElem?_eq_getElem (by omega)]⟩
theorem Blk.froz {w : World} {g sz : Nat} {t : TypeId} (h : Blk w g sz t) (j : Nat) : w.frozen? ⟨g, j, none⟩ = false := by
  obtain ⟨cs, h1, h2⟩ := h
  exact frozen_of_row w g j _ _ h2
theorem Blk.on {w w' : World} {g sz : Nat} {t : TypeId} (h : Blk w g sz t) (hb : Below w.heap.size w w') : Blk w' g sz t := by
  obtain ⟨cs, h1, h2⟩ := h
  exact ⟨cs, h1, (hb.block g (lt_of_block h2)).trans h2⟩
theorem Blk.set {w : World} {g sz : Nat} {t : TypeId} (h : Blk w g sz t) (a : Addr) (ha : a.spot = none) (u : Value) : Blk (w.setCell a u) g sz t := by
  obtain ⟨cs, h1, h2⟩ := h
  obtain ⟨b, o, sp⟩ := a
  simp only at ha
  subst ha
  by_cases hb : g = b
  · subst hb
    exact ⟨cs.setIfInBounds o u, by simp [h1], heap_setCell_same w g o _ _ u h2⟩
  · exact ⟨cs, h1, (heap_setCell_other w _ _ _ hb).trans h2⟩
theorem Own.blk {α : Type} {f : α → Value} {e : TypeId} {w : World} {base : Nat} {v : Value} {xs : List α} (h : Own f e w base v xs) (h0 : 0 < xs.length) : ∃ g c sz, v = .slice (some ⟨g, 0, none⟩) xs.length c ∧ base ≤ g ∧ Blk w g sz e ∧ xs.length ≤ sz := by
  rcases h.2 with ⟨rfl, hn⟩ | ⟨g, cap, cur, rfl, hbg, hg, hc, hm, hs, _⟩
  · omega
  · exact ⟨g, cap, _, rfl, hbg, ⟨cur, rfl, hg⟩, by omega⟩
theorem OwnN.blk {α : Type} {f : α → List Value} {s : Nat} {e : TypeId} {w : World} {base : Nat} {v : Value} {xs : List α} (h : OwnN f s e w base v xs) (h0 : 0 < xs.length) : ∃ g c sz, v = .slice (some ⟨g, 0, none⟩) xs.length c ∧ base ≤ g ∧ Blk w g sz e ∧ xs.length * s ≤ sz := by
  rcases h.2 with ⟨rfl, hn⟩ | ⟨g, cap, cur, rfl, hbg, hg, hc, hm, hs, _⟩
  · omega
  · exact ⟨g, cap, _, rfl, hbg, ⟨cur, rfl, hg⟩, by rw [hs]; exact Nat.mul_le_mul_right _ hc⟩
/-- Each vault's writers lie in a block that may be written. -/
def WB (w : World) (lab : Nat → Nat) (B : Nat) (v : Value) (qs : List VP) : Prop := ∀ p ∈ qs, ∃ gb sz, p.2.a = some ⟨gb, 0, none⟩ ∧ Blk w gb sz 3 ∧ 0 < sz ∧ lab gb = 0 ∧ B ≤ gb ∧ v.ownBlock ≠ some gb
theorem WB.on {w w' : World} {lab : Nat → Nat} {B : Nat} {v : Value} {qs : List VP} (h : WB w lab B v qs) (hb : Below w.heap.size w w') : WB w' lab B v qs := fun p hp => by
  obtain ⟨gb, sz, h1, h2, h3⟩ := h p hp
  exact ⟨gb, sz, h1, h2.on hb, h3⟩
theorem WB.set {w : World} {lab : Nat → Nat} {B : Nat} {v : Value} {qs : List VP} (h : WB w lab B v qs) (a : Addr) (ha : a.spot = none) (u : Value) : WB (w.setCell a u) lab B v qs := fun p hp => by
  obtain ⟨gb, sz, h1, h2, h3⟩ := h p hp
  exact ⟨gb, sz, h1, h2.set a ha u, h3⟩
theorem VRow.wb {w : World} {lab : Nat → Nat} {B base : Nat} {v : Value} {qs : List VP} (h : VRow w base v qs) (hw : ∀ p ∈ qs, 1 ≤ p.1.ws.length) (hl : ∀ k, base ≤ k → k < w.heap.size → lab k = 0) (hB : B ≤ base) : WB w lab B v qs := fun p hp => by
  obtain ⟨gb, c, sz, hv, hb, hk, hs⟩ := (h.ws p hp).blk (hw p hp)
  have hlt := lt_of_block hk.choose_spec.2
  refine ⟨gb, sz, ?_, hk, by have := hw p hp; omega, hl gb hb hlt, by omega, fun e => ?_⟩
  · unfold fS at hv; injection hv
  · rcases h.far p hp with h1 | h1
    · rw [hv] at h1; simp [Value.ownBlock] at h1
    · rw [hv] at h1; exact h1 (by rw [e]; rfl)
theorem Cir.set {w : World} {lab : Nat → Nat} {gc : Nat} {S : Cst} (h : Cir w lab gc S) (a : Addr) (ha : lab a.block = 0) (u : Value) : Cir (w.setCell a u) lab gc S :=
  h.free (But.setCell (p := fun k => lab k = 0) (But.refl _ _) (.inl ha) u)
theorem OwnN.set_far {α : Type} {f : α → List Value} {s : Nat} {e : TypeId} {w : World} {base : Nat} {v : Value} {xs : List α} (h : OwnN f s e w base v xs) (a : Addr) (ha : v.ownBlock ≠ some a.block) (u : Value) : OwnN f s e (w.setCell a u) base v xs :=
  h.same fun k hk => heap_setCell_other _ _ _ _ (fun e => ha (by rw [hk, e]))
theorem Try.infoIc : (Try.prog.info? 3).map (fun i => (i.zero, i.size, i.bytes)) = some (some (.int .i64 0), 1, 8) := by kernel_rfl
theorem Try.sizeVc : (Try.prog.info? 36).map (·.size) = some 15 := by kernel_rfl
set_option maxRecDepth 20000 in
set_option maxHeartbeats 8000000 in
theorem lawCopies_any (A : Option Addr) (n c : Nat) (A' : Option Addr) (n' c' : Nat) (q : Int) (A'' : Option Addr) (n'' c'' : Nat) (ms : List Mem) (ps : List VP) (xs : List Chn) (w : World) (hx : InSet w A n c A' n' c' A'' n'' c'' ms ps xs) (hwz : ∀ p ∈ ps, p.2.n * 8 ≤ 140737488355328) :
    Calls Try.prog 3 #[aSet A n c A' n' c' q A'' n'' c''] w (BoolB true w) := by
  obtain ⟨W, hW⟩ : ∃ W : World, W = w.alloc (oSet A n c A' n' c' q A'' n'' c'') := ⟨_, rfl⟩
  have hB : Below w.heap.size w W := by rw [hW]; exact (Below.refl _ _).alloc (Nat.le_refl _) _
  have hG : W.heap[w.heap.size]? = some (oSet A n c A' n' c' q A'' n'' c'') := by rw [hW]; exact heap_alloc_new w _
  have HX := Lib.hid (hx.on hB)
  have HWZ := Lib.hid hwz
  have HB := Lib.hid hB
  have HG := Lib.hid hG
  have HW := Lib.hid hW
  have HGL := Lib.hid (lt_of_block hG)
  obtain ⟨i0, hi, hz0, hz1, hz2⟩ := info_parts Try.infoIc
  have HI := Lib.hid hi
  have HZ0 := Lib.hid hz0
  have HZ1 := Lib.hid hz1
  have HZ2 := Lib.hid hz2
  obtain ⟨j0, hj, hy0, hy1, hy2⟩ := info_parts Try.infoV
  have HJ := Lib.hid hj
  have HY0 := Lib.hid hy0
  have HY1 := Lib.hid hy1
  have HY2 := Lib.hid hy2
  obtain ⟨m0, hm, hx0, hx1, hx2⟩ := info_parts Try.infoM
  have HM := Lib.hid hm
  have HM0 := Lib.hid hx0
  have HM1 := Lib.hid hx1
  have HM2 := Lib.hid hx2
  clear hx hwz hB hG hW hi hz0 hz1 hz2 hj hy0 hy1 hy2 hm hx0 hx1 hx2
  go_enter Try.func3, Try.ntmps3
  go_wp2_with fail
  refine (show Calls Try.prog 6 _ _ (BoolB true W) from HW.out ▸ awake_any W).mono ?_
  rintro e w1 ⟨rfl, hb⟩
  have HB1 : Hid (Below W.heap.size W w1) := hb
  obtain ⟨s0, s1, s2, s3⟩ := four_of ((hb.block _ HGL.out).trans HG.out)
  clear hb
  go_wp2_with fail
  refine (small_any A n c A' n' c' q A'' n'' c'' w1).mono ?_
  rintro e w2 ⟨rfl, hb⟩
  have HB2 : Hid (Below W.heap.size W w2) := HB1.out.trans (hb.mono HB1.out.size)
  clear hb s0 s1 s2 s3
  obtain ⟨sm, hsm⟩ : ∃ z, smallB n n' n'' = z := ⟨_, rfl⟩
  rw [hsm]
  cases sm
  · clear hsm
    go_wp2_with fail
    go_ret
    exact ⟨rfl, HB.out.trans (HB2.out.mono HB.out.size)⟩
  have hn : n ≤ 14 ∧ n' ≤ 14 ∧ n'' ≤ 40 := by unfold smallB at hsm; simpa using hsm
  obtain ⟨hn1, hn2, hn3⟩ := hn
  clear hsm
  have HX2 := Lib.hid (HX.out.on HB2.out)
  have hsWW : W.heap.size ≤ w2.heap.size := HB2.out.size
  have HL0 : Hid (OwnN fP 15 36 (w2.alloc (.cells #[] 36)) w2.heap.size (.slice (some ⟨w2.heap.size, 0, none⟩) 0 0) []) := World.ownsRow_lit w2 #[] 0 (Nat.le_refl _) (by unfold maxLen; omega) rfl
  have HV0 : Hid (VRow (w2.alloc (.cells #[] 36)) w2.heap.size (.slice (some ⟨w2.heap.size, 0, none⟩) 0 0) []) := ⟨HL0.out, by simp, by simp, List.Pairwise.nil⟩
  have HA0 : Hid (Below w2.heap.size w2 (w2.alloc (.cells #[] 36))) := (Below.refl _ _).alloc (Nat.le_refl _) _
  clear HL0
  go_wp2_with fail
  go_loopw [3, 4] (fun v i wr => ∃ (k : Nat) (qs : List VP), k ≤ n' ∧ i = .int .i64 k ∧ Hid (VRow wr w2.heap.size v qs) ∧ Hid (qs.map Prod.fst = (ps.take k).map Prod.fst) ∧ Hid (∀ p ∈ qs, p.2.n = p.1.ws.length) ∧ Hid (Below w2.heap.size w2 wr)) (fun _ i _ => n' - (intOf i).toNat)
  case atStart => exact ⟨0, [], Nat.zero_le _, rfl, HV0, by show _ = _; simp, fun p hp => (by cases hp), HA0⟩
  case round =>
    obtain ⟨k, qs, hk, rfl, HV, HQ, HQN, HBk⟩ := hrel
    have HBW : Hid (Below W.heap.size W wr) := HB2.out.trans (HBk.out.mono HB2.out.size)
    obtain ⟨s0, s1, s2, s3⟩ := four_of ((HBW.out.block _ HGL.out).trans HG.out)
    by_cases hlt : k < n'
    · -- PART L1
      have hin := HX2.out.on HBk.out
      obtain ⟨b, off, x, hA', hbB, hxk, hcell⟩ := hin.fvs.at_ hlt
      subst hA'
      have hxm := List.mem_of_getElem? hxk
      have hvk := hin.vk x hxm
      have HTK : Hid ((ps.take (k + 1)).map Prod.fst = (ps.take k).map Prod.fst ++ [x.1]) := by show _ = _; rw [take_snoc hxk, List.map_append]; rfl
      obtain ⟨c0, c1, c2, c3, c4, c5, c6, c7, c8, c9, c10, c11, c12, c13, c14⟩ := vlt15 hcell
      obtain ⟨vk, A0, n0, cc0⟩ := x
      simp only at hvk HTK c0 c1 c2 c3 c4 c5 c6 c7 c8 c9 c10 c11 c12 c13 c14
      have hwl : vk.ws.length = n0 := hvk.1.1
      have hql : qs.length = k := by
        have h5 := congrArg List.length HQ.out
        rw [List.length_map, List.length_map, List.length_take] at h5
        have h6 := hin.fvs.1
        omega
      have HK1 : Hid ((qs.length + 1) * 144 ≤ 140737488355328) := by show _ ≤ _; omega
      have HK2 : Hid (qs.length + 1 ≤ maxLen) := by show _ ≤ _; unfold maxLen; omega
      have hwz := HWZ.out _ hxm
      simp only at hwz
      have HL1 : Hid ((([] : List Int).length + vk.ws.length) * 8 ≤ 140737488355328) := by show _ ≤ _; rw [hwl]; simp; omega
      have HL2 : Hid (([] : List Int).length + vk.ws.length ≤ maxLen) := by show _ ≤ _; rw [hwl]; unfold maxLen; simp; omega
      obtain ⟨w4, hw4⟩ : ∃ V : World, V = wr.alloc (oV vk A0 n0 cc0) := ⟨_, rfl⟩
      have hs4 : w4.heap.size = wr.heap.size + 1 := by rw [hw4]; simp
      have hb4 : Below wr.heap.size wr w4 := by rw [hw4]; exact (Below.refl _ _).alloc (Nat.le_refl _) _
      have hg4 : w4.heap[wr.heap.size]? = some (oV vk A0 n0 cc0) := by rw [hw4]; exact heap_alloc_new wr _
      have ho5 : Own I 3 (w4.alloc (.cells #[] 3)) w4.heap.size (.slice (some ⟨w4.heap.size, 0, none⟩) 0 0) [] := World.ownsRow_lit w4 #[] 0 (Nat.le_refl _) (by unfold maxLen; omega) rfl
      rw [hs4] at ho5
      have HO5 : Hid (Own I 3 (w4.alloc (.cells #[] 3)) (wr.heap.size + 1) (.slice (some ⟨wr.heap.size + 1, 0, none⟩) 0 0) []) := ho5
      have hb5 : Below wr.heap.size wr (w4.alloc (.cells #[] 3)) := hb4.alloc hb4.size _
      have HB5 := Lib.hid hb5
      have HG5 : Hid ((w4.alloc (.cells #[] 3)).heap[wr.heap.size]? = some (oV vk A0 n0 cc0)) := by show _ = _; rw [Below.heap_alloc _ _ _ (by omega)]; exact hg4
      have HSW : Hid (Sl I (w4.alloc (.cells #[] 3)) wr.heap.size A0 n0 vk.ws) := hvk.1.up hb5 (Nat.le_refl _)
      have HS5 : Hid (wr.heap.size + 1 ≤ (w4.alloc (.cells #[] 3)).heap.size) := by show _ ≤ _; simp; omega
      rw [hw4] at HO5 HG5 HSW HS5 HB5
      clear hin hxk hxm hcell hvk hw4 hs4 hb4 hg4 ho5 hb5 hwz
      have HAPP : Hid (∀ v7 w7, Own I 3 w7 (wr.heap.size + 1) v7 ([] ++ vk.ws) → ((wr.alloc (oV vk A0 n0 cc0)).alloc (.cells #[] 3)).grownBy w7 (Value.slice (some ⟨wr.heap.size + 1, 0, none⟩) 0 0).ownBlock → ∃ A7 c7, v7 = .slice A7 n0 c7 ∧ w7.cell? ⟨wr.heap.size, 1, none⟩ = some (.slice A0 n0 cc0) ∧ w7.frozen? ⟨wr.heap.size, 1, none⟩ = false ∧
          Hid (Own I 3 (w7.setCell ⟨wr.heap.size, 1, none⟩ (.slice A7 n0 c7)) (wr.heap.size + 1) (.slice A7 n0 c7) vk.ws) ∧ Hid ((w7.setCell ⟨wr.heap.size, 1, none⟩ (.slice A7 n0 c7)).heap[wr.heap.size]? = some (oV vk A7 n0 c7)) ∧ Hid (Below wr.heap.size wr (w7.setCell ⟨wr.heap.size, 1, none⟩ (.slice A7 n0 c7)))) := by
        intro v7 w7 ho hg
        rw [List.nil_append] at ho
        obtain ⟨A7, c7, hv, _, _, hb7⟩ := ho.shape
        rw [hwl] at hv
        subst hv
        have hrow : w7.heap[wr.heap.size]? = some (oV vk A0 n0 cc0) := (hg.block _ (lt_of_block HG5.out) (fun e => by simp [Value.ownBlock] at e)).trans HG5.out
        have hbl : Below wr.heap.size wr w7 := HB5.out.grown hg HB5.out.size (fun k hk => by simp [Value.ownBlock] at hk; omega)
        refine ⟨A7, c7, rfl, by rw [cell_of_row w7 _ _ _ _ _ hrow]; rfl, frozen_of_row w7 _ _ _ _ hrow, ?_, heap_setCell_same w7 wr.heap.size 1 _ _ (.slice A7 n0 c7) hrow, hbl.setCell (Nat.le_refl _) _⟩
        exact ho.same fun k hk => heap_setCell_other _ _ _ _ (by have := hb7 k hk; show k ≠ wr.heap.size; omega)
      have HVW : Hid (∀ V, Below wr.heap.size wr V → VRow V w2.heap.size u3 qs) := fun V h => HV.out.on h
      go_wp2_with (first
        | (at_builtin; (refine wpList_app (o := ⟨some 38, _, _, _, _, _⟩) rfl (.tmp 35) (.tmp 37) 29 rfl 3 i0 (.int .i64 0) 8 Try.underlying29 HI.out HZ0.out HZ1.out HZ2.out rfl (.slice (some ⟨wr.heap.size + 1, 0, none⟩) 0 0) [] (wr.heap.size + 1) (by rfl) HO5.out A0 n0 cc0 wr.heap.size vk.ws (by rfl) HSW.out I1 HL1.out HL2.out HS5.out ?_); intro v7 w7 HO7 HG7 HV7; obtain ⟨A7, c7, hv7, hcc7, hff7, HO8, HG8, HB8⟩ := HAPP.out v7 w7 HO7.out HG7.out; subst hv7; have HV8 := Lib.hid (HVW.out _ HB8.out))
        | (refine wpList_load_row (o := ⟨some 41, _, _, _, _, _⟩) rfl 36 (.tmp 5) rfl wr.heap.size rfl 36 (cV vk A7 n0 c7) (0, 0) _ HG8.out Try.underlying36 rfl Try.sizeVc ?_)
        | (at_builtin; (refine wpList_appN1 fP_len (by omega) (o := ⟨some 43, _, _, _, _, _⟩) rfl (.tmp 40) (.tmp 42) 23 rfl 36 j0 _ 144 Try.underlying23 HJ.out HY0.out HY1.out HY2.out Try.zsV _ qs w2.heap.size (by rfl) HV8.out.row (vk, ⟨A7, n0, c7⟩) 1 (by first | rfl | (simp [Act.eval, World.setCell])) fP_one HK1.out HK2.out (Nat.le_trans HBk.out.size HB8.out.size) ?_); intro v9 w9 HO9 HG9 HV9))
      have HV10 : Hid (VRow w9 w2.heap.size v9 (qs ++ [(vk, ⟨A7, n0, c7⟩)])) := VRow.snoc (y := (vk, ⟨A7, n0, c7⟩)) HV8.out HO8.out (Nat.le_succ_of_le HBk.out.size) (fun g hg => Nat.lt_succ_of_lt (World.ownsRow.lt HV.out.row g hg).2) (fun p hp g hg => Nat.lt_succ_of_lt (World.ownsRow.lt (HV.out.ws p hp) g hg).2) HG9.out HO9.out HV9.out
      have HQ10 : Hid ((qs ++ [((vk, ⟨A7, n0, c7⟩) : VP)]).map Prod.fst = (ps.take (k + 1)).map Prod.fst) := by show _ = _; rw [HTK.out, List.map_append, HQ.out]; rfl
      have HQN10 : Hid (∀ p ∈ qs ++ [((vk, ⟨A7, n0, c7⟩) : VP)], p.2.n = p.1.ws.length) := fun p hp => by
        rcases List.mem_append.1 hp with hp | hp
        · exact HQN.out p hp
        · obtain rfl := List.mem_singleton.1 hp; exact hwl.symm
      have HB10 : Hid (Below w2.heap.size w2 w9) := HV8.out.row.below (HBk.out.trans (HB8.out.mono HBk.out.size)) (Nat.le_refl _) (Nat.le_trans HBk.out.size HB8.out.size) HG9.out
      clear HV8 HO8 HO9 HG9 HV9 HV HQ HQN HAPP HVW hcc7 hff7 s0 s1 s2 s3
      go_roundw
      case rel => exact ⟨k + 1, _, by omega, by go_num, HV10, HQ10, HQN10, HB10⟩
      case measure => simp [intOf]; omega
      -- END L1
    · obtain rfl : n' = k := by omega
      have hpl := HX2.out.fvs.1
      have HQE : Hid (qs.map Prod.fst = ps.map Prod.fst) := by
        show _ = _
        rw [HQ.out, List.take_of_length_le (by omega)]
      have hql : qs.length = n' := by
        have h5 := congrArg List.length HQE.out
        rw [List.length_map, List.length_map] at h5
        omega
      have HXr := Lib.hid (HX2.out.on HBk.out)
      have ho5 : OwnN fM 5 44 (wr.alloc (.cells #[] 44)) wr.heap.size (.slice (some ⟨wr.heap.size, 0, none⟩) 0 0) [] := World.ownsRow_lit wr #[] 0 (Nat.le_refl _) (by unfold maxLen; omega) rfl
      have hb5 : Below wr.heap.size wr (wr.alloc (.cells #[] 44)) := (Below.refl _ _).alloc (Nat.le_refl _) _
      have HO5 := Lib.hid ho5
      have HB5 := Lib.hid hb5
      have HS5 : Hid (SlN fM 5 (wr.alloc (.cells #[] 44)) wr.heap.size A n ms) := HXr.out.fms.up hb5 (Nat.le_refl _)
      have hml : ms.length = n := HXr.out.fms.1
      have HL3 : Hid ((([] : List Mem).length + n) * 56 ≤ 140737488355328) := by show _ ≤ _; simp; omega
      have HL4 : Hid (([] : List Mem).length + n ≤ maxLen) := by show _ ≤ _; unfold maxLen; simp; omega
      have HV5 : Hid (∀ V, Below wr.heap.size wr V → VRow V w2.heap.size u3 qs) := fun V h => HV.out.on h
      have hwlt : w.heap.size < wr.heap.size := Nat.lt_of_lt_of_le HGL.out HBW.out.size
      clear ho5 hb5 HQ
      go_upto_region 13 with (at_builtin; (refine wpList_appN fM_len (by omega) (o := ⟨some 47, _, _, _, _, _⟩) rfl (.tmp 44) (.tmp 46) 22 rfl 44 m0 _ 56 Try.underlying22 HM.out HM0.out HM1.out HM2.out Try.zsM (.slice (some ⟨wr.heap.size, 0, none⟩) 0 0) [] wr.heap.size (by rfl) HO5.out A n c wr.heap.size ms (by rfl) HS5.out fM_one HL3.out HL4.out HB5.out.size ?_); intro v7 w7 HO7 HG7 HV7)
      rw [List.nil_append] at HO7
      obtain ⟨Am, cm, hvm, hcm, hsm, hbm⟩ := HO7.out.shape fM_len
      rw [hml] at hvm hsm hcm
      subst hvm
      have hb7 : Below wr.heap.size wr w7 := HB5.out.grown HG7.out HB5.out.size (fun k hk => by simp [Value.ownBlock] at hk; omega)
      have HV7' := Lib.hid (HV5.out _ hb7)
      obtain ⟨A3, c3, hv3, hc3, hvi⟩ := HV7'.out.vin
      rw [hql] at hv3 hvi hc3
      subst hv3
      have HBW7 : Hid (Below W.heap.size W w7) := HBW.out.trans (hb7.mono HBW.out.size)
      have hvz : ∀ p ∈ qs, p.2.n ≤ 9223372036854775807 ∧ p.1.print.size ≤ 9223372036854775807 := fun p hp => by
        have h5 : p.1 ∈ ps.map Prod.fst := by rw [← HQE.out]; exact List.mem_map_of_mem hp
        obtain ⟨p0, hp0, he⟩ := List.mem_map.1 h5
        have h6 := HXr.out.vk p0 hp0
        rw [HQN.out p hp, ← he, h6.1.1]
        exact ⟨Nat.le_trans h6.2.1 h6.2.2.1, h6.2.2.2⟩
      have HNEW := Lib.hid (new_any Am A3 n n' cm c3 q ms qs w7 hcm hsm (fun m hm => HXr.out.sz m hm) hvi hvz)
      rw [HQE.out] at HNEW
      obtain ⟨t0, t1, t2, t3⟩ := four_of ((HBW7.out.block _ HGL.out).trans HG.out)
      have hs7 : wr.heap.size ≤ w7.heap.size := hb7.size
      clear s0 s1 s2 s3 hb7 hvz hvi hsm hc3 hcm HV5 HO5 HS5 HG7 HV7
      go_wp2_with fail
      refine HNEW.out.mono ?_
      rintro e w10 h1
      clear t0 t1 t2 t3
      rcases h1 with ⟨h0, h1⟩ | ⟨h0, rfl, h2⟩
      rotate_left
      · have he0 : (newE ms (ps.map Prod.fst) q != 0) = true := by simpa using h0
        have HF : Hid (Below w.heap.size w w10) := HB.out.trans ((HBW7.out.trans (h2.mono HBW7.out.size)).mono HB.out.size)
        clear h0 h2
        go_wp2_with fail
        go_ret
        exact ⟨rfl, HF.out⟩
      obtain ⟨g, lab, rfl, hC, hl, hgw, hb⟩ := h1.cir
      have HI : Hid (Inv (S0 ms ps q).s) := newE_inv h0
      have HE : Hid (EInv (S0 ms ps q)) := newE_einv h0
      have H0 := Lib.hid h0
      have HC10 : Hid (Cir w10 lab g (S0 ms ps q)) := hC
      have HL : Hid (∀ k, k < w7.heap.size → lab k = 0) := hl
      have HB10 : Hid (Below w7.heap.size w7 w10) := hb
      clear h1 hC hl hb h0
      go_wp2_with fail
      refine (encode_any g lab (S0 ms ps q) w10 HC10.out HE.out (by show (0 : Nat) ≤ 5000; omega)).mono ?_
      rintro e w11 ⟨Ae, ne, ce, rfl, _, ho, hb⟩
      obtain ⟨z0, hz0⟩ : ∃ s, s = baOf (encC (S0 ms ps q)) := ⟨_, rfl⟩
      have HZ0 := Lib.hid hz0
      have hcv : (convert 41 9 (.slice Ae ne ce)).run Try.prog w11 = .ok (.string z0) w11 := by
        rw [hz0]; exact run_conv_sl (P := Try.prog) 41 5 9 Try.underlying41 Try.underlying5 Try.underlying9 w11 _ Ae ne ce _ ho
      have HC11 := Lib.hid (HC10.out.on hb)
      have HB11 : Hid (Below w7.heap.size w7 w11) := HB10.out.trans (hb.mono HB10.out.size)
      clear ho hb hz0
      have hn0 : 0 < n := by
        obtain ⟨h1, _⟩ := newE_ok H0.out
        unfold headB at h1
        simp only [Bool.and_eq_true, decide_eq_true_eq] at h1
        omega
      obtain ⟨gm, cm2, szm, hvm, hgm, hblk, hszm⟩ := (HO7.out.on HB11.out).blk (by rw [hml]; exact hn0)
      obtain ⟨rfl, rfl⟩ : Am = some ⟨gm, 0, none⟩ ∧ cm = cm2 := by
        injection hvm with h1 h2 h3
        exact ⟨h1, h3⟩
      have HBK : Hid (Blk w11 gm szm 44) := hblk
      have hgm7 : gm < w7.heap.size := (World.ownsRow.lt HO7.out gm (by simp [Value.ownBlock])).2
      rw [hml] at hszm
      clear hblk hvm
      go_wp2_with fail
      clear hcv
      have HVL : Hid (∀ k, (Value.slice A3 n' c3).ownBlock = some k → k < wr.heap.size) := fun k hk => (World.ownsRow.lt HV.out.row k hk).2
      have HWS1 : Hid (∀ v ∈ (S0 ms ps q).s.vs, 1 ≤ v.ws.length) := fun v hv => by
        obtain ⟨_, _, h3, _⟩ := newE_ok H0.out
        obtain ⟨i, hi⟩ := List.mem_iff_getElem?.1 (show v ∈ ps.map Prod.fst from hv)
        unfold vltsB at h3
        have h5 := List.all_eq_true.1 h3 i (List.mem_range.2 (List.getElem?_eq_some_iff.1 hi).1)
        unfold okVt at h5
        rw [hi] at h5
        unfold vltB at h5
        simp only [Bool.and_eq_true, decide_eq_true_eq] at h5
        exact h5.2.1
      have HW11 : Hid (WB w11 lab w2.heap.size (.slice A3 n' c3) qs) := by
        have h5 : WB w7 lab w2.heap.size (.slice A3 n' c3) qs := HV7'.out.wb (fun p hp => HWS1.out p.1 (by show p.1 ∈ ps.map Prod.fst; rw [← HQE.out]; exact List.mem_map_of_mem hp)) (fun k _ h => HL.out k h) (Nat.le_refl _)
        exact h5.on HB11.out
      have HO11 : Hid (OwnN fP 15 36 w11 w2.heap.size (.slice A3 n' c3) qs) := HV7'.out.row.on HB11.out
      have HBW11 : Hid (Below W.heap.size W w11) := HBW7.out.trans (HB11.out.mono HBW7.out.size)
      have hlgm : lab gm = 0 := HL.out gm hgm7
      have hWr : W.heap.size ≤ wr.heap.size := HBW.out.size
      have hW2r : W.heap.size ≤ w2.heap.size := HB2.out.size
      have HSZ : Hid (w7.heap.size ≤ w11.heap.size) := HB11.out.size
      have hW2b : w2.heap.size ≤ w7.heap.size := Nat.le_trans HBk.out.size hs7
      clear HV HNEW
      go_loopw [10] (fun i wr => ∃ k : Nat, k ≤ n ∧ i = .int .i64 k ∧ Hid (Cir wr lab g (S0 ms ps q)) ∧ Hid (Blk wr gm szm 44) ∧ Hid (OwnN fP 15 36 wr w2.heap.size (.slice A3 n' c3) qs) ∧ Hid (WB wr lab w2.heap.size (.slice A3 n' c3) qs) ∧ Hid (Below W.heap.size W wr) ∧ Hid (w7.heap.size ≤ wr.heap.size)) (fun i _ => n - (intOf i).toNat)
      case atStart => exact ⟨0, Nat.zero_le _, rfl, HC11, HBK, HO11, HW11, HBW11, HSZ⟩
      case round =>
        obtain ⟨k, hk, rfl, HC, HK, HO, HWB, HBx, HSx⟩ := hrel
        by_cases hlt : k < n
        · -- PART L2
          obtain ⟨u0, hu0⟩ := HK.out.cell (j := k * 5 + 1) (by omega)
          have hf0 := HK.out.froz (k * 5 + 1)
          have HC2 : Hid (Cir (wr.setCell ⟨gm, k * 5 + 1, none⟩ (.string ⟨#[111, 116, 104, 101, 114]⟩)) lab g (S0 ms ps q)) := HC.out.set ⟨gm, k * 5 + 1, none⟩ hlgm _
          have HK2 : Hid (Blk (wr.setCell ⟨gm, k * 5 + 1, none⟩ (.string ⟨#[111, 116, 104, 101, 114]⟩)) gm szm 44) := HK.out.set _ rfl _
          have HO2 : Hid (OwnN fP 15 36 (wr.setCell ⟨gm, k * 5 + 1, none⟩ (.string ⟨#[111, 116, 104, 101, 114]⟩)) w2.heap.size (.slice A3 n' c3) qs) := HO.out.set_far _ (fun e => by have h5 := HVL.out gm e; omega) _
          have HW2 : Hid (WB (wr.setCell ⟨gm, k * 5 + 1, none⟩ (.string ⟨#[111, 116, 104, 101, 114]⟩)) lab w2.heap.size (.slice A3 n' c3) qs) := HWB.out.set _ rfl _
          have HB2' : Hid (Below W.heap.size W (wr.setCell ⟨gm, k * 5 + 1, none⟩ (.string ⟨#[111, 116, 104, 101, 114]⟩))) := HBx.out.setCell (by show W.heap.size ≤ gm; omega) _
          have HS2 : Hid (w7.heap.size ≤ (wr.setCell ⟨gm, k * 5 + 1, none⟩ (.string ⟨#[111, 116, 104, 101, 114]⟩)).heap.size) := by show _ ≤ _; have := HSx.out; simp [World.setCell]; exact this
          go_wp2_with fail
          go_roundw
          case rel => exact ⟨k + 1, by omega, by go_num, HC2, HK2, HO2, HW2, HB2', HS2⟩
          case measure => simp [intOf]; omega
          -- END L2
        · obtain rfl : n = k := by omega
          have HN12 := HI.out.n12
          have hml12 : ms.length ≤ 12 := HN12
          go_wp2_with fail
          refine (vaults_cir g lab (S0 ms ps q) _ HC.out HI.out).mono ?_
          rintro e w12 ⟨vo, os, rfl, hr, hos, hb⟩
          obtain ⟨Ao, co, hvo, _, hvio⟩ := hr.vin
          have hol : os.length = n' := by
            have h5 := congrArg List.length hos
            rw [List.length_map] at h5
            rw [h5]
            show (ps.map Prod.fst).length = n'
            rw [List.length_map]; omega
          rw [hol] at hvo
          subst hvo
          have HC12 := Lib.hid (HC.out.on hb)
          have HO12 := Lib.hid (HO.out.on hb)
          have HWB12 := Lib.hid (HWB.out.on hb)
          have HBx12 : Hid (Below W.heap.size W w12) := HBx.out.trans (hb.mono HBx.out.size)
          have HOo12 : Hid (OwnN fP 15 36 w12 w2.heap.size (.slice Ao n' co) os) := World.ownsRow.mono hr.row (by have := HSx.out; omega)
          have HWo12 : Hid (WB w12 lab w2.heap.size (.slice Ao n' co) os) := hr.wb (fun p hp => HWS1.out p.1 (show p.1 ∈ (S0 ms ps q).s.vs from hos ▸ List.mem_map_of_mem hp)) (fun k h1 _ => HC.out.top k h1) (by have := HSx.out; omega)
          have HOS : Hid (os.map Prod.fst = (S0 ms ps q).s.vs) := hos
          have HFO : Hid (∀ p ∈ os, p.2.n = p.1.ws.length) := fun p hp => ((hvio.2 p hp).1).symm
          have HAP1 : Hid (∀ p ∈ os, (Value.slice A3 n' c3).ownBlock ≠ p.2.a.map (·.block)) := fun p hp e => by
            obtain ⟨gb, cb, sz, hv, hb2, hk2, hs2⟩ := (hr.ws p hp).blk (HWS1.out p.1 (show p.1 ∈ (S0 ms ps q).s.vs from hos ▸ List.mem_map_of_mem hp))
            unfold fS at hv
            injection hv with h1 h2 h3
            rw [h1] at e
            have := HVL.out gb e
            have := HSx.out
            omega
          have HAP2 : Hid (∀ p ∈ qs, (Value.slice Ao n' co).ownBlock ≠ p.2.a.map (·.block)) := fun p hp e => by
            obtain ⟨gb, sz, h1, h2, _⟩ := HWB.out p hp
            rw [h1] at e
            have h5 := (World.ownsRow.lt hr.row gb e).1
            have h6 := lt_of_block h2.choose_spec.2
            omega
          have hs12 := hb.size
          clear hr hos hb hvio
          go_wp2_with fail
          refine (members_cir g lab (S0 ms ps q) w12 HC12.out (by show ms.length ≤ 1000; omega)).mono ?_
          rintro e w13 ⟨vl, rfl, ho, hb⟩
          obtain ⟨gl, cl, szl, hvl, hgl, hblk, hszl⟩ := ho.blk (show 0 < ms.length by omega)
          rw [show (S0 ms ps q).s.ms.length = n from hml] at hvl
          subst hvl
          have HBl : Hid (Blk w13 gl szl 44) := hblk
          have hszl' : n * 5 ≤ szl := by have h5 := hszl; have h6 : (S0 ms ps q).s.ms.length = n := hml; rw [h6] at h5; exact h5
          have HC13 := Lib.hid (HC12.out.on hb)
          have HO13 := Lib.hid (HO12.out.on hb)
          have HWB13 := Lib.hid (HWB12.out.on hb)
          have HBx13 : Hid (Below W.heap.size W w13) := HBx12.out.trans (hb.mono HBx12.out.size)
          have HOo13 := Lib.hid (HOo12.out.on hb)
          have HWo13 := Lib.hid (HWo12.out.on hb)
          have hlgl : lab gl = 0 := HC12.out.top gl hgl
          have hwgl : W.heap.size ≤ gl := by have := HBx12.out.size; omega
          clear ho hb hblk hszl
          go_wp2_with fail
          have hvl12 : (S0 ms ps q).s.vs.length ≤ 1000 := Nat.le_trans HI.out.v12 (by decide)
          go_loopw [13] (fun i wr => ∃ k : Nat, k ≤ n' ∧ i = .int .i64 k ∧ Hid (Cir wr lab g (S0 ms ps q)) ∧ Hid (Blk wr gl szl 44) ∧ Hid (OwnN fP 15 36 wr w2.heap.size (.slice A3 n' c3) qs) ∧ Hid (WB wr lab w2.heap.size (.slice A3 n' c3) qs) ∧ Hid (OwnN fP 15 36 wr w2.heap.size (.slice Ao n' co) os) ∧ Hid (WB wr lab w2.heap.size (.slice Ao n' co) os) ∧ Hid (Below W.heap.size W wr)) (fun i _ => n' - (intOf i).toNat)
          case atStart => exact ⟨0, Nat.zero_le _, rfl, HC13, HBl, HO13, HWB13, HOo13, HWo13, HBx13⟩
          case round =>
            obtain ⟨k, hk, rfl, HC, HK, HO, HWB, HOo, HWo, HBx⟩ := hrel
            by_cases hlt : k < n'
            · -- PART L3
              obtain ⟨A3', c3', e3, _, hs3, _⟩ := HO.out.shape fP_len
              obtain ⟨b, off, p, hA3, _, hpk, hcell⟩ := hs3.at_ (k := k) (by rw [hql]; exact hlt)
              obtain ⟨Ao', co', eo, _, hso, _⟩ := HOo.out.shape fP_len
              obtain ⟨bo, offo, po, hAo, _, hpko, hcello⟩ := hso.at_ (k := k) (by rw [hol]; exact hlt)
              obtain ⟨rfl, _⟩ : A3 = A3' ∧ True := by injection e3 with h1 h2 h3; exact ⟨h1, trivial⟩
              obtain ⟨rfl, _⟩ : Ao = Ao' ∧ True := by injection eo with h1 h2 h3; exact ⟨h1, trivial⟩
              subst hA3 hAo
              have hcp := hcell 1 _ rfl
              have hcpo := hcello 1 _ rfl
              rw [← Nat.add_assoc] at hcp hcpo
              have hpm := List.mem_of_getElem? hpk
              have hpmo := List.mem_of_getElem? hpko
              obtain ⟨gb, sz, ha, hbk, hsz0, hlg, hgw2, hgne⟩ := HWB.out p hpm
              obtain ⟨gbo, szo, hao, hbko, hszo0, hlgo, hgwo2, hgneo⟩ := HWo.out po hpmo
              obtain ⟨x, hx⟩ := get_ex (xs := (S0 ms ps q).s.vs) (k := k) (by show k < (ps.map Prod.fst).length; rw [List.length_map]; omega)
              have hpx : p.1 = x := by
                have h5 : (qs.map Prod.fst)[k]? = some p.1 := by rw [List.getElem?_map, hpk]; rfl
                rw [HQE.out] at h5
                exact Option.some.inj (h5.symm.trans hx)
              have hpox : po.1 = x := by
                have h5 : (os.map Prod.fst)[k]? = some po.1 := by rw [List.getElem?_map, hpko]; rfl
                rw [HOS.out] at h5
                exact Option.some.inj (h5.symm.trans hx)
              have hxm := List.mem_of_getElem? hx
              have hw1 := HWS1.out x hxm
              have hpn : p.2.n = x.ws.length := by rw [HQN.out p hpm, hpx]
              have hpon : po.2.n = x.ws.length := by rw [HFO.out po hpmo, hpox]
              obtain ⟨pv, pa, pn, pc⟩ := p
              obtain ⟨pov, poa, pon, poc⟩ := po
              simp only at hcp hcpo ha hao hpn hpon
              subst ha hao
              have hne1 : bo ≠ gb := fun e => HAP2.out _ hpm (by simp [Value.ownBlock, e])
              have hlog : lab gbo = 0 := hlgo
              obtain ⟨u0, hu0⟩ := hbk.cell (j := 0) hsz0
              have hf0 := hbk.froz 0
              have hpn1 : (0 : Int) < (pn : Int) := by omega
              have hpn1' : 0 < pn := by omega
              have HWf : Hid (w.heap.size < wr.heap.size) := Nat.lt_of_lt_of_le HGL.out HBx.out.size
              have hpz : ((pon : Int) == 0) = false := by simp; omega
              have hpon1 : (0 : Int) < (pon : Int) := by omega
              have hpon1' : 0 < pon := by omega
              have hnn : ((n' : Int) != (n' : Int)) = false := by simp
              have HQL := Lib.hid hql
              have HOL := Lib.hid hol
              clear hpn hpon hql hol hpl hpx hpox hcell hcello e3 eo hs3 hso hpk hpko
              go_upto_region 26 with fail
              obtain ⟨W1, hW1⟩ : ∃ V : World, V = wr.setCell ⟨gb, 0, none⟩ (.int .i64 99) := ⟨_, rfl⟩
              rw [← hW1]
              have hC1 : Cir W1 lab g (S0 ms ps q) := by rw [hW1]; exact HC.out.set _ hlg _
              have hK1 : Blk W1 gl szl 44 := by rw [hW1]; exact HK.out.set _ rfl _
              have hO1 : OwnN fP 15 36 W1 w2.heap.size (.slice (some ⟨b, off, none⟩) n' c3) qs := by rw [hW1]; exact HO.out.set_far _ hgne _
              have hWB1 : WB W1 lab w2.heap.size (.slice (some ⟨b, off, none⟩) n' c3) qs := by rw [hW1]; exact HWB.out.set _ rfl _
              have hOo1 : OwnN fP 15 36 W1 w2.heap.size (.slice (some ⟨bo, offo, none⟩) n' co) os := by rw [hW1]; exact HOo.out.set_far _ (fun e => hne1 (by simpa [Value.ownBlock] using e)) _
              have hWo1 : WB W1 lab w2.heap.size (.slice (some ⟨bo, offo, none⟩) n' co) os := by rw [hW1]; exact HWo.out.set _ rfl _
              have hBx1 : Below W.heap.size W W1 := by rw [hW1]; exact HBx.out.setCell (by show W.heap.size ≤ gb; omega) _
              have hcpo1 : W1.cell? ⟨bo, offo + k * 15 + 1, none⟩ = some (.slice (some ⟨gbo, 0, none⟩) pon poc) := (World.cell?_of_block (w := wr) (by rw [hW1]; exact heap_setCell_other _ _ _ _ hne1)).trans hcpo
              have hbko1 : Blk W1 gbo szo 3 := by rw [hW1]; exact hbko.set _ rfl _
              have HC1 := Lib.hid hC1
              have HK1 := Lib.hid hK1
              have HO1 := Lib.hid hO1
              have HWB1 := Lib.hid hWB1
              have HOo1 := Lib.hid hOo1
              have HWo1 := Lib.hid hWo1
              have HBx1 := Lib.hid hBx1
              clear hW1 hC1 hK1 hO1 hWB1 hOo1 hWo1 hBx1 hu0 hf0 hcp hcpo
              obtain ⟨u1, hu1⟩ := hbko1.cell (j := 0) hszo0
              have hf1 := hbko1.froz 0
              go_upto_region 29 with fail
              obtain ⟨W2, hW2⟩ : ∃ V : World, V = W1.setCell ⟨gbo, 0, none⟩ (.int .i64 98) := ⟨_, rfl⟩
              rw [← hW2]
              have hneo : b ≠ gbo := fun e => HAP1.out _ hpmo (by simp [Value.ownBlock, e])
              have hC2 : Cir W2 lab g (S0 ms ps q) := by rw [hW2]; exact HC1.out.set _ hlgo _
              have hK2 : Blk W2 gl szl 44 := by rw [hW2]; exact HK1.out.set _ rfl _
              have hO2 : OwnN fP 15 36 W2 w2.heap.size (.slice (some ⟨b, off, none⟩) n' c3) qs := by rw [hW2]; exact HO1.out.set_far _ (fun e => hneo (by simpa [Value.ownBlock] using e)) _
              have hWB2 : WB W2 lab w2.heap.size (.slice (some ⟨b, off, none⟩) n' c3) qs := by rw [hW2]; exact HWB1.out.set _ rfl _
              have hOo2 : OwnN fP 15 36 W2 w2.heap.size (.slice (some ⟨bo, offo, none⟩) n' co) os := by rw [hW2]; exact HOo1.out.set_far _ hgneo _
              have hWo2 : WB W2 lab w2.heap.size (.slice (some ⟨bo, offo, none⟩) n' co) os := by rw [hW2]; exact HWo1.out.set _ rfl _
              have hBx2 : Below W.heap.size W W2 := by rw [hW2]; exact HBx1.out.setCell (by show W.heap.size ≤ gbo; omega) _
              have HVT := Lib.hid (vault_yes g lab (S0 ms ps q) k x W2 hC2 hvl12 (by unfold vltOf; rw [if_pos (by omega), show ((k : Int)).toNat = k by omega]; exact hx) (by have := HI.out.ws3 x hxm; omega))
              have HC2 := Lib.hid hC2
              have HK2 := Lib.hid hK2
              have HO2 := Lib.hid hO2
              have HWB2 := Lib.hid hWB2
              have HOo2 := Lib.hid hOo2
              have HWo2 := Lib.hid hWo2
              have HBx2 := Lib.hid hBx2
              clear hW2 hC2 hK2 hO2 hWB2 hOo2 hWo2 hBx2 hu1 hf1 hcpo1
              go_wp2_with fail
              refine HVT.out.mono ?_
              rintro e w3 ⟨Ay, ny, cy, rfl, ho, hb⟩
              obtain ⟨Ay', cy', ey, _, hsy, _⟩ := ho.shape
              obtain ⟨by', offy, z, hAy, hby, hzk, hcy⟩ := SL.at_ hsy (k := 0) (by omega)
              obtain ⟨rfl, hny⟩ : Ay = Ay' ∧ ny = x.ws.length := by injection ey with h1 h2 h3; exact ⟨h1, h2⟩
              subst hAy
              rw [Nat.add_zero] at hcy
              have hzm := List.mem_of_getElem? hzk
              have hzr := HI.out.wsr x hxm z hzm
              have hz12 : decide ((12 : Int) < z) = false := by
                have h5 : z < ms.length := hzr.2
                simp; omega
              have hz12' : ¬ (12 : Int) < z := by
                have h5 : z < ms.length := hzr.2
                omega
              have hyz : ((ny : Int) == 0) = false := by simp; omega
              have hny1 : (0 : Int) < (ny : Int) := by omega
              have hny1' : 0 < ny := by omega
              have hnew := World.new_ne w3 ⟨by', offy, none⟩ hcy
              have HB3 : Hid (Below W2.heap.size W2 (w3.alloc (oV x (some ⟨by', offy, none⟩) ny cy))) := hb.alloc hb.size _
              have HC4 := Lib.hid (HC2.out.on HB3.out)
              have HK4 := Lib.hid (HK2.out.on HB3.out)
              have HO4 := Lib.hid (HO2.out.on HB3.out)
              have HWB4 := Lib.hid (HWB2.out.on HB3.out)
              have HOo4 := Lib.hid (HOo2.out.on HB3.out)
              have HWo4 := Lib.hid (HWo2.out.on HB3.out)
              have HBx4 : Hid (Below W.heap.size W (w3.alloc (oV x (some ⟨by', offy, none⟩) ny cy))) := HBx2.out.trans (HB3.out.mono HBx2.out.size)
              clear ho hb hsy hzk hzm hzr
              go_wp2_with fail
              go_roundw
              case rel => exact ⟨k + 1, by omega, by go_num, HC4, HK4, HO4, HWB4, HOo4, HWo4, HBx4⟩
              case measure => simp [intOf]; omega
              -- END L3
            · obtain rfl : n' = k := by omega
              have hact : (activeL (S0 ms ps q).s).length = n := by
                unfold activeL
                rw [List.length_map, List.filter_eq_self.2, List.length_range]
                · exact hml
                · intro j hj
                  have hj' : j < ms.length := List.mem_range.1 hj
                  obtain ⟨_, h2, _⟩ := newE_ok H0.out
                  unfold memsB at h2
                  have h5 := List.all_eq_true.1 h2 j (List.mem_range.2 hj')
                  unfold okM at h5
                  unfold actB
                  show (match ms[j]? with | some m => !m.exp | none => false) = true
                  rw [List.getElem?_eq_getElem hj'] at h5 ⊢
                  unfold memB at h5
                  simp only [Bool.and_eq_true, decide_eq_true_eq] at h5
                  exact h5.1.2.2.2.2.2
              have HACT := Lib.hid hact
              have HQL := Lib.hid hql
              have HOL := Lib.hid hol
              have HML := Lib.hid hml
              clear hact hql hol hpl hml
              go_wp2_with fail
              go_loopw [16] (fun i wr => ∃ k : Nat, k ≤ n ∧ i = .int .i64 k ∧ Hid (Cir wr lab g (S0 ms ps q)) ∧ Hid (Blk wr gl szl 44) ∧ Hid (Below W.heap.size W wr)) (fun i _ => n - (intOf i).toNat)
              case atStart => exact ⟨0, Nat.zero_le _, rfl, HC, HK, HBx⟩
              case round =>
                obtain ⟨k, hk, rfl, HC, HK, HBx⟩ := hrel
                by_cases hlt : k < n
                · -- PART L4
                  obtain ⟨u0, hu0⟩ := HK.out.cell (j := k * 5 + 4) (by omega)
                  have hf0 := HK.out.froz (k * 5 + 4)
                  have HC2 : Hid (Cir (wr.setCell ⟨gl, k * 5 + 4, none⟩ (.bool true)) lab g (S0 ms ps q)) := HC.out.set ⟨gl, k * 5 + 4, none⟩ hlgl _
                  have HK2 : Hid (Blk (wr.setCell ⟨gl, k * 5 + 4, none⟩ (.bool true)) gl szl 44) := HK.out.set _ rfl _
                  have HB2' : Hid (Below W.heap.size W (wr.setCell ⟨gl, k * 5 + 4, none⟩ (.bool true))) := HBx.out.setCell (by show W.heap.size ≤ gl; omega) _
                  go_wp2_with fail
                  go_roundw
                  case rel => exact ⟨k + 1, by omega, by go_num, HC2, HK2, HB2'⟩
                  case measure => simp [intOf]; omega
                  -- END L4
                · obtain rfl : n = k := by omega
                  have hzz : (z0.toList == z0.toList) = true := by simp
                  have hnn2 : ((n : Int) == (n : Int)) = true := by simp
                  go_wp2_with fail
                  refine (encode_any g lab (S0 ms ps q) _ HC.out HE.out (by show (0 : Nat) ≤ 5000; omega)).mono ?_
                  rintro e w14 ⟨Ae, ne, ce, rfl, _, ho, hb⟩
                  have hcv : (convert 41 9 (.slice Ae ne ce)).run Try.prog w14 = .ok (.string z0) w14 := by
                    rw [HZ0.out]; exact run_conv_sl (P := Try.prog) 41 5 9 Try.underlying41 Try.underlying5 Try.underlying9 w14 _ Ae ne ce _ ho
                  have HC14 := Lib.hid (HC.out.on hb)
                  have HBx14 : Hid (Below W.heap.size W w14) := HBx.out.trans (hb.mono HBx.out.size)
                  clear ho hb
                  go_wp2_with fail
                  refine (active_cir g lab (S0 ms ps q) w14 HC14.out (Nat.le_trans HI.out.n12 (by decide))).mono ?_
                  rintro e w15 ⟨va, rfl, ho, hb⟩
                  obtain ⟨Aa, ca, hva, _, _, _⟩ := Own.shape (f := I) ho
                  rw [HACT.out] at hva
                  subst hva
                  have HBx15 : Hid (Below W.heap.size W w15) := HBx14.out.trans (hb.mono HBx14.out.size)
                  clear ho hb
                  go_wp2_with fail
                  go_ret
                  exact ⟨rfl, HB.out.trans (HBx15.out.mono HB.out.size)⟩
end Go.Proofs.Ytkeicjokekmkpaa
