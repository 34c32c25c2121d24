/- The reference's check. -/
import Derived.Test.YtkeicjokekmkpaaGreatMp
namespace Go.Proofs.YtkeicjokekmkpaaGreat
open Go.RowKit Mb
set_option linter.unusedVariables false
set_option linter.unusedSimpArgs false

theorem counting_contains {S : St} {a b : Int} (ha : hasB S a = true) (haa : actI S a = true) : (counting S b).contains a = votedB S a b := by
  have h := hasB_iff.1 ha
  rw [Bool.eq_iff_iff, List.contains_iff_mem, mem_counting]
  constructor
  · rintro ⟨k, _, _, h3, rfl⟩; exact h3
  · intro h3
    refine ⟨a.toNat, by omega, haa, ?_, by omega⟩
    rw [show ((a.toNat : Nat) : Int) = a by omega]
    exact h3
theorem counting_le12 {S : St} (h : Inv S) (b : Int) : (counting S b).length ≤ 1000000 := by
  have h5 := h.n12
  have h6 : (counting S b).length ≤ S.ms.length := by
    unfold counting
    rw [List.length_map]
    have := List.length_filter_le (fun v => actB S v && votedB S v b) (List.range S.ms.length)
    rwa [List.length_range] at this
  omega
theorem nodup_le {α : Type} [BEq α] [LawfulBEq α] : ∀ {l m : List α}, l.Nodup → (∀ x ∈ l, x ∈ m) → l.length ≤ m.length
  | [], _, _, _ => Nat.zero_le _
  | x :: l, m, h, hs => by
    have hx := hs x (List.mem_cons_self ..)
    have h1 : l.length ≤ (m.erase x).length := nodup_le (List.nodup_cons.1 h).2 fun y hy => by
      have hne : y ≠ x := fun e => (List.nodup_cons.1 h).1 (e ▸ hy)
      exact (List.mem_erase_of_ne hne).2 (hs y (List.mem_cons_of_mem _ hy))
    rw [List.length_erase_of_mem hx] at h1
    have := List.length_pos_of_mem hx
    simp only [List.length_cons]
    omega
/-- There are few votes. -/
theorem votes_bound {S : St} (h : Inv S) : S.votes.length ≤ 144 := by
  have hsub : ∀ p ∈ S.votes, p ∈ ((List.range 12).flatMap fun i : Nat => (List.range 12).map fun j : Nat => ((i : Int), (j : Int))) := fun p hp => by
    have h1 := h.vr p hp
    have h2 := h.n12
    refine List.mem_flatMap.2 ⟨p.1.toNat, List.mem_range.2 (by omega), List.mem_map.2 ⟨p.2.toNat, List.mem_range.2 (by omega), ?_⟩⟩
    obtain ⟨a, b⟩ := p
    simp only at h1
    simp only [Prod.mk.injEq]
    omega
  exact nodup_le h.nd hsub
def IntP (v : Int) (w : World) (e : Ending) (w' : World) : Prop := e = .returned (.int .i64 v) ∧ Below w.heap.size w w'
abbrev cXr (x : Chn) : Array Value := #[.int .i64 x.kind, .int .i64 x.m.dev, .string x.m.name, .string x.m.pub, .int .i64 x.m.quota, .bool x.m.exp, .int .i64 x.v, .int .i64 x.a, .int .i64 x.b]
abbrev oXr (x : Chn) : Obj := .cells (cXr x) 42
theorem nine_at {w : World} {b : Nat} {x : Chn} (h : w.heap[b]? = some (oXr x)) :
    w.cell? ⟨b, 0, none⟩ = some (.int .i64 x.kind) ∧ w.cell? ⟨b, 1, none⟩ = some (.int .i64 x.m.dev) ∧ w.cell? ⟨b, 2, none⟩ = some (.string x.m.name) ∧ w.cell? ⟨b, 3, none⟩ = some (.string x.m.pub) ∧ w.cell? ⟨b, 4, none⟩ = some (.int .i64 x.m.quota) ∧ w.cell? ⟨b, 5, none⟩ = some (.bool x.m.exp) ∧ w.cell? ⟨b, 6, none⟩ = some (.int .i64 x.v) ∧ w.cell? ⟨b, 7, none⟩ = some (.int .i64 x.a) ∧ w.cell? ⟨b, 8, none⟩ = some (.int .i64 x.b) := by
  refine ⟨?_, ?_, ?_, ?_, ?_, ?_, ?_, ?_, ?_⟩ <;> (rw [cell_of_row w b _ _ _ _ h]; rfl)
set_option maxRecDepth 20000 in
set_option maxHeartbeats 8000000 in
theorem rcheck_adm (r : RV) (S : St) (x : Chn) (w : World) (hC : RefC w w.heap.size r S) (hI : Inv S) (hk : x.kind = 1) (hs : x.m.name.size ≤ 9223372036854775807) (hp : x.m.pub.size ≤ 9223372036854775807) :
    Calls Tryz.prog 24 #[r.val, aCh x] w (IntP (admE S x.m) w) := by
  obtain ⟨W, hW⟩ : ∃ W : World, W = (w.alloc r.obj).alloc (oXr x) := ⟨_, rfl⟩
  have hB : Below w.heap.size w W := by rw [hW]; exact ((Below.refl _ _).alloc (Nat.le_refl _) _).alloc (by simp) _
  have hg0 : W.heap[w.heap.size]? = some r.obj := by rw [hW]; exact (Below.heap_alloc _ _ _ (by simp)).trans (heap_alloc_new w _)
  have hg1 : W.heap[w.heap.size + 1]? = some (oXr x) := by rw [hW]; exact heap_new_at (w := w.alloc _) (by simp)
  have hCW := hC.on hB
  have HCW : Hid (∀ V, Below W.heap.size W V → RefC V V.heap.size r S) := fun V h => hCW.on h
  have HF : Hid (∀ V, Below W.heap.size W V → V.heap[w.heap.size]? = some r.obj ∧ V.heap[w.heap.size + 1]? = some (oXr x)) := fun V h => ⟨(h.block _ (lt_of_block hg0)).trans hg0, (h.block _ (lt_of_block hg1)).trans hg1⟩
  have HB := Lib.hid hB
  have HW := Lib.hid hW
  have hnl := hC.ms.1
  have HNL : Hid (S.ms.length = r.a4.n) := hC.ms.1
  have h12 := hI.n12
  have HI := Lib.hid hI
  have hn12 : r.a4.n ≤ 12 := by omega
  obtain ⟨z0, z1, z2, z3, z4, z5, z6⟩ := seven_of hg0
  obtain ⟨y0, y1, y2, y3, y4, y5, y6, y7, y8⟩ := nine_at hg1
  rw [hW] at z0 z1 z2 z3 z4 z5 z6 y0 y1 y2 y3 y4 y5 y6 y7 y8
  have k1 : (x.kind == 1) = true := by simp [hk]
  by_cases hf : 12 ≤ S.ms.length
  · have HE : Hid (admE S x.m = 7) := by show _ = _; unfold admE; rw [if_pos hf]
    have e0 : ((r.a4.n : Int) == 12) = true := by simp; omega
    clear hC hB hg0 hg1 hCW hI hnl hW hk hf
    go_enter Tryz.func24, Tryz.ntmps24
    go_wp2
    go_ret
    exact ⟨by rw [HE.out]; rfl, ((Below.refl _ _).alloc (Nat.le_refl _) _).alloc (by simp) _⟩
  · have e0 : ((r.a4.n : Int) == 12) = false := by simp; omega
    obtain ⟨bm, hbm⟩ : ∃ z, memB x.m S.ms.length = z := ⟨_, rfl⟩
    obtain ⟨bt, hbt⟩ : ∃ z, takenB S.ms x.m = z := ⟨_, rfl⟩
    have HVM : Hid (Calls Tryz.prog 21 #[aM x.m, .int .i64 (r.a4.n : Int)] W (BoolB bm W)) := by rw [← hnl]; exact hbm ▸ rmem_any x.m S.ms.length W hs hp
    have HTK : Hid (∀ V, Below W.heap.size W V → Calls Tryz.prog 22 #[.slice r.a4.a r.a4.n r.a4.c, aM x.m] V (BoolB bt V)) := fun V h => hbt ▸ rtaken_any x.m _ _ _ S.ms V (hCW.on h).ms (by omega)
    have HBM := Lib.hid hbm
    have HBT := Lib.hid hbt
    have HHF := Lib.hid hf
    clear hC hB hg0 hg1 hCW hI hnl hW hk hf hbm hbt
    cases bm
    · have HE : Hid (admE S x.m = 1) := by show _ = _; unfold admE; rw [if_neg HHF.out, if_pos HBM.out]
      go_enter Tryz.func24, Tryz.ntmps24
      go_wp2_with fail
      rw [← HW.out]
      refine HVM.out.mono ?_
      rintro e w5 ⟨rfl, hb⟩
      have HB5 : Hid (Below w.heap.size w w5) := HB.out.trans (hb.mono HB.out.size)
      clear hb
      go_wp2
      go_ret
      exact ⟨by rw [HE.out]; rfl, HB5.out⟩
    · have HE : Hid (admE S x.m = if bt = true then 5 else 0) := by show _ = _; unfold admE; rw [if_neg HHF.out, HBM.out, HBT.out]; rfl
      go_enter Tryz.func24, Tryz.ntmps24
      go_wp2_with fail
      rw [← HW.out]
      refine HVM.out.mono ?_
      rintro e w5 ⟨rfl, hb⟩
      have HB5 : Hid (Below W.heap.size W w5) := hb
      obtain ⟨q0, q1⟩ := HF.out w5 hb
      clear z0 z1 z2 z3 z4 z5 z6 y0 y1 y2 y3 y4 y5 y6 y7 y8
      obtain ⟨z0, z1, z2, z3, z4, z5, z6⟩ := seven_of q0
      obtain ⟨y0, y1, y2, y3, y4, y5, y6, y7, y8⟩ := nine_at q1
      clear hb q0 q1
      go_wp2_with fail
      refine (HTK.out w5 HB5.out).mono ?_
      rintro e w6 ⟨rfl, hb⟩
      have HB6 : Hid (Below w.heap.size w w6) := HB.out.trans ((HB5.out.trans (hb.mono HB5.out.size)).mono HB.out.size)
      clear hb
      cases bt
      all_goals
        go_wp2
        go_ret
        exact ⟨by rw [HE.out]; rfl, HB6.out⟩
set_option maxRecDepth 20000 in
set_option maxHeartbeats 8000000 in
theorem rcheck_vot (r : RV) (S : St) (x : Chn) (w : World) (hC : RefC w w.heap.size r S) (hI : Inv S) (hk : x.kind = 2) :
    Calls Tryz.prog 24 #[r.val, aCh x] w (IntP (votE S x.a x.b) w) := by
  obtain ⟨W, hW⟩ : ∃ W : World, W = (w.alloc r.obj).alloc (oXr x) := ⟨_, rfl⟩
  have hB : Below w.heap.size w W := by rw [hW]; exact ((Below.refl _ _).alloc (Nat.le_refl _) _).alloc (by simp) _
  have hg0 : W.heap[w.heap.size]? = some r.obj := by rw [hW]; exact (Below.heap_alloc _ _ _ (by simp)).trans (heap_alloc_new w _)
  have hg1 : W.heap[w.heap.size + 1]? = some (oXr x) := by rw [hW]; exact heap_new_at (w := w.alloc _) (by simp)
  have hCW := hC.on hB
  have HCW : Hid (∀ V, Below W.heap.size W V → RefC V V.heap.size r S) := fun V h => hCW.on h
  have HF : Hid (∀ V, Below W.heap.size W V → V.heap[w.heap.size]? = some r.obj ∧ V.heap[w.heap.size + 1]? = some (oXr x)) := fun V h => ⟨(h.block _ (lt_of_block hg0)).trans hg0, (h.block _ (lt_of_block hg1)).trans hg1⟩
  have HB := Lib.hid hB
  have HW := Lib.hid hW
  have hnl := hC.ms.1
  have HNL : Hid (S.ms.length = r.a4.n) := hC.ms.1
  have h12 := hI.n12
  have HI := Lib.hid hI
  have hn12 : r.a4.n ≤ 12 := by omega
  obtain ⟨z0, z1, z2, z3, z4, z5, z6⟩ := seven_of hg0
  obtain ⟨y0, y1, y2, y3, y4, y5, y6, y7, y8⟩ := nine_at hg1
  rw [hW] at z0 z1 z2 z3 z4 z5 z6 y0 y1 y2 y3 y4 y5 y6 y7 y8
  have k1 : (x.kind == 1) = false := by simp [hk]
  have k2 : (x.kind == 2) = true := by simp [hk]
  obtain ⟨ha, hha⟩ : ∃ z, hasB S x.a = z := ⟨_, rfl⟩
  obtain ⟨hb, hhb⟩ : ∃ z, hasB S x.b = z := ⟨_, rfl⟩
  obtain ⟨aa, haa⟩ : ∃ z, actI S x.a = z := ⟨_, rfl⟩
  obtain ⟨ab, hab⟩ : ∃ z, actI S x.b = z := ⟨_, rfl⟩
  have HIA : Hid (∀ V, Below W.heap.size W V → Calls Tryz.prog 50 #[r.val, .int .i64 x.a] V (BoolB ha V)) := fun V h => hha ▸ ris_any r S x.a V (hCW.on h)
  have HIB : Hid (∀ V, Below W.heap.size W V → Calls Tryz.prog 50 #[r.val, .int .i64 x.b] V (BoolB hb V)) := fun V h => hhb ▸ ris_any r S x.b V (hCW.on h)
  have HAA : Hid (∀ V, Below W.heap.size W V → Calls Tryz.prog 74 #[r.val, .int .i64 x.a] V (BoolB (ha && aa) V)) := fun V h => by
    have h5 := ractive_any r S x.a V (hCW.on h) (by omega)
    rw [hha, haa] at h5
    exact h5
  have HAB : Hid (∀ V, Below W.heap.size W V → Calls Tryz.prog 74 #[r.val, .int .i64 x.b] V (BoolB (hb && ab) V)) := fun V h => by
    have h5 := ractive_any r S x.b V (hCW.on h) (by omega)
    rw [hhb, hab] at h5
    exact h5
  have HCT : Hid (∀ V, Below W.heap.size W V → Calls Tryz.prog 25 #[r.val, .int .i64 x.b] V (OwnI (counting S x.b) V)) := fun V h => rCount_any r S x.b V (hCW.on h) (by omega) (by
    have h6 := votes_bound hI
    omega) hI.nd
  have HHA := Lib.hid hha
  have HHB := Lib.hid hhb
  have HHAA := Lib.hid haa
  have HHAB := Lib.hid hab
  clear hC hB hg0 hg1 hCW hI hnl hW hk hha hhb haa hab
  cases ha
  · have HE : Hid (votE S x.a x.b = 4) := by show _ = _; unfold votE; rw [HHA.out, HHB.out, HHAA.out, HHAB.out]; simp
    go_enter Tryz.func24, Tryz.ntmps24
    go_wp2_with fail
    rw [← HW.out]
    refine (HIA.out _ (by first | exact Below.refl _ _ | exact (Below.refl _ _).drew | exact below_dN' (Below.refl _ _) _)).mono ?_
    rintro e w5 ⟨rfl, hb5⟩
    have HB5 : Hid (Below W.heap.size W w5) := Below.trans (by first | exact Below.refl _ _ | exact (Below.refl _ _).drew | exact below_dN' (Below.refl _ _) _) (hb5.mono (by first | exact Nat.le_refl _ | exact Nat.le_of_eq rfl))
    clear hb5
    obtain ⟨q0, q1⟩ := HF.out w5 HB5.out
    clear z0 z1 z2 z3 z4 z5 z6 y0 y1 y2 y3 y4 y5 y6 y7 y8
    obtain ⟨z0, z1, z2, z3, z4, z5, z6⟩ := seven_of q0
    obtain ⟨y0, y1, y2, y3, y4, y5, y6, y7, y8⟩ := nine_at q1
    clear q0 q1
    go_wp2
    go_ret
    exact ⟨by rw [HE.out]; rfl, HB.out.trans (HB5.out.mono HB.out.size)⟩
  · cases hb
    · have HE : Hid (votE S x.a x.b = 4) := by show _ = _; unfold votE; rw [HHA.out, HHB.out, HHAA.out, HHAB.out]; simp
      go_enter Tryz.func24, Tryz.ntmps24
      go_wp2_with fail
      rw [← HW.out]
      refine (HIA.out _ (by first | exact Below.refl _ _ | exact (Below.refl _ _).drew | exact below_dN' (Below.refl _ _) _)).mono ?_
      rintro e w5 ⟨rfl, hb5⟩
      have HB5 : Hid (Below W.heap.size W w5) := Below.trans (by first | exact Below.refl _ _ | exact (Below.refl _ _).drew | exact below_dN' (Below.refl _ _) _) (hb5.mono (by first | exact Nat.le_refl _ | exact Nat.le_of_eq rfl))
      clear hb5
      obtain ⟨q0, q1⟩ := HF.out w5 HB5.out
      clear z0 z1 z2 z3 z4 z5 z6 y0 y1 y2 y3 y4 y5 y6 y7 y8
      obtain ⟨z0, z1, z2, z3, z4, z5, z6⟩ := seven_of q0
      obtain ⟨y0, y1, y2, y3, y4, y5, y6, y7, y8⟩ := nine_at q1
      clear q0 q1
      go_wp2_with fail
      refine (HIB.out _ (by first | exact HB5.out | exact HB5.out.drew | exact below_dN' HB5.out _)).mono ?_
      rintro e w6 ⟨rfl, hb5⟩
      have HB6 : Hid (Below W.heap.size W w6) := Below.trans (by first | exact HB5.out | exact HB5.out.drew | exact below_dN' HB5.out _) (hb5.mono (by first | exact Nat.le_refl _ | exact Nat.le_of_eq rfl | exact HB5.out.size))
      clear hb5
      obtain ⟨q0, q1⟩ := HF.out w6 HB6.out
      clear z0 z1 z2 z3 z4 z5 z6 y0 y1 y2 y3 y4 y5 y6 y7 y8
      obtain ⟨z0, z1, z2, z3, z4, z5, z6⟩ := seven_of q0
      obtain ⟨y0, y1, y2, y3, y4, y5, y6, y7, y8⟩ := nine_at q1
      clear q0 q1
      go_wp2
      go_ret
      exact ⟨by rw [HE.out]; rfl, HB.out.trans (HB6.out.mono HB.out.size)⟩
    · simp only [Bool.true_and] at HAA HAB
      cases aa
      · have HE : Hid (votE S x.a x.b = 14) := by show _ = _; unfold votE; rw [HHA.out, HHB.out, HHAA.out, HHAB.out]; simp
        go_enter Tryz.func24, Tryz.ntmps24
        go_wp2_with fail
        rw [← HW.out]
        refine (HIA.out _ (by first | exact Below.refl _ _ | exact (Below.refl _ _).drew | exact below_dN' (Below.refl _ _) _)).mono ?_
        rintro e w5 ⟨rfl, hb5⟩
        have HB5 : Hid (Below W.heap.size W w5) := Below.trans (by first | exact Below.refl _ _ | exact (Below.refl _ _).drew | exact below_dN' (Below.refl _ _) _) (hb5.mono (by first | exact Nat.le_refl _ | exact Nat.le_of_eq rfl))
        clear hb5
        obtain ⟨q0, q1⟩ := HF.out w5 HB5.out
        clear z0 z1 z2 z3 z4 z5 z6 y0 y1 y2 y3 y4 y5 y6 y7 y8
        obtain ⟨z0, z1, z2, z3, z4, z5, z6⟩ := seven_of q0
        obtain ⟨y0, y1, y2, y3, y4, y5, y6, y7, y8⟩ := nine_at q1
        clear q0 q1
        go_wp2_with fail
        refine (HIB.out _ (by first | exact HB5.out | exact HB5.out.drew | exact below_dN' HB5.out _)).mono ?_
        rintro e w6 ⟨rfl, hb5⟩
        have HB6 : Hid (Below W.heap.size W w6) := Below.trans (by first | exact HB5.out | exact HB5.out.drew | exact below_dN' HB5.out _) (hb5.mono (by first | exact Nat.le_refl _ | exact Nat.le_of_eq rfl | exact HB5.out.size))
        clear hb5
        obtain ⟨q0, q1⟩ := HF.out w6 HB6.out
        clear z0 z1 z2 z3 z4 z5 z6 y0 y1 y2 y3 y4 y5 y6 y7 y8
        obtain ⟨z0, z1, z2, z3, z4, z5, z6⟩ := seven_of q0
        obtain ⟨y0, y1, y2, y3, y4, y5, y6, y7, y8⟩ := nine_at q1
        clear q0 q1
        go_wp2_with fail
        refine (HAA.out _ (by first | exact HB6.out | exact HB6.out.drew | exact below_dN' HB6.out _)).mono ?_
        rintro e w7 ⟨rfl, hb5⟩
        have HB7 : Hid (Below W.heap.size W w7) := Below.trans (by first | exact HB6.out | exact HB6.out.drew | exact below_dN' HB6.out _) (hb5.mono (by first | exact Nat.le_refl _ | exact Nat.le_of_eq rfl | exact HB6.out.size))
        clear hb5
        obtain ⟨q0, q1⟩ := HF.out w7 HB7.out
        clear z0 z1 z2 z3 z4 z5 z6 y0 y1 y2 y3 y4 y5 y6 y7 y8
        obtain ⟨z0, z1, z2, z3, z4, z5, z6⟩ := seven_of q0
        obtain ⟨y0, y1, y2, y3, y4, y5, y6, y7, y8⟩ := nine_at q1
        clear q0 q1
        go_wp2
        go_ret
        exact ⟨by rw [HE.out]; rfl, HB.out.trans (HB7.out.mono HB.out.size)⟩
      · by_cases he : x.a = x.b
        · have e0 : (x.a == x.b) = true := by simp [he]
          have HEQ := Lib.hid he
          clear he
          have HE : Hid (votE S x.a x.b = 14) := by show _ = _; unfold votE; rw [HHA.out, HHB.out, HHAA.out, HHAB.out]; simp [HEQ.out]
          go_enter Tryz.func24, Tryz.ntmps24
          go_wp2_with fail
          rw [← HW.out]
          refine (HIA.out _ (by first | exact Below.refl _ _ | exact (Below.refl _ _).drew | exact below_dN' (Below.refl _ _) _)).mono ?_
          rintro e w5 ⟨rfl, hb5⟩
          have HB5 : Hid (Below W.heap.size W w5) := Below.trans (by first | exact Below.refl _ _ | exact (Below.refl _ _).drew | exact below_dN' (Below.refl _ _) _) (hb5.mono (by first | exact Nat.le_refl _ | exact Nat.le_of_eq rfl))
          clear hb5
          obtain ⟨q0, q1⟩ := HF.out w5 HB5.out
          clear z0 z1 z2 z3 z4 z5 z6 y0 y1 y2 y3 y4 y5 y6 y7 y8
          obtain ⟨z0, z1, z2, z3, z4, z5, z6⟩ := seven_of q0
          obtain ⟨y0, y1, y2, y3, y4, y5, y6, y7, y8⟩ := nine_at q1
          clear q0 q1
          go_wp2_with fail
          refine (HIB.out _ (by first | exact HB5.out | exact HB5.out.drew | exact below_dN' HB5.out _)).mono ?_
          rintro e w6 ⟨rfl, hb5⟩
          have HB6 : Hid (Below W.heap.size W w6) := Below.trans (by first | exact HB5.out | exact HB5.out.drew | exact below_dN' HB5.out _) (hb5.mono (by first | exact Nat.le_refl _ | exact Nat.le_of_eq rfl | exact HB5.out.size))
          clear hb5
          obtain ⟨q0, q1⟩ := HF.out w6 HB6.out
          clear z0 z1 z2 z3 z4 z5 z6 y0 y1 y2 y3 y4 y5 y6 y7 y8
          obtain ⟨z0, z1, z2, z3, z4, z5, z6⟩ := seven_of q0
          obtain ⟨y0, y1, y2, y3, y4, y5, y6, y7, y8⟩ := nine_at q1
          clear q0 q1
          go_wp2_with fail
          refine (HAA.out _ (by first | exact HB6.out | exact HB6.out.drew | exact below_dN' HB6.out _)).mono ?_
          rintro e w7 ⟨rfl, hb5⟩
          have HB7 : Hid (Below W.heap.size W w7) := Below.trans (by first | exact HB6.out | exact HB6.out.drew | exact below_dN' HB6.out _) (hb5.mono (by first | exact Nat.le_refl _ | exact Nat.le_of_eq rfl | exact HB6.out.size))
          clear hb5
          obtain ⟨q0, q1⟩ := HF.out w7 HB7.out
          clear z0 z1 z2 z3 z4 z5 z6 y0 y1 y2 y3 y4 y5 y6 y7 y8
          obtain ⟨z0, z1, z2, z3, z4, z5, z6⟩ := seven_of q0
          obtain ⟨y0, y1, y2, y3, y4, y5, y6, y7, y8⟩ := nine_at q1
          clear q0 q1
          go_wp2
          go_ret
          exact ⟨by rw [HE.out]; rfl, HB.out.trans (HB7.out.mono HB.out.size)⟩
        · have e0 : (x.a == x.b) = false := by simp [he]
          have HEQ := Lib.hid he
          clear he
          cases ab
          · have HE : Hid (votE S x.a x.b = 6) := by show _ = _; unfold votE; rw [HHA.out, HHB.out, HHAA.out, HHAB.out]; simp [HEQ.out]
            go_enter Tryz.func24, Tryz.ntmps24
            go_wp2_with fail
            rw [← HW.out]
            refine (HIA.out _ (by first | exact Below.refl _ _ | exact (Below.refl _ _).drew | exact below_dN' (Below.refl _ _) _)).mono ?_
            rintro e w5 ⟨rfl, hb5⟩
            have HB5 : Hid (Below W.heap.size W w5) := Below.trans (by first | exact Below.refl _ _ | exact (Below.refl _ _).drew | exact below_dN' (Below.refl _ _) _) (hb5.mono (by first | exact Nat.le_refl _ | exact Nat.le_of_eq rfl))
            clear hb5
            obtain ⟨q0, q1⟩ := HF.out w5 HB5.out
            clear z0 z1 z2 z3 z4 z5 z6 y0 y1 y2 y3 y4 y5 y6 y7 y8
            obtain ⟨z0, z1, z2, z3, z4, z5, z6⟩ := seven_of q0
            obtain ⟨y0, y1, y2, y3, y4, y5, y6, y7, y8⟩ := nine_at q1
            clear q0 q1
            go_wp2_with fail
            refine (HIB.out _ (by first | exact HB5.out | exact HB5.out.drew | exact below_dN' HB5.out _)).mono ?_
            rintro e w6 ⟨rfl, hb5⟩
            have HB6 : Hid (Below W.heap.size W w6) := Below.trans (by first | exact HB5.out | exact HB5.out.drew | exact below_dN' HB5.out _) (hb5.mono (by first | exact Nat.le_refl _ | exact Nat.le_of_eq rfl | exact HB5.out.size))
            clear hb5
            obtain ⟨q0, q1⟩ := HF.out w6 HB6.out
            clear z0 z1 z2 z3 z4 z5 z6 y0 y1 y2 y3 y4 y5 y6 y7 y8
            obtain ⟨z0, z1, z2, z3, z4, z5, z6⟩ := seven_of q0
            obtain ⟨y0, y1, y2, y3, y4, y5, y6, y7, y8⟩ := nine_at q1
            clear q0 q1
            go_wp2_with fail
            refine (HAA.out _ (by first | exact HB6.out | exact HB6.out.drew | exact below_dN' HB6.out _)).mono ?_
            rintro e w7 ⟨rfl, hb5⟩
            have HB7 : Hid (Below W.heap.size W w7) := Below.trans (by first | exact HB6.out | exact HB6.out.drew | exact below_dN' HB6.out _) (hb5.mono (by first | exact Nat.le_refl _ | exact Nat.le_of_eq rfl | exact HB6.out.size))
            clear hb5
            obtain ⟨q0, q1⟩ := HF.out w7 HB7.out
            clear z0 z1 z2 z3 z4 z5 z6 y0 y1 y2 y3 y4 y5 y6 y7 y8
            obtain ⟨z0, z1, z2, z3, z4, z5, z6⟩ := seven_of q0
            obtain ⟨y0, y1, y2, y3, y4, y5, y6, y7, y8⟩ := nine_at q1
            clear q0 q1
            go_wp2_with fail
            refine (HAB.out _ (by first | exact HB7.out | exact HB7.out.drew | exact below_dN' HB7.out _)).mono ?_
            rintro e w8 ⟨rfl, hb5⟩
            have HB8 : Hid (Below W.heap.size W w8) := Below.trans (by first | exact HB7.out | exact HB7.out.drew | exact below_dN' HB7.out _) (hb5.mono (by first | exact Nat.le_refl _ | exact Nat.le_of_eq rfl | exact HB7.out.size))
            clear hb5
            obtain ⟨q0, q1⟩ := HF.out w8 HB8.out
            clear z0 z1 z2 z3 z4 z5 z6 y0 y1 y2 y3 y4 y5 y6 y7 y8
            obtain ⟨z0, z1, z2, z3, z4, z5, z6⟩ := seven_of q0
            obtain ⟨y0, y1, y2, y3, y4, y5, y6, y7, y8⟩ := nine_at q1
            clear q0 q1
            go_wp2
            go_ret
            exact ⟨by rw [HE.out]; rfl, HB.out.trans (HB8.out.mono HB.out.size)⟩
          · obtain ⟨vt, hvt⟩ : ∃ z, votedB S x.a x.b = z := ⟨_, rfl⟩
            have HVT : Hid ((counting S x.b).contains x.a = vt) := by
              show _ = _
              rw [← hvt]
              exact counting_contains HHA.out HHAA.out
            have HE : Hid (votE S x.a x.b = if vt = true then 5 else 0) := by show _ = _; unfold votE; rw [HHA.out, HHB.out, HHAA.out, HHAB.out, hvt]; simp [HEQ.out]
            clear hvt
            go_enter Tryz.func24, Tryz.ntmps24
            go_wp2_with fail
            rw [← HW.out]
            refine (HIA.out _ (by first | exact Below.refl _ _ | exact (Below.refl _ _).drew | exact below_dN' (Below.refl _ _) _)).mono ?_
            rintro e w5 ⟨rfl, hb5⟩
            have HB5 : Hid (Below W.heap.size W w5) := Below.trans (by first | exact Below.refl _ _ | exact (Below.refl _ _).drew | exact below_dN' (Below.refl _ _) _) (hb5.mono (by first | exact Nat.le_refl _ | exact Nat.le_of_eq rfl))
            clear hb5
            obtain ⟨q0, q1⟩ := HF.out w5 HB5.out
            clear z0 z1 z2 z3 z4 z5 z6 y0 y1 y2 y3 y4 y5 y6 y7 y8
            obtain ⟨z0, z1, z2, z3, z4, z5, z6⟩ := seven_of q0
            obtain ⟨y0, y1, y2, y3, y4, y5, y6, y7, y8⟩ := nine_at q1
            clear q0 q1
            go_wp2_with fail
            refine (HIB.out _ (by first | exact HB5.out | exact HB5.out.drew | exact below_dN' HB5.out _)).mono ?_
            rintro e w6 ⟨rfl, hb5⟩
            have HB6 : Hid (Below W.heap.size W w6) := Below.trans (by first | exact HB5.out | exact HB5.out.drew | exact below_dN' HB5.out _) (hb5.mono (by first | exact Nat.le_refl _ | exact Nat.le_of_eq rfl | exact HB5.out.size))
            clear hb5
            obtain ⟨q0, q1⟩ := HF.out w6 HB6.out
            clear z0 z1 z2 z3 z4 z5 z6 y0 y1 y2 y3 y4 y5 y6 y7 y8
            obtain ⟨z0, z1, z2, z3, z4, z5, z6⟩ := seven_of q0
            obtain ⟨y0, y1, y2, y3, y4, y5, y6, y7, y8⟩ := nine_at q1
            clear q0 q1
            go_wp2_with fail
            refine (HAA.out _ (by first | exact HB6.out | exact HB6.out.drew | exact below_dN' HB6.out _)).mono ?_
            rintro e w7 ⟨rfl, hb5⟩
            have HB7 : Hid (Below W.heap.size W w7) := Below.trans (by first | exact HB6.out | exact HB6.out.drew | exact below_dN' HB6.out _) (hb5.mono (by first | exact Nat.le_refl _ | exact Nat.le_of_eq rfl | exact HB6.out.size))
            clear hb5
            obtain ⟨q0, q1⟩ := HF.out w7 HB7.out
            clear z0 z1 z2 z3 z4 z5 z6 y0 y1 y2 y3 y4 y5 y6 y7 y8
            obtain ⟨z0, z1, z2, z3, z4, z5, z6⟩ := seven_of q0
            obtain ⟨y0, y1, y2, y3, y4, y5, y6, y7, y8⟩ := nine_at q1
            clear q0 q1
            go_wp2_with fail
            refine (HAB.out _ (by first | exact HB7.out | exact HB7.out.drew | exact below_dN' HB7.out _)).mono ?_
            rintro e w8 ⟨rfl, hb5⟩
            have HB8 : Hid (Below W.heap.size W w8) := Below.trans (by first | exact HB7.out | exact HB7.out.drew | exact below_dN' HB7.out _) (hb5.mono (by first | exact Nat.le_refl _ | exact Nat.le_of_eq rfl | exact HB7.out.size))
            clear hb5
            obtain ⟨q0, q1⟩ := HF.out w8 HB8.out
            clear z0 z1 z2 z3 z4 z5 z6 y0 y1 y2 y3 y4 y5 y6 y7 y8
            obtain ⟨z0, z1, z2, z3, z4, z5, z6⟩ := seven_of q0
            obtain ⟨y0, y1, y2, y3, y4, y5, y6, y7, y8⟩ := nine_at q1
            clear q0 q1
            go_wp2_with fail
            go_region_held3 (fun w' => w'.cell? ⟨w.heap.size, 0, none⟩ = some (.slice r.a1.a r.a1.n r.a1.c) ∧ w'.cell? ⟨w.heap.size, 1, none⟩ = some (.slice r.a2.a r.a2.n r.a2.c) ∧ w'.cell? ⟨w.heap.size, 2, none⟩ = some (.int .i64 r.q) ∧ w'.cell? ⟨w.heap.size, 3, none⟩ = some (.slice r.a3.a r.a3.n r.a3.c) ∧ w'.cell? ⟨w.heap.size, 4, none⟩ = some (.slice r.a4.a r.a4.n r.a4.c) ∧ w'.cell? ⟨w.heap.size, 5, none⟩ = some (.slice r.a5.a r.a5.n r.a5.c) ∧ w'.cell? ⟨w.heap.size, 6, none⟩ = some (.slice r.a6.a r.a6.n r.a6.c) ∧ w'.cell? ⟨w.heap.size + 1, 7, none⟩ = some (.int .i64 x.a) ∧ w'.cell? ⟨w.heap.size + 1, 8, none⟩ = some (.int .i64 x.b)) (first | (obtain ⟨q0, q1⟩ := HF.out w9 HB9.out; obtain ⟨a0, a1, a2, a3, a4, a5, a6⟩ := seven_of q0; obtain ⟨_, _, _, _, _, _, _, b7, b8⟩ := nine_at q1; exact ⟨a0, a1, a2, a3, a4, a5, a6, b7, b8⟩) | (obtain ⟨q0, q1⟩ := HF.out w8 HB8.out; obtain ⟨a0, a1, a2, a3, a4, a5, a6⟩ := seven_of q0; obtain ⟨_, _, _, _, _, _, _, b7, b8⟩ := nine_at q1; exact ⟨a0, a1, a2, a3, a4, a5, a6, b7, b8⟩)) (first | (go_at_call 25; refine (HCT.out _ (by first | exact HB8.out | exact HB8.out.drew | exact below_dN' HB8.out _)).mono ?_; rintro e w9 ⟨v9, rfl, ho9, hb9⟩; (have HB9 : Hid (Below W.heap.size W w9) := Below.trans (by first | exact HB8.out | exact HB8.out.drew | exact below_dN' HB8.out _) (hb9.mono (by first | exact HB8.out.size | exact HB8.out.drew.size))); (obtain ⟨A9, c9, hv9, _, hs9, _⟩ := Own.shape (f := I) ho9); subst hv9; (have HS9 : Hid (Sl I w9 w9.heap.size A9 (counting S x.b).length (counting S x.b)) := ⟨rfl, hs9⟩); clear ho9 hb9 hs9) | (go_at_call 26; (have hin := inI_any A9 _ (counting S x.b) c9 x.a w9 _ HS9.out (counting_le12 HI.out _)); (rw [HVT.out] at hin); refine hin.mono ?_; rintro e w10 ⟨rfl, rfl⟩))
            cases vt
            all_goals
              go_wp2
              go_ret
              exact ⟨by rw [HE.out]; rfl, HB.out.trans (HB9.out.mono HB.out.size)⟩
set_option maxRecDepth 20000 in
set_option maxHeartbeats 8000000 in
theorem rcheck_rep (r : RV) (S : St) (x : Chn) (w : World) (hC : RefC w w.heap.size r S) (hI : Inv S) (hk1 : x.kind ≠ 1) (hk2 : x.kind ≠ 2) :
    Calls Tryz.prog 24 #[r.val, aCh x] w (IntP (repE S x.v x.a x.b) w) := by
  obtain ⟨W, hW⟩ : ∃ W : World, W = (w.alloc r.obj).alloc (oXr x) := ⟨_, rfl⟩
  have hB : Below w.heap.size w W := by rw [hW]; exact ((Below.refl _ _).alloc (Nat.le_refl _) _).alloc (by simp) _
  have hg0 : W.heap[w.heap.size]? = some r.obj := by rw [hW]; exact (Below.heap_alloc _ _ _ (by simp)).trans (heap_alloc_new w _)
  have hg1 : W.heap[w.heap.size + 1]? = some (oXr x) := by rw [hW]; exact heap_new_at (w := w.alloc _) (by simp)
  have hCW := hC.on hB
  have HCW : Hid (∀ V, Below W.heap.size W V → RefC V V.heap.size r S) := fun V h => hCW.on h
  have HF : Hid (∀ V, Below W.heap.size W V → V.heap[w.heap.size]? = some r.obj ∧ V.heap[w.heap.size + 1]? = some (oXr x)) := fun V h => ⟨(h.block _ (lt_of_block hg0)).trans hg0, (h.block _ (lt_of_block hg1)).trans hg1⟩
  have HB := Lib.hid hB
  have HW := Lib.hid hW
  have hnl := hC.ms.1
  have HNL : Hid (S.ms.length = r.a4.n) := hC.ms.1
  have h12 := hI.n12
  have HI := Lib.hid hI
  have hn12 : r.a4.n ≤ 12 := by omega
  obtain ⟨z0, z1, z2, z3, z4, z5, z6⟩ := seven_of hg0
  obtain ⟨y0, y1, y2, y3, y4, y5, y6, y7, y8⟩ := nine_at hg1
  rw [hW] at z0 z1 z2 z3 z4 z5 z6 y0 y1 y2 y3 y4 y5 y6 y7 y8
  have k1 : (x.kind == 1) = false := by simp [hk1]
  have k2 : (x.kind == 2) = false := by simp [hk2]
  obtain ⟨hb, hhb⟩ : ∃ z, hasB S x.b = z := ⟨_, rfl⟩
  obtain ⟨ab, hab⟩ : ∃ z, actI S x.b = z := ⟨_, rfl⟩
  have HIB : Hid (∀ V, Below W.heap.size W V → Calls Tryz.prog 50 #[r.val, .int .i64 x.b] V (BoolB hb V)) := fun V h => hhb ▸ ris_any r S x.b V (hCW.on h)
  have HAB : Hid (∀ V, Below W.heap.size W V → Calls Tryz.prog 74 #[r.val, .int .i64 x.b] V (BoolB (hb && ab) V)) := fun V h => by
    have h5 := ractive_any r S x.b V (hCW.on h) (by omega)
    rw [hhb, hab] at h5
    exact h5
  have HHB := Lib.hid hhb
  have HHAB := Lib.hid hab
  cases hvl : vltOf S x.v with
  | none =>
    have HHS : Hid (∀ V, Below W.heap.size W V → Calls Tryz.prog 53 #[r.val, .int .i64 x.v] V (BoolB false V)) := fun V h => by
      have h5 := rhas_any r S x.v V (hCW.on h)
      rw [hvl] at h5
      exact h5
    have HE : Hid (repE S x.v x.a x.b = 4) := by show _ = _; unfold repE; rw [hvl]
    clear hC hB hg0 hg1 hCW hI hnl hW hk1 hk2 hhb hab hvl
    go_enter Tryz.func24, Tryz.ntmps24
    go_wp2_with fail
    rw [← HW.out]
    refine wp_region_noPanic ?_
    refine wp_region_held_drew (S := (fun w' => w'.cell? ⟨w.heap.size, 0, none⟩ = some (.slice r.a1.a r.a1.n r.a1.c) ∧ w'.cell? ⟨w.heap.size, 1, none⟩ = some (.slice r.a2.a r.a2.n r.a2.c) ∧ w'.cell? ⟨w.heap.size, 2, none⟩ = some (.int .i64 r.q) ∧ w'.cell? ⟨w.heap.size, 3, none⟩ = some (.slice r.a3.a r.a3.n r.a3.c) ∧ w'.cell? ⟨w.heap.size, 4, none⟩ = some (.slice r.a4.a r.a4.n r.a4.c) ∧ w'.cell? ⟨w.heap.size, 5, none⟩ = some (.slice r.a5.a r.a5.n r.a5.c) ∧ w'.cell? ⟨w.heap.size, 6, none⟩ = some (.slice r.a6.a r.a6.n r.a6.c) ∧ w'.cell? ⟨w.heap.size + 1, 6, none⟩ = some (.int .i64 x.v) ∧ w'.cell? ⟨w.heap.size + 1, 7, none⟩ = some (.int .i64 x.a) ∧ w'.cell? ⟨w.heap.size + 1, 8, none⟩ = some (.int .i64 x.b))) (by kernel_rfl) (by (obtain ⟨q0, q1⟩ := HF.out W (Below.refl _ _); obtain ⟨a0, a1, a2, a3, a4, a5, a6⟩ := seven_of q0; obtain ⟨_, _, _, _, _, _, b6, b7, b8⟩ := nine_at q1; exact ⟨a0, a1, a2, a3, a4, a5, a6, b6, b7, b8⟩)) (fun hHeld => ?_)
    refine wpAnyH_take (i := 0) (v := ?zav0) (by simp only [List.getElem?_toArray, List.getElem?_cons_zero]; rfl) (by kernel_rfl) (by kernel_rfl) (by kernel_rfl) (by exact fun _ _ _ h => h) (Or.inl ⟨by rfl, ?zay0⟩) (by assumption) ?zar0
    case zay0 => (intro w hSw; (try dsimp only at hSw); go_simp; try (with_reducible rfl))
    try simp only [Act.put, List.setIfInBounds_toArray, List.set_cons_zero, List.set_cons_succ]
    refine wpAnyH_take (i := 1) (v := ?zav1) (by simp only [List.getElem?_toArray, List.getElem?_cons_succ, List.getElem?_cons_zero]; rfl) (by kernel_rfl) (by kernel_rfl) (by kernel_rfl) (by exact fun _ _ _ h => h) (Or.inl ⟨by rfl, ?zay1⟩) (by assumption) ?zar1
    case zay1 => (intro w hSw; (try dsimp only at hSw); go_simp; try (with_reducible rfl))
    try simp only [Act.put, List.setIfInBounds_toArray, List.set_cons_zero, List.set_cons_succ]
    refine wpAnyH_take (i := 2) (v := ?zav2) (by simp only [List.getElem?_toArray, List.getElem?_cons_succ, List.getElem?_cons_zero]; rfl) (by kernel_rfl) (by kernel_rfl) (by kernel_rfl) (by exact fun _ _ _ h => h) (Or.inl ⟨by rfl, ?zay2⟩) (by assumption) ?zar2
    case zay2 => (intro w hSw; (try dsimp only at hSw); go_simp; try (with_reducible rfl))
    try simp only [Act.put, List.setIfInBounds_toArray, List.set_cons_zero, List.set_cons_succ]
    refine wpAnyH_ready (rs := [3]) (by kernel_rfl) (by simp) ?_
    refine AllReadyH.cons (by simp only [List.getElem?_toArray, List.getElem?_cons_succ, List.getElem?_cons_zero]; rfl) (fun K hK => ?_) AllReadyH.nil
    go_simp
    (with_reducible refine (HHS.out _ (by first | exact Below.refl _ _ | exact (Below.refl _ _).drew | exact below_dN' (Below.refl _ _) _)).mono ?_)
    rintro e w5 ⟨rfl, hb5⟩
    have HB5 : Hid (Below W.heap.size W w5) := Below.trans (by first | exact Below.refl _ _ | exact (Below.refl _ _).drew | exact below_dN' (Below.refl _ _) _) (hb5.mono (by first | exact Nat.le_refl _ | exact Nat.le_of_eq rfl))
    clear hb5
    go_wp2_with fail
    refine hK.out _ _ (by (obtain ⟨q0, q1⟩ := HF.out w5 HB5.out; obtain ⟨a0, a1, a2, a3, a4, a5, a6⟩ := seven_of q0; obtain ⟨_, _, _, _, _, _, b6, b7, b8⟩ := nine_at q1; exact ⟨a0, a1, a2, a3, a4, a5, a6, b6, b7, b8⟩)) (fun hHeld1 => ?_)
    clear hK K hHeld
    try simp only [Act.put, List.setIfInBounds_toArray, List.set_cons_zero, List.set_cons_succ]
    refine wpAnyH_take (i := 4) (v := ?zav4) (by simp only [List.getElem?_toArray, List.getElem?_cons_succ, List.getElem?_cons_zero]; rfl) (by kernel_rfl) (by kernel_rfl) (by kernel_rfl) (by exact fun _ _ _ h => h) (Or.inl ⟨by rfl, ?zay4⟩) (by assumption) ?zar4
    case zay4 => (intro w hSw; (try dsimp only at hSw); go_simp; try (with_reducible rfl))
    try simp only [Act.put, List.setIfInBounds_toArray, List.set_cons_zero, List.set_cons_succ]
    refine wpAnyH_take (i := 5) (v := ?zav5) (by simp only [List.getElem?_toArray, List.getElem?_cons_succ, List.getElem?_cons_zero]; rfl) (by kernel_rfl) (by kernel_rfl) (by kernel_rfl) (by exact fun _ _ _ h => h) (Or.inl ⟨by rfl, ?zay5⟩) (by assumption) ?zar5
    case zay5 => (intro w hSw; (try dsimp only at hSw); go_simp; try (with_reducible rfl))
    try simp only [Act.put, List.setIfInBounds_toArray, List.set_cons_zero, List.set_cons_succ]
    refine wpAnyH_take (i := 6) (v := undef) (by simp only [List.getElem?_toArray, List.getElem?_cons_succ, List.getElem?_cons_zero]; rfl) (by kernel_rfl) (by kernel_rfl) (by kernel_rfl) (by exact fun _ _ _ h => h) (Or.inr ⟨by rfl, rfl⟩) (by assumption) ?_
    try simp only [Act.put, List.setIfInBounds_toArray, List.set_cons_zero, List.set_cons_succ]
    refine wpAnyH_take (i := 7) (v := undef) (by simp only [List.getElem?_toArray, List.getElem?_cons_succ, List.getElem?_cons_zero]; rfl) (by kernel_rfl) (by kernel_rfl) (by kernel_rfl) (by exact fun _ _ _ h => h) (Or.inr ⟨by rfl, rfl⟩) (by assumption) ?_
    try simp only [Act.put, List.setIfInBounds_toArray, List.set_cons_zero, List.set_cons_succ]
    refine wpAnyH_take (i := 8) (v := undef) (by simp only [List.getElem?_toArray, List.getElem?_cons_succ, List.getElem?_cons_zero]; rfl) (by kernel_rfl) (by kernel_rfl) (by kernel_rfl) (by exact fun _ _ _ h => h) (Or.inr ⟨by rfl, rfl⟩) (by assumption) ?_
    try simp only [Act.put, List.setIfInBounds_toArray, List.set_cons_zero, List.set_cons_succ]
    refine wpAnyH_take (i := 9) (v := undef) (by simp only [List.getElem?_toArray, List.getElem?_cons_succ, List.getElem?_cons_zero]; rfl) (by kernel_rfl) (by kernel_rfl) (by kernel_rfl) (by exact fun _ _ _ h => h) (Or.inr ⟨by rfl, rfl⟩) (by assumption) ?_
    try simp only [Act.put, List.setIfInBounds_toArray, List.set_cons_zero, List.set_cons_succ]
    refine wpAnyH_take (i := 10) (v := undef) (by simp only [List.getElem?_toArray, List.getElem?_cons_succ, List.getElem?_cons_zero]; rfl) (by kernel_rfl) (by kernel_rfl) (by kernel_rfl) (by exact fun _ _ _ h => h) (Or.inr ⟨by rfl, rfl⟩) (by assumption) ?_
    try simp only [Act.put, List.setIfInBounds_toArray, List.set_cons_zero, List.set_cons_succ]
    refine wpAnyH_take (i := 11) (v := undef) (by simp only [List.getElem?_toArray, List.getElem?_cons_succ, List.getElem?_cons_zero]; rfl) (by kernel_rfl) (by kernel_rfl) (by kernel_rfl) (by exact fun _ _ _ h => h) (Or.inr ⟨by rfl, rfl⟩) (by assumption) ?_
    try simp only [Act.put, List.setIfInBounds_toArray, List.set_cons_zero, List.set_cons_succ]
    refine wpAnyH_take (i := 12) (v := undef) (by simp only [List.getElem?_toArray, List.getElem?_cons_succ, List.getElem?_cons_zero]; rfl) (by kernel_rfl) (by kernel_rfl) (by kernel_rfl) (by exact fun _ _ _ h => h) (Or.inr ⟨by rfl, rfl⟩) (by assumption) ?_
    try simp only [Act.put, List.setIfInBounds_toArray, List.set_cons_zero, List.set_cons_succ]
    refine wpAnyH_take (i := 13) (v := undef) (by simp only [List.getElem?_toArray, List.getElem?_cons_succ, List.getElem?_cons_zero]; rfl) (by kernel_rfl) (by kernel_rfl) (by kernel_rfl) (by exact fun _ _ _ h => h) (Or.inr ⟨by rfl, rfl⟩) (by assumption) ?_
    try simp only [Act.put, List.setIfInBounds_toArray, List.set_cons_zero, List.set_cons_succ]
    refine wpAnyH_take (i := 14) (v := undef) (by simp only [List.getElem?_toArray, List.getElem?_cons_succ, List.getElem?_cons_zero]; rfl) (by kernel_rfl) (by kernel_rfl) (by kernel_rfl) (by exact fun _ _ _ h => h) (Or.inr ⟨by rfl, rfl⟩) (by assumption) ?_
    try simp only [Act.put, List.setIfInBounds_toArray, List.set_cons_zero, List.set_cons_succ]
    refine wpAnyH_take (i := 15) (v := undef) (by simp only [List.getElem?_toArray, List.getElem?_cons_succ, List.getElem?_cons_zero]; rfl) (by kernel_rfl) (by kernel_rfl) (by kernel_rfl) (by exact fun _ _ _ h => h) (Or.inr ⟨by rfl, rfl⟩) (by assumption) ?_
    try simp only [Act.put, List.setIfInBounds_toArray, List.set_cons_zero, List.set_cons_succ]
    refine wpAnyH_take (i := 16) (v := undef) (by simp only [List.getElem?_toArray, List.getElem?_cons_succ, List.getElem?_cons_zero]; rfl) (by kernel_rfl) (by kernel_rfl) (by kernel_rfl) (by exact fun _ _ _ h => h) (Or.inr ⟨by rfl, rfl⟩) (by assumption) ?_
    try simp only [Act.put, List.setIfInBounds_toArray, List.set_cons_zero, List.set_cons_succ]
    refine wpAnyH_take (i := 17) (v := ?zav17) (by simp only [List.getElem?_toArray, List.getElem?_cons_succ, List.getElem?_cons_zero]; rfl) (by kernel_rfl) (by kernel_rfl) (by kernel_rfl) (by exact fun _ _ _ h => h) (Or.inl ⟨by rfl, ?zay17⟩) (by assumption) ?zar17
    case zay17 => (intro w hSw; (try dsimp only at hSw); go_simp; try (with_reducible rfl))
    try simp only [Act.put, List.setIfInBounds_toArray, List.set_cons_zero, List.set_cons_succ]
    refine wpAnyH_take (i := 18) (v := ?zav18) (by simp only [List.getElem?_toArray, List.getElem?_cons_succ, List.getElem?_cons_zero]; rfl) (by kernel_rfl) (by kernel_rfl) (by kernel_rfl) (by exact fun _ _ _ h => h) (Or.inl ⟨by rfl, ?zay18⟩) (by assumption) ?zar18
    case zay18 => (intro w hSw; (try dsimp only at hSw); go_simp; try (with_reducible rfl))
    try simp only [Act.put, List.setIfInBounds_toArray, List.set_cons_zero, List.set_cons_succ]
    refine wpAnyH_take (i := 19) (v := undef) (by simp only [List.getElem?_toArray, List.getElem?_cons_succ, List.getElem?_cons_zero]; rfl) (by kernel_rfl) (by kernel_rfl) (by kernel_rfl) (by exact fun _ _ _ h => h) (Or.inr ⟨by rfl, rfl⟩) (by assumption) ?_
    try simp only [Act.put, List.setIfInBounds_toArray, List.set_cons_zero, List.set_cons_succ]
    refine wpAnyH_take (i := 20) (v := undef) (by simp only [List.getElem?_toArray, List.getElem?_cons_succ, List.getElem?_cons_zero]; rfl) (by kernel_rfl) (by kernel_rfl) (by kernel_rfl) (by exact fun _ _ _ h => h) (Or.inr ⟨by rfl, rfl⟩) (by assumption) ?_
    try simp only [Act.put, List.setIfInBounds_toArray, List.set_cons_zero, List.set_cons_succ]
    refine wpAnyH_take (i := 21) (v := undef) (by simp only [List.getElem?_toArray, List.getElem?_cons_succ, List.getElem?_cons_zero]; rfl) (by kernel_rfl) (by kernel_rfl) (by kernel_rfl) (by exact fun _ _ _ h => h) (Or.inr ⟨by rfl, rfl⟩) (by assumption) ?_
    try simp only [Act.put, List.setIfInBounds_toArray, List.set_cons_zero, List.set_cons_succ]
    refine wpAnyH_take (i := 22) (v := undef) (by simp only [List.getElem?_toArray, List.getElem?_cons_succ, List.getElem?_cons_zero]; rfl) (by kernel_rfl) (by kernel_rfl) (by kernel_rfl) (by exact fun _ _ _ h => h) (Or.inr ⟨by rfl, rfl⟩) (by assumption) ?_
    try simp only [Act.put, List.setIfInBounds_toArray, List.set_cons_zero, List.set_cons_succ]
    refine wpAnyH_take (i := 23) (v := undef) (by simp only [List.getElem?_toArray, List.getElem?_cons_succ, List.getElem?_cons_zero]; rfl) (by kernel_rfl) (by kernel_rfl) (by kernel_rfl) (by exact fun _ _ _ h => h) (Or.inr ⟨by rfl, rfl⟩) (by assumption) ?_
    try simp only [Act.put, List.setIfInBounds_toArray, List.set_cons_zero, List.set_cons_succ]
    refine wpAnyH_take (i := 24) (v := ?zav24) (by simp only [List.getElem?_toArray, List.getElem?_cons_succ, List.getElem?_cons_zero]; rfl) (by kernel_rfl) (by kernel_rfl) (by kernel_rfl) (by exact fun _ _ _ h => h) (Or.inl ⟨by rfl, ?zay24⟩) (by assumption) ?zar24
    case zay24 => (intro w hSw; (try dsimp only at hSw); go_simp; try (with_reducible rfl))
    try simp only [Act.put, List.setIfInBounds_toArray, List.set_cons_zero, List.set_cons_succ]
    refine wpAnyH_done (by kernel_rfl) ?_ _
    refine NoPanic.normal ?_
    go_wp2
    go_ret
    exact ⟨by rw [HE.out]; rfl, HB.out.trans (HB5.out.mono HB.out.size)⟩
  | some y =>
    have hwr := hI.wsr y (List.mem_of_getElem? (vltOf_get hvl).1)
    have hw3 := hI.ws3 y (List.mem_of_getElem? (vltOf_get hvl).1)
    have HHS : Hid (∀ V, Below W.heap.size W V → Calls Tryz.prog 53 #[r.val, .int .i64 x.v] V (BoolB true V)) := fun V h => by
      have h5 := rhas_any r S x.v V (hCW.on h)
      rw [hvl] at h5
      exact h5
    obtain ⟨ps, hvi, hps⟩ := hCW.vs
    obtain ⟨hvg, hv0, hv1⟩ := vltOf_get hvl
    have hpl : ps.length = S.vs.length := by rw [← hps, List.length_map]
    obtain ⟨kv, hkv⟩ : ∃ kv : Nat, x.v = kv := ⟨x.v.toNat, by omega⟩
    have hkl : kv < r.a5.n := by rw [← hvi.1.1, hpl]; omega
    obtain ⟨bv, ov, pv, ha5, hbv, hpk, hcell⟩ := hvi.1.at_ hkl
    have hpx : pv.1 = y := by
      rw [hkv, show ((kv : Nat) : Int).toNat = kv by omega] at hvg
      rw [← hps, List.getElem?_map, hpk] at hvg
      exact Option.some.inj hvg
    have hsw := hvi.2 pv (List.mem_of_getElem? hpk)
    rw [hpx] at hsw
    have cv1 := (fifteen hcell).2.1
    have HVC : Hid (∀ V, Below W.heap.size W V → V.cell? ⟨bv, ov + kv * 15 + 1, none⟩ = some (.slice pv.2.a pv.2.n pv.2.c)) := fun V h => (h.cell (p := ⟨bv, ov + kv * 15 + 1, none⟩) hbv).trans cv1
    obtain ⟨ca, hca⟩ : ∃ z, y.ws.contains x.a = z := ⟨_, rfl⟩
    obtain ⟨cb, hcb⟩ : ∃ z, y.ws.contains x.b = z := ⟨_, rfl⟩
    have hpl2 := hsw.1
    have HN1 : Hid (∀ V, Below W.heap.size W V → Calls Tryz.prog 26 #[.slice pv.2.a pv.2.n pv.2.c, .int .i64 x.a] V fun e w' => e = .returned (.bool ca) ∧ V = w') := fun V h => hca ▸ inI_any _ _ y.ws _ x.a V _ (hsw.up h (Nat.le_refl _)) (by omega)
    have HN2 : Hid (∀ V, Below W.heap.size W V → Calls Tryz.prog 26 #[.slice pv.2.a pv.2.n pv.2.c, .int .i64 x.b] V fun e w' => e = .returned (.bool cb) ∧ V = w') := fun V h => hcb ▸ inI_any _ _ y.ws _ x.b V _ (hsw.up h (Nat.le_refl _)) (by omega)
    have hkv0 : (0 : Int) ≤ (kv : Int) := by omega
    have hkv1 : (kv : Int) < (r.a5.n : Int) := by omega
    obtain ⟨aa, haa⟩ : ∃ z, actI S x.a = z := ⟨_, rfl⟩
    have HAA : Hid (ca = true → ∀ V, Below W.heap.size W V → Calls Tryz.prog 74 #[r.val, .int .i64 x.a] V (BoolB aa V)) := fun hc V h => by
      have h5 := ractive_any r S x.a V (hCW.on h) (by omega)
      rw [hasB_iff.2 (hwr x.a (by rw [hc] at hca; simpa using hca)), haa, Bool.true_and] at h5
      exact h5
    have HE : Hid (repE S x.v x.a x.b = if ca = false ∨ hb = false then 4 else if aa = true ∨ ab = false then 6 else if cb = true then 5 else 0) := by show _ = _; unfold repE; rw [hvl]; simp only; rw [hca, hcb, hhb, hab, haa]
    clear hC hB hg0 hg1 hCW hI hnl hW hk1 hk2 hhb hab hvl hwr hw3 hvi hps hvg hv0 hv1 hpl hkl hbv hpk hcell hpx hsw cv1 hca hcb hpl2 haa
    obtain ⟨r1, r2, rq, r3, r4, ⟨r5a, r5n, r5c⟩, r6⟩ := r
    obtain ⟨xk, xm, xv, xa, xb⟩ := x
    dsimp only at *
    subst ha5
    subst hkv
    cases ca
    · go_enter Tryz.func24, Tryz.ntmps24
      go_wp2_with fail
      rw [← HW.out]
      refine wp_region_noPanic ?_
      refine wp_region_held_drew (S := (fun w' => w'.cell? ⟨w.heap.size, 0, none⟩ = some (.slice r1.a r1.n r1.c) ∧ w'.cell? ⟨w.heap.size, 1, none⟩ = some (.slice r2.a r2.n r2.c) ∧ w'.cell? ⟨w.heap.size, 2, none⟩ = some (.int .i64 rq) ∧ w'.cell? ⟨w.heap.size, 3, none⟩ = some (.slice r3.a r3.n r3.c) ∧ w'.cell? ⟨w.heap.size, 4, none⟩ = some (.slice r4.a r4.n r4.c) ∧ w'.cell? ⟨w.heap.size, 5, none⟩ = some (.slice (some ⟨bv, ov, none⟩) r5n r5c) ∧ w'.cell? ⟨w.heap.size, 6, none⟩ = some (.slice r6.a r6.n r6.c) ∧ w'.cell? ⟨w.heap.size + 1, 6, none⟩ = some (.int .i64 (kv : Int)) ∧ w'.cell? ⟨w.heap.size + 1, 7, none⟩ = some (.int .i64 xa) ∧ w'.cell? ⟨w.heap.size + 1, 8, none⟩ = some (.int .i64 xb) ∧ w'.cell? ⟨bv, ov + kv * 15 + 1, none⟩ = some (.slice pv.2.a pv.2.n pv.2.c))) (by kernel_rfl) (by (obtain ⟨q0, q1⟩ := HF.out W (Below.refl _ _); obtain ⟨a0, a1, a2, a3, a4, a5, a6⟩ := seven_of q0; obtain ⟨_, _, _, _, _, _, b6, b7, b8⟩ := nine_at q1; exact ⟨a0, a1, a2, a3, a4, a5, a6, b6, b7, b8, HVC.out W (Below.refl _ _)⟩)) (fun hHeld => ?_)
      refine wpAnyH_take (i := 0) (v := ?zb1v0) (by simp only [List.getElem?_toArray, List.getElem?_cons_zero]; rfl) (by kernel_rfl) (by kernel_rfl) (by kernel_rfl) (by exact fun _ _ _ h => h) (Or.inl ⟨by rfl, ?zb1y0⟩) (by assumption) ?zb1r0
      case zb1y0 => (intro w hSw; (try dsimp only at hSw); go_simp; try (with_reducible rfl))
      try simp only [Act.put, List.setIfInBounds_toArray, List.set_cons_zero, List.set_cons_succ]
      refine wpAnyH_take (i := 1) (v := ?zb1v1) (by simp only [List.getElem?_toArray, List.getElem?_cons_succ, List.getElem?_cons_zero]; rfl) (by kernel_rfl) (by kernel_rfl) (by kernel_rfl) (by exact fun _ _ _ h => h) (Or.inl ⟨by rfl, ?zb1y1⟩) (by assumption) ?zb1r1
      case zb1y1 => (intro w hSw; (try dsimp only at hSw); go_simp; try (with_reducible rfl))
      try simp only [Act.put, List.setIfInBounds_toArray, List.set_cons_zero, List.set_cons_succ]
      refine wpAnyH_take (i := 2) (v := ?zb1v2) (by simp only [List.getElem?_toArray, List.getElem?_cons_succ, List.getElem?_cons_zero]; rfl) (by kernel_rfl) (by kernel_rfl) (by kernel_rfl) (by exact fun _ _ _ h => h) (Or.inl ⟨by rfl, ?zb1y2⟩) (by assumption) ?zb1r2
      case zb1y2 => (intro w hSw; (try dsimp only at hSw); go_simp; try (with_reducible rfl))
      try simp only [Act.put, List.setIfInBounds_toArray, List.set_cons_zero, List.set_cons_succ]
      refine wpAnyH_ready (rs := [3]) (by kernel_rfl) (by simp) ?_
      refine AllReadyH.cons (by simp only [List.getElem?_toArray, List.getElem?_cons_succ, List.getElem?_cons_zero]; rfl) (fun K hK => ?_) AllReadyH.nil
      go_simp
      (with_reducible refine (HHS.out _ (by first | exact Below.refl _ _ | exact (Below.refl _ _).drew | exact below_dN' (Below.refl _ _) _)).mono ?_)
      rintro e w5 ⟨rfl, hb5⟩
      have HB5 : Hid (Below W.heap.size W w5) := Below.trans (by first | exact Below.refl _ _ | exact (Below.refl _ _).drew | exact below_dN' (Below.refl _ _) _) (hb5.mono (by first | exact Nat.le_refl _ | exact Nat.le_of_eq rfl))
      clear hb5
      go_wp2_with fail
      refine hK.out _ _ (by (obtain ⟨q0, q1⟩ := HF.out w5 HB5.out; obtain ⟨a0, a1, a2, a3, a4, a5, a6⟩ := seven_of q0; obtain ⟨_, _, _, _, _, _, b6, b7, b8⟩ := nine_at q1; exact ⟨a0, a1, a2, a3, a4, a5, a6, b6, b7, b8, HVC.out w5 HB5.out⟩)) (fun hHeld1 => ?_)
      clear hK K hHeld
      try simp only [Act.put, List.setIfInBounds_toArray, List.set_cons_zero, List.set_cons_succ]
      refine wpAnyH_take (i := 4) (v := ?zb1v4) (by simp only [List.getElem?_toArray, List.getElem?_cons_succ, List.getElem?_cons_zero]; rfl) (by kernel_rfl) (by kernel_rfl) (by kernel_rfl) (by exact fun _ _ _ h => h) (Or.inl ⟨by rfl, ?zb1y4⟩) (by assumption) ?zb1r4
      case zb1y4 => (intro w hSw; (try dsimp only at hSw); go_simp; try (with_reducible rfl))
      try simp only [Act.put, List.setIfInBounds_toArray, List.set_cons_zero, List.set_cons_succ]
      refine wpAnyH_take (i := 5) (v := ?zb1v5) (by simp only [List.getElem?_toArray, List.getElem?_cons_succ, List.getElem?_cons_zero]; rfl) (by kernel_rfl) (by kernel_rfl) (by kernel_rfl) (by exact fun _ _ _ h => h) (Or.inl ⟨by rfl, ?zb1y5⟩) (by assumption) ?zb1r5
      case zb1y5 => (intro w hSw; (try dsimp only at hSw); go_simp; try (with_reducible rfl))
      try simp only [Act.put, List.setIfInBounds_toArray, List.set_cons_zero, List.set_cons_succ]
      refine wpAnyH_take (i := 6) (v := ?zb1v6) (by simp only [List.getElem?_toArray, List.getElem?_cons_succ, List.getElem?_cons_zero]; rfl) (by kernel_rfl) (by kernel_rfl) (by kernel_rfl) (by exact fun _ _ _ h => h) (Or.inl ⟨by rfl, ?zb1y6⟩) (by assumption) ?zb1r6
      case zb1y6 => (intro w hSw; (try dsimp only at hSw); go_simp; try (with_reducible rfl))
      try simp only [Act.put, List.setIfInBounds_toArray, List.set_cons_zero, List.set_cons_succ]
      refine wpAnyH_take (i := 7) (v := ?zb1v7) (by simp only [List.getElem?_toArray, List.getElem?_cons_succ, List.getElem?_cons_zero]; rfl) (by kernel_rfl) (by kernel_rfl) (by kernel_rfl) (by exact fun _ _ _ h => h) (Or.inl ⟨by rfl, ?zb1y7⟩) (by assumption) ?zb1r7
      case zb1y7 => (intro w hSw; (try dsimp only at hSw); go_simp; try (with_reducible rfl))
      try simp only [Act.put, List.setIfInBounds_toArray, List.set_cons_zero, List.set_cons_succ]
      refine wpAnyH_take (i := 8) (v := ?zb1v8) (by simp only [List.getElem?_toArray, List.getElem?_cons_succ, List.getElem?_cons_zero]; rfl) (by kernel_rfl) (by kernel_rfl) (by kernel_rfl) (by exact fun _ _ _ h => h) (Or.inl ⟨by rfl, ?zb1y8⟩) (by assumption) ?zb1r8
      case zb1y8 => (intro w hSw; (try dsimp only at hSw); go_simp; try (with_reducible rfl))
      try simp only [Act.put, List.setIfInBounds_toArray, List.set_cons_zero, List.set_cons_succ]
      refine wpAnyH_take (i := 9) (v := ?zb1v9) (by simp only [List.getElem?_toArray, List.getElem?_cons_succ, List.getElem?_cons_zero]; rfl) (by kernel_rfl) (by kernel_rfl) (by kernel_rfl) (by exact fun _ _ _ h => h) (Or.inl ⟨by rfl, ?zb1y9⟩) (by assumption) ?zb1r9
      case zb1y9 => (intro w hSw; (try dsimp only at hSw); go_simp; try (with_reducible rfl))
      try simp only [Act.put, List.setIfInBounds_toArray, List.set_cons_zero, List.set_cons_succ]
      refine wpAnyH_take (i := 10) (v := ?zb1v10) (by simp only [List.getElem?_toArray, List.getElem?_cons_succ, List.getElem?_cons_zero]; rfl) (by kernel_rfl) (by kernel_rfl) (by kernel_rfl) (by exact fun _ _ _ h => h) (Or.inl ⟨by rfl, ?zb1y10⟩) (by assumption) ?zb1r10
      case zb1y10 => (intro w hSw; (try dsimp only at hSw); go_simp; try (with_reducible rfl))
      try simp only [Act.put, List.setIfInBounds_toArray, List.set_cons_zero, List.set_cons_succ]
      refine wpAnyH_take (i := 11) (v := ?zb1v11) (by simp only [List.getElem?_toArray, List.getElem?_cons_succ, List.getElem?_cons_zero]; rfl) (by kernel_rfl) (by kernel_rfl) (by kernel_rfl) (by exact fun _ _ _ h => h) (Or.inl ⟨by rfl, ?zb1y11⟩) (by assumption) ?zb1r11
      case zb1y11 => (intro w hSw; (try dsimp only at hSw); go_simp; try (with_reducible rfl))
      try simp only [Act.put, List.setIfInBounds_toArray, List.set_cons_zero, List.set_cons_succ]
      refine wpAnyH_take (i := 12) (v := ?zb1v12) (by simp only [List.getElem?_toArray, List.getElem?_cons_succ, List.getElem?_cons_zero]; rfl) (by kernel_rfl) (by kernel_rfl) (by kernel_rfl) (by exact fun _ _ _ h => h) (Or.inl ⟨by rfl, ?zb1y12⟩) (by assumption) ?zb1r12
      case zb1y12 => (intro w hSw; (try dsimp only at hSw); go_simp; try (with_reducible rfl))
      try simp only [Act.put, List.setIfInBounds_toArray, List.set_cons_zero, List.set_cons_succ]
      refine wpAnyH_take (i := 13) (v := ?zb1v13) (by simp only [List.getElem?_toArray, List.getElem?_cons_succ, List.getElem?_cons_zero]; rfl) (by kernel_rfl) (by kernel_rfl) (by kernel_rfl) (by exact fun _ _ _ h => h) (Or.inl ⟨by rfl, ?zb1y13⟩) (by assumption) ?zb1r13
      case zb1y13 => (intro w hSw; (try dsimp only at hSw); go_simp; try (with_reducible rfl))
      try simp only [Act.put, List.setIfInBounds_toArray, List.set_cons_zero, List.set_cons_succ]
      refine wpAnyH_take (i := 14) (v := ?zb1v14) (by simp only [List.getElem?_toArray, List.getElem?_cons_succ, List.getElem?_cons_zero]; rfl) (by kernel_rfl) (by kernel_rfl) (by kernel_rfl) (by exact fun _ _ _ h => h) (Or.inl ⟨by rfl, ?zb1y14⟩) (by assumption) ?zb1r14
      case zb1y14 => (intro w hSw; (try dsimp only at hSw); go_simp; try (with_reducible rfl))
      try simp only [Act.put, List.setIfInBounds_toArray, List.set_cons_zero, List.set_cons_succ]
      refine wpAnyH_ready (rs := [15]) (by kernel_rfl) (by simp) ?_
      refine AllReadyH.cons (by simp only [List.getElem?_toArray, List.getElem?_cons_succ, List.getElem?_cons_zero]; rfl) (fun K hK => ?_) AllReadyH.nil
      go_simp
      (with_reducible refine (HN1.out _ (by first | exact HB5.out | exact HB5.out.drew | exact below_dN' HB5.out _)).mono ?_)
      rintro e w7 ⟨rfl, rfl⟩
      go_wp2_with fail
      refine hK.out _ _ (by (obtain ⟨q0, q1⟩ := HF.out w5 HB5.out; obtain ⟨a0, a1, a2, a3, a4, a5, a6⟩ := seven_of q0; obtain ⟨_, _, _, _, _, _, b6, b7, b8⟩ := nine_at q1; exact ⟨a0, a1, a2, a3, a4, a5, a6, b6, b7, b8, HVC.out w5 HB5.out⟩)) (fun hHeld2 => ?_)
      clear hK K hHeld1
      try simp only [Act.put, List.setIfInBounds_toArray, List.set_cons_zero, List.set_cons_succ]
      refine wpAnyH_take (i := 16) (v := ?zb1v16) (by simp only [List.getElem?_toArray, List.getElem?_cons_succ, List.getElem?_cons_zero]; rfl) (by kernel_rfl) (by kernel_rfl) (by kernel_rfl) (by exact fun _ _ _ h => h) (Or.inl ⟨by rfl, ?zb1y16⟩) (by assumption) ?zb1r16
      case zb1y16 => (intro w hSw; (try dsimp only at hSw); go_simp; try (with_reducible rfl))
      try simp only [Act.put, List.setIfInBounds_toArray, List.set_cons_zero, List.set_cons_succ]
      refine wpAnyH_take (i := 17) (v := ?zb1v17) (by simp only [List.getElem?_toArray, List.getElem?_cons_succ, List.getElem?_cons_zero]; rfl) (by kernel_rfl) (by kernel_rfl) (by kernel_rfl) (by exact fun _ _ _ h => h) (Or.inl ⟨by rfl, ?zb1y17⟩) (by assumption) ?zb1r17
      case zb1y17 => (intro w hSw; (try dsimp only at hSw); go_simp; try (with_reducible rfl))
      try simp only [Act.put, List.setIfInBounds_toArray, List.set_cons_zero, List.set_cons_succ]
      refine wpAnyH_take (i := 18) (v := ?zb1v18) (by simp only [List.getElem?_toArray, List.getElem?_cons_succ, List.getElem?_cons_zero]; rfl) (by kernel_rfl) (by kernel_rfl) (by kernel_rfl) (by exact fun _ _ _ h => h) (Or.inl ⟨by rfl, ?zb1y18⟩) (by assumption) ?zb1r18
      case zb1y18 => (intro w hSw; (try dsimp only at hSw); go_simp; try (with_reducible rfl))
      try simp only [Act.put, List.setIfInBounds_toArray, List.set_cons_zero, List.set_cons_succ]
      refine wpAnyH_take (i := 19) (v := undef) (by simp only [List.getElem?_toArray, List.getElem?_cons_succ, List.getElem?_cons_zero]; rfl) (by kernel_rfl) (by kernel_rfl) (by kernel_rfl) (by exact fun _ _ _ h => h) (Or.inr ⟨by rfl, rfl⟩) (by assumption) ?_
      try simp only [Act.put, List.setIfInBounds_toArray, List.set_cons_zero, List.set_cons_succ]
      refine wpAnyH_take (i := 20) (v := undef) (by simp only [List.getElem?_toArray, List.getElem?_cons_succ, List.getElem?_cons_zero]; rfl) (by kernel_rfl) (by kernel_rfl) (by kernel_rfl) (by exact fun _ _ _ h => h) (Or.inr ⟨by rfl, rfl⟩) (by assumption) ?_
      try simp only [Act.put, List.setIfInBounds_toArray, List.set_cons_zero, List.set_cons_succ]
      refine wpAnyH_take (i := 21) (v := undef) (by simp only [List.getElem?_toArray, List.getElem?_cons_succ, List.getElem?_cons_zero]; rfl) (by kernel_rfl) (by kernel_rfl) (by kernel_rfl) (by exact fun _ _ _ h => h) (Or.inr ⟨by rfl, rfl⟩) (by assumption) ?_
      try simp only [Act.put, List.setIfInBounds_toArray, List.set_cons_zero, List.set_cons_succ]
      refine wpAnyH_take (i := 22) (v := undef) (by simp only [List.getElem?_toArray, List.getElem?_cons_succ, List.getElem?_cons_zero]; rfl) (by kernel_rfl) (by kernel_rfl) (by kernel_rfl) (by exact fun _ _ _ h => h) (Or.inr ⟨by rfl, rfl⟩) (by assumption) ?_
      try simp only [Act.put, List.setIfInBounds_toArray, List.set_cons_zero, List.set_cons_succ]
      refine wpAnyH_take (i := 23) (v := undef) (by simp only [List.getElem?_toArray, List.getElem?_cons_succ, List.getElem?_cons_zero]; rfl) (by kernel_rfl) (by kernel_rfl) (by kernel_rfl) (by exact fun _ _ _ h => h) (Or.inr ⟨by rfl, rfl⟩) (by assumption) ?_
      try simp only [Act.put, List.setIfInBounds_toArray, List.set_cons_zero, List.set_cons_succ]
      refine wpAnyH_take (i := 24) (v := ?zb1v24) (by simp only [List.getElem?_toArray, List.getElem?_cons_succ, List.getElem?_cons_zero]; rfl) (by kernel_rfl) (by kernel_rfl) (by kernel_rfl) (by exact fun _ _ _ h => h) (Or.inl ⟨by rfl, ?zb1y24⟩) (by assumption) ?zb1r24
      case zb1y24 => (intro w hSw; (try dsimp only at hSw); go_simp; try (with_reducible rfl))
      try simp only [Act.put, List.setIfInBounds_toArray, List.set_cons_zero, List.set_cons_succ]
      refine wpAnyH_done (by kernel_rfl) ?_ _
      refine NoPanic.normal ?_
      go_wp2
      go_ret
      exact ⟨by rw [HE.out]; rfl, HB.out.trans (HB5.out.mono HB.out.size)⟩
    · replace HAA := Lib.hid (HAA.out rfl)
      cases hb
      · go_enter Tryz.func24, Tryz.ntmps24
        go_wp2_with fail
        rw [← HW.out]
        refine wp_region_noPanic ?_
        refine wp_region_held_drew (S := (fun w' => w'.cell? ⟨w.heap.size, 0, none⟩ = some (.slice r1.a r1.n r1.c) ∧ w'.cell? ⟨w.heap.size, 1, none⟩ = some (.slice r2.a r2.n r2.c) ∧ w'.cell? ⟨w.heap.size, 2, none⟩ = some (.int .i64 rq) ∧ w'.cell? ⟨w.heap.size, 3, none⟩ = some (.slice r3.a r3.n r3.c) ∧ w'.cell? ⟨w.heap.size, 4, none⟩ = some (.slice r4.a r4.n r4.c) ∧ w'.cell? ⟨w.heap.size, 5, none⟩ = some (.slice (some ⟨bv, ov, none⟩) r5n r5c) ∧ w'.cell? ⟨w.heap.size, 6, none⟩ = some (.slice r6.a r6.n r6.c) ∧ w'.cell? ⟨w.heap.size + 1, 6, none⟩ = some (.int .i64 (kv : Int)) ∧ w'.cell? ⟨w.heap.size + 1, 7, none⟩ = some (.int .i64 xa) ∧ w'.cell? ⟨w.heap.size + 1, 8, none⟩ = some (.int .i64 xb) ∧ w'.cell? ⟨bv, ov + kv * 15 + 1, none⟩ = some (.slice pv.2.a pv.2.n pv.2.c))) (by kernel_rfl) (by (obtain ⟨q0, q1⟩ := HF.out W (Below.refl _ _); obtain ⟨a0, a1, a2, a3, a4, a5, a6⟩ := seven_of q0; obtain ⟨_, _, _, _, _, _, b6, b7, b8⟩ := nine_at q1; exact ⟨a0, a1, a2, a3, a4, a5, a6, b6, b7, b8, HVC.out W (Below.refl _ _)⟩)) (fun hHeld => ?_)
        refine wpAnyH_take (i := 0) (v := ?zb2v0) (by simp only [List.getElem?_toArray, List.getElem?_cons_zero]; rfl) (by kernel_rfl) (by kernel_rfl) (by kernel_rfl) (by exact fun _ _ _ h => h) (Or.inl ⟨by rfl, ?zb2y0⟩) (by assumption) ?zb2r0
        case zb2y0 => (intro w hSw; (try dsimp only at hSw); go_simp; try (with_reducible rfl))
        try simp only [Act.put, List.setIfInBounds_toArray, List.set_cons_zero, List.set_cons_succ]
        refine wpAnyH_take (i := 1) (v := ?zb2v1) (by simp only [List.getElem?_toArray, List.getElem?_cons_succ, List.getElem?_cons_zero]; rfl) (by kernel_rfl) (by kernel_rfl) (by kernel_rfl) (by exact fun _ _ _ h => h) (Or.inl ⟨by rfl, ?zb2y1⟩) (by assumption) ?zb2r1
        case zb2y1 => (intro w hSw; (try dsimp only at hSw); go_simp; try (with_reducible rfl))
        try simp only [Act.put, List.setIfInBounds_toArray, List.set_cons_zero, List.set_cons_succ]
        refine wpAnyH_take (i := 2) (v := ?zb2v2) (by simp only [List.getElem?_toArray, List.getElem?_cons_succ, List.getElem?_cons_zero]; rfl) (by kernel_rfl) (by kernel_rfl) (by kernel_rfl) (by exact fun _ _ _ h => h) (Or.inl ⟨by rfl, ?zb2y2⟩) (by assumption) ?zb2r2
        case zb2y2 => (intro w hSw; (try dsimp only at hSw); go_simp; try (with_reducible rfl))
        try simp only [Act.put, List.setIfInBounds_toArray, List.set_cons_zero, List.set_cons_succ]
        refine wpAnyH_ready (rs := [3]) (by kernel_rfl) (by simp) ?_
        refine AllReadyH.cons (by simp only [List.getElem?_toArray, List.getElem?_cons_succ, List.getElem?_cons_zero]; rfl) (fun K hK => ?_) AllReadyH.nil
        go_simp
        (with_reducible refine (HHS.out _ (by first | exact Below.refl _ _ | exact (Below.refl _ _).drew | exact below_dN' (Below.refl _ _) _)).mono ?_)
        rintro e w5 ⟨rfl, hb5⟩
        have HB5 : Hid (Below W.heap.size W w5) := Below.trans (by first | exact Below.refl _ _ | exact (Below.refl _ _).drew | exact below_dN' (Below.refl _ _) _) (hb5.mono (by first | exact Nat.le_refl _ | exact Nat.le_of_eq rfl))
        clear hb5
        go_wp2_with fail
        refine hK.out _ _ (by (obtain ⟨q0, q1⟩ := HF.out w5 HB5.out; obtain ⟨a0, a1, a2, a3, a4, a5, a6⟩ := seven_of q0; obtain ⟨_, _, _, _, _, _, b6, b7, b8⟩ := nine_at q1; exact ⟨a0, a1, a2, a3, a4, a5, a6, b6, b7, b8, HVC.out w5 HB5.out⟩)) (fun hHeld1 => ?_)
        clear hK K hHeld
        try simp only [Act.put, List.setIfInBounds_toArray, List.set_cons_zero, List.set_cons_succ]
        refine wpAnyH_take (i := 4) (v := ?zb2v4) (by simp only [List.getElem?_toArray, List.getElem?_cons_succ, List.getElem?_cons_zero]; rfl) (by kernel_rfl) (by kernel_rfl) (by kernel_rfl) (by exact fun _ _ _ h => h) (Or.inl ⟨by rfl, ?zb2y4⟩) (by assumption) ?zb2r4
        case zb2y4 => (intro w hSw; (try dsimp only at hSw); go_simp; try (with_reducible rfl))
        try simp only [Act.put, List.setIfInBounds_toArray, List.set_cons_zero, List.set_cons_succ]
        refine wpAnyH_take (i := 5) (v := ?zb2v5) (by simp only [List.getElem?_toArray, List.getElem?_cons_succ, List.getElem?_cons_zero]; rfl) (by kernel_rfl) (by kernel_rfl) (by kernel_rfl) (by exact fun _ _ _ h => h) (Or.inl ⟨by rfl, ?zb2y5⟩) (by assumption) ?zb2r5
        case zb2y5 => (intro w hSw; (try dsimp only at hSw); go_simp; try (with_reducible rfl))
        try simp only [Act.put, List.setIfInBounds_toArray, List.set_cons_zero, List.set_cons_succ]
        refine wpAnyH_take (i := 6) (v := ?zb2v6) (by simp only [List.getElem?_toArray, List.getElem?_cons_succ, List.getElem?_cons_zero]; rfl) (by kernel_rfl) (by kernel_rfl) (by kernel_rfl) (by exact fun _ _ _ h => h) (Or.inl ⟨by rfl, ?zb2y6⟩) (by assumption) ?zb2r6
        case zb2y6 => (intro w hSw; (try dsimp only at hSw); go_simp; try (with_reducible rfl))
        try simp only [Act.put, List.setIfInBounds_toArray, List.set_cons_zero, List.set_cons_succ]
        refine wpAnyH_take (i := 7) (v := ?zb2v7) (by simp only [List.getElem?_toArray, List.getElem?_cons_succ, List.getElem?_cons_zero]; rfl) (by kernel_rfl) (by kernel_rfl) (by kernel_rfl) (by exact fun _ _ _ h => h) (Or.inl ⟨by rfl, ?zb2y7⟩) (by assumption) ?zb2r7
        case zb2y7 => (intro w hSw; (try dsimp only at hSw); go_simp; try (with_reducible rfl))
        try simp only [Act.put, List.setIfInBounds_toArray, List.set_cons_zero, List.set_cons_succ]
        refine wpAnyH_take (i := 8) (v := ?zb2v8) (by simp only [List.getElem?_toArray, List.getElem?_cons_succ, List.getElem?_cons_zero]; rfl) (by kernel_rfl) (by kernel_rfl) (by kernel_rfl) (by exact fun _ _ _ h => h) (Or.inl ⟨by rfl, ?zb2y8⟩) (by assumption) ?zb2r8
        case zb2y8 => (intro w hSw; (try dsimp only at hSw); go_simp; try (with_reducible rfl))
        try simp only [Act.put, List.setIfInBounds_toArray, List.set_cons_zero, List.set_cons_succ]
        refine wpAnyH_take (i := 9) (v := ?zb2v9) (by simp only [List.getElem?_toArray, List.getElem?_cons_succ, List.getElem?_cons_zero]; rfl) (by kernel_rfl) (by kernel_rfl) (by kernel_rfl) (by exact fun _ _ _ h => h) (Or.inl ⟨by rfl, ?zb2y9⟩) (by assumption) ?zb2r9
        case zb2y9 => (intro w hSw; (try dsimp only at hSw); go_simp; try (with_reducible rfl))
        try simp only [Act.put, List.setIfInBounds_toArray, List.set_cons_zero, List.set_cons_succ]
        refine wpAnyH_take (i := 10) (v := ?zb2v10) (by simp only [List.getElem?_toArray, List.getElem?_cons_succ, List.getElem?_cons_zero]; rfl) (by kernel_rfl) (by kernel_rfl) (by kernel_rfl) (by exact fun _ _ _ h => h) (Or.inl ⟨by rfl, ?zb2y10⟩) (by assumption) ?zb2r10
        case zb2y10 => (intro w hSw; (try dsimp only at hSw); go_simp; try (with_reducible rfl))
        try simp only [Act.put, List.setIfInBounds_toArray, List.set_cons_zero, List.set_cons_succ]
        refine wpAnyH_take (i := 11) (v := ?zb2v11) (by simp only [List.getElem?_toArray, List.getElem?_cons_succ, List.getElem?_cons_zero]; rfl) (by kernel_rfl) (by kernel_rfl) (by kernel_rfl) (by exact fun _ _ _ h => h) (Or.inl ⟨by rfl, ?zb2y11⟩) (by assumption) ?zb2r11
        case zb2y11 => (intro w hSw; (try dsimp only at hSw); go_simp; try (with_reducible rfl))
        try simp only [Act.put, List.setIfInBounds_toArray, List.set_cons_zero, List.set_cons_succ]
        refine wpAnyH_take (i := 12) (v := ?zb2v12) (by simp only [List.getElem?_toArray, List.getElem?_cons_succ, List.getElem?_cons_zero]; rfl) (by kernel_rfl) (by kernel_rfl) (by kernel_rfl) (by exact fun _ _ _ h => h) (Or.inl ⟨by rfl, ?zb2y12⟩) (by assumption) ?zb2r12
        case zb2y12 => (intro w hSw; (try dsimp only at hSw); go_simp; try (with_reducible rfl))
        try simp only [Act.put, List.setIfInBounds_toArray, List.set_cons_zero, List.set_cons_succ]
        refine wpAnyH_take (i := 13) (v := ?zb2v13) (by simp only [List.getElem?_toArray, List.getElem?_cons_succ, List.getElem?_cons_zero]; rfl) (by kernel_rfl) (by kernel_rfl) (by kernel_rfl) (by exact fun _ _ _ h => h) (Or.inl ⟨by rfl, ?zb2y13⟩) (by assumption) ?zb2r13
        case zb2y13 => (intro w hSw; (try dsimp only at hSw); go_simp; try (with_reducible rfl))
        try simp only [Act.put, List.setIfInBounds_toArray, List.set_cons_zero, List.set_cons_succ]
        refine wpAnyH_take (i := 14) (v := ?zb2v14) (by simp only [List.getElem?_toArray, List.getElem?_cons_succ, List.getElem?_cons_zero]; rfl) (by kernel_rfl) (by kernel_rfl) (by kernel_rfl) (by exact fun _ _ _ h => h) (Or.inl ⟨by rfl, ?zb2y14⟩) (by assumption) ?zb2r14
        case zb2y14 => (intro w hSw; (try dsimp only at hSw); go_simp; try (with_reducible rfl))
        try simp only [Act.put, List.setIfInBounds_toArray, List.set_cons_zero, List.set_cons_succ]
        refine wpAnyH_ready (rs := [15]) (by kernel_rfl) (by simp) ?_
        refine AllReadyH.cons (by simp only [List.getElem?_toArray, List.getElem?_cons_succ, List.getElem?_cons_zero]; rfl) (fun K hK => ?_) AllReadyH.nil
        go_simp
        (with_reducible refine (HN1.out _ (by first | exact HB5.out | exact HB5.out.drew | exact below_dN' HB5.out _)).mono ?_)
        rintro e w7 ⟨rfl, rfl⟩
        go_wp2_with fail
        refine hK.out _ _ (by (obtain ⟨q0, q1⟩ := HF.out w5 HB5.out; obtain ⟨a0, a1, a2, a3, a4, a5, a6⟩ := seven_of q0; obtain ⟨_, _, _, _, _, _, b6, b7, b8⟩ := nine_at q1; exact ⟨a0, a1, a2, a3, a4, a5, a6, b6, b7, b8, HVC.out w5 HB5.out⟩)) (fun hHeld2 => ?_)
        clear hK K hHeld1
        try simp only [Act.put, List.setIfInBounds_toArray, List.set_cons_zero, List.set_cons_succ]
        refine wpAnyH_take (i := 16) (v := ?zb2v16) (by simp only [List.getElem?_toArray, List.getElem?_cons_succ, List.getElem?_cons_zero]; rfl) (by kernel_rfl) (by kernel_rfl) (by kernel_rfl) (by exact fun _ _ _ h => h) (Or.inl ⟨by rfl, ?zb2y16⟩) (by assumption) ?zb2r16
        case zb2y16 => (intro w hSw; (try dsimp only at hSw); go_simp; try (with_reducible rfl))
        try simp only [Act.put, List.setIfInBounds_toArray, List.set_cons_zero, List.set_cons_succ]
        refine wpAnyH_take (i := 17) (v := ?zb2v17) (by simp only [List.getElem?_toArray, List.getElem?_cons_succ, List.getElem?_cons_zero]; rfl) (by kernel_rfl) (by kernel_rfl) (by kernel_rfl) (by exact fun _ _ _ h => h) (Or.inl ⟨by rfl, ?zb2y17⟩) (by assumption) ?zb2r17
        case zb2y17 => (intro w hSw; (try dsimp only at hSw); go_simp; try (with_reducible rfl))
        try simp only [Act.put, List.setIfInBounds_toArray, List.set_cons_zero, List.set_cons_succ]
        refine wpAnyH_take (i := 18) (v := ?zb2v18) (by simp only [List.getElem?_toArray, List.getElem?_cons_succ, List.getElem?_cons_zero]; rfl) (by kernel_rfl) (by kernel_rfl) (by kernel_rfl) (by exact fun _ _ _ h => h) (Or.inl ⟨by rfl, ?zb2y18⟩) (by assumption) ?zb2r18
        case zb2y18 => (intro w hSw; (try dsimp only at hSw); go_simp; try (with_reducible rfl))
        try simp only [Act.put, List.setIfInBounds_toArray, List.set_cons_zero, List.set_cons_succ]
        refine wpAnyH_take (i := 19) (v := ?zb2v19) (by simp only [List.getElem?_toArray, List.getElem?_cons_succ, List.getElem?_cons_zero]; rfl) (by kernel_rfl) (by kernel_rfl) (by kernel_rfl) (by exact fun _ _ _ h => h) (Or.inl ⟨by rfl, ?zb2y19⟩) (by assumption) ?zb2r19
        case zb2y19 => (intro w hSw; (try dsimp only at hSw); go_simp; try (with_reducible rfl))
        try simp only [Act.put, List.setIfInBounds_toArray, List.set_cons_zero, List.set_cons_succ]
        refine wpAnyH_take (i := 20) (v := ?zb2v20) (by simp only [List.getElem?_toArray, List.getElem?_cons_succ, List.getElem?_cons_zero]; rfl) (by kernel_rfl) (by kernel_rfl) (by kernel_rfl) (by exact fun _ _ _ h => h) (Or.inl ⟨by rfl, ?zb2y20⟩) (by assumption) ?zb2r20
        case zb2y20 => (intro w hSw; (try dsimp only at hSw); go_simp; try (with_reducible rfl))
        try simp only [Act.put, List.setIfInBounds_toArray, List.set_cons_zero, List.set_cons_succ]
        refine wpAnyH_take (i := 21) (v := ?zb2v21) (by simp only [List.getElem?_toArray, List.getElem?_cons_succ, List.getElem?_cons_zero]; rfl) (by kernel_rfl) (by kernel_rfl) (by kernel_rfl) (by exact fun _ _ _ h => h) (Or.inl ⟨by rfl, ?zb2y21⟩) (by assumption) ?zb2r21
        case zb2y21 => (intro w hSw; (try dsimp only at hSw); go_simp; try (with_reducible rfl))
        try simp only [Act.put, List.setIfInBounds_toArray, List.set_cons_zero, List.set_cons_succ]
        refine wpAnyH_ready (rs := [22]) (by kernel_rfl) (by simp) ?_
        refine AllReadyH.cons (by simp only [List.getElem?_toArray, List.getElem?_cons_succ, List.getElem?_cons_zero]; rfl) (fun K hK => ?_) AllReadyH.nil
        go_simp
        (with_reducible refine (HIB.out _ (by first | exact HB5.out | exact HB5.out.drew | exact below_dN' HB5.out _)).mono ?_)
        rintro e w6 ⟨rfl, hb6⟩
        have HB6 : Hid (Below W.heap.size W w6) := Below.trans (by first | exact HB5.out | exact HB5.out.drew | exact below_dN' HB5.out _) (hb6.mono (by first | exact HB5.out.size | exact HB5.out.drew.size))
        clear hb6
        go_wp2_with fail
        refine hK.out _ _ (by (obtain ⟨q0, q1⟩ := HF.out w6 HB6.out; obtain ⟨a0, a1, a2, a3, a4, a5, a6⟩ := seven_of q0; obtain ⟨_, _, _, _, _, _, b6, b7, b8⟩ := nine_at q1; exact ⟨a0, a1, a2, a3, a4, a5, a6, b6, b7, b8, HVC.out w6 HB6.out⟩)) (fun hHeld3 => ?_)
        clear hK K hHeld2
        try simp only [Act.put, List.setIfInBounds_toArray, List.set_cons_zero, List.set_cons_succ]
        refine wpAnyH_take (i := 23) (v := ?zb2v23) (by simp only [List.getElem?_toArray, List.getElem?_cons_succ, List.getElem?_cons_zero]; rfl) (by kernel_rfl) (by kernel_rfl) (by kernel_rfl) (by exact fun _ _ _ h => h) (Or.inl ⟨by rfl, ?zb2y23⟩) (by assumption) ?zb2r23
        case zb2y23 => (intro w hSw; (try dsimp only at hSw); go_simp; try (with_reducible rfl))
        try simp only [Act.put, List.setIfInBounds_toArray, List.set_cons_zero, List.set_cons_succ]
        refine wpAnyH_take (i := 24) (v := ?zb2v24) (by simp only [List.getElem?_toArray, List.getElem?_cons_succ, List.getElem?_cons_zero]; rfl) (by kernel_rfl) (by kernel_rfl) (by kernel_rfl) (by exact fun _ _ _ h => h) (Or.inl ⟨by rfl, ?zb2y24⟩) (by assumption) ?zb2r24
        case zb2y24 => (intro w hSw; (try dsimp only at hSw); go_simp; try (with_reducible rfl))
        try simp only [Act.put, List.setIfInBounds_toArray, List.set_cons_zero, List.set_cons_succ]
        refine wpAnyH_done (by kernel_rfl) ?_ _
        refine NoPanic.normal ?_
        go_wp2
        go_ret
        exact ⟨by rw [HE.out]; rfl, HB.out.trans (HB6.out.mono HB.out.size)⟩
      · simp only [Bool.true_and] at HAB
        cases aa
        rotate_left
        · go_enter Tryz.func24, Tryz.ntmps24
          go_wp2_with fail
          rw [← HW.out]
          refine wp_region_noPanic ?_
          refine wp_region_held_drew (S := (fun w' => w'.cell? ⟨w.heap.size, 0, none⟩ = some (.slice r1.a r1.n r1.c) ∧ w'.cell? ⟨w.heap.size, 1, none⟩ = some (.slice r2.a r2.n r2.c) ∧ w'.cell? ⟨w.heap.size, 2, none⟩ = some (.int .i64 rq) ∧ w'.cell? ⟨w.heap.size, 3, none⟩ = some (.slice r3.a r3.n r3.c) ∧ w'.cell? ⟨w.heap.size, 4, none⟩ = some (.slice r4.a r4.n r4.c) ∧ w'.cell? ⟨w.heap.size, 5, none⟩ = some (.slice (some ⟨bv, ov, none⟩) r5n r5c) ∧ w'.cell? ⟨w.heap.size, 6, none⟩ = some (.slice r6.a r6.n r6.c) ∧ w'.cell? ⟨w.heap.size + 1, 6, none⟩ = some (.int .i64 (kv : Int)) ∧ w'.cell? ⟨w.heap.size + 1, 7, none⟩ = some (.int .i64 xa) ∧ w'.cell? ⟨w.heap.size + 1, 8, none⟩ = some (.int .i64 xb) ∧ w'.cell? ⟨bv, ov + kv * 15 + 1, none⟩ = some (.slice pv.2.a pv.2.n pv.2.c))) (by kernel_rfl) (by (obtain ⟨q0, q1⟩ := HF.out W (Below.refl _ _); obtain ⟨a0, a1, a2, a3, a4, a5, a6⟩ := seven_of q0; obtain ⟨_, _, _, _, _, _, b6, b7, b8⟩ := nine_at q1; exact ⟨a0, a1, a2, a3, a4, a5, a6, b6, b7, b8, HVC.out W (Below.refl _ _)⟩)) (fun hHeld => ?_)
          refine wpAnyH_take (i := 0) (v := ?zb3v0) (by simp only [List.getElem?_toArray, List.getElem?_cons_zero]; rfl) (by kernel_rfl) (by kernel_rfl) (by kernel_rfl) (by exact fun _ _ _ h => h) (Or.inl ⟨by rfl, ?zb3y0⟩) (by assumption) ?zb3r0
          case zb3y0 => (intro w hSw; (try dsimp only at hSw); go_simp; try (with_reducible rfl))
          try simp only [Act.put, List.setIfInBounds_toArray, List.set_cons_zero, List.set_cons_succ]
          refine wpAnyH_take (i := 1) (v := ?zb3v1) (by simp only [List.getElem?_toArray, List.getElem?_cons_succ, List.getElem?_cons_zero]; rfl) (by kernel_rfl) (by kernel_rfl) (by kernel_rfl) (by exact fun _ _ _ h => h) (Or.inl ⟨by rfl, ?zb3y1⟩) (by assumption) ?zb3r1
          case zb3y1 => (intro w hSw; (try dsimp only at hSw); go_simp; try (with_reducible rfl))
          try simp only [Act.put, List.setIfInBounds_toArray, List.set_cons_zero, List.set_cons_succ]
          refine wpAnyH_take (i := 2) (v := ?zb3v2) (by simp only [List.getElem?_toArray, List.getElem?_cons_succ, List.getElem?_cons_zero]; rfl) (by kernel_rfl) (by kernel_rfl) (by kernel_rfl) (by exact fun _ _ _ h => h) (Or.inl ⟨by rfl, ?zb3y2⟩) (by assumption) ?zb3r2
          case zb3y2 => (intro w hSw; (try dsimp only at hSw); go_simp; try (with_reducible rfl))
          try simp only [Act.put, List.setIfInBounds_toArray, List.set_cons_zero, List.set_cons_succ]
          refine wpAnyH_ready (rs := [3]) (by kernel_rfl) (by simp) ?_
          refine AllReadyH.cons (by simp only [List.getElem?_toArray, List.getElem?_cons_succ, List.getElem?_cons_zero]; rfl) (fun K hK => ?_) AllReadyH.nil
          go_simp
          (with_reducible refine (HHS.out _ (by first | exact Below.refl _ _ | exact (Below.refl _ _).drew | exact below_dN' (Below.refl _ _) _)).mono ?_)
          rintro e w5 ⟨rfl, hb5⟩
          have HB5 : Hid (Below W.heap.size W w5) := Below.trans (by first | exact Below.refl _ _ | exact (Below.refl _ _).drew | exact below_dN' (Below.refl _ _) _) (hb5.mono (by first | exact Nat.le_refl _ | exact Nat.le_of_eq rfl))
          clear hb5
          go_wp2_with fail
          refine hK.out _ _ (by (obtain ⟨q0, q1⟩ := HF.out w5 HB5.out; obtain ⟨a0, a1, a2, a3, a4, a5, a6⟩ := seven_of q0; obtain ⟨_, _, _, _, _, _, b6, b7, b8⟩ := nine_at q1; exact ⟨a0, a1, a2, a3, a4, a5, a6, b6, b7, b8, HVC.out w5 HB5.out⟩)) (fun hHeld1 => ?_)
          clear hK K hHeld
          try simp only [Act.put, List.setIfInBounds_toArray, List.set_cons_zero, List.set_cons_succ]
          refine wpAnyH_take (i := 4) (v := ?zb3v4) (by simp only [List.getElem?_toArray, List.getElem?_cons_succ, List.getElem?_cons_zero]; rfl) (by kernel_rfl) (by kernel_rfl) (by kernel_rfl) (by exact fun _ _ _ h => h) (Or.inl ⟨by rfl, ?zb3y4⟩) (by assumption) ?zb3r4
          case zb3y4 => (intro w hSw; (try dsimp only at hSw); go_simp; try (with_reducible rfl))
          try simp only [Act.put, List.setIfInBounds_toArray, List.set_cons_zero, List.set_cons_succ]
          refine wpAnyH_take (i := 5) (v := ?zb3v5) (by simp only [List.getElem?_toArray, List.getElem?_cons_succ, List.getElem?_cons_zero]; rfl) (by kernel_rfl) (by kernel_rfl) (by kernel_rfl) (by exact fun _ _ _ h => h) (Or.inl ⟨by rfl, ?zb3y5⟩) (by assumption) ?zb3r5
          case zb3y5 => (intro w hSw; (try dsimp only at hSw); go_simp; try (with_reducible rfl))
          try simp only [Act.put, List.setIfInBounds_toArray, List.set_cons_zero, List.set_cons_succ]
          refine wpAnyH_take (i := 6) (v := ?zb3v6) (by simp only [List.getElem?_toArray, List.getElem?_cons_succ, List.getElem?_cons_zero]; rfl) (by kernel_rfl) (by kernel_rfl) (by kernel_rfl) (by exact fun _ _ _ h => h) (Or.inl ⟨by rfl, ?zb3y6⟩) (by assumption) ?zb3r6
          case zb3y6 => (intro w hSw; (try dsimp only at hSw); go_simp; try (with_reducible rfl))
          try simp only [Act.put, List.setIfInBounds_toArray, List.set_cons_zero, List.set_cons_succ]
          refine wpAnyH_take (i := 7) (v := ?zb3v7) (by simp only [List.getElem?_toArray, List.getElem?_cons_succ, List.getElem?_cons_zero]; rfl) (by kernel_rfl) (by kernel_rfl) (by kernel_rfl) (by exact fun _ _ _ h => h) (Or.inl ⟨by rfl, ?zb3y7⟩) (by assumption) ?zb3r7
          case zb3y7 => (intro w hSw; (try dsimp only at hSw); go_simp; try (with_reducible rfl))
          try simp only [Act.put, List.setIfInBounds_toArray, List.set_cons_zero, List.set_cons_succ]
          refine wpAnyH_take (i := 8) (v := ?zb3v8) (by simp only [List.getElem?_toArray, List.getElem?_cons_succ, List.getElem?_cons_zero]; rfl) (by kernel_rfl) (by kernel_rfl) (by kernel_rfl) (by exact fun _ _ _ h => h) (Or.inl ⟨by rfl, ?zb3y8⟩) (by assumption) ?zb3r8
          case zb3y8 => (intro w hSw; (try dsimp only at hSw); go_simp; try (with_reducible rfl))
          try simp only [Act.put, List.setIfInBounds_toArray, List.set_cons_zero, List.set_cons_succ]
          refine wpAnyH_take (i := 9) (v := ?zb3v9) (by simp only [List.getElem?_toArray, List.getElem?_cons_succ, List.getElem?_cons_zero]; rfl) (by kernel_rfl) (by kernel_rfl) (by kernel_rfl) (by exact fun _ _ _ h => h) (Or.inl ⟨by rfl, ?zb3y9⟩) (by assumption) ?zb3r9
          case zb3y9 => (intro w hSw; (try dsimp only at hSw); go_simp; try (with_reducible rfl))
          try simp only [Act.put, List.setIfInBounds_toArray, List.set_cons_zero, List.set_cons_succ]
          refine wpAnyH_take (i := 10) (v := ?zb3v10) (by simp only [List.getElem?_toArray, List.getElem?_cons_succ, List.getElem?_cons_zero]; rfl) (by kernel_rfl) (by kernel_rfl) (by kernel_rfl) (by exact fun _ _ _ h => h) (Or.inl ⟨by rfl, ?zb3y10⟩) (by assumption) ?zb3r10
          case zb3y10 => (intro w hSw; (try dsimp only at hSw); go_simp; try (with_reducible rfl))
          try simp only [Act.put, List.setIfInBounds_toArray, List.set_cons_zero, List.set_cons_succ]
          refine wpAnyH_take (i := 11) (v := ?zb3v11) (by simp only [List.getElem?_toArray, List.getElem?_cons_succ, List.getElem?_cons_zero]; rfl) (by kernel_rfl) (by kernel_rfl) (by kernel_rfl) (by exact fun _ _ _ h => h) (Or.inl ⟨by rfl, ?zb3y11⟩) (by assumption) ?zb3r11
          case zb3y11 => (intro w hSw; (try dsimp only at hSw); go_simp; try (with_reducible rfl))
          try simp only [Act.put, List.setIfInBounds_toArray, List.set_cons_zero, List.set_cons_succ]
          refine wpAnyH_take (i := 12) (v := ?zb3v12) (by simp only [List.getElem?_toArray, List.getElem?_cons_succ, List.getElem?_cons_zero]; rfl) (by kernel_rfl) (by kernel_rfl) (by kernel_rfl) (by exact fun _ _ _ h => h) (Or.inl ⟨by rfl, ?zb3y12⟩) (by assumption) ?zb3r12
          case zb3y12 => (intro w hSw; (try dsimp only at hSw); go_simp; try (with_reducible rfl))
          try simp only [Act.put, List.setIfInBounds_toArray, List.set_cons_zero, List.set_cons_succ]
          refine wpAnyH_take (i := 13) (v := ?zb3v13) (by simp only [List.getElem?_toArray, List.getElem?_cons_succ, List.getElem?_cons_zero]; rfl) (by kernel_rfl) (by kernel_rfl) (by kernel_rfl) (by exact fun _ _ _ h => h) (Or.inl ⟨by rfl, ?zb3y13⟩) (by assumption) ?zb3r13
          case zb3y13 => (intro w hSw; (try dsimp only at hSw); go_simp; try (with_reducible rfl))
          try simp only [Act.put, List.setIfInBounds_toArray, List.set_cons_zero, List.set_cons_succ]
          refine wpAnyH_take (i := 14) (v := ?zb3v14) (by simp only [List.getElem?_toArray, List.getElem?_cons_succ, List.getElem?_cons_zero]; rfl) (by kernel_rfl) (by kernel_rfl) (by kernel_rfl) (by exact fun _ _ _ h => h) (Or.inl ⟨by rfl, ?zb3y14⟩) (by assumption) ?zb3r14
          case zb3y14 => (intro w hSw; (try dsimp only at hSw); go_simp; try (with_reducible rfl))
          try simp only [Act.put, List.setIfInBounds_toArray, List.set_cons_zero, List.set_cons_succ]
          refine wpAnyH_ready (rs := [15]) (by kernel_rfl) (by simp) ?_
          refine AllReadyH.cons (by simp only [List.getElem?_toArray, List.getElem?_cons_succ, List.getElem?_cons_zero]; rfl) (fun K hK => ?_) AllReadyH.nil
          go_simp
          (with_reducible refine (HN1.out _ (by first | exact HB5.out | exact HB5.out.drew | exact below_dN' HB5.out _)).mono ?_)
          rintro e w7 ⟨rfl, rfl⟩
          go_wp2_with fail
          refine hK.out _ _ (by (obtain ⟨q0, q1⟩ := HF.out w5 HB5.out; obtain ⟨a0, a1, a2, a3, a4, a5, a6⟩ := seven_of q0; obtain ⟨_, _, _, _, _, _, b6, b7, b8⟩ := nine_at q1; exact ⟨a0, a1, a2, a3, a4, a5, a6, b6, b7, b8, HVC.out w5 HB5.out⟩)) (fun hHeld2 => ?_)
          clear hK K hHeld1
          try simp only [Act.put, List.setIfInBounds_toArray, List.set_cons_zero, List.set_cons_succ]
          refine wpAnyH_take (i := 16) (v := ?zb3v16) (by simp only [List.getElem?_toArray, List.getElem?_cons_succ, List.getElem?_cons_zero]; rfl) (by kernel_rfl) (by kernel_rfl) (by kernel_rfl) (by exact fun _ _ _ h => h) (Or.inl ⟨by rfl, ?zb3y16⟩) (by assumption) ?zb3r16
          case zb3y16 => (intro w hSw; (try dsimp only at hSw); go_simp; try (with_reducible rfl))
          try simp only [Act.put, List.setIfInBounds_toArray, List.set_cons_zero, List.set_cons_succ]
          refine wpAnyH_take (i := 17) (v := ?zb3v17) (by simp only [List.getElem?_toArray, List.getElem?_cons_succ, List.getElem?_cons_zero]; rfl) (by kernel_rfl) (by kernel_rfl) (by kernel_rfl) (by exact fun _ _ _ h => h) (Or.inl ⟨by rfl, ?zb3y17⟩) (by assumption) ?zb3r17
          case zb3y17 => (intro w hSw; (try dsimp only at hSw); go_simp; try (with_reducible rfl))
          try simp only [Act.put, List.setIfInBounds_toArray, List.set_cons_zero, List.set_cons_succ]
          refine wpAnyH_take (i := 18) (v := ?zb3v18) (by simp only [List.getElem?_toArray, List.getElem?_cons_succ, List.getElem?_cons_zero]; rfl) (by kernel_rfl) (by kernel_rfl) (by kernel_rfl) (by exact fun _ _ _ h => h) (Or.inl ⟨by rfl, ?zb3y18⟩) (by assumption) ?zb3r18
          case zb3y18 => (intro w hSw; (try dsimp only at hSw); go_simp; try (with_reducible rfl))
          try simp only [Act.put, List.setIfInBounds_toArray, List.set_cons_zero, List.set_cons_succ]
          refine wpAnyH_take (i := 19) (v := ?zb3v19) (by simp only [List.getElem?_toArray, List.getElem?_cons_succ, List.getElem?_cons_zero]; rfl) (by kernel_rfl) (by kernel_rfl) (by kernel_rfl) (by exact fun _ _ _ h => h) (Or.inl ⟨by rfl, ?zb3y19⟩) (by assumption) ?zb3r19
          case zb3y19 => (intro w hSw; (try dsimp only at hSw); go_simp; try (with_reducible rfl))
          try simp only [Act.put, List.setIfInBounds_toArray, List.set_cons_zero, List.set_cons_succ]
          refine wpAnyH_take (i := 20) (v := ?zb3v20) (by simp only [List.getElem?_toArray, List.getElem?_cons_succ, List.getElem?_cons_zero]; rfl) (by kernel_rfl) (by kernel_rfl) (by kernel_rfl) (by exact fun _ _ _ h => h) (Or.inl ⟨by rfl, ?zb3y20⟩) (by assumption) ?zb3r20
          case zb3y20 => (intro w hSw; (try dsimp only at hSw); go_simp; try (with_reducible rfl))
          try simp only [Act.put, List.setIfInBounds_toArray, List.set_cons_zero, List.set_cons_succ]
          refine wpAnyH_take (i := 21) (v := ?zb3v21) (by simp only [List.getElem?_toArray, List.getElem?_cons_succ, List.getElem?_cons_zero]; rfl) (by kernel_rfl) (by kernel_rfl) (by kernel_rfl) (by exact fun _ _ _ h => h) (Or.inl ⟨by rfl, ?zb3y21⟩) (by assumption) ?zb3r21
          case zb3y21 => (intro w hSw; (try dsimp only at hSw); go_simp; try (with_reducible rfl))
          try simp only [Act.put, List.setIfInBounds_toArray, List.set_cons_zero, List.set_cons_succ]
          refine wpAnyH_ready (rs := [22]) (by kernel_rfl) (by simp) ?_
          refine AllReadyH.cons (by simp only [List.getElem?_toArray, List.getElem?_cons_succ, List.getElem?_cons_zero]; rfl) (fun K hK => ?_) AllReadyH.nil
          go_simp
          (with_reducible refine (HIB.out _ (by first | exact HB5.out | exact HB5.out.drew | exact below_dN' HB5.out _)).mono ?_)
          rintro e w6 ⟨rfl, hb6⟩
          have HB6 : Hid (Below W.heap.size W w6) := Below.trans (by first | exact HB5.out | exact HB5.out.drew | exact below_dN' HB5.out _) (hb6.mono (by first | exact HB5.out.size | exact HB5.out.drew.size))
          clear hb6
          go_wp2_with fail
          refine hK.out _ _ (by (obtain ⟨q0, q1⟩ := HF.out w6 HB6.out; obtain ⟨a0, a1, a2, a3, a4, a5, a6⟩ := seven_of q0; obtain ⟨_, _, _, _, _, _, b6, b7, b8⟩ := nine_at q1; exact ⟨a0, a1, a2, a3, a4, a5, a6, b6, b7, b8, HVC.out w6 HB6.out⟩)) (fun hHeld3 => ?_)
          clear hK K hHeld2
          try simp only [Act.put, List.setIfInBounds_toArray, List.set_cons_zero, List.set_cons_succ]
          refine wpAnyH_take (i := 23) (v := ?zb3v23) (by simp only [List.getElem?_toArray, List.getElem?_cons_succ, List.getElem?_cons_zero]; rfl) (by kernel_rfl) (by kernel_rfl) (by kernel_rfl) (by exact fun _ _ _ h => h) (Or.inl ⟨by rfl, ?zb3y23⟩) (by assumption) ?zb3r23
          case zb3y23 => (intro w hSw; (try dsimp only at hSw); go_simp; try (with_reducible rfl))
          try simp only [Act.put, List.setIfInBounds_toArray, List.set_cons_zero, List.set_cons_succ]
          refine wpAnyH_take (i := 24) (v := ?zb3v24) (by simp only [List.getElem?_toArray, List.getElem?_cons_succ, List.getElem?_cons_zero]; rfl) (by kernel_rfl) (by kernel_rfl) (by kernel_rfl) (by exact fun _ _ _ h => h) (Or.inl ⟨by rfl, ?zb3y24⟩) (by assumption) ?zb3r24
          case zb3y24 => (intro w hSw; (try dsimp only at hSw); go_simp; try (with_reducible rfl))
          try simp only [Act.put, List.setIfInBounds_toArray, List.set_cons_zero, List.set_cons_succ]
          refine wpAnyH_done (by kernel_rfl) ?_ _
          refine NoPanic.normal ?_
          obtain ⟨q0, q1⟩ := HF.out w6 HB6.out
          clear z0 z1 z2 z3 z4 z5 z6 y0 y1 y2 y3 y4 y5 y6 y7 y8
          obtain ⟨z0, z1, z2, z3, z4, z5, z6⟩ := seven_of q0
          obtain ⟨y0, y1, y2, y3, y4, y5, y6, y7, y8⟩ := nine_at q1
          have hvc := HVC.out w6 HB6.out
          clear q0 q1
          go_wp2_with fail
          refine (HAA.out _ (by first | exact HB6.out | exact HB6.out.drew | exact below_dN' HB6.out _)).mono ?_
          rintro e w7 ⟨rfl, hb5⟩
          have HB7 : Hid (Below W.heap.size W w7) := Below.trans (by first | exact HB6.out | exact HB6.out.drew | exact below_dN' HB6.out _) (hb5.mono (by first | exact Nat.le_refl _ | exact Nat.le_of_eq rfl | exact HB6.out.size))
          clear hb5
          obtain ⟨q0, q1⟩ := HF.out w7 HB7.out
          clear z0 z1 z2 z3 z4 z5 z6 y0 y1 y2 y3 y4 y5 y6 y7 y8
          obtain ⟨z0, z1, z2, z3, z4, z5, z6⟩ := seven_of q0
          obtain ⟨y0, y1, y2, y3, y4, y5, y6, y7, y8⟩ := nine_at q1
          clear q0 q1
          go_wp2
          go_ret
          exact ⟨by rw [HE.out]; rfl, HB.out.trans (HB7.out.mono HB.out.size)⟩
        · cases ab
          · go_enter Tryz.func24, Tryz.ntmps24
            go_wp2_with fail
            rw [← HW.out]
            refine wp_region_noPanic ?_
            refine wp_region_held_drew (S := (fun w' => w'.cell? ⟨w.heap.size, 0, none⟩ = some (.slice r1.a r1.n r1.c) ∧ w'.cell? ⟨w.heap.size, 1, none⟩ = some (.slice r2.a r2.n r2.c) ∧ w'.cell? ⟨w.heap.size, 2, none⟩ = some (.int .i64 rq) ∧ w'.cell? ⟨w.heap.size, 3, none⟩ = some (.slice r3.a r3.n r3.c) ∧ w'.cell? ⟨w.heap.size, 4, none⟩ = some (.slice r4.a r4.n r4.c) ∧ w'.cell? ⟨w.heap.size, 5, none⟩ = some (.slice (some ⟨bv, ov, none⟩) r5n r5c) ∧ w'.cell? ⟨w.heap.size, 6, none⟩ = some (.slice r6.a r6.n r6.c) ∧ w'.cell? ⟨w.heap.size + 1, 6, none⟩ = some (.int .i64 (kv : Int)) ∧ w'.cell? ⟨w.heap.size + 1, 7, none⟩ = some (.int .i64 xa) ∧ w'.cell? ⟨w.heap.size + 1, 8, none⟩ = some (.int .i64 xb) ∧ w'.cell? ⟨bv, ov + kv * 15 + 1, none⟩ = some (.slice pv.2.a pv.2.n pv.2.c))) (by kernel_rfl) (by (obtain ⟨q0, q1⟩ := HF.out W (Below.refl _ _); obtain ⟨a0, a1, a2, a3, a4, a5, a6⟩ := seven_of q0; obtain ⟨_, _, _, _, _, _, b6, b7, b8⟩ := nine_at q1; exact ⟨a0, a1, a2, a3, a4, a5, a6, b6, b7, b8, HVC.out W (Below.refl _ _)⟩)) (fun hHeld => ?_)
            refine wpAnyH_take (i := 0) (v := ?zb4v0) (by simp only [List.getElem?_toArray, List.getElem?_cons_zero]; rfl) (by kernel_rfl) (by kernel_rfl) (by kernel_rfl) (by exact fun _ _ _ h => h) (Or.inl ⟨by rfl, ?zb4y0⟩) (by assumption) ?zb4r0
            case zb4y0 => (intro w hSw; (try dsimp only at hSw); go_simp; try (with_reducible rfl))
            try simp only [Act.put, List.setIfInBounds_toArray, List.set_cons_zero, List.set_cons_succ]
            refine wpAnyH_take (i := 1) (v := ?zb4v1) (by simp only [List.getElem?_toArray, List.getElem?_cons_succ, List.getElem?_cons_zero]; rfl) (by kernel_rfl) (by kernel_rfl) (by kernel_rfl) (by exact fun _ _ _ h => h) (Or.inl ⟨by rfl, ?zb4y1⟩) (by assumption) ?zb4r1
            case zb4y1 => (intro w hSw; (try dsimp only at hSw); go_simp; try (with_reducible rfl))
            try simp only [Act.put, List.setIfInBounds_toArray, List.set_cons_zero, List.set_cons_succ]
            refine wpAnyH_take (i := 2) (v := ?zb4v2) (by simp only [List.getElem?_toArray, List.getElem?_cons_succ, List.getElem?_cons_zero]; rfl) (by kernel_rfl) (by kernel_rfl) (by kernel_rfl) (by exact fun _ _ _ h => h) (Or.inl ⟨by rfl, ?zb4y2⟩) (by assumption) ?zb4r2
            case zb4y2 => (intro w hSw; (try dsimp only at hSw); go_simp; try (with_reducible rfl))
            try simp only [Act.put, List.setIfInBounds_toArray, List.set_cons_zero, List.set_cons_succ]
            refine wpAnyH_ready (rs := [3]) (by kernel_rfl) (by simp) ?_
            refine AllReadyH.cons (by simp only [List.getElem?_toArray, List.getElem?_cons_succ, List.getElem?_cons_zero]; rfl) (fun K hK => ?_) AllReadyH.nil
            go_simp
            (with_reducible refine (HHS.out _ (by first | exact Below.refl _ _ | exact (Below.refl _ _).drew | exact below_dN' (Below.refl _ _) _)).mono ?_)
            rintro e w5 ⟨rfl, hb5⟩
            have HB5 : Hid (Below W.heap.size W w5) := Below.trans (by first | exact Below.refl _ _ | exact (Below.refl _ _).drew | exact below_dN' (Below.refl _ _) _) (hb5.mono (by first | exact Nat.le_refl _ | exact Nat.le_of_eq rfl))
            clear hb5
            go_wp2_with fail
            refine hK.out _ _ (by (obtain ⟨q0, q1⟩ := HF.out w5 HB5.out; obtain ⟨a0, a1, a2, a3, a4, a5, a6⟩ := seven_of q0; obtain ⟨_, _, _, _, _, _, b6, b7, b8⟩ := nine_at q1; exact ⟨a0, a1, a2, a3, a4, a5, a6, b6, b7, b8, HVC.out w5 HB5.out⟩)) (fun hHeld1 => ?_)
            clear hK K hHeld
            try simp only [Act.put, List.setIfInBounds_toArray, List.set_cons_zero, List.set_cons_succ]
            refine wpAnyH_take (i := 4) (v := ?zb4v4) (by simp only [List.getElem?_toArray, List.getElem?_cons_succ, List.getElem?_cons_zero]; rfl) (by kernel_rfl) (by kernel_rfl) (by kernel_rfl) (by exact fun _ _ _ h => h) (Or.inl ⟨by rfl, ?zb4y4⟩) (by assumption) ?zb4r4
            case zb4y4 => (intro w hSw; (try dsimp only at hSw); go_simp; try (with_reducible rfl))
            try simp only [Act.put, List.setIfInBounds_toArray, List.set_cons_zero, List.set_cons_succ]
            refine wpAnyH_take (i := 5) (v := ?zb4v5) (by simp only [List.getElem?_toArray, List.getElem?_cons_succ, List.getElem?_cons_zero]; rfl) (by kernel_rfl) (by kernel_rfl) (by kernel_rfl) (by exact fun _ _ _ h => h) (Or.inl ⟨by rfl, ?zb4y5⟩) (by assumption) ?zb4r5
            case zb4y5 => (intro w hSw; (try dsimp only at hSw); go_simp; try (with_reducible rfl))
            try simp only [Act.put, List.setIfInBounds_toArray, List.set_cons_zero, List.set_cons_succ]
            refine wpAnyH_take (i := 6) (v := ?zb4v6) (by simp only [List.getElem?_toArray, List.getElem?_cons_succ, List.getElem?_cons_zero]; rfl) (by kernel_rfl) (by kernel_rfl) (by kernel_rfl) (by exact fun _ _ _ h => h) (Or.inl ⟨by rfl, ?zb4y6⟩) (by assumption) ?zb4r6
            case zb4y6 => (intro w hSw; (try dsimp only at hSw); go_simp; try (with_reducible rfl))
            try simp only [Act.put, List.setIfInBounds_toArray, List.set_cons_zero, List.set_cons_succ]
            refine wpAnyH_take (i := 7) (v := ?zb4v7) (by simp only [List.getElem?_toArray, List.getElem?_cons_succ, List.getElem?_cons_zero]; rfl) (by kernel_rfl) (by kernel_rfl) (by kernel_rfl) (by exact fun _ _ _ h => h) (Or.inl ⟨by rfl, ?zb4y7⟩) (by assumption) ?zb4r7
            case zb4y7 => (intro w hSw; (try dsimp only at hSw); go_simp; try (with_reducible rfl))
            try simp only [Act.put, List.setIfInBounds_toArray, List.set_cons_zero, List.set_cons_succ]
            refine wpAnyH_take (i := 8) (v := ?zb4v8) (by simp only [List.getElem?_toArray, List.getElem?_cons_succ, List.getElem?_cons_zero]; rfl) (by kernel_rfl) (by kernel_rfl) (by kernel_rfl) (by exact fun _ _ _ h => h) (Or.inl ⟨by rfl, ?zb4y8⟩) (by assumption) ?zb4r8
            case zb4y8 => (intro w hSw; (try dsimp only at hSw); go_simp; try (with_reducible rfl))
            try simp only [Act.put, List.setIfInBounds_toArray, List.set_cons_zero, List.set_cons_succ]
            refine wpAnyH_take (i := 9) (v := ?zb4v9) (by simp only [List.getElem?_toArray, List.getElem?_cons_succ, List.getElem?_cons_zero]; rfl) (by kernel_rfl) (by kernel_rfl) (by kernel_rfl) (by exact fun _ _ _ h => h) (Or.inl ⟨by rfl, ?zb4y9⟩) (by assumption) ?zb4r9
            case zb4y9 => (intro w hSw; (try dsimp only at hSw); go_simp; try (with_reducible rfl))
            try simp only [Act.put, List.setIfInBounds_toArray, List.set_cons_zero, List.set_cons_succ]
            refine wpAnyH_take (i := 10) (v := ?zb4v10) (by simp only [List.getElem?_toArray, List.getElem?_cons_succ, List.getElem?_cons_zero]; rfl) (by kernel_rfl) (by kernel_rfl) (by kernel_rfl) (by exact fun _ _ _ h => h) (Or.inl ⟨by rfl, ?zb4y10⟩) (by assumption) ?zb4r10
            case zb4y10 => (intro w hSw; (try dsimp only at hSw); go_simp; try (with_reducible rfl))
            try simp only [Act.put, List.setIfInBounds_toArray, List.set_cons_zero, List.set_cons_succ]
            refine wpAnyH_take (i := 11) (v := ?zb4v11) (by simp only [List.getElem?_toArray, List.getElem?_cons_succ, List.getElem?_cons_zero]; rfl) (by kernel_rfl) (by kernel_rfl) (by kernel_rfl) (by exact fun _ _ _ h => h) (Or.inl ⟨by rfl, ?zb4y11⟩) (by assumption) ?zb4r11
            case zb4y11 => (intro w hSw; (try dsimp only at hSw); go_simp; try (with_reducible rfl))
            try simp only [Act.put, List.setIfInBounds_toArray, List.set_cons_zero, List.set_cons_succ]
            refine wpAnyH_take (i := 12) (v := ?zb4v12) (by simp only [List.getElem?_toArray, List.getElem?_cons_succ, List.getElem?_cons_zero]; rfl) (by kernel_rfl) (by kernel_rfl) (by kernel_rfl) (by exact fun _ _ _ h => h) (Or.inl ⟨by rfl, ?zb4y12⟩) (by assumption) ?zb4r12
            case zb4y12 => (intro w hSw; (try dsimp only at hSw); go_simp; try (with_reducible rfl))
            try simp only [Act.put, List.setIfInBounds_toArray, List.set_cons_zero, List.set_cons_succ]
            refine wpAnyH_take (i := 13) (v := ?zb4v13) (by simp only [List.getElem?_toArray, List.getElem?_cons_succ, List.getElem?_cons_zero]; rfl) (by kernel_rfl) (by kernel_rfl) (by kernel_rfl) (by exact fun _ _ _ h => h) (Or.inl ⟨by rfl, ?zb4y13⟩) (by assumption) ?zb4r13
            case zb4y13 => (intro w hSw; (try dsimp only at hSw); go_simp; try (with_reducible rfl))
            try simp only [Act.put, List.setIfInBounds_toArray, List.set_cons_zero, List.set_cons_succ]
            refine wpAnyH_take (i := 14) (v := ?zb4v14) (by simp only [List.getElem?_toArray, List.getElem?_cons_succ, List.getElem?_cons_zero]; rfl) (by kernel_rfl) (by kernel_rfl) (by kernel_rfl) (by exact fun _ _ _ h => h) (Or.inl ⟨by rfl, ?zb4y14⟩) (by assumption) ?zb4r14
            case zb4y14 => (intro w hSw; (try dsimp only at hSw); go_simp; try (with_reducible rfl))
            try simp only [Act.put, List.setIfInBounds_toArray, List.set_cons_zero, List.set_cons_succ]
            refine wpAnyH_ready (rs := [15]) (by kernel_rfl) (by simp) ?_
            refine AllReadyH.cons (by simp only [List.getElem?_toArray, List.getElem?_cons_succ, List.getElem?_cons_zero]; rfl) (fun K hK => ?_) AllReadyH.nil
            go_simp
            (with_reducible refine (HN1.out _ (by first | exact HB5.out | exact HB5.out.drew | exact below_dN' HB5.out _)).mono ?_)
            rintro e w7 ⟨rfl, rfl⟩
            go_wp2_with fail
            refine hK.out _ _ (by (obtain ⟨q0, q1⟩ := HF.out w5 HB5.out; obtain ⟨a0, a1, a2, a3, a4, a5, a6⟩ := seven_of q0; obtain ⟨_, _, _, _, _, _, b6, b7, b8⟩ := nine_at q1; exact ⟨a0, a1, a2, a3, a4, a5, a6, b6, b7, b8, HVC.out w5 HB5.out⟩)) (fun hHeld2 => ?_)
            clear hK K hHeld1
            try simp only [Act.put, List.setIfInBounds_toArray, List.set_cons_zero, List.set_cons_succ]
            refine wpAnyH_take (i := 16) (v := ?zb4v16) (by simp only [List.getElem?_toArray, List.getElem?_cons_succ, List.getElem?_cons_zero]; rfl) (by kernel_rfl) (by kernel_rfl) (by kernel_rfl) (by exact fun _ _ _ h => h) (Or.inl ⟨by rfl, ?zb4y16⟩) (by assumption) ?zb4r16
            case zb4y16 => (intro w hSw; (try dsimp only at hSw); go_simp; try (with_reducible rfl))
            try simp only [Act.put, List.setIfInBounds_toArray, List.set_cons_zero, List.set_cons_succ]
            refine wpAnyH_take (i := 17) (v := ?zb4v17) (by simp only [List.getElem?_toArray, List.getElem?_cons_succ, List.getElem?_cons_zero]; rfl) (by kernel_rfl) (by kernel_rfl) (by kernel_rfl) (by exact fun _ _ _ h => h) (Or.inl ⟨by rfl, ?zb4y17⟩) (by assumption) ?zb4r17
            case zb4y17 => (intro w hSw; (try dsimp only at hSw); go_simp; try (with_reducible rfl))
            try simp only [Act.put, List.setIfInBounds_toArray, List.set_cons_zero, List.set_cons_succ]
            refine wpAnyH_take (i := 18) (v := ?zb4v18) (by simp only [List.getElem?_toArray, List.getElem?_cons_succ, List.getElem?_cons_zero]; rfl) (by kernel_rfl) (by kernel_rfl) (by kernel_rfl) (by exact fun _ _ _ h => h) (Or.inl ⟨by rfl, ?zb4y18⟩) (by assumption) ?zb4r18
            case zb4y18 => (intro w hSw; (try dsimp only at hSw); go_simp; try (with_reducible rfl))
            try simp only [Act.put, List.setIfInBounds_toArray, List.set_cons_zero, List.set_cons_succ]
            refine wpAnyH_take (i := 19) (v := ?zb4v19) (by simp only [List.getElem?_toArray, List.getElem?_cons_succ, List.getElem?_cons_zero]; rfl) (by kernel_rfl) (by kernel_rfl) (by kernel_rfl) (by exact fun _ _ _ h => h) (Or.inl ⟨by rfl, ?zb4y19⟩) (by assumption) ?zb4r19
            case zb4y19 => (intro w hSw; (try dsimp only at hSw); go_simp; try (with_reducible rfl))
            try simp only [Act.put, List.setIfInBounds_toArray, List.set_cons_zero, List.set_cons_succ]
            refine wpAnyH_take (i := 20) (v := ?zb4v20) (by simp only [List.getElem?_toArray, List.getElem?_cons_succ, List.getElem?_cons_zero]; rfl) (by kernel_rfl) (by kernel_rfl) (by kernel_rfl) (by exact fun _ _ _ h => h) (Or.inl ⟨by rfl, ?zb4y20⟩) (by assumption) ?zb4r20
            case zb4y20 => (intro w hSw; (try dsimp only at hSw); go_simp; try (with_reducible rfl))
            try simp only [Act.put, List.setIfInBounds_toArray, List.set_cons_zero, List.set_cons_succ]
            refine wpAnyH_take (i := 21) (v := ?zb4v21) (by simp only [List.getElem?_toArray, List.getElem?_cons_succ, List.getElem?_cons_zero]; rfl) (by kernel_rfl) (by kernel_rfl) (by kernel_rfl) (by exact fun _ _ _ h => h) (Or.inl ⟨by rfl, ?zb4y21⟩) (by assumption) ?zb4r21
            case zb4y21 => (intro w hSw; (try dsimp only at hSw); go_simp; try (with_reducible rfl))
            try simp only [Act.put, List.setIfInBounds_toArray, List.set_cons_zero, List.set_cons_succ]
            refine wpAnyH_ready (rs := [22]) (by kernel_rfl) (by simp) ?_
            refine AllReadyH.cons (by simp only [List.getElem?_toArray, List.getElem?_cons_succ, List.getElem?_cons_zero]; rfl) (fun K hK => ?_) AllReadyH.nil
            go_simp
            (with_reducible refine (HIB.out _ (by first | exact HB5.out | exact HB5.out.drew | exact below_dN' HB5.out _)).mono ?_)
            rintro e w6 ⟨rfl, hb6⟩
            have HB6 : Hid (Below W.heap.size W w6) := Below.trans (by first | exact HB5.out | exact HB5.out.drew | exact below_dN' HB5.out _) (hb6.mono (by first | exact HB5.out.size | exact HB5.out.drew.size))
            clear hb6
            go_wp2_with fail
            refine hK.out _ _ (by (obtain ⟨q0, q1⟩ := HF.out w6 HB6.out; obtain ⟨a0, a1, a2, a3, a4, a5, a6⟩ := seven_of q0; obtain ⟨_, _, _, _, _, _, b6, b7, b8⟩ := nine_at q1; exact ⟨a0, a1, a2, a3, a4, a5, a6, b6, b7, b8, HVC.out w6 HB6.out⟩)) (fun hHeld3 => ?_)
            clear hK K hHeld2
            try simp only [Act.put, List.setIfInBounds_toArray, List.set_cons_zero, List.set_cons_succ]
            refine wpAnyH_take (i := 23) (v := ?zb4v23) (by simp only [List.getElem?_toArray, List.getElem?_cons_succ, List.getElem?_cons_zero]; rfl) (by kernel_rfl) (by kernel_rfl) (by kernel_rfl) (by exact fun _ _ _ h => h) (Or.inl ⟨by rfl, ?zb4y23⟩) (by assumption) ?zb4r23
            case zb4y23 => (intro w hSw; (try dsimp only at hSw); go_simp; try (with_reducible rfl))
            try simp only [Act.put, List.setIfInBounds_toArray, List.set_cons_zero, List.set_cons_succ]
            refine wpAnyH_take (i := 24) (v := ?zb4v24) (by simp only [List.getElem?_toArray, List.getElem?_cons_succ, List.getElem?_cons_zero]; rfl) (by kernel_rfl) (by kernel_rfl) (by kernel_rfl) (by exact fun _ _ _ h => h) (Or.inl ⟨by rfl, ?zb4y24⟩) (by assumption) ?zb4r24
            case zb4y24 => (intro w hSw; (try dsimp only at hSw); go_simp; try (with_reducible rfl))
            try simp only [Act.put, List.setIfInBounds_toArray, List.set_cons_zero, List.set_cons_succ]
            refine wpAnyH_done (by kernel_rfl) ?_ _
            refine NoPanic.normal ?_
            obtain ⟨q0, q1⟩ := HF.out w6 HB6.out
            clear z0 z1 z2 z3 z4 z5 z6 y0 y1 y2 y3 y4 y5 y6 y7 y8
            obtain ⟨z0, z1, z2, z3, z4, z5, z6⟩ := seven_of q0
            obtain ⟨y0, y1, y2, y3, y4, y5, y6, y7, y8⟩ := nine_at q1
            have hvc := HVC.out w6 HB6.out
            clear q0 q1
            go_wp2_with fail
            refine (HAA.out _ (by first | exact HB6.out | exact HB6.out.drew | exact below_dN' HB6.out _)).mono ?_
            rintro e w7 ⟨rfl, hb5⟩
            have HB7 : Hid (Below W.heap.size W w7) := Below.trans (by first | exact HB6.out | exact HB6.out.drew | exact below_dN' HB6.out _) (hb5.mono (by first | exact Nat.le_refl _ | exact Nat.le_of_eq rfl | exact HB6.out.size))
            clear hb5
            obtain ⟨q0, q1⟩ := HF.out w7 HB7.out
            clear z0 z1 z2 z3 z4 z5 z6 y0 y1 y2 y3 y4 y5 y6 y7 y8
            obtain ⟨z0, z1, z2, z3, z4, z5, z6⟩ := seven_of q0
            obtain ⟨y0, y1, y2, y3, y4, y5, y6, y7, y8⟩ := nine_at q1
            clear q0 q1
            go_wp2_with fail
            refine (HAB.out _ (by first | exact HB7.out | exact HB7.out.drew | exact below_dN' HB7.out _)).mono ?_
            rintro e w8 ⟨rfl, hb5⟩
            have HB8 : Hid (Below W.heap.size W w8) := Below.trans (by first | exact HB7.out | exact HB7.out.drew | exact below_dN' HB7.out _) (hb5.mono (by first | exact Nat.le_refl _ | exact Nat.le_of_eq rfl | exact HB7.out.size))
            clear hb5
            obtain ⟨q0, q1⟩ := HF.out w8 HB8.out
            clear z0 z1 z2 z3 z4 z5 z6 y0 y1 y2 y3 y4 y5 y6 y7 y8
            obtain ⟨z0, z1, z2, z3, z4, z5, z6⟩ := seven_of q0
            obtain ⟨y0, y1, y2, y3, y4, y5, y6, y7, y8⟩ := nine_at q1
            clear q0 q1
            go_wp2
            go_ret
            exact ⟨by rw [HE.out]; rfl, HB.out.trans (HB8.out.mono HB.out.size)⟩
          · cases cb
            · go_enter Tryz.func24, Tryz.ntmps24
              go_wp2_with fail
              rw [← HW.out]
              refine wp_region_noPanic ?_
              refine wp_region_held_drew (S := (fun w' => w'.cell? ⟨w.heap.size, 0, none⟩ = some (.slice r1.a r1.n r1.c) ∧ w'.cell? ⟨w.heap.size, 1, none⟩ = some (.slice r2.a r2.n r2.c) ∧ w'.cell? ⟨w.heap.size, 2, none⟩ = some (.int .i64 rq) ∧ w'.cell? ⟨w.heap.size, 3, none⟩ = some (.slice r3.a r3.n r3.c) ∧ w'.cell? ⟨w.heap.size, 4, none⟩ = some (.slice r4.a r4.n r4.c) ∧ w'.cell? ⟨w.heap.size, 5, none⟩ = some (.slice (some ⟨bv, ov, none⟩) r5n r5c) ∧ w'.cell? ⟨w.heap.size, 6, none⟩ = some (.slice r6.a r6.n r6.c) ∧ w'.cell? ⟨w.heap.size + 1, 6, none⟩ = some (.int .i64 (kv : Int)) ∧ w'.cell? ⟨w.heap.size + 1, 7, none⟩ = some (.int .i64 xa) ∧ w'.cell? ⟨w.heap.size + 1, 8, none⟩ = some (.int .i64 xb) ∧ w'.cell? ⟨bv, ov + kv * 15 + 1, none⟩ = some (.slice pv.2.a pv.2.n pv.2.c))) (by kernel_rfl) (by (obtain ⟨q0, q1⟩ := HF.out W (Below.refl _ _); obtain ⟨a0, a1, a2, a3, a4, a5, a6⟩ := seven_of q0; obtain ⟨_, _, _, _, _, _, b6, b7, b8⟩ := nine_at q1; exact ⟨a0, a1, a2, a3, a4, a5, a6, b6, b7, b8, HVC.out W (Below.refl _ _)⟩)) (fun hHeld => ?_)
              refine wpAnyH_take (i := 0) (v := ?zb5v0) (by simp only [List.getElem?_toArray, List.getElem?_cons_zero]; rfl) (by kernel_rfl) (by kernel_rfl) (by kernel_rfl) (by exact fun _ _ _ h => h) (Or.inl ⟨by rfl, ?zb5y0⟩) (by assumption) ?zb5r0
              case zb5y0 => (intro w hSw; (try dsimp only at hSw); go_simp; try (with_reducible rfl))
              try simp only [Act.put, List.setIfInBounds_toArray, List.set_cons_zero, List.set_cons_succ]
              refine wpAnyH_take (i := 1) (v := ?zb5v1) (by simp only [List.getElem?_toArray, List.getElem?_cons_succ, List.getElem?_cons_zero]; rfl) (by kernel_rfl) (by kernel_rfl) (by kernel_rfl) (by exact fun _ _ _ h => h) (Or.inl ⟨by rfl, ?zb5y1⟩) (by assumption) ?zb5r1
              case zb5y1 => (intro w hSw; (try dsimp only at hSw); go_simp; try (with_reducible rfl))
              try simp only [Act.put, List.setIfInBounds_toArray, List.set_cons_zero, List.set_cons_succ]
              refine wpAnyH_take (i := 2) (v := ?zb5v2) (by simp only [List.getElem?_toArray, List.getElem?_cons_succ, List.getElem?_cons_zero]; rfl) (by kernel_rfl) (by kernel_rfl) (by kernel_rfl) (by exact fun _ _ _ h => h) (Or.inl ⟨by rfl, ?zb5y2⟩) (by assumption) ?zb5r2
              case zb5y2 => (intro w hSw; (try dsimp only at hSw); go_simp; try (with_reducible rfl))
              try simp only [Act.put, List.setIfInBounds_toArray, List.set_cons_zero, List.set_cons_succ]
              refine wpAnyH_ready (rs := [3]) (by kernel_rfl) (by simp) ?_
              refine AllReadyH.cons (by simp only [List.getElem?_toArray, List.getElem?_cons_succ, List.getElem?_cons_zero]; rfl) (fun K hK => ?_) AllReadyH.nil
              go_simp
              (with_reducible refine (HHS.out _ (by first | exact Below.refl _ _ | exact (Below.refl _ _).drew | exact below_dN' (Below.refl _ _) _)).mono ?_)
              rintro e w5 ⟨rfl, hb5⟩
              have HB5 : Hid (Below W.heap.size W w5) := Below.trans (by first | exact Below.refl _ _ | exact (Below.refl _ _).drew | exact below_dN' (Below.refl _ _) _) (hb5.mono (by first | exact Nat.le_refl _ | exact Nat.le_of_eq rfl))
              clear hb5
              go_wp2_with fail
              refine hK.out _ _ (by (obtain ⟨q0, q1⟩ := HF.out w5 HB5.out; obtain ⟨a0, a1, a2, a3, a4, a5, a6⟩ := seven_of q0; obtain ⟨_, _, _, _, _, _, b6, b7, b8⟩ := nine_at q1; exact ⟨a0, a1, a2, a3, a4, a5, a6, b6, b7, b8, HVC.out w5 HB5.out⟩)) (fun hHeld1 => ?_)
              clear hK K hHeld
              try simp only [Act.put, List.setIfInBounds_toArray, List.set_cons_zero, List.set_cons_succ]
              refine wpAnyH_take (i := 4) (v := ?zb5v4) (by simp only [List.getElem?_toArray, List.getElem?_cons_succ, List.getElem?_cons_zero]; rfl) (by kernel_rfl) (by kernel_rfl) (by kernel_rfl) (by exact fun _ _ _ h => h) (Or.inl ⟨by rfl, ?zb5y4⟩) (by assumption) ?zb5r4
              case zb5y4 => (intro w hSw; (try dsimp only at hSw); go_simp; try (with_reducible rfl))
              try simp only [Act.put, List.setIfInBounds_toArray, List.set_cons_zero, List.set_cons_succ]
              refine wpAnyH_take (i := 5) (v := ?zb5v5) (by simp only [List.getElem?_toArray, List.getElem?_cons_succ, List.getElem?_cons_zero]; rfl) (by kernel_rfl) (by kernel_rfl) (by kernel_rfl) (by exact fun _ _ _ h => h) (Or.inl ⟨by rfl, ?zb5y5⟩) (by assumption) ?zb5r5
              case zb5y5 => (intro w hSw; (try dsimp only at hSw); go_simp; try (with_reducible rfl))
              try simp only [Act.put, List.setIfInBounds_toArray, List.set_cons_zero, List.set_cons_succ]
              refine wpAnyH_take (i := 6) (v := ?zb5v6) (by simp only [List.getElem?_toArray, List.getElem?_cons_succ, List.getElem?_cons_zero]; rfl) (by kernel_rfl) (by kernel_rfl) (by kernel_rfl) (by exact fun _ _ _ h => h) (Or.inl ⟨by rfl, ?zb5y6⟩) (by assumption) ?zb5r6
              case zb5y6 => (intro w hSw; (try dsimp only at hSw); go_simp; try (with_reducible rfl))
              try simp only [Act.put, List.setIfInBounds_toArray, List.set_cons_zero, List.set_cons_succ]
              refine wpAnyH_take (i := 7) (v := ?zb5v7) (by simp only [List.getElem?_toArray, List.getElem?_cons_succ, List.getElem?_cons_zero]; rfl) (by kernel_rfl) (by kernel_rfl) (by kernel_rfl) (by exact fun _ _ _ h => h) (Or.inl ⟨by rfl, ?zb5y7⟩) (by assumption) ?zb5r7
              case zb5y7 => (intro w hSw; (try dsimp only at hSw); go_simp; try (with_reducible rfl))
              try simp only [Act.put, List.setIfInBounds_toArray, List.set_cons_zero, List.set_cons_succ]
              refine wpAnyH_take (i := 8) (v := ?zb5v8) (by simp only [List.getElem?_toArray, List.getElem?_cons_succ, List.getElem?_cons_zero]; rfl) (by kernel_rfl) (by kernel_rfl) (by kernel_rfl) (by exact fun _ _ _ h => h) (Or.inl ⟨by rfl, ?zb5y8⟩) (by assumption) ?zb5r8
              case zb5y8 => (intro w hSw; (try dsimp only at hSw); go_simp; try (with_reducible rfl))
              try simp only [Act.put, List.setIfInBounds_toArray, List.set_cons_zero, List.set_cons_succ]
              refine wpAnyH_take (i := 9) (v := ?zb5v9) (by simp only [List.getElem?_toArray, List.getElem?_cons_succ, List.getElem?_cons_zero]; rfl) (by kernel_rfl) (by kernel_rfl) (by kernel_rfl) (by exact fun _ _ _ h => h) (Or.inl ⟨by rfl, ?zb5y9⟩) (by assumption) ?zb5r9
              case zb5y9 => (intro w hSw; (try dsimp only at hSw); go_simp; try (with_reducible rfl))
              try simp only [Act.put, List.setIfInBounds_toArray, List.set_cons_zero, List.set_cons_succ]
              refine wpAnyH_take (i := 10) (v := ?zb5v10) (by simp only [List.getElem?_toArray, List.getElem?_cons_succ, List.getElem?_cons_zero]; rfl) (by kernel_rfl) (by kernel_rfl) (by kernel_rfl) (by exact fun _ _ _ h => h) (Or.inl ⟨by rfl, ?zb5y10⟩) (by assumption) ?zb5r10
              case zb5y10 => (intro w hSw; (try dsimp only at hSw); go_simp; try (with_reducible rfl))
              try simp only [Act.put, List.setIfInBounds_toArray, List.set_cons_zero, List.set_cons_succ]
              refine wpAnyH_take (i := 11) (v := ?zb5v11) (by simp only [List.getElem?_toArray, List.getElem?_cons_succ, List.getElem?_cons_zero]; rfl) (by kernel_rfl) (by kernel_rfl) (by kernel_rfl) (by exact fun _ _ _ h => h) (Or.inl ⟨by rfl, ?zb5y11⟩) (by assumption) ?zb5r11
              case zb5y11 => (intro w hSw; (try dsimp only at hSw); go_simp; try (with_reducible rfl))
              try simp only [Act.put, List.setIfInBounds_toArray, List.set_cons_zero, List.set_cons_succ]
              refine wpAnyH_take (i := 12) (v := ?zb5v12) (by simp only [List.getElem?_toArray, List.getElem?_cons_succ, List.getElem?_cons_zero]; rfl) (by kernel_rfl) (by kernel_rfl) (by kernel_rfl) (by exact fun _ _ _ h => h) (Or.inl ⟨by rfl, ?zb5y12⟩) (by assumption) ?zb5r12
              case zb5y12 => (intro w hSw; (try dsimp only at hSw); go_simp; try (with_reducible rfl))
              try simp only [Act.put, List.setIfInBounds_toArray, List.set_cons_zero, List.set_cons_succ]
              refine wpAnyH_take (i := 13) (v := ?zb5v13) (by simp only [List.getElem?_toArray, List.getElem?_cons_succ, List.getElem?_cons_zero]; rfl) (by kernel_rfl) (by kernel_rfl) (by kernel_rfl) (by exact fun _ _ _ h => h) (Or.inl ⟨by rfl, ?zb5y13⟩) (by assumption) ?zb5r13
              case zb5y13 => (intro w hSw; (try dsimp only at hSw); go_simp; try (with_reducible rfl))
              try simp only [Act.put, List.setIfInBounds_toArray, List.set_cons_zero, List.set_cons_succ]
              refine wpAnyH_take (i := 14) (v := ?zb5v14) (by simp only [List.getElem?_toArray, List.getElem?_cons_succ, List.getElem?_cons_zero]; rfl) (by kernel_rfl) (by kernel_rfl) (by kernel_rfl) (by exact fun _ _ _ h => h) (Or.inl ⟨by rfl, ?zb5y14⟩) (by assumption) ?zb5r14
              case zb5y14 => (intro w hSw; (try dsimp only at hSw); go_simp; try (with_reducible rfl))
              try simp only [Act.put, List.setIfInBounds_toArray, List.set_cons_zero, List.set_cons_succ]
              refine wpAnyH_ready (rs := [15]) (by kernel_rfl) (by simp) ?_
              refine AllReadyH.cons (by simp only [List.getElem?_toArray, List.getElem?_cons_succ, List.getElem?_cons_zero]; rfl) (fun K hK => ?_) AllReadyH.nil
              go_simp
              (with_reducible refine (HN1.out _ (by first | exact HB5.out | exact HB5.out.drew | exact below_dN' HB5.out _)).mono ?_)
              rintro e w7 ⟨rfl, rfl⟩
              go_wp2_with fail
              refine hK.out _ _ (by (obtain ⟨q0, q1⟩ := HF.out w5 HB5.out; obtain ⟨a0, a1, a2, a3, a4, a5, a6⟩ := seven_of q0; obtain ⟨_, _, _, _, _, _, b6, b7, b8⟩ := nine_at q1; exact ⟨a0, a1, a2, a3, a4, a5, a6, b6, b7, b8, HVC.out w5 HB5.out⟩)) (fun hHeld2 => ?_)
              clear hK K hHeld1
              try simp only [Act.put, List.setIfInBounds_toArray, List.set_cons_zero, List.set_cons_succ]
              refine wpAnyH_take (i := 16) (v := ?zb5v16) (by simp only [List.getElem?_toArray, List.getElem?_cons_succ, List.getElem?_cons_zero]; rfl) (by kernel_rfl) (by kernel_rfl) (by kernel_rfl) (by exact fun _ _ _ h => h) (Or.inl ⟨by rfl, ?zb5y16⟩) (by assumption) ?zb5r16
              case zb5y16 => (intro w hSw; (try dsimp only at hSw); go_simp; try (with_reducible rfl))
              try simp only [Act.put, List.setIfInBounds_toArray, List.set_cons_zero, List.set_cons_succ]
              refine wpAnyH_take (i := 17) (v := ?zb5v17) (by simp only [List.getElem?_toArray, List.getElem?_cons_succ, List.getElem?_cons_zero]; rfl) (by kernel_rfl) (by kernel_rfl) (by kernel_rfl) (by exact fun _ _ _ h => h) (Or.inl ⟨by rfl, ?zb5y17⟩) (by assumption) ?zb5r17
              case zb5y17 => (intro w hSw; (try dsimp only at hSw); go_simp; try (with_reducible rfl))
              try simp only [Act.put, List.setIfInBounds_toArray, List.set_cons_zero, List.set_cons_succ]
              refine wpAnyH_take (i := 18) (v := ?zb5v18) (by simp only [List.getElem?_toArray, List.getElem?_cons_succ, List.getElem?_cons_zero]; rfl) (by kernel_rfl) (by kernel_rfl) (by kernel_rfl) (by exact fun _ _ _ h => h) (Or.inl ⟨by rfl, ?zb5y18⟩) (by assumption) ?zb5r18
              case zb5y18 => (intro w hSw; (try dsimp only at hSw); go_simp; try (with_reducible rfl))
              try simp only [Act.put, List.setIfInBounds_toArray, List.set_cons_zero, List.set_cons_succ]
              refine wpAnyH_take (i := 19) (v := ?zb5v19) (by simp only [List.getElem?_toArray, List.getElem?_cons_succ, List.getElem?_cons_zero]; rfl) (by kernel_rfl) (by kernel_rfl) (by kernel_rfl) (by exact fun _ _ _ h => h) (Or.inl ⟨by rfl, ?zb5y19⟩) (by assumption) ?zb5r19
              case zb5y19 => (intro w hSw; (try dsimp only at hSw); go_simp; try (with_reducible rfl))
              try simp only [Act.put, List.setIfInBounds_toArray, List.set_cons_zero, List.set_cons_succ]
              refine wpAnyH_take (i := 20) (v := ?zb5v20) (by simp only [List.getElem?_toArray, List.getElem?_cons_succ, List.getElem?_cons_zero]; rfl) (by kernel_rfl) (by kernel_rfl) (by kernel_rfl) (by exact fun _ _ _ h => h) (Or.inl ⟨by rfl, ?zb5y20⟩) (by assumption) ?zb5r20
              case zb5y20 => (intro w hSw; (try dsimp only at hSw); go_simp; try (with_reducible rfl))
              try simp only [Act.put, List.setIfInBounds_toArray, List.set_cons_zero, List.set_cons_succ]
              refine wpAnyH_take (i := 21) (v := ?zb5v21) (by simp only [List.getElem?_toArray, List.getElem?_cons_succ, List.getElem?_cons_zero]; rfl) (by kernel_rfl) (by kernel_rfl) (by kernel_rfl) (by exact fun _ _ _ h => h) (Or.inl ⟨by rfl, ?zb5y21⟩) (by assumption) ?zb5r21
              case zb5y21 => (intro w hSw; (try dsimp only at hSw); go_simp; try (with_reducible rfl))
              try simp only [Act.put, List.setIfInBounds_toArray, List.set_cons_zero, List.set_cons_succ]
              refine wpAnyH_ready (rs := [22]) (by kernel_rfl) (by simp) ?_
              refine AllReadyH.cons (by simp only [List.getElem?_toArray, List.getElem?_cons_succ, List.getElem?_cons_zero]; rfl) (fun K hK => ?_) AllReadyH.nil
              go_simp
              (with_reducible refine (HIB.out _ (by first | exact HB5.out | exact HB5.out.drew | exact below_dN' HB5.out _)).mono ?_)
              rintro e w6 ⟨rfl, hb6⟩
              have HB6 : Hid (Below W.heap.size W w6) := Below.trans (by first | exact HB5.out | exact HB5.out.drew | exact below_dN' HB5.out _) (hb6.mono (by first | exact HB5.out.size | exact HB5.out.drew.size))
              clear hb6
              go_wp2_with fail
              refine hK.out _ _ (by (obtain ⟨q0, q1⟩ := HF.out w6 HB6.out; obtain ⟨a0, a1, a2, a3, a4, a5, a6⟩ := seven_of q0; obtain ⟨_, _, _, _, _, _, b6, b7, b8⟩ := nine_at q1; exact ⟨a0, a1, a2, a3, a4, a5, a6, b6, b7, b8, HVC.out w6 HB6.out⟩)) (fun hHeld3 => ?_)
              clear hK K hHeld2
              try simp only [Act.put, List.setIfInBounds_toArray, List.set_cons_zero, List.set_cons_succ]
              refine wpAnyH_take (i := 23) (v := ?zb5v23) (by simp only [List.getElem?_toArray, List.getElem?_cons_succ, List.getElem?_cons_zero]; rfl) (by kernel_rfl) (by kernel_rfl) (by kernel_rfl) (by exact fun _ _ _ h => h) (Or.inl ⟨by rfl, ?zb5y23⟩) (by assumption) ?zb5r23
              case zb5y23 => (intro w hSw; (try dsimp only at hSw); go_simp; try (with_reducible rfl))
              try simp only [Act.put, List.setIfInBounds_toArray, List.set_cons_zero, List.set_cons_succ]
              refine wpAnyH_take (i := 24) (v := ?zb5v24) (by simp only [List.getElem?_toArray, List.getElem?_cons_succ, List.getElem?_cons_zero]; rfl) (by kernel_rfl) (by kernel_rfl) (by kernel_rfl) (by exact fun _ _ _ h => h) (Or.inl ⟨by rfl, ?zb5y24⟩) (by assumption) ?zb5r24
              case zb5y24 => (intro w hSw; (try dsimp only at hSw); go_simp; try (with_reducible rfl))
              try simp only [Act.put, List.setIfInBounds_toArray, List.set_cons_zero, List.set_cons_succ]
              refine wpAnyH_done (by kernel_rfl) ?_ _
              refine NoPanic.normal ?_
              obtain ⟨q0, q1⟩ := HF.out w6 HB6.out
              clear z0 z1 z2 z3 z4 z5 z6 y0 y1 y2 y3 y4 y5 y6 y7 y8
              obtain ⟨z0, z1, z2, z3, z4, z5, z6⟩ := seven_of q0
              obtain ⟨y0, y1, y2, y3, y4, y5, y6, y7, y8⟩ := nine_at q1
              have hvc := HVC.out w6 HB6.out
              clear q0 q1
              go_wp2_with fail
              refine (HAA.out _ (by first | exact HB6.out | exact HB6.out.drew | exact below_dN' HB6.out _)).mono ?_
              rintro e w7 ⟨rfl, hb5⟩
              have HB7 : Hid (Below W.heap.size W w7) := Below.trans (by first | exact HB6.out | exact HB6.out.drew | exact below_dN' HB6.out _) (hb5.mono (by first | exact Nat.le_refl _ | exact Nat.le_of_eq rfl | exact HB6.out.size))
              clear hb5
              obtain ⟨q0, q1⟩ := HF.out w7 HB7.out
              clear z0 z1 z2 z3 z4 z5 z6 y0 y1 y2 y3 y4 y5 y6 y7 y8
              obtain ⟨z0, z1, z2, z3, z4, z5, z6⟩ := seven_of q0
              obtain ⟨y0, y1, y2, y3, y4, y5, y6, y7, y8⟩ := nine_at q1
              clear q0 q1
              go_wp2_with fail
              refine (HAB.out _ (by first | exact HB7.out | exact HB7.out.drew | exact below_dN' HB7.out _)).mono ?_
              rintro e w8 ⟨rfl, hb5⟩
              have HB8 : Hid (Below W.heap.size W w8) := Below.trans (by first | exact HB7.out | exact HB7.out.drew | exact below_dN' HB7.out _) (hb5.mono (by first | exact Nat.le_refl _ | exact Nat.le_of_eq rfl | exact HB7.out.size))
              clear hb5
              obtain ⟨q0, q1⟩ := HF.out w8 HB8.out
              clear z0 z1 z2 z3 z4 z5 z6 y0 y1 y2 y3 y4 y5 y6 y7 y8
              obtain ⟨z0, z1, z2, z3, z4, z5, z6⟩ := seven_of q0
              obtain ⟨y0, y1, y2, y3, y4, y5, y6, y7, y8⟩ := nine_at q1
              clear q0 q1
              go_wp2_with fail
              go_region_held3 (fun w' => w'.cell? ⟨w.heap.size, 0, none⟩ = some (.slice r1.a r1.n r1.c) ∧ w'.cell? ⟨w.heap.size, 1, none⟩ = some (.slice r2.a r2.n r2.c) ∧ w'.cell? ⟨w.heap.size, 2, none⟩ = some (.int .i64 rq) ∧ w'.cell? ⟨w.heap.size, 3, none⟩ = some (.slice r3.a r3.n r3.c) ∧ w'.cell? ⟨w.heap.size, 4, none⟩ = some (.slice r4.a r4.n r4.c) ∧ w'.cell? ⟨w.heap.size, 5, none⟩ = some (.slice (some ⟨bv, ov, none⟩) r5n r5c) ∧ w'.cell? ⟨w.heap.size, 6, none⟩ = some (.slice r6.a r6.n r6.c) ∧ w'.cell? ⟨w.heap.size + 1, 6, none⟩ = some (.int .i64 (kv : Int)) ∧ w'.cell? ⟨w.heap.size + 1, 7, none⟩ = some (.int .i64 xa) ∧ w'.cell? ⟨w.heap.size + 1, 8, none⟩ = some (.int .i64 xb) ∧ w'.cell? ⟨bv, ov + kv * 15 + 1, none⟩ = some (.slice pv.2.a pv.2.n pv.2.c)) (first | (obtain ⟨q0, q1⟩ := HF.out w8 HB8.out; obtain ⟨a0, a1, a2, a3, a4, a5, a6⟩ := seven_of q0; obtain ⟨_, _, _, _, _, _, b6, b7, b8⟩ := nine_at q1; exact ⟨a0, a1, a2, a3, a4, a5, a6, b6, b7, b8, HVC.out w8 HB8.out⟩)) (first | (go_at_call 26; refine (HN2.out _ (by first | exact HB8.out | exact HB8.out.drew | exact below_dN' HB8.out _)).mono ?_; rintro e w9 ⟨rfl, rfl⟩))
              go_wp2
              go_ret
              exact ⟨by rw [HE.out]; rfl, HB.out.trans ((by first | exact HB8.out | exact HB8.out.drew | exact below_dN' HB8.out _ : Below W.heap.size W _).mono HB.out.size)⟩
            · go_enter Tryz.func24, Tryz.ntmps24
              go_wp2_with fail
              rw [← HW.out]
              refine wp_region_noPanic ?_
              refine wp_region_held_drew (S := (fun w' => w'.cell? ⟨w.heap.size, 0, none⟩ = some (.slice r1.a r1.n r1.c) ∧ w'.cell? ⟨w.heap.size, 1, none⟩ = some (.slice r2.a r2.n r2.c) ∧ w'.cell? ⟨w.heap.size, 2, none⟩ = some (.int .i64 rq) ∧ w'.cell? ⟨w.heap.size, 3, none⟩ = some (.slice r3.a r3.n r3.c) ∧ w'.cell? ⟨w.heap.size, 4, none⟩ = some (.slice r4.a r4.n r4.c) ∧ w'.cell? ⟨w.heap.size, 5, none⟩ = some (.slice (some ⟨bv, ov, none⟩) r5n r5c) ∧ w'.cell? ⟨w.heap.size, 6, none⟩ = some (.slice r6.a r6.n r6.c) ∧ w'.cell? ⟨w.heap.size + 1, 6, none⟩ = some (.int .i64 (kv : Int)) ∧ w'.cell? ⟨w.heap.size + 1, 7, none⟩ = some (.int .i64 xa) ∧ w'.cell? ⟨w.heap.size + 1, 8, none⟩ = some (.int .i64 xb) ∧ w'.cell? ⟨bv, ov + kv * 15 + 1, none⟩ = some (.slice pv.2.a pv.2.n pv.2.c))) (by kernel_rfl) (by (obtain ⟨q0, q1⟩ := HF.out W (Below.refl _ _); obtain ⟨a0, a1, a2, a3, a4, a5, a6⟩ := seven_of q0; obtain ⟨_, _, _, _, _, _, b6, b7, b8⟩ := nine_at q1; exact ⟨a0, a1, a2, a3, a4, a5, a6, b6, b7, b8, HVC.out W (Below.refl _ _)⟩)) (fun hHeld => ?_)
              refine wpAnyH_take (i := 0) (v := ?zb6v0) (by simp only [List.getElem?_toArray, List.getElem?_cons_zero]; rfl) (by kernel_rfl) (by kernel_rfl) (by kernel_rfl) (by exact fun _ _ _ h => h) (Or.inl ⟨by rfl, ?zb6y0⟩) (by assumption) ?zb6r0
              case zb6y0 => (intro w hSw; (try dsimp only at hSw); go_simp; try (with_reducible rfl))
              try simp only [Act.put, List.setIfInBounds_toArray, List.set_cons_zero, List.set_cons_succ]
              refine wpAnyH_take (i := 1) (v := ?zb6v1) (by simp only [List.getElem?_toArray, List.getElem?_cons_succ, List.getElem?_cons_zero]; rfl) (by kernel_rfl) (by kernel_rfl) (by kernel_rfl) (by exact fun _ _ _ h => h) (Or.inl ⟨by rfl, ?zb6y1⟩) (by assumption) ?zb6r1
              case zb6y1 => (intro w hSw; (try dsimp only at hSw); go_simp; try (with_reducible rfl))
              try simp only [Act.put, List.setIfInBounds_toArray, List.set_cons_zero, List.set_cons_succ]
              refine wpAnyH_take (i := 2) (v := ?zb6v2) (by simp only [List.getElem?_toArray, List.getElem?_cons_succ, List.getElem?_cons_zero]; rfl) (by kernel_rfl) (by kernel_rfl) (by kernel_rfl) (by exact fun _ _ _ h => h) (Or.inl ⟨by rfl, ?zb6y2⟩) (by assumption) ?zb6r2
              case zb6y2 => (intro w hSw; (try dsimp only at hSw); go_simp; try (with_reducible rfl))
              try simp only [Act.put, List.setIfInBounds_toArray, List.set_cons_zero, List.set_cons_succ]
              refine wpAnyH_ready (rs := [3]) (by kernel_rfl) (by simp) ?_
              refine AllReadyH.cons (by simp only [List.getElem?_toArray, List.getElem?_cons_succ, List.getElem?_cons_zero]; rfl) (fun K hK => ?_) AllReadyH.nil
              go_simp
              (with_reducible refine (HHS.out _ (by first | exact Below.refl _ _ | exact (Below.refl _ _).drew | exact below_dN' (Below.refl _ _) _)).mono ?_)
              rintro e w5 ⟨rfl, hb5⟩
              have HB5 : Hid (Below W.heap.size W w5) := Below.trans (by first | exact Below.refl _ _ | exact (Below.refl _ _).drew | exact below_dN' (Below.refl _ _) _) (hb5.mono (by first | exact Nat.le_refl _ | exact Nat.le_of_eq rfl))
              clear hb5
              go_wp2_with fail
              refine hK.out _ _ (by (obtain ⟨q0, q1⟩ := HF.out w5 HB5.out; obtain ⟨a0, a1, a2, a3, a4, a5, a6⟩ := seven_of q0; obtain ⟨_, _, _, _, _, _, b6, b7, b8⟩ := nine_at q1; exact ⟨a0, a1, a2, a3, a4, a5, a6, b6, b7, b8, HVC.out w5 HB5.out⟩)) (fun hHeld1 => ?_)
              clear hK K hHeld
              try simp only [Act.put, List.setIfInBounds_toArray, List.set_cons_zero, List.set_cons_succ]
              refine wpAnyH_take (i := 4) (v := ?zb6v4) (by simp only [List.getElem?_toArray, List.getElem?_cons_succ, List.getElem?_cons_zero]; rfl) (by kernel_rfl) (by kernel_rfl) (by kernel_rfl) (by exact fun _ _ _ h => h) (Or.inl ⟨by rfl, ?zb6y4⟩) (by assumption) ?zb6r4
              case zb6y4 => (intro w hSw; (try dsimp only at hSw); go_simp; try (with_reducible rfl))
              try simp only [Act.put, List.setIfInBounds_toArray, List.set_cons_zero, List.set_cons_succ]
              refine wpAnyH_take (i := 5) (v := ?zb6v5) (by simp only [List.getElem?_toArray, List.getElem?_cons_succ, List.getElem?_cons_zero]; rfl) (by kernel_rfl) (by kernel_rfl) (by kernel_rfl) (by exact fun _ _ _ h => h) (Or.inl ⟨by rfl, ?zb6y5⟩) (by assumption) ?zb6r5
              case zb6y5 => (intro w hSw; (try dsimp only at hSw); go_simp; try (with_reducible rfl))
              try simp only [Act.put, List.setIfInBounds_toArray, List.set_cons_zero, List.set_cons_succ]
              refine wpAnyH_take (i := 6) (v := ?zb6v6) (by simp only [List.getElem?_toArray, List.getElem?_cons_succ, List.getElem?_cons_zero]; rfl) (by kernel_rfl) (by kernel_rfl) (by kernel_rfl) (by exact fun _ _ _ h => h) (Or.inl ⟨by rfl, ?zb6y6⟩) (by assumption) ?zb6r6
              case zb6y6 => (intro w hSw; (try dsimp only at hSw); go_simp; try (with_reducible rfl))
              try simp only [Act.put, List.setIfInBounds_toArray, List.set_cons_zero, List.set_cons_succ]
              refine wpAnyH_take (i := 7) (v := ?zb6v7) (by simp only [List.getElem?_toArray, List.getElem?_cons_succ, List.getElem?_cons_zero]; rfl) (by kernel_rfl) (by kernel_rfl) (by kernel_rfl) (by exact fun _ _ _ h => h) (Or.inl ⟨by rfl, ?zb6y7⟩) (by assumption) ?zb6r7
              case zb6y7 => (intro w hSw; (try dsimp only at hSw); go_simp; try (with_reducible rfl))
              try simp only [Act.put, List.setIfInBounds_toArray, List.set_cons_zero, List.set_cons_succ]
              refine wpAnyH_take (i := 8) (v := ?zb6v8) (by simp only [List.getElem?_toArray, List.getElem?_cons_succ, List.getElem?_cons_zero]; rfl) (by kernel_rfl) (by kernel_rfl) (by kernel_rfl) (by exact fun _ _ _ h => h) (Or.inl ⟨by rfl, ?zb6y8⟩) (by assumption) ?zb6r8
              case zb6y8 => (intro w hSw; (try dsimp only at hSw); go_simp; try (with_reducible rfl))
              try simp only [Act.put, List.setIfInBounds_toArray, List.set_cons_zero, List.set_cons_succ]
              refine wpAnyH_take (i := 9) (v := ?zb6v9) (by simp only [List.getElem?_toArray, List.getElem?_cons_succ, List.getElem?_cons_zero]; rfl) (by kernel_rfl) (by kernel_rfl) (by kernel_rfl) (by exact fun _ _ _ h => h) (Or.inl ⟨by rfl, ?zb6y9⟩) (by assumption) ?zb6r9
              case zb6y9 => (intro w hSw; (try dsimp only at hSw); go_simp; try (with_reducible rfl))
              try simp only [Act.put, List.setIfInBounds_toArray, List.set_cons_zero, List.set_cons_succ]
              refine wpAnyH_take (i := 10) (v := ?zb6v10) (by simp only [List.getElem?_toArray, List.getElem?_cons_succ, List.getElem?_cons_zero]; rfl) (by kernel_rfl) (by kernel_rfl) (by kernel_rfl) (by exact fun _ _ _ h => h) (Or.inl ⟨by rfl, ?zb6y10⟩) (by assumption) ?zb6r10
              case zb6y10 => (intro w hSw; (try dsimp only at hSw); go_simp; try (with_reducible rfl))
              try simp only [Act.put, List.setIfInBounds_toArray, List.set_cons_zero, List.set_cons_succ]
              refine wpAnyH_take (i := 11) (v := ?zb6v11) (by simp only [List.getElem?_toArray, List.getElem?_cons_succ, List.getElem?_cons_zero]; rfl) (by kernel_rfl) (by kernel_rfl) (by kernel_rfl) (by exact fun _ _ _ h => h) (Or.inl ⟨by rfl, ?zb6y11⟩) (by assumption) ?zb6r11
              case zb6y11 => (intro w hSw; (try dsimp only at hSw); go_simp; try (with_reducible rfl))
              try simp only [Act.put, List.setIfInBounds_toArray, List.set_cons_zero, List.set_cons_succ]
              refine wpAnyH_take (i := 12) (v := ?zb6v12) (by simp only [List.getElem?_toArray, List.getElem?_cons_succ, List.getElem?_cons_zero]; rfl) (by kernel_rfl) (by kernel_rfl) (by kernel_rfl) (by exact fun _ _ _ h => h) (Or.inl ⟨by rfl, ?zb6y12⟩) (by assumption) ?zb6r12
              case zb6y12 => (intro w hSw; (try dsimp only at hSw); go_simp; try (with_reducible rfl))
              try simp only [Act.put, List.setIfInBounds_toArray, List.set_cons_zero, List.set_cons_succ]
              refine wpAnyH_take (i := 13) (v := ?zb6v13) (by simp only [List.getElem?_toArray, List.getElem?_cons_succ, List.getElem?_cons_zero]; rfl) (by kernel_rfl) (by kernel_rfl) (by kernel_rfl) (by exact fun _ _ _ h => h) (Or.inl ⟨by rfl, ?zb6y13⟩) (by assumption) ?zb6r13
              case zb6y13 => (intro w hSw; (try dsimp only at hSw); go_simp; try (with_reducible rfl))
              try simp only [Act.put, List.setIfInBounds_toArray, List.set_cons_zero, List.set_cons_succ]
              refine wpAnyH_take (i := 14) (v := ?zb6v14) (by simp only [List.getElem?_toArray, List.getElem?_cons_succ, List.getElem?_cons_zero]; rfl) (by kernel_rfl) (by kernel_rfl) (by kernel_rfl) (by exact fun _ _ _ h => h) (Or.inl ⟨by rfl, ?zb6y14⟩) (by assumption) ?zb6r14
              case zb6y14 => (intro w hSw; (try dsimp only at hSw); go_simp; try (with_reducible rfl))
              try simp only [Act.put, List.setIfInBounds_toArray, List.set_cons_zero, List.set_cons_succ]
              refine wpAnyH_ready (rs := [15]) (by kernel_rfl) (by simp) ?_
              refine AllReadyH.cons (by simp only [List.getElem?_toArray, List.getElem?_cons_succ, List.getElem?_cons_zero]; rfl) (fun K hK => ?_) AllReadyH.nil
              go_simp
              (with_reducible refine (HN1.out _ (by first | exact HB5.out | exact HB5.out.drew | exact below_dN' HB5.out _)).mono ?_)
              rintro e w7 ⟨rfl, rfl⟩
              go_wp2_with fail
              refine hK.out _ _ (by (obtain ⟨q0, q1⟩ := HF.out w5 HB5.out; obtain ⟨a0, a1, a2, a3, a4, a5, a6⟩ := seven_of q0; obtain ⟨_, _, _, _, _, _, b6, b7, b8⟩ := nine_at q1; exact ⟨a0, a1, a2, a3, a4, a5, a6, b6, b7, b8, HVC.out w5 HB5.out⟩)) (fun hHeld2 => ?_)
              clear hK K hHeld1
              try simp only [Act.put, List.setIfInBounds_toArray, List.set_cons_zero, List.set_cons_succ]
              refine wpAnyH_take (i := 16) (v := ?zb6v16) (by simp only [List.getElem?_toArray, List.getElem?_cons_succ, List.getElem?_cons_zero]; rfl) (by kernel_rfl) (by kernel_rfl) (by kernel_rfl) (by exact fun _ _ _ h => h) (Or.inl ⟨by rfl, ?zb6y16⟩) (by assumption) ?zb6r16
              case zb6y16 => (intro w hSw; (try dsimp only at hSw); go_simp; try (with_reducible rfl))
              try simp only [Act.put, List.setIfInBounds_toArray, List.set_cons_zero, List.set_cons_succ]
              refine wpAnyH_take (i := 17) (v := ?zb6v17) (by simp only [List.getElem?_toArray, List.getElem?_cons_succ, List.getElem?_cons_zero]; rfl) (by kernel_rfl) (by kernel_rfl) (by kernel_rfl) (by exact fun _ _ _ h => h) (Or.inl ⟨by rfl, ?zb6y17⟩) (by assumption) ?zb6r17
              case zb6y17 => (intro w hSw; (try dsimp only at hSw); go_simp; try (with_reducible rfl))
              try simp only [Act.put, List.setIfInBounds_toArray, List.set_cons_zero, List.set_cons_succ]
              refine wpAnyH_take (i := 18) (v := ?zb6v18) (by simp only [List.getElem?_toArray, List.getElem?_cons_succ, List.getElem?_cons_zero]; rfl) (by kernel_rfl) (by kernel_rfl) (by kernel_rfl) (by exact fun _ _ _ h => h) (Or.inl ⟨by rfl, ?zb6y18⟩) (by assumption) ?zb6r18
              case zb6y18 => (intro w hSw; (try dsimp only at hSw); go_simp; try (with_reducible rfl))
              try simp only [Act.put, List.setIfInBounds_toArray, List.set_cons_zero, List.set_cons_succ]
              refine wpAnyH_take (i := 19) (v := ?zb6v19) (by simp only [List.getElem?_toArray, List.getElem?_cons_succ, List.getElem?_cons_zero]; rfl) (by kernel_rfl) (by kernel_rfl) (by kernel_rfl) (by exact fun _ _ _ h => h) (Or.inl ⟨by rfl, ?zb6y19⟩) (by assumption) ?zb6r19
              case zb6y19 => (intro w hSw; (try dsimp only at hSw); go_simp; try (with_reducible rfl))
              try simp only [Act.put, List.setIfInBounds_toArray, List.set_cons_zero, List.set_cons_succ]
              refine wpAnyH_take (i := 20) (v := ?zb6v20) (by simp only [List.getElem?_toArray, List.getElem?_cons_succ, List.getElem?_cons_zero]; rfl) (by kernel_rfl) (by kernel_rfl) (by kernel_rfl) (by exact fun _ _ _ h => h) (Or.inl ⟨by rfl, ?zb6y20⟩) (by assumption) ?zb6r20
              case zb6y20 => (intro w hSw; (try dsimp only at hSw); go_simp; try (with_reducible rfl))
              try simp only [Act.put, List.setIfInBounds_toArray, List.set_cons_zero, List.set_cons_succ]
              refine wpAnyH_take (i := 21) (v := ?zb6v21) (by simp only [List.getElem?_toArray, List.getElem?_cons_succ, List.getElem?_cons_zero]; rfl) (by kernel_rfl) (by kernel_rfl) (by kernel_rfl) (by exact fun _ _ _ h => h) (Or.inl ⟨by rfl, ?zb6y21⟩) (by assumption) ?zb6r21
              case zb6y21 => (intro w hSw; (try dsimp only at hSw); go_simp; try (with_reducible rfl))
              try simp only [Act.put, List.setIfInBounds_toArray, List.set_cons_zero, List.set_cons_succ]
              refine wpAnyH_ready (rs := [22]) (by kernel_rfl) (by simp) ?_
              refine AllReadyH.cons (by simp only [List.getElem?_toArray, List.getElem?_cons_succ, List.getElem?_cons_zero]; rfl) (fun K hK => ?_) AllReadyH.nil
              go_simp
              (with_reducible refine (HIB.out _ (by first | exact HB5.out | exact HB5.out.drew | exact below_dN' HB5.out _)).mono ?_)
              rintro e w6 ⟨rfl, hb6⟩
              have HB6 : Hid (Below W.heap.size W w6) := Below.trans (by first | exact HB5.out | exact HB5.out.drew | exact below_dN' HB5.out _) (hb6.mono (by first | exact HB5.out.size | exact HB5.out.drew.size))
              clear hb6
              go_wp2_with fail
              refine hK.out _ _ (by (obtain ⟨q0, q1⟩ := HF.out w6 HB6.out; obtain ⟨a0, a1, a2, a3, a4, a5, a6⟩ := seven_of q0; obtain ⟨_, _, _, _, _, _, b6, b7, b8⟩ := nine_at q1; exact ⟨a0, a1, a2, a3, a4, a5, a6, b6, b7, b8, HVC.out w6 HB6.out⟩)) (fun hHeld3 => ?_)
              clear hK K hHeld2
              try simp only [Act.put, List.setIfInBounds_toArray, List.set_cons_zero, List.set_cons_succ]
              refine wpAnyH_take (i := 23) (v := ?zb6v23) (by simp only [List.getElem?_toArray, List.getElem?_cons_succ, List.getElem?_cons_zero]; rfl) (by kernel_rfl) (by kernel_rfl) (by kernel_rfl) (by exact fun _ _ _ h => h) (Or.inl ⟨by rfl, ?zb6y23⟩) (by assumption) ?zb6r23
              case zb6y23 => (intro w hSw; (try dsimp only at hSw); go_simp; try (with_reducible rfl))
              try simp only [Act.put, List.setIfInBounds_toArray, List.set_cons_zero, List.set_cons_succ]
              refine wpAnyH_take (i := 24) (v := ?zb6v24) (by simp only [List.getElem?_toArray, List.getElem?_cons_succ, List.getElem?_cons_zero]; rfl) (by kernel_rfl) (by kernel_rfl) (by kernel_rfl) (by exact fun _ _ _ h => h) (Or.inl ⟨by rfl, ?zb6y24⟩) (by assumption) ?zb6r24
              case zb6y24 => (intro w hSw; (try dsimp only at hSw); go_simp; try (with_reducible rfl))
              try simp only [Act.put, List.setIfInBounds_toArray, List.set_cons_zero, List.set_cons_succ]
              refine wpAnyH_done (by kernel_rfl) ?_ _
              refine NoPanic.normal ?_
              obtain ⟨q0, q1⟩ := HF.out w6 HB6.out
              clear z0 z1 z2 z3 z4 z5 z6 y0 y1 y2 y3 y4 y5 y6 y7 y8
              obtain ⟨z0, z1, z2, z3, z4, z5, z6⟩ := seven_of q0
              obtain ⟨y0, y1, y2, y3, y4, y5, y6, y7, y8⟩ := nine_at q1
              have hvc := HVC.out w6 HB6.out
              clear q0 q1
              go_wp2_with fail
              refine (HAA.out _ (by first | exact HB6.out | exact HB6.out.drew | exact below_dN' HB6.out _)).mono ?_
              rintro e w7 ⟨rfl, hb5⟩
              have HB7 : Hid (Below W.heap.size W w7) := Below.trans (by first | exact HB6.out | exact HB6.out.drew | exact below_dN' HB6.out _) (hb5.mono (by first | exact Nat.le_refl _ | exact Nat.le_of_eq rfl | exact HB6.out.size))
              clear hb5
              obtain ⟨q0, q1⟩ := HF.out w7 HB7.out
              clear z0 z1 z2 z3 z4 z5 z6 y0 y1 y2 y3 y4 y5 y6 y7 y8
              obtain ⟨z0, z1, z2, z3, z4, z5, z6⟩ := seven_of q0
              obtain ⟨y0, y1, y2, y3, y4, y5, y6, y7, y8⟩ := nine_at q1
              clear q0 q1
              go_wp2_with fail
              refine (HAB.out _ (by first | exact HB7.out | exact HB7.out.drew | exact below_dN' HB7.out _)).mono ?_
              rintro e w8 ⟨rfl, hb5⟩
              have HB8 : Hid (Below W.heap.size W w8) := Below.trans (by first | exact HB7.out | exact HB7.out.drew | exact below_dN' HB7.out _) (hb5.mono (by first | exact Nat.le_refl _ | exact Nat.le_of_eq rfl | exact HB7.out.size))
              clear hb5
              obtain ⟨q0, q1⟩ := HF.out w8 HB8.out
              clear z0 z1 z2 z3 z4 z5 z6 y0 y1 y2 y3 y4 y5 y6 y7 y8
              obtain ⟨z0, z1, z2, z3, z4, z5, z6⟩ := seven_of q0
              obtain ⟨y0, y1, y2, y3, y4, y5, y6, y7, y8⟩ := nine_at q1
              clear q0 q1
              go_wp2_with fail
              go_region_held3 (fun w' => w'.cell? ⟨w.heap.size, 0, none⟩ = some (.slice r1.a r1.n r1.c) ∧ w'.cell? ⟨w.heap.size, 1, none⟩ = some (.slice r2.a r2.n r2.c) ∧ w'.cell? ⟨w.heap.size, 2, none⟩ = some (.int .i64 rq) ∧ w'.cell? ⟨w.heap.size, 3, none⟩ = some (.slice r3.a r3.n r3.c) ∧ w'.cell? ⟨w.heap.size, 4, none⟩ = some (.slice r4.a r4.n r4.c) ∧ w'.cell? ⟨w.heap.size, 5, none⟩ = some (.slice (some ⟨bv, ov, none⟩) r5n r5c) ∧ w'.cell? ⟨w.heap.size, 6, none⟩ = some (.slice r6.a r6.n r6.c) ∧ w'.cell? ⟨w.heap.size + 1, 6, none⟩ = some (.int .i64 (kv : Int)) ∧ w'.cell? ⟨w.heap.size + 1, 7, none⟩ = some (.int .i64 xa) ∧ w'.cell? ⟨w.heap.size + 1, 8, none⟩ = some (.int .i64 xb) ∧ w'.cell? ⟨bv, ov + kv * 15 + 1, none⟩ = some (.slice pv.2.a pv.2.n pv.2.c)) (first | (obtain ⟨q0, q1⟩ := HF.out w8 HB8.out; obtain ⟨a0, a1, a2, a3, a4, a5, a6⟩ := seven_of q0; obtain ⟨_, _, _, _, _, _, b6, b7, b8⟩ := nine_at q1; exact ⟨a0, a1, a2, a3, a4, a5, a6, b6, b7, b8, HVC.out w8 HB8.out⟩)) (first | (go_at_call 26; refine (HN2.out _ (by first | exact HB8.out | exact HB8.out.drew | exact below_dN' HB8.out _)).mono ?_; rintro e w9 ⟨rfl, rfl⟩))
              go_wp2
              go_ret
              exact ⟨by rw [HE.out]; rfl, HB.out.trans ((by first | exact HB8.out | exact HB8.out.drew | exact below_dN' HB8.out _ : Below W.heap.size W _).mono HB.out.size)⟩
end Go.Proofs.YtkeicjokekmkpaaGreat
