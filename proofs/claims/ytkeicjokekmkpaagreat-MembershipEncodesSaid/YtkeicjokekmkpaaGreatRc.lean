/- The reference's circle, read. -/
import Derived.Test.YtkeicjokekmkpaaGreatMk
import Derived.Test.YtkeicjokekmkpaaGreatRb
namespace Go.Proofs.YtkeicjokekmkpaaGreat
open Go.RowKit Mb
set_option linter.unusedVariables false
set_option linter.unusedSimpArgs false

/-- The reference's circle as a value. -/
structure RV where
  a1 : Hd
  a2 : Hd
  q : Int
  a3 : Hd
  a4 : Hd
  a5 : Hd
  a6 : Hd
abbrev RV.cells (r : RV) : Array Value := #[.slice r.a1.a r.a1.n r.a1.c, .slice r.a2.a r.a2.n r.a2.c, .int .i64 r.q, .slice r.a3.a r.a3.n r.a3.c, .slice r.a4.a r.a4.n r.a4.c, .slice r.a5.a r.a5.n r.a5.c, .slice r.a6.a r.a6.n r.a6.c]
abbrev RV.val (r : RV) : Value := .agg r.cells
abbrev RV.obj (r : RV) : Obj := .cells r.cells 34
theorem RV.one (r : RV) : r.cells.all (·.oneCell') = true := by
  rw [Array.all_eq_true']
  intro u hu
  simp only [RV.cells, List.mem_toArray, List.mem_cons, List.not_mem_nil, or_false] at hu
  rcases hu with rfl | rfl | rfl | rfl | rfl | rfl | rfl <;> rfl
theorem Tryz.sizeR : (Tryz.prog.info? 34).map (·.size) = some 7 := by kernel_rfl
theorem seven_of {w : World} {g : Nat} {r : RV} (h : w.heap[g]? = some r.obj) : w.cell? ⟨g, 0, none⟩ = some (.slice r.a1.a r.a1.n r.a1.c) ∧ w.cell? ⟨g, 1, none⟩ = some (.slice r.a2.a r.a2.n r.a2.c) ∧ w.cell? ⟨g, 2, none⟩ = some (.int .i64 r.q) ∧ w.cell? ⟨g, 3, none⟩ = some (.slice r.a3.a r.a3.n r.a3.c) ∧ w.cell? ⟨g, 4, none⟩ = some (.slice r.a4.a r.a4.n r.a4.c) ∧ w.cell? ⟨g, 5, none⟩ = some (.slice r.a5.a r.a5.n r.a5.c) ∧ w.cell? ⟨g, 6, none⟩ = some (.slice r.a6.a r.a6.n r.a6.c) := by
  refine ⟨?_, ?_, ?_, ?_, ?_, ?_, ?_⟩ <;> (rw [cell_of_row w g _ _ _ _ h]; rfl)
abbrev fT (p : Int × Int) : List Value := [.int .i64 p.1, .int .i64 p.2]
theorem fT_len : ∀ p, (fT p).length = 2 := fun _ => rfl
theorem fT_one : ∀ p, ∀ u ∈ fT p, u.oneCell' = true := fun p u hu => by
  simp only [fT, List.mem_cons, List.not_mem_nil, or_false] at hu
  rcases hu with rfl | rfl <;> rfl
/-- It reads as the circle S. -/
structure RefC (w : World) (B : Nat) (r : RV) (S : St) : Prop where
  q : r.q = S.q
  ms : SlN fM 5 w B r.a4.a r.a4.n S.ms
  vs : ∃ ps, VIn w B r.a5.a r.a5.n ps ∧ ps.map Prod.fst = S.vs
  vt : SlN fT 2 w B r.a6.a r.a6.n S.votes
  ch : ∃ xs : List Chn, SlN fX 9 w B r.a3.a r.a3.n xs ∧ xs.length ≤ 1000
theorem RefC.up {w w' : World} {B B' : Nat} {r : RV} {S : St} (h : RefC w B r S) (hb : Below B' w w') (hB : B ≤ B') : RefC w' B r S := by
  obtain ⟨ps, h1, h2⟩ := h.vs
  obtain ⟨xs, h3, h4⟩ := h.ch
  exact ⟨h.q, h.ms.up hb hB, ⟨ps, h1.up hb hB, h2⟩, h.vt.up hb hB, ⟨xs, h3.up hb hB, h4⟩⟩
theorem RefC.more {w : World} {B B' : Nat} {r : RV} {S : St} (h : RefC w B r S) (hB : B ≤ B') : RefC w B' r S := by
  obtain ⟨ps, h1, h2⟩ := h.vs
  obtain ⟨xs, h3, h4⟩ := h.ch
  exact ⟨h.q, h.ms.more hB, ⟨ps, h1.more hB, h2⟩, h.vt.more hB, ⟨xs, h3.more hB, h4⟩⟩
theorem RefC.on {w w' : World} {r : RV} {S : St} (h : RefC w w.heap.size r S) (hb : Below w.heap.size w w') : RefC w' w'.heap.size r S := (h.up hb (Nat.le_refl _)).more hb.size
set_option maxRecDepth 20000 in
set_option maxHeartbeats 4000000 in
theorem ris_any (r : RV) (S : St) (d : Int) (w : World) (hC : RefC w w.heap.size r S) : Calls Tryz.prog 50 #[r.val, .int .i64 d] w (BoolB (hasB S d) w) := by
  have HB : Hid (Below w.heap.size w (w.alloc r.obj)) := (Below.refl _ _).alloc (Nat.le_refl _) _
  have hl := hC.ms.1
  have HR : Hid (hasB S d = (decide (0 ≤ d) && decide (d < (r.a4.n : Int)))) := by show _ = _; unfold hasB; rw [hl]
  clear hC
  by_cases h0 : 0 ≤ d
  · have e0 : decide (0 ≤ d) = true := decide_eq_true h0
    go_enter Tryz.func50, Tryz.ntmps50
    go_wp2
    go_ret
    exact ⟨ret_bool (by rw [HR.out, e0]; first | rfl | simp), HB.out⟩
  · have e0 : decide (0 ≤ d) = false := decide_eq_false h0
    go_enter Tryz.func50, Tryz.ntmps50
    go_wp2
    go_ret
    exact ⟨ret_bool (by rw [HR.out, e0]; first | rfl | simp), HB.out⟩
set_option maxRecDepth 20000 in
set_option maxHeartbeats 4000000 in
theorem rhas_any (r : RV) (S : St) (d : Int) (w : World) (hC : RefC w w.heap.size r S) : Calls Tryz.prog 53 #[r.val, .int .i64 d] w (BoolB ((vltOf S d).isSome) w) := by
  have HB : Hid (Below w.heap.size w (w.alloc r.obj)) := (Below.refl _ _).alloc (Nat.le_refl _) _
  obtain ⟨ps, hv, hp⟩ := hC.vs
  have hl := hv.1.1
  have hl2 : S.vs.length = r.a5.n := by rw [← hp, List.length_map, hl]
  have HR : Hid ((vltOf S d).isSome = (decide (0 ≤ d) && decide (d < (r.a5.n : Int)))) := by
    show _ = _
    unfold vltOf
    by_cases h0 : 0 ≤ d
    · rw [if_pos h0]
      by_cases h1 : d.toNat < S.vs.length
      · rw [List.getElem?_eq_getElem h1]; simp [h0]; omega
      · rw [List.getElem?_eq_none (by omega)]; simp [h0]; omega
    · rw [if_neg h0]; simp [h0]
  clear hC
  by_cases h0 : 0 ≤ d
  · have e0 : decide (0 ≤ d) = true := decide_eq_true h0
    go_enter Tryz.func53, Tryz.ntmps53
    go_wp2
    go_ret
    exact ⟨ret_bool (by rw [HR.out, e0]; first | rfl | simp), HB.out⟩
  · have e0 : decide (0 ≤ d) = false := decide_eq_false h0
    go_enter Tryz.func53, Tryz.ntmps53
    go_wp2
    go_ret
    exact ⟨ret_bool (by rw [HR.out, e0]; first | rfl | simp), HB.out⟩
set_option maxRecDepth 20000 in
set_option maxHeartbeats 4000000 in
theorem ractive_any (r : RV) (S : St) (d : Int) (w : World) (hC : RefC w w.heap.size r S) (hn : S.ms.length ≤ 1000) : Calls Tryz.prog 74 #[r.val, .int .i64 d] w (BoolB (hasB S d && actI S d) w) := by
  obtain ⟨W, hW⟩ : ∃ W : World, W = w.alloc r.obj := ⟨_, rfl⟩
  have hB : Below w.heap.size w W := by rw [hW]; exact (Below.refl _ _).alloc (Nat.le_refl _) _
  have hG : W.heap[w.heap.size]? = some r.obj := by rw [hW]; exact heap_alloc_new w _
  have HW := Lib.hid hW
  have HB := Lib.hid hB
  have HG := Lib.hid hG
  have hC1 := hC.on hB
  obtain ⟨y0, y1, y2, y3, y4, y5, y6⟩ := seven_of hG
  have HC := Lib.hid hC
  obtain ⟨bh, hbh⟩ : ∃ z, hasB S d = z := ⟨_, rfl⟩
  rw [hbh]
  have HI : Hid (Calls Tryz.prog 50 #[r.val, .int .i64 d] W (BoolB bh W)) := hbh ▸ ris_any r S d W hC1
  have HH := Lib.hid hbh
  rw [hW] at y0 y1 y2 y3 y4 y5 y6
  clear hC hC1 hB hG hW hbh
  cases bh
  · go_enter Tryz.func74, Tryz.ntmps74
    go_wp2_with fail
    rw [← HW.out]
    refine HI.out.mono ?_
    rintro e w1 ⟨rfl, hb⟩
    have HB1 : Hid (Below w.heap.size w w1) := HB.out.trans (hb.mono HB.out.size)
    clear hb
    go_wp2
    go_ret
    exact ⟨rfl, HB1.out⟩
  · have hd := hasB_iff.1 HH.out
    obtain ⟨k, rfl⟩ : ∃ k : Nat, d = k := ⟨d.toNat, by omega⟩
    have hk : k < S.ms.length := by omega
    go_enter Tryz.func74, Tryz.ntmps74
    go_wp2_with fail
    rw [← HW.out]
    refine HI.out.mono ?_
    rintro e w1 ⟨rfl, hb⟩
    have HB1 : Hid (Below w.heap.size w w1) := HB.out.trans (hb.mono HB.out.size)
    have hG1 := (hb.block _ (lt_of_block HG.out)).trans HG.out
    obtain ⟨z0, z1, z2, z3, z4, z5, z6⟩ := seven_of hG1
    obtain ⟨b, off, m, ha, hbB, hmk, hcell⟩ := (HC.out.on HB1.out).ms.at_ (k := k) (by rw [← HC.out.ms.1]; exact hk)
    obtain ⟨c0, c1, c2, c3, c4⟩ := five hcell
    have HA : Hid (actI S (k : Int) = !m.exp) := by show _ = _; unfold actI actB; rw [show ((k : Int)).toNat = k by omega, hmk]
    rw [ha] at z4
    have hkn : k < r.a4.n := by rw [← HC.out.ms.1]; exact hk
    clear hb hG1 hcell hmk ha hbB
    go_wp2
    go_ret
    exact ⟨ret_bool (by rw [HA.out]; rfl), HB1.out⟩
set_option maxRecDepth 20000 in
set_option maxHeartbeats 4000000 in
theorem rActive_any (r : RV) (S : St)  (w : World) (hC : RefC w w.heap.size r S) (hn : S.ms.length ≤ 1000) : Calls Tryz.prog 47 #[r.val] w (OwnI (activeL S) w) := by
  obtain ⟨W, hW⟩ : ∃ W : World, W = w.alloc r.obj := ⟨_, rfl⟩
  have hB : Below w.heap.size w W := by rw [hW]; exact (Below.refl _ _).alloc (Nat.le_refl _) _
  have hG : W.heap[w.heap.size]? = some r.obj := by rw [hW]; exact heap_alloc_new w _
  have HW := Lib.hid hW
  have HB := Lib.hid hB
  have HG := Lib.hid hG
  obtain ⟨i0, hi, hz0, hz1, hz2⟩ := info_parts Tryz.infoInt
  have HI := Lib.hid hi
  have HZ0 := Lib.hid hz0
  have HZ1 := Lib.hid hz1
  have HZ2 := Lib.hid hz2
  clear hi hz0 hz1 hz2
  have hO : Own I 3 (W.alloc (.cells #[] 3)) W.heap.size (.slice (some ⟨w.heap.size + 1, 0, none⟩) 0 0) [] := by
    rw [← show W.heap.size = w.heap.size + 1 from by rw [hW]; simp]
    exact World.ownsRow_lit W #[] 0 (Nat.le_refl _) (by unfold maxLen; omega) rfl
  have HO := Lib.hid hO
  have HBW : Hid (Below W.heap.size W (W.alloc (.cells #[] 3))) := (Below.refl _ _).alloc (Nat.le_refl _) _
  have HC := Lib.hid hC
  have HNL : Hid (S.ms.length = r.a4.n) := hC.ms.1
  clear hC hB hG hO hW
  go_enter Tryz.func47, Tryz.ntmps47
  go_wp2_with fail
  rw [show w.alloc (.cells r.cells 34) = W from HW.out.symm]
  go_loopw [3, 4] (fun u i wr => ∃ k : Nat, k ≤ S.ms.length ∧ i = .int .i64 k ∧ Hid (Own I 3 wr W.heap.size u (selN (actB S) k)) ∧ Hid (Below W.heap.size W wr)) (fun _ i _ => S.ms.length - (intOf i).toNat)
  case atStart => exact ⟨0, Nat.zero_le _, rfl, HO, HBW⟩
  case round =>
    obtain ⟨k, hk, rfl, HO0, HB0⟩ := hrel
    clear HO HBW
    have hG0 := (HB0.out.block _ (lt_of_block HG.out)).trans HG.out
    obtain ⟨z0, z1, z2, z3, z4, z5, z6⟩ := seven_of hG0
    have HBw : Hid (Below w.heap.size w wr) := HB.out.trans (HB0.out.mono HB.out.size)
    by_cases hlt : k < S.ms.length
    · have hkn : k < r.a4.n := by rw [← HNL.out]; exact hlt
      have hsl := selN_len (actB S) k
      have HK1 : Hid (((selN (actB S) k).length + 1) * 8 ≤ 140737488355328) := by show _ ≤ _; omega
      have HK2 : Hid ((selN (actB S) k).length + 1 ≤ maxLen) := by show _ ≤ _; unfold maxLen; omega
      obtain ⟨ba, hba⟩ : ∃ z, actB S k = z := ⟨_, rfl⟩
      have HA : Hid (Calls Tryz.prog 74 #[r.val, .int .i64 (k : Int)] wr (BoolB ba wr)) := by
        have h5 := ractive_any r S k wr (HC.out.on HBw.out) hn
        rw [hasB_iff.2 ⟨by omega, by omega⟩, show actI S (k : Int) = ba from hba, Bool.true_and] at h5
        exact h5
      have HBA0 := Lib.hid hba
      clear hG0 hsl hba
      cases ba
      · have HN : Hid (selN (actB S) (k + 1) = selN (actB S) k) := by show _ = _; rw [selN_succ]; simp [HBA0.out]
        go_wp2_with fail
        refine HA.out.mono ?_
        rintro e w5 ⟨rfl, hb⟩
        have HBA : Hid (Below W.heap.size W w5) := HB0.out.trans (hb.mono HB0.out.size)
        have HO1 := Lib.hid (HO0.out.on hb)
        clear hb
        go_wp2
        go_roundw
        case rel => exact ⟨k + 1, by omega, by go_num, by show Own _ _ _ _ _ _; rw [HN.out]; exact HO1.out, HBA⟩
        case measure => simp [intOf]; omega
      · have HN : Hid (selN (actB S) (k + 1) = selN (actB S) k ++ [(k : Int)]) := by show _ = _; rw [selN_succ]; simp [HBA0.out]
        go_wp2_with fail
        refine HA.out.mono ?_
        rintro e w5 ⟨rfl, hb⟩
        have HBA : Hid (Below W.heap.size W w5) := HB0.out.trans (hb.mono HB0.out.size)
        have HO1 := Lib.hid (HO0.out.on hb)
        clear hb
        go_wp2_with ((with_reducible refine wpList_app1 (o := ⟨some 19, _, _, _, _, _⟩) rfl (.tmp 16) (.tmp 18) 49 rfl 3 i0 (.int .i64 0) 8 Tryz.underlying49 HI.out HZ0.out HZ1.out HZ2.out rfl _ _ W.heap.size rfl HO1.out (k : Int) 1 rfl I1 HK1.out HK2.out HBA.out.size ?_); intro v6 w6 HO6 HG6 HV6)
        go_roundw
        case rel => exact ⟨k + 1, by omega, by go_num, by show Own _ _ _ _ _ _; rw [HN.out]; exact HO6.out, HO1.out.below HBA.out (Nat.le_refl _) HBA.out.size HG6.out⟩
        case measure => simp [intOf]; omega
    · obtain rfl : k = r.a4.n := by have := HNL.out; omega
      have HOF : Hid (Own I 3 wr w.heap.size u3 (activeL S)) := by
        have h5 := HO0.out
        rw [← HNL.out] at h5
        exact World.ownsRow.mono h5 HB.out.size
      go_wp2
      go_ret
      exact ⟨_, rfl, HOF.out, HBw.out⟩
/-- What Role hands back. -/
def roleL (S : St) (ws : List Int) (wb : Bool) : List Int := selN (fun k => actB S k && (ws.contains (k : Int) == wb)) S.ms.length
theorem roleL_true (S : St) (ws : List Int) : roleL S ws true = wrL S ws := by
  unfold roleL wrL selN
  congr 1
  apply List.filter_congr
  intro k _
  cases ws.contains (k : Int) <;> simp
theorem roleL_false (S : St) (ws : List Int) : roleL S ws false = hoL S ws := by
  unfold roleL hoL selN
  congr 1
  apply List.filter_congr
  intro k _
  cases ws.contains (k : Int) <;> simp
set_option maxRecDepth 20000 in
set_option maxHeartbeats 4000000 in
theorem rRole_any (r : RV) (S : St) (v : Int) (x : Vlt) (wb : Bool) (hv : vltOf S v = some x) (hws : x.ws.length ≤ 1000) (w : World) (hC : RefC w w.heap.size r S) (hn : S.ms.length ≤ 1000) : Calls Tryz.prog 55 #[r.val, .int .i64 v, .bool wb] w (OwnI (roleL S x.ws wb) w) := by
  obtain ⟨W, hW⟩ : ∃ W : World, W = w.alloc r.obj := ⟨_, rfl⟩
  have hB : Below w.heap.size w W := by rw [hW]; exact (Below.refl _ _).alloc (Nat.le_refl _) _
  have hG : W.heap[w.heap.size]? = some r.obj := by rw [hW]; exact heap_alloc_new w _
  have HW := Lib.hid hW
  have HB := Lib.hid hB
  have HG := Lib.hid hG
  obtain ⟨i0, hi, hz0, hz1, hz2⟩ := info_parts Tryz.infoInt
  have HI := Lib.hid hi
  have HZ0 := Lib.hid hz0
  have HZ1 := Lib.hid hz1
  have HZ2 := Lib.hid hz2
  clear hi hz0 hz1 hz2
  have hO : Own I 3 (W.alloc (.cells #[] 3)) W.heap.size (.slice (some ⟨w.heap.size + 1, 0, none⟩) 0 0) [] := by
    rw [← show W.heap.size = w.heap.size + 1 from by rw [hW]; simp]
    exact World.ownsRow_lit W #[] 0 (Nat.le_refl _) (by unfold maxLen; omega) rfl
  have HO := Lib.hid hO
  have HBW : Hid (Below W.heap.size W (W.alloc (.cells #[] 3))) := (Below.refl _ _).alloc (Nat.le_refl _) _
  have HC := Lib.hid hC
  have HNL : Hid (S.ms.length = r.a4.n) := hC.ms.1
  have HVX := Lib.hid hv
  have HWL := Lib.hid hws
  clear hv hws
  clear hC hB hG hO hW
  go_enter Tryz.func55, Tryz.ntmps55
  go_wp2_with fail
  rw [show w.alloc (.cells r.cells 34) = W from HW.out.symm]
  go_loopw [7, 8] (fun u i wr => ∃ k : Nat, k ≤ S.ms.length ∧ i = .int .i64 k ∧ Hid (Own I 3 wr W.heap.size u (selN (fun k => actB S k && (x.ws.contains (k : Int) == wb)) k)) ∧ Hid (Below W.heap.size W wr)) (fun _ i _ => S.ms.length - (intOf i).toNat)
  case atStart => exact ⟨0, Nat.zero_le _, rfl, HO, HBW⟩
  case round =>
    obtain ⟨k, hk, rfl, HO0, HB0⟩ := hrel
    clear HO HBW
    have hG0 := (HB0.out.block _ (lt_of_block HG.out)).trans HG.out
    obtain ⟨z0, z1, z2, z3, z4, z5, z6⟩ := seven_of hG0
    have HBw : Hid (Below w.heap.size w wr) := HB.out.trans (HB0.out.mono HB.out.size)
    by_cases hlt : k < S.ms.length
    · have hkn : k < r.a4.n := by rw [← HNL.out]; exact hlt
      have hsl := selN_len (fun k => actB S k && (x.ws.contains (k : Int) == wb)) k
      have HK1 : Hid (((selN (fun k => actB S k && (x.ws.contains (k : Int) == wb)) k).length + 1) * 8 ≤ 140737488355328) := by show _ ≤ _; omega
      have HK2 : Hid ((selN (fun k => actB S k && (x.ws.contains (k : Int) == wb)) k).length + 1 ≤ maxLen) := by show _ ≤ _; unfold maxLen; omega
      obtain ⟨ba, hba⟩ : ∃ z, actB S k = z := ⟨_, rfl⟩
      have HA : Hid (Calls Tryz.prog 74 #[r.val, .int .i64 (k : Int)] wr (BoolB ba wr)) := by
        have h5 := ractive_any r S k wr (HC.out.on HBw.out) hn
        rw [hasB_iff.2 ⟨by omega, by omega⟩, show actI S (k : Int) = ba from hba, Bool.true_and] at h5
        exact h5
      have HBA0 := Lib.hid hba
      clear hG0 hsl hba
      cases ba
      · have HN : Hid (selN (fun k => actB S k && (x.ws.contains (k : Int) == wb)) (k + 1) = selN (fun k => actB S k && (x.ws.contains (k : Int) == wb)) k) := by show _ = _; rw [selN_succ]; simp [HBA0.out]
        go_wp2_with fail
        refine HA.out.mono ?_
        rintro e w5 ⟨rfl, hb⟩
        have HBA : Hid (Below W.heap.size W w5) := HB0.out.trans (hb.mono HB0.out.size)
        have HO1 := Lib.hid (HO0.out.on hb)
        clear hb
        go_wp2
        go_roundw
        case rel => exact ⟨k + 1, by omega, by go_num, by show Own _ _ _ _ _ _; rw [HN.out]; exact HO1.out, HBA⟩
        case measure => simp [intOf]; omega
      · go_wp2_with fail
        refine HA.out.mono ?_
        rintro e w5 ⟨rfl, hb⟩
        have HBA : Hid (Below W.heap.size W w5) := HB0.out.trans (hb.mono HB0.out.size)
        have HO1 := Lib.hid (HO0.out.on hb)
        have hG5 := (HBA.out.block _ (lt_of_block HG.out)).trans HG.out
        obtain ⟨y0, y1, y2, y3, y4, y5, y6⟩ := seven_of hG5
        have hR5 := HC.out.on (HB.out.trans (HBA.out.mono HB.out.size))
        obtain ⟨ps, hvi, hps⟩ := hR5.vs
        obtain ⟨hvg, hv0, hv1⟩ := vltOf_get HVX.out
        have hpl : ps.length = S.vs.length := by rw [← hps, List.length_map]
        obtain ⟨kv, hkv⟩ : ∃ kv : Nat, v = kv := ⟨v.toNat, by omega⟩
        subst hkv
        have hkl : kv < r.a5.n := by rw [← hvi.1.1, hpl]; omega
        obtain ⟨bv, ov, pv, ha5, hbv, hpk, hcell⟩ := hvi.1.at_ hkl
        have hpx : pv.1 = x := by
          rw [show ((kv : Nat) : Int).toNat = kv by omega] at hvg
          rw [← hps, List.getElem?_map, hpk] at hvg
          exact Option.some.inj hvg
        subst hpx
        have hsw := hvi.2 pv (List.mem_of_getElem? hpk)
        have cv1 := (fifteen hcell).2.1
        rw [ha5] at y5
        have hpl2 := hsw.1
        have HIN : Hid (Calls Tryz.prog 26 #[.slice pv.2.a pv.2.n pv.2.c, .int .i64 (k : Int)] w5 fun e w' => e = .returned (.bool (pv.1.ws.contains (k : Int))) ∧ w5 = w') := inI_any _ _ pv.1.ws _ k w5 _ hsw (by have := HWL.out; omega)
        clear hG5 hR5 hvi hps hpl hvg hv0 hv1 hcell hpk hsw hbv hb ha5
        obtain ⟨bc, hbc⟩ : ∃ z, pv.1.ws.contains (k : Int) = z := ⟨_, rfl⟩
        rw [hbc] at HIN
        have HCT := Lib.hid hbc
        clear hbc
        cases bc
        · cases wb
          · have HN : Hid (selN (fun k => actB S k && (pv.1.ws.contains (k : Int) == false)) (k + 1) = selN (fun k => actB S k && (pv.1.ws.contains (k : Int) == false)) k ++ [(k : Int)]) := by
              show _ = _
              have e : (actB S k && (pv.1.ws.contains (k : Int) == false)) = true := by
                rw [HBA0.out, HCT.out]; rfl
              rw [selN_succ, e]; simp
            go_wp2_with (first | (go_at_call 26; refine HIN.out.mono ?_; rintro e w7 ⟨rfl, rfl⟩) | ((with_reducible refine wpList_app1 (o := ⟨some 35, _, _, _, _, _⟩) rfl (.tmp 32) (.tmp 34) 49 rfl 3 i0 (.int .i64 0) 8 Tryz.underlying49 HI.out HZ0.out HZ1.out HZ2.out rfl _ _ W.heap.size rfl HO1.out (k : Int) 1 rfl I1 HK1.out HK2.out HBA.out.size ?_); intro v6 w6 HO6 HG6 HV6))
            go_roundw
            case rel => exact ⟨k + 1, by omega, by go_num, by show Own _ _ _ _ _ _; rw [HN.out]; exact HO6.out, HO1.out.below HBA.out (Nat.le_refl _) HBA.out.size HG6.out⟩
            case measure => simp [intOf]; omega
          · have HN : Hid (selN (fun k => actB S k && (pv.1.ws.contains (k : Int) == true)) (k + 1) = selN (fun k => actB S k && (pv.1.ws.contains (k : Int) == true)) k) := by
              show _ = _
              have e : (actB S k && (pv.1.ws.contains (k : Int) == true)) = false := by
                rw [HBA0.out, HCT.out]; rfl
              rw [selN_succ, e]; simp
            go_wp2_with ((go_at_call 26; refine HIN.out.mono ?_; rintro e w7 ⟨rfl, rfl⟩))
            go_roundw
            case rel => exact ⟨k + 1, by omega, by go_num, by show Own _ _ _ _ _ _; rw [HN.out]; exact HO1.out, HBA⟩
            case measure => simp [intOf]; omega
        · cases wb
          · have HN : Hid (selN (fun k => actB S k && (pv.1.ws.contains (k : Int) == false)) (k + 1) = selN (fun k => actB S k && (pv.1.ws.contains (k : Int) == false)) k) := by
              show _ = _
              have e : (actB S k && (pv.1.ws.contains (k : Int) == false)) = false := by
                rw [HBA0.out, HCT.out]; rfl
              rw [selN_succ, e]; simp
            go_wp2_with ((go_at_call 26; refine HIN.out.mono ?_; rintro e w7 ⟨rfl, rfl⟩))
            go_roundw
            case rel => exact ⟨k + 1, by omega, by go_num, by show Own _ _ _ _ _ _; rw [HN.out]; exact HO1.out, HBA⟩
            case measure => simp [intOf]; omega
          · have HN : Hid (selN (fun k => actB S k && (pv.1.ws.contains (k : Int) == true)) (k + 1) = selN (fun k => actB S k && (pv.1.ws.contains (k : Int) == true)) k ++ [(k : Int)]) := by
              show _ = _
              have e : (actB S k && (pv.1.ws.contains (k : Int) == true)) = true := by
                rw [HBA0.out, HCT.out]; rfl
              rw [selN_succ, e]; simp
            go_wp2_with (first | (go_at_call 26; refine HIN.out.mono ?_; rintro e w7 ⟨rfl, rfl⟩) | ((with_reducible refine wpList_app1 (o := ⟨some 35, _, _, _, _, _⟩) rfl (.tmp 32) (.tmp 34) 49 rfl 3 i0 (.int .i64 0) 8 Tryz.underlying49 HI.out HZ0.out HZ1.out HZ2.out rfl _ _ W.heap.size rfl HO1.out (k : Int) 1 rfl I1 HK1.out HK2.out HBA.out.size ?_); intro v6 w6 HO6 HG6 HV6))
            go_roundw
            case rel => exact ⟨k + 1, by omega, by go_num, by show Own _ _ _ _ _ _; rw [HN.out]; exact HO6.out, HO1.out.below HBA.out (Nat.le_refl _) HBA.out.size HG6.out⟩
            case measure => simp [intOf]; omega
    · obtain rfl : k = r.a4.n := by have := HNL.out; omega
      have HOF : Hid (Own I 3 wr w.heap.size u7 (roleL S x.ws wb)) := by
        have h5 := HO0.out
        rw [← HNL.out] at h5
        exact World.ownsRow.mono h5 HB.out.size
      go_wp2
      go_ret
      exact ⟨_, rfl, HOF.out, HBw.out⟩
end Go.Proofs.YtkeicjokekmkpaaGreat
