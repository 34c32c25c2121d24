/- Replace. -/
import Derived.Test.YtkeicjokekmkpaaGreatReA
namespace Go.Proofs.YtkeicjokekmkpaaGreat
open Go.RowKit Mb
set_option linter.unusedVariables false
set_option linter.unusedSimpArgs false

set_option maxRecDepth 20000 in
set_option maxHeartbeats 4000000 in
theorem replace_e1 (g : Nat) (lab : Nat → Nat) (S : Cst) (v a b : Int) (w : World) (hC : Cir w lab g S) (hI : Inv S.s) (hv : vltOf S.s v = none) :
    Calls Tryz.prog 17 #[fG g, .int .i64 v, .int .i64 a, .int .i64 b] w (MutP S lab g (.int .i64 4) w) := by
  have h12 := hI.v12
  have HV := Lib.hid (vault_no g lab S v w hC (by omega) hv)
  have HC := Lib.hid hC
  clear hC hv hI
  go_enter Tryz.func17, Tryz.ntmps17
  go_wp2_with fail
  refine HV.out.mono ?_
  rintro e w1 ⟨rfl, hb⟩
  have HB1 := Lib.hid hb
  clear hb
  go_wp2_with (refine wpList_store_new (o := ⟨none, .store 68 (.tmp 9) (.tmp 15), _, _, _, _⟩) rfl 68 (.tmp 9) (.tmp 15) rfl 68 _ (cV zV none 0 0) rfl rfl Tryz.sizeV rfl (cV_one _ _ _ _) ?_)
  go_ret
  exact MutP.of_below HC.out rfl (HB1.out.alloc HB1.out.size _)
set_option maxRecDepth 20000 in
set_option maxHeartbeats 4000000 in
theorem replace_e2 (g : Nat) (lab : Nat → Nat) (S : Cst) (v a b : Int) (w : World) (hC : Cir w lab g S) (hI : Inv S.s) (x : Vlt) (hv : vltOf S.s v = some x) (ca : x.ws.contains a = false) :
    Calls Tryz.prog 17 #[fG g, .int .i64 v, .int .i64 a, .int .i64 b] w (MutP S lab g (.int .i64 4) w) := by
  have h12 := hI.v12
  have hn12 := hI.n12
  obtain ⟨hg, hv0, hv1⟩ := vltOf_get hv
  have hxm := List.mem_of_getElem? hg
  have hw3 := hI.ws3 x hxm
  have hwr := hI.wsr x hxm
  have HVC := Lib.hid (vault_yes g lab S v x w hC (by omega) hv (by omega))
  have HC := Lib.hid hC
  have HW3 := Lib.hid hw3
  have HCA := Lib.hid ca
  clear hC hv hI hg hxm hw3 hwr hv0 hv1 ca
  go_enter Tryz.func17, Tryz.ntmps17
  go_wp2_with fail
  refine HVC.out.mono ?_
  rintro e w1 ⟨A0, n0, c0, rfl, ho, hb⟩
  obtain ⟨A9, c9, e9, hc9, hs9, _⟩ := Own.shape (f := I) ho
  obtain ⟨rfl, rfl, rfl⟩ : A0 = A9 ∧ n0 = x.ws.length ∧ c0 = c9 := by simpa using e9
  obtain ⟨V, hV⟩ : ∃ V : World, V = w1.alloc (oV x A0 x.ws.length c0) := ⟨_, rfl⟩
  have hbV : Below w.heap.size w V := by rw [hV]; exact hb.alloc hb.size _
  have hVG : V.heap[w1.heap.size]? = some (oV x A0 x.ws.length c0) := by rw [hV]; exact heap_alloc_new w1 _
  have hv1 : V.cell? ⟨w1.heap.size, 1, none⟩ = some (.slice A0 x.ws.length c0) := by rw [cell_of_row V _ _ _ _ _ hVG]; rfl
  have hVO : Own I 3 V w.heap.size (.slice A0 x.ws.length c0) x.ws := by rw [hV]; exact ho.alloc _
  have hVS : Sl I V V.heap.size A0 x.ws.length x.ws := by
    obtain ⟨A8, c8, e8, _, hs8, _⟩ := Own.shape (f := I) hVO
    obtain ⟨rfl, _⟩ : A0 = A8 ∧ c0 = c8 := by simpa using e8
    exact ⟨rfl, hs8⟩
  have hCV := HC.out.on hbV
  have K1 : Hid (Calls Tryz.prog 60 #[.slice A0 x.ws.length c0, .int .i64 a] V fun e w' => e = .returned (.bool false) ∧ V = w') := HCA.out ▸ contI_any A0 _ c0 x.ws a V _ hVS (by have := HW3.out; omega)
  have HBV := Lib.hid hbV
  have HV := Lib.hid hV
  have HVG := Lib.hid hVG
  have HVO := Lib.hid hVO
  have HVS := Lib.hid hVS
  clear ho hb e9 hc9 hs9 hbV hVG hVO hVS hCV hV
  go_wp2_with (first | (go_at_call 60; (try rw [← HV.out]); (first | (with_reducible refine K1.out.mono ?_)); rintro e w5 ⟨rfl, rfl⟩) | (refine wpList_store_new (o := ⟨none, .store 68 (.tmp 9) (.tmp 15), _, _, _, _⟩) rfl 68 (.tmp 9) (.tmp 15) rfl 68 _ (cV x A0 x.ws.length c0) rfl rfl Tryz.sizeV rfl (cV_one _ _ _ _) ?_))
  go_ret
  exact MutP.of_below HC.out rfl HBV.out
set_option maxRecDepth 20000 in
set_option maxHeartbeats 4000000 in
theorem replace_e3 (g : Nat) (lab : Nat → Nat) (S : Cst) (v a b : Int) (w : World) (hC : Cir w lab g S) (hI : Inv S.s) (x : Vlt) (hv : vltOf S.s v = some x) (ca : x.ws.contains a = true) (hb : hasB S.s b = false) :
    Calls Tryz.prog 17 #[fG g, .int .i64 v, .int .i64 a, .int .i64 b] w (MutP S lab g (.int .i64 4) w) := by
  have h12 := hI.v12
  have hn12 := hI.n12
  obtain ⟨hg, hv0, hv1⟩ := vltOf_get hv
  have hxm := List.mem_of_getElem? hg
  have hw3 := hI.ws3 x hxm
  have hwr := hI.wsr x hxm
  have HVC := Lib.hid (vault_yes g lab S v x w hC (by omega) hv (by omega))
  have HC := Lib.hid hC
  have HW3 := Lib.hid hw3
  have HCA := Lib.hid ca
  have HHB := Lib.hid hb
  clear hC hv hI hg hxm hw3 hwr hv0 hv1 ca hb
  go_enter Tryz.func17, Tryz.ntmps17
  go_wp2_with fail
  refine HVC.out.mono ?_
  rintro e w1 ⟨A0, n0, c0, rfl, ho, hb⟩
  obtain ⟨A9, c9, e9, hc9, hs9, _⟩ := Own.shape (f := I) ho
  obtain ⟨rfl, rfl, rfl⟩ : A0 = A9 ∧ n0 = x.ws.length ∧ c0 = c9 := by simpa using e9
  obtain ⟨V, hV⟩ : ∃ V : World, V = w1.alloc (oV x A0 x.ws.length c0) := ⟨_, rfl⟩
  have hbV : Below w.heap.size w V := by rw [hV]; exact hb.alloc hb.size _
  have hVG : V.heap[w1.heap.size]? = some (oV x A0 x.ws.length c0) := by rw [hV]; exact heap_alloc_new w1 _
  have hv1 : V.cell? ⟨w1.heap.size, 1, none⟩ = some (.slice A0 x.ws.length c0) := by rw [cell_of_row V _ _ _ _ _ hVG]; rfl
  have hVO : Own I 3 V w.heap.size (.slice A0 x.ws.length c0) x.ws := by rw [hV]; exact ho.alloc _
  have hVS : Sl I V V.heap.size A0 x.ws.length x.ws := by
    obtain ⟨A8, c8, e8, _, hs8, _⟩ := Own.shape (f := I) hVO
    obtain ⟨rfl, _⟩ : A0 = A8 ∧ c0 = c8 := by simpa using e8
    exact ⟨rfl, hs8⟩
  have hCV := HC.out.on hbV
  have K1 : Hid (Calls Tryz.prog 60 #[.slice A0 x.ws.length c0, .int .i64 a] V fun e w' => e = .returned (.bool true) ∧ V = w') := HCA.out ▸ contI_any A0 _ c0 x.ws a V _ hVS (by have := HW3.out; omega)
  have HH : Hid (Calls Tryz.prog 61 #[fG g, .int .i64 b] V fun e w' => e = .returned (.bool false) ∧ V = w') := HHB.out ▸ has_cir g lab S b V hCV (by omega)
  have HBV := Lib.hid hbV
  have HV := Lib.hid hV
  have HVG := Lib.hid hVG
  have HVO := Lib.hid hVO
  have HVS := Lib.hid hVS
  clear ho hb e9 hc9 hs9 hbV hVG hVO hVS hCV hV
  go_wp2_with (first | (go_at_call 60; (try rw [← HV.out]); (first | (with_reducible refine K1.out.mono ?_)); rintro e w5 ⟨rfl, rfl⟩) | (go_at_call 61; (try rw [← HV.out]); (first | (with_reducible refine HH.out.mono ?_)); rintro e w5 ⟨rfl, rfl⟩) | (refine wpList_store_new (o := ⟨none, .store 68 (.tmp 9) (.tmp 15), _, _, _, _⟩) rfl 68 (.tmp 9) (.tmp 15) rfl 68 _ (cV x A0 x.ws.length c0) rfl rfl Tryz.sizeV rfl (cV_one _ _ _ _) ?_))
  go_ret
  exact MutP.of_below HC.out rfl HBV.out
set_option maxRecDepth 20000 in
set_option maxHeartbeats 4000000 in
theorem replace_e4 (g : Nat) (lab : Nat → Nat) (S : Cst) (v a b : Int) (w : World) (hC : Cir w lab g S) (hI : Inv S.s) (x : Vlt) (hv : vltOf S.s v = some x) (ca : x.ws.contains a = true) (hb : hasB S.s b = true) (aa : actI S.s a = true) :
    Calls Tryz.prog 17 #[fG g, .int .i64 v, .int .i64 a, .int .i64 b] w (MutP S lab g (.int .i64 6) w) := by
  have h12 := hI.v12
  have hn12 := hI.n12
  obtain ⟨hg, hv0, hv1⟩ := vltOf_get hv
  have hxm := List.mem_of_getElem? hg
  have hw3 := hI.ws3 x hxm
  have hwr := hI.wsr x hxm
  have HVC := Lib.hid (vault_yes g lab S v x w hC (by omega) hv (by omega))
  have HC := Lib.hid hC
  have HW3 := Lib.hid hw3
  have HCA := Lib.hid ca
  have HHB := Lib.hid hb
  have HAA := Lib.hid aa
  have HAH : Hid (hasB S.s a = true) := hasB_iff.2 (hwr a (by simpa using ca))
  clear hC hv hI hg hxm hw3 hwr hv0 hv1 ca hb aa
  go_enter Tryz.func17, Tryz.ntmps17
  go_wp2_with fail
  refine HVC.out.mono ?_
  rintro e w1 ⟨A0, n0, c0, rfl, ho, hb⟩
  obtain ⟨A9, c9, e9, hc9, hs9, _⟩ := Own.shape (f := I) ho
  obtain ⟨rfl, rfl, rfl⟩ : A0 = A9 ∧ n0 = x.ws.length ∧ c0 = c9 := by simpa using e9
  obtain ⟨V, hV⟩ : ∃ V : World, V = w1.alloc (oV x A0 x.ws.length c0) := ⟨_, rfl⟩
  have hbV : Below w.heap.size w V := by rw [hV]; exact hb.alloc hb.size _
  have hVG : V.heap[w1.heap.size]? = some (oV x A0 x.ws.length c0) := by rw [hV]; exact heap_alloc_new w1 _
  have hv1 : V.cell? ⟨w1.heap.size, 1, none⟩ = some (.slice A0 x.ws.length c0) := by rw [cell_of_row V _ _ _ _ _ hVG]; rfl
  have hVO : Own I 3 V w.heap.size (.slice A0 x.ws.length c0) x.ws := by rw [hV]; exact ho.alloc _
  have hVS : Sl I V V.heap.size A0 x.ws.length x.ws := by
    obtain ⟨A8, c8, e8, _, hs8, _⟩ := Own.shape (f := I) hVO
    obtain ⟨rfl, _⟩ : A0 = A8 ∧ c0 = c8 := by simpa using e8
    exact ⟨rfl, hs8⟩
  have hCV := HC.out.on hbV
  have K1 : Hid (Calls Tryz.prog 60 #[.slice A0 x.ws.length c0, .int .i64 a] V fun e w' => e = .returned (.bool true) ∧ V = w') := HCA.out ▸ contI_any A0 _ c0 x.ws a V _ hVS (by have := HW3.out; omega)
  have HH : Hid (Calls Tryz.prog 61 #[fG g, .int .i64 b] V fun e w' => e = .returned (.bool true) ∧ V = w') := HHB.out ▸ has_cir g lab S b V hCV (by omega)
  have AA : Hid (Calls Tryz.prog 59 #[fG g, .int .i64 a] V fun e w' => e = .returned (.bool true) ∧ V = w') := HAA.out ▸ act_cir g lab S a V hCV (by omega) HAH.out
  have HBV := Lib.hid hbV
  have HV := Lib.hid hV
  have HVG := Lib.hid hVG
  have HVO := Lib.hid hVO
  have HVS := Lib.hid hVS
  clear ho hb e9 hc9 hs9 hbV hVG hVO hVS hCV hV
  go_wp2_with (first | (go_at_call 60; (try rw [← HV.out]); (first | (with_reducible refine K1.out.mono ?_)); rintro e w5 ⟨rfl, rfl⟩) | (go_at_call 61; (try rw [← HV.out]); (first | (with_reducible refine HH.out.mono ?_)); rintro e w5 ⟨rfl, rfl⟩) | (go_at_call 59; (try rw [← HV.out]); (first | (with_reducible refine AA.out.mono ?_)); rintro e w5 ⟨rfl, rfl⟩) | (refine wpList_store_new (o := ⟨none, .store 68 (.tmp 9) (.tmp 15), _, _, _, _⟩) rfl 68 (.tmp 9) (.tmp 15) rfl 68 _ (cV x A0 x.ws.length c0) rfl rfl Tryz.sizeV rfl (cV_one _ _ _ _) ?_))
  go_ret
  exact MutP.of_below HC.out rfl HBV.out
set_option maxRecDepth 20000 in
set_option maxHeartbeats 4000000 in
theorem replace_e5 (g : Nat) (lab : Nat → Nat) (S : Cst) (v a b : Int) (w : World) (hC : Cir w lab g S) (hI : Inv S.s) (x : Vlt) (hv : vltOf S.s v = some x) (ca : x.ws.contains a = true) (hb : hasB S.s b = true) (aa : actI S.s a = false) (ab : actI S.s b = false) :
    Calls Tryz.prog 17 #[fG g, .int .i64 v, .int .i64 a, .int .i64 b] w (MutP S lab g (.int .i64 6) w) := by
  have h12 := hI.v12
  have hn12 := hI.n12
  obtain ⟨hg, hv0, hv1⟩ := vltOf_get hv
  have hxm := List.mem_of_getElem? hg
  have hw3 := hI.ws3 x hxm
  have hwr := hI.wsr x hxm
  have HVC := Lib.hid (vault_yes g lab S v x w hC (by omega) hv (by omega))
  have HC := Lib.hid hC
  have HW3 := Lib.hid hw3
  have HCA := Lib.hid ca
  have HHB := Lib.hid hb
  have HAA := Lib.hid aa
  have HAH : Hid (hasB S.s a = true) := hasB_iff.2 (hwr a (by simpa using ca))
  have HAB := Lib.hid ab
  clear hC hv hI hg hxm hw3 hwr hv0 hv1 ca hb aa ab
  go_enter Tryz.func17, Tryz.ntmps17
  go_wp2_with fail
  refine HVC.out.mono ?_
  rintro e w1 ⟨A0, n0, c0, rfl, ho, hb⟩
  obtain ⟨A9, c9, e9, hc9, hs9, _⟩ := Own.shape (f := I) ho
  obtain ⟨rfl, rfl, rfl⟩ : A0 = A9 ∧ n0 = x.ws.length ∧ c0 = c9 := by simpa using e9
  obtain ⟨V, hV⟩ : ∃ V : World, V = w1.alloc (oV x A0 x.ws.length c0) := ⟨_, rfl⟩
  have hbV : Below w.heap.size w V := by rw [hV]; exact hb.alloc hb.size _
  have hVG : V.heap[w1.heap.size]? = some (oV x A0 x.ws.length c0) := by rw [hV]; exact heap_alloc_new w1 _
  have hv1 : V.cell? ⟨w1.heap.size, 1, none⟩ = some (.slice A0 x.ws.length c0) := by rw [cell_of_row V _ _ _ _ _ hVG]; rfl
  have hVO : Own I 3 V w.heap.size (.slice A0 x.ws.length c0) x.ws := by rw [hV]; exact ho.alloc _
  have hVS : Sl I V V.heap.size A0 x.ws.length x.ws := by
    obtain ⟨A8, c8, e8, _, hs8, _⟩ := Own.shape (f := I) hVO
    obtain ⟨rfl, _⟩ : A0 = A8 ∧ c0 = c8 := by simpa using e8
    exact ⟨rfl, hs8⟩
  have hCV := HC.out.on hbV
  have K1 : Hid (Calls Tryz.prog 60 #[.slice A0 x.ws.length c0, .int .i64 a] V fun e w' => e = .returned (.bool true) ∧ V = w') := HCA.out ▸ contI_any A0 _ c0 x.ws a V _ hVS (by have := HW3.out; omega)
  have HH : Hid (Calls Tryz.prog 61 #[fG g, .int .i64 b] V fun e w' => e = .returned (.bool true) ∧ V = w') := HHB.out ▸ has_cir g lab S b V hCV (by omega)
  have AA : Hid (Calls Tryz.prog 59 #[fG g, .int .i64 a] V fun e w' => e = .returned (.bool false) ∧ V = w') := HAA.out ▸ act_cir g lab S a V hCV (by omega) HAH.out
  have AB : Hid (Calls Tryz.prog 59 #[fG g, .int .i64 b] V fun e w' => e = .returned (.bool false) ∧ V = w') := HAB.out ▸ act_cir g lab S b V hCV (by omega) HHB.out
  have HBV := Lib.hid hbV
  have HV := Lib.hid hV
  have HVG := Lib.hid hVG
  have HVO := Lib.hid hVO
  have HVS := Lib.hid hVS
  clear ho hb e9 hc9 hs9 hbV hVG hVO hVS hCV hV
  go_wp2_with (first | (go_at_call 60; (try rw [← HV.out]); (first | (with_reducible refine K1.out.mono ?_)); rintro e w5 ⟨rfl, rfl⟩) | (go_at_call 61; (try rw [← HV.out]); (first | (with_reducible refine HH.out.mono ?_)); rintro e w5 ⟨rfl, rfl⟩) | (go_at_call 59; (try rw [← HV.out]); (first | (with_reducible refine AA.out.mono ?_) | (with_reducible refine AB.out.mono ?_)); rintro e w5 ⟨rfl, rfl⟩) | (refine wpList_store_new (o := ⟨none, .store 68 (.tmp 9) (.tmp 15), _, _, _, _⟩) rfl 68 (.tmp 9) (.tmp 15) rfl 68 _ (cV x A0 x.ws.length c0) rfl rfl Tryz.sizeV rfl (cV_one _ _ _ _) ?_))
  go_ret
  exact MutP.of_below HC.out rfl HBV.out
set_option maxRecDepth 20000 in
set_option maxHeartbeats 4000000 in
theorem replace_e6 (g : Nat) (lab : Nat → Nat) (S : Cst) (v a b : Int) (w : World) (hC : Cir w lab g S) (hI : Inv S.s) (x : Vlt) (hv : vltOf S.s v = some x) (ca : x.ws.contains a = true) (hb : hasB S.s b = true) (aa : actI S.s a = false) (ab : actI S.s b = true) (cb : x.ws.contains b = true) :
    Calls Tryz.prog 17 #[fG g, .int .i64 v, .int .i64 a, .int .i64 b] w (MutP S lab g (.int .i64 5) w) := by
  have h12 := hI.v12
  have hn12 := hI.n12
  obtain ⟨hg, hv0, hv1⟩ := vltOf_get hv
  have hxm := List.mem_of_getElem? hg
  have hw3 := hI.ws3 x hxm
  have hwr := hI.wsr x hxm
  have HVC := Lib.hid (vault_yes g lab S v x w hC (by omega) hv (by omega))
  have HC := Lib.hid hC
  have HW3 := Lib.hid hw3
  have HCA := Lib.hid ca
  have HHB := Lib.hid hb
  have HAA := Lib.hid aa
  have HAH : Hid (hasB S.s a = true) := hasB_iff.2 (hwr a (by simpa using ca))
  have HAB := Lib.hid ab
  have HCB := Lib.hid cb
  clear hC hv hI hg hxm hw3 hwr hv0 hv1 ca hb aa ab cb
  go_enter Tryz.func17, Tryz.ntmps17
  go_wp2_with fail
  refine HVC.out.mono ?_
  rintro e w1 ⟨A0, n0, c0, rfl, ho, hb⟩
  obtain ⟨A9, c9, e9, hc9, hs9, _⟩ := Own.shape (f := I) ho
  obtain ⟨rfl, rfl, rfl⟩ : A0 = A9 ∧ n0 = x.ws.length ∧ c0 = c9 := by simpa using e9
  obtain ⟨V, hV⟩ : ∃ V : World, V = w1.alloc (oV x A0 x.ws.length c0) := ⟨_, rfl⟩
  have hbV : Below w.heap.size w V := by rw [hV]; exact hb.alloc hb.size _
  have hVG : V.heap[w1.heap.size]? = some (oV x A0 x.ws.length c0) := by rw [hV]; exact heap_alloc_new w1 _
  have hv1 : V.cell? ⟨w1.heap.size, 1, none⟩ = some (.slice A0 x.ws.length c0) := by rw [cell_of_row V _ _ _ _ _ hVG]; rfl
  have hVO : Own I 3 V w.heap.size (.slice A0 x.ws.length c0) x.ws := by rw [hV]; exact ho.alloc _
  have hVS : Sl I V V.heap.size A0 x.ws.length x.ws := by
    obtain ⟨A8, c8, e8, _, hs8, _⟩ := Own.shape (f := I) hVO
    obtain ⟨rfl, _⟩ : A0 = A8 ∧ c0 = c8 := by simpa using e8
    exact ⟨rfl, hs8⟩
  have hCV := HC.out.on hbV
  have K1 : Hid (Calls Tryz.prog 60 #[.slice A0 x.ws.length c0, .int .i64 a] V fun e w' => e = .returned (.bool true) ∧ V = w') := HCA.out ▸ contI_any A0 _ c0 x.ws a V _ hVS (by have := HW3.out; omega)
  have HH : Hid (Calls Tryz.prog 61 #[fG g, .int .i64 b] V fun e w' => e = .returned (.bool true) ∧ V = w') := HHB.out ▸ has_cir g lab S b V hCV (by omega)
  have AA : Hid (Calls Tryz.prog 59 #[fG g, .int .i64 a] V fun e w' => e = .returned (.bool false) ∧ V = w') := HAA.out ▸ act_cir g lab S a V hCV (by omega) HAH.out
  have AB : Hid (Calls Tryz.prog 59 #[fG g, .int .i64 b] V fun e w' => e = .returned (.bool true) ∧ V = w') := HAB.out ▸ act_cir g lab S b V hCV (by omega) HHB.out
  have K2 : Hid (Calls Tryz.prog 60 #[.slice A0 x.ws.length c0, .int .i64 b] V fun e w' => e = .returned (.bool true) ∧ V = w') := HCB.out ▸ contI_any A0 _ c0 x.ws b V _ hVS (by have := HW3.out; omega)
  have HBV := Lib.hid hbV
  have HV := Lib.hid hV
  have HVG := Lib.hid hVG
  have HVO := Lib.hid hVO
  have HVS := Lib.hid hVS
  clear ho hb e9 hc9 hs9 hbV hVG hVO hVS hCV hV
  go_wp2_with (first | (go_at_call 60; (try rw [← HV.out]); (first | (with_reducible refine K1.out.mono ?_) | (with_reducible refine K2.out.mono ?_)); rintro e w5 ⟨rfl, rfl⟩) | (go_at_call 61; (try rw [← HV.out]); (first | (with_reducible refine HH.out.mono ?_)); rintro e w5 ⟨rfl, rfl⟩) | (go_at_call 59; (try rw [← HV.out]); (first | (with_reducible refine AA.out.mono ?_) | (with_reducible refine AB.out.mono ?_)); rintro e w5 ⟨rfl, rfl⟩) | (refine wpList_store_new (o := ⟨none, .store 68 (.tmp 9) (.tmp 15), _, _, _, _⟩) rfl 68 (.tmp 9) (.tmp 15) rfl 68 _ (cV x A0 x.ws.length c0) rfl rfl Tryz.sizeV rfl (cV_one _ _ _ _) ?_))
  go_ret
  exact MutP.of_below HC.out rfl HBV.out
end Go.Proofs.YtkeicjokekmkpaaGreat
