/- Writers, Holders. Admit. -/
import Derived.Test.YtkeicjokekmkpaaGreatVa
import Derived.Deep.RegionLaw
namespace Go.Proofs.YtkeicjokekmkpaaGreat
open Go.RowKit Mb
set_option linter.unusedVariables false
set_option linter.unusedSimpArgs false

theorem contI_any (A : Option Addr) (n c : Nat) (xs : List Int) (x : Int) (w : World) (B : Nat) (hx : Sl I w B A n xs) (hn : n ≤ 1000000) :
    Calls Tryz.prog 60 #[.slice A n c, .int .i64 x] w fun e w' => e = .returned (.bool (xs.contains x)) ∧ w = w' := by
  obtain ⟨rfl, hx⟩ := hx
  rcases Nat.eq_zero_or_pos xs.length with h0 | h0
  · obtain rfl := List.eq_nil_of_length_eq_zero h0
    exact (Tryz.slices_Contains_int_empty A c x w).mono fun e w' ⟨he, hw⟩ => ⟨he, hw.symm⟩
  · obtain ⟨b, off, rfl, _, hc⟩ := hx h0
    refine (Tryz.slices_Contains_int b off xs.length c xs x w (Nat.le_refl _) (by omega) (fun j hj => by
      rw [hc j _ (List.getElem?_eq_getElem hj), getD_of (List.getElem?_eq_getElem hj)])).mono fun e w' ⟨he, hw⟩ => ⟨?_, hw.symm⟩
    rw [List.take_length] at he
    exact he
set_option maxRecDepth 20000 in
set_option maxHeartbeats 2000000 in
theorem wri1_any (x y g : Nat) (lab : Nat → Nat) (S : Cst) (ws : List Int) (A0 : Option Addr) (n0 c0 : Nat) (k : Nat) (w : World) (hC : Cir w lab g S) (hx : w.cell? ⟨x, 0, none⟩ = some (fG g)) (hy : w.cell? ⟨y, 1, none⟩ = some (.slice A0 n0 c0)) (hw : Sl I w w.heap.size A0 n0 ws) (hn0 : n0 ≤ 1000) (hk : k < S.s.ms.length) (hn : S.s.ms.length ≤ 1000) :
    Calls Tryz.prog 87 #[.int .i64 (k : Int), fG x, fG y] w (BoolB (actB S.s k && ws.contains (k : Int)) w) := by
  have hA : Calls Tryz.prog 59 #[fG g, .int .i64 k] w fun e w' => e = .returned (.bool (actB S.s k)) ∧ w = w' := act_cir g lab S k _ hC hn (by unfold hasB; simp; omega)
  have HQ : Hid (Calls Tryz.prog 60 #[.slice A0 n0 c0, .int .i64 k] w fun e w' => e = .returned (.bool (ws.contains (k : Int))) ∧ w = w') := contI_any A0 n0 c0 ws k _ _ hw (by omega)
  have HB : Hid (Below w.heap.size w w) := Below.refl _ _
  have HAC := Lib.hid hA
  obtain ⟨ex, hex⟩ : ∃ z, actB S.s k = z := ⟨_, rfl⟩
  obtain ⟨v, hv⟩ : ∃ z, ws.contains (k : Int) = z := ⟨_, rfl⟩
  simp only [hex] at HAC
  simp only [hv] at HQ
  have HEX := Lib.hid hex
  have HV := Lib.hid hv
  clear hC hw hA hex hv
  cases ex
  all_goals
    go_enter Tryz.func87, Tryz.ntmps87
    go_wp2_with (first | (go_at_call 59; refine HAC.out.mono ?_; rintro e w6 ⟨rfl, rfl⟩) | (go_at_call 60; refine HQ.out.mono ?_; rintro e w7 ⟨rfl, rfl⟩))
    go_ret
    exact ⟨ret_bool (by rw [HEX.out]; first | rfl | (rw [HV.out]; rfl) | (rw [HV.out]; simp)), by first | exact HB.out | exact below_dN' HB.out _⟩
set_option maxRecDepth 20000 in
theorem wri_no (g : Nat) (lab : Nat → Nat) (S : Cst) (v : Int) (w : World) (hC : Cir w lab g S) (hn : S.s.vs.length ≤ 1000) (hv : vltOf S.s v = none) :
    Calls Tryz.prog 52 #[fG g, .int .i64 v] w (OwnI2 [] 4 w) := by
  obtain ⟨W, hW⟩ : ∃ W : World, W = w.alloc (.cells #[fG g] 29) := ⟨_, rfl⟩
  have hB : Below w.heap.size w W := by rw [hW]; exact (Below.refl _ _).alloc (Nat.le_refl _) _
  have HC := Lib.hid (vault_no g lab S v W (hC.on hB) hn hv)
  have HW := Lib.hid hW
  have HB := Lib.hid hB
  clear hC hv hB hW
  go_enter Tryz.func52, Tryz.ntmps52
  go_wp2_with fail
  rw [← HW.out]
  refine HC.out.mono ?_
  rintro e w1 ⟨rfl, hb⟩
  have HB1 : Hid (Below w.heap.size w w1) := HB.out.trans (hb.mono HB.out.size)
  clear hb
  go_wp2_with (refine wpList_store_new (o := ⟨none, .store 68 (.tmp 6) (.tmp 12), _, _, _, _⟩) rfl 68 (.tmp 6) (.tmp 12) rfl 68 _ (cV zV none 0 0) rfl rfl Tryz.sizeV rfl (cV_one _ _ _ _) ?_)
  go_ret2
  exact ⟨_, rfl, Own.nil, HB1.out.alloc HB1.out.size _⟩
set_option maxRecDepth 20000 in
set_option maxHeartbeats 2000000 in
theorem wri_yes (g : Nat) (lab : Nat → Nat) (S : Cst) (v : Int) (x : Vlt) (w : World) (hC : Cir w lab g S) (hn : S.s.vs.length ≤ 1000) (hm : S.s.ms.length ≤ 1000) (hv : vltOf S.s v = some x) (hws : x.ws.length ≤ 1000) :
    Calls Tryz.prog 52 #[fG g, .int .i64 v] w (OwnI2 (wrL S.s x.ws) 0 w) := by
  obtain ⟨W, hW⟩ : ∃ W : World, W = w.alloc (.cells #[fG g] 29) := ⟨_, rfl⟩
  have hB : Below w.heap.size w W := by rw [hW]; exact (Below.refl _ _).alloc (Nat.le_refl _) _
  have hCW := hC.on hB
  have HCW := Lib.hid hCW
  have HC := Lib.hid (vault_yes g lab S v x W hCW hn hv hws)
  have HW := Lib.hid hW
  have HWG : Hid (W.heap[w.heap.size]? = some (.cells #[fG g] 29 (0, 0))) := by show _ = _; rw [hW]; exact heap_alloc_new w _
  have HWS : Hid (W.heap.size = w.heap.size + 1) := by show _ = _; rw [hW]; simp
  have HB := Lib.hid hB
  have HXL := Lib.hid hws
  clear hC hCW hv hB hW hws
  go_enter Tryz.func52, Tryz.ntmps52
  go_wp2_with fail
  rw [← HW.out]
  refine HC.out.mono ?_
  rintro e w1 ⟨A0, n0, c0, rfl, ho, hb⟩
  obtain ⟨V, hV⟩ : ∃ V : World, V = w1.alloc (oV x A0 n0 c0) := ⟨_, rfl⟩
  have hbV : Below W.heap.size W V := by rw [hV]; exact hb.alloc hb.size _
  have hVG : V.heap[w1.heap.size]? = some (oV x A0 n0 c0) := by rw [hV]; exact heap_alloc_new w1 _
  have hVC : V.heap[w.heap.size]? = some (.cells #[fG g] 29 (0, 0)) := (hbV.block _ (by rw [HWS.out]; omega)).trans HWG.out
  have hVX := HCW.out.on hbV
  have hVB : Below w.heap.size w V := HB.out.trans (hbV.mono HB.out.size)
  have hVO : Own I 3 V W.heap.size (.slice A0 n0 c0) x.ws := by rw [hV]; exact ho.alloc _
  obtain ⟨A9, c9, e9, _, hs9, _⟩ := hVO.shape
  obtain ⟨rfl, rfl, rfl⟩ : A0 = A9 ∧ n0 = x.ws.length ∧ c0 = c9 := by simpa using e9
  obtain ⟨A, c, hcm, _, _⟩ := hVX.mem
  have hlV := lt_of_block hVG
  have hlV2 := lt_of_block hVC
  have HD := Lib.hid (devices_writers g A S.s.ms.length c w.heap.size w1.heap.size (fun k => actB S.s k && x.ws.contains (k : Int)) V hcm hm (fun U k h hk =>
    wri1_any w.heap.size w1.heap.size g lab S x.ws A0 x.ws.length c0 k U (hVX.on h) ((h.cell (p := ⟨w.heap.size, 0, none⟩) hlV2).trans (by rw [cell_of_row V _ _ _ _ _ hVC]; rfl)) ((h.cell (p := ⟨w1.heap.size, 1, none⟩) hlV).trans (by rw [cell_of_row V _ _ _ _ _ hVG]; rfl)) ((show Sl I V V.heap.size A0 x.ws.length x.ws from ⟨rfl, hs9⟩).up h (Nat.le_refl _) |>.more' h.size) HXL.out hk hm))
  have HVB := Lib.hid hVB
  have hc0 : w1.cell? ⟨w.heap.size, 0, none⟩ = some (fG g) := ((hb.cell (p := ⟨w.heap.size, 0, none⟩) (by rw [HWS.out]; exact Nat.lt_succ_self _)).trans (by rw [cell_of_row W _ _ _ _ _ HWG.out]; rfl))
  have hlt1 : w.heap.size < w1.heap.size := by
    have h7 := hb.size
    rw [HWS.out] at h7
    omega
  have HV := Lib.hid hV
  clear ho hb hbV hVG hVC hVX hVB hVO e9 hs9 hcm hlV hlV2 hV
  go_wp2_with (first
    | (refine wpList_store_new (o := ⟨none, .store 68 (.tmp 6) (.tmp 12), _, _, _, _⟩) rfl 68 (.tmp 6) (.tmp 12) rfl 68 _ (cV x A0 x.ws.length c0) rfl rfl Tryz.sizeV rfl (cV_one _ _ _ _) ?_)
    | (go_at_call 57; rw [← HV.out]; (refine HD.out.mono ?_); rintro e w5 ⟨v5, rfl, ho5, hb5⟩; (have HO5 : Hid (Own I 3 w5 w.heap.size v5 (wrL S.s x.ws)) := World.ownsRow.mono ho5 HVB.out.size); (have HB5 : Hid (Below w.heap.size w w5) := HVB.out.trans (hb5.mono HVB.out.size)); clear ho5 hb5))
  go_ret2
  exact ⟨v5, rfl, HO5.out, HB5.out⟩
set_option maxRecDepth 20000 in
set_option maxHeartbeats 2000000 in
theorem hol1_any (x y g : Nat) (lab : Nat → Nat) (S : Cst) (ws : List Int) (A0 : Option Addr) (n0 c0 : Nat) (k : Nat) (w : World) (hC : Cir w lab g S) (hx : w.cell? ⟨x, 0, none⟩ = some (fG g)) (hy : w.cell? ⟨y, 1, none⟩ = some (.slice A0 n0 c0)) (hw : Sl I w w.heap.size A0 n0 ws) (hn0 : n0 ≤ 1000) (hk : k < S.s.ms.length) (hn : S.s.ms.length ≤ 1000) :
    Calls Tryz.prog 58 #[.int .i64 (k : Int), fG x, fG y] w (BoolB (actB S.s k && !ws.contains (k : Int)) w) := by
  have hA : Calls Tryz.prog 59 #[fG g, .int .i64 k] w fun e w' => e = .returned (.bool (actB S.s k)) ∧ w = w' := act_cir g lab S k _ hC hn (by unfold hasB; simp; omega)
  have HQ : Hid (Calls Tryz.prog 60 #[.slice A0 n0 c0, .int .i64 k] w fun e w' => e = .returned (.bool (ws.contains (k : Int))) ∧ w = w') := contI_any A0 n0 c0 ws k _ _ hw (by omega)
  have HB : Hid (Below w.heap.size w w) := Below.refl _ _
  have HAC := Lib.hid hA
  obtain ⟨ex, hex⟩ : ∃ z, actB S.s k = z := ⟨_, rfl⟩
  obtain ⟨v, hv⟩ : ∃ z, ws.contains (k : Int) = z := ⟨_, rfl⟩
  simp only [hex] at HAC
  simp only [hv] at HQ
  have HEX := Lib.hid hex
  have HV := Lib.hid hv
  clear hC hw hA hex hv
  cases ex
  all_goals
    go_enter Tryz.func58, Tryz.ntmps58
    go_wp2_with (first | (go_at_call 59; refine HAC.out.mono ?_; rintro e w6 ⟨rfl, rfl⟩) | (go_at_call 60; refine HQ.out.mono ?_; rintro e w7 ⟨rfl, rfl⟩))
    go_ret
    exact ⟨ret_bool (by rw [HEX.out]; first | rfl | (rw [HV.out]; rfl) | (rw [HV.out]; simp)), by first | exact HB.out | exact below_dN' HB.out _⟩
set_option maxRecDepth 20000 in
theorem hol_no (g : Nat) (lab : Nat → Nat) (S : Cst) (v : Int) (w : World) (hC : Cir w lab g S) (hn : S.s.vs.length ≤ 1000) (hv : vltOf S.s v = none) :
    Calls Tryz.prog 14 #[fG g, .int .i64 v] w (OwnI2 [] 4 w) := by
  obtain ⟨W, hW⟩ : ∃ W : World, W = w.alloc (.cells #[fG g] 29) := ⟨_, rfl⟩
  have hB : Below w.heap.size w W := by rw [hW]; exact (Below.refl _ _).alloc (Nat.le_refl _) _
  have HC := Lib.hid (vault_no g lab S v W (hC.on hB) hn hv)
  have HW := Lib.hid hW
  have HB := Lib.hid hB
  clear hC hv hB hW
  go_enter Tryz.func14, Tryz.ntmps14
  go_wp2_with fail
  rw [← HW.out]
  refine HC.out.mono ?_
  rintro e w1 ⟨rfl, hb⟩
  have HB1 : Hid (Below w.heap.size w w1) := HB.out.trans (hb.mono HB.out.size)
  clear hb
  go_wp2_with (refine wpList_store_new (o := ⟨none, .store 68 (.tmp 6) (.tmp 12), _, _, _, _⟩) rfl 68 (.tmp 6) (.tmp 12) rfl 68 _ (cV zV none 0 0) rfl rfl Tryz.sizeV rfl (cV_one _ _ _ _) ?_)
  go_ret2
  exact ⟨_, rfl, Own.nil, HB1.out.alloc HB1.out.size _⟩
set_option maxRecDepth 20000 in
set_option maxHeartbeats 2000000 in
theorem hol_yes (g : Nat) (lab : Nat → Nat) (S : Cst) (v : Int) (x : Vlt) (w : World) (hC : Cir w lab g S) (hn : S.s.vs.length ≤ 1000) (hm : S.s.ms.length ≤ 1000) (hv : vltOf S.s v = some x) (hws : x.ws.length ≤ 1000) :
    Calls Tryz.prog 14 #[fG g, .int .i64 v] w (OwnI2 (hoL S.s x.ws) 0 w) := by
  obtain ⟨W, hW⟩ : ∃ W : World, W = w.alloc (.cells #[fG g] 29) := ⟨_, rfl⟩
  have hB : Below w.heap.size w W := by rw [hW]; exact (Below.refl _ _).alloc (Nat.le_refl _) _
  have hCW := hC.on hB
  have HCW := Lib.hid hCW
  have HC := Lib.hid (vault_yes g lab S v x W hCW hn hv hws)
  have HW := Lib.hid hW
  have HWG : Hid (W.heap[w.heap.size]? = some (.cells #[fG g] 29 (0, 0))) := by show _ = _; rw [hW]; exact heap_alloc_new w _
  have HWS : Hid (W.heap.size = w.heap.size + 1) := by show _ = _; rw [hW]; simp
  have HB := Lib.hid hB
  have HXL := Lib.hid hws
  clear hC hCW hv hB hW hws
  go_enter Tryz.func14, Tryz.ntmps14
  go_wp2_with fail
  rw [← HW.out]
  refine HC.out.mono ?_
  rintro e w1 ⟨A0, n0, c0, rfl, ho, hb⟩
  obtain ⟨V, hV⟩ : ∃ V : World, V = w1.alloc (oV x A0 n0 c0) := ⟨_, rfl⟩
  have hbV : Below W.heap.size W V := by rw [hV]; exact hb.alloc hb.size _
  have hVG : V.heap[w1.heap.size]? = some (oV x A0 n0 c0) := by rw [hV]; exact heap_alloc_new w1 _
  have hVC : V.heap[w.heap.size]? = some (.cells #[fG g] 29 (0, 0)) := (hbV.block _ (by rw [HWS.out]; omega)).trans HWG.out
  have hVX := HCW.out.on hbV
  have hVB : Below w.heap.size w V := HB.out.trans (hbV.mono HB.out.size)
  have hVO : Own I 3 V W.heap.size (.slice A0 n0 c0) x.ws := by rw [hV]; exact ho.alloc _
  obtain ⟨A9, c9, e9, _, hs9, _⟩ := hVO.shape
  obtain ⟨rfl, rfl, rfl⟩ : A0 = A9 ∧ n0 = x.ws.length ∧ c0 = c9 := by simpa using e9
  obtain ⟨A, c, hcm, _, _⟩ := hVX.mem
  have hlV := lt_of_block hVG
  have hlV2 := lt_of_block hVC
  have HD := Lib.hid (devices_holders g A S.s.ms.length c w.heap.size w1.heap.size (fun k => actB S.s k && !x.ws.contains (k : Int)) V hcm hm (fun U k h hk =>
    hol1_any w.heap.size w1.heap.size g lab S x.ws A0 x.ws.length c0 k U (hVX.on h) ((h.cell (p := ⟨w.heap.size, 0, none⟩) hlV2).trans (by rw [cell_of_row V _ _ _ _ _ hVC]; rfl)) ((h.cell (p := ⟨w1.heap.size, 1, none⟩) hlV).trans (by rw [cell_of_row V _ _ _ _ _ hVG]; rfl)) ((show Sl I V V.heap.size A0 x.ws.length x.ws from ⟨rfl, hs9⟩).up h (Nat.le_refl _) |>.more' h.size) HXL.out hk hm))
  have HVB := Lib.hid hVB
  have hc0 : w1.cell? ⟨w.heap.size, 0, none⟩ = some (fG g) := ((hb.cell (p := ⟨w.heap.size, 0, none⟩) (by rw [HWS.out]; exact Nat.lt_succ_self _)).trans (by rw [cell_of_row W _ _ _ _ _ HWG.out]; rfl))
  have hlt1 : w.heap.size < w1.heap.size := by
    have h7 := hb.size
    rw [HWS.out] at h7
    omega
  have HV := Lib.hid hV
  clear ho hb hbV hVG hVC hVX hVB hVO e9 hs9 hcm hlV hlV2 hV
  go_wp2_with (first
    | (refine wpList_store_new (o := ⟨none, .store 68 (.tmp 6) (.tmp 12), _, _, _, _⟩) rfl 68 (.tmp 6) (.tmp 12) rfl 68 _ (cV x A0 x.ws.length c0) rfl rfl Tryz.sizeV rfl (cV_one _ _ _ _) ?_)
    | (go_at_call 57; rw [← HV.out]; (refine HD.out.mono ?_); rintro e w5 ⟨v5, rfl, ho5, hb5⟩; (have HO5 : Hid (Own I 3 w5 w.heap.size v5 (hoL S.s x.ws)) := World.ownsRow.mono ho5 HVB.out.size); (have HB5 : Hid (Below w.heap.size w w5) := HVB.out.trans (hb5.mono HVB.out.size)); clear ho5 hb5))
  go_ret2
  exact ⟨v5, rfl, HO5.out, HB5.out⟩
end Go.Proofs.YtkeicjokekmkpaaGreat
namespace Go.Proofs.YtkeicjokekmkpaaGreat
open Go.RowKit Mb
set_option linter.unusedVariables false
set_option linter.unusedSimpArgs false

/-- A change of a circle. -/
def MutP (S' : Cst) (lab : Nat → Nat) (g : Nat) (v : Value) (w : World) (e : Ending) (w' : World) : Prop := e = .returned v ∧ ∃ lab', Cir w' lab' g S' ∧ Fr w lab w' lab'
theorem MutP.of_below {S : Cst} {lab : Nat → Nat} {g : Nat} {v : Value} {w w' : World} {e : Ending} (hC : Cir w lab g S) (he : e = .returned v) (hb : Below w.heap.size w w') : MutP S lab g v w e w' := ⟨he, lab, hC.on hb, Fr.of_below hb⟩
section
variable {w w2 : World} {lab lab1 : Nat → Nat} {g : Nat} {S : Cst} {vm vv : Value} {bm : Nat} {vfm vfv vc : Value} {ps1 ps2 : List VP}
/-- The parts that a change leaves alone. -/
structure Kep (w w2 : World) (lab lab1 : Nat → Nat) (r : Nat) : Prop where
  size : w.heap.size ≤ w2.heap.size
  keep : ∀ k, k < w.heap.size → lab1 k = lab k
  block : ∀ k, k < w.heap.size → lab k ≠ 0 → lab k ≠ 1 → lab k ≠ r → w2.heap[k]? = w.heap[k]?
theorem Kep.rol {v : Value} {r s : Nat} (h : Kep w w2 lab lab1 r) (hv : Rol lab v s) (hlt : ∀ k, v.ownBlock = some k → k < w.heap.size) : Rol lab1 v s := fun k hk => by rw [h.keep k (hlt k hk)]; exact hv k hk
theorem Kep.blk {v : Value} {r s : Nat} (h : Kep w w2 lab lab1 r) (hv : Rol lab v s) (hlt : ∀ k, v.ownBlock = some k → k < w.heap.size) (h0 : s ≠ 0) (h1 : s ≠ 1) (hr : s ≠ r) : ∀ k, v.ownBlock = some k → w2.heap[k]? = w.heap[k]? :=
  fun k hk => h.block k (hlt k hk) (by rw [hv k hk]; exact h0) (by rw [hv k hk]; exact h1) (by rw [hv k hk]; exact hr)
theorem CirP.lv (h : CirP w lab g S vm vv bm vfm vfv vc ps1 ps2) {v : Value} {s : Nat} (hv : Rol lab v s) (hs : s ≠ 0) : ∀ k, v.ownBlock = some k → k < w.heap.size := fun k hk => h.lt (by rw [hv k hk]; exact hs)
theorem CirP.kms {r : Nat} (h : CirP w lab g S vm vv bm vfm vfv vc ps1 ps2) (k : Kep w w2 lab lab1 r) (hr : 3 ≠ r) : OwnN fM 5 40 w2 0 vm S.s.ms ∧ Rol lab1 vm 3 :=
  ⟨h.ms.same (k.blk h.lms (h.lv h.lms (by decide)) (by decide) (by decide) hr), k.rol h.lms (h.lv h.lms (by decide))⟩
theorem CirP.kfm {r : Nat} (h : CirP w lab g S vm vv bm vfm vfv vc ps1 ps2) (k : Kep w w2 lab lab1 r) (hr : 5 ≠ r) : OwnN fM 5 40 w2 0 vfm S.fm ∧ Rol lab1 vfm 5 :=
  ⟨h.fm.same (k.blk h.lfm (h.lv h.lfm (by decide)) (by decide) (by decide) hr), k.rol h.lfm (h.lv h.lfm (by decide))⟩
theorem CirP.kch {r : Nat} (h : CirP w lab g S vm vv bm vfm vfv vc ps1 ps2) (k : Kep w w2 lab lab1 r) (hr : 7 ≠ r) : Own fC 86 w2 0 vc S.chs ∧ Rol lab1 vc 7 :=
  ⟨h.ch.same (k.blk h.lch (h.lv h.lch (by decide)) (by decide) (by decide) hr), k.rol h.lch (h.lv h.lch (by decide))⟩
theorem CirP.kmp {r : Nat} (h : CirP w lab g S vm vv bm vfm vfv vc ps1 ps2) (k : Kep w w2 lab lab1 r) (hr : 2 ≠ r) : MapV w2 bm S.s.votes.length (fun x y => S.s.votes.contains (x, y)) ∧ lab1 bm = 2 := by
  have hl : bm < w.heap.size := h.lt (by rw [h.lmp]; decide)
  exact ⟨h.mp.block (k.block bm hl (by rw [h.lmp]; decide) (by rw [h.lmp]; decide) (by rw [h.lmp]; exact hr)), by rw [k.keep bm hl, h.lmp]⟩
theorem CirP.kvs {r : Nat} (h : CirP w lab g S vm vv bm vfm vfv vc ps1 ps2) (k : Kep w w2 lab lab1 r) (hr : 4 ≠ r) : VRow w2 0 vv ps1 ∧ Rol lab1 vv 4 ∧ ∀ p ∈ ps1, Rol lab1 (fS p.2) 4 := by
  refine ⟨h.vs.up fun j hj => ?_, k.rol h.lvs (h.lv h.lvs (by decide)), fun p hp => k.rol (h.lws p hp) (h.lv (h.lws p hp) (by decide))⟩
  rcases hj with hj | ⟨p, hp, hj⟩
  · exact k.blk h.lvs (h.lv h.lvs (by decide)) (by decide) (by decide) hr j hj
  · exact k.blk (h.lws p hp) (h.lv (h.lws p hp) (by decide)) (by decide) (by decide) hr j hj
theorem CirP.kfv {r : Nat} (h : CirP w lab g S vm vv bm vfm vfv vc ps1 ps2) (k : Kep w w2 lab lab1 r) (hr : 6 ≠ r) : VRow w2 0 vfv ps2 ∧ Rol lab1 vfv 6 ∧ ∀ p ∈ ps2, Rol lab1 (fS p.2) 6 := by
  refine ⟨h.fv.up fun j hj => ?_, k.rol h.lfv (h.lv h.lfv (by decide)), fun p hp => k.rol (h.lfw p hp) (h.lv (h.lfw p hp) (by decide))⟩
  rcases hj with hj | ⟨p, hp, hj⟩
  · exact k.blk h.lfv (h.lv h.lfv (by decide)) (by decide) (by decide) hr j hj
  · exact k.blk (h.lfw p hp) (h.lv (h.lfw p hp) (by decide)) (by decide) (by decide) hr j hj
/-- The label of a new block. -/
def lbl (lab : Nat → Nat) (w : World) (v : Value) (r : Nat) : Nat → Nat := fun k => if w.heap.size ≤ k ∧ v.ownBlock = some k then r else lab k
theorem lbl_old {v : Value} {r k : Nat} (hk : k < w.heap.size) : lbl lab w v r k = lab k := by unfold lbl; rw [if_neg (by omega)]
theorem lbl_rol {v u : Value} {r : Nat} (hv : Rol lab v r) (hu : u.ownBlock = v.ownBlock ∨ ∃ k, u.ownBlock = some k ∧ w.heap.size ≤ k) : Rol (lbl lab w u r) u r := fun k hk => by
  unfold lbl
  split
  · rfl
  · next hn =>
    rcases hu with hu | ⟨j, hj, hjl⟩
    · exact hv k (hu ▸ hk)
    · rw [hk] at hj
      injection hj with hj
      exact absurd ⟨by omega, hk⟩ hn
/-- A row of a circle grows and its head is written into the circle's cell: what is kept. -/
theorem turn_kep {w1 : World} {v u : Value} {r i : Nat} (hg : w.grownBy w1 v.ownBlock) (hv : Rol lab v r) (hlg : lab g = 1) : Kep w (w1.setCell ⟨g, i, none⟩ u) lab (lbl lab w u r) r :=
  ⟨by simp [World.setCell]; exact hg.size, fun k hk => lbl_old hk, fun k hk h0 h1 hr => by
    rw [Below.heap_setCell w1 _ u k (fun e => h1 (by rw [e]; exact hlg))]
    exact hg.block k hk (fun e => hr (hv k e.symm))⟩
theorem turn_fr {w1 : World} {v u : Value} {r i : Nat} (hg : w.grownBy w1 v.ownBlock) (hv : Rol lab v r) (hr : r ≠ 0) (hlg : lab g = 1) : Fr w lab (w1.setCell ⟨g, i, none⟩ u) (lbl lab w u r) :=
  ⟨hg.os, hg.tape, hg.output, by simp [World.setCell]; exact hg.size, fun k hk => lbl_old hk, fun k hk h0 => by
    rw [Below.heap_setCell w1 _ u k (fun e => by subst e; rw [hlg] at h0; cases h0)]
    exact hg.block k hk (fun e => hr ((hv k e.symm).symm.trans h0))⟩
theorem setCell_same {w1 : World} {α : Type} {f : α → List Value} {s : Nat} {e : TypeId} {base i : Nat} {u v : Value} {xs : List α} (h : OwnN f s e w1 base v xs) (hne : ∀ k, v.ownBlock = some k → k ≠ g) : OwnN f s e (w1.setCell ⟨g, i, none⟩ u) base v xs :=
  h.same fun k hk => Below.heap_setCell w1 _ u k (hne k hk)
/-- One member more. -/
theorem CirP.addM {w1 : World} {u : Value} {m : Mem} (h : CirP w lab g S vm vv bm vfm vfv vc ps1 ps2) (hg : w.grownBy w1 vm.ownBlock) (ho : OwnN fM 5 40 w1 0 u (S.s.ms ++ [m]))
    (hu : u.ownBlock = vm.ownBlock ∨ ∃ k, u.ownBlock = some k ∧ w.heap.size ≤ k) :
    CirP (w1.setCell ⟨g, 0, none⟩ u) (lbl lab w u 3) g { S with s := { S.s with ms := S.s.ms ++ [m] } } u vv bm vfm vfv vc ps1 ps2 := by
  have hgl := h.lt (k := g) (by rw [h.lg]; decide)
  have k := turn_kep (i := 0) (u := u) hg h.lms h.lg
  have hc1 : w1.heap[g]? = some (.cells #[vm, vv, .int .i64 S.s.q, .map (some bm), vfm, vfv, vc] 81 (0, 0)) := (hg.block g hgl (fun e => by
    have := h.lms g e.symm
    rw [h.lg] at this
    cases this)).trans h.cell
  have hrol : Rol (lbl lab w u 3) u 3 := lbl_rol h.lms hu
  have hug : ∀ k, u.ownBlock = some k → k ≠ g := fun k hk e => by
    have h5 := hrol k hk
    rw [e, lbl_old hgl, h.lg] at h5
    cases h5
  obtain ⟨v1, v2, v3⟩ := h.kvs k (by decide)
  obtain ⟨f1, f2, f3⟩ := h.kfv k (by decide)
  refine ⟨?_, (lbl_old hgl).trans h.lg, setCell_same ho hug, hrol, v1, h.evs, v2, v3, (h.kmp k (by decide)).1, (h.kmp k (by decide)).2, (h.kfm k (by decide)).1, (h.kfm k (by decide)).2, f1, h.efv, f2, f3, (h.kch k (by decide)).1, (h.kch k (by decide)).2, fun j hj => ?_⟩
  · have := setCell_row (i := 0) (u := u) hc1
    simpa using this
  · have hs : w1.heap.size ≤ j := by simpa [World.setCell] using hj
    have hj2 : w.heap.size ≤ j := Nat.le_trans hg.size hs
    unfold lbl
    rw [if_neg (fun e => by have := (World.ownsRow.lt ho j e.2).2; omega)]
    exact h.top j hj2
/-- One recorded change more. -/
theorem CirP.addC {w1 : World} {u : Value} {x : Chg} (h : CirP w lab g S vm vv bm vfm vfv vc ps1 ps2) (hg : w.grownBy w1 vc.ownBlock) (ho : Own fC 86 w1 0 u (S.chs ++ [x]))
    (hu : u.ownBlock = vc.ownBlock ∨ ∃ k, u.ownBlock = some k ∧ w.heap.size ≤ k) :
    CirP (w1.setCell ⟨g, 6, none⟩ u) (lbl lab w u 7) g { S with chs := S.chs ++ [x] } vm vv bm vfm vfv u ps1 ps2 := by
  have hgl := h.lt (k := g) (by rw [h.lg]; decide)
  have k := turn_kep (i := 6) (u := u) hg h.lch h.lg
  have hc1 : w1.heap[g]? = some (.cells #[vm, vv, .int .i64 S.s.q, .map (some bm), vfm, vfv, vc] 81 (0, 0)) := (hg.block g hgl (fun e => by
    have := h.lch g e.symm
    rw [h.lg] at this
    cases this)).trans h.cell
  have hrol : Rol (lbl lab w u 7) u 7 := lbl_rol h.lch hu
  have hug : ∀ k, u.ownBlock = some k → k ≠ g := fun k hk e => by
    have h5 := hrol k hk
    rw [e, lbl_old hgl, h.lg] at h5
    cases h5
  obtain ⟨v1, v2, v3⟩ := h.kvs k (by decide)
  obtain ⟨f1, f2, f3⟩ := h.kfv k (by decide)
  refine ⟨?_, (lbl_old hgl).trans h.lg, (h.kms k (by decide)).1, (h.kms k (by decide)).2, v1, h.evs, v2, v3, (h.kmp k (by decide)).1, (h.kmp k (by decide)).2, (h.kfm k (by decide)).1, (h.kfm k (by decide)).2, f1, h.efv, f2, f3, ho.same fun k hk => Below.heap_setCell w1 _ u k (hug k hk), hrol, fun j hj => ?_⟩
  · have := setCell_row (i := 6) (u := u) hc1
    simpa using this
  · have hs : w1.heap.size ≤ j := by simpa [World.setCell] using hj
    have hj2 : w.heap.size ≤ j := Nat.le_trans hg.size hs
    unfold lbl
    rw [if_neg (fun e => by have := (World.ownsRow.lt ho j e.2).2; omega)]
    exact h.top j hj2
end
/-- 'append' of one-cell elements, at a step of a region that draws. -/
theorem step_appO {P : Program} {w : World} {α : Type} {f : α → Value} {ops : Array Oper} {o : Oper} {a : Act} {K : Act → World → Prop} {Q : Exit → Act → World → Prop} {E : Prop} (hgd : o.guard = none) (sl x : Operand) (t : TypeId)
    (ho : o.op = .call { callee := .builtin .append, args := #[sl, x], argTypes := #[t, t] })
    (e : TypeId) (i : TypeInfo) (z : Value) (bytes : Nat) (ht : P.underlying t = some (.slice e)) (hi : P.info? e = some i) (hz : i.zero = some z)
    (hsize : i.size = 1) (hby : i.bytes = bytes) (hzs : z.cells.size = 1) (v : Value) (xs : List α) (base : Nat) (hsl : a.eval sl = v) (hown : Own f e w base v xs)
    (A : Option Addr) (m c B : Nat) (ys : List α) (hx : a.eval x = .slice A m c) (hr : Sl f w B A m ys) (h1 : ∀ y, (f y).oneCell' = true) (hbytes : (xs.length + ys.length) * bytes ≤ 140737488355328) (hmax : xs.length + ys.length ≤ maxLen) (hbase : base ≤ w.heap.size)
    (h : ∀ v' w', Hid (Own f e w' base v' (xs ++ ys)) → Hid (w.grownBy w' v.ownBlock) → Hid (v'.ownBlock = v.ownBlock ∨ v'.ownBlock = some w.heap.size) → K (a.put o.dst v') w') :
    if Region.wanted o (yielded ops a.tmps) = true then Oper.wp P o a w K Q else E := by
  have hw : Region.wanted o (yielded ops a.tmps) = true := by simp [Region.wanted, hgd]
  rw [if_pos hw]
  exact wp_app sl x t ho e i z bytes ht hi hz hsize hby hzs v xs base hsl hown A m c B ys hx hr h1 hbytes hmax hbase fun v' w' h2 h3 h4 => h v' w' h2 h3 h4
theorem grown_from {w X w' : World} {row : Option Nat} (hb : Below w.heap.size w X) (hg : X.grownBy w' row) : w.grownBy w' row :=
  ⟨hg.os.trans hb.os, hg.tape.trans hb.tape, hg.output.trans hb.output, Nat.le_trans hb.size hg.size, fun k hk hne => (hg.block k (Nat.lt_of_lt_of_le hk hb.size) hne).trans (hb.block k hk)⟩
theorem own_from {w X : World} {u v : Value} (hb : Below w.heap.size w X) (h : u.ownBlock = v.ownBlock ∨ u.ownBlock = some X.heap.size) : u.ownBlock = v.ownBlock ∨ ∃ k, u.ownBlock = some k ∧ w.heap.size ≤ k := by
  rcases h with h | h
  · exact .inl h
  · exact .inr ⟨_, h, hb.size⟩
/-- A cell of the circle's block behind a growth of one of its rows. -/
theorem grown_cell {w w1 : World} {lab : Nat → Nat} {g : Nat} {S : Cst} {vm vv : Value} {bm : Nat} {vfm vfv vc : Value} {ps1 ps2 : List VP} {v : Value} {r : Nat} (h : CirP w lab g S vm vv bm vfm vfv vc ps1 ps2) (hg : w.grownBy w1 v.ownBlock) (hv : Rol lab v r) (hr : r ≠ 1) :
    w1.heap[g]? = some (.cells #[vm, vv, .int .i64 S.s.q, .map (some bm), vfm, vfv, vc] 81 (0, 0)) :=
  (hg.block g (h.lt (by rw [h.lg]; decide)) (fun e => hr (by rw [← hv g e.symm, h.lg]))).trans h.cell
end Go.Proofs.YtkeicjokekmkpaaGreat
