/- Writers, Holders. -/
import Derived.Test.YtkeicjokekmkpaaVa
namespace Go.Proofs.Ytkeicjokekmkpaa
open Go.RowKit Mb
set_option linter.unusedVariables false
set_option linter.unusedSimpArgs false

theorem contI_any (A : Option Addr) (n c : Nat) (xs : List Int) (x : Int) (w : World) (B : Nat) (hx : Sl I w B A n xs) (hn : n ≤ 1000000) :
    Calls Try.prog 46 #[.slice A n c, .int .i64 x] w fun e w' => e = .returned (.bool (xs.contains x)) ∧ w = w' := by
  obtain ⟨rfl, hx⟩ := hx
  rcases Nat.eq_zero_or_pos xs.length with h0 | h0
  · obtain rfl := List.eq_nil_of_length_eq_zero h0
    exact (Try.slices_Contains_int_empty A c x w).mono fun e w' ⟨he, hw⟩ => ⟨he, hw.symm⟩
  · obtain ⟨b, off, rfl, _, hc⟩ := hx h0
    refine (Try.slices_Contains_int b off xs.length c xs x w (Nat.le_refl _) (by omega) (fun j hj => by
      rw [hc j _ (List.getElem?_eq_getElem hj), getD_of (List.getElem?_eq_getElem hj)])).mono fun e w' ⟨he, hw⟩ => ⟨?_, hw.symm⟩
    rw [List.take_length] at he
    exact he
set_option maxRecDepth 20000 in
set_option maxHeartbeats 2000000 in
theorem hol1_any (x y g : Nat) (lab : Nat → Nat) (S : Cst) (ws : List Int) (A0 : Option Addr) (n0 c0 : Nat) (k : Nat) (w : World) (hC : Cir w lab g S) (hx : w.cell? ⟨x, 0, none⟩ = some (fG g)) (hy : w.cell? ⟨y, 1, none⟩ = some (.slice A0 n0 c0)) (hw : Sl I w w.heap.size A0 n0 ws) (hn0 : n0 ≤ 1000) (hk : k < S.s.ms.length) (hn : S.s.ms.length ≤ 1000) :
    Calls Try.prog 45 #[.int .i64 (k : Int), fG x, fG y] w (BoolB (actB S.s k && !ws.contains (k : Int)) w) := by
  have hA : Calls Try.prog 34 #[fG g, .int .i64 k] w fun e w' => e = .returned (.bool (actB S.s k)) ∧ w = w' := act_cir g lab S k _ hC hn (by unfold hasB; simp; omega)
  have HQ : Hid (Calls Try.prog 46 #[.slice A0 n0 c0, .int .i64 k] w fun e w' => e = .returned (.bool (ws.contains (k : Int))) ∧ w = w') := contI_any A0 n0 c0 ws k _ _ hw (by omega)
  have HB : Hid (Below w.heap.size w w) := Below.refl _ _
  have HAC := Lib.hid hA
  obtain ⟨ex, hex⟩ : ∃ z, actB S.s k = z := ⟨_, rfl⟩
  obtain ⟨v, hv⟩ : ∃ z, ws.contains (k : Int) = z := ⟨_, rfl⟩
  simp only [hex] at HAC
  simp only [hv] at HQ
  have HEX := Lib.hid hex
  have HV := Lib.hid hv
  clear hC hw hA hex hv
  cases ex
  all_goals
    go_enter Try.func45, Try.ntmps45
    go_wp2_with (first | (go_at_call 34; refine HAC.out.mono ?_; rintro e w6 ⟨rfl, rfl⟩) | (go_at_call 46; refine HQ.out.mono ?_; rintro e w7 ⟨rfl, rfl⟩))
    go_ret
    exact ⟨ret_bool (by rw [HEX.out]; first | rfl | (rw [HV.out]; rfl) | (rw [HV.out]; simp)), by first | exact HB.out | exact below_dN' HB.out _⟩
set_option maxRecDepth 20000 in
theorem hol_no (g : Nat) (lab : Nat → Nat) (S : Cst) (v : Int) (w : World) (hC : Cir w lab g S) (hn : S.s.vs.length ≤ 1000) (hv : vltOf S.s v = none) :
    Calls Try.prog 18 #[fG g, .int .i64 v] w (OwnI2 [] 4 w) := by
  obtain ⟨W, hW⟩ : ∃ W : World, W = w.alloc (.cells #[fG g] 37) := ⟨_, rfl⟩
  have hB : Below w.heap.size w W := by rw [hW]; exact (Below.refl _ _).alloc (Nat.le_refl _) _
  have HC := Lib.hid (vault_no g lab S v W (hC.on hB) hn hv)
  have HW := Lib.hid hW
  have HB := Lib.hid hB
  clear hC hv hB hW
  go_enter Try.func18, Try.ntmps18
  go_wp2_with fail
  rw [← HW.out]
  refine HC.out.mono ?_
  rintro e w1 ⟨rfl, hb⟩
  have HB1 : Hid (Below w.heap.size w w1) := HB.out.trans (hb.mono HB.out.size)
  clear hb
  go_wp2_with (refine wpList_store_new (o := ⟨none, .store 36 (.tmp 6) (.tmp 12), _, _, _, _⟩) rfl 36 (.tmp 6) (.tmp 12) rfl 36 _ (cV zV none 0 0) rfl rfl Try.sizeV rfl (cV_one _ _ _ _) ?_)
  go_ret2
  exact ⟨_, rfl, Own.nil, HB1.out.alloc HB1.out.size _⟩
set_option maxRecDepth 20000 in
set_option maxHeartbeats 2000000 in
theorem hol_yes (g : Nat) (lab : Nat → Nat) (S : Cst) (v : Int) (x : Vlt) (w : World) (hC : Cir w lab g S) (hn : S.s.vs.length ≤ 1000) (hm : S.s.ms.length ≤ 1000) (hv : vltOf S.s v = some x) (hws : x.ws.length ≤ 1000) :
    Calls Try.prog 18 #[fG g, .int .i64 v] w (OwnI2 (hoL S.s x.ws) 0 w) := by
  obtain ⟨W, hW⟩ : ∃ W : World, W = w.alloc (.cells #[fG g] 37) := ⟨_, rfl⟩
  have hB : Below w.heap.size w W := by rw [hW]; exact (Below.refl _ _).alloc (Nat.le_refl _) _
  have hCW := hC.on hB
  have HCW := Lib.hid hCW
  have HC := Lib.hid (vault_yes g lab S v x W hCW hn hv hws)
  have HW := Lib.hid hW
  have HWG : Hid (W.heap[w.heap.size]? = some (.cells #[fG g] 37 (0, 0))) := by show _ = _; rw [hW]; exact heap_alloc_new w _
  have HWS : Hid (W.heap.size = w.heap.size + 1) := by show _ = _; rw [hW]; simp
  have HB := Lib.hid hB
  have HXL := Lib.hid hws
  clear hC hCW hv hB hW hws
  go_enter Try.func18, Try.ntmps18
  go_wp2_with fail
  rw [← HW.out]
  refine HC.out.mono ?_
  rintro e w1 ⟨A0, n0, c0, rfl, ho, hb⟩
  obtain ⟨V, hV⟩ : ∃ V : World, V = w1.alloc (oV x A0 n0 c0) := ⟨_, rfl⟩
  have hbV : Below W.heap.size W V := by rw [hV]; exact hb.alloc hb.size _
  have hVG : V.heap[w1.heap.size]? = some (oV x A0 n0 c0) := by rw [hV]; exact heap_alloc_new w1 _
  have hVC : V.heap[w.heap.size]? = some (.cells #[fG g] 37 (0, 0)) := (hbV.block _ (by rw [HWS.out]; omega)).trans HWG.out
  have hVX := HCW.out.on hbV
  have hVB : Below w.heap.size w V := HB.out.trans (hbV.mono HB.out.size)
  have hVO : Own I 3 V W.heap.size (.slice A0 n0 c0) x.ws := by rw [hV]; exact ho.alloc _
  obtain ⟨A9, c9, e9, _, hs9, _⟩ := hVO.shape
  obtain ⟨rfl, rfl, rfl⟩ : A0 = A9 ∧ n0 = x.ws.length ∧ c0 = c9 := by simpa using e9
  obtain ⟨A, c, hcm, _, _⟩ := hVX.mem
  have hlV := lt_of_block hVG
  have hlV2 := lt_of_block hVC
  have HD := Lib.hid (devices_holders g A S.s.ms.length c w.heap.size w1.heap.size (fun k => actB S.s k && !x.ws.contains (k : Int)) V hcm hm (fun U k h hk =>
    hol1_any w.heap.size w1.heap.size g lab S x.ws A0 x.ws.length c0 k U (hVX.on h) ((h.cell (p := ⟨w.heap.size, 0, none⟩) hlV2).trans (by rw [cell_of_row V _ _ _ _ _ hVC]; rfl)) ((h.cell (p := ⟨w1.heap.size, 1, none⟩) hlV).trans (by rw [cell_of_row V _ _ _ _ _ hVG]; rfl)) ((show Sl I V V.heap.size A0 x.ws.length x.ws from ⟨rfl, hs9⟩).up h (Nat.le_refl _) |>.more' h.size) HXL.out hk hm))
  have HVB := Lib.hid hVB
  have hc0 : w1.cell? ⟨w.heap.size, 0, none⟩ = some (fG g) := ((hb.cell (p := ⟨w.heap.size, 0, none⟩) (by rw [HWS.out]; exact Nat.lt_succ_self _)).trans (by rw [cell_of_row W _ _ _ _ _ HWG.out]; rfl))
  have hlt1 : w.heap.size < w1.heap.size := by
    have h7 := hb.size
    rw [HWS.out] at h7
    omega
  have HV := Lib.hid hV
  clear ho hb hbV hVG hVC hVX hVB hVO e9 hs9 hcm hlV hlV2 hV
  go_wp2_with (first
    | (refine wpList_store_new (o := ⟨none, .store 36 (.tmp 6) (.tmp 12), _, _, _, _⟩) rfl 36 (.tmp 6) (.tmp 12) rfl 36 _ (cV x A0 x.ws.length c0) rfl rfl Try.sizeV rfl (cV_one _ _ _ _) ?_)
    | (go_at_call 33; rw [← HV.out]; (refine HD.out.mono ?_); rintro e w5 ⟨v5, rfl, ho5, hb5⟩; (have HO5 : Hid (Own I 3 w5 w.heap.size v5 (hoL S.s x.ws)) := World.ownsRow.mono ho5 HVB.out.size); (have HB5 : Hid (Below w.heap.size w w5) := HVB.out.trans (hb5.mono HVB.out.size)); clear ho5 hb5))
  go_ret2
  exact ⟨v5, rfl, HO5.out, HB5.out⟩
end Go.Proofs.Ytkeicjokekmkpaa
