/- The reference's EncodeAcquittal. -/
import Derived.Test.YtnfkjnmdfijhnaaGreatDoorQ2
import Derived.Test.YtnfkjnmdfijhnaaGreatDoorMr
namespace Go.Proofs.YtnfkjnmdfijhnaaGreatDoor
open Go.RowKit Go.Lib
set_option linter.unusedVariables false
set_option linter.unusedSimpArgs false

def vlA (d q : Nat) (s : ByteArray) (ix : Nat) (xs : List Int) (ys : List ByteArray) : List Vl := [vN d, vN q, vS s, vN ix, vB (baOf xs), vC ys.length] ++ ys.map vS
theorem flat_vS (ys : List ByteArray) : (ys.map vS).flatMap encR = ys.flatMap sB := by rw [List.flatMap_map]; rfl
theorem flat_A {d q ix : Nat} {s : ByteArray} {xs : List Int} {ys : List ByteArray} (hxb : ∀ b ∈ xs, 0 ≤ b ∧ b < 256) : (vlA d q s ix xs ys).flatMap encR = encA d q s ix xs ys := by
  unfold vlA encA
  rw [List.flatMap_append, flat_vS]
  simp only [List.flatMap_cons, List.flatMap_nil, encR_N, encR_S, encR_C, encR_B, List.append_nil, List.append_assoc, Int.toNat_natCast, baOf_size, baOf_sB hxb]
set_option maxRecDepth 100000 in
set_option maxHeartbeats 8000000 in
theorem reacq_any (d q ix : Nat) (s : ByteArray) (a a' : Option Addr) (n c m c' : Nat) (xs : List Int) (ys : List ByteArray) (B : Nat) (w : World) (hx : Sl fB w B a n xs) (hy : Sl fT w B a' m ys) (hB : B ≤ w.heap.size)
    (hd : d ≤ 1099511627776) (hq : q ≤ 1099511627776) (hix : ix ≤ 1099511627776) (hs : s.size = 32) (hys : ∀ z ∈ ys, z.size = 32) (hn : n ≤ 500000) (hm : m ≤ 1000) (hxb : ∀ b ∈ xs, 0 ≤ b ∧ b < 256) :
    Calls Tryz.prog 11 #[.int .i64 d, .int .i64 q, .agg #[.string s, .int .i64 ix, .slice a n c, .slice a' m c']] w (Slc fB (encA d q s ix xs ys) w) := by
  obtain ⟨W1, hW1⟩ : ∃ W1 : World, W1 = w.alloc (.cells #[.string s, .int .i64 ix, .slice a n c, .slice a' m c'] 27) := ⟨_, rfl⟩
  have hb1 : Below w.heap.size w W1 := by rw [hW1]; exact (Below.refl _ _).alloc (Nat.le_refl _) _
  have hs1 : W1.heap.size = w.heap.size + 1 := by rw [hW1]; simp
  have hcp : W1.heap[w.heap.size]? = some (.cells #[.string s, .int .i64 ix, .slice a n c, .slice a' m c'] 27 (0, 0)) := by rw [hW1]; exact heap_alloc_new w _
  have HCB : Hid (∀ V, Below W1.heap.size W1 V → V.cell? ⟨w.heap.size, 0, none⟩ = some (.string s) ∧ V.cell? ⟨w.heap.size, 1, none⟩ = some (.int .i64 ix) ∧ V.cell? ⟨w.heap.size, 2, none⟩ = some (.slice a n c) ∧ V.cell? ⟨w.heap.size, 3, none⟩ = some (.slice a' m c')) := fun V hb => by
    have h := (hb.block w.heap.size (by omega)).trans hcp
    refine ⟨?_, ?_, ?_, ?_⟩ <;> (rw [cell_of_row V _ _ _ _ _ h]; rfl)
  have HBY : Hid (∀ V, Below W1.heap.size W1 V → Calls Tryz.prog 47 #[.slice a n c] V fun e w' => e = .returned (aVl (vB (baOf xs))) ∧ Below V.heap.size V w') := fun V hb =>
    rbytes_any a n c B xs V (hx.up (hb1.trans (hb.mono hb1.size)) hB) (Nat.le_trans hB (Nat.le_trans hb1.size hb.size))
  have HY : Hid (∀ V, Below W1.heap.size W1 V → Sl fT V B a' m ys) := fun V hb => hy.up (hb1.trans (hb.mono hb1.size)) hB
  have HD : Hid (0 ≤ (d : Int) ∧ (d : Int) ≤ 9223372036854775807) := by show _ ∧ _; omega
  have HQ : Hid (0 ≤ (q : Int) ∧ (q : Int) ≤ 9223372036854775807) := by show _ ∧ _; omega
  have HI : Hid (0 ≤ (ix : Int) ∧ (ix : Int) ≤ 9223372036854775807) := by show _ ∧ _; omega
  have HYN : Hid (ys.length = m) := hy.1
  have HB1 := Lib.hid hb1
  have HWE := Lib.hid hW1
  have HB : Hid (Below W1.heap.size W1 W1) := Below.refl _ _
  have HFE : Hid ((vlA d q s ix xs ys).flatMap encR = encA d q s ix xs ys) := flat_A hxb
  have HOK : Hid (∀ x ∈ vlA d q s ix xs ys, VlOk x) := fun x hx' => by
    simp only [vlA, List.mem_append, List.mem_cons, List.not_mem_nil, or_false, List.mem_map] at hx'
    rcases hx' with (rfl | rfl | rfl | rfl | rfl | rfl) | ⟨z, hz, rfl⟩
    · exact vlOk_N ⟨by omega, by omega⟩
    · exact vlOk_N ⟨by omega, by omega⟩
    · exact vlOk_S hs
    · exact vlOk_N ⟨by omega, by omega⟩
    · exact vlOk_B (by rw [baOf_size, hx.1]; omega)
    · exact vlOk_C (by rw [hy.1]; omega)
    · exact vlOk_S (hys z hz)
  have HLE : Hid ((encA d q s ix xs ys).length ≤ 1048576) := by
    show _ ≤ _
    unfold encA
    have h1 := enc_len d
    have h2 := enc_len q
    have h3 := enc_len ix
    have h4 := enc_len xs.length
    have h5 := enc_len ys.length
    have h6 := flat_len32 hys
    have h7 := sB_len s
    have h8 := hx.1
    have h9 := hy.1
    simp only [List.length_append]
    omega
  have HTL : Hid ([vN d, vN q, vS s, vN ix, vB (baOf xs), vC m] ++ ys.map vS = vlA d q s ix xs ys) := by show _ = _; unfold vlA; rw [hy.1]
  clear hx hy hB hb1 hs1 hcp hW1 hd hq hix hs hys hxb hn
  go_enter Tryz.func11, Tryz.ntmps11
  go_upto_region 1 with fail
  rw [← HWE.out]
  have hc0 := HCB.out _ HB.out
  go_region_held3 (fun w' => w'.cell? ⟨w.heap.size, 0, none⟩ = some (.string s) ∧ w'.cell? ⟨w.heap.size, 1, none⟩ = some (.int .i64 ix) ∧ w'.cell? ⟨w.heap.size, 2, none⟩ = some (.slice a n c) ∧ w'.cell? ⟨w.heap.size, 3, none⟩ = some (.slice a' m c')) (first | exact HCB.out _ HB.out | go_keep) (first
      | (go_at_call 45; (with_reducible (refine (rnumber_any (d : Int) _ HD.out.1 HD.out.2).mono ?_)); rintro e W6 ⟨rfl, b6⟩; (have HB := Lib.hid (HB.out.trans (Below.mono (Below.trans (by repeat (first | exact Below.refl _ _ | refine Below.drew ?_ | refine below_drewN' ?_ _)) b6) HB.out.size))); clear b6)
      | (go_at_call 45; (with_reducible (refine (rnumber_any (q : Int) _ HQ.out.1 HQ.out.2).mono ?_)); rintro e W6 ⟨rfl, b6⟩; (have HB := Lib.hid (HB.out.trans (Below.mono (Below.trans (by repeat (first | exact Below.refl _ _ | refine Below.drew ?_ | refine below_drewN' ?_ _)) b6) HB.out.size))); clear b6)
      | (go_at_call 45; (with_reducible (refine (rnumber_any (ix : Int) _ HI.out.1 HI.out.2).mono ?_)); rintro e W6 ⟨rfl, b6⟩; (have HB := Lib.hid (HB.out.trans (Below.mono (Below.trans (by repeat (first | exact Below.refl _ _ | refine Below.drew ?_ | refine below_drewN' ?_ _)) b6) HB.out.size))); clear b6)
      | (go_at_call 46; (with_reducible (refine (rsumv_any s _).mono ?_)); rintro e W6 ⟨rfl, b6⟩; (have HB := Lib.hid (HB.out.trans (Below.mono (Below.trans (by repeat (first | exact Below.refl _ _ | refine Below.drew ?_ | refine below_drewN' ?_ _)) b6) HB.out.size))); clear b6)
      | (go_at_call 47; (with_reducible (refine (HBY.out _ (by repeat (first | exact HB.out | refine Below.drew ?_ | refine below_drewN' ?_ _))).mono ?_)); rintro e W6 ⟨rfl, b6⟩; (have HB := Lib.hid (HB.out.trans (Below.mono (Below.trans (by repeat (first | exact Below.refl _ _ | refine Below.drew ?_ | refine below_drewN' ?_ _)) b6) HB.out.size))); clear b6))
  go_wp2_with fail
  clear hc0
  have HVA0 : Hid (VA W1 _ _ [vN d, vN q, vS s, vN ix, vB (baOf xs), vC m]) := VA.start HB.out (cs := #[.int .i64 1, .int .u64 d, .int .i64 0, .bool false, .string ⟨#[]⟩, .int .i64 0, .int .i64 1, .int .u64 q, .int .i64 0, .bool false, .string ⟨#[]⟩, .int .i64 0, .int .i64 6, .int .u64 0, .int .i64 0, .bool false, .string s, .int .i64 0, .int .i64 1, .int .u64 ix, .int .i64 0, .bool false, .string ⟨#[]⟩, .int .i64 0, .int .i64 4, .int .u64 0, .int .i64 0, .bool false, .string (baOf xs), .int .i64 0, .int .i64 7, .int .u64 0, .int .i64 m, .bool false, .string ⟨#[]⟩, .int .i64 0]) (m := 6) rfl rfl (by decide)
  go_loopw [7, 8] (fun u i wr => ∃ (k : Nat), k ≤ m ∧ i = .int .i64 k ∧ Hid (VA W1 wr u ([vN d, vN q, vS s, vN ix, vB (baOf xs), vC m] ++ (ys.take k).map vS))) (fun _ i _ => m - (intOf i).toNat)
  case atStart => exact ⟨0, by omega, rfl, by show VA _ _ _ _; rw [List.take_zero, List.map_nil, List.append_nil]; exact HVA0.out⟩
  case round =>
    obtain ⟨k, hk, rfl, HVA⟩ := hrel
    obtain ⟨k0, k1, k2, k3⟩ := HCB.out _ HVA.out.2
    by_cases hlt : k < m
    · obtain ⟨b, off, x, hax, _, hxk, hxc⟩ := (HY.out _ HVA.out.2).2.at_ (k := k) (by rw [HYN.out]; exact hlt)
      subst hax
      have hkI : (k : Int) < (m : Int) := by omega
      have HTK : Hid (([vN d, vN q, vS s, vN ix, vB (baOf xs), vC m] ++ (ys.take k).map vS) ++ [vS x] = [vN d, vN q, vS s, vN ix, vB (baOf xs), vC m] ++ (ys.take (k + 1)).map vS) := by show _ = _; rw [take_snoc hxk, List.map_append, List.append_assoc]; rfl
      have HL : Hid (([vN d, vN q, vS s, vN ix, vB (baOf xs), vC m] ++ (ys.take k).map vS).length + [vS x].length ≤ 200000) := by show _ ≤ _; simp only [List.length_append, List.length_map, List.length_take, List.length_cons, List.length_nil]; omega
      clear hxk
      go_wp2_with fail
      refine (rsumv_any x _).mono ?_
      rintro e W6 ⟨rfl, b6⟩
      have HVA := Lib.hid (HVA.out.on b6)
      clear b6 k0 k1 k2 k3 hxc
      go_wp2_with (at_builtin; (refine wpList_vapp (o := ⟨some 46, _, _, _, _, _⟩) rfl (.tmp 38) (.tmp 45) rfl (HVA.out.alloc _) (by rfl) [vS x] ⟨_, _, 1, 1, (by rfl), new_rows rfl rfl⟩ HL.out ?_); intro u1 W7 HVA)
      rw [HTK.out] at HVA
      go_roundw
      case rel => exact ⟨k + 1, by omega, by go_num, HVA⟩
      case measure => simp [intOf]; omega
    · obtain rfl : k = m := by omega
      have hV := HVA.out
      rw [List.take_of_length_le (by rw [HYN.out]; exact Nat.le_refl _), HTL.out] at hV
      obtain ⟨A, cc, hu, hcc, hrow⟩ := hV.row
      obtain ⟨N, hN⟩ : ∃ N, (vlA d q s ix xs ys).length = N := ⟨_, rfl⟩
      have hNl : N ≤ 100000 := by rw [← hN]; unfold vlA; have := HYN.out; simp only [List.length_append, List.length_map, List.length_cons, List.length_nil]; omega
      rw [hN] at hu hrow
      have HC := Lib.hid (rencode_any (vlA d q s ix xs ys) A N cc wr hrow HOK.out (by rw [HFE.out]; exact HLE.out) hNl)
      rw [HFE.out] at HC
      have HBV : Hid (Below w.heap.size w wr) := HB1.out.trans (hV.2.mono HB1.out.size)
      subst hu
      clear hV hrow hN HVA HVA0
      go_wp2_with fail
      refine HC.out.mono ?_
      rintro e w9 ⟨v9, rfl, ho9, hb9⟩
      obtain ⟨A9, c9, hv9, hc9, hs9, _⟩ := ho9.shape
      obtain ⟨N9, hN9⟩ : ∃ N, (encA d q s ix xs ys).length = N := ⟨_, rfl⟩
      rw [hN9] at hv9 hc9
      have HS9 : Hid (Sl fB w9 w9.heap.size A9 N9 (encA d q s ix xs ys)) := ⟨hN9, hs9⟩
      have HB9 := Lib.hid hb9
      have HC9 := Lib.hid hc9
      subst hv9
      clear ho9 hs9 hb9 hN9 hc9
      go_wp2_with fail
      go_ret
      exact ⟨A9, N9, c9, rfl, HC9.out, HS9.out, HBV.out.trans (HB9.out.mono HBV.out.size)⟩
end Go.Proofs.YtnfkjnmdfijhnaaGreatDoor
