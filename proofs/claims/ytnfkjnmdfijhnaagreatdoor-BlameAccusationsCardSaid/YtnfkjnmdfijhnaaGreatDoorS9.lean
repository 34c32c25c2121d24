/- The reference of receipts: number, sum, list, signed. -/
import Derived.Test.YtnfkjnmdfijhnaaGreatDoorMr
import Derived.Test.YtnfkjnmdfijhnaaGreatDoorS7
namespace Go.Proofs.YtnfkjnmdfijhnaaGreatDoor
open Go.RowKit Go.Lib
set_option linter.unusedVariables false
set_option linter.unusedSimpArgs false

set_option maxRecDepth 20000 in
theorem snumber_any (n : Int) (w : World) (h0 : 0 ≤ n) (h1 : n ≤ 9223372036854775807) :
    Calls Tryz.prog 103 #[.int .i64 n] w fun e w' => e = .returned (aVl (vN n)) ∧ Below w.heap.size w w' := by
  have hw : n % 18446744073709551616 = n := by omega
  go_enter Tryz.func103, Tryz.ntmps103
  go_wp2_with (refine wpList_store_new (o := ⟨none, .store 90 (.tmp 2) (.tmp 5), _, _, _, _⟩) rfl 90 (.tmp 2) (.tmp 5) rfl 90 _ (fVl (vN n)).toArray rfl rfl Tryz.sizeVl rfl (fVl_all _) ?_)
  exact bodyPost_ret (results_cell_row rfl _ _ _ _ (fVl (vN n)).toArray _ _ rfl (heap_alloc_new w _) Tryz.underlying90 rfl Tryz.sizeVl) rfl ⟨rfl, (Below.refl _ _).alloc (Nat.le_refl _) _⟩
set_option maxRecDepth 20000 in
theorem ssumv_any (s : ByteArray) (w : World) :
    Calls Tryz.prog 105 #[.string s] w fun e w' => e = .returned (aVl (vS s)) ∧ Below w.heap.size w w' := by
  go_enter Tryz.func105, Tryz.ntmps105
  go_wp2_with (refine wpList_store_new (o := ⟨none, .store 90 (.tmp 2) (.tmp 4), _, _, _, _⟩) rfl 90 (.tmp 2) (.tmp 4) rfl 90 _ (fVl (vS s)).toArray rfl rfl Tryz.sizeVl rfl (fVl_all _) ?_)
  exact bodyPost_ret (results_cell_row rfl _ _ _ _ (fVl (vS s)).toArray _ _ rfl (heap_alloc_new w _) Tryz.underlying90 rfl Tryz.sizeVl) rfl ⟨rfl, (Below.refl _ _).alloc (Nat.le_refl _) _⟩
def vlL (ys : List ByteArray) : List Vl := vC ys.length :: ys.map vS
def vlG (hd vt : Nat) (s : ByteArray) (ix sz dy sr : Nat) : List Vl := [vN hd, vN vt, vS s, vN ix, vN sz, vN dy, vN sr]
theorem flat_L (ys : List ByteArray) : (vlL ys).flatMap encR = encLs ys := by
  unfold vlL encLs
  rw [List.flatMap_cons, encR_C, List.flatMap_map]; rfl
theorem flat_G (hd vt : Nat) (s : ByteArray) (ix sz dy sr : Nat) : (vlG hd vt s ix sz dy sr).flatMap encR = encSg hd vt s ix sz dy sr := by
  unfold vlG encSg
  simp only [List.flatMap_cons, List.flatMap_nil, encR_N, encR_S, List.append_nil, Int.toNat_natCast]
set_option maxRecDepth 100000 in
set_option maxHeartbeats 4000000 in
theorem slist_any (A : Option Addr) (n c B : Nat) (ys : List ByteArray) (w : World) (hx : Sl fT w B A n ys) (hB : B ≤ w.heap.size) (hn : n ≤ 1000) :
    Calls Tryz.prog 104 #[.slice A n c] w fun e w' => ∃ u, e = .returned u ∧ VA w w' u (vlL ys) := by
  have HX := Lib.hid hx
  have HXN : Hid (ys.length = n) := hx.1
  have HBB := Lib.hid hB
  have HVA0 : Hid (VA w _ _ [vC n]) := VA.start (Below.refl _ w) (cs := #[.int .i64 7, .int .u64 0, .int .i64 n, .bool false, .string ⟨#[]⟩, .int .i64 0]) (m := 1) rfl rfl (by decide)
  clear hx hB
  go_enter Tryz.func104, Tryz.ntmps104
  go_wp2_with fail
  go_loopw [3, 4] (fun u i wr => ∃ (k : Nat), k ≤ n ∧ i = .int .i64 k ∧ Hid (VA w wr u ([vC n] ++ (ys.take k).map vS))) (fun _ i _ => n - (intOf i).toNat)
  case atStart => exact ⟨0, by omega, rfl, by show VA _ _ _ _; rw [List.take_zero, List.map_nil, List.append_nil]; exact HVA0.out⟩
  case round =>
    obtain ⟨k, hk, rfl, HVA⟩ := hrel
    by_cases hlt : k < n
    · obtain ⟨b, off, x, hax, _, hxk, hxc⟩ := (HX.out.up HVA.out.2 HBB.out).2.at_ (k := k) (by rw [HXN.out]; exact hlt)
      subst hax
      have hkI : (k : Int) < (n : Int) := by omega
      have HTK : Hid (([vC n] ++ (ys.take k).map vS) ++ [vS x] = [vC n] ++ (ys.take (k + 1)).map vS) := by show _ = _; rw [take_snoc hxk, List.map_append, List.append_assoc]; rfl
      have HL : Hid (([vC n] ++ (ys.take k).map vS).length + [vS x].length ≤ 200000) := by show _ ≤ _; simp only [List.length_append, List.length_map, List.length_take, List.length_cons, List.length_nil]; omega
      clear hxk
      go_wp2_with fail
      refine (ssumv_any x _).mono ?_
      rintro e W6 ⟨rfl, b6⟩
      have HVA := Lib.hid (HVA.out.on b6)
      clear b6 hxc
      go_wp2_with (at_builtin; (refine wpList_vapp (o := ⟨some 22, _, _, _, _, _⟩) rfl (.tmp 15) (.tmp 21) rfl (HVA.out.alloc _) (by rfl) [vS x] ⟨_, _, 1, 1, (by rfl), new_rows rfl rfl⟩ HL.out ?_); intro u1 W7 HVA)
      rw [HTK.out] at HVA
      go_roundw
      case rel => exact ⟨k + 1, by omega, by go_num, HVA⟩
      case measure => simp [intOf]; omega
    · obtain rfl : k = n := by omega
      have hV := HVA.out
      rw [List.take_of_length_le (by rw [HXN.out]; exact Nat.le_refl _)] at hV
      have e : [vC k] ++ ys.map vS = vlL ys := by unfold vlL; rw [HXN.out]; rfl
      rw [e] at hV
      have HV := Lib.hid hV
      clear hV HVA HVA0
      go_wp2
      go_ret
      exact ⟨_, rfl, HV.out⟩
set_option maxRecDepth 100000 in
set_option maxHeartbeats 8000000 in
theorem ssigned_any (hd vt ix sz dy sr : Nat) (s rt : ByteArray) (ct pl si : Int) (pa pb pc : Hd) (w : World) (hN : hd ≤ 1099511627776 ∧ vt ≤ 1099511627776 ∧ ix ≤ 1099511627776 ∧ sz ≤ 1099511627776 ∧ dy ≤ 1099511627776 ∧ sr ≤ 1099511627776) :
    Calls Tryz.prog 102 #[.agg #[.int .i64 (hd : Int), .int .i64 (vt : Int), .string s, .int .i64 (ix : Int), .int .i64 (sz : Int), .int .i64 (dy : Int), .int .i64 (sr : Int), .int .i64 ct, .int .i64 pl, .string rt, .slice pa.a pa.n pa.c, .int .i64 si, .slice pb.a pb.n pb.c, .slice pc.a pc.n pc.c]] w fun e w' => ∃ u, e = .returned u ∧ VA w w' u (vlG hd vt s ix sz dy sr) := by
  obtain ⟨W1, hW1⟩ : ∃ W1 : World, W1 = w.alloc (.cells #[.int .i64 (hd : Int), .int .i64 (vt : Int), .string s, .int .i64 (ix : Int), .int .i64 (sz : Int), .int .i64 (dy : Int), .int .i64 (sr : Int), .int .i64 ct, .int .i64 pl, .string rt, .slice pa.a pa.n pa.c, .int .i64 si, .slice pb.a pb.n pb.c, .slice pc.a pc.n pc.c] 35) := ⟨_, rfl⟩
  have hb1 : Below w.heap.size w W1 := by rw [hW1]; exact (Below.refl _ _).alloc (Nat.le_refl _) _
  have hs1 : W1.heap.size = w.heap.size + 1 := by rw [hW1]; simp
  have hcp : W1.heap[w.heap.size]? = some (.cells #[.int .i64 (hd : Int), .int .i64 (vt : Int), .string s, .int .i64 (ix : Int), .int .i64 (sz : Int), .int .i64 (dy : Int), .int .i64 (sr : Int), .int .i64 ct, .int .i64 pl, .string rt, .slice pa.a pa.n pa.c, .int .i64 si, .slice pb.a pb.n pb.c, .slice pc.a pc.n pc.c] 35 (0, 0)) := by rw [hW1]; exact heap_alloc_new w _
  have HCB : Hid (∀ V, Below W1.heap.size W1 V → V.cell? ⟨w.heap.size, 0, none⟩ = some (.int .i64 (hd : Int)) ∧ V.cell? ⟨w.heap.size, 1, none⟩ = some (.int .i64 (vt : Int)) ∧ V.cell? ⟨w.heap.size, 2, none⟩ = some (.string s) ∧ V.cell? ⟨w.heap.size, 3, none⟩ = some (.int .i64 (ix : Int)) ∧ V.cell? ⟨w.heap.size, 4, none⟩ = some (.int .i64 (sz : Int)) ∧ V.cell? ⟨w.heap.size, 5, none⟩ = some (.int .i64 (dy : Int)) ∧ V.cell? ⟨w.heap.size, 6, none⟩ = some (.int .i64 (sr : Int))) := fun V hb => by
    have h := (hb.block w.heap.size (by omega)).trans hcp
    refine ⟨?_, ?_, ?_, ?_, ?_, ?_, ?_⟩ <;> (rw [cell_of_row V _ _ _ _ _ h]; rfl)
  obtain ⟨n0, n1, n2, n3, n4, n5⟩ := hN
  have Hhd : Hid (0 ≤ (hd : Int) ∧ (hd : Int) ≤ 9223372036854775807) := by show _ ∧ _; omega
  have Hvt : Hid (0 ≤ (vt : Int) ∧ (vt : Int) ≤ 9223372036854775807) := by show _ ∧ _; omega
  have Hix : Hid (0 ≤ (ix : Int) ∧ (ix : Int) ≤ 9223372036854775807) := by show _ ∧ _; omega
  have Hsz : Hid (0 ≤ (sz : Int) ∧ (sz : Int) ≤ 9223372036854775807) := by show _ ∧ _; omega
  have Hdy : Hid (0 ≤ (dy : Int) ∧ (dy : Int) ≤ 9223372036854775807) := by show _ ∧ _; omega
  have Hsr : Hid (0 ≤ (sr : Int) ∧ (sr : Int) ≤ 9223372036854775807) := by show _ ∧ _; omega
  have HB1 := Lib.hid hb1
  have HWE := Lib.hid hW1
  have HB : Hid (Below W1.heap.size W1 W1) := Below.refl _ _
  clear hb1 hs1 hcp hW1 n0 n1 n2 n3 n4 n5
  go_enter Tryz.func102, Tryz.ntmps102
  go_upto_region 1 with fail
  rw [← HWE.out]
  have hc0 := HCB.out _ HB.out
  go_region_held3 (fun w' => w'.cell? ⟨w.heap.size, 0, none⟩ = some (.int .i64 (hd : Int)) ∧ w'.cell? ⟨w.heap.size, 1, none⟩ = some (.int .i64 (vt : Int)) ∧ w'.cell? ⟨w.heap.size, 2, none⟩ = some (.string s) ∧ w'.cell? ⟨w.heap.size, 3, none⟩ = some (.int .i64 (ix : Int)) ∧ w'.cell? ⟨w.heap.size, 4, none⟩ = some (.int .i64 (sz : Int)) ∧ w'.cell? ⟨w.heap.size, 5, none⟩ = some (.int .i64 (dy : Int)) ∧ w'.cell? ⟨w.heap.size, 6, none⟩ = some (.int .i64 (sr : Int))) (first | exact HCB.out _ HB.out | go_keep) (first
      | (go_at_call 103; (with_reducible (refine (snumber_any (hd : Int) _ (Hhd.out).1 (Hhd.out).2).mono ?_)); rintro e W6 ⟨rfl, b6⟩; (have HB := Lib.hid (HB.out.trans (Below.mono (Below.trans (by repeat (first | exact Below.refl _ _ | refine Below.drew ?_ | refine below_drewN' ?_ _)) b6) HB.out.size))); clear b6)
      | (go_at_call 103; (with_reducible (refine (snumber_any (vt : Int) _ (Hvt.out).1 (Hvt.out).2).mono ?_)); rintro e W6 ⟨rfl, b6⟩; (have HB := Lib.hid (HB.out.trans (Below.mono (Below.trans (by repeat (first | exact Below.refl _ _ | refine Below.drew ?_ | refine below_drewN' ?_ _)) b6) HB.out.size))); clear b6)
      | (go_at_call 103; (with_reducible (refine (snumber_any (ix : Int) _ (Hix.out).1 (Hix.out).2).mono ?_)); rintro e W6 ⟨rfl, b6⟩; (have HB := Lib.hid (HB.out.trans (Below.mono (Below.trans (by repeat (first | exact Below.refl _ _ | refine Below.drew ?_ | refine below_drewN' ?_ _)) b6) HB.out.size))); clear b6)
      | (go_at_call 103; (with_reducible (refine (snumber_any (sz : Int) _ (Hsz.out).1 (Hsz.out).2).mono ?_)); rintro e W6 ⟨rfl, b6⟩; (have HB := Lib.hid (HB.out.trans (Below.mono (Below.trans (by repeat (first | exact Below.refl _ _ | refine Below.drew ?_ | refine below_drewN' ?_ _)) b6) HB.out.size))); clear b6)
      | (go_at_call 103; (with_reducible (refine (snumber_any (dy : Int) _ (Hdy.out).1 (Hdy.out).2).mono ?_)); rintro e W6 ⟨rfl, b6⟩; (have HB := Lib.hid (HB.out.trans (Below.mono (Below.trans (by repeat (first | exact Below.refl _ _ | refine Below.drew ?_ | refine below_drewN' ?_ _)) b6) HB.out.size))); clear b6)
      | (go_at_call 103; (with_reducible (refine (snumber_any (sr : Int) _ (Hsr.out).1 (Hsr.out).2).mono ?_)); rintro e W6 ⟨rfl, b6⟩; (have HB := Lib.hid (HB.out.trans (Below.mono (Below.trans (by repeat (first | exact Below.refl _ _ | refine Below.drew ?_ | refine below_drewN' ?_ _)) b6) HB.out.size))); clear b6)
      | (go_at_call 105; (with_reducible (refine (ssumv_any s _).mono ?_)); rintro e W6 ⟨rfl, b6⟩; (have HB := Lib.hid (HB.out.trans (Below.mono (Below.trans (by repeat (first | exact Below.refl _ _ | refine Below.drew ?_ | refine below_drewN' ?_ _)) b6) HB.out.size))); clear b6))
  go_wp2_with fail
  clear hc0
  have HVA0 : Hid (VA w _ _ (vlG hd vt s ix sz dy sr)) := VA.start (HB1.out.trans (HB.out.mono HB1.out.size)) (cs := #[.int .i64 1, .int .u64 hd, .int .i64 0, .bool false, .string ⟨#[]⟩, .int .i64 0, .int .i64 1, .int .u64 vt, .int .i64 0, .bool false, .string ⟨#[]⟩, .int .i64 0, .int .i64 6, .int .u64 0, .int .i64 0, .bool false, .string s, .int .i64 0, .int .i64 1, .int .u64 ix, .int .i64 0, .bool false, .string ⟨#[]⟩, .int .i64 0, .int .i64 1, .int .u64 sz, .int .i64 0, .bool false, .string ⟨#[]⟩, .int .i64 0, .int .i64 1, .int .u64 dy, .int .i64 0, .bool false, .string ⟨#[]⟩, .int .i64 0, .int .i64 1, .int .u64 sr, .int .i64 0, .bool false, .string ⟨#[]⟩, .int .i64 0]) (m := 7) rfl rfl (by decide)
  go_ret
  exact ⟨_, rfl, HVA0.out⟩
end Go.Proofs.YtnfkjnmdfijhnaaGreatDoor
