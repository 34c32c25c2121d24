/- DecodeAccusation. The arguments opened: a receipt with its lists' contents, a token. receipt.Encode. The reference of receipts: number, sum, list, signed. EncodeAccusation. The reference's Token; the law's short; an accusation's body read back. -/
import Derived.Test.YtpdledjgbgalcaaGreatDoorPa
import Derived.Test.YtpdledjgbgalcaaGreatDoorPe
import Derived.Test.YtpdledjgbgalcaaGreatDoorS6
import Derived.Test.YtpdledjgbgalcaaGreatDoorMr
import Derived.Test.YtpdledjgbgalcaaGreatDoorSw
namespace Go.Proofs.YtpdledjgbgalcaaGreatDoor
open Go.RowKit Go.Lib
set_option linter.unusedVariables false
set_option linter.unusedSimpArgs false
abbrev cA (d q : Int) (r : Rcp) (st : ByteArray) (ix : Int) (no an : ByteArray) : Array Value := #[.int .i64 d, .int .i64 q, .int .i64 r.hd, .int .i64 r.vt, .string r.s, .int .i64 r.ix, .int .i64 r.sz, .int .i64 r.dy, .int .i64 r.sr, .int .i64 r.ct, .int .i64 r.pl, .string r.rt, .slice r.pa.a r.pa.n r.pa.c, .int .i64 r.si, .slice r.pb.a r.pb.n r.pb.c, .slice r.pc.a r.pc.n r.pc.c, .string st, .int .i64 ix, .string no, .string an]
theorem rangeR {w : World} {b : Nat} {t : TypeId} {R : Rcp} (h : w.heap[b]? = some (.cells (cR R) t (0, 0))) : w.rangeAt b 0 (cR R).toList := fun j v hv => by
  rw [Nat.zero_add, cell_of_row w b j _ _ _ h, ← Array.getElem?_toList]; exact hv
theorem sizeRL (R : Rcp) : (Tryz.prog.info? 35).map (·.size) = some (cR R).toList.length := Tryz.sizeRc
end Go.Proofs.YtpdledjgbgalcaaGreatDoor
namespace Go.Proofs.YtpdledjgbgalcaaGreatDoor
open Go.ChangeShapes Go.WideShapes Go.ChangeAt Go.RowKit Go.Deep
set_option linter.unusedVariables false
set_option linter.unusedSimpArgs false
section
variable {H : Type} {enc : TypeId × Value → H} {W : World} {d : DataW H} {p : List MemPlace}
theorem Tryz.cellsTok : Tryz.prog.cellsOf 37 = 4 := by kernel_rfl
set_option maxRecDepth 20000 in
theorem in_tok {fuel : Nat} {cs : List Value} {x : DataW H × List MemPlace} (h : DataW.trod enc Tryz.prog W 0 (fun _ => true) true fuel 37 cs = some x) : ∃ (s : ByteArray) (i : Int) (no an : ByteArray), cs = [.string s, .int .i64 i, .string no, .string an] := by
  obtain ⟨ys, n, _, _, hcl, hyl, hfld⟩ := DataW.trod_struct Tryz.underlying37 h
  rw [Tryz.cellsTok] at hcl
  obtain ⟨c0, c1, c2, c3, rfl⟩ := list4 hcl
  obtain ⟨y0, y1, y2, rfl⟩ := ylist3 hyl
  have f0 : DataW.trod enc Tryz.prog W 0 (fun _ => true) true n 31 (([c0, c1, c2, c3].drop 0).take (Tryz.prog.cellsOf 31)) = [y0, y1, y2][0]? := hfld 0 _ rfl
  rw [Tryz.cellsPid] at f0
  have f1 : DataW.trod enc Tryz.prog W 0 (fun _ => true) true n 9 (([c0, c1, c2, c3].drop 2).take (Tryz.prog.cellsOf 9)) = [y0, y1, y2][1]? := hfld 1 _ rfl
  rw [Tryz.cellsS] at f1
  have f2 : DataW.trod enc Tryz.prog W 0 (fun _ => true) true n 9 (([c0, c1, c2, c3].drop 3).take (Tryz.prog.cellsOf 9)) = [y0, y1, y2][2]? := hfld 2 _ rfl
  rw [Tryz.cellsS] at f2
  obtain ⟨z0a, z0b, e0, s0⟩ := in_pid f0
  simp at e0
  obtain ⟨rfl, rfl⟩ := e0
  obtain ⟨z1, e1, _, s1⟩ := DataW.trod_string Tryz.underlying9 f1
  simp at e1
  subst e1
  obtain ⟨z2, e2, _, s2⟩ := DataW.trod_string Tryz.underlying9 f2
  simp at e2
  subst e2
  exact ⟨z0a, z0b, z1, z2, rfl⟩
end
end Go.Proofs.YtpdledjgbgalcaaGreatDoor
namespace Go.Proofs.YtpdledjgbgalcaaGreatDoor
open Go.RowKit Go.Lib
set_option linter.unusedVariables false
set_option linter.unusedSimpArgs false
theorem encSg_len (hd vt ix sz dy sr : Nat) (s : ByteArray) (hs : s.size = 32) : (encSg hd vt s ix sz dy sr).length ≤ 92 := by
  unfold encSg
  have h1 := enc_len hd
  have h2 := enc_len vt
  have h3 := enc_len ix
  have h4 := enc_len sz
  have h5 := enc_len dy
  have h6 := enc_len sr
  have h7 := sB_len s
  simp only [List.length_append]
  omega
theorem vaB_facts {r : Rcp} {ps qs rs : List ByteArray} (h : vaB r ps qs rs = true) : (0 ≤ r.hd ∧ r.hd ≤ 11) ∧ (0 ≤ r.vt ∧ r.vt ≤ 11) ∧ r.s.size = 32 ∧ (0 ≤ r.ix ∧ r.ix ≤ 15) ∧ (1 ≤ r.sz ∧ r.sz ≤ 65536) ∧ (0 ≤ r.dy ∧ r.dy ≤ 999999) ∧ (0 ≤ r.sr ∧ r.sr ≤ 1099511627776) ∧ (1 ≤ r.ct ∧ r.ct ≤ 256) ∧ (0 ≤ r.pl ∧ r.pl ≤ r.ct - 1) ∧ r.rt.size = 32 ∧ (ps.length ≤ 8 ∧ ∀ z ∈ ps, z.size = 32) ∧ (rs.length ≤ 8 ∧ ∀ z ∈ rs, z.size = 32) ∧ (qs.length ≤ 300 ∧ ∀ z ∈ qs, z.size = 32) ∧ (0 ≤ r.si ∧ r.si ≤ 255) := by
  unfold vaB pvB rgB arB at h
  simp only [Bool.and_eq_true, decide_eq_true_eq] at h
  obtain ⟨a1, ⟨a2, a3, a4, a5⟩, a6, a7, a8, a9, a10, ⟨a11, a12⟩, ⟨a13, a14⟩, ⟨a15, a16⟩, a17⟩ := h
  exact ⟨a1, a2, a3, a4, a5, a6, a7, a8, a9, a10, ⟨a11, sumsB_iff.1 a12⟩, ⟨a13, sumsB_iff.1 a14⟩, ⟨a15, sumsB_iff.1 a16⟩, a17⟩
end Go.Proofs.YtpdledjgbgalcaaGreatDoor
namespace Go.Proofs.YtpdledjgbgalcaaGreatDoor
open Go.RowKit Go.Lib
set_option linter.unusedVariables false
set_option linter.unusedSimpArgs false
set_option maxRecDepth 20000 in
theorem snumber_any (n : Int) (w : World) (h0 : 0 ≤ n) (h1 : n ≤ 9223372036854775807) :
    Calls Tryz.prog 164 #[.int .i64 n] w fun e w' => e = .returned (aVl (vN n)) ∧ Below w.heap.size w w' := by
  have hw : n % 18446744073709551616 = n := by omega
  go_enter Tryz.func164, Tryz.ntmps164
  go_wp2_with (refine wpList_store_new (o := ⟨none, .store 188 (.tmp 2) (.tmp 5), _, _, _, _⟩) rfl 188 (.tmp 2) (.tmp 5) rfl 188 _ (fVl (vN n)).toArray rfl rfl Tryz.sizeVl rfl (fVl_all _) ?_)
  exact bodyPost_ret (results_cell_row rfl _ _ _ _ (fVl (vN n)).toArray _ _ rfl (heap_alloc_new w _) Tryz.underlying188 rfl Tryz.sizeVl) rfl ⟨rfl, (Below.refl _ _).alloc (Nat.le_refl _) _⟩
set_option maxRecDepth 20000 in
theorem ssumv_any (s : ByteArray) (w : World) :
    Calls Tryz.prog 163 #[.string s] w fun e w' => e = .returned (aVl (vS s)) ∧ Below w.heap.size w w' := by
  go_enter Tryz.func163, Tryz.ntmps163
  go_wp2_with (refine wpList_store_new (o := ⟨none, .store 188 (.tmp 2) (.tmp 4), _, _, _, _⟩) rfl 188 (.tmp 2) (.tmp 4) rfl 188 _ (fVl (vS s)).toArray rfl rfl Tryz.sizeVl rfl (fVl_all _) ?_)
  exact bodyPost_ret (results_cell_row rfl _ _ _ _ (fVl (vS s)).toArray _ _ rfl (heap_alloc_new w _) Tryz.underlying188 rfl Tryz.sizeVl) rfl ⟨rfl, (Below.refl _ _).alloc (Nat.le_refl _) _⟩
def vlG (hd vt : Nat) (s : ByteArray) (ix sz dy sr : Nat) : List Vl := [vN hd, vN vt, vS s, vN ix, vN sz, vN dy, vN sr]
theorem flat_G (hd vt : Nat) (s : ByteArray) (ix sz dy sr : Nat) : (vlG hd vt s ix sz dy sr).flatMap encR = encSg hd vt s ix sz dy sr := by
  unfold vlG encSg
  simp only [List.flatMap_cons, List.flatMap_nil, encR_N, encR_S, List.append_nil, Int.toNat_natCast]
set_option maxRecDepth 100000 in
set_option maxHeartbeats 8000000 in
theorem ssigned_any (hd vt ix sz dy sr : Nat) (s rt : ByteArray) (ct pl si : Int) (pa pb pc : Hd) (w : World) (hN : hd ≤ 1099511627776 ∧ vt ≤ 1099511627776 ∧ ix ≤ 1099511627776 ∧ sz ≤ 1099511627776 ∧ dy ≤ 1099511627776 ∧ sr ≤ 1099511627776) :
    Calls Tryz.prog 188 #[.agg #[.int .i64 (hd : Int), .int .i64 (vt : Int), .string s, .int .i64 (ix : Int), .int .i64 (sz : Int), .int .i64 (dy : Int), .int .i64 (sr : Int), .int .i64 ct, .int .i64 pl, .string rt, .slice pa.a pa.n pa.c, .int .i64 si, .slice pb.a pb.n pb.c, .slice pc.a pc.n pc.c]] w fun e w' => ∃ u, e = .returned u ∧ VA w w' u (vlG hd vt s ix sz dy sr) := by
  obtain ⟨W1, hW1⟩ : ∃ W1 : World, W1 = w.alloc (.cells #[.int .i64 (hd : Int), .int .i64 (vt : Int), .string s, .int .i64 (ix : Int), .int .i64 (sz : Int), .int .i64 (dy : Int), .int .i64 (sr : Int), .int .i64 ct, .int .i64 pl, .string rt, .slice pa.a pa.n pa.c, .int .i64 si, .slice pb.a pb.n pb.c, .slice pc.a pc.n pc.c] 35) := ⟨_, rfl⟩
  have hb1 : Below w.heap.size w W1 := by rw [hW1]; exact (Below.refl _ _).alloc (Nat.le_refl _) _
  have hs1 : W1.heap.size = w.heap.size + 1 := by rw [hW1]; simp
  have hcp : W1.heap[w.heap.size]? = some (.cells #[.int .i64 (hd : Int), .int .i64 (vt : Int), .string s, .int .i64 (ix : Int), .int .i64 (sz : Int), .int .i64 (dy : Int), .int .i64 (sr : Int), .int .i64 ct, .int .i64 pl, .string rt, .slice pa.a pa.n pa.c, .int .i64 si, .slice pb.a pb.n pb.c, .slice pc.a pc.n pc.c] 35 (0, 0)) := by rw [hW1]; exact heap_alloc_new w _
  have HCB : Hid (∀ V, Below W1.heap.size W1 V → V.cell? ⟨w.heap.size, 0, none⟩ = some (.int .i64 (hd : Int)) ∧ V.cell? ⟨w.heap.size, 1, none⟩ = some (.int .i64 (vt : Int)) ∧ V.cell? ⟨w.heap.size, 2, none⟩ = some (.string s) ∧ V.cell? ⟨w.heap.size, 3, none⟩ = some (.int .i64 (ix : Int)) ∧ V.cell? ⟨w.heap.size, 4, none⟩ = some (.int .i64 (sz : Int)) ∧ V.cell? ⟨w.heap.size, 5, none⟩ = some (.int .i64 (dy : Int)) ∧ V.cell? ⟨w.heap.size, 6, none⟩ = some (.int .i64 (sr : Int))) := fun V hb => by
    have h := (hb.block w.heap.size (by omega)).trans hcp
    refine ⟨?_, ?_, ?_, ?_, ?_, ?_, ?_⟩ <;> (rw [cell_of_row V _ _ _ _ _ h]; rfl)
  obtain ⟨n0, n1, n2, n3, n4, n5⟩ := hN
  have Hhd : Hid (0 ≤ (hd : Int) ∧ (hd : Int) ≤ 9223372036854775807) := by show _ ∧ _; omega
  have Hvt : Hid (0 ≤ (vt : Int) ∧ (vt : Int) ≤ 9223372036854775807) := by show _ ∧ _; omega
  have Hix : Hid (0 ≤ (ix : Int) ∧ (ix : Int) ≤ 9223372036854775807) := by show _ ∧ _; omega
  have Hsz : Hid (0 ≤ (sz : Int) ∧ (sz : Int) ≤ 9223372036854775807) := by show _ ∧ _; omega
  have Hdy : Hid (0 ≤ (dy : Int) ∧ (dy : Int) ≤ 9223372036854775807) := by show _ ∧ _; omega
  have Hsr : Hid (0 ≤ (sr : Int) ∧ (sr : Int) ≤ 9223372036854775807) := by show _ ∧ _; omega
  have HB1 := Lib.hid hb1
  have HWE := Lib.hid hW1
  have HB : Hid (Below W1.heap.size W1 W1) := Below.refl _ _
  clear hb1 hs1 hcp hW1 n0 n1 n2 n3 n4 n5
  go_enter Tryz.func188, Tryz.ntmps188
  go_upto_region 1 with fail
  rw [← HWE.out]
  have hc0 := HCB.out _ HB.out
  go_region_held3 (fun w' => w'.cell? ⟨w.heap.size, 0, none⟩ = some (.int .i64 (hd : Int)) ∧ w'.cell? ⟨w.heap.size, 1, none⟩ = some (.int .i64 (vt : Int)) ∧ w'.cell? ⟨w.heap.size, 2, none⟩ = some (.string s) ∧ w'.cell? ⟨w.heap.size, 3, none⟩ = some (.int .i64 (ix : Int)) ∧ w'.cell? ⟨w.heap.size, 4, none⟩ = some (.int .i64 (sz : Int)) ∧ w'.cell? ⟨w.heap.size, 5, none⟩ = some (.int .i64 (dy : Int)) ∧ w'.cell? ⟨w.heap.size, 6, none⟩ = some (.int .i64 (sr : Int))) (first | exact HCB.out _ HB.out | go_keep) (first
      | (go_at_call 164; (with_reducible (refine (snumber_any (hd : Int) _ (Hhd.out).1 (Hhd.out).2).mono ?_)); rintro e W6 ⟨rfl, b6⟩; (have HB := Lib.hid (HB.out.trans (Below.mono (Below.trans (by repeat (first | exact Below.refl _ _ | refine Below.drew ?_ | refine below_drewN' ?_ _)) b6) HB.out.size))); clear b6)
      | (go_at_call 164; (with_reducible (refine (snumber_any (vt : Int) _ (Hvt.out).1 (Hvt.out).2).mono ?_)); rintro e W6 ⟨rfl, b6⟩; (have HB := Lib.hid (HB.out.trans (Below.mono (Below.trans (by repeat (first | exact Below.refl _ _ | refine Below.drew ?_ | refine below_drewN' ?_ _)) b6) HB.out.size))); clear b6)
      | (go_at_call 164; (with_reducible (refine (snumber_any (ix : Int) _ (Hix.out).1 (Hix.out).2).mono ?_)); rintro e W6 ⟨rfl, b6⟩; (have HB := Lib.hid (HB.out.trans (Below.mono (Below.trans (by repeat (first | exact Below.refl _ _ | refine Below.drew ?_ | refine below_drewN' ?_ _)) b6) HB.out.size))); clear b6)
      | (go_at_call 164; (with_reducible (refine (snumber_any (sz : Int) _ (Hsz.out).1 (Hsz.out).2).mono ?_)); rintro e W6 ⟨rfl, b6⟩; (have HB := Lib.hid (HB.out.trans (Below.mono (Below.trans (by repeat (first | exact Below.refl _ _ | refine Below.drew ?_ | refine below_drewN' ?_ _)) b6) HB.out.size))); clear b6)
      | (go_at_call 164; (with_reducible (refine (snumber_any (dy : Int) _ (Hdy.out).1 (Hdy.out).2).mono ?_)); rintro e W6 ⟨rfl, b6⟩; (have HB := Lib.hid (HB.out.trans (Below.mono (Below.trans (by repeat (first | exact Below.refl _ _ | refine Below.drew ?_ | refine below_drewN' ?_ _)) b6) HB.out.size))); clear b6)
      | (go_at_call 164; (with_reducible (refine (snumber_any (sr : Int) _ (Hsr.out).1 (Hsr.out).2).mono ?_)); rintro e W6 ⟨rfl, b6⟩; (have HB := Lib.hid (HB.out.trans (Below.mono (Below.trans (by repeat (first | exact Below.refl _ _ | refine Below.drew ?_ | refine below_drewN' ?_ _)) b6) HB.out.size))); clear b6)
      | (go_at_call 163; (with_reducible (refine (ssumv_any s _).mono ?_)); rintro e W6 ⟨rfl, b6⟩; (have HB := Lib.hid (HB.out.trans (Below.mono (Below.trans (by repeat (first | exact Below.refl _ _ | refine Below.drew ?_ | refine below_drewN' ?_ _)) b6) HB.out.size))); clear b6))
  go_wp2_with fail
  clear hc0
  have HVA0 : Hid (VA w _ _ (vlG hd vt s ix sz dy sr)) := VA.start (HB1.out.trans (HB.out.mono HB1.out.size)) (cs := #[.int .i64 1, .int .u64 hd, .int .i64 0, .bool false, .string ⟨#[]⟩, .int .i64 0, .int .i64 1, .int .u64 vt, .int .i64 0, .bool false, .string ⟨#[]⟩, .int .i64 0, .int .i64 6, .int .u64 0, .int .i64 0, .bool false, .string s, .int .i64 0, .int .i64 1, .int .u64 ix, .int .i64 0, .bool false, .string ⟨#[]⟩, .int .i64 0, .int .i64 1, .int .u64 sz, .int .i64 0, .bool false, .string ⟨#[]⟩, .int .i64 0, .int .i64 1, .int .u64 dy, .int .i64 0, .bool false, .string ⟨#[]⟩, .int .i64 0, .int .i64 1, .int .u64 sr, .int .i64 0, .bool false, .string ⟨#[]⟩, .int .i64 0]) (m := 7) rfl rfl (by decide)
  go_ret
  exact ⟨_, rfl, HVA0.out⟩
end Go.Proofs.YtpdledjgbgalcaaGreatDoor
namespace Go.Proofs.YtpdledjgbgalcaaGreatDoor
open Go.RowKit Go.Lib
set_option linter.unusedVariables false
set_option linter.unusedSimpArgs false
end Go.Proofs.YtpdledjgbgalcaaGreatDoor
namespace Go.Proofs.YtpdledjgbgalcaaGreatDoor
open Go.RowKit Go.Lib
set_option linter.unusedVariables false
set_option linter.unusedSimpArgs false
set_option maxRecDepth 100000 in
set_option maxHeartbeats 4000000 in
theorem token_any (s : ByteArray) (ix : Int) (no an : ByteArray) (w : World) : Calls Tryz.prog 46 #[.agg #[.string s, .int .i64 ix, .string no, .string an]] w fun e w' => e = .returned (.bool (tkB s ix no an)) ∧ Below w.heap.size w w' := by
  have HR : Hid (tkB s ix no an = decide ((s.size = 32 ∧ 0 ≤ ix ∧ ix ≤ 15) ∧ no.size = 32 ∧ an.size = 32)) := by
    show _ = _
    unfold tkB idB
    simp only [Bool.decide_and, Bool.and_assoc]
  by_cases h0 : ((s.size : Nat) : Int) = 32
  · skip
    by_cases h1 : 0 ≤ ix
    · skip
      by_cases h2 : ix < 16
      · skip
        by_cases h3 : ((no.size : Nat) : Int) = 32
        · skip
          by_cases h4 : ((an.size : Nat) : Int) = 32
          · skip
            go_enter Tryz.func46, Tryz.ntmps46
            go_wp2
            go_ret
            exact ⟨ret_bool (by rw [HR.out]; first | exact (decide_eq_true (by omega)).symm | exact (decide_eq_false (by omega)).symm), (Below.refl _ _).alloc (Nat.le_refl _) _⟩
          · have hz2 : (((an.size : Nat) : Int) == 32) = false := by simp; omega
            go_enter Tryz.func46, Tryz.ntmps46
            go_wp2
            go_ret
            exact ⟨ret_bool (by rw [HR.out]; first | exact (decide_eq_true (by omega)).symm | exact (decide_eq_false (by omega)).symm), (Below.refl _ _).alloc (Nat.le_refl _) _⟩
        · have hz1 : (((no.size : Nat) : Int) == 32) = false := by simp; omega
          go_enter Tryz.func46, Tryz.ntmps46
          go_wp2
          go_ret
          exact ⟨ret_bool (by rw [HR.out]; first | exact (decide_eq_true (by omega)).symm | exact (decide_eq_false (by omega)).symm), (Below.refl _ _).alloc (Nat.le_refl _) _⟩
      · skip
        go_enter Tryz.func46, Tryz.ntmps46
        go_wp2
        go_ret
        exact ⟨ret_bool (by rw [HR.out]; first | exact (decide_eq_true (by omega)).symm | exact (decide_eq_false (by omega)).symm), (Below.refl _ _).alloc (Nat.le_refl _) _⟩
    · skip
      go_enter Tryz.func46, Tryz.ntmps46
      go_wp2
      go_ret
      exact ⟨ret_bool (by rw [HR.out]; first | exact (decide_eq_true (by omega)).symm | exact (decide_eq_false (by omega)).symm), (Below.refl _ _).alloc (Nat.le_refl _) _⟩
  · have hz0 : (((s.size : Nat) : Int) == 32) = false := by simp; omega
    go_enter Tryz.func46, Tryz.ntmps46
    go_wp2
    go_ret
    exact ⟨ret_bool (by rw [HR.out]; first | exact (decide_eq_true (by omega)).symm | exact (decide_eq_false (by omega)).symm), (Below.refl _ _).alloc (Nat.le_refl _) _⟩
set_option maxRecDepth 100000 in
set_option maxHeartbeats 4000000 in
theorem short_any (r : Rcp) (w : World) : Calls Tryz.prog 10 #[.agg #[.int .i64 r.hd, .int .i64 r.vt, .string r.s, .int .i64 r.ix, .int .i64 r.sz, .int .i64 r.dy, .int .i64 r.sr, .int .i64 r.ct, .int .i64 r.pl, .string r.rt, .slice r.pa.a r.pa.n r.pa.c, .int .i64 r.si, .slice r.pb.a r.pb.n r.pb.c, .slice r.pc.a r.pc.n r.pc.c]] w fun e w' => e = .returned (.bool (decide (r.pa.n ≤ 20 ∧ r.pb.n ≤ 310 ∧ r.pc.n ≤ 20))) ∧ Below w.heap.size w w' := by
  obtain ⟨z, hz⟩ : ∃ z : Bool, z = decide (r.pa.n ≤ 20 ∧ r.pb.n ≤ 310 ∧ r.pc.n ≤ 20) := ⟨_, rfl⟩
  have HR : Hid (z = decide (r.pa.n ≤ 20 ∧ r.pb.n ≤ 310 ∧ r.pc.n ≤ 20)) := hz
  rw [← hz]
  clear hz
  by_cases h0 : (r.pa.n : Int) ≤ 20
  · skip
    by_cases h1 : (r.pb.n : Int) ≤ 310
    · skip
      by_cases h2 : (r.pc.n : Int) ≤ 20
      · skip
        go_enter Tryz.func10, Tryz.ntmps10
        go_wp2
        go_ret
        exact ⟨ret_bool (by rw [HR.out]; first | exact (decide_eq_true (by omega)).symm | exact (decide_eq_false (by omega)).symm), (Below.refl _ _).alloc (Nat.le_refl _) _⟩
      · skip
        go_enter Tryz.func10, Tryz.ntmps10
        go_wp2
        go_ret
        exact ⟨ret_bool (by rw [HR.out]; first | exact (decide_eq_true (by omega)).symm | exact (decide_eq_false (by omega)).symm), (Below.refl _ _).alloc (Nat.le_refl _) _⟩
    · skip
      go_enter Tryz.func10, Tryz.ntmps10
      go_wp2
      go_ret
      exact ⟨ret_bool (by rw [HR.out]; first | exact (decide_eq_true (by omega)).symm | exact (decide_eq_false (by omega)).symm), (Below.refl _ _).alloc (Nat.le_refl _) _⟩
  · skip
    go_enter Tryz.func10, Tryz.ntmps10
    go_wp2
    go_ret
    exact ⟨ret_bool (by rw [HR.out]; first | exact (decide_eq_true (by omega)).symm | exact (decide_eq_false (by omega)).symm), (Below.refl _ _).alloc (Nat.le_refl _) _⟩
end Go.Proofs.YtpdledjgbgalcaaGreatDoor
