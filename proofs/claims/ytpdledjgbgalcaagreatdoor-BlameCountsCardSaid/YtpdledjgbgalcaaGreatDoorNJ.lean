/- The reference's leaf of a receipt, digest of a batch. -/
import Derived.Test.YtpdledjgbgalcaaGreatDoorPi
import Derived.Test.YtpdledjgbgalcaaGreatDoorPd
namespace Go.Proofs.YtpdledjgbgalcaaGreatDoor
open Go.RowKit Go.Lib
set_option linter.unusedVariables false
set_option linter.unusedSimpArgs false
/-- A receipt whose numbers are natural. -/
theorem rc_nat {r : Rcp} {ps qs rs : List ByteArray} (hv : vaB r ps qs rs = true) : ∃ hd vt ix sz dy sr : Nat, r = ⟨hd, vt, r.s, ix, sz, dy, sr, r.ct, r.pl, r.rt, r.pa, r.si, r.pb, r.pc⟩ ∧ hd ≤ 11 ∧ vt ≤ 11 ∧ r.s.size = 32 ∧ ix ≤ 15 ∧ sz ≤ 65536 ∧ dy ≤ 999999 ∧ sr ≤ 1099511627776 := by
  obtain ⟨y0, y1, y2, y3, y4, y5, y6, _⟩ := vaB_facts hv
  obtain ⟨hd, vt, s, ix, sz, dy, sr, ct, pl, rt, pa, si, pb, pc⟩ := r
  dsimp only at y0 y1 y2 y3 y4 y5 y6 ⊢
  refine ⟨hd.toNat, vt.toNat, ix.toNat, sz.toNat, dy.toNat, sr.toNat, ?_, by omega, by omega, y2, by omega, by omega, by omega, by omega⟩
  congr 1 <;> omega
theorem vlOk_G {hd vt ix sz dy sr : Nat} {s : ByteArray} (hs : s.size = 32) (h : hd ≤ 11 ∧ vt ≤ 11 ∧ ix ≤ 15 ∧ sz ≤ 65536 ∧ dy ≤ 999999 ∧ sr ≤ 1099511627776) : ∀ x ∈ vlG hd vt s ix sz dy sr, VlOk x := fun x hx => by
  obtain ⟨h0, h1, h2, h3, h4, h5⟩ := h
  unfold vlG at hx
  simp only [List.mem_cons, List.not_mem_nil, or_false] at hx
  rcases hx with rfl | rfl | rfl | rfl | rfl | rfl | rfl
  · exact vlOk_N ⟨by omega, by omega⟩
  · exact vlOk_N ⟨by omega, by omega⟩
  · exact vlOk_S hs
  · exact vlOk_N ⟨by omega, by omega⟩
  · exact vlOk_N ⟨by omega, by omega⟩
  · exact vlOk_N ⟨by omega, by omega⟩
  · exact vlOk_N ⟨by omega, by omega⟩
set_option maxRecDepth 100000 in
set_option maxHeartbeats 8000000 in
theorem rsigned_any (r : Rcp) (ps qs rs : List ByteArray) (w : World) (hv : vaB r ps qs rs = true) :
    Calls Tryz.prog 158 #[.agg (cR r)] w fun e w' => ∃ A n c, e = .returned (.slice A n c) ∧ n ≤ c ∧ Sl fB w' w'.heap.size A n (encS r) ∧ Below w.heap.size w w' := by
  obtain ⟨hd, vt, ix, sz, dy, sr, hr, g0, g1, g2, g3, g4, g5, g6⟩ := rc_nat hv
  rw [hr]
  obtain ⟨hd0, vt0, s, ix0, sz0, dy0, sr0, ct, pl, rt, pa, si, pb, pc⟩ := r
  dsimp only at g2 ⊢
  clear hr hv
  obtain ⟨W1, hW1⟩ : ∃ W1 : World, W1 = w.alloc (.cells (cR ⟨hd, vt, s, ix, sz, dy, sr, ct, pl, rt, pa, si, pb, pc⟩) tR) := ⟨_, rfl⟩
  have hb1 : Below w.heap.size w W1 := by rw [hW1]; exact (Below.refl _ _).alloc (Nat.le_refl _) _
  have hc1 : W1.heap[w.heap.size]? = some (.cells (cR ⟨hd, vt, s, ix, sz, dy, sr, ct, pl, rt, pa, si, pb, pc⟩) tR (0, 0)) := by rw [hW1]; exact heap_alloc_new w _
  have HWE := Lib.hid hW1
  have HB1 := Lib.hid hb1
  have HR1 := Lib.hid (rangeR hc1)
  have HSG := Lib.hid (ssigned_any hd vt ix sz dy sr s rt ct pl si pa pb pc W1 (by omega))
  have HOK := Lib.hid (vlOk_G g2 ⟨g0, g1, g3, g4, g5, g6⟩)
  have hfl := flat_G hd vt s ix sz dy sr
  have hln := encSg_len hd vt ix sz dy sr s g2
  have HEN : Hid (∀ V A c, SlN fVl 6 V V.heap.size A 7 (vlG hd vt s ix sz dy sr) → Calls Tryz.prog 128 #[.slice A 7 c] V fun e w' => ∃ v, e = .returned (.tuple #[v, .int .i64 0]) ∧ Own fB 5 w' V.heap.size v (encSg hd vt s ix sz dy sr) ∧ Below V.heap.size V w') := fun V A c h => by
    have := rencode_any _ A 7 c V h HOK.out (by rw [hfl]; omega) (by omega)
    rw [hfl] at this
    exact this
  have HES : Hid (encS ⟨hd, vt, s, ix, sz, dy, sr, ct, pl, rt, pa, si, pb, pc⟩ = encSg hd vt s ix sz dy sr) := rfl
  rw [HES.out]
  rw [hW1] at HSG
  clear g0 g1 g2 g3 g4 g5 g6 hfl hln hW1 hb1 hc1
  go_enter Tryz.func158, Tryz.ntmps158
  go_wp2_with (first
    | (with_reducible refine wpList_load_mid (op := ⟨some 6, _, _, _, _, _⟩) rfl tR (.tmp 1) rfl w.heap.size 0 rfl (cR ⟨hd, vt, s, ix, sz, dy, sr, ct, pl, rt, pa, si, pb, pc⟩).toList _ (by rw [← HWE.out]; exact HR1.out) Tryz.underlying35 rfl (sizeRL ⟨hd, vt, s, ix, sz, dy, sr, ct, pl, rt, pa, si, pb, pc⟩) ?_)
    | (go_at_call 188; (with_reducible refine HSG.out.mono ?_); rintro e w2 ⟨u, rfl, hva⟩; (obtain ⟨Af, cf, hu, hcf, hrow⟩ := hva.row); (have hb2 := hva.2); (rw [← HWE.out] at hb2); (have HB2 := Lib.hid (HB1.out.trans (hb2.mono HB1.out.size))); (have HCE := Lib.hid (HEN.out w2 Af cf hrow)); (rw [show (vlG hd vt s ix sz dy sr).length = 7 from rfl] at hu); subst hu; clear hrow hva hcf hb2)
    | (go_at_call 128; (with_reducible refine HCE.out.mono ?_); rintro e w9 ⟨v9, rfl, ho9, hb9⟩; (obtain ⟨A9, c9, hv9, hc9, hs9, _⟩ := ho9.shape); (obtain ⟨N9, hN9⟩ : ∃ N, (encSg hd vt s ix sz dy sr).length = N := ⟨_, rfl⟩); (rw [hN9] at hv9 hc9); (have HS9 : Hid (Sl fB w9 w9.heap.size A9 N9 (encSg hd vt s ix sz dy sr)) := ⟨hN9, hs9⟩); (have HB9 := Lib.hid hb9); (have HC9 := Lib.hid hc9); subst hv9; clear ho9 hs9 hb9 hN9 hc9))
  go_ret
  exact ⟨A9, N9, c9, rfl, HC9.out, HS9.out, HB2.out.trans (HB9.out.mono HB2.out.size)⟩
set_option maxRecDepth 100000 in
set_option maxHeartbeats 8000000 in
theorem rcleaf_any (r : Rcp) (ps qs rs : List ByteArray) (w : World) (hv : vaB r ps qs rs = true) :
    Calls Tryz.prog 96 #[.agg (cR r)] w fun e w' => e = .returned (.string (leafS (encS r))) ∧ Below w.heap.size w w' := by
  obtain ⟨W1, hW1⟩ : ∃ W1 : World, W1 = w.alloc (.cells (cR r) tR) := ⟨_, rfl⟩
  have hb1 : Below w.heap.size w W1 := by rw [hW1]; exact (Below.refl _ _).alloc (Nat.le_refl _) _
  have hc1 : W1.heap[w.heap.size]? = some (.cells (cR r) tR (0, 0)) := by rw [hW1]; exact heap_alloc_new w _
  have HWE := Lib.hid hW1
  have HB1 := Lib.hid hb1
  have HR1 := Lib.hid (rangeR hc1)
  have HSG := Lib.hid (rsigned_any r ps qs rs W1 hv)
  have hln : (encS r).length ≤ 92 := encSg_len _ _ _ _ _ _ _ (vaB_facts hv).2.2.1
  have hby : Byt (encS r) := encSg_byt _ _ _ _ _ _ _
  have HLF : Hid (∀ V A n c, Sl fB V V.heap.size A n (encS r) → Calls Tryz.prog 157 #[.slice A n c] V fun e w' => e = .returned (.string (leafS (encS r))) ∧ Below V.heap.size V w') := fun V A n c h =>
    rleaf_any A n c V.heap.size _ V h (Nat.le_refl _) (by have := h.1; omega) hby
  rw [hW1] at HSG
  clear hln hby hW1 hb1 hc1 hv
  go_enter Tryz.func96, Tryz.ntmps96
  go_wp2_with (first
    | (with_reducible refine wpList_load_mid (op := ⟨some 3, _, _, _, _, _⟩) rfl tR (.tmp 1) rfl w.heap.size 0 rfl (cR r).toList _ (by rw [← HWE.out]; exact HR1.out) Tryz.underlying35 rfl (sizeRL r) ?_)
    | (go_at_call 158; (with_reducible refine HSG.out.mono ?_); rintro e w2 ⟨A2, n2, c2, rfl, _, h2, b2⟩; (have HL2 := Lib.hid (HLF.out w2 A2 n2 c2 h2)); (have HB2 : Hid (Below w.heap.size w w2) := HB1.out.trans (Below.mono (by rw [← HWE.out] at b2; exact b2) HB1.out.size)); clear h2 b2)
    | (go_at_call 157; (with_reducible refine HL2.out.mono ?_); rintro e w3 ⟨rfl, b3⟩; (have HB3 : Hid (Below w.heap.size w w3) := HB2.out.trans (b3.mono HB2.out.size)); clear b3))
  go_ret
  exact ⟨rfl, HB3.out⟩
def vT (s : ByteArray) : Vl := ⟨5, 0, 0, false, s, 0⟩
abbrev rcT : ByteArray := ⟨#[114, 101, 99, 101, 105, 112, 116, 115]⟩
set_option maxRecDepth 100000 in
set_option maxHeartbeats 8000000 in
theorem rbatch_any (rt : ByteArray) (ct : Nat) (w : World) (hrt : rt.size = 32) (hct : ct ≤ 256) :
    Calls Tryz.prog 98 #[.string rt, .int .i64 ct] w fun e w' => e = .returned (.string (btS rt ct)) ∧ Below w.heap.size w w' := by
  have HS := Lib.hid (fun W => ssumv_any rt W)
  have HN := Lib.hid (fun W => snumber_any (ct : Int) W (by omega) (by omega))
  have hfl : [vT rcT, vS rt, vN ct].flatMap encR = encB rt ct := by
    show (enc 8 ++ [114, 101, 99, 101, 105, 112, 116, 115]) ++ (sB rt ++ (enc ct ++ [])) = _
    unfold encB
    rw [List.append_nil, List.append_assoc, List.append_assoc]
    simp only [List.append_assoc]
  have hok : ∀ x ∈ [vT rcT, vS rt, vN ct], VlOk x := fun x hx => by
    simp only [List.mem_cons, List.not_mem_nil, or_false] at hx
    rcases hx with rfl | rfl | rfl
    · exact .inr (.inr (.inl ⟨rfl, by decide⟩))
    · exact vlOk_S hrt
    · exact vlOk_N ⟨by omega, by omega⟩
  have hln := encB_len rt ct hrt
  have HEN : Hid (∀ V A c, SlN fVl 6 V V.heap.size A 3 [vT rcT, vS rt, vN ct] → Calls Tryz.prog 128 #[.slice A 3 c] V fun e w' => ∃ v, e = .returned (.tuple #[v, .int .i64 0]) ∧ Own fB 5 w' V.heap.size v (encB rt ct) ∧ Below V.heap.size V w') := fun V A c h => by
    have := rencode_any _ A 3 c V h hok (by rw [hfl]; omega) (by omega)
    rw [hfl] at this
    exact this
  have HSU : Hid (∀ (V : World) A' n' c', Sl fB V V.heap.size A' n' (encB rt ct) → Calls Tryz.prog 123 #[.slice A' n' c'] V fun e w' => e = .returned (.string (btS rt ct)) ∧ Below V.heap.size V w') := fun V A' n' c' hs =>
    rsum_any A' n' c' V.heap.size _ V hs (Nat.le_refl _) (by have := hs.1; omega) (encB_byt rt ct)
  clear hfl hok hln hrt hct
  go_enter Tryz.func98, Tryz.ntmps98
  go_wp2_with (first
    | (go_at_call 163; (with_reducible refine (HS.out _).mono ?_); rintro e w1 ⟨rfl, b1⟩; (have HB1 := Lib.hid b1); clear b1)
    | (go_at_call 164; (with_reducible refine (HN.out _).mono ?_); rintro e w2 ⟨rfl, b2⟩; (have HB2 := Lib.hid (HB1.out.trans (b2.mono HB1.out.size))); clear b2; (have HCE := Lib.hid (HEN.out (w2.alloc (.cells #[.int .i64 5, .int .u64 0, .int .i64 0, .bool false, .string ⟨#[114, 101, 99, 101, 105, 112, 116, 115]⟩, .int .i64 0, .int .i64 (vS rt).kind, .int .u64 (vS rt).u, .int .i64 (vS rt).n, .bool (vS rt).b, .string (vS rt).s, .int .i64 (vS rt).most, .int .i64 (vN ct).kind, .int .u64 (vN ct).u, .int .i64 (vN ct).n, .bool (vN ct).b, .string (vN ct).s, .int .i64 (vN ct).most] tVl)) (some ⟨w2.heap.size, 0, none⟩) 3 (SlN.of_rows (xs := [vT rcT, vS rt, vN ct]) fVl_len (heap_alloc_new _ _) rfl (by simp) rfl))))
    | (go_at_call 128; (with_reducible refine HCE.out.mono ?_); rintro e w9 ⟨v9, rfl, ho9, hb9⟩; (obtain ⟨A9, c9, hv9, hc9, hs9, _⟩ := ho9.shape); (obtain ⟨N9, hN9⟩ : ∃ N, (encB rt ct).length = N := ⟨_, rfl⟩); (rw [hN9] at hv9); (have HSS := Lib.hid (HSU.out w9 A9 N9 c9 ⟨hN9, hs9⟩)); (have HB9 : Hid (Below w.heap.size w w9) := (HB2.out.alloc HB2.out.size _).trans (hb9.mono (by have := HB2.out.size; simp; omega))); subst hv9; clear ho9 hb9 hN9 hc9 hs9)
    | (go_at_call 123; (with_reducible refine HSS.out.mono ?_); rintro e w10 ⟨rfl, hb10⟩; (have HB10 := Lib.hid (HB9.out.trans (hb10.mono HB9.out.size))); clear hb10))
  go_ret
  exact ⟨rfl, HB10.out⟩
end Go.Proofs.YtpdledjgbgalcaaGreatDoor
