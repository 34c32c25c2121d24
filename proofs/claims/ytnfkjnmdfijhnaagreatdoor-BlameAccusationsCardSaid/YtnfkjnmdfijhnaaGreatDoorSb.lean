/- The reference: EncodeAccusation. -/
import Derived.Test.YtnfkjnmdfijhnaaGreatDoorSa
namespace Go.Proofs.YtnfkjnmdfijhnaaGreatDoor
open Go.RowKit Go.Lib
set_option linter.unusedVariables false
set_option linter.unusedSimpArgs false

theorem encRc_byt (r : Rcp) (ps qs rs : List ByteArray) : Byt (encRc r ps qs rs) := by
  have hL : ∀ ys : List ByteArray, Byt (encLs ys) := fun ys => by
    unfold encLs
    refine Byt.app (enc_rng _) ?_
    intro b hb
    obtain ⟨x, _, h⟩ := List.mem_flatMap.1 hb
    exact sB_rng x b h
  unfold encRc encSg
  exact Byt.app (Byt.app (enc_rng _) (Byt.app (enc_rng _) (Byt.app (sB_rng _) (Byt.app (enc_rng _) (Byt.app (enc_rng _) (Byt.app (enc_rng _) (enc_rng _))))))) (Byt.app (enc_rng _) (Byt.app (enc_rng _) (Byt.app (hL _) (Byt.app (sB_rng _) (Byt.app (enc_rng _) (Byt.app (hL _) (hL _)))))))
set_option maxRecDepth 100000 in
set_option maxHeartbeats 16000000 in
theorem reac_any (r : Rcp) (ps qs rs : List ByteArray) (st : ByteArray) (ix : Nat) (no an : ByteArray) (B : Nat) (w : World) (hx : RcIn w B r ps qs rs) (hB : B ≤ w.heap.size) (hv : vaB r ps qs rs = true) (h1 : st.size = 32) (h2 : ix ≤ 15) (h3 : no.size = 32) (h4 : an.size = 32) :
    Calls Tryz.prog 24 #[.agg (cR r), .agg #[.string st, .int .i64 (ix : Int), .string no, .string an]] w (Slc fB (encAc r ps qs rs st ix no an) w) := by
  have hlr := encRc_len hv
  obtain ⟨L, hL⟩ : ∃ L, L = encRc r ps qs rs := ⟨_, rfl⟩
  have HFE : Hid (([vB (baOf L), vS st, vN ix, vS no, vS an] : List Vl).flatMap encR = encAc r ps qs rs st ix no an) := by
    show _ = _
    have hb : ∀ b ∈ L, 0 ≤ b ∧ b < 256 := by rw [hL]; exact encRc_byt r ps qs rs
    unfold encAc
    rw [← hL]
    simp only [List.flatMap_cons, List.flatMap_nil, encR_B, encR_S, encR_N, baOf_size, baOf_sB hb, List.append_nil, List.append_assoc, Int.toNat_natCast]
  rw [← hL] at hlr
  have HOK : Hid (∀ x ∈ ([vB (baOf L), vS st, vN ix, vS no, vS an] : List Vl), VlOk x) := fun x hx' => by
    simp only [List.mem_cons, List.not_mem_nil, or_false] at hx'
    rcases hx' with rfl | rfl | rfl | rfl | rfl
    · exact vlOk_B (by rw [baOf_size]; omega)
    · exact vlOk_S h1
    · exact vlOk_N ⟨by omega, by omega⟩
    · exact vlOk_S h3
    · exact vlOk_S h4
  have HLE : Hid ((([vB (baOf L), vS st, vN ix, vS no, vS an] : List Vl).flatMap encR).length ≤ 1048576) := by
    show _ ≤ _
    rw [HFE.out]
    unfold encAc
    rw [← hL]
    have e1 := enc_len L.length
    have e2 := enc_len ix
    have e3 := sB_len st
    have e4 := sB_len no
    have e5 := sB_len an
    simp only [List.length_append]
    omega
  obtain ⟨W1, hW1⟩ : ∃ W1 : World, W1 = (w.alloc (.cells (cR r) tR)).alloc (.cells #[.string st, .int .i64 (ix : Int), .string no, .string an] 37) := ⟨_, rfl⟩
  have hb1 : Below w.heap.size w W1 := by rw [hW1]; exact ((Below.refl _ _).alloc (Nat.le_refl _) _).alloc (by simp) _
  have hc1 : W1.heap[w.heap.size]? = some (.cells (cR r) tR (0, 0)) := by rw [hW1, Below.heap_alloc _ _ _ (by simp)]; exact heap_alloc_new w _
  have hc2 : W1.heap[w.heap.size + 1]? = some (.cells #[.string st, .int .i64 (ix : Int), .string no, .string an] 37 (0, 0)) := by
    rw [hW1]
    have := heap_alloc_new (w.alloc (.cells (cR r) tR)) (.cells #[.string st, .int .i64 (ix : Int), .string no, .string an] 37)
    simpa using this
  have HCB : Hid (∀ V, Below W1.heap.size W1 V → V.cell? ⟨w.heap.size, 0, none⟩ = some (.int .i64 r.hd) ∧ V.cell? ⟨w.heap.size, 1, none⟩ = some (.int .i64 r.vt) ∧ V.cell? ⟨w.heap.size, 2, none⟩ = some (.string r.s) ∧ V.cell? ⟨w.heap.size, 3, none⟩ = some (.int .i64 r.ix) ∧ V.cell? ⟨w.heap.size, 4, none⟩ = some (.int .i64 r.sz) ∧ V.cell? ⟨w.heap.size, 5, none⟩ = some (.int .i64 r.dy) ∧ V.cell? ⟨w.heap.size, 6, none⟩ = some (.int .i64 r.sr) ∧ V.cell? ⟨w.heap.size, 7, none⟩ = some (.int .i64 r.ct) ∧ V.cell? ⟨w.heap.size, 8, none⟩ = some (.int .i64 r.pl) ∧ V.cell? ⟨w.heap.size, 9, none⟩ = some (.string r.rt) ∧ V.cell? ⟨w.heap.size, 10, none⟩ = some (.slice r.pa.a r.pa.n r.pa.c) ∧ V.cell? ⟨w.heap.size, 11, none⟩ = some (.int .i64 r.si) ∧ V.cell? ⟨w.heap.size, 12, none⟩ = some (.slice r.pb.a r.pb.n r.pb.c) ∧ V.cell? ⟨w.heap.size, 13, none⟩ = some (.slice r.pc.a r.pc.n r.pc.c) ∧ V.cell? ⟨w.heap.size + 1, 0, none⟩ = some (.string st) ∧ V.cell? ⟨w.heap.size + 1, 1, none⟩ = some (.int .i64 (ix : Int)) ∧ V.cell? ⟨w.heap.size + 1, 2, none⟩ = some (.string no) ∧ V.cell? ⟨w.heap.size + 1, 3, none⟩ = some (.string an)) := fun V hb => by
    have q1 := (hb.block _ (lt_of_block hc1)).trans hc1
    have q2 := (hb.block _ (lt_of_block hc2)).trans hc2
    refine ⟨?_, ?_, ?_, ?_, ?_, ?_, ?_, ?_, ?_, ?_, ?_, ?_, ?_, ?_, ?_, ?_, ?_, ?_⟩
    all_goals first
      | (rw [cell_of_row V _ _ _ _ _ q1]; rfl)
      | (rw [cell_of_row V _ _ _ _ _ q2]; rfl)
  have HSE : Hid (∀ V, Below W1.heap.size W1 V → Calls Tryz.prog 66 #[.agg #[.int .i64 r.hd, .int .i64 r.vt, .string r.s, .int .i64 r.ix, .int .i64 r.sz, .int .i64 r.dy, .int .i64 r.sr, .int .i64 r.ct, .int .i64 r.pl, .string r.rt, .slice r.pa.a r.pa.n r.pa.c, .int .i64 r.si, .slice r.pb.a r.pb.n r.pb.c, .slice r.pc.a r.pc.n r.pc.c]] V (Slc fB L V)) := fun V hb => by
    have := senc_any r ps qs rs B V (hx.up (hb1.trans (hb.mono hb1.size)) hB) (Nat.le_trans hB (Nat.le_trans hb1.size hb.size)) hv
    rw [hL]; exact this
  have Hix : Hid (0 ≤ (ix : Int) ∧ (ix : Int) ≤ 9223372036854775807) := by show _ ∧ _; omega
  have HB1 := Lib.hid hb1
  have HWE := Lib.hid hW1
  have HB : Hid (Below W1.heap.size W1 W1) := Below.refl _ _
  clear hb1 hc1 hc2 hW1 hx hB hv h1 h2 h3 h4 hL hlr
  show Calls Tryz.prog 24 #[.agg #[.int .i64 r.hd, .int .i64 r.vt, .string r.s, .int .i64 r.ix, .int .i64 r.sz, .int .i64 r.dy, .int .i64 r.sr, .int .i64 r.ct, .int .i64 r.pl, .string r.rt, .slice r.pa.a r.pa.n r.pa.c, .int .i64 r.si, .slice r.pb.a r.pb.n r.pb.c, .slice r.pc.a r.pc.n r.pc.c], .agg #[.string st, .int .i64 (ix : Int), .string no, .string an]] w _
  go_enter Tryz.func24, Tryz.ntmps24
  go_upto_region 1 with fail
  rw [← HWE.out]
  obtain ⟨k0, k1, k2, k3, k4, k5, k6, k7, k8, k9, k10, k11, k12, k13, k14, k15, k16, k17⟩ := HCB.out _ HB.out
  go_region_held3 (fun w' => w'.cell? ⟨w.heap.size, 0, none⟩ = some (.int .i64 r.hd) ∧ w'.cell? ⟨w.heap.size, 1, none⟩ = some (.int .i64 r.vt) ∧ w'.cell? ⟨w.heap.size, 2, none⟩ = some (.string r.s) ∧ w'.cell? ⟨w.heap.size, 3, none⟩ = some (.int .i64 r.ix) ∧ w'.cell? ⟨w.heap.size, 4, none⟩ = some (.int .i64 r.sz) ∧ w'.cell? ⟨w.heap.size, 5, none⟩ = some (.int .i64 r.dy) ∧ w'.cell? ⟨w.heap.size, 6, none⟩ = some (.int .i64 r.sr) ∧ w'.cell? ⟨w.heap.size, 7, none⟩ = some (.int .i64 r.ct) ∧ w'.cell? ⟨w.heap.size, 8, none⟩ = some (.int .i64 r.pl) ∧ w'.cell? ⟨w.heap.size, 9, none⟩ = some (.string r.rt) ∧ w'.cell? ⟨w.heap.size, 10, none⟩ = some (.slice r.pa.a r.pa.n r.pa.c) ∧ w'.cell? ⟨w.heap.size, 11, none⟩ = some (.int .i64 r.si) ∧ w'.cell? ⟨w.heap.size, 12, none⟩ = some (.slice r.pb.a r.pb.n r.pb.c) ∧ w'.cell? ⟨w.heap.size, 13, none⟩ = some (.slice r.pc.a r.pc.n r.pc.c) ∧ w'.cell? ⟨w.heap.size + 1, 0, none⟩ = some (.string st) ∧ w'.cell? ⟨w.heap.size + 1, 1, none⟩ = some (.int .i64 (ix : Int)) ∧ w'.cell? ⟨w.heap.size + 1, 2, none⟩ = some (.string no) ∧ w'.cell? ⟨w.heap.size + 1, 3, none⟩ = some (.string an)) (first | exact HCB.out _ HB.out | exact HCB.out _ HB9.out | go_keep) (first
      | (go_at_call 66; (refine (HSE.out _ ?_).mono ?_); (exact (by repeat (first | exact HB.out | refine Below.drew ?_ | refine below_drewN' ?_ _))); rintro e W5 ⟨A5, n5, c5, rfl, hc5, hs5, b6⟩; (have HS5 := Lib.hid hs5); (have HB := Lib.hid (HB.out.trans (Below.mono (Below.trans (by repeat (first | exact Below.refl _ _ | refine Below.drew ?_ | refine below_drewN' ?_ _)) b6) HB.out.size))); clear b6; clear hc5 hs5)
      | (go_at_call 47; (refine (rbytes_any A5 n5 c5 W5.heap.size L _ ?_ ?_).mono ?_); (exact HS5.out); (exact Nat.le_refl _); rintro e W6 ⟨rfl, b6⟩; (have HB := Lib.hid (HB.out.trans (Below.mono (Below.trans (by repeat (first | exact Below.refl _ _ | refine Below.drew ?_ | refine below_drewN' ?_ _)) b6) HB.out.size))); clear b6)
      | (go_at_call 46; (with_reducible (refine (rsumv_any st _).mono ?_)); rintro e W6 ⟨rfl, b6⟩; (have HB := Lib.hid (HB.out.trans (Below.mono (Below.trans (by repeat (first | exact Below.refl _ _ | refine Below.drew ?_ | refine below_drewN' ?_ _)) b6) HB.out.size))); clear b6)
      | (go_at_call 45; (with_reducible (refine (rnumber_any (ix : Int) _ Hix.out.1 Hix.out.2).mono ?_)); rintro e W6 ⟨rfl, b6⟩; (have HB := Lib.hid (HB.out.trans (Below.mono (Below.trans (by repeat (first | exact Below.refl _ _ | refine Below.drew ?_ | refine below_drewN' ?_ _)) b6) HB.out.size))); clear b6)
      | (go_at_call 46; (with_reducible (refine (rsumv_any no _).mono ?_)); rintro e W6 ⟨rfl, b6⟩; (have HB := Lib.hid (HB.out.trans (Below.mono (Below.trans (by repeat (first | exact Below.refl _ _ | refine Below.drew ?_ | refine below_drewN' ?_ _)) b6) HB.out.size))); clear b6)
      | (go_at_call 46; (with_reducible (refine (rsumv_any an _).mono ?_)); rintro e W6 ⟨rfl, b6⟩; (have HB := Lib.hid (HB.out.trans (Below.mono (Below.trans (by repeat (first | exact Below.refl _ _ | refine Below.drew ?_ | refine below_drewN' ?_ _)) b6) HB.out.size))); clear b6)
      | (go_at_call 48; (refine (rencode_any [vB (baOf L), vS st, vN ix, vS no, vS an] _ 5 5 _ ((new_rows rfl rfl).more (by simp)) HOK.out HLE.out (by decide)).mono ?_); rintro e W9 ⟨v9, rfl, ho9, b9⟩; (have HO9 := Lib.hid ho9); (have HB9 : Hid (Below W1.heap.size W1 W9) := (HB.out.alloc HB.out.size _).trans (b9.mono (HB.out.alloc HB.out.size _).size)); clear ho9 b9))
  clear k0 k1 k2 k3 k4 k5 k6 k7 k8 k9 k10 k11 k12 k13 k14 k15 k16 k17
  rw [HFE.out] at HO9
  obtain ⟨A9, c9, hv9, hc9, hs9, _⟩ := HO9.out.shape
  obtain ⟨N9, hN9⟩ : ∃ N, (encAc r ps qs rs st ix no an).length = N := ⟨_, rfl⟩
  rw [hN9] at hv9 hc9
  have HS9 : Hid (Sl fB W9 W9.heap.size A9 N9 (encAc r ps qs rs st ix no an)) := ⟨hN9, hs9⟩
  have HC9 := Lib.hid hc9
  subst hv9
  clear hs9 hN9 hc9 HO9
  go_wp2_with fail
  go_ret
  exact ⟨A9, N9, c9, rfl, HC9.out, HS9.out, HB1.out.trans (HB9.out.mono HB1.out.size)⟩
end Go.Proofs.YtnfkjnmdfijhnaaGreatDoor
