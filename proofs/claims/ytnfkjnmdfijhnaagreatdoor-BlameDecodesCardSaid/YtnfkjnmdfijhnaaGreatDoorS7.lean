/- receipt.Encode. -/
import Derived.Test.YtnfkjnmdfijhnaaGreatDoorS4
import Derived.Test.YtnfkjnmdfijhnaaGreatDoorS6
namespace Go.Proofs.YtnfkjnmdfijhnaaGreatDoor
open Go.RowKit Go.Lib
set_option linter.unusedVariables false
set_option linter.unusedSimpArgs false

/-- A receipt, encoded. -/
def encRc (r : Rcp) (ps qs rs : List ByteArray) : List Int :=
  encSg r.hd.toNat r.vt.toNat r.s r.ix.toNat r.sz.toNat r.dy.toNat r.sr.toNat ++ (enc r.ct.toNat ++ (enc r.pl.toNat ++ (encLs ps ++ (sB r.rt ++ (enc r.si.toNat ++ (encLs qs ++ encLs rs))))))
theorem encLs_len {ys : List ByteArray} (h : ∀ z ∈ ys, z.size = 32) : (encLs ys).length ≤ 10 + 32 * ys.length := by
  unfold encLs
  have h1 := enc_len ys.length
  rw [List.length_append, flat_len32 h]
  omega
theorem encSg_len (hd vt ix sz dy sr : Nat) (s : ByteArray) (hs : s.size = 32) : (encSg hd vt s ix sz dy sr).length ≤ 92 := by
  unfold encSg
  have h1 := enc_len hd
  have h2 := enc_len vt
  have h3 := enc_len ix
  have h4 := enc_len sz
  have h5 := enc_len dy
  have h6 := enc_len sr
  have h7 := sB_len s
  simp only [List.length_append]
  omega
theorem vaB_facts {r : Rcp} {ps qs rs : List ByteArray} (h : vaB r ps qs rs = true) : (0 ≤ r.hd ∧ r.hd ≤ 11) ∧ (0 ≤ r.vt ∧ r.vt ≤ 11) ∧ r.s.size = 32 ∧ (0 ≤ r.ix ∧ r.ix ≤ 15) ∧ (1 ≤ r.sz ∧ r.sz ≤ 65536) ∧ (0 ≤ r.dy ∧ r.dy ≤ 999999) ∧ (0 ≤ r.sr ∧ r.sr ≤ 1099511627776) ∧ (1 ≤ r.ct ∧ r.ct ≤ 256) ∧ (0 ≤ r.pl ∧ r.pl ≤ r.ct - 1) ∧ r.rt.size = 32 ∧ (ps.length ≤ 8 ∧ ∀ z ∈ ps, z.size = 32) ∧ (rs.length ≤ 8 ∧ ∀ z ∈ rs, z.size = 32) ∧ (qs.length ≤ 300 ∧ ∀ z ∈ qs, z.size = 32) ∧ (0 ≤ r.si ∧ r.si ≤ 255) := by
  unfold vaB pvB rgB arB at h
  simp only [Bool.and_eq_true, decide_eq_true_eq] at h
  obtain ⟨a1, ⟨a2, a3, a4, a5⟩, a6, a7, a8, a9, a10, ⟨a11, a12⟩, ⟨a13, a14⟩, ⟨a15, a16⟩, a17⟩ := h
  exact ⟨a1, a2, a3, a4, a5, a6, a7, a8, a9, a10, ⟨a11, sumsB_iff.1 a12⟩, ⟨a13, sumsB_iff.1 a14⟩, ⟨a15, sumsB_iff.1 a16⟩, a17⟩
def REPost (r : Rcp) (ps qs rs : List ByteArray) (w : World) (e : Ending) (w' : World) : Prop :=
  (vaB r ps qs rs = true ∧ Slc2 fB (encRc r ps qs rs) 0 w e w') ∨ (vaB r ps qs rs = false ∧ e = .returned (.tuple #[.slice none 0 0, .int .i64 1]) ∧ Below w.heap.size w w')
set_option maxRecDepth 100000 in
set_option maxHeartbeats 16000000 in
theorem renc_any (r : Rcp) (ps qs rs : List ByteArray) (B : Nat) (w : World) (hx : RcIn w B r ps qs rs) (hB : B ≤ w.heap.size) :
    Calls Tryz.prog 61 #[.agg (cR r)] w (REPost r ps qs rs w) := by
  obtain ⟨W1, hW1⟩ : ∃ W1 : World, W1 = w.alloc (.cells (cR r) tR) := ⟨_, rfl⟩
  have hb1 : Below w.heap.size w W1 := by rw [hW1]; exact (Below.refl _ _).alloc (Nat.le_refl _) _
  have hs1 : W1.heap.size = w.heap.size + 1 := by rw [hW1]; simp
  have hc1 : W1.heap[w.heap.size]? = some (.cells (cR r) tR (0, 0)) := by rw [hW1]; exact heap_alloc_new w _
  have HV := Lib.hid (valid_any r ps qs rs B W1 (hx.up hb1 hB) (Nat.le_trans hB hb1.size))
  have HX := Lib.hid hx
  have HBB := Lib.hid hB
  have HB1 := Lib.hid hb1
  have HS1 := Lib.hid hs1
  have HC1 := Lib.hid hc1
  have HWE := Lib.hid hW1
  rw [hW1] at HV
  have HR1 := Lib.hid (rangeR hc1)
  clear hx hB hb1 hs1 hc1 hW1
  unfold REPost
  cases hv : vaB r ps qs rs
  · rw [hv] at HV
    clear hv
    go_enter Tryz.func61, Tryz.ntmps61
    go_wp2_with (first
      | (with_reducible refine wpList_load_mid (op := ⟨some 5, _, _, _, _, _⟩) rfl tR (.tmp 1) rfl w.heap.size 0 rfl (cR r).toList _ (by rw [← HWE.out]; exact HR1.out) Tryz.underlying35 rfl (sizeRL r) ?_)
      | (go_at_call 93; (with_reducible refine HV.out.mono ?_); rintro e W2 ⟨rfl, b⟩
         rw [← HWE.out] at b
         have B2 := Lib.hid b
         clear b))
    go_ret2
    exact .inr ⟨by first | trivial | rfl, rfl, HB1.out.trans (B2.out.mono HB1.out.size)⟩
  · rw [hv] at HV
    obtain ⟨y0, y1, y2, y3, y4, y5, y6, y7, y8, y9, ⟨y10, y11⟩, ⟨y12, y13⟩, ⟨y14, y15⟩, y16⟩ := vaB_facts hv
    obtain ⟨hd, vt, s, ix, sz, dy, sr, ct, pl, rt, pa, si, pb, pc⟩ := r
    dsimp only at y0 y1 y2 y3 y4 y5 y6 y7 y8 y9 y16
    obtain ⟨hd, rfl⟩ : ∃ k : Nat, hd = k := ⟨hd.toNat, by omega⟩
    obtain ⟨vt, rfl⟩ : ∃ k : Nat, vt = k := ⟨vt.toNat, by omega⟩
    obtain ⟨ix, rfl⟩ : ∃ k : Nat, ix = k := ⟨ix.toNat, by omega⟩
    obtain ⟨sz, rfl⟩ : ∃ k : Nat, sz = k := ⟨sz.toNat, by omega⟩
    obtain ⟨dy, rfl⟩ : ∃ k : Nat, dy = k := ⟨dy.toNat, by omega⟩
    obtain ⟨sr, rfl⟩ : ∃ k : Nat, sr = k := ⟨sr.toNat, by omega⟩
    obtain ⟨ct, rfl⟩ : ∃ k : Nat, ct = k := ⟨ct.toNat, by omega⟩
    obtain ⟨pl, rfl⟩ : ∃ k : Nat, pl = k := ⟨pl.toNat, by omega⟩
    obtain ⟨si, rfl⟩ : ∃ k : Nat, si = k := ⟨si.toNat, by omega⟩
    have HY1 := Lib.hid y11
    have HY2 := Lib.hid y13
    have HY3 := Lib.hid y15
    have e1 := encSg_len hd vt ix sz dy sr s y2
    have e2 := enc_len ct
    have e3 := enc_len pl
    have e4 := encLs_len y11
    have e5 : (sB rt).length = 32 := (sB_len rt).trans y9
    have e6 := enc_len si
    have e7 := encLs_len y15
    have e8 := encLs_len y13
    have p1 : pa.n ≤ 8 := by have := HX.out.1.1; dsimp only at this; omega
    have p2 : pb.n ≤ 300 := by have := HX.out.2.1.1; dsimp only at this; omega
    have p3 : pc.n ≤ 8 := by have := HX.out.2.2.1; dsimp only at this; omega
    clear hv y11 y13 y15
    go_enter Tryz.func61, Tryz.ntmps61
    go_upto_region 3 with (first
      | (with_reducible refine wpList_load_mid (op := ⟨some 5, _, _, _, _, _⟩) rfl tR (.tmp 1) rfl w.heap.size 0 rfl (cR ⟨hd, vt, s, ix, sz, dy, sr, ct, pl, rt, pa, si, pb, pc⟩).toList _ (by rw [← HWE.out]; exact HR1.out) Tryz.underlying35 rfl (sizeRL ⟨hd, vt, s, ix, sz, dy, sr, ct, pl, rt, pa, si, pb, pc⟩) ?_)
      | (go_at_call 93; (with_reducible refine HV.out.mono ?_); rintro e W2 ⟨rfl, b⟩
         rw [← HWE.out] at b
         have HB2 := Lib.hid b
         clear b))
    obtain ⟨g, hg⟩ : ∃ g, g = W2.heap.size := ⟨_, rfl⟩
    have hwg : w.heap.size + 1 ≤ g := by rw [hg, ← HS1.out]; exact HB2.out.size
    obtain ⟨W3, hW3⟩ : ∃ W3 : World, W3 = W2.alloc (.cells #[.slice none 0 0, .int .i64 0] 130) := ⟨_, rfl⟩
    have h23 : Below W2.heap.size W2 W3 := by rw [hW3]; exact (Below.refl _ _).alloc (Nat.le_refl _) _
    have h13 : Below W1.heap.size W1 W3 := HB2.out.trans (h23.mono HB2.out.size)
    have H0 : Hid (Wc g (g + 1) (.slice none 0 0) W3 [] W3) := by show Wc _ _ _ _ _ _; rw [hW3, hg]; exact Wc.start (Wr.new W2)
    have ka : W3.heap[w.heap.size]? = some (.cells (cR ⟨hd, vt, s, ix, sz, dy, sr, ct, pl, rt, pa, si, pb, pc⟩) tR (0, 0)) := (h13.block _ (by have := HS1.out; omega)).trans HC1.out
    have HCH : Hid (∀ bs V, Wc g (g + 1) (.slice none 0 0) W3 bs V → V.heap[w.heap.size]? = some (.cells (cR ⟨hd, vt, s, ix, sz, dy, sr, ct, pl, rt, pa, si, pb, pc⟩) tR (0, 0))) := fun bs V h => (h.keep (foot_new (B := w.heap.size + 1) hwg _ (by omega)) (lt_of_block ka)).trans ka
    have h03 : Below w.heap.size w W3 := HB1.out.trans (h13.mono HB1.out.size)
    have HXC : Hid (∀ bs V, Wc g (g + 1) (.slice none 0 0) W3 bs V → RcIn V B ⟨hd, vt, s, ix, sz, dy, sr, ct, pl, rt, pa, si, pb, pc⟩ ps qs rs ∧ B ≤ V.heap.size) := fun bs V h => by
      have hB3 := Nat.le_trans HBB.out h03.size
      have hf := foot_new (B := B) (g := g) (by have := HBB.out; omega)
      have hu := HX.out.up h03 HBB.out
      exact ⟨⟨h.sl hu.1 hB3 hf, h.sl hu.2.1 hB3 hf, h.sl hu.2.2 hB3 hf⟩, Nat.le_trans hB3 h.size⟩
    have HFT : Hid (∀ v', NewRow (.slice none 0 0) v' W3 → ∀ k, k < B → ¬ foot g v' k) := fun v' hn k hk => foot_still hn (foot_new (B := B) (by have := HBB.out; omega) k hk) (Nat.lt_of_lt_of_le (Nat.lt_of_lt_of_le hk HBB.out) h03.size)
    have HBW : Hid (∀ bs V, Wc g (g + 1) (.slice none 0 0) W3 bs V → Below w.heap.size w V) := fun bs V h => by
      obtain ⟨v1, _, hb, _⟩ := h
      exact h03.trans (hb.below h03.size (fun i hi => by
        rcases hi with rfl | hi
        · omega
        · cases hi))
    have HW3 := Lib.hid hW3
    have HG := Lib.hid hg
    clear hg hW3 h23 h13 ka h03
    go_wp2_with fail
    refine (newWriter_any W2).mono ?_
    rintro e V1 ⟨rfl, hV1⟩
    rw [← HW3.out] at hV1
    subst hV1
    rw [← HG.out]
    have hch := HCH.out _ _ H0.out
    have HR3 := Lib.hid (rangeR hch)
    have HC0 := Lib.hid (H0.out.step (P := Tryz.prog) (fun v' hv' _ => wsigned_any g (g + 1) v' _ hd vt ix sz dy sr s rt ct pl si pa pb pc W3 hv' y2 (by omega) (by simp)))
    clear hch
    go_wp2_with (first
      | (with_reducible refine wpList_load_mid (op := ⟨some 10, _, _, _, _, _⟩) rfl tR (.tmp 1) rfl w.heap.size 0 rfl (cR ⟨hd, vt, s, ix, sz, dy, sr, ct, pl, rt, pa, si, pb, pc⟩).toList _ HR3.out Tryz.underlying35 rfl (sizeRL ⟨hd, vt, s, ix, sz, dy, sr, ct, pl, rt, pa, si, pb, pc⟩) ?_)
      | (go_at_call 100; (with_reducible refine HC0.out.mono ?_)))
    rintro e V2 ⟨rfl, h2⟩
    obtain ⟨k0, k1, k2, k3, k4, k5, k6, k7, k8, k9, k10, k11, k12, k13⟩ := fourteen_of (HCH.out _ _ h2)
    have hxc := HXC.out _ _ h2
    have m1 : (ct : Int) % 18446744073709551616 = ct := by omega
    have m2 : (pl : Int) % 18446744073709551616 = pl := by omega
    have m3 : (si : Int) % 18446744073709551616 = si := by omega
    have HD0 := Lib.hid (h2.step (P := Tryz.prog) (fun v' hv' hn => wuint_any g (g + 1) v' _ ct V2 hv' (by omega) (by simp only [List.length_append, List.length_nil]; omega)))
    clear h2 hxc
    go_wp2_with fail
    refine HD0.out.mono ?_
    rintro e V3 ⟨rfl, h3⟩
    clear m1 m2 m3 k0 k1 k2 k3 k4 k5 k6 k7 k8 k9 k10 k11 k12 k13 HD0
    obtain ⟨k0, k1, k2, k3, k4, k5, k6, k7, k8, k9, k10, k11, k12, k13⟩ := fourteen_of (HCH.out _ _ h3)
    have hxc := HXC.out _ _ h3
    have m1 : (ct : Int) % 18446744073709551616 = ct := by omega
    have m2 : (pl : Int) % 18446744073709551616 = pl := by omega
    have m3 : (si : Int) % 18446744073709551616 = si := by omega
    have HD1 := Lib.hid (h3.step (P := Tryz.prog) (fun v' hv' hn => wuint_any g (g + 1) v' _ pl V3 hv' (by omega) (by simp only [List.length_append, List.length_nil]; omega)))
    clear h3 hxc
    go_wp2_with fail
    refine HD1.out.mono ?_
    rintro e V4 ⟨rfl, h4⟩
    clear m1 m2 m3 k0 k1 k2 k3 k4 k5 k6 k7 k8 k9 k10 k11 k12 k13 HD1
    obtain ⟨k0, k1, k2, k3, k4, k5, k6, k7, k8, k9, k10, k11, k12, k13⟩ := fourteen_of (HCH.out _ _ h4)
    have hxc := HXC.out _ _ h4
    have m1 : (ct : Int) % 18446744073709551616 = ct := by omega
    have m2 : (pl : Int) % 18446744073709551616 = pl := by omega
    have m3 : (si : Int) % 18446744073709551616 = si := by omega
    have HD2 := Lib.hid (h4.step (P := Tryz.prog) (fun v' hv' hn => wsums_any g (g + 1) v' _ pa.a pa.n pa.c B ps V4 hv' hxc.1.1 hxc.2 (HFT.out v' hn) HY1.out (by omega) (by simp only [List.length_append, List.length_nil]; omega)))
    clear h4 hxc
    go_wp2_with fail
    refine HD2.out.mono ?_
    rintro e V5 ⟨rfl, h5⟩
    clear m1 m2 m3 k0 k1 k2 k3 k4 k5 k6 k7 k8 k9 k10 k11 k12 k13 HD2
    obtain ⟨k0, k1, k2, k3, k4, k5, k6, k7, k8, k9, k10, k11, k12, k13⟩ := fourteen_of (HCH.out _ _ h5)
    have hxc := HXC.out _ _ h5
    have m1 : (ct : Int) % 18446744073709551616 = ct := by omega
    have m2 : (pl : Int) % 18446744073709551616 = pl := by omega
    have m3 : (si : Int) % 18446744073709551616 = si := by omega
    have HD3 := Lib.hid (h5.step (P := Tryz.prog) (fun v' hv' hn => wsum_any g (g + 1) v' _ rt V5 hv' y9 (by simp only [List.length_append, List.length_nil]; omega)))
    clear h5 hxc
    go_wp2_with fail
    refine HD3.out.mono ?_
    rintro e V6 ⟨rfl, h6⟩
    clear m1 m2 m3 k0 k1 k2 k3 k4 k5 k6 k7 k8 k9 k10 k11 k12 k13 HD3
    obtain ⟨k0, k1, k2, k3, k4, k5, k6, k7, k8, k9, k10, k11, k12, k13⟩ := fourteen_of (HCH.out _ _ h6)
    have hxc := HXC.out _ _ h6
    have m1 : (ct : Int) % 18446744073709551616 = ct := by omega
    have m2 : (pl : Int) % 18446744073709551616 = pl := by omega
    have m3 : (si : Int) % 18446744073709551616 = si := by omega
    have HD4 := Lib.hid (h6.step (P := Tryz.prog) (fun v' hv' hn => wuint_any g (g + 1) v' _ si V6 hv' (by omega) (by simp only [List.length_append, List.length_nil]; omega)))
    clear h6 hxc
    go_wp2_with fail
    refine HD4.out.mono ?_
    rintro e V7 ⟨rfl, h7⟩
    clear m1 m2 m3 k0 k1 k2 k3 k4 k5 k6 k7 k8 k9 k10 k11 k12 k13 HD4
    obtain ⟨k0, k1, k2, k3, k4, k5, k6, k7, k8, k9, k10, k11, k12, k13⟩ := fourteen_of (HCH.out _ _ h7)
    have hxc := HXC.out _ _ h7
    have m1 : (ct : Int) % 18446744073709551616 = ct := by omega
    have m2 : (pl : Int) % 18446744073709551616 = pl := by omega
    have m3 : (si : Int) % 18446744073709551616 = si := by omega
    have HD5 := Lib.hid (h7.step (P := Tryz.prog) (fun v' hv' hn => wsums_any g (g + 1) v' _ pb.a pb.n pb.c B qs V7 hv' hxc.1.2.1 hxc.2 (HFT.out v' hn) HY3.out (by omega) (by simp only [List.length_append, List.length_nil]; omega)))
    clear h7 hxc
    go_wp2_with fail
    refine HD5.out.mono ?_
    rintro e V8 ⟨rfl, h8⟩
    clear m1 m2 m3 k0 k1 k2 k3 k4 k5 k6 k7 k8 k9 k10 k11 k12 k13 HD5
    obtain ⟨k0, k1, k2, k3, k4, k5, k6, k7, k8, k9, k10, k11, k12, k13⟩ := fourteen_of (HCH.out _ _ h8)
    have hxc := HXC.out _ _ h8
    have m1 : (ct : Int) % 18446744073709551616 = ct := by omega
    have m2 : (pl : Int) % 18446744073709551616 = pl := by omega
    have m3 : (si : Int) % 18446744073709551616 = si := by omega
    have HD6 := Lib.hid (h8.step (P := Tryz.prog) (fun v' hv' hn => wsums_any g (g + 1) v' _ pc.a pc.n pc.c B rs V8 hv' hxc.1.2.2 hxc.2 (HFT.out v' hn) HY2.out (by omega) (by simp only [List.length_append, List.length_nil]; omega)))
    clear h8 hxc
    go_wp2_with fail
    refine HD6.out.mono ?_
    rintro e V9 ⟨rfl, h9⟩
    clear m1 m2 m3 k0 k1 k2 k3 k4 k5 k6 k7 k8 k9 k10 k11 k12 k13 HD6
    have HEQ : Hid ([] ++ encSg hd vt s ix sz dy sr ++ enc ct ++ enc pl ++ encLs ps ++ sB rt ++ enc si ++ encLs qs ++ encLs rs = encRc ⟨(hd : Int), (vt : Int), s, (ix : Int), (sz : Int), (dy : Int), (sr : Int), (ct : Int), (pl : Int), rt, pa, (si : Int), pb, pc⟩ ps qs rs) := by
      show _ = _
      unfold encRc
      simp only [Int.toNat_natCast, List.append_assoc, List.nil_append]
    obtain ⟨v9, hw9, _, _⟩ := id h9
    have HBK := Lib.hid (HBW.out _ _ h9)
    have HD := Lib.hid (wdone_any g (g + 1) v9 _ V9 hw9 (by simp only [List.length_append, List.length_nil]; omega))
    rw [HEQ.out] at HD
    clear h9 hw9
    go_wp2_with fail
    refine HD.out.mono ?_
    rintro e VX ⟨A9, n9, c9, rfl, q1, q2, q3⟩
    have Q1 := Lib.hid q1
    have Q2 := Lib.hid q2
    have Q3 := Lib.hid q3
    clear q1 q2 q3
    go_wp2_with fail
    go_ret2
    exact .inl ⟨by first | trivial | rfl, A9, n9, c9, rfl, Q1.out, Q2.out, HBK.out.trans (Q3.out.mono HBK.out.size)⟩
end Go.Proofs.YtnfkjnmdfijhnaaGreatDoor
