/- The reference: Same of receipts, of accusations, at equal ones. -/
import Derived.Test.YtpdledjgbgalcaaGreatDoorS4
namespace Go.Proofs.YtpdledjgbgalcaaGreatDoor
open Go.RowKit Go.Lib
set_option linter.unusedVariables false
set_option linter.unusedSimpArgs false
set_option maxRecDepth 100000 in
set_option maxHeartbeats 4000000 in
theorem texts_any (a b : Option Addr) (n c d : Nat) (ys : List ByteArray) (B : Nat) (w : World) (hx : Sl fT w B a n ys) (hy : Sl fT w B b n ys) (hB : B ≤ w.heap.size) (hn : n ≤ 1000000) :
    Calls Tryz.prog 107 #[.slice a n c, .slice b n d] w fun e w' => e = .returned (.bool true) ∧ Below w.heap.size w w' := by
  have HX := Lib.hid hx
  have HY := Lib.hid hy
  have HXN : Hid (ys.length = n) := hx.1
  have HBB := Lib.hid hB
  clear hx hy hB
  go_enter Tryz.func107, Tryz.ntmps107
  go_wp2
  go_loopw [5] (fun i wr => ∃ k : Nat, k ≤ n ∧ i = .int .i64 k ∧ Hid (Below w.heap.size w wr)) (fun i _ => n - (intOf i).toNat)
  case atStart => exact ⟨0, by omega, rfl, Below.refl _ _⟩
  case round =>
    obtain ⟨k, hk, rfl, HR⟩ := hrel
    by_cases hlt : k < n
    · obtain ⟨b1, o1, x, rfl, _, hg, hc⟩ := (HX.out.up HR.out HBB.out).2.at_ (k := k) (by rw [HXN.out]; exact hlt)
      obtain ⟨b2, o2, x', rfl, _, hg', hc'⟩ := (HY.out.up HR.out HBB.out).2.at_ (k := k) (by rw [HXN.out]; exact hlt)
      obtain rfl : x = x' := by rw [hg] at hg'; exact Option.some.inj hg'
      have hkI : (k : Int) < (n : Int) := by omega
      have hk0 : (0 : Int) ≤ (k : Int) := by omega
      clear hg hg'
      go_wp2
      go_quiet (fail)
      go_wp2
      go_roundw
      case rel => exact ⟨k + 1, by omega, by go_num, below_drewN HR.out _⟩
      case measure => simp [intOf]; omega
    · obtain rfl : k = n := by omega
      go_wp2
      go_ret
      exact ⟨rfl, HR.out⟩
set_option maxRecDepth 100000 in
set_option maxHeartbeats 4000000 in
theorem fields_any (r : Rcp) (pa pb pc : Hd) (w : World) :
    Calls Tryz.prog 106 #[.agg #[.int .i64 r.hd, .int .i64 r.vt, .string r.s, .int .i64 r.ix, .int .i64 r.sz, .int .i64 r.dy, .int .i64 r.sr, .int .i64 r.ct, .int .i64 r.pl, .string r.rt, .slice r.pa.a r.pa.n r.pa.c, .int .i64 r.si, .slice r.pb.a r.pb.n r.pb.c, .slice r.pc.a r.pc.n r.pc.c], .agg #[.int .i64 r.hd, .int .i64 r.vt, .string r.s, .int .i64 r.ix, .int .i64 r.sz, .int .i64 r.dy, .int .i64 r.sr, .int .i64 r.ct, .int .i64 r.pl, .string r.rt, .slice pa.a r.pa.n pa.c, .int .i64 r.si, .slice pb.a r.pb.n pb.c, .slice pc.a r.pc.n pc.c]] w fun e w' => e = .returned (.bool true) ∧ Below w.heap.size w w' := by
  go_enter Tryz.func106, Tryz.ntmps106
  go_wp2
  go_ret
  exact ⟨rfl, ((Below.refl _ _).alloc (Nat.le_refl _) _).alloc (by simp) _⟩
set_option maxRecDepth 100000 in
set_option maxHeartbeats 8000000 in
theorem same43_any (r : Rcp) (pa pb pc : Hd) (ps qs rs : List ByteArray) (B : Nat) (w : World) (h1 : Sl fT w B r.pa.a r.pa.n ps ∧ Sl fT w B r.pb.a r.pb.n qs ∧ Sl fT w B r.pc.a r.pc.n rs) (h2 : Sl fT w B pa.a r.pa.n ps ∧ Sl fT w B pb.a r.pb.n qs ∧ Sl fT w B pc.a r.pc.n rs) (hB : B ≤ w.heap.size) (hn : r.pa.n ≤ 1000000 ∧ r.pb.n ≤ 1000000 ∧ r.pc.n ≤ 1000000) :
    Calls Tryz.prog 52 #[.agg #[.int .i64 r.hd, .int .i64 r.vt, .string r.s, .int .i64 r.ix, .int .i64 r.sz, .int .i64 r.dy, .int .i64 r.sr, .int .i64 r.ct, .int .i64 r.pl, .string r.rt, .slice r.pa.a r.pa.n r.pa.c, .int .i64 r.si, .slice r.pb.a r.pb.n r.pb.c, .slice r.pc.a r.pc.n r.pc.c], .agg #[.int .i64 r.hd, .int .i64 r.vt, .string r.s, .int .i64 r.ix, .int .i64 r.sz, .int .i64 r.dy, .int .i64 r.sr, .int .i64 r.ct, .int .i64 r.pl, .string r.rt, .slice pa.a r.pa.n pa.c, .int .i64 r.si, .slice pb.a r.pb.n pb.c, .slice pc.a r.pc.n pc.c]] w fun e w' => e = .returned (.bool true) ∧ Below w.heap.size w w' := by
  obtain ⟨W1, hW1⟩ : ∃ W1 : World, W1 = (w.alloc (.cells #[.int .i64 r.hd, .int .i64 r.vt, .string r.s, .int .i64 r.ix, .int .i64 r.sz, .int .i64 r.dy, .int .i64 r.sr, .int .i64 r.ct, .int .i64 r.pl, .string r.rt, .slice r.pa.a r.pa.n r.pa.c, .int .i64 r.si, .slice r.pb.a r.pb.n r.pb.c, .slice r.pc.a r.pc.n r.pc.c] 35)).alloc (.cells #[.int .i64 r.hd, .int .i64 r.vt, .string r.s, .int .i64 r.ix, .int .i64 r.sz, .int .i64 r.dy, .int .i64 r.sr, .int .i64 r.ct, .int .i64 r.pl, .string r.rt, .slice pa.a r.pa.n pa.c, .int .i64 r.si, .slice pb.a r.pb.n pb.c, .slice pc.a r.pc.n pc.c] 35) := ⟨_, rfl⟩
  have hb1 : Below w.heap.size w W1 := by rw [hW1]; exact ((Below.refl _ _).alloc (Nat.le_refl _) _).alloc (by simp) _
  have hs1 : W1.heap.size = w.heap.size + 1 + 1 := by rw [hW1]; simp
  have hc1 : W1.heap[w.heap.size]? = some (.cells #[.int .i64 r.hd, .int .i64 r.vt, .string r.s, .int .i64 r.ix, .int .i64 r.sz, .int .i64 r.dy, .int .i64 r.sr, .int .i64 r.ct, .int .i64 r.pl, .string r.rt, .slice r.pa.a r.pa.n r.pa.c, .int .i64 r.si, .slice r.pb.a r.pb.n r.pb.c, .slice r.pc.a r.pc.n r.pc.c] 35 (0, 0)) := by rw [hW1, Below.heap_alloc _ _ _ (by simp)]; exact heap_alloc_new w _
  have hc2 : W1.heap[w.heap.size + 1]? = some (.cells #[.int .i64 r.hd, .int .i64 r.vt, .string r.s, .int .i64 r.ix, .int .i64 r.sz, .int .i64 r.dy, .int .i64 r.sr, .int .i64 r.ct, .int .i64 r.pl, .string r.rt, .slice pa.a r.pa.n pa.c, .int .i64 r.si, .slice pb.a r.pb.n pb.c, .slice pc.a r.pc.n pc.c] 35 (0, 0)) := by
    rw [hW1]
    have := heap_alloc_new (w.alloc (.cells #[.int .i64 r.hd, .int .i64 r.vt, .string r.s, .int .i64 r.ix, .int .i64 r.sz, .int .i64 r.dy, .int .i64 r.sr, .int .i64 r.ct, .int .i64 r.pl, .string r.rt, .slice r.pa.a r.pa.n r.pa.c, .int .i64 r.si, .slice r.pb.a r.pb.n r.pb.c, .slice r.pc.a r.pc.n r.pc.c] 35)) (.cells #[.int .i64 r.hd, .int .i64 r.vt, .string r.s, .int .i64 r.ix, .int .i64 r.sz, .int .i64 r.dy, .int .i64 r.sr, .int .i64 r.ct, .int .i64 r.pl, .string r.rt, .slice pa.a r.pa.n pa.c, .int .i64 r.si, .slice pb.a r.pb.n pb.c, .slice pc.a r.pc.n pc.c] 35)
    simpa using this
  have HC : Hid (∀ V, Below W1.heap.size W1 V → (V.cell? ⟨w.heap.size, 0, none⟩ = some (.int .i64 r.hd) ∧ V.cell? ⟨w.heap.size, 1, none⟩ = some (.int .i64 r.vt) ∧ V.cell? ⟨w.heap.size, 2, none⟩ = some (.string r.s) ∧ V.cell? ⟨w.heap.size, 3, none⟩ = some (.int .i64 r.ix) ∧ V.cell? ⟨w.heap.size, 4, none⟩ = some (.int .i64 r.sz) ∧ V.cell? ⟨w.heap.size, 5, none⟩ = some (.int .i64 r.dy) ∧ V.cell? ⟨w.heap.size, 6, none⟩ = some (.int .i64 r.sr) ∧ V.cell? ⟨w.heap.size, 7, none⟩ = some (.int .i64 r.ct) ∧ V.cell? ⟨w.heap.size, 8, none⟩ = some (.int .i64 r.pl) ∧ V.cell? ⟨w.heap.size, 9, none⟩ = some (.string r.rt) ∧ V.cell? ⟨w.heap.size, 10, none⟩ = some (.slice r.pa.a r.pa.n r.pa.c) ∧ V.cell? ⟨w.heap.size, 11, none⟩ = some (.int .i64 r.si) ∧ V.cell? ⟨w.heap.size, 12, none⟩ = some (.slice r.pb.a r.pb.n r.pb.c) ∧ V.cell? ⟨w.heap.size, 13, none⟩ = some (.slice r.pc.a r.pc.n r.pc.c)) ∧ (V.cell? ⟨w.heap.size + 1, 0, none⟩ = some (.int .i64 r.hd) ∧ V.cell? ⟨w.heap.size + 1, 1, none⟩ = some (.int .i64 r.vt) ∧ V.cell? ⟨w.heap.size + 1, 2, none⟩ = some (.string r.s) ∧ V.cell? ⟨w.heap.size + 1, 3, none⟩ = some (.int .i64 r.ix) ∧ V.cell? ⟨w.heap.size + 1, 4, none⟩ = some (.int .i64 r.sz) ∧ V.cell? ⟨w.heap.size + 1, 5, none⟩ = some (.int .i64 r.dy) ∧ V.cell? ⟨w.heap.size + 1, 6, none⟩ = some (.int .i64 r.sr) ∧ V.cell? ⟨w.heap.size + 1, 7, none⟩ = some (.int .i64 r.ct) ∧ V.cell? ⟨w.heap.size + 1, 8, none⟩ = some (.int .i64 r.pl) ∧ V.cell? ⟨w.heap.size + 1, 9, none⟩ = some (.string r.rt) ∧ V.cell? ⟨w.heap.size + 1, 10, none⟩ = some (.slice pa.a r.pa.n pa.c) ∧ V.cell? ⟨w.heap.size + 1, 11, none⟩ = some (.int .i64 r.si) ∧ V.cell? ⟨w.heap.size + 1, 12, none⟩ = some (.slice pb.a r.pb.n pb.c) ∧ V.cell? ⟨w.heap.size + 1, 13, none⟩ = some (.slice pc.a r.pc.n pc.c))) := fun V hb => by
    have q1 := (hb.block _ (by omega)).trans hc1
    have q2 := (hb.block _ (by omega)).trans hc2
    refine ⟨⟨?_, ?_, ?_, ?_, ?_, ?_, ?_, ?_, ?_, ?_, ?_, ?_, ?_, ?_⟩, ⟨?_, ?_, ?_, ?_, ?_, ?_, ?_, ?_, ?_, ?_, ?_, ?_, ?_, ?_⟩⟩
    all_goals first
      | (rw [cell_of_row V _ _ _ _ _ q1]; rfl)
      | (rw [cell_of_row V _ _ _ _ _ q2]; rfl)
  have HF := Lib.hid (fields_any r pa pb pc W1)
  have HT : Hid (∀ V, Below W1.heap.size W1 V → ∀ (a b : Option Addr) (n c d : Nat) (ys : List ByteArray), Sl fT w B a n ys → Sl fT w B b n ys → n ≤ 1000000 → Calls Tryz.prog 107 #[.slice a n c, .slice b n d] V fun e w' => e = .returned (.bool true) ∧ Below V.heap.size V w') := fun V hb a b n c d ys q1 q2 q3 =>
    texts_any a b n c d ys B V (q1.up (hb1.trans (hb.mono hb1.size)) hB) (q2.up (hb1.trans (hb.mono hb1.size)) hB) (Nat.le_trans hB (Nat.le_trans hb1.size hb.size)) q3
  have HB1 := Lib.hid hb1
  have HWE := Lib.hid hW1
  have H1 := Lib.hid h1
  have H2 := Lib.hid h2
  have HN := Lib.hid hn
  rw [hW1] at HF
  obtain ⟨⟨k0, k1, k2, k3, k4, k5, k6, k7, k8, k9, k10, k11, k12, k13⟩, ⟨l0, l1, l2, l3, l4, l5, l6, l7, l8, l9, l10, l11, l12, l13⟩⟩ := HC.out W1 (Below.refl _ _)
  rw [hW1] at k0 k1 k2 k3 k4 k5 k6 k7 k8 k9 k10 k11 k12 k13 l0 l1 l2 l3 l4 l5 l6 l7 l8 l9 l10 l11 l12 l13
  clear h1 h2 hB hb1 hs1 hc1 hc2 hW1 hn
  go_enter Tryz.func52, Tryz.ntmps52
  go_wp2_with (first
    | (go_at_call 106; (with_reducible refine HF.out.mono ?_); rintro e V2 ⟨rfl, b⟩
       rw [← HWE.out] at b
       clear k0 k1 k2 k3 k4 k5 k6 k7 k8 k9 k10 k11 k12 k13 l0 l1 l2 l3 l4 l5 l6 l7 l8 l9 l10 l11 l12 l13
       have B2 := Lib.hid b
       obtain ⟨⟨k0, k1, k2, k3, k4, k5, k6, k7, k8, k9, k10, k11, k12, k13⟩, ⟨l0, l1, l2, l3, l4, l5, l6, l7, l8, l9, l10, l11, l12, l13⟩⟩ := HC.out V2 b
       clear b)
    | (go_at_call 107; (with_reducible refine (HT.out V2 B2.out _ _ _ _ _ ps H1.out.1 H2.out.1 HN.out.1).mono ?_); rintro e V3 ⟨rfl, b⟩
       have B3 : Hid (Below W1.heap.size W1 V3) := B2.out.trans (b.mono B2.out.size)
       clear k0 k1 k2 k3 k4 k5 k6 k7 k8 k9 k10 k11 k12 k13 l0 l1 l2 l3 l4 l5 l6 l7 l8 l9 l10 l11 l12 l13 b
       obtain ⟨⟨k0, k1, k2, k3, k4, k5, k6, k7, k8, k9, k10, k11, k12, k13⟩, ⟨l0, l1, l2, l3, l4, l5, l6, l7, l8, l9, l10, l11, l12, l13⟩⟩ := HC.out V3 B3.out)
    | (go_at_call 107; (with_reducible refine (HT.out V3 B3.out _ _ _ _ _ qs H1.out.2.1 H2.out.2.1 HN.out.2.1).mono ?_); rintro e V4 ⟨rfl, b⟩
       have B4 : Hid (Below W1.heap.size W1 V4) := B3.out.trans (b.mono B3.out.size)
       clear k0 k1 k2 k3 k4 k5 k6 k7 k8 k9 k10 k11 k12 k13 l0 l1 l2 l3 l4 l5 l6 l7 l8 l9 l10 l11 l12 l13 b
       obtain ⟨⟨k0, k1, k2, k3, k4, k5, k6, k7, k8, k9, k10, k11, k12, k13⟩, ⟨l0, l1, l2, l3, l4, l5, l6, l7, l8, l9, l10, l11, l12, l13⟩⟩ := HC.out V4 B4.out)
    | (go_at_call 107; (with_reducible refine (HT.out V4 B4.out _ _ _ _ _ rs H1.out.2.2 H2.out.2.2 HN.out.2.2).mono ?_); rintro e V5 ⟨rfl, b⟩
       have B5 : Hid (Below W1.heap.size W1 V5) := B4.out.trans (b.mono B4.out.size)
       clear b))
  go_ret
  exact ⟨rfl, HB1.out.trans (B5.out.mono HB1.out.size)⟩
set_option maxRecDepth 100000 in
set_option maxHeartbeats 16000000 in
theorem same45_any (d q : Int) (r : Rcp) (pa pb pc : Hd) (st : ByteArray) (ix : Int) (no an : ByteArray) (ps qs rs : List ByteArray) (B : Nat) (w : World) (h1 : Sl fT w B r.pa.a r.pa.n ps ∧ Sl fT w B r.pb.a r.pb.n qs ∧ Sl fT w B r.pc.a r.pc.n rs) (h2 : Sl fT w B pa.a r.pa.n ps ∧ Sl fT w B pb.a r.pb.n qs ∧ Sl fT w B pc.a r.pc.n rs) (hB : B ≤ w.heap.size) (hn : r.pa.n ≤ 1000000 ∧ r.pb.n ≤ 1000000 ∧ r.pc.n ≤ 1000000) :
    Calls Tryz.prog 18 #[.agg #[.int .i64 d, .int .i64 q, .int .i64 r.hd, .int .i64 r.vt, .string r.s, .int .i64 r.ix, .int .i64 r.sz, .int .i64 r.dy, .int .i64 r.sr, .int .i64 r.ct, .int .i64 r.pl, .string r.rt, .slice r.pa.a r.pa.n r.pa.c, .int .i64 r.si, .slice r.pb.a r.pb.n r.pb.c, .slice r.pc.a r.pc.n r.pc.c, .string st, .int .i64 ix, .string no, .string an], .agg #[.int .i64 d, .int .i64 q, .int .i64 r.hd, .int .i64 r.vt, .string r.s, .int .i64 r.ix, .int .i64 r.sz, .int .i64 r.dy, .int .i64 r.sr, .int .i64 r.ct, .int .i64 r.pl, .string r.rt, .slice pa.a r.pa.n pa.c, .int .i64 r.si, .slice pb.a r.pb.n pb.c, .slice pc.a r.pc.n pc.c, .string st, .int .i64 ix, .string no, .string an]] w fun e w' => e = .returned (.bool true) ∧ Below w.heap.size w w' := by
  obtain ⟨W1, hW1⟩ : ∃ W1 : World, W1 = (w.alloc (.cells #[.int .i64 d, .int .i64 q, .int .i64 r.hd, .int .i64 r.vt, .string r.s, .int .i64 r.ix, .int .i64 r.sz, .int .i64 r.dy, .int .i64 r.sr, .int .i64 r.ct, .int .i64 r.pl, .string r.rt, .slice r.pa.a r.pa.n r.pa.c, .int .i64 r.si, .slice r.pb.a r.pb.n r.pb.c, .slice r.pc.a r.pc.n r.pc.c, .string st, .int .i64 ix, .string no, .string an] 50)).alloc (.cells #[.int .i64 d, .int .i64 q, .int .i64 r.hd, .int .i64 r.vt, .string r.s, .int .i64 r.ix, .int .i64 r.sz, .int .i64 r.dy, .int .i64 r.sr, .int .i64 r.ct, .int .i64 r.pl, .string r.rt, .slice pa.a r.pa.n pa.c, .int .i64 r.si, .slice pb.a r.pb.n pb.c, .slice pc.a r.pc.n pc.c, .string st, .int .i64 ix, .string no, .string an] 50) := ⟨_, rfl⟩
  have hb1 : Below w.heap.size w W1 := by rw [hW1]; exact ((Below.refl _ _).alloc (Nat.le_refl _) _).alloc (by simp) _
  have hc1 : W1.heap[w.heap.size]? = some (.cells #[.int .i64 d, .int .i64 q, .int .i64 r.hd, .int .i64 r.vt, .string r.s, .int .i64 r.ix, .int .i64 r.sz, .int .i64 r.dy, .int .i64 r.sr, .int .i64 r.ct, .int .i64 r.pl, .string r.rt, .slice r.pa.a r.pa.n r.pa.c, .int .i64 r.si, .slice r.pb.a r.pb.n r.pb.c, .slice r.pc.a r.pc.n r.pc.c, .string st, .int .i64 ix, .string no, .string an] 50 (0, 0)) := by rw [hW1, Below.heap_alloc _ _ _ (by simp)]; exact heap_alloc_new w _
  have hc2 : W1.heap[w.heap.size + 1]? = some (.cells #[.int .i64 d, .int .i64 q, .int .i64 r.hd, .int .i64 r.vt, .string r.s, .int .i64 r.ix, .int .i64 r.sz, .int .i64 r.dy, .int .i64 r.sr, .int .i64 r.ct, .int .i64 r.pl, .string r.rt, .slice pa.a r.pa.n pa.c, .int .i64 r.si, .slice pb.a r.pb.n pb.c, .slice pc.a r.pc.n pc.c, .string st, .int .i64 ix, .string no, .string an] 50 (0, 0)) := by
    rw [hW1]
    have := heap_alloc_new (w.alloc (.cells #[.int .i64 d, .int .i64 q, .int .i64 r.hd, .int .i64 r.vt, .string r.s, .int .i64 r.ix, .int .i64 r.sz, .int .i64 r.dy, .int .i64 r.sr, .int .i64 r.ct, .int .i64 r.pl, .string r.rt, .slice r.pa.a r.pa.n r.pa.c, .int .i64 r.si, .slice r.pb.a r.pb.n r.pb.c, .slice r.pc.a r.pc.n r.pc.c, .string st, .int .i64 ix, .string no, .string an] 50)) (.cells #[.int .i64 d, .int .i64 q, .int .i64 r.hd, .int .i64 r.vt, .string r.s, .int .i64 r.ix, .int .i64 r.sz, .int .i64 r.dy, .int .i64 r.sr, .int .i64 r.ct, .int .i64 r.pl, .string r.rt, .slice pa.a r.pa.n pa.c, .int .i64 r.si, .slice pb.a r.pb.n pb.c, .slice pc.a r.pc.n pc.c, .string st, .int .i64 ix, .string no, .string an] 50)
    simpa using this
  have k0 : W1.cell? ⟨w.heap.size, 0, none⟩ = some (.int .i64 d) := by rw [cell_of_row W1 _ _ _ _ _ hc1]; rfl
  have k1 : W1.cell? ⟨w.heap.size, 1, none⟩ = some (.int .i64 q) := by rw [cell_of_row W1 _ _ _ _ _ hc1]; rfl
  have k2 : W1.cell? ⟨w.heap.size, 2, none⟩ = some (.int .i64 r.hd) := by rw [cell_of_row W1 _ _ _ _ _ hc1]; rfl
  have k3 : W1.cell? ⟨w.heap.size, 3, none⟩ = some (.int .i64 r.vt) := by rw [cell_of_row W1 _ _ _ _ _ hc1]; rfl
  have k4 : W1.cell? ⟨w.heap.size, 4, none⟩ = some (.string r.s) := by rw [cell_of_row W1 _ _ _ _ _ hc1]; rfl
  have k5 : W1.cell? ⟨w.heap.size, 5, none⟩ = some (.int .i64 r.ix) := by rw [cell_of_row W1 _ _ _ _ _ hc1]; rfl
  have k6 : W1.cell? ⟨w.heap.size, 6, none⟩ = some (.int .i64 r.sz) := by rw [cell_of_row W1 _ _ _ _ _ hc1]; rfl
  have k7 : W1.cell? ⟨w.heap.size, 7, none⟩ = some (.int .i64 r.dy) := by rw [cell_of_row W1 _ _ _ _ _ hc1]; rfl
  have k8 : W1.cell? ⟨w.heap.size, 8, none⟩ = some (.int .i64 r.sr) := by rw [cell_of_row W1 _ _ _ _ _ hc1]; rfl
  have k9 : W1.cell? ⟨w.heap.size, 9, none⟩ = some (.int .i64 r.ct) := by rw [cell_of_row W1 _ _ _ _ _ hc1]; rfl
  have k10 : W1.cell? ⟨w.heap.size, 10, none⟩ = some (.int .i64 r.pl) := by rw [cell_of_row W1 _ _ _ _ _ hc1]; rfl
  have k11 : W1.cell? ⟨w.heap.size, 11, none⟩ = some (.string r.rt) := by rw [cell_of_row W1 _ _ _ _ _ hc1]; rfl
  have k12 : W1.cell? ⟨w.heap.size, 12, none⟩ = some (.slice r.pa.a r.pa.n r.pa.c) := by rw [cell_of_row W1 _ _ _ _ _ hc1]; rfl
  have k13 : W1.cell? ⟨w.heap.size, 13, none⟩ = some (.int .i64 r.si) := by rw [cell_of_row W1 _ _ _ _ _ hc1]; rfl
  have k14 : W1.cell? ⟨w.heap.size, 14, none⟩ = some (.slice r.pb.a r.pb.n r.pb.c) := by rw [cell_of_row W1 _ _ _ _ _ hc1]; rfl
  have k15 : W1.cell? ⟨w.heap.size, 15, none⟩ = some (.slice r.pc.a r.pc.n r.pc.c) := by rw [cell_of_row W1 _ _ _ _ _ hc1]; rfl
  have k16 : W1.cell? ⟨w.heap.size, 16, none⟩ = some (.string st) := by rw [cell_of_row W1 _ _ _ _ _ hc1]; rfl
  have k17 : W1.cell? ⟨w.heap.size, 17, none⟩ = some (.int .i64 ix) := by rw [cell_of_row W1 _ _ _ _ _ hc1]; rfl
  have k18 : W1.cell? ⟨w.heap.size, 18, none⟩ = some (.string no) := by rw [cell_of_row W1 _ _ _ _ _ hc1]; rfl
  have k19 : W1.cell? ⟨w.heap.size, 19, none⟩ = some (.string an) := by rw [cell_of_row W1 _ _ _ _ _ hc1]; rfl
  have l0 : W1.cell? ⟨w.heap.size + 1, 0, none⟩ = some (.int .i64 d) := by rw [cell_of_row W1 _ _ _ _ _ hc2]; rfl
  have l1 : W1.cell? ⟨w.heap.size + 1, 1, none⟩ = some (.int .i64 q) := by rw [cell_of_row W1 _ _ _ _ _ hc2]; rfl
  have l2 : W1.cell? ⟨w.heap.size + 1, 2, none⟩ = some (.int .i64 r.hd) := by rw [cell_of_row W1 _ _ _ _ _ hc2]; rfl
  have l3 : W1.cell? ⟨w.heap.size + 1, 3, none⟩ = some (.int .i64 r.vt) := by rw [cell_of_row W1 _ _ _ _ _ hc2]; rfl
  have l4 : W1.cell? ⟨w.heap.size + 1, 4, none⟩ = some (.string r.s) := by rw [cell_of_row W1 _ _ _ _ _ hc2]; rfl
  have l5 : W1.cell? ⟨w.heap.size + 1, 5, none⟩ = some (.int .i64 r.ix) := by rw [cell_of_row W1 _ _ _ _ _ hc2]; rfl
  have l6 : W1.cell? ⟨w.heap.size + 1, 6, none⟩ = some (.int .i64 r.sz) := by rw [cell_of_row W1 _ _ _ _ _ hc2]; rfl
  have l7 : W1.cell? ⟨w.heap.size + 1, 7, none⟩ = some (.int .i64 r.dy) := by rw [cell_of_row W1 _ _ _ _ _ hc2]; rfl
  have l8 : W1.cell? ⟨w.heap.size + 1, 8, none⟩ = some (.int .i64 r.sr) := by rw [cell_of_row W1 _ _ _ _ _ hc2]; rfl
  have l9 : W1.cell? ⟨w.heap.size + 1, 9, none⟩ = some (.int .i64 r.ct) := by rw [cell_of_row W1 _ _ _ _ _ hc2]; rfl
  have l10 : W1.cell? ⟨w.heap.size + 1, 10, none⟩ = some (.int .i64 r.pl) := by rw [cell_of_row W1 _ _ _ _ _ hc2]; rfl
  have l11 : W1.cell? ⟨w.heap.size + 1, 11, none⟩ = some (.string r.rt) := by rw [cell_of_row W1 _ _ _ _ _ hc2]; rfl
  have l12 : W1.cell? ⟨w.heap.size + 1, 12, none⟩ = some (.slice pa.a r.pa.n pa.c) := by rw [cell_of_row W1 _ _ _ _ _ hc2]; rfl
  have l13 : W1.cell? ⟨w.heap.size + 1, 13, none⟩ = some (.int .i64 r.si) := by rw [cell_of_row W1 _ _ _ _ _ hc2]; rfl
  have l14 : W1.cell? ⟨w.heap.size + 1, 14, none⟩ = some (.slice pb.a r.pb.n pb.c) := by rw [cell_of_row W1 _ _ _ _ _ hc2]; rfl
  have l15 : W1.cell? ⟨w.heap.size + 1, 15, none⟩ = some (.slice pc.a r.pc.n pc.c) := by rw [cell_of_row W1 _ _ _ _ _ hc2]; rfl
  have l16 : W1.cell? ⟨w.heap.size + 1, 16, none⟩ = some (.string st) := by rw [cell_of_row W1 _ _ _ _ _ hc2]; rfl
  have l17 : W1.cell? ⟨w.heap.size + 1, 17, none⟩ = some (.int .i64 ix) := by rw [cell_of_row W1 _ _ _ _ _ hc2]; rfl
  have l18 : W1.cell? ⟨w.heap.size + 1, 18, none⟩ = some (.string no) := by rw [cell_of_row W1 _ _ _ _ _ hc2]; rfl
  have l19 : W1.cell? ⟨w.heap.size + 1, 19, none⟩ = some (.string an) := by rw [cell_of_row W1 _ _ _ _ _ hc2]; rfl
  have HS := Lib.hid (same43_any r pa pb pc ps qs rs B W1 ⟨h1.1.up hb1 hB, h1.2.1.up hb1 hB, h1.2.2.up hb1 hB⟩ ⟨h2.1.up hb1 hB, h2.2.1.up hb1 hB, h2.2.2.up hb1 hB⟩ (Nat.le_trans hB hb1.size) hn)
  have HB1 := Lib.hid hb1
  have HWE := Lib.hid hW1
  rw [hW1] at HS k0 k1 k2 k3 k4 k5 k6 k7 k8 k9 k10 k11 k12 k13 k14 k15 k16 k17 k18 k19 l0 l1 l2 l3 l4 l5 l6 l7 l8 l9 l10 l11 l12 l13 l14 l15 l16 l17 l18 l19
  clear h1 h2 hB hb1 hc1 hc2 hW1 hn
  go_enter Tryz.func18, Tryz.ntmps18
  go_wp2_with (first
    | (go_at_call 52; (with_reducible refine HS.out.mono ?_); rintro e V2 ⟨rfl, b⟩
       rw [← HWE.out] at b
       have B2 := Lib.hid b
       clear b))
  go_ret
  exact ⟨rfl, HB1.out.trans (B2.out.mono HB1.out.size)⟩
end Go.Proofs.YtpdledjgbgalcaaGreatDoor
