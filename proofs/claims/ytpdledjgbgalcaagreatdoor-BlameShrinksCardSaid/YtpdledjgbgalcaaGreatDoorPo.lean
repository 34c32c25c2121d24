/- Merkle proofs verified, both. The leaf of a receipt, the digest of a batch. The reference of receipts: number, sum, list, signed. The reference's leaf of a receipt, digest of a batch. -/
import Derived.Test.YtpdledjgbgalcaaGreatDoorPn
import Derived.Test.YtpdledjgbgalcaaGreatDoorPp
import Derived.Test.YtpdledjgbgalcaaGreatDoorPf
namespace Go.Proofs.YtpdledjgbgalcaaGreatDoor
open Go.RowKit Go.Lib
set_option linter.unusedVariables false
set_option linter.unusedSimpArgs false
theorem mis_any (x : ByteArray) (hx : x.size = 32) (w : World) : Calls Tryz.prog 147 #[.string x] w fun e w' => e = .returned (.bool true) ∧ w = w' := by
  have h1 : ((x.size : Int) == 32) = true := by simp [hx]
  go_enter Tryz.func147, Tryz.ntmps147
  go_wp2
  go_ret
  exact ⟨rfl, rfl⟩
set_option maxRecDepth 100000 in
set_option maxHeartbeats 4000000 in
theorem masums_any (A : Option Addr) (n c B : Nat) (ys : List ByteArray) (w : World) (hx : Sl fT w B A n ys) (hn : n ≤ 1000000) (hy : ∀ s ∈ ys, s.size = 32) :
    Calls Tryz.prog 148 #[.slice A n c] w fun e w' => e = .returned (.bool true) ∧ w = w' := by
  have HX := Lib.hid hx
  have HXN : Hid (ys.length = n) := hx.1
  have HY := Lib.hid hy
  clear hx hy
  go_enter Tryz.func148, Tryz.ntmps148
  go_wp2
  go_loopw [7] (fun i wr => (∃ k : Nat, k ≤ n ∧ i = .int .i64 k) ∧ w = wr) (fun i _ => n - (intOf i).toNat)
  case atStart => exact ⟨⟨0, by omega, rfl⟩, rfl⟩
  case round =>
    obtain ⟨⟨k, hk, rfl⟩, rfl⟩ := hrel
    by_cases hlt : k < n
    · obtain ⟨b1, o1, x, rfl, _, hg, hc⟩ := HX.out.2.at_ (k := k) (by rw [HXN.out]; exact hlt)
      have hkI : (k : Int) < (n : Int) := by omega
      have hk0 : (0 : Int) ≤ (k : Int) := by omega
      have HC := Lib.hid (fun W => mis_any x (HY.out x (List.mem_of_getElem? hg)) W)
      clear hg
      go_wp2_with (go_at_call 147; (with_reducible refine (HC.out _).mono ?_); rintro e w5 ⟨rfl, rfl⟩)
      refine ⟨?rel, ?measure⟩
      case rel => exact ⟨⟨k + 1, by omega, by go_num⟩, by first | rfl | trivial⟩
      case measure => (simp [intOf] <;> omega)
    · obtain rfl : k = n := by omega
      go_wp2
      go_ret
      exact ⟨rfl, by first | rfl | trivial⟩
/-- Does a path prove a leaf? -/
def mvB (x : ByteArray) (i n : Nat) (ps : List ByteArray) (rt : ByteArray) : Bool := (upF 8 x i n ps).2 && decide ((upF 8 x i n ps).1 = rt)
set_option maxRecDepth 100000 in
set_option maxHeartbeats 4000000 in
theorem mverify_any (x : ByteArray) (i n : Nat) (A : Option Addr) (m c B : Nat) (ps : List ByteArray) (rt : ByteArray) (w : World) (hG : Glob w) (hx : x.size = 32) (hr : rt.size = 32) (hin : i < n) (hn : n ≤ 256) (hp : Sl fT w B A m ps) (hB : B ≤ w.heap.size) (hmc : m ≤ c) (hm : m ≤ 8) (hps : ∀ s ∈ ps, s.size = 32) :
    Calls Tryz.prog 88 #[.string x, .int .i64 i, .int .i64 n, .slice A m c, .string rt] w fun e w' => e = .returned (.bool (mvB x i n ps rt)) ∧ Below w.heap.size w w' := by
  have HX := Lib.hid (fun W => mis_any x hx W)
  have HR := Lib.hid (fun W => mis_any rt hr W)
  have HP := Lib.hid (masums_any A m c B ps w hp (by omega) hps)
  have HC := Lib.hid (climb_any 8 x i n A m c B ps w hG hx hin hn hp hB hmc hm (by omega) hps)
  have HV : Hid (mvB x i n ps rt = ((upF 8 x i n ps).2 && decide ((upF 8 x i n ps).1 = rt))) := rfl
  obtain ⟨⟨r, ok⟩, hu⟩ : ∃ r, upF 8 x i n ps = r := ⟨_, rfl⟩
  rw [hu] at HC HV
  rw [HV.out]
  have h1 : decide ((i : Int) < 0) = false := by simp
  have h2 : decide ((n : Int) ≤ (i : Int)) = false := by simp; omega
  have h3 : decide (n ≤ i) = false := by simp; omega
  rw [beqN r rt]
  clear hG hp hps hx hr hu HV
  cases ok
  all_goals
    go_enter Tryz.func88, Tryz.ntmps88
    go_wp2_with (first
      | (go_at_call 147; (first | (with_reducible refine (HX.out _).mono ?_) | (with_reducible refine (HR.out _).mono ?_)); rintro e w5 ⟨rfl, rfl⟩)
      | (go_at_call 148; (with_reducible refine HP.out.mono ?_); rintro e w5 ⟨rfl, rfl⟩)
      | (go_at_call 149; (with_reducible refine HC.out.mono ?_); rintro e w6 ⟨rfl, hb6⟩; (have HB6 := Lib.hid hb6); clear hb6))
    go_ret
    exact ⟨by rfl, HB6.out⟩
end Go.Proofs.YtpdledjgbgalcaaGreatDoor
namespace Go.Proofs.YtpdledjgbgalcaaGreatDoor
open Go.RowKit Go.Lib
set_option linter.unusedVariables false
set_option linter.unusedSimpArgs false
/-- The signed fields. -/
def encS (r : Rcp) : List Int := encSg r.hd.toNat r.vt.toNat r.s r.ix.toNat r.sz.toNat r.dy.toNat r.sr.toNat
theorem byt_app {a b : List Int} (ha : Byt a) (hb : Byt b) : Byt (a ++ b) := fun x hx => by
  rcases List.mem_append.1 hx with h | h
  · exact ha x h
  · exact hb x h
theorem encSg_byt (hd vt ix sz dy sr : Nat) (s : ByteArray) : Byt (encSg hd vt s ix sz dy sr) :=
  byt_app (enc_rng hd) (byt_app (enc_rng vt) (byt_app (sB_rng s) (byt_app (enc_rng ix) (byt_app (enc_rng sz) (byt_app (enc_rng dy) (enc_rng sr))))))
theorem encSg_pos (hd vt ix sz dy sr : Nat) (s : ByteArray) (hs : s.size = 32) : 0 < (encSg hd vt s ix sz dy sr).length := by
  unfold encSg
  simp only [List.length_append, sB_len, hs]
  omega
set_option maxRecDepth 100000 in
set_option maxHeartbeats 8000000 in
theorem leaf_any (r : Rcp) (ps qs rs : List ByteArray) (w : World) (hG : Glob w) (hv : vaB r ps qs rs = true) :
    Calls Tryz.prog 89 #[.agg (cR r)] w fun e w' => e = .returned (.string (leafS (encS r))) ∧ Below w.heap.size w w' := by
  obtain ⟨W1, hW1⟩ : ∃ W1 : World, W1 = w.alloc (.cells (cR r) tR) := ⟨_, rfl⟩
  have hb1 : Below w.heap.size w W1 := by rw [hW1]; exact (Below.refl _ _).alloc (Nat.le_refl _) _
  have hs1 : W1.heap.size = w.heap.size + 1 := by rw [hW1]; simp
  have hc1 : W1.heap[w.heap.size]? = some (.cells (cR r) tR (0, 0)) := by rw [hW1]; exact heap_alloc_new w _
  have HWE := Lib.hid hW1
  obtain ⟨y0, y1, y2, y3, y4, y5, y6, _⟩ := vaB_facts hv
  obtain ⟨hd, vt, s, ix, sz, dy, sr, ct, pl, rt, pa, si, pb, pc⟩ := r
  dsimp only at y0 y1 y2 y3 y4 y5 y6
  obtain ⟨hd, rfl⟩ : ∃ k : Nat, hd = k := ⟨hd.toNat, by omega⟩
  obtain ⟨vt, rfl⟩ : ∃ k : Nat, vt = k := ⟨vt.toNat, by omega⟩
  obtain ⟨ix, rfl⟩ : ∃ k : Nat, ix = k := ⟨ix.toNat, by omega⟩
  obtain ⟨sz, rfl⟩ : ∃ k : Nat, sz = k := ⟨sz.toNat, by omega⟩
  obtain ⟨dy, rfl⟩ : ∃ k : Nat, dy = k := ⟨dy.toNat, by omega⟩
  obtain ⟨sr, rfl⟩ : ∃ k : Nat, sr = k := ⟨sr.toNat, by omega⟩
  obtain ⟨W3, hW3⟩ : ∃ W3 : World, W3 = W1.alloc (.cells #[.slice none 0 0, .int .i64 0] 217) := ⟨_, rfl⟩
  have h23 : Below W1.heap.size W1 W3 := by rw [hW3]; exact (Below.refl _ _).alloc (Nat.le_refl _) _
  have h03 : Below w.heap.size w W3 := hb1.trans (h23.mono hb1.size)
  have hc3 : W3.heap[w.heap.size]? = some (.cells (cR ⟨hd, vt, s, ix, sz, dy, sr, ct, pl, rt, pa, si, pb, pc⟩) tR (0, 0)) := (h23.block _ (by omega)).trans hc1
  have h0 : Wc W1.heap.size (W1.heap.size + 1) (.slice none 0 0) W3 [] W3 := by rw [hW3]; exact Wc.start (Wr.new W1)
  have hst := h0.step (P := Tryz.prog) (fun v' hv' _ => wsigned_any W1.heap.size (W1.heap.size + 1) v' _ hd vt ix sz dy sr s rt ct pl si pa pb pc W3 hv' y2 (by omega) (by simp))
  have HC0 := Lib.hid hst
  have HR3 := Lib.hid (rangeR hc3)
  have HW3 := Lib.hid hW3
  have HS1 := Lib.hid hs1
  have hsl := encSg_len hd vt ix sz dy sr s y2
  have hsp := encSg_pos hd vt ix sz dy sr s y2
  have HBW : Hid (∀ bs V, Wc W1.heap.size (W1.heap.size + 1) (.slice none 0 0) W3 bs V → Below w.heap.size w V) := fun bs V h => by
    obtain ⟨v1, _, hb, _⟩ := h
    exact h03.trans (hb.below h03.size (fun i hi => by
      rcases hi with rfl | hi
      · omega
      · cases hi))
  have HLF : Hid (∀ (V : World) A' n' c', Below w.heap.size w V → Sl fB V V.heap.size A' n' (encSg hd vt s ix sz dy sr) → n' ≤ c' → Calls Tryz.prog 151 #[.slice A' n' c'] V fun e w' => e = .returned (.string (leafS (encS ⟨hd, vt, s, ix, sz, dy, sr, ct, pl, rt, pa, si, pb, pc⟩))) ∧ Below V.heap.size V w') := fun V A' n' c' hb hs hc =>
    mleaf_any A' n' c' V.heap.size _ V (hG.on hb) hs hc (Nat.le_refl _) (by have := hs.1; omega) (encSg_byt _ _ _ _ _ _ _) (own_hA hs (by have := hs.1; omega))
  have HDN : Hid (∀ V, Wc W1.heap.size (W1.heap.size + 1) (.slice none 0 0) W3 ([] ++ encSg hd vt s ix sz dy sr) V → Calls Tryz.prog 78 #[.pointer (some ⟨W1.heap.size, 0, none⟩)] V (Slc2 fB ([] ++ encSg hd vt s ix sz dy sr) 0 V)) := fun V h => by
    obtain ⟨v9, hw9, _, _⟩ := h
    exact wdone_any _ _ v9 _ V hw9 (by rw [List.nil_append]; omega)
  clear hv y0 y1 y2 y3 y4 y5 y6 hW1 hb1 hs1 hc1 hW3 h23 h03 hc3 h0 hst hsl hsp hG
  go_enter Tryz.func89, Tryz.ntmps89
  go_upto_region 1 with fail
  rw [← HWE.out]
  go_wp2_with fail
  refine (newWriter_any W1).mono ?_
  rintro e V1 ⟨rfl, hV1⟩
  rw [← HW3.out] at hV1
  subst hV1
  go_wp2_with (first
    | (with_reducible refine wpList_load_mid (op := ⟨some 8, _, _, _, _, _⟩) rfl tR (.tmp 1) rfl w.heap.size 0 rfl (cR ⟨hd, vt, s, ix, sz, dy, sr, ct, pl, rt, pa, si, pb, pc⟩).toList _ HR3.out Tryz.underlying35 rfl (sizeRL ⟨hd, vt, s, ix, sz, dy, sr, ct, pl, rt, pa, si, pb, pc⟩) ?_)
    | (go_at_call 150; (with_reducible refine HC0.out.mono ?_)))
  rintro e V2 ⟨rfl, h2⟩
  have HD := Lib.hid (HDN.out V2 h2)
  have HB2 := Lib.hid (HBW.out _ V2 h2)
  clear h2
  go_wp2_with fail
  refine HD.out.mono ?_
  rintro e VX ⟨A9, n9, c9, rfl, q1, q2, q3⟩
  have HB3 := Lib.hid (HB2.out.trans (q3.mono HB2.out.size))
  have HL9 := Lib.hid (HLF.out VX A9 n9 c9 HB3.out q2 q1)
  clear q1 q2 q3
  go_wp2_with (go_at_call 151; (with_reducible refine HL9.out.mono ?_); rintro e w9 ⟨rfl, hb9⟩; (have HB9 := Lib.hid (HB3.out.trans (hb9.mono HB3.out.size))); clear hb9)
  go_ret
  exact ⟨rfl, HB9.out⟩
/-- What a batch's digest is of. -/
def encB (rt : ByteArray) (ct : Nat) : List Int := ((enc 8 ++ [114, 101, 99, 101, 105, 112, 116, 115]) ++ sB rt) ++ enc ct
theorem encB_len (rt : ByteArray) (ct : Nat) (h : rt.size = 32) : (encB rt ct).length ≤ 60 ∧ 32 ≤ (encB rt ct).length := by
  unfold encB
  simp only [List.length_append, sB_len, h]
  have h1 := enc_len 8
  have h2 := enc_len ct
  simp only [List.length_cons, List.length_nil]
  omega
theorem encB_byt (rt : ByteArray) (ct : Nat) : Byt (encB rt ct) :=
  byt_app (byt_app (byt_app (enc_rng 8) (by
    intro z hz
    (rcases List.mem_cons.1 hz with rfl | hz; · omega); (rcases List.mem_cons.1 hz with rfl | hz; · omega); (rcases List.mem_cons.1 hz with rfl | hz; · omega); (rcases List.mem_cons.1 hz with rfl | hz; · omega); (rcases List.mem_cons.1 hz with rfl | hz; · omega); (rcases List.mem_cons.1 hz with rfl | hz; · omega); (rcases List.mem_cons.1 hz with rfl | hz; · omega); (rcases List.mem_cons.1 hz with rfl | hz; · omega); cases hz)) (sB_rng rt)) (enc_rng ct)
/-- The digest of a batch. -/
def btS (rt : ByteArray) (ct : Nat) : ByteArray := baOf (shaB (encB rt ct))
theorem btS_size (rt : ByteArray) (ct : Nat) : (btS rt ct).size = 32 := by unfold btS; rw [← sB_len, baOf_sB (shaB_byt _), shaB_len]
set_option maxRecDepth 100000 in
set_option maxHeartbeats 8000000 in
theorem batch_any (rt : ByteArray) (ct : Nat) (w : World) (hG : Glob w) (hrt : rt.size = 32) (hct : ct ≤ 256) :
    Calls Tryz.prog 91 #[.string rt, .int .i64 ct] w fun e w' => e = .returned (.string (btS rt ct)) ∧ Below w.heap.size w w' := by
  obtain ⟨W3, hW3⟩ : ∃ W3 : World, W3 = w.alloc (.cells #[.slice none 0 0, .int .i64 0] 217) := ⟨_, rfl⟩
  have h03 : Below w.heap.size w W3 := by rw [hW3]; exact (Below.refl _ _).alloc (Nat.le_refl _) _
  have h0 : Wc w.heap.size (w.heap.size + 1) (.slice none 0 0) W3 [] W3 := by rw [hW3]; exact Wc.start (Wr.new w)
  have HW3 := Lib.hid hW3
  have HBW : Hid (∀ bs V, Wc w.heap.size (w.heap.size + 1) (.slice none 0 0) W3 bs V → Below w.heap.size w V) := fun bs V h => by
    obtain ⟨v1, _, hb, _⟩ := h
    exact h03.trans (hb.below h03.size (fun i hi => by
      rcases hi with rfl | hi
      · omega
      · cases hi))
  have H1 := Lib.hid (h0.step (P := Tryz.prog) (fun v' hv' _ => wtext_any w.heap.size (w.heap.size + 1) v' _ ⟨#[114, 101, 99, 101, 105, 112, 116, 115]⟩ W3 hv' (by decide) (by simp)))
  have hl8 := enc_len 8
  have hlc := enc_len ct
  have HST2 : Hid (∀ V, Wc w.heap.size (w.heap.size + 1) (.slice none 0 0) W3 ([] ++ (enc 8 ++ [114, 101, 99, 101, 105, 112, 116, 115])) V → Calls Tryz.prog 77 #[.pointer (some ⟨w.heap.size, 0, none⟩), .string rt] V fun e w' => e = .returned (.tuple #[]) ∧ Wc w.heap.size (w.heap.size + 1) (.slice none 0 0) W3 (([] ++ (enc 8 ++ [114, 101, 99, 101, 105, 112, 116, 115])) ++ sB rt) w') := fun V h =>
    h.step (P := Tryz.prog) (fun v' hv' _ => wsum_any w.heap.size (w.heap.size + 1) v' _ rt V hv' hrt (by simp only [List.length_append, List.length_nil, List.length_cons]; omega))
  have HST3 : Hid (∀ V, Wc w.heap.size (w.heap.size + 1) (.slice none 0 0) W3 (([] ++ (enc 8 ++ [114, 101, 99, 101, 105, 112, 116, 115])) ++ sB rt) V → Calls Tryz.prog 73 #[.pointer (some ⟨w.heap.size, 0, none⟩), .int .u64 ct] V fun e w' => e = .returned (.tuple #[]) ∧ Wc w.heap.size (w.heap.size + 1) (.slice none 0 0) W3 ((([] ++ (enc 8 ++ [114, 101, 99, 101, 105, 112, 116, 115])) ++ sB rt) ++ enc ct) w') := fun V h =>
    h.step (P := Tryz.prog) (fun v' hv' _ => wuint_any w.heap.size (w.heap.size + 1) v' _ ct V hv' (by omega) (by simp only [List.length_append, List.length_nil, List.length_cons, sB_len, hrt]; omega))
  have HDN : Hid (∀ V, Wc w.heap.size (w.heap.size + 1) (.slice none 0 0) W3 ((([] ++ (enc 8 ++ [114, 101, 99, 101, 105, 112, 116, 115])) ++ sB rt) ++ enc ct) V → Calls Tryz.prog 78 #[.pointer (some ⟨w.heap.size, 0, none⟩)] V (Slc2 fB (encB rt ct) 0 V)) := fun V h => by
    obtain ⟨v9, hw9, _, _⟩ := h
    have h9 : Wr V w.heap.size (w.heap.size + 1) v9 (encB rt ct) := hw9
    exact wdone_any _ _ v9 _ V h9 (by have := encB_len rt ct hrt; omega)
  have HSU : Hid (∀ (V : World) A' n' c', Below w.heap.size w V → Sl fB V V.heap.size A' n' (encB rt ct) → n' ≤ c' → Calls Tryz.prog 154 #[.slice A' n' c'] V fun e w' => e = .returned (.string (btS rt ct)) ∧ Below V.heap.size V w') := fun V A' n' c' hb hs hc => by
    have hl := encB_len rt ct hrt
    exact ssum_any A' n' c' V.heap.size _ V (hG.on hb) hs hc (Nat.le_refl _) (by have := hs.1; omega) (encB_byt rt ct) (own_hA hs (by have := hs.1; omega))
  have hwc : (ct : Int) % 18446744073709551616 = ct := by omega
  clear hG hW3 h03 h0 hl8 hlc hrt
  go_enter Tryz.func91, Tryz.ntmps91
  go_wp2_with fail
  refine (newWriter_any w).mono ?_
  rintro e V1 ⟨rfl, hV1⟩
  rw [← HW3.out] at hV1
  subst hV1
  go_wp2_with fail
  refine H1.out.mono ?_
  rintro e V2 ⟨rfl, h2⟩
  have HD2 := Lib.hid (HST2.out V2 h2)
  clear h2
  go_wp2_with fail
  refine HD2.out.mono ?_
  rintro e V3 ⟨rfl, h3⟩
  have HD3 := Lib.hid (HST3.out V3 h3)
  clear h3
  go_wp2_with fail
  refine HD3.out.mono ?_
  rintro e V4 ⟨rfl, h4⟩
  have HD4 := Lib.hid (HDN.out V4 h4)
  have HB4 := Lib.hid (HBW.out _ V4 h4)
  clear h4
  go_wp2_with fail
  refine HD4.out.mono ?_
  rintro e VX ⟨A9, n9, c9, rfl, q1, q2, q3⟩
  have HB3 := Lib.hid (HB4.out.trans (q3.mono HB4.out.size))
  have HL9 := Lib.hid (HSU.out VX A9 n9 c9 HB3.out q2 q1)
  clear q1 q2 q3
  go_wp2_with (go_at_call 154; (with_reducible refine HL9.out.mono ?_); rintro e w9 ⟨rfl, hb9⟩; (have HB9 := Lib.hid (HB3.out.trans (hb9.mono HB3.out.size))); clear hb9)
  go_ret
  exact ⟨rfl, HB9.out⟩
end Go.Proofs.YtpdledjgbgalcaaGreatDoor
namespace Go.Proofs.YtpdledjgbgalcaaGreatDoor
open Go.RowKit Go.Lib
set_option linter.unusedVariables false
set_option linter.unusedSimpArgs false
end Go.Proofs.YtpdledjgbgalcaaGreatDoor
namespace Go.Proofs.YtpdledjgbgalcaaGreatDoor
open Go.RowKit Go.Lib
set_option linter.unusedVariables false
set_option linter.unusedSimpArgs false
end Go.Proofs.YtpdledjgbgalcaaGreatDoor
