/- gf256: Scale, MulAdd. -/
import Derived.Test.YtpbeaghghlfiaaaA3
namespace Go.Proofs.Ytpbeaghghlfiaaa
open Go.RowKit Go.Lib
set_option linter.unusedVariables false
set_option linter.unusedSimpArgs false
/-- A row of values as a block's cells. -/
abbrev rowA {α : Type} (f : α → Value) (l : List α) : Array Value := (l.map f).toArray
theorem rowA_set {α : Type} (f : α → Value) (l : List α) (k : Nat) (x : α) : (rowA f l).setIfInBounds k (f x) = rowA f (l.set k x) := by simp [rowA, List.map_set]
theorem rowA_size {α : Type} (f : α → Value) (l : List α) : (rowA f l).size = l.length := by simp [rowA]
theorem rowA_zero (n : Nat) : Array.replicate n (Value.int .u8 0) = rowA fN (List.replicate n 0) := by simp [rowA]
theorem Own.of_block {α : Type} {f : α → Value} {t : TypeId} {w : World} {g base : Nat} {l : List α} (h : w.heap[g]? = some (.cells (rowA f l) t (0, 0))) (hb : base ≤ g) (hl : l.length ≤ maxLen) : Own f t w base (.slice (some ⟨g, 0, none⟩) l.length l.length) l :=
  ⟨by simp, .inr ⟨g, l.length, _, rfl, hb, h, Nat.le_refl _, hl, by simp [rowA], by rw [Nat.mul_one]; exact List.take_of_length_le (by simp)⟩⟩
theorem Try.infoB8 : (Try.prog.info? 5).map (fun i => (i.zero, i.size, i.bytes)) = some (some (.int .u8 0), 1, 1) := by kernel_rfl
theorem Try.infoBR : (Try.prog.info? 30).map (fun i => (i.zero, i.size, i.bytes)) = some (some (.slice none 0 0), 1, 24) := by kernel_rfl
theorem info_parts {P : Program} {t : TypeId} {z : Option Value} {s b : Nat} (h : (P.info? t).map (fun i => (i.zero, i.size, i.bytes)) = some (z, s, b)) : ∃ i, P.info? t = some i ∧ i.zero = z ∧ i.size = s ∧ i.bytes = b := by
  cases hi : P.info? t with
  | none => rw [hi] at h; cases h
  | some i => rw [hi] at h; simp at h; exact ⟨i, rfl, h.1, h.2.1, h.2.2⟩
theorem made_rep (v : Value) (h : v.cells = #[v]) (n : Nat) : madeCells v.cells (n * 1) = Array.replicate n v := by
  rw [Nat.mul_one, h]
  refine Array.ext_getElem? (fun j => ?_)
  rw [Array.getElem?_replicate]
  simp only [madeCells]
  by_cases hj : j < n
  · rw [if_pos hj]; simp [hj, Nat.mod_one]
  · rw [if_neg hj]; simp [hj]
theorem run_makeB (n : Nat) (hn : n ≤ 1000000) (w : World) : (Instr.makeSlice 30 (.int .i64 (n : Int)) (.int .i64 (n : Int))).run Try.prog w = .ok (.slice (some ⟨w.heap.size, 0, none⟩) n n) (w.alloc (.cells (Array.replicate n (.int .u8 0)) T8)) := by
  obtain ⟨i, h1, h2, h3, h4⟩ := info_parts Try.infoB8
  have h := run_make (P := Try.prog) w 30 T8 i _ Try.underlying30 h1 h2 .i64 .i64 n n (by omega) (by omega) (by rw [h4]; omega) (by omega)
  rw [h3, Int.toNat_natCast, made_rep _ rfl] at h
  exact h
theorem run_makeR (n : Nat) (hn : n ≤ 1000000) (w : World) : (Instr.makeSlice 22 (.int .i64 (n : Int)) (.int .i64 (n : Int))).run Try.prog w = .ok (.slice (some ⟨w.heap.size, 0, none⟩) n n) (w.alloc (.cells (Array.replicate n (.slice none 0 0)) TR)) := by
  obtain ⟨i, h1, h2, h3, h4⟩ := info_parts Try.infoBR
  have h := run_make (P := Try.prog) w 22 TR i _ Try.underlying22 h1 h2 .i64 .i64 n n (by omega) (by omega) (by rw [h4]; omega) (by omega)
  rw [h3, Int.toNat_natCast, made_rep _ rfl] at h
  exact h
set_option maxRecDepth 20000 in
theorem scale_any (A : Option Addr) (c0 c B : Nat) (xs : List Nat) (w : World) (hx : SL fN w B A xs) (hB : B ≤ w.heap.size) (hb : Bys xs) (hn : xs.length ≤ 1000000) (hc : c < 256) :
    Calls Try.prog 51 #[.slice A xs.length c0, fN c] w (OwP (sclv c xs) w) := by
  have HC := Lib.hid hc
  have HX := Lib.hid hx
  have HB := Lib.hid hB
  have HY := Lib.hid hb
  have HN : Hid (xs.length ≤ maxLen) := by show _ ≤ _; unfold maxLen; omega
  have HM := Lib.hid (multiplier_any c hc w)
  have hmk := run_makeB xs.length hn
  clear hc hx hB hb
  go_enter Try.func51, Try.ntmps51
  go_upto_region 2 with (go_at_call 63; (with_reducible refine HM.out.mono ?_); rintro e w1 ⟨l, h, rfl, hl, hh, hb1⟩; (have HL := Lib.hid hl); (have HH := Lib.hid hh); (have HB1 := Lib.hid hb1); clear hl hh hb1)
  go_upto_region 3 with fail
  obtain ⟨W2, hW2⟩ : ∃ W, W = w1.alloc (.cells (Array.replicate xs.length (Value.int .u8 0)) T8) := ⟨_, rfl⟩
  rw [← hW2]
  have hg2 : W2.heap[w1.heap.size]? = some (.cells (rowA fN (List.replicate xs.length 0)) T8 (0, 0)) := by rw [hW2, ← rowA_zero]; exact heap_alloc_new w1 _
  have hb2 : Below w1.heap.size w1 W2 := by rw [hW2]; exact (Below.refl _ _).alloc (Nat.le_refl _) _
  rw [← fill_zero (mulN c) 0 xs] at hg2
  have HG2 := Lib.hid hg2
  have HB2 := Lib.hid hb2
  have HR2 : Hid (But (fun i => i = w1.heap.size) W2 W2) := But.refl _ _
  clear hg2 hb2 hW2 HM hmk
  go_wp2_with fail
  go_loopw [16] (fun i wr => ∃ k : Nat, k ≤ xs.length ∧ i = .int .i64 k ∧ Hid (But (fun i => i = w1.heap.size) W2 wr) ∧ Hid (wr.heap[w1.heap.size]? = some (.cells (rowA fN (fill (mulN c) 0 xs k)) T8 (0, 0)))) (fun i _ => xs.length - (intOf i).toNat)
  case atStart => exact ⟨0, Nat.zero_le _, rfl, HR2, HG2⟩
  case round =>
    clear HR2 HG2
    obtain ⟨k, hk, rfl, HR, HG⟩ := hrel
    have HBw : Hid (Below w.heap.size w wr) := HR.out.below (HB1.out.trans (HB2.out.mono HB1.out.size)) (Nat.le_trans HB1.out.size HB2.out.size) (fun i hi => by subst hi; exact HB1.out.size)
    by_cases hlt : k < xs.length
    · obtain ⟨b, off, x, rfl, hbB, hxk, hcx⟩ := (SL.up HX.out HBw.out HB.out).at_ hlt
      have hxb : x < 256 := HY.out _ (List.mem_of_getElem? hxk)
      have hl2 : wr.heap[l]? = some (.cells (tabM c 1 16) T16 (0, 0)) := (HR.out.block l (Nat.lt_of_lt_of_le (lt_block HL.out) HB2.out.size) (Nat.ne_of_lt (lt_block HL.out))).trans ((HB2.out.block l (lt_block HL.out)).trans HL.out)
      have hh2 : wr.heap[h]? = some (.cells (tabM c 16 16) T16 (0, 0)) := (HR.out.block h (Nat.lt_of_lt_of_le (lt_block HH.out) HB2.out.size) (Nat.ne_of_lt (lt_block HH.out))).trans ((HB2.out.block h (lt_block HH.out)).trans HH.out)
      have HF := Lib.hid (lookup_any c x l h HC.out hxb wr hl2 hh2)
      have HS := Lib.hid (fill_step (mulN c) 0 hxk)
      have hs1 : k < (rowA fN (fill (mulN c) 0 xs k)).size := by rw [rowA_size, fill_len _ _ _ hk]; exact hlt
      clear hl2 hh2 hxb hxk
      go_wp2_with (first
        | (go_at_call 70; (with_reducible refine HF.out.mono ?_); rintro e w4 ⟨rfl, m, hw4⟩; (have HG4 : Hid (w4.heap[w1.heap.size]? = some (.cells (rowA fN (fill (mulN c) 0 xs k)) T8 (0, 0))) := (by show _ = _; rw [hw4]; exact HG.out)); (have HR4 : Hid (But (fun i => i = w1.heap.size) W2 w4) := (by show But ..; rw [hw4]; exact ⟨HR.out.os, HR.out.tape, HR.out.output, HR.out.size, HR.out.block⟩)); clear hw4)
        | ((with_reducible refine wpList_store_at1 rfl 5 (.tmp 26) (.tmp 25) rfl w1.heap.size T8 k (rowA fN (fill (mulN c) 0 xs k)) (fN (mulN c x)) rfl rfl HG4.out hs1 Try.sizeB rfl ?_); intro W5 HG5 HB5))
      rw [rowA_set, HS.out] at HG5
      go_roundw
      case rel => exact ⟨k + 1, by omega, by go_num, HR4.out.trans HB5.out (fun i hi => .inl hi), HG5⟩
      case measure => simp [intOf]; omega
    · obtain rfl : k = xs.length := by omega
      rw [fill_all] at HG
      have HL2 : Hid ((sclv c xs).length = xs.length) := sclv_len _ _
      go_wp2_with fail
      go_ret
      refine ⟨_, rfl, ?_, HBw.out⟩
      have h := Own.of_block (f := fN) (l := sclv c xs) (base := w.heap.size) HG.out HB1.out.size (by rw [HL2.out]; exact HN.out)
      rw [HL2.out] at h
      exact h
end Go.Proofs.Ytpbeaghghlfiaaa
