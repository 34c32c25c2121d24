/- The reference's DecodeAcquittal, for any body. -/
import Derived.Test.YtnfkjnmdfijhnaaGreatDoorT7
import Derived.Test.YtnfkjnmdfijhnaaGreatDoorMq
import Derived.Test.YtnfkjnmdfijhnaaGreatDoorQ5
namespace Go.Proofs.YtnfkjnmdfijhnaaGreatDoor
open Go.RowKit Go.Lib
set_option linter.unusedVariables false
set_option linter.unusedSimpArgs false

theorem Tryz.sizeBs : (Tryz.prog.info? 24).map (·.size) = some 1 := by kernel_rfl
theorem wpList_conv_sb2 {w : World} {ops : Array Oper} {rest : List Oper} {o : Oper} {a : Act} {Q : Exit → Act → World → Prop} (hgd : o.guard = none) (x : Operand) (ho : o.op = .convert 9 24 x) (s : ByteArray) (hx : a.eval x = .string s)
    (h : ∀ c W, Hid (Sl fB W W.heap.size (some ⟨w.heap.size, 0, none⟩) s.size (sB s)) → Hid (s.size ≤ c) → Hid (Below w.heap.size w W) → wpList Tryz.prog ops Q rest (a.put o.dst (.slice (some ⟨w.heap.size, 0, none⟩) s.size c)) W) : wpList Tryz.prog ops Q (o :: rest) a w := by
  refine wpList_plain hgd fun _ hK => ?_
  unfold Oper.wp execOp
  simp only [ho, hx, Sem.run_bind, run_bytes_of_string (P := Tryz.prog) w 9 24 5 s Tryz.underlying9 Tryz.underlying24 Tryz.underlying5, Result.andThen_ok]
  refine hK _ _ (h _ _ (sl_bytesRow (heap_alloc_new w.drew _) (by simp)) (grownCap_ge w s.size 0 _) ?_)
  exact (Below.drew (Below.refl _ _)).alloc (Nat.le_refl _) _
def rz1 (bs : List Int) : Int × RS := rI2 bs (0, 0)
def rz2 (bs : List Int) : Int × RS := rI2 bs (rz1 bs).2
def rz3 (bs : List Int) : ByteArray × RS := rS bs (rz2 bs).2
def rz4 (bs : List Int) : Int × RS := rI2 bs (rz3 bs).2
def rz5 (bs : List Int) : ByteArray × RS := rT bs 65536 (rz4 bs).2
def rz6 (bs : List Int) : List ByteArray × RS := rL bs 16 (rz5 bs).2
def okZ (bs : List Int) : Bool := decide (rEnd bs (rz6 bs).2 = 0) && (numB (rz1 bs).1 (rz2 bs).1 && shL (rz3 bs).1 (rz4 bs).1 (sB (rz5 bs).1) (rz6 bs).1)
/-- What the reference's DecodeAcquittal hands back. -/
def RQPost (bs : List Int) (w : World) (e : Ending) (w' : World) : Prop :=
  (okZ bs = true ∧ ∃ p : Pc, p.s = (rz3 bs).1 ∧ p.ix = (rz4 bs).1 ∧ e = .returned (.tuple #[.int .i64 (rz1 bs).1, .int .i64 (rz2 bs).1, .agg (cPc p), .int .i64 0]) ∧ PcIn w' w'.heap.size p (sB (rz5 bs).1) (rz6 bs).1 ∧ Below w.heap.size w w')
  ∨ (okZ bs = false ∧ e = .returned (.tuple #[.int .i64 0, .int .i64 0, .agg zPc, .int .i64 3]) ∧ Below w.heap.size w w')
theorem Sl.butq {f : Int → Value} {w w' : World} {p : Nat → Prop} {b n : Nat} {xs : List Int} (h : Sl f w w.heap.size (some ⟨b, 0, none⟩) n xs) (hb : But p w w') (hp : ¬ p b) : Sl f w' w'.heap.size (some ⟨b, 0, none⟩) n xs :=
  ⟨h.1, fun hn => by
    obtain ⟨b', off, e, hlt, hc⟩ := h.2 hn
    cases e
    exact ⟨_, _, rfl, Nat.lt_of_lt_of_le hlt hb.size, hc.keep (hb.block _ hlt hp)⟩⟩
theorem range4 {w : World} {b : Nat} {t : TypeId} {p : Pc} (h : w.heap[b]? = some (.cells (cPc p) t (0, 0))) : w.rangeAt b 0 (cPc p).toList := fun j v hv => by
  rw [Nat.zero_add, cell_of_row w b j _ _ _ h, ← Array.getElem?_toList]; exact hv
theorem size4L (p : Pc) : (Tryz.prog.info? 27).map (·.size) = some (cPc p).toList.length := Tryz.sizePiece
set_option maxRecDepth 100000 in
set_option maxHeartbeats 4000000 in
theorem racq_no (dv sq k dy : Int) (pr : ByteArray) (A : Option Addr) (n c : Nat) (w : World) (hk : k ≠ 7) :
    Calls Tryz.prog 16 #[.agg #[.int .i64 dv, .int .i64 sq, .int .i64 k, .int .i64 dy, .slice A n c, .string pr]] w fun e w' => e = .returned (.tuple #[.int .i64 0, .int .i64 0, .agg zPc, .int .i64 1]) ∧ Below w.heap.size w w' := by
  have hkb : (k != 7) = true := by simp [hk]
  obtain ⟨W1, hW1⟩ : ∃ W1 : World, W1 = (w.alloc (.cells #[.int .i64 dv, .int .i64 sq, .int .i64 k, .int .i64 dy, .slice A n c, .string pr] 45)).alloc (.cells zPc 27) := ⟨_, rfl⟩
  have HB1 : Hid (Below w.heap.size w W1) := by show Below _ _ _; rw [hW1]; exact ((Below.refl _ _).alloc (Nat.le_refl _) _).alloc (by simp) _
  have HG3 : Hid (W1.heap[w.heap.size + 1]? = some (.cells zPc 27 (0, 0))) := by
    show _ = _
    rw [hW1]
    have := heap_alloc_new (w.alloc (.cells #[.int .i64 dv, .int .i64 sq, .int .i64 k, .int .i64 dy, .slice A n c, .string pr] 45)) (.cells zPc 27)
    simpa using this
  have HWE := Lib.hid hW1
  clear hW1
  go_enter Tryz.func16, Tryz.ntmps16
  go_wp2_with (first
    | ((with_reducible refine wpList_store_but (o := ⟨none, _, _, _, _, _⟩) rfl 27 (.tmp 4) (.tmp 15) rfl (w.heap.size + 1) 27 zPc zPc rfl rfl (by rw [← HWE.out]; exact HG3.out) zpc_size rfl (by kernel_rfl) ?_); intro W7 HG7 HB7))
  rw [← HWE.out] at HB7
  refine bodyPost_ret (results_tpct rfl _ _ _ _ _ _ _ rfl HG7.out Tryz.underlying27 rfl zpc_size) rfl ⟨rfl, HB1.out.trans (HB7.out.below HB1.out.size (fun i hi => by subst hi; omega))⟩
set_option maxRecDepth 100000 in
set_option maxHeartbeats 16000000 in
theorem racq_any (dv sq dy : Int) (pr : ByteArray) (A : Option Addr) (n c B : Nat) (bs : List Int) (w : World) (hx : Sl fB w B A n bs) (hB : B ≤ w.heap.size) (hk : RK bs n c) :
    Calls Tryz.prog 16 #[.agg #[.int .i64 dv, .int .i64 sq, .int .i64 7, .int .i64 dy, .slice A n c, .string pr]] w (RQPost bs w) := by
  have hl : bs.length = n := hx.1
  have hp0 : (0, (0 : Int)).1 ≤ n := Nat.zero_le _
  have hp1 : (rz1 bs).2.1 ≤ n := rI2_le hl hp0
  have hp2 : (rz2 bs).2.1 ≤ n := rI2_le hl hp1
  have hp3 : (rz3 bs).2.1 ≤ n := rS_le hl hp2
  have hp4 : (rz4 bs).2.1 ≤ n := rI2_le hl hp3
  have hp5 : (rz5 bs).2.1 ≤ n := rT_le hl hp4
  have hp6 : (rz6 bs).2.1 ≤ n := rL_le hl hp5
  obtain ⟨W1, hW1⟩ : ∃ W1 : World, W1 = (w.alloc (.cells #[.int .i64 dv, .int .i64 sq, .int .i64 7, .int .i64 dy, .slice A n c, .string pr] 45)).alloc (.cells zPc 27) := ⟨_, rfl⟩
  have hb1 : Below w.heap.size w W1 := by rw [hW1]; exact ((Below.refl _ _).alloc (Nat.le_refl _) _).alloc (by simp) _
  have hs1 : W1.heap.size = w.heap.size + 1 + 1 := by rw [hW1]; simp
  have hge : W1.heap[w.heap.size]? = some (.cells #[.int .i64 dv, .int .i64 sq, .int .i64 7, .int .i64 dy, .slice A n c, .string pr] 45 (0, 0)) := by rw [hW1, Below.heap_alloc _ _ _ (by simp)]; exact heap_alloc_new w _
  have hgz : W1.heap[w.heap.size + 1]? = some (.cells zPc 27 (0, 0)) := by
    rw [hW1]
    have := heap_alloc_new (w.alloc (.cells #[.int .i64 dv, .int .i64 sq, .int .i64 7, .int .i64 dy, .slice A n c, .string pr] 45)) (.cells zPc 27)
    simpa using this
  obtain ⟨W2, hW2⟩ : ∃ W2 : World, W2 = W1.alloc (.cells #[.slice A n c, .int .i64 0, .int .i64 0, .int .i64 0] 101) := ⟨_, rfl⟩
  have h12 : Below W1.heap.size W1 W2 := by rw [hW2]; exact (Below.refl _ _).alloc (Nat.le_refl _) _
  have hb2 : Below w.heap.size w W2 := hb1.trans (h12.mono hb1.size)
  obtain ⟨g, hgW⟩ : ∃ g, g = W1.heap.size := ⟨_, rfl⟩
  have hgE : g = w.heap.size + 1 + 1 := hgW.trans hs1
  have hgg : W2.heap[g]? = some (.cells #[.slice A n c, .int .i64 0, .int .i64 0, .int .i64 0] 101 (0, 0)) := by rw [hW2, hgW]; exact heap_alloc_new W1 _
  have hr0 : RfS g A n c bs (0, 0) W2 := ⟨⟨0, hgg⟩, (hx.up hb2 hB).more' (by omega)⟩
  have HA : Hid (∀ a, A = some a → 0 < n → a.block < w.heap.size) := fun a ha h0 => by
    obtain ⟨b, off, e, hlt, _⟩ := hx.2 (by omega)
    rw [ha] at e
    cases e
    exact Nat.lt_of_lt_of_le hlt hB
  have k4 : W1.cell? ⟨w.heap.size, 4, none⟩ = some (.slice A n c) := by rw [cell_of_row W1 _ _ _ _ _ hge]; rfl
  have k2 : W1.cell? ⟨w.heap.size, 2, none⟩ = some (.int .i64 7) := by rw [cell_of_row W1 _ _ _ _ _ hge]; rfl
  have HGZ2 : Hid (W2.heap[w.heap.size + 1]? = some (.cells zPc 27 (0, 0))) := (h12.block _ (lt_of_block hgz)).trans hgz
  have HGE := Lib.hid hgE
  have HGW := Lib.hid hgW
  have HR0 := Lib.hid hr0
  have HB2 := Lib.hid hb2
  have HWE := Lib.hid hW1
  have HWE2 := Lib.hid hW2
  have H1 : Hid (∀ V, RfS g A n c bs (0, 0) V → Calls Tryz.prog 53 #[.pointer (some ⟨g, 0, none⟩)] V (RfPost g A n c bs (.int .i64 (rz1 bs).1) (rz1 bs).2 V)) := fun V h => rint_any g A n c bs _ V h hk hp0
  have H2 : Hid (∀ V, RfS g A n c bs (rz1 bs).2 V → Calls Tryz.prog 53 #[.pointer (some ⟨g, 0, none⟩)] V (RfPost g A n c bs (.int .i64 (rz2 bs).1) (rz2 bs).2 V)) := fun V h => rint_any g A n c bs _ V h hk hp1
  have H3 : Hid (∀ V, RfS g A n c bs (rz2 bs).2 V → Calls Tryz.prog 52 #[.pointer (some ⟨g, 0, none⟩), .int .i64 6, .int .i64 0] V (RfPost g A n c bs (.agg (rv 6 0 0 (rz3 bs).1 0)) (rz3 bs).2 V)) := fun V h => rfs_any g A n c bs _ V h hk hp2
  have H4 : Hid (∀ V, RfS g A n c bs (rz3 bs).2 V → Calls Tryz.prog 53 #[.pointer (some ⟨g, 0, none⟩)] V (RfPost g A n c bs (.int .i64 (rz4 bs).1) (rz4 bs).2 V)) := fun V h => rint_any g A n c bs _ V h hk hp3
  have H5 : Hid (∀ V, RfS g A n c bs (rz4 bs).2 V → Calls Tryz.prog 52 #[.pointer (some ⟨g, 0, none⟩), .int .i64 4, .int .i64 65536] V (RfPost g A n c bs (.agg (rv 4 0 0 (rz5 bs).1 65536)) (rz5 bs).2 V)) := fun V h => rft_any g A n c bs _ V h hk hp4 65536 (by decide)
  have H6 : Hid (∀ V, RfS g A n c bs (rz5 bs).2 V → Calls Tryz.prog 56 #[.pointer (some ⟨g, 0, none⟩), .int .i64 16] V (RfLPost g A n c bs (rz6 bs) V)) := fun V h => rsl_any g A n c bs _ 16 (by decide) V h hk hp5
  have HEN : Hid (∀ V, RfS g A n c bs (rz6 bs).2 V → Calls Tryz.prog 54 #[.pointer (some ⟨g, 0, none⟩)] V fun e w' => e = .returned (.tuple #[.int .i64 (rz6 bs).2.1, .int .i64 (rEnd bs (rz6 bs).2)]) ∧ Below V.heap.size V w') := fun V h => rend01_any g A n c bs _ V h hk.2.1 hp6
  have HOK : Hid (okZ bs = (decide (rEnd bs (rz6 bs).2 = 0) && (numB (rz1 bs).1 (rz2 bs).1 && shL (rz3 bs).1 (rz4 bs).1 (sB (rz5 bs).1) (rz6 bs).1))) := rfl
  have HEZ : Hid (rEnd bs (rz6 bs).2 = 0 → (rz6 bs).2.2 = 0) := fun h => (rEnd_iff.1 h).1
  have HBL : Hid ((rz6 bs).1.length ≤ 1000000) := rL_len (by decide)
  unfold RQPost
  generalize rz1 bs = R1 at *
  generalize rz2 bs = R2 at *
  generalize rz3 bs = R3 at *
  generalize rz4 bs = R4 at *
  generalize rz5 bs = R5 at *
  generalize rz6 bs = R6 at *
  obtain ⟨z1, s1⟩ := R1
  obtain ⟨z2, s2⟩ := R2
  obtain ⟨st, s3⟩ := R3
  obtain ⟨ix, s4⟩ := R4
  obtain ⟨bd, s5⟩ := R5
  obtain ⟨qs, s6⟩ := R6
  dsimp only at H1 H2 H3 H4 H5 H6 HEN HOK HEZ HBL ⊢
  obtain ⟨er, hEr⟩ : ∃ er, rEnd bs s6 = er := ⟨_, rfl⟩
  rw [hEr] at HEN HOK HEZ
  have hf3 := fun V => fld4 6 0 0 st 0 V
  have hf5 := fun V => fld4 4 0 0 bd 65536 V
  clear hEr hx hB hl hk hp0 hp1 hp2 hp3 hp4 hp5 hp6 hb1 hs1 hge hgz hW1 hW2 h12 hb2 hgE hgW hgg hr0
  go_enter Tryz.func16, Tryz.ntmps16
  go_upto_region 3 with fail
  rw [← HWE.out]
  go_upto_region 4 with fail
  rw [← HWE2.out, ← HGW.out]
  clear k4 k2
  go_upto_region 6 with (first
    | (go_at_call 53; (with_reducible refine (H1.out _ HR0.out).mono ?_); rintro e V3 ⟨rfl, r, bb⟩; (have R3 := Lib.hid r); (have B3 := Lib.hid bb); clear r bb)
    | (go_at_call 53; (with_reducible refine (H2.out _ R3.out).mono ?_); rintro e V4 ⟨rfl, r, bb⟩; (have R4 := Lib.hid r); (have B4 := Lib.hid (B3.out.trans bb (fun i hi => .inl hi))); clear r bb)
    | (go_at_call 52; (with_reducible refine (H3.out _ R4.out).mono ?_); rintro e V5 ⟨rfl, r, bb⟩; (have R5 := Lib.hid r); (have B5 := Lib.hid (B4.out.trans bb (fun i hi => .inl hi))); clear r bb)
    | (go_at_call 53; (with_reducible refine (H4.out _ R5.out).mono ?_); rintro e V6 ⟨rfl, r, bb⟩; (have R6 := Lib.hid r); (have B6 := Lib.hid (B5.out.trans bb (fun i hi => .inl hi))); clear r bb))
  obtain ⟨a, ha⟩ : ∃ a, a = V6.heap.size := ⟨_, rfl⟩
  obtain ⟨V7, hV7⟩ : ∃ V7 : World, V7 = V6.alloc (.cells #[.string st, .int .i64 ix, .slice none 0 0, .slice none 0 0] 27) := ⟨_, rfl⟩
  have h67 : Below V6.heap.size V6 V7 := by rw [hV7]; exact (Below.refl _ _).alloc (Nat.le_refl _) _
  have hg7 : V7.heap[a]? = some (.cells #[.string st, .int .i64 ix, .slice none 0 0, .slice none 0 0] 27 (0, 0)) := by rw [hV7, ha]; exact heap_alloc_new V6 _
  have hga : g < a := by rw [ha]; exact R6.out.lt
  have D7 : Hid (DF 27 V7 V7 g A n c bs s4 a #[.string st, .int .i64 ix, .slice none 0 0, .slice none 0 0]) := ⟨R6.out.on h67, hg7, But.refl _ _, by omega, fun h0 x hx e => by have := HA.out x hx h0; have := HGE.out; omega⟩
  have HB7 : Hid (Below w.heap.size w V7) := by
    have h1 : Below w.heap.size w V6 := HB2.out.trans (B6.out.below HB2.out.size (fun i hi => by subst hi; have := HGE.out; omega))
    exact h1.trans (h67.mono h1.size)
  have HGZ7 : Hid (V7.heap[w.heap.size + 1]? = some (.cells zPc 27 (0, 0))) := by
    have h2 := (B6.out.block _ (lt_of_block HGZ2.out) (by have := HGE.out; omega)).trans HGZ2.out
    exact (h67.block _ (lt_of_block h2)).trans h2
  have HGA := Lib.hid hga
  rw [← hV7, ← ha]
  clear ha hV7 h67 hg7 hga R3 R4 R5 R6 B3 B4 B5 B6 H1 H2 H3 H4 hf3 HR0 HB2 HGZ2 HWE HWE2 HGW
  go_upto_region 9 with (first
    | (go_at_call 52; (with_reducible refine (H5.out _ D7.out.rd).mono ?_); rintro e V8 ⟨rfl, r, bb⟩; (have D8 := Lib.hid (D7.out.read r bb)); clear r bb D7)
    | ((with_reducible refine wpList_conv_sb2 (o := ⟨some 34, _, _, _, _, _⟩) rfl (.tmp 33) rfl bd rfl ?_); intro cb V9 hsl hcb hbl; (obtain ⟨bq, hbq⟩ : ∃ bq, bq = V8.heap.size := ⟨_, rfl⟩); (rw [← hbq] at hsl ⊢); (have HQA : Hid (a < bq) := (by show _ < _; rw [hbq]; exact lt_of_block D8.out.pc)); (have D9 := Lib.hid (D8.out.keep hbl.out)); (have HSD : Hid (Sl fB V9 V9.heap.size (some ⟨bq, 0, none⟩) bd.size (sB bd)) := hsl); (have HCB : Hid (bd.size ≤ cb) := hcb); clear hsl hcb hbl hbq D8)
    | ((with_reducible refine wpList_store_at1 (o := ⟨none, _, _, _, _, _⟩) rfl 24 (.tmp 35) (.tmp 34) rfl a 27 2 #[.string st, .int .i64 ix, .slice none 0 0, .slice none 0 0] (.slice (some ⟨bq, 0, none⟩) bd.size cb) (by kernel_rfl) rfl D9.out.pc (lt_rf (by decide)) Tryz.sizeBs (by kernel_rfl) ?_); intro V10 hg hb; (have HSD2 : Hid (Sl fB V10 V10.heap.size (some ⟨bq, 0, none⟩) bd.size (sB bd)) := HSD.out.butq hb.out (fun e => by have := HQA.out; omega)); (have D10 : Hid (DF 27 V7 V10 g A n c bs s5 a #[.string st, .int .i64 ix, .slice (some ⟨bq, 0, none⟩) bd.size cb, .slice none 0 0]) := D9.out.set hg.out hb.out); clear hg hb D9 HSD)
    | (go_at_call 56; (with_reducible refine (H6.out _ D10.out.rd).mono ?_); rintro e V11 ⟨Aq, nq, cq, yq, rfl, ho, hy, r, bb⟩; (have HSD3 : Hid (Sl fB V11 V11.heap.size (some ⟨bq, 0, none⟩) bd.size (sB bd)) := HSD2.out.butq bb (fun e => by have := HQA.out; have := HGA.out; omega)); (have D11 := Lib.hid (D10.out.read r bb)); (have HOQ : Hid (Own fT 9 V11 (a + 1) (.slice Aq nq cq) yq) := World.ownsRow.mono ho (lt_of_block D10.out.pc)); (have HYQ := Lib.hid hy); clear ho hy r bb D10 HSD2)
    | ((with_reducible refine wpList_store_at1 (o := ⟨none, _, _, _, _, _⟩) rfl 25 (.tmp 38) (.tmp 37) rfl a 27 3 #[.string st, .int .i64 ix, .slice (some ⟨bq, 0, none⟩) bd.size cb, .slice none 0 0] (.slice Aq nq cq) (by kernel_rfl) rfl D11.out.pc (lt_rf (by decide)) Tryz.sizeLs (by kernel_rfl) ?_); intro V12 hg hb; (have HSD4 : Hid (Sl fB V12 V12.heap.size (some ⟨bq, 0, none⟩) bd.size (sB bd)) := HSD3.out.butq hb.out (fun e => by have := HQA.out; omega)); (have HOQ4 : Hid (Own fT 9 V12 (a + 1) (.slice Aq nq cq) yq) := HOQ.out.butG hb.out (fun k hk e => by have h1 := (World.ownsRow.lt HOQ.out k hk).1; omega)); (have D12 : Hid (DF 27 V7 V12 g A n c bs s6 a #[.string st, .int .i64 ix, .slice (some ⟨bq, 0, none⟩) bd.size cb, .slice Aq nq cq]) := D11.out.set hg.out hb.out); clear hg hb D11 HSD3 HOQ)
    | (go_at_call 54; (with_reducible refine (HEN.out _ D12.out.rd).mono ?_); rintro e VE ⟨rfl, bb⟩; (have HSE := Lib.hid ((HSD4.out.up bb (Nat.le_refl _)).more' bb.size)); (have HOE := Lib.hid (HOQ4.out.on bb)); (have DE := Lib.hid (D12.out.keep bb)); clear bb D12 HSD4 HOQ4))
  obtain ⟨p, hp⟩ : ∃ p : Pc, p = ⟨st, ix, ⟨some ⟨bq, 0, none⟩, bd.size, cb⟩, ⟨Aq, nq, cq⟩⟩ := ⟨_, rfl⟩
  have HPA : Hid (VE.heap[a]? = some (.cells (cPc p) 27 (0, 0))) := by show _ = _; rw [hp]; exact DE.out.pc
  have HGZ : Hid (VE.heap[w.heap.size + 1]? = some (.cells zPc 27 (0, 0))) := (DE.out.but.block _ (lt_of_block HGZ7.out) (by have := HGE.out; have := HGA.out; omega)).trans HGZ7.out
  have HBE : Hid (Below w.heap.size w VE) := HB7.out.trans (DE.out.but.below HB7.out.size (fun i hi => by have := HGE.out; have := HGA.out; rcases hi with rfl | rfl <;> omega))
  have hqc : nq ≤ cq ∧ yq.length = nq := by
    obtain ⟨A', c', hv, h1, _, _⟩ := HOE.out.shape
    injection hv with e1 e2 e3
    subst e3
    exact ⟨by omega, e2.symm⟩
  have HPI : Hid (PcIn VE VE.heap.size p (sB bd) yq) := by show PcIn _ _ _ _ _; rw [hp]; exact ⟨HSE.out, HOE.out.slH, HCB.out, hqc.1⟩
  have HPD : Hid (p.d = ⟨some ⟨bq, 0, none⟩, bd.size, cb⟩ ∧ p.q = ⟨Aq, nq, cq⟩) := by rw [hp]; exact ⟨rfl, rfl⟩
  have HQC : Hid (nq ≤ cq) := hqc.1
  have HPS : Hid (p.s = st ∧ p.ix = ix) := by rw [hp]; exact ⟨rfl, rfl⟩
  have HQN : Hid (p.q.n = yq.length) := by show _ = _; rw [hp]; exact hqc.2.symm
  have HSHL : Hid (shB p yq = shL st ix (sB bd) yq) := by show _ = _; rw [shL_eq HPI.out, HPS.out.1, HPS.out.2]
  have HAW : Hid (a ≠ w.heap.size + 1) := by show _ ≠ _; have := HGE.out; have := HGA.out; omega
  have HNB := Lib.hid (fun V => entry_any z1 z2 V)
  obtain ⟨nb, hnb⟩ : ∃ nb, numB z1 z2 = nb := ⟨_, rfl⟩
  rw [hnb] at HNB HOK
  clear hnb hp hqc DE HB7 HGZ7 H5 H6 HEN hf5
  by_cases her : er = 0
  · have herb : (er != 0) = false := by simp [her]
    have hyq : yq = qs := HYQ.out (HEZ.out her)
    subst hyq
    cases nb with
    | false =>
      go_wp2_with (first
        | (go_at_call 8; (with_reducible refine (HNB.out _).mono ?_); rintro e VN ⟨rfl, rfl⟩)
        | ((with_reducible refine wpList_store_but (o := ⟨none, _, _, _, _, _⟩) rfl 27 (.tmp 4) (.tmp 57) rfl (w.heap.size + 1) 27 zPc zPc rfl rfl HGZ.out zpc_size rfl (by kernel_rfl) ?_); intro W7 HG7 HB7))
      have hb7 : Below w.heap.size w W7 := HBE.out.trans (HB7.out.below HBE.out.size (fun i hi => by subst hi; omega))
      refine bodyPost_ret (results_tpct rfl _ _ _ _ _ _ _ rfl HG7.out Tryz.underlying27 rfl zpc_size) rfl (.inr ⟨by rw [HOK.out]; simp_all, rfl, hb7⟩)
    | true =>
      have HSH := Lib.hid (shaped_any p (sB bd) yq VE.heap.size VE HPI.out (Nat.le_refl _) (by rw [HQN.out]; exact HBL.out))
      rw [HSHL.out] at HSH
      obtain ⟨sh, hsh⟩ : ∃ sh, shL st ix (sB bd) yq = sh := ⟨_, rfl⟩
      rw [hsh] at HSH HOK
      clear hsh HSHL
      cases sh with
      | false =>
        go_wp2_with (first
          | (go_at_call 8; (with_reducible refine (HNB.out _).mono ?_); rintro e VN ⟨rfl, rfl⟩)
          | (with_reducible refine wpList_load_mid_w (op := ⟨some 53, _, _, _, _, _⟩) (by kernel_rfl) 27 (.tmp 9) (by kernel_rfl) a 0 (by kernel_rfl) (cPc p).toList _ (range4 HPA.out) Tryz.underlying27 rfl (size4L p) ?_)
          | (go_at_call 9; (with_reducible refine HSH.out.mono ?_); rintro e VT ⟨rfl, bb⟩; (have HZT := Lib.hid ((bb.block _ (lt_of_block HGZ.out)).trans HGZ.out)); (have HPT := Lib.hid ((bb.block _ (lt_of_block HPA.out)).trans HPA.out)); (have BT := Lib.hid bb); clear bb)
          | ((with_reducible refine wpList_store_but (o := ⟨none, _, _, _, _, _⟩) rfl 27 (.tmp 4) (.tmp 57) rfl (w.heap.size + 1) 27 zPc zPc rfl rfl HZT.out zpc_size rfl (by kernel_rfl) ?_); intro W7 HG7 HB7))
        have hb7 : Below w.heap.size w W7 := (HBE.out.trans (BT.out.mono HBE.out.size)).trans (HB7.out.below (Nat.le_trans HBE.out.size BT.out.size) (fun i hi => by subst hi; omega))
        refine bodyPost_ret (results_tpct rfl _ _ _ _ _ _ _ rfl HG7.out Tryz.underlying27 rfl zpc_size) rfl (.inr ⟨by rw [HOK.out]; simp_all, rfl, hb7⟩)
      | true =>
        go_upto_region 11 with (first
          | (go_at_call 8; (with_reducible refine (HNB.out _).mono ?_); rintro e VN ⟨rfl, rfl⟩)
          | (with_reducible refine wpList_load_mid_w (op := ⟨some 53, _, _, _, _, _⟩) (by kernel_rfl) 27 (.tmp 9) (by kernel_rfl) a 0 (by kernel_rfl) (cPc p).toList _ (range4 HPA.out) Tryz.underlying27 rfl (size4L p) ?_)
          | (go_at_call 9; (with_reducible refine HSH.out.mono ?_); rintro e VT ⟨rfl, bb⟩; (have HZT := Lib.hid ((bb.block _ (lt_of_block HGZ.out)).trans HGZ.out)); (have HPT := Lib.hid ((bb.block _ (lt_of_block HPA.out)).trans HPA.out)); (have BT := Lib.hid bb); clear bb))
        refine wp_region_held_drew (S := (fun w' => w'.heap[a]? = some (.cells (cPc p) 27 (0, 0)))) (by kernel_rfl) (by first | exact HG7.out.2 | exact HPT.out) (fun hHeld => ?_)
        refine wpAnyH_take (i := 0) (v := ?g0v) (by simp only [List.getElem?_toArray, List.getElem?_cons_zero]; rfl) (by kernel_rfl) (by kernel_rfl) (by kernel_rfl) (by exact fun _ _ _ h => h) (Or.inl ⟨by rfl, ?g0y⟩) (by assumption) ?g0r
        case g0y => (intro w hSw; (try dsimp only at hSw); go_simp; try (with_reducible rfl))
        try simp only [Act.put, List.setIfInBounds_toArray, List.set_cons_zero, List.set_cons_succ]
        refine wpAnyH_take (i := 1) (v := ?g1v) (by simp only [List.getElem?_toArray, List.getElem?_cons_succ, List.getElem?_cons_zero]; rfl) (by kernel_rfl) (by kernel_rfl) (by kernel_rfl) (by exact fun _ _ _ h => h) (Or.inl ⟨by rfl, ?g1y⟩) (by assumption) ?g1r
        case g1y => (intro w hSw; (try dsimp only at hSw); go_simp; try (with_reducible rfl))
        try simp only [Act.put, List.setIfInBounds_toArray, List.set_cons_zero, List.set_cons_succ]
        refine wpAnyH_take (i := 2) (v := _) (by simp only [List.getElem?_toArray, List.getElem?_cons_succ, List.getElem?_cons_zero]; rfl) (by kernel_rfl) (by kernel_rfl) (by kernel_rfl) (by exact fun _ _ _ h => h) (yieldsIf_load_mid (by rfl) 27 (.tmp 9) rfl a 0 (by rfl) (cPc p).toList _ (fun _ h => range4 h) Tryz.underlying27 rfl (size4L p)) (by assumption) ?_
        try simp only [Act.put, List.setIfInBounds_toArray, List.set_cons_zero, List.set_cons_succ]
        refine wpAnyH_take (i := 3) (v := ?g3v) (by simp only [List.getElem?_toArray, List.getElem?_cons_succ, List.getElem?_cons_zero]; rfl) (by kernel_rfl) (by kernel_rfl) (by kernel_rfl) (by exact fun _ _ _ h => h) (Or.inl ⟨by rfl, ?g3y⟩) (by assumption) ?g3r
        case g3y => (intro w hSw; (try dsimp only at hSw); go_simp; try (with_reducible rfl))
        try simp only [Act.put, List.setIfInBounds_toArray, List.set_cons_zero, List.set_cons_succ]
        refine wpAnyH_take (i := 4) (v := ?g4v) (by simp only [List.getElem?_toArray, List.getElem?_cons_succ, List.getElem?_cons_zero]; rfl) (by kernel_rfl) (by kernel_rfl) (by kernel_rfl) (by exact fun _ _ _ h => h) (Or.inl ⟨by rfl, ?g4y⟩) (by assumption) ?g4r
        case g4y => (intro w hSw; (try dsimp only at hSw); go_simp; try (with_reducible rfl))
        try simp only [Act.put, List.setIfInBounds_toArray, List.set_cons_zero, List.set_cons_succ]
        refine wpAnyH_ready (rs := [5]) (by kernel_rfl) (by simp) ?_
        refine AllReadyH.cons (by simp only [List.getElem?_toArray, List.getElem?_cons_succ, List.getElem?_cons_zero]; rfl) (fun K hK => ?_) (AllReadyH.nil)
        (refine step_store_but rfl 27 (.tmp 4) (.tmp 60) rfl (w.heap.size + 1) 27 zPc (cPc p) (by kernel_rfl) (by kernel_rfl) HZT.out (pc4_size p) rfl (pc4_one p) ?_); intro W7 hg7 HB7; (have HG7 : Hid (W7.heap[w.heap.size + 1]? = some (.cells (cPc p) 27 (0, 0)) ∧ W7.heap[a]? = some (.cells (cPc p) 27 (0, 0))) := ⟨hg7.out, (HB7.out.block a (lt_of_block HPT.out) HAW.out).trans HPT.out⟩); clear hg7
        refine hK.out _ _ (by first | exact HG7.out.2 | exact HPT.out) (fun hHeldg5 => ?_)
        clear hK K hHeld
        try simp only [Act.put, List.setIfInBounds_toArray, List.set_cons_zero, List.set_cons_succ]
        refine wpAnyH_take (i := 6) (v := ?g6v) (by simp only [List.getElem?_toArray, List.getElem?_cons_succ, List.getElem?_cons_zero]; rfl) (by kernel_rfl) (by kernel_rfl) (by kernel_rfl) (by exact fun _ _ _ h => h) (Or.inl ⟨by rfl, ?g6y⟩) (by assumption) ?g6r
        case g6y => (intro w hSw; (try dsimp only at hSw); go_simp; try (with_reducible rfl))
        try simp only [Act.put, List.setIfInBounds_toArray, List.set_cons_zero, List.set_cons_succ]
        refine wpAnyH_done (by kernel_rfl) ?_ _
        go_wp2_with fail
        have HBW : But (fun k => k = w.heap.size + 1) VT W7 := ⟨HB7.out.os, HB7.out.tape, HB7.out.output, HB7.out.size, HB7.out.block⟩
        have hb7 : Below w.heap.size w W7 := (HBE.out.trans (BT.out.mono HBE.out.size)).trans (HBW.below (Nat.le_trans HBE.out.size BT.out.size) (fun i hi => by subst hi; omega))
        refine bodyPost_ret (results_tpct rfl _ _ _ _ _ _ _ rfl HG7.out.1 Tryz.underlying27 rfl (pc4_size p)) rfl (.inl ⟨by rw [HOK.out]; simp [her], p, HPS.out.1, HPS.out.2, rfl, ?_, hb7⟩)
        have hsd := ((HSE.out.up BT.out (Nat.le_refl _)).more' BT.out.size).butq HBW (fun e => by have := HQA.out; have := HGA.out; have := HGE.out; omega)
        have hoq := (HOE.out.on BT.out).butG HBW (fun k hk e => by have h1 := (World.ownsRow.lt HOE.out k hk).1; have := HGA.out; have := HGE.out; omega)
        obtain ⟨q1, q2⟩ := HPD.out
        show PcIn _ _ _ _ _
        unfold PcIn
        rw [q1, q2]
        exact ⟨hsd, hoq.slH, HCB.out, HQC.out⟩
  · have herb : (er != 0) = true := by simp [her]
    go_wp2_with (first
      | ((with_reducible refine wpList_store_but (o := ⟨none, _, _, _, _, _⟩) rfl 27 (.tmp 4) (.tmp 57) rfl (w.heap.size + 1) 27 zPc zPc rfl rfl HGZ.out zpc_size rfl (by kernel_rfl) ?_); intro W7 HG7 HB7))
    have hb7 : Below w.heap.size w W7 := HBE.out.trans (HB7.out.below HBE.out.size (fun i hi => by subst hi; omega))
    refine bodyPost_ret (results_tpct rfl _ _ _ _ _ _ _ rfl HG7.out Tryz.underlying27 rfl zpc_size) rfl (.inr ⟨by rw [HOK.out]; simp_all, rfl, hb7⟩)
end Go.Proofs.YtnfkjnmdfijhnaaGreatDoor
