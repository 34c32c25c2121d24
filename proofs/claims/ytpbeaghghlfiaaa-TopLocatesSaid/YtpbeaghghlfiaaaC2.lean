/- reedsolomon: inverse, factors, Row. -/
import Derived.Test.YtpbeaghghlfiaaaC1
namespace Go.Proofs.Ytpbeaghghlfiaaa
open Go.RowKit Go.Lib
set_option linter.unusedVariables false
set_option linter.unusedSimpArgs false
theorem redP_ok {n : Nat} : ∀ (k col : Nat) (m : Mt) (piv : List Nat), MtOk n m → piv.length ≤ m.length → MtOk n (redP k col m piv).1
  | 0, col, m, piv, h, _ => h
  | k + 1, col, m, piv, h, hl => by
    cases hf : findP m col (m.length - piv.length) piv.length with
    | none =>
      rw [redP_none hf]
      exact redP_ok k (col + 1) m piv h hl
    | some f =>
      rw [redP_some hf]
      obtain ⟨h1, h2⟩ := findP_lt hf
      have hs := h.swap (i := piv.length) (j := f) (by omega) (by omega)
      refine redP_ok k (col + 1) _ _ (hs.clear (by rw [swapP_len]; omega) col) ?_
      rw [clearP_len, swapP_len, List.length_append]
      show piv.length + 1 ≤ _
      omega
theorem elimP_ok {n : Nat} {m : Mt} (hm : MtOk n m) (hl : m.length = n) : MtOk (n + n) (elimP m).1 := by
  unfold elimP
  rw [hl]
  exact redP_ok n 0 _ _ (joinP_ok hm (idP_ok n)) (Nat.zero_le _)
/-- A new matrix, wherever it lies. -/
def MaP1 (m : Mt) (w : World) (e : Ending) (w' : World) : Prop := ∃ g hs, e = .returned (.slice (some ⟨g, 0, none⟩) m.length m.length) ∧ w.heap.size ≤ g ∧ Mat w' g hs m ∧ Below w.heap.size w w'
set_option maxRecDepth 100000 in
set_option maxHeartbeats 4000000 in
theorem tinverse_any (tb d n c B : Nat) (A : Option Addr) (l : List Nat) (w : World) (ht : w.heap[tb]? = some (.cells (tFull d) TT (0, 0))) (h1 : 1 ≤ d) (h8 : d ≤ 8) (hl : Sl fI w B A n l) (hB : B ≤ w.heap.size) (hi16 : ∀ i ∈ l, i < 16) (hn : n ≤ 64) (hdn : d ≤ n) (hnc : n ≤ c) (hI : InvOk (l.take d)) :
    Calls Try.prog 27 #[.pointer (some ⟨tb, 0, none⟩), .slice A n c] w (MaP1 (invP (ofP d (l.take d))) w) := by
  have hlt : (l.take d).length = d := by rw [List.length_take, hl.1]; omega
  have hI1 := hI.piv
  have hI2 := hI.rows
  have hI3 := hI.obys
  have hI4 := hI.len
  rw [hlt] at hI1 hI2 hI3 hI4
  have hol : (ofP d (l.take d)).length = d := by unfold ofP; rw [List.length_map]; exact hlt
  have HOF := Lib.hid (of_any tb d d c B A (l.take d) w ht h1 h8 ⟨hlt, SL.take_ hl.2 d⟩ hB (fun i hi => hi16 i (List.mem_of_mem_take hi)) (by omega))
  have HIV : Hid (∀ V A c B, SLL fN V B A d (ofP d (l.take d)) → B ≤ V.heap.size → Calls Try.prog 44 #[.slice A d c] V (MaP2 (invP (ofP d (l.take d))) V)) := fun V A c B hs hb =>
    inverse_any A d c B (ofP d (l.take d)) V hs hb hI3 (by omega) (by omega) hI1 hI2 (elimP_ok hI3 hol)
  have HOL := Lib.hid hol
  have k0 : w.cell? ⟨tb, 0, none⟩ = some (.int .i64 (d : Int)) := by rw [cell_of_row w tb _ _ _ _ ht]; rfl
  have hd0 : (0 : Int) ≤ (d : Int) := by omega
  have hdc : (d : Int) ≤ (c : Int) := by omega
  obtain ⟨IM, hIM⟩ : ∃ IM, invP (ofP d (l.take d)) = IM := ⟨_, rfl⟩
  rw [hIM] at HIV ⊢
  obtain ⟨i0, hi, hi1, hi2, hi3⟩ := info_parts Try.infoI8
  have hsl : ∀ w, (Instr.slice 33 (.slice A n c) none (some (.int .i64 (d : Int))) none).run Try.prog w = .ok (.slice A d c) w := fun w => run_slice_to 33 TI i0 Try.underlying33 hi A n c .i64 (d : Int) d rfl (by omega) w
  clear ht h1 h8 hl hB hi16 hn hdn hnc hI hI1 hI2 hI3 hI4 hol hlt hIM hi hi1 hi2 hi3
  go_enter Try.func27, Try.ntmps27
  go_wp2_with (first
    | (go_at_call 20; (with_reducible refine HOF.out.mono ?_); rintro e w1 ⟨hs, he, hm, hb⟩; rw [HOL.out] at he; subst he; (have HI2 := Lib.hid (HIV.out w1 (some ⟨w.heap.size, 0, none⟩) d w1.heap.size (by have q := hm.sll; rw [HOL.out] at q; exact q) (Nat.le_refl _))); (have HB1 := Lib.hid hb); clear hm hb)
    | (go_at_call 44; (with_reducible refine HI2.out.mono ?_); rintro e w2 ⟨g, hs2, rfl, hg, hm2, hb2⟩; (have HG := Lib.hid hg); (have HM := Lib.hid hm2); (have HB2 := Lib.hid hb2); clear hg hm2 hb2))
  go_ret
  exact ⟨g, hs2, rfl, Nat.le_trans HB1.out.size HG.out, HM.out, HB1.out.trans (HB2.out.mono HB1.out.size)⟩
/-- Rows to be read. -/
def SlP (m : Mt) (n : Nat) (w : World) (e : Ending) (w' : World) : Prop := ∃ A c, e = .returned (.slice A n c) ∧ n ≤ c ∧ SLL fN w' w'.heap.size A n m ∧ Below w.heap.size w w'
set_option maxRecDepth 100000 in
set_option maxHeartbeats 4000000 in
theorem factors_any (tb d n c n2 c2 B : Nat) (A A2 : Option Addr) (l ws : List Nat) (w : World) (ht : w.heap[tb]? = some (.cells (tFull d) TT (0, 0))) (h1 : 1 ≤ d) (h8 : d ≤ 8) (hl : Sl fI w B A n l) (hl2 : Sl fI w B A2 n2 ws) (hB : B ≤ w.heap.size) (hi16 : ∀ i ∈ l, i < 16) (hj16 : ∀ i ∈ ws, i < 16) (hj8 : ∀ i ∈ ws, i < 8) (hn : n ≤ 64) (hn2 : n2 ≤ 64) (hdn : d ≤ n) (hnc : n ≤ c) (hI : InvOk (l.take d)) :
    Calls Try.prog 23 #[.pointer (some ⟨tb, 0, none⟩), .slice A n c, .slice A2 n2 c2] w (SlP (factP d l ws) n2 w) := by
  by_cases h0 : n2 = 0
  · subst h0
    have hw : ws = [] := List.eq_nil_of_length_eq_zero hl2.1
    subst hw
    have hf : factP d l [] = [] := rfl
    rw [hf]
    clear ht h1 h8 hl hl2 hB hi16 hj16 hj8 hn hn2 hdn hnc hI hf
    go_enter Try.func23, Try.ntmps23
    go_wp2_with fail
    go_ret
    exact ⟨none, 0, rfl, Nat.le_refl _, ⟨[], ⟨rfl, SL.nil⟩, rfl, fun k hd r h => by simp at h⟩, Below.refl _ _⟩
  · have hlt : (l.take d).length = d := by rw [List.length_take, hl.1]; omega
    have hI3 := hI.bys
    have hI4 := hI.len
    rw [hlt] at hI3 hI4
    have hol : (ofP d ws).length = n2 := by unfold ofP; rw [List.length_map]; exact hl2.1
    have hook : MtOk d (ofP d ws) := fun r hr => by
      obtain ⟨i, hi, rfl⟩ := List.mem_map.1 hr
      exact rowP_bys h8 (hj8 i hi)
    have HOF := Lib.hid (of_any tb d n2 c2 B A2 ws w ht h1 h8 hl2 hB hj16 hn2)
    have HIV : Hid (∀ V, Below w.heap.size w V → Calls Try.prog 27 #[.pointer (some ⟨tb, 0, none⟩), .slice A n c] V (MaP1 (invP (ofP d (l.take d))) V)) := fun V hv =>
      tinverse_any tb d n c B A l V ((hv.block _ (lt_block ht)).trans ht) h1 h8 (hl.up hv hB) (Nat.le_trans hB hv.size) hi16 hn hdn hnc hI
    have HFE : Hid (factP d l ws = mulP d (ofP d ws) (invP (ofP d (l.take d)))) := rfl
    have HFL : Hid ((factP d l ws).length = n2) := by show _ = _; rw [factP_len]; exact hl2.1
    obtain ⟨IM, hIM⟩ : ∃ IM, invP (ofP d (l.take d)) = IM := ⟨_, rfl⟩
    rw [hIM] at HIV HFE hI3 hI4
    obtain ⟨OM, hOM⟩ : ∃ OM, ofP d ws = OM := ⟨_, rfl⟩
    rw [hOM] at HOF HFE hol hook
    have HMU : Hid (∀ V A1 c1 A2 c2 B, SLL fN V B A1 n2 OM → SLL fN V B A2 d IM → B ≤ V.heap.size → Calls Try.prog 39 #[.slice A1 n2 c1, .slice A2 d c2] V (MaP2 (mulP d OM IM) V)) := fun V A1 c1 A2 c2 B p1 p2 p3 =>
      mmul_any A1 A2 n2 c1 d c2 d B OM IM V p1 p2 p3 hook hI3 (by omega) hn2 (by omega) (by omega) (by omega)
    have HOL := Lib.hid hol
    have HIL := Lib.hid hI4
    have hn0 : ((n2 : Int) == 0) = false := by simp; omega
    have hn1 : decide (n2 = 0) = false := by simp; omega
    have hnb : (n2 == 0) = false := by simp; omega
    obtain ⟨FM, hFM⟩ : ∃ FM, factP d l ws = FM := ⟨_, rfl⟩
    rw [hFM] at HFE HFL ⊢
    rw [← HFE.out] at HMU
    clear ht h1 h8 hl hl2 hB hi16 hj16 hj8 hn hn2 hdn hnc hI hI3 hI4 hol hook hlt hIM hOM hFM
    go_enter Try.func23, Try.ntmps23
    go_wp2_with (first
      | (go_at_call 20; (with_reducible refine HOF.out.mono ?_); rintro e w1 ⟨hs, he, hm, hb⟩; rw [HOL.out] at he; subst he; (have HM1 := Lib.hid hm); (have HB1 := Lib.hid hb); clear hm hb)
      | (go_at_call 27; (with_reducible refine (HIV.out _ HB1.out).mono ?_); rintro e w2 ⟨g, hs2, he, hg, hm2, hb2⟩; rw [HIL.out] at he; subst he; (have HB2 : Hid (Below w.heap.size w w2) := HB1.out.trans (hb2.mono HB1.out.size)); (have HM2 := Lib.hid (HMU.out w2 (some ⟨w.heap.size, 0, none⟩) n2 (some ⟨g, 0, none⟩) d w2.heap.size (by have q := (HM1.out.on hb2).sll; rw [HOL.out] at q; exact q) (by have q := hm2.sll; rw [HIL.out] at q; exact q) (Nat.le_refl _))); clear hg hm2 hb2)
      | (go_at_call 39; (with_reducible refine HM2.out.mono ?_); rintro e w3 ⟨g3, hs3, he, hg3, hm3, hb3⟩; rw [HFL.out] at he; subst he; (have HM3 := Lib.hid hm3); (have HB3 : Hid (Below w.heap.size w w3) := HB2.out.trans (hb3.mono HB2.out.size)); clear hg3 hm3 hb3))
    go_ret
    exact ⟨some ⟨g3, 0, none⟩, n2, rfl, Nat.le_refl _, (by have q := HM3.out.sll; rw [HFL.out] at q; exact q), HB3.out⟩
def RoP (d i : Nat) (w : World) (e : Ending) (w' : World) : Prop := ∃ a c, e = .returned (.tuple #[.slice a d c, .int .i64 0]) ∧ Sl fN w' w'.heap.size a d (rowP d i) ∧ Below w.heap.size w w'
set_option maxRecDepth 100000 in
set_option maxHeartbeats 4000000 in
theorem row_any (d t i : Nat) (h1 : 1 ≤ d) (h8 : d ≤ 8) (hdt : d ≤ t) (ht : t ≤ 16) (hi : i < t) (w : World) : Calls Try.prog 12 #[.int .i64 d, .int .i64 t, .int .i64 i] w (RoP d i w) := by
  have HV : Hid (Calls Try.prog 5 #[.int .i64 d, .int .i64 t] w fun e w' => e = .returned (.bool true) ∧ w = w') := by
    have q := rsvalid_any d t w
    rwa [show rsB d t = true from decide_eq_true ⟨by omega, by omega, by omega, by omega⟩] at q
  have HN := Lib.hid (newTable_any d h1 h8 w)
  have HOF : Hid (∀ V : World, V.heap[w.heap.size]? = some (.cells (tFull d) TT (0, 0)) → Calls Try.prog 20 #[.pointer (some ⟨w.heap.size, 0, none⟩), .slice (some ⟨V.heap.size, 0, none⟩) 1 1] (V.alloc (.cells #[.int .i64 (i : Int)] TI)) (MaP (ofP d [i]) (V.alloc (.cells #[.int .i64 (i : Int)] TI)))) := fun V hv =>
    of_any w.heap.size d 1 1 (V.heap.size + 1) (some ⟨V.heap.size, 0, none⟩) [i] _ ((Below.heap_alloc V _ _ (lt_block hv)).trans hv) h1 h8 (SL.sl (SL.of_block (t := TI) (fr := (0, 0)) (heap_alloc_new V _) (Nat.lt_succ_self _))) (by simp) (fun j hj => by obtain rfl : j = i := (by simpa using hj); omega) (by omega)
  have hi0 : ¬ (i : Int) < 0 := by omega
  have hi0d : decide ((i : Int) < 0) = false := decide_eq_false hi0
  have hit : ¬ (t : Int) ≤ (i : Int) := by omega
  have hitN : decide (t ≤ i) = false := by simp; omega
  have HOL : Hid ((ofP d [i]).length = 1) := rfl
  clear h1 h8 hdt ht hi
  go_enter Try.func12, Try.ntmps12
  go_wp2_with (first
    | (go_at_call 5; (with_reducible refine HV.out.mono ?_); rintro e w' ⟨rfl, rfl⟩)
    | (go_at_call 19; (with_reducible refine HN.out.mono ?_); rintro e w1 ⟨rfl, hg, hb⟩; (have HO1 := Lib.hid (HOF.out w1 hg)); (have HB1 := Lib.hid hb); clear hg hb)
    | (go_at_call 20; (with_reducible refine HO1.out.mono ?_); rintro e w2 ⟨hs, he, hm, hb2⟩; rw [HOL.out] at he; subst he; (obtain ⟨a, n, c, r, hh, hr, hc, hx⟩ := hm.at_ (k := 0) (by simp [ofP])); (obtain rfl : rowP d i = r := by simpa [ofP] using hr); (obtain rfl : d = n := (rowP_length d i).symm.trans hx.2.1); (have hc1 : w2.cell? ⟨w1.heap.size + 1, 0, none⟩ = some (.slice a d c) := (by have q := hc; simp only [show ∀ o, (w1.alloc o).heap.size = w1.heap.size + 1 from fun o => by simp] at q; exact q)); clear hc; (have HX := Lib.hid hx.sl); (have HB2 : Hid (Below w.heap.size w w2) := HB1.out.trans (((Below.refl _ w1).alloc (Nat.le_refl _) _).mono HB1.out.size |>.trans (hb2.mono (Nat.le_trans HB1.out.size (by simp))))); clear hm hb2 hh hr hx))
  go_ret2
  exact ⟨a, c, rfl, HX.out, HB2.out⟩
end Go.Proofs.Ytpbeaghghlfiaaa
