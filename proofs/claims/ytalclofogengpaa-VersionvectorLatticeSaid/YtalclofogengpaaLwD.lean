/- The walk of the law Lattice. -/
import Derived.Test.YtalclofogengpaaTwo
namespace Go.Proofs.Ytalclofogengpaa
open Go.RowKit

theorem lat1 {a b c : List Int} (ha : validB a = true) (hb : validB b = true) (hc : validB c = true) : MM max a b = MM max b a := by
  refine nf_congr (MM_nf _ _ _) (by first | exact MM_nf _ _ _ | exact nrm_nrm _) fun j => ?_
  have h1 := valid_getD ha j
  have h2 := valid_getD hb j
  have h3 := valid_getD hc j
  simp only [max_getD ha hb, max_getD hb ha]
  omega
theorem lat2 {a b c : List Int} (ha : validB a = true) (hb : validB b = true) (hc : validB c = true) : MM max (MM max a b) c = MM max a (MM max b c) := by
  refine nf_congr (MM_nf _ _ _) (by first | exact MM_nf _ _ _ | exact nrm_nrm _) fun j => ?_
  have h1 := valid_getD ha j
  have h2 := valid_getD hb j
  have h3 := valid_getD hc j
  simp only [max_getD (MMmax_valid ha hb) hc, max_getD ha hb, max_getD ha (MMmax_valid hb hc), max_getD hb hc]
  omega
theorem lat3 {a b c : List Int} (ha : validB a = true) (hb : validB b = true) (hc : validB c = true) : MM max a a = nrm a := by
  refine nf_congr (MM_nf _ _ _) (by first | exact MM_nf _ _ _ | exact nrm_nrm _) fun j => ?_
  have h1 := valid_getD ha j
  have h2 := valid_getD hb j
  have h3 := valid_getD hc j
  simp only [max_getD ha ha, nrm_getD]
  omega
theorem lat4 {a b c : List Int} (ha : validB a = true) (hb : validB b = true) (hc : validB c = true) : MM min a b = MM min b a := by
  refine nf_congr (MM_nf _ _ _) (by first | exact MM_nf _ _ _ | exact nrm_nrm _) fun j => ?_
  have h1 := valid_getD ha j
  have h2 := valid_getD hb j
  have h3 := valid_getD hc j
  simp only [min_getD ha hb, min_getD hb ha]
  omega
theorem lat5 {a b c : List Int} (ha : validB a = true) (hb : validB b = true) (hc : validB c = true) : MM min (MM min a b) c = MM min a (MM min b c) := by
  refine nf_congr (MM_nf _ _ _) (by first | exact MM_nf _ _ _ | exact nrm_nrm _) fun j => ?_
  have h1 := valid_getD ha j
  have h2 := valid_getD hb j
  have h3 := valid_getD hc j
  simp only [min_getD (MMmin_valid ha hb) hc, min_getD ha hb, min_getD ha (MMmin_valid hb hc), min_getD hb hc]
  omega
theorem lat6 {a b c : List Int} (ha : validB a = true) (hb : validB b = true) (hc : validB c = true) : MM min a (MM max a b) = nrm a := by
  refine nf_congr (MM_nf _ _ _) (by first | exact MM_nf _ _ _ | exact nrm_nrm _) fun j => ?_
  have h1 := valid_getD ha j
  have h2 := valid_getD hb j
  have h3 := valid_getD hc j
  simp only [min_getD ha (MMmax_valid ha hb), max_getD ha hb, nrm_getD]
  omega
theorem lat7 {a b c : List Int} (ha : validB a = true) (hb : validB b = true) (hc : validB c = true) : MM max a (MM min a b) = nrm a := by
  refine nf_congr (MM_nf _ _ _) (by first | exact MM_nf _ _ _ | exact nrm_nrm _) fun j => ?_
  have h1 := valid_getD ha j
  have h2 := valid_getD hb j
  have h3 := valid_getD hc j
  simp only [max_getD ha (MMmin_valid ha hb), min_getD ha hb, nrm_getD]
  omega

set_option maxRecDepth 20000 in
set_option maxHeartbeats 4000000 in
theorem law_lattice_yes (Aa Ab Ac : Option Addr) (na nb nc ca cb cc : Nat) (a b c : List Int) (w0 : World) (ha0 : Sl I w0 w0.heap.size Aa na a) (hb0 : Sl I w0 w0.heap.size Ab nb b) (hc0 : Sl I w0 w0.heap.size Ac nc c) (hcap : na ≤ ca) (h1 : na ≤ 20) (h2 : nb ≤ 20) (h3 : nc ≤ 20) (ha : validB a = true) (hb : validB b = true) (hc : validB c = true) :
    Calls Try.prog 6 #[.slice Aa na ca, .slice Ab nb cb, .slice Ac nc cc] w0 (Law w0) := by
  have Va : Hid (validB a = true) := ha
  have Vb : Hid (validB b = true) := hb
  have Vc : Hid (validB c = true) := hc
  have S0a := Lib.hid ha0
  have S0b := Lib.hid hb0
  have S0c := Lib.hid hc0
  have cVa : Hid (∀ W, Sl I W W.heap.size Aa na a → Calls Try.prog 16 #[.slice Aa na ca] W fun e w' => e = .returned (.bool true) ∧ W = w') := fun W h => by rw [← Va.out]; exact rvalid_n Aa na a ca W _ h (by omega)
  have cVb : Hid (∀ W, Sl I W W.heap.size Ab nb b → Calls Try.prog 16 #[.slice Ab nb cb] W fun e w' => e = .returned (.bool true) ∧ W = w') := fun W h => by rw [← Vb.out]; exact rvalid_n Ab nb b cb W _ h (by omega)
  have cVc : Hid (∀ W, Sl I W W.heap.size Ac nc c → Calls Try.prog 16 #[.slice Ac nc cc] W fun e w' => e = .returned (.bool true) ∧ W = w') := fun W h => by rw [← Vc.out]; exact rvalid_n Ac nc c cc W _ h (by omega)
  clear ha0 hb0 hc0 ha hb hc
  go_enter Try.func6, Try.ntmps6
  go_wp2_with (first
    | (go_at_call 13; refine (few_n _ _ _ _).mono ?_; rintro e w' ⟨rfl, rfl⟩)
    | (go_at_call 16; (with_reducible refine (cVa.out _ S0a.out).mono ?_); rintro e w' ⟨rfl, rfl⟩)
    | (go_at_call 16; (with_reducible refine (cVb.out _ S0b.out).mono ?_); rintro e w' ⟨rfl, rfl⟩)
    | (go_at_call 16; (with_reducible refine (cVc.out _ S0c.out).mono ?_); rintro e w' ⟨rfl, rfl⟩))
  have hB0 : Hid (Below w0.heap.size w0 w0) := Below.refl _ _
  clear cVa cVb cVc
  refine (merge2 _ _ _ _ _ _ a b _ S0a.out S0b.out Va.out Vb.out).mono ?_
  rintro e w1 ⟨Aab, nab, cab, rfl, hs, hcc, hb⟩
  have hB1 : Hid (Below w0.heap.size w0 w1) := hB0.out.trans (hb.mono hB0.out.size)
  have S1ab := Lib.hid hs
  have Nab : Hid (nab ≤ 12) := by show _ ≤ _; rw [← hs.1]; exact MM_len _ _ _
  have Cab := Lib.hid hcc
  have S1a := Lib.hid (S0a.out.on hb)
  have S1b := Lib.hid (S0b.out.on hb)
  have S1c := Lib.hid (S0c.out.on hb)
  clear hs hcc hb hB0 S0a S0b S0c
  go_wp2_with fail
  refine (merge2 _ _ _ _ _ _ b a _ S1b.out S1a.out Vb.out Va.out).mono ?_
  rintro e w2 ⟨Aba, nba, cba, rfl, hs, hcc, hb⟩
  have hB2 : Hid (Below w0.heap.size w0 w2) := hB1.out.trans (hb.mono hB1.out.size)
  have S2ba := Lib.hid hs
  have Nba : Hid (nba ≤ 12) := by show _ ≤ _; rw [← hs.1]; exact MM_len _ _ _
  have Cba := Lib.hid hcc
  have S2ab := Lib.hid (S1ab.out.on hb)
  have S2a := Lib.hid (S1a.out.on hb)
  have S2b := Lib.hid (S1b.out.on hb)
  have S2c := Lib.hid (S1c.out.on hb)
  clear hs hcc hb hB1 S1ab S1a S1b S1c
  go_wp2_with fail
  refine (merge2 _ _ _ _ _ _ b c _ S2b.out S2c.out Vb.out Vc.out).mono ?_
  rintro e w3 ⟨Abc, nbc, cbc, rfl, hs, hcc, hb⟩
  have hB3 : Hid (Below w0.heap.size w0 w3) := hB2.out.trans (hb.mono hB2.out.size)
  have S3bc := Lib.hid hs
  have Nbc : Hid (nbc ≤ 12) := by show _ ≤ _; rw [← hs.1]; exact MM_len _ _ _
  have Cbc := Lib.hid hcc
  have S3ba := Lib.hid (S2ba.out.on hb)
  have S3ab := Lib.hid (S2ab.out.on hb)
  have S3a := Lib.hid (S2a.out.on hb)
  have S3b := Lib.hid (S2b.out.on hb)
  have S3c := Lib.hid (S2c.out.on hb)
  clear hs hcc hb hB2 S2ba S2ab S2a S2b S2c
  go_wp2_with fail
  refine (merge2 _ _ _ _ _ _ (MM max a b) c _ S3ab.out S3c.out (MMmax_valid Va.out Vb.out) Vc.out).mono ?_
  rintro e w4 ⟨Ax, nx, cx, rfl, hs, hcc, hb⟩
  have hB4 : Hid (Below w0.heap.size w0 w4) := hB3.out.trans (hb.mono hB3.out.size)
  have S4x := Lib.hid hs
  have Nx : Hid (nx ≤ 12) := by show _ ≤ _; rw [← hs.1]; exact MM_len _ _ _
  have Cx := Lib.hid hcc
  have S4bc := Lib.hid (S3bc.out.on hb)
  have S4ba := Lib.hid (S3ba.out.on hb)
  have S4ab := Lib.hid (S3ab.out.on hb)
  have S4a := Lib.hid (S3a.out.on hb)
  have S4b := Lib.hid (S3b.out.on hb)
  have S4c := Lib.hid (S3c.out.on hb)
  clear hs hcc hb hB3 S3bc S3ba S3ab S3a S3b S3c
  go_wp2_with fail
  refine (merge2 _ _ _ _ _ _ a (MM max b c) _ S4a.out S4bc.out Va.out (MMmax_valid Vb.out Vc.out)).mono ?_
  rintro e w5 ⟨Ay, ny, cy, rfl, hs, hcc, hb⟩
  have hB5 : Hid (Below w0.heap.size w0 w5) := hB4.out.trans (hb.mono hB4.out.size)
  have S5y := Lib.hid hs
  have Ny : Hid (ny ≤ 12) := by show _ ≤ _; rw [← hs.1]; exact MM_len _ _ _
  have Cy := Lib.hid hcc
  have S5x := Lib.hid (S4x.out.on hb)
  have S5ba := Lib.hid (S4ba.out.on hb)
  have S5ab := Lib.hid (S4ab.out.on hb)
  have S5a := Lib.hid (S4a.out.on hb)
  have S5b := Lib.hid (S4b.out.on hb)
  have S5c := Lib.hid (S4c.out.on hb)
  clear hs hcc hb hB4 S4x S4bc S4ba S4ab S4a S4b S4c
  go_wp2_with fail
  refine (merge2 _ _ _ _ _ _ a a _ S5a.out S5a.out Va.out Va.out).mono ?_
  rintro e w6 ⟨Aaa, naa, caa, rfl, hs, hcc, hb⟩
  have hB6 : Hid (Below w0.heap.size w0 w6) := hB5.out.trans (hb.mono hB5.out.size)
  have S6aa := Lib.hid hs
  have Naa : Hid (naa ≤ 12) := by show _ ≤ _; rw [← hs.1]; exact MM_len _ _ _
  have Caa := Lib.hid hcc
  have S6y := Lib.hid (S5y.out.on hb)
  have S6x := Lib.hid (S5x.out.on hb)
  have S6ba := Lib.hid (S5ba.out.on hb)
  have S6ab := Lib.hid (S5ab.out.on hb)
  have S6a := Lib.hid (S5a.out.on hb)
  have S6b := Lib.hid (S5b.out.on hb)
  have S6c := Lib.hid (S5c.out.on hb)
  clear hs hcc hb hB5 S5y S5x S5ba S5ab S5a S5b S5c
  go_wp2_with fail
  refine (meet2 _ _ _ _ _ _ a b _ S6a.out S6b.out Va.out Vb.out).mono ?_
  rintro e w7 ⟨Am, nm, cm, rfl, hs, hcc, hb⟩
  have hB7 : Hid (Below w0.heap.size w0 w7) := hB6.out.trans (hb.mono hB6.out.size)
  have S7m := Lib.hid hs
  have Nm : Hid (nm ≤ 12) := by show _ ≤ _; rw [← hs.1]; exact MM_len _ _ _
  have Cm := Lib.hid hcc
  have S7aa := Lib.hid (S6aa.out.on hb)
  have S7y := Lib.hid (S6y.out.on hb)
  have S7x := Lib.hid (S6x.out.on hb)
  have S7ba := Lib.hid (S6ba.out.on hb)
  have S7ab := Lib.hid (S6ab.out.on hb)
  have S7a := Lib.hid (S6a.out.on hb)
  have S7b := Lib.hid (S6b.out.on hb)
  have S7c := Lib.hid (S6c.out.on hb)
  clear hs hcc hb hB6 S6aa S6y S6x S6ba S6ab S6a S6b S6c
  go_wp2_with fail
  refine (meet2 _ _ _ _ _ _ b a _ S7b.out S7a.out Vb.out Va.out).mono ?_
  rintro e w8 ⟨An, nn, cn, rfl, hs, hcc, hb⟩
  have hB8 : Hid (Below w0.heap.size w0 w8) := hB7.out.trans (hb.mono hB7.out.size)
  have S8n := Lib.hid hs
  have Nn : Hid (nn ≤ 12) := by show _ ≤ _; rw [← hs.1]; exact MM_len _ _ _
  have Cn := Lib.hid hcc
  have S8m := Lib.hid (S7m.out.on hb)
  have S8aa := Lib.hid (S7aa.out.on hb)
  have S8y := Lib.hid (S7y.out.on hb)
  have S8x := Lib.hid (S7x.out.on hb)
  have S8ba := Lib.hid (S7ba.out.on hb)
  have S8ab := Lib.hid (S7ab.out.on hb)
  have S8a := Lib.hid (S7a.out.on hb)
  have S8b := Lib.hid (S7b.out.on hb)
  have S8c := Lib.hid (S7c.out.on hb)
  clear hs hcc hb hB7 S7m S7aa S7y S7x S7ba S7ab S7a S7b S7c
  go_wp2_with fail
  refine (meet2 _ _ _ _ _ _ b c _ S8b.out S8c.out Vb.out Vc.out).mono ?_
  rintro e w9 ⟨Abm, nbm, cbm, rfl, hs, hcc, hb⟩
  have hB9 : Hid (Below w0.heap.size w0 w9) := hB8.out.trans (hb.mono hB8.out.size)
  have S9bm := Lib.hid hs
  have Nbm : Hid (nbm ≤ 12) := by show _ ≤ _; rw [← hs.1]; exact MM_len _ _ _
  have Cbm := Lib.hid hcc
  have S9n := Lib.hid (S8n.out.on hb)
  have S9m := Lib.hid (S8m.out.on hb)
  have S9aa := Lib.hid (S8aa.out.on hb)
  have S9y := Lib.hid (S8y.out.on hb)
  have S9x := Lib.hid (S8x.out.on hb)
  have S9ba := Lib.hid (S8ba.out.on hb)
  have S9ab := Lib.hid (S8ab.out.on hb)
  have S9a := Lib.hid (S8a.out.on hb)
  have S9c := Lib.hid (S8c.out.on hb)
  clear hs hcc hb hB8 S8n S8m S8aa S8y S8x S8ba S8ab S8a S8b S8c
  go_wp2_with fail
  refine (meet2 _ _ _ _ _ _ (MM min a b) c _ S9m.out S9c.out (MMmin_valid Va.out Vb.out) Vc.out).mono ?_
  rintro e w10 ⟨Au, nu, cu, rfl, hs, hcc, hb⟩
  have hB10 : Hid (Below w0.heap.size w0 w10) := hB9.out.trans (hb.mono hB9.out.size)
  have S10u := Lib.hid hs
  have Nu : Hid (nu ≤ 12) := by show _ ≤ _; rw [← hs.1]; exact MM_len _ _ _
  have Cu := Lib.hid hcc
  have S10bm := Lib.hid (S9bm.out.on hb)
  have S10n := Lib.hid (S9n.out.on hb)
  have S10m := Lib.hid (S9m.out.on hb)
  have S10aa := Lib.hid (S9aa.out.on hb)
  have S10y := Lib.hid (S9y.out.on hb)
  have S10x := Lib.hid (S9x.out.on hb)
  have S10ba := Lib.hid (S9ba.out.on hb)
  have S10ab := Lib.hid (S9ab.out.on hb)
  have S10a := Lib.hid (S9a.out.on hb)
  clear hs hcc hb hB9 S9bm S9n S9m S9aa S9y S9x S9ba S9ab S9a S9c
  go_wp2_with fail
  refine (meet2 _ _ _ _ _ _ a (MM min b c) _ S10a.out S10bm.out Va.out (MMmin_valid Vb.out Vc.out)).mono ?_
  rintro e w11 ⟨Av, nv, cv, rfl, hs, hcc, hb⟩
  have hB11 : Hid (Below w0.heap.size w0 w11) := hB10.out.trans (hb.mono hB10.out.size)
  have S11v := Lib.hid hs
  have Nv : Hid (nv ≤ 12) := by show _ ≤ _; rw [← hs.1]; exact MM_len _ _ _
  have Cv := Lib.hid hcc
  have S11u := Lib.hid (S10u.out.on hb)
  have S11n := Lib.hid (S10n.out.on hb)
  have S11m := Lib.hid (S10m.out.on hb)
  have S11aa := Lib.hid (S10aa.out.on hb)
  have S11y := Lib.hid (S10y.out.on hb)
  have S11x := Lib.hid (S10x.out.on hb)
  have S11ba := Lib.hid (S10ba.out.on hb)
  have S11ab := Lib.hid (S10ab.out.on hb)
  have S11a := Lib.hid (S10a.out.on hb)
  clear hs hcc hb hB10 S10u S10bm S10n S10m S10aa S10y S10x S10ba S10ab S10a
  go_wp2_with fail
  refine (meet2 _ _ _ _ _ _ a (MM max a b) _ S11a.out S11ab.out Va.out (MMmax_valid Va.out Vb.out)).mono ?_
  rintro e w12 ⟨Ap, np, cp, rfl, hs, hcc, hb⟩
  have hB12 : Hid (Below w0.heap.size w0 w12) := hB11.out.trans (hb.mono hB11.out.size)
  have S12p := Lib.hid hs
  have Np : Hid (np ≤ 12) := by show _ ≤ _; rw [← hs.1]; exact MM_len _ _ _
  have Cp := Lib.hid hcc
  have S12v := Lib.hid (S11v.out.on hb)
  have S12u := Lib.hid (S11u.out.on hb)
  have S12n := Lib.hid (S11n.out.on hb)
  have S12m := Lib.hid (S11m.out.on hb)
  have S12aa := Lib.hid (S11aa.out.on hb)
  have S12y := Lib.hid (S11y.out.on hb)
  have S12x := Lib.hid (S11x.out.on hb)
  have S12ba := Lib.hid (S11ba.out.on hb)
  have S12ab := Lib.hid (S11ab.out.on hb)
  have S12a := Lib.hid (S11a.out.on hb)
  clear hs hcc hb hB11 S11v S11u S11n S11m S11aa S11y S11x S11ba S11ab S11a
  go_wp2_with fail
  refine (merge2 _ _ _ _ _ _ a (MM min a b) _ S12a.out S12m.out Va.out (MMmin_valid Va.out Vb.out)).mono ?_
  rintro e w13 ⟨Aq, nq, cq, rfl, hs, hcc, hb⟩
  have hB13 : Hid (Below w0.heap.size w0 w13) := hB12.out.trans (hb.mono hB12.out.size)
  have S13q := Lib.hid hs
  have Nq : Hid (nq ≤ 12) := by show _ ≤ _; rw [← hs.1]; exact MM_len _ _ _
  have Cq := Lib.hid hcc
  have S13p := Lib.hid (S12p.out.on hb)
  have S13v := Lib.hid (S12v.out.on hb)
  have S13u := Lib.hid (S12u.out.on hb)
  have S13n := Lib.hid (S12n.out.on hb)
  have S13m := Lib.hid (S12m.out.on hb)
  have S13aa := Lib.hid (S12aa.out.on hb)
  have S13y := Lib.hid (S12y.out.on hb)
  have S13x := Lib.hid (S12x.out.on hb)
  have S13ba := Lib.hid (S12ba.out.on hb)
  have S13ab := Lib.hid (S12ab.out.on hb)
  have S13a := Lib.hid (S12a.out.on hb)
  clear hs hcc hb hB12 S12p S12v S12u S12n S12m S12aa S12y S12x S12ba S12ab S12a
  go_wp2_with fail
  refine (rnormal_any _ _ a _ _ _ S13a.out (Nat.le_refl _) (by omega) hcap).mono ?_
  rintro e w14 ⟨Aone, none', cone, rfl, hcc, hs, hb⟩
  have hB14 : Hid (Below w0.heap.size w0 w14) := hB13.out.trans (hb.mono hB13.out.size)
  have S14one := Lib.hid hs
  have None' : Hid (none' ≤ 20) := by show _ ≤ _; rw [← hs.1]; have := nrm_len' a; have := valid_len Va.out; omega
  have S14q := Lib.hid (S13q.out.on hb)
  have S14p := Lib.hid (S13p.out.on hb)
  have S14v := Lib.hid (S13v.out.on hb)
  have S14u := Lib.hid (S13u.out.on hb)
  have S14n := Lib.hid (S13n.out.on hb)
  have S14m := Lib.hid (S13m.out.on hb)
  have S14aa := Lib.hid (S13aa.out.on hb)
  have S14y := Lib.hid (S13y.out.on hb)
  have S14x := Lib.hid (S13x.out.on hb)
  have S14ba := Lib.hid (S13ba.out.on hb)
  have S14ab := Lib.hid (S13ab.out.on hb)
  clear hs hcc hb hB13 S13q S13p S13v S13u S13n S13m S13aa S13y S13x S13ba S13ab S13a
  go_wp2_with fail
  refine (awake_any _).mono ?_; rintro e w15 ⟨rfl, hb⟩
  have hB15 : Hid (Below w0.heap.size w0 w15) := hB14.out.trans (hb.mono hB14.out.size)
  have S15one := Lib.hid (S14one.out.on hb)
  have S15q := Lib.hid (S14q.out.on hb)
  have S15p := Lib.hid (S14p.out.on hb)
  have S15v := Lib.hid (S14v.out.on hb)
  have S15u := Lib.hid (S14u.out.on hb)
  have S15n := Lib.hid (S14n.out.on hb)
  have S15m := Lib.hid (S14m.out.on hb)
  have S15aa := Lib.hid (S14aa.out.on hb)
  have S15y := Lib.hid (S14y.out.on hb)
  have S15x := Lib.hid (S14x.out.on hb)
  have S15ba := Lib.hid (S14ba.out.on hb)
  have S15ab := Lib.hid (S14ab.out.on hb)
  clear hb hB14 S14one S14q S14p S14v S14u S14n S14m S14aa S14y S14x S14ba S14ab
  go_wp2_with fail
  refine (ints_eq _ _ _ _ (MM max a b) (MM max b a) _ _ _ S15ab.out S15ba.out (Nat.le_trans Nab.out (by omega)) (Nat.le_trans Nba.out (by omega)) (lat1 Va.out Vb.out Vc.out)).mono ?_; rintro e w16 ⟨rfl, hb⟩
  have hB16 : Hid (Below w0.heap.size w0 w16) := hB15.out.trans (hb.mono hB15.out.size)
  have S16one := Lib.hid (S15one.out.on hb)
  have S16q := Lib.hid (S15q.out.on hb)
  have S16p := Lib.hid (S15p.out.on hb)
  have S16v := Lib.hid (S15v.out.on hb)
  have S16u := Lib.hid (S15u.out.on hb)
  have S16n := Lib.hid (S15n.out.on hb)
  have S16m := Lib.hid (S15m.out.on hb)
  have S16aa := Lib.hid (S15aa.out.on hb)
  have S16y := Lib.hid (S15y.out.on hb)
  have S16x := Lib.hid (S15x.out.on hb)
  have S16ba := Lib.hid (S15ba.out.on hb)
  have S16ab := Lib.hid (S15ab.out.on hb)
  clear hb hB15 S15one S15q S15p S15v S15u S15n S15m S15aa S15y S15x S15ba S15ab
  go_wp2_with fail
  refine (ints_eq _ _ _ _ (MM max (MM max a b) c) (MM max a (MM max b c)) _ _ _ S16x.out S16y.out (Nat.le_trans Nx.out (by omega)) (Nat.le_trans Ny.out (by omega)) (lat2 Va.out Vb.out Vc.out)).mono ?_; rintro e w17 ⟨rfl, hb⟩
  have hB17 : Hid (Below w0.heap.size w0 w17) := hB16.out.trans (hb.mono hB16.out.size)
  have S17one := Lib.hid (S16one.out.on hb)
  have S17q := Lib.hid (S16q.out.on hb)
  have S17p := Lib.hid (S16p.out.on hb)
  have S17v := Lib.hid (S16v.out.on hb)
  have S17u := Lib.hid (S16u.out.on hb)
  have S17n := Lib.hid (S16n.out.on hb)
  have S17m := Lib.hid (S16m.out.on hb)
  have S17aa := Lib.hid (S16aa.out.on hb)
  have S17y := Lib.hid (S16y.out.on hb)
  have S17x := Lib.hid (S16x.out.on hb)
  have S17ba := Lib.hid (S16ba.out.on hb)
  have S17ab := Lib.hid (S16ab.out.on hb)
  clear hb hB16 S16one S16q S16p S16v S16u S16n S16m S16aa S16y S16x S16ba S16ab
  go_wp2_with fail
  refine (ints_eq _ _ _ _ (MM max a a) (nrm a) _ _ _ S17aa.out S17one.out (Nat.le_trans Naa.out (by omega)) (Nat.le_trans None'.out (by omega)) (lat3 Va.out Vb.out Vc.out)).mono ?_; rintro e w18 ⟨rfl, hb⟩
  have hB18 : Hid (Below w0.heap.size w0 w18) := hB17.out.trans (hb.mono hB17.out.size)
  have S18one := Lib.hid (S17one.out.on hb)
  have S18q := Lib.hid (S17q.out.on hb)
  have S18p := Lib.hid (S17p.out.on hb)
  have S18v := Lib.hid (S17v.out.on hb)
  have S18u := Lib.hid (S17u.out.on hb)
  have S18n := Lib.hid (S17n.out.on hb)
  have S18m := Lib.hid (S17m.out.on hb)
  have S18aa := Lib.hid (S17aa.out.on hb)
  have S18y := Lib.hid (S17y.out.on hb)
  have S18x := Lib.hid (S17x.out.on hb)
  have S18ba := Lib.hid (S17ba.out.on hb)
  have S18ab := Lib.hid (S17ab.out.on hb)
  clear hb hB17 S17one S17q S17p S17v S17u S17n S17m S17aa S17y S17x S17ba S17ab
  go_wp2_with fail
  refine (ints_eq _ _ _ _ (MM min a b) (MM min b a) _ _ _ S18m.out S18n.out (Nat.le_trans Nm.out (by omega)) (Nat.le_trans Nn.out (by omega)) (lat4 Va.out Vb.out Vc.out)).mono ?_; rintro e w19 ⟨rfl, hb⟩
  have hB19 : Hid (Below w0.heap.size w0 w19) := hB18.out.trans (hb.mono hB18.out.size)
  have S19one := Lib.hid (S18one.out.on hb)
  have S19q := Lib.hid (S18q.out.on hb)
  have S19p := Lib.hid (S18p.out.on hb)
  have S19v := Lib.hid (S18v.out.on hb)
  have S19u := Lib.hid (S18u.out.on hb)
  have S19n := Lib.hid (S18n.out.on hb)
  have S19m := Lib.hid (S18m.out.on hb)
  have S19aa := Lib.hid (S18aa.out.on hb)
  have S19y := Lib.hid (S18y.out.on hb)
  have S19x := Lib.hid (S18x.out.on hb)
  have S19ba := Lib.hid (S18ba.out.on hb)
  have S19ab := Lib.hid (S18ab.out.on hb)
  clear hb hB18 S18one S18q S18p S18v S18u S18n S18m S18aa S18y S18x S18ba S18ab
  go_wp2_with fail
  refine (ints_eq _ _ _ _ (MM min (MM min a b) c) (MM min a (MM min b c)) _ _ _ S19u.out S19v.out (Nat.le_trans Nu.out (by omega)) (Nat.le_trans Nv.out (by omega)) (lat5 Va.out Vb.out Vc.out)).mono ?_; rintro e w20 ⟨rfl, hb⟩
  have hB20 : Hid (Below w0.heap.size w0 w20) := hB19.out.trans (hb.mono hB19.out.size)
  have S20one := Lib.hid (S19one.out.on hb)
  have S20q := Lib.hid (S19q.out.on hb)
  have S20p := Lib.hid (S19p.out.on hb)
  have S20v := Lib.hid (S19v.out.on hb)
  have S20u := Lib.hid (S19u.out.on hb)
  have S20n := Lib.hid (S19n.out.on hb)
  have S20m := Lib.hid (S19m.out.on hb)
  have S20aa := Lib.hid (S19aa.out.on hb)
  have S20y := Lib.hid (S19y.out.on hb)
  have S20x := Lib.hid (S19x.out.on hb)
  have S20ba := Lib.hid (S19ba.out.on hb)
  have S20ab := Lib.hid (S19ab.out.on hb)
  clear hb hB19 S19one S19q S19p S19v S19u S19n S19m S19aa S19y S19x S19ba S19ab
  go_wp2_with fail
  refine (ints_eq _ _ _ _ (MM min a (MM max a b)) (nrm a) _ _ _ S20p.out S20one.out (Nat.le_trans Np.out (by omega)) (Nat.le_trans None'.out (by omega)) (lat6 Va.out Vb.out Vc.out)).mono ?_; rintro e w21 ⟨rfl, hb⟩
  have hB21 : Hid (Below w0.heap.size w0 w21) := hB20.out.trans (hb.mono hB20.out.size)
  have S21one := Lib.hid (S20one.out.on hb)
  have S21q := Lib.hid (S20q.out.on hb)
  have S21p := Lib.hid (S20p.out.on hb)
  have S21v := Lib.hid (S20v.out.on hb)
  have S21u := Lib.hid (S20u.out.on hb)
  have S21n := Lib.hid (S20n.out.on hb)
  have S21m := Lib.hid (S20m.out.on hb)
  have S21aa := Lib.hid (S20aa.out.on hb)
  have S21y := Lib.hid (S20y.out.on hb)
  have S21x := Lib.hid (S20x.out.on hb)
  have S21ba := Lib.hid (S20ba.out.on hb)
  have S21ab := Lib.hid (S20ab.out.on hb)
  clear hb hB20 S20one S20q S20p S20v S20u S20n S20m S20aa S20y S20x S20ba S20ab
  go_wp2_with fail
  refine (ints_eq _ _ _ _ (MM max a (MM min a b)) (nrm a) _ _ _ S21q.out S21one.out (Nat.le_trans Nq.out (by omega)) (Nat.le_trans None'.out (by omega)) (lat7 Va.out Vb.out Vc.out)).mono ?_; rintro e w22 ⟨rfl, hb⟩
  have hB22 : Hid (Below w0.heap.size w0 w22) := hB21.out.trans (hb.mono hB21.out.size)
  have S22one := Lib.hid (S21one.out.on hb)
  have S22q := Lib.hid (S21q.out.on hb)
  have S22p := Lib.hid (S21p.out.on hb)
  have S22v := Lib.hid (S21v.out.on hb)
  have S22u := Lib.hid (S21u.out.on hb)
  have S22n := Lib.hid (S21n.out.on hb)
  have S22m := Lib.hid (S21m.out.on hb)
  have S22aa := Lib.hid (S21aa.out.on hb)
  have S22y := Lib.hid (S21y.out.on hb)
  have S22x := Lib.hid (S21x.out.on hb)
  have S22ba := Lib.hid (S21ba.out.on hb)
  have S22ab := Lib.hid (S21ab.out.on hb)
  clear hb hB21 S21one S21q S21p S21v S21u S21n S21m S21aa S21y S21x S21ba S21ab
  go_wp2
  go_ret
  exact ⟨rfl, hB22.out⟩

set_option maxRecDepth 20000 in
set_option maxHeartbeats 1000000 in
theorem law_lattice (Aa Ab Ac : Option Addr) (na nb nc ca cb cc : Nat) (a b c : List Int) (w : World) (ha0 : Sl I w w.heap.size Aa na a) (hb0 : Sl I w w.heap.size Ab nb b) (hc0 : Sl I w w.heap.size Ac nc c) (hcap : na ≤ ca) :
    Calls Try.prog 6 #[.slice Aa na ca, .slice Ab nb cb, .slice Ac nc cc] w (Law w) := by
  by_cases hall : na ≤ 20 ∧ nb ≤ 20 ∧ nc ≤ 20 ∧ validB a = true ∧ validB b = true ∧ validB c = true
  · obtain ⟨h1, h2, h3, ha, hb, hc⟩ := hall
    exact law_lattice_yes Aa Ab Ac na nb nc ca cb cc a b c w ha0 hb0 hc0 hcap h1 h2 h3 ha hb hc
  have S0a := Lib.hid ha0
  have S0b := Lib.hid hb0
  have S0c := Lib.hid hc0
  clear ha0 hb0 hc0
  by_cases h1 : na ≤ 20
  · by_cases h2 : nb ≤ 20
    · by_cases h3 : nc ≤ 20
      · have cVa : Hid (∀ W, Sl I W W.heap.size Aa na a → Calls Try.prog 16 #[.slice Aa na ca] W fun e w' => e = .returned (.bool (validB a)) ∧ W = w') := fun W h => rvalid_n Aa na a ca W _ h (by omega)
        have cVb : Hid (∀ W, Sl I W W.heap.size Ab nb b → Calls Try.prog 16 #[.slice Ab nb cb] W fun e w' => e = .returned (.bool (validB b)) ∧ W = w') := fun W h => rvalid_n Ab nb b cb W _ h (by omega)
        have cVc : Hid (∀ W, Sl I W W.heap.size Ac nc c → Calls Try.prog 16 #[.slice Ac nc cc] W fun e w' => e = .returned (.bool (validB c)) ∧ W = w') := fun W h => rvalid_n Ac nc c cc W _ h (by omega)
        obtain ⟨va, hva⟩ : ∃ v, validB a = v := ⟨_, rfl⟩
        obtain ⟨vb, hvb⟩ : ∃ v, validB b = v := ⟨_, rfl⟩
        obtain ⟨vc, hvc⟩ : ∃ v, validB c = v := ⟨_, rfl⟩
        rw [hva] at cVa
        rw [hvb] at cVb
        rw [hvc] at cVc
        rw [hva, hvb, hvc] at hall
        have hno : ¬ (va = true ∧ vb = true ∧ vc = true) := fun h => hall ⟨h1, h2, h3, h⟩
        clear hva hvb hvc hall
        cases va <;> cases vb <;> cases vc
        all_goals first
          | exact absurd ⟨rfl, rfl, rfl⟩ hno
          | (clear hno
             go_enter Try.func6, Try.ntmps6
             go_wp2_with (first
               | (go_at_call 13; refine (few_n _ _ _ _).mono ?_; rintro e w' ⟨rfl, rfl⟩)
               | (go_at_call 16; (with_reducible refine (cVa.out _ S0a.out).mono ?_); rintro e w' ⟨rfl, rfl⟩)
               | (go_at_call 16; (with_reducible refine (cVb.out _ S0b.out).mono ?_); rintro e w' ⟨rfl, rfl⟩)
               | (go_at_call 16; (with_reducible refine (cVc.out _ S0c.out).mono ?_); rintro e w' ⟨rfl, rfl⟩)
               | (go_at_call 14; refine (law_awake w w (Below.refl _ _)).mono ?_; rintro e w2 ⟨rfl, hb2⟩))
             go_ret
             exact ⟨rfl, hb2⟩)
      · go_enter Try.func6, Try.ntmps6
        go_wp2_with (first
          | (go_at_call 13; refine (few_n _ _ _ _).mono ?_; rintro e w' ⟨rfl, rfl⟩)
          | (go_at_call 14; refine (law_awake w w (Below.refl _ _)).mono ?_; rintro e w2 ⟨rfl, hb2⟩))
        go_ret
        exact ⟨rfl, hb2⟩
    · go_enter Try.func6, Try.ntmps6
      go_wp2_with (first
        | (go_at_call 13; refine (few_n _ _ _ _).mono ?_; rintro e w' ⟨rfl, rfl⟩)
        | (go_at_call 14; refine (law_awake w w (Below.refl _ _)).mono ?_; rintro e w2 ⟨rfl, hb2⟩))
      go_ret
      exact ⟨rfl, hb2⟩
  · go_enter Try.func6, Try.ntmps6
    go_wp2_with (first
      | (go_at_call 13; refine (few_n _ _ _ _).mono ?_; rintro e w' ⟨rfl, rfl⟩)
      | (go_at_call 14; refine (law_awake w w (Below.refl _ _)).mono ?_; rintro e w2 ⟨rfl, hb2⟩))
    go_ret
    exact ⟨rfl, hb2⟩
end Go.Proofs.Ytalclofogengpaa
