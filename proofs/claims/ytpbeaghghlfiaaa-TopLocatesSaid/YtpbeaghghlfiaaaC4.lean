/- reedsolomon: conflict. -/
import Derived.Test.YtpbeaghghlfiaaaC3
import Derived.IntWalk
namespace Go.Proofs.Ytpbeaghghlfiaaa
open Go.RowKit Go.Lib
set_option linter.unusedVariables false
set_option linter.unusedSimpArgs false
def CfP (len : Nat) (ok : Prop) (w : World) (e : Ending) (w' : World) : Prop := ∃ r : Int, e = .returned (.int .i64 r) ∧ ((r < 0 ∧ ok) ∨ (0 ≤ r ∧ r < len ∧ ¬ ok)) ∧ Below w.heap.size w w'
/-- The first place so far. -/
def Fst (len : Nat) (ok : Prop) (r : Int) : Prop := (r = -1 ∧ ok) ∨ (0 ≤ r ∧ r < len ∧ ¬ ok)
theorem predP_bys {n : Nat} {P : Mt} {f : List Nat} (hf : Bys f) : Bys (predP n P f) := comb_bys hf
set_option maxRecDepth 100000 in
set_option maxHeartbeats 8000000 in
theorem conflict_any (A1 A2 : Option Addr) (n c q c2 d len B : Nat) (P F : Mt) (w : World) (h1 : SLL fN w B A1 n P) (h2 : SLL fN w B A2 q F) (hB : B ≤ w.heap.size) (hP : MtOk len P) (hF : MtOk d F) (hd0 : 0 < d) (hn : n = d + q) (hnc : n ≤ c) (hn64 : n ≤ 64) (hl : len ≤ 65536) :
    Calls Try.prog 25 #[.slice A1 n c, .slice A2 q c2] w (CfP len (okP len d P F) w) := by
  have hpl : P.length = n := h1.choose_spec.2.1
  have hfl : F.length = q := h2.choose_spec.2.1
  have H1 := Lib.hid h1
  have H2 := Lib.hid h2
  have HBB := Lib.hid hB
  have HPO := Lib.hid hP
  have HFO := Lib.hid hF
  have HPL := Lib.hid hpl
  have HFL := Lib.hid hfl
  have HD0 := Lib.hid hd0
  have HN := Lib.hid hn
  have HNC := Lib.hid hnc
  have HN64 := Lib.hid hn64
  have HL := Lib.hid hl
  have hqI : (q : Int) ≤ 64 := by omega
  have hdI : (d : Int) ≤ 64 := by omega
  have hdqI : (n : Int) = (d : Int) + (q : Int) := by omega
  have hlI : (len : Int) ≤ 65536 := by omega
  have HB0 : Hid (Below w.heap.size w w) := Below.refl _ _
  have HF0 : Hid (Fst len (okN len d P F 0) (-1)) := .inl ⟨rfl, okN_zero _ _ _ _⟩
  have HDQ := Lib.hid hdqI
  clear h1 h2 hB hP hF hd0 hn hnc hn64 hl hpl hfl hdqI
  go_enter Try.func25, Try.ntmps25
  go_wp2_with fail
  go_loopw [5, 13] (fun v i wr => ∃ (k : Nat) (r : Int), k ≤ q ∧ i = .int .i64 k ∧ v = .int .i64 r ∧ Hid (Below w.heap.size w wr) ∧ Hid (Fst len (okN len d P F k) r)) (fun _ i _ => q - (intOf i).toNat)
  case atStart => exact ⟨0, -1, Nat.zero_le _, rfl, rfl, HB0, HF0⟩
  case round =>
    clear HB0 HF0
    obtain ⟨k, r, hk, rfl, rfl, HB, HR⟩ := hrel
    by_cases hlt : k < q
    · have hkI : (k : Int) < (q : Int) := by omega
      obtain ⟨fb, fo, fa, fc, f, rfl, hfk, hcf, hsf⟩ := (H2.out.up HB.out HBB.out).cell hlt
      have hfo := HFO.out.get hfk
      rw [hfo.1] at hcf hsf
      have hdk : d + k < n := by have := HN.out; omega
      obtain ⟨pb, po, pa, pc, p, rfl, hpk, hcp, hsp⟩ := (H1.out.up HB.out HBB.out).cell hdk
      have hpo := HPO.out.get hpk
      rw [hpo.1] at hcp hsp
      have HPB : Hid (pb < wr.heap.size) := World.block_lt_of_cell? wr _ hcp
      have HCP := Lib.hid hcp
      have HSP : Hid (Sl fN wr wr.heap.size pa len p) := hsp.more' (Nat.le_trans HBB.out HB.out.size)
      obtain ⟨s, hs⟩ : ∃ s, predP len P f = s := ⟨_, rfl⟩
      have HPR : Hid (∀ V, Below wr.heap.size wr V → Calls Try.prog 41 #[.slice (some ⟨pb, po, none⟩) n c, .slice fa d fc] V (RwP s len V)) := fun V hv => by
        have t := predict_any (some ⟨pb, po, none⟩) fa n c d fc len B P f V (H1.out.up (HB.out.trans (hv.mono HB.out.size)) HBB.out) (hsf.up hv (Nat.le_trans HBB.out HB.out.size)) (Nat.le_trans HBB.out (Nat.le_trans HB.out.size hv.size)) HPO.out hfo.2 HD0.out (by have := HN.out; omega) HNC.out HN64.out HL.out
        rwa [hs] at t
      have hsl : s.length = len := by rw [← hs]; exact predP_len (d := d) HPO.out f
      have hsb : Bys s := by rw [← hs]; exact predP_bys hfo.2
      have hok : okN len d P F (k + 1) ↔ okN len d P F k ∧ p = s := by
        rw [okN_succ, getD_some hpk, getD_some hfk, hs]
      have HOK := Lib.hid hok
      have HPX := Lib.hid hpo
      have HSX : Hid (s.length = len ∧ Bys s) := ⟨hsl, hsb⟩
      obtain ⟨dk, hdke⟩ : ∃ x, d + k = x := ⟨_, rfl⟩
      rw [hdke] at hcp HCP
      have hdkw : IntKind.i64.wrap ((d : Int) + (k : Int)) = (dk : Int) := by rw [← hdke, IntWalk.i64_in _ (by omega)]; omega
      have hdkI : (dk : Int) < (n : Int) := by have := HDQ.out; omega
      clear hdke
      clear hfk hfo hdk hpk hpo hsp hs hsl hsb hok hsf
      go_wp2_with fail
      refine wp_region_held_drew (S := (fun w' : World => w'.cell? ⟨pb, po + dk, none⟩ = some (.slice pa len pc))) (by kernel_rfl) (by exact hcp) (fun hHeld => ?_)
      refine wpAnyH_take (i := 0) (v := _) (by simp only [List.getElem?_toArray, List.getElem?_cons_zero]; rfl) (by kernel_rfl) (by kernel_rfl) (by kernel_rfl) (by exact fun _ _ _ h => h) (Or.inl ⟨by rfl, by (intro w hSw; (try dsimp only at hSw); go_simp; try (with_reducible rfl))⟩) (by assumption) ?_
      try simp only [Act.put, List.setIfInBounds_toArray, List.set_cons_zero, List.set_cons_succ]
      refine wpAnyH_take (i := 1) (v := _) (by simp only [List.getElem?_toArray, List.getElem?_cons_succ, List.getElem?_cons_zero]; rfl) (by kernel_rfl) (by kernel_rfl) (by kernel_rfl) (by exact fun _ _ _ h => h) (Or.inl ⟨by rfl, by (intro w hSw; (try dsimp only at hSw); go_simp; try (with_reducible rfl))⟩) (by assumption) ?_
      try simp only [Act.put, List.setIfInBounds_toArray, List.set_cons_zero, List.set_cons_succ]
      refine wpAnyH_take (i := 2) (v := _) (by simp only [List.getElem?_toArray, List.getElem?_cons_succ, List.getElem?_cons_zero]; rfl) (by kernel_rfl) (by kernel_rfl) (by kernel_rfl) (by exact fun _ _ _ h => h) (Or.inl ⟨by rfl, by (intro w hSw; (try dsimp only at hSw); go_simp; try (with_reducible rfl))⟩) (by assumption) ?_
      try simp only [Act.put, List.setIfInBounds_toArray, List.set_cons_zero, List.set_cons_succ]
      refine wpAnyH_take (i := 3) (v := _) (by simp only [List.getElem?_toArray, List.getElem?_cons_succ, List.getElem?_cons_zero]; rfl) (by kernel_rfl) (by kernel_rfl) (by kernel_rfl) (by exact fun _ _ _ h => h) (Or.inl ⟨by rfl, by (intro w hSw; (try dsimp only at hSw); go_simp; try (with_reducible rfl))⟩) (by assumption) ?_
      try simp only [Act.put, List.setIfInBounds_toArray, List.set_cons_zero, List.set_cons_succ]
      refine wpAnyH_take (i := 4) (v := _) (by simp only [List.getElem?_toArray, List.getElem?_cons_succ, List.getElem?_cons_zero]; rfl) (by kernel_rfl) (by kernel_rfl) (by kernel_rfl) (by exact fun _ _ _ h => h) (Or.inl ⟨by rfl, by (intro w hSw; (try dsimp only at hSw); go_simp; try (with_reducible rfl))⟩) (by assumption) ?_
      try simp only [Act.put, List.setIfInBounds_toArray, List.set_cons_zero, List.set_cons_succ]
      refine wpAnyH_take (i := 5) (v := _) (by simp only [List.getElem?_toArray, List.getElem?_cons_succ, List.getElem?_cons_zero]; rfl) (by kernel_rfl) (by kernel_rfl) (by kernel_rfl) (by exact fun _ _ _ h => h) (Or.inl ⟨by rfl, by (intro w hSw; (try dsimp only at hSw); go_simp; try (with_reducible rfl))⟩) (by assumption) ?_
      try simp only [Act.put, List.setIfInBounds_toArray, List.set_cons_zero, List.set_cons_succ]
      refine wpAnyH_take (i := 6) (v := _) (by simp only [List.getElem?_toArray, List.getElem?_cons_succ, List.getElem?_cons_zero]; rfl) (by kernel_rfl) (by kernel_rfl) (by kernel_rfl) (by exact fun _ _ _ h => h) (Or.inl ⟨by rfl, by (intro w hSw; (try dsimp only at hSw); go_simp; try (with_reducible rfl))⟩) (by assumption) ?_
      try simp only [Act.put, List.setIfInBounds_toArray, List.set_cons_zero, List.set_cons_succ]
      refine wpAnyH_take (i := 7) (v := _) (by simp only [List.getElem?_toArray, List.getElem?_cons_succ, List.getElem?_cons_zero]; rfl) (by kernel_rfl) (by kernel_rfl) (by kernel_rfl) (by exact fun _ _ _ h => h) (Or.inl ⟨by rfl, by (intro w hSw; (try dsimp only at hSw); go_simp; try (with_reducible rfl))⟩) (by assumption) ?_
      try simp only [Act.put, List.setIfInBounds_toArray, List.set_cons_zero, List.set_cons_succ]
      refine wpAnyH_take (i := 8) (v := _) (by simp only [List.getElem?_toArray, List.getElem?_cons_succ, List.getElem?_cons_zero]; rfl) (by kernel_rfl) (by kernel_rfl) (by kernel_rfl) (by exact fun _ _ _ h => h) (Or.inl ⟨by rfl, by (intro w hSw; (try dsimp only at hSw); go_simp; try (with_reducible rfl))⟩) (by assumption) ?_
      try simp only [Act.put, List.setIfInBounds_toArray, List.set_cons_zero, List.set_cons_succ]
      refine wpAnyH_ready (rs := [9]) (by kernel_rfl) (by simp) ?_
      refine AllReadyH.cons (by simp only [List.getElem?_toArray, List.getElem?_cons_succ, List.getElem?_cons_zero]; rfl) (fun K hK => ?_) (AllReadyH.nil)
      (go_simp; go_at_call 41; (with_reducible refine (HPR.out _ (Below.refl _ wr).drew).mono ?_); rintro e w5 ⟨sa, sc, rfl, hs5, hb5⟩; (have HB5 : Hid (Below wr.heap.size wr w5) := (Below.refl _ wr).drew.trans hb5); (have HS5 := Lib.hid hs5); clear hs5 hb5; go_wp2_with fail)
      refine hK.out _ _ (by exact (World.cell?_of_block (HB5.out.block _ HPB.out)).trans HCP.out) (fun hHeldz10 => ?_)
      clear hK K hHeld
      try simp only [Act.put, List.setIfInBounds_toArray, List.set_cons_zero, List.set_cons_succ]
      refine wpAnyH_take (i := 10) (v := _) (by simp only [List.getElem?_toArray, List.getElem?_cons_succ, List.getElem?_cons_zero]; rfl) (by kernel_rfl) (by kernel_rfl) (by kernel_rfl) (by exact fun _ _ _ h => h) (Or.inl ⟨by rfl, by (intro w hSw; (try dsimp only at hSw); go_simp; try (with_reducible rfl))⟩) (by assumption) ?_
      try simp only [Act.put, List.setIfInBounds_toArray, List.set_cons_zero, List.set_cons_succ]
      refine wpAnyH_take (i := 11) (v := _) (by simp only [List.getElem?_toArray, List.getElem?_cons_succ, List.getElem?_cons_zero]; rfl) (by kernel_rfl) (by kernel_rfl) (by kernel_rfl) (by exact fun _ _ _ h => h) (Or.inl ⟨by rfl, by (intro w hSw; (try dsimp only at hSw); go_simp; try (with_reducible rfl))⟩) (by assumption) ?_
      try simp only [Act.put, List.setIfInBounds_toArray, List.set_cons_zero, List.set_cons_succ]
      refine wpAnyH_done (by kernel_rfl) ?_ _
      skip
      have HSP5 := HSP.out.up HB5.out (Nat.le_refl _)
      have HEQ : Hid (Calls Try.prog 42 #[.slice pa len pc, .slice sa len sc] w5 fun e w' => e = .returned (.bool (decide (p = s))) ∧ w5 = w') :=
        equal_any pa sa len len pc sc w5.heap.size p s w5 (HSP5.more' HB5.out.size) HS5.out HPX.out.2 HSX.out.2
      have HSPq : Hid (Sl fN w5 w5.heap.size pa len p) := HSP5.more' HB5.out.size
      have HBw5 : Hid (Below w.heap.size w w5) := HB.out.trans (HB5.out.mono HB.out.size)
      clear hcf hcp HSP5
      by_cases he : p = s
      · have HF1 : Hid (Fst len (okN len d P F (k + 1)) r) := by
          rcases HR.out with ⟨q1, q2⟩ | ⟨q1, q2, q3⟩
          · exact .inl ⟨q1, HOK.out.2 ⟨q2, he⟩⟩
          · exact .inr ⟨q1, q2, fun g => q3 (HOK.out.1 g).1⟩
        rw [decide_eq_true he] at HEQ
        clear he
        go_wp2_with (go_at_call 42; (with_reducible refine HEQ.out.mono ?_); rintro e w' ⟨rfl, rfl⟩)
        go_roundw
        case rel => exact ⟨k + 1, r, by omega, by go_num, rfl, HBw5, HF1⟩
        case measure => simp [intOf]; omega
      · have hno : ¬ okN len d P F (k + 1) := fun g => he (HOK.out.1 g).2
        have HNO := Lib.hid hno
        obtain ⟨t0, ht0, hdf⟩ : ∃ t0, t0 < len ∧ p.getD t0 0 ≠ s.getD t0 0 := by
          refine Classical.byContradiction fun g => he (row_ext HPX.out.1 HSX.out.1 (fun t ht => ?_))
          refine Classical.byContradiction fun g2 => g ⟨t, ht, g2⟩
        have HT0 := Lib.hid ht0
        have HDF := Lib.hid hdf
        rw [decide_eq_false he] at HEQ
        have HBz : Hid (Below w5.heap.size w5 w5) := Below.refl _ _
        have hr1 : -1 ≤ r := by rcases HR.out with ⟨q1, q2⟩ | ⟨q1, q2, q3⟩ <;> omega
        have hr2 : r < 65536 := by rcases HR.out with ⟨q1, q2⟩ | ⟨q1, q2, q3⟩ <;> omega
        clear he hno ht0 hdf
        go_upto_region 8 with (go_at_call 42; (with_reducible refine HEQ.out.mono ?_); rintro e w' ⟨rfl, rfl⟩)
        obtain ⟨W0, hW0⟩ : ∃ W0, W0 = wr := ⟨_, rfl⟩
        subst hW0
        go_loopw [10] (fun i wr => ∃ x : Nat, x ≤ t0 ∧ i = .int .i64 x ∧ Hid (Below w5.heap.size w5 wr)) (fun i _ => t0 - (intOf i).toNat)
        case atStart => exact ⟨0, Nat.zero_le _, rfl, HBz⟩
        case round =>
          clear HBz HEQ
          obtain ⟨x, hx, rfl, HBx⟩ := hrel
          have hxl : x < len := by have := HT0.out; omega
          obtain ⟨xb, xo, a, hxA, _, hpa, hca⟩ := (HSPq.out.up HBx.out (Nat.le_refl _)).2.at_ (k := x) (by rw [HPX.out.1]; exact hxl)
          obtain ⟨yb, yo, b, hyA, _, hsb, hcb⟩ := (HS5.out.up HBx.out (Nat.le_refl _)).2.at_ (k := x) (by rw [HSX.out.1]; exact hxl)
          subst hxA hyA
          have hxI : (x : Int) < (len : Int) := by omega
          have hx0 : (x : Int) ≤ 65536 := by omega
          have HBxw : Hid (Below w.heap.size w wr) := HBw5.out.trans (HBx.out.mono HBw5.out.size)
          by_cases hab : a = b
          · have hxt : x < t0 := by
              refine Nat.lt_of_le_of_ne hx (fun g => HDF.out ?_)
              rw [← g, getD_some hpa, getD_some hsb, hab]
            subst hab
            clear hpa hsb
            go_wp2_with fail
            go_quiet (fail)
            go_wp2_with fail
            go_roundw
            case rel => exact ⟨x + 1, hxt, by go_num, below_dN HBx.out _⟩
            case measure => simp [intOf]; omega
          · have hab1 : ((a : Int) == (b : Int)) = false := by simp; omega
            have hab2 : decide ((a : Int) = (b : Int)) = false := by simp; omega
            have hab3 : decide (a = b) = false := by simp; omega
            have hab4 : (a == b) = false := by simp; omega
            have HFN : Hid (Fst len (okN len d P F (k + 1)) (x : Int)) := .inr ⟨by omega, by omega, HNO.out⟩
            clear hpa hsb
            by_cases hr0 : r < 0
            · go_wp2_with fail
              go_quiet (fail)
              go_wp2_with fail
              go_roundw
              case rel => exact ⟨k + 1, x, by omega, by go_num, rfl, below_dN HBxw.out _, HFN⟩
              case measure => simp [intOf]; omega
            · by_cases hxr : (x : Int) < r
              · have hr0d : decide (r < 0) = false := decide_eq_false hr0
                go_wp2_with fail
                go_quiet (fail)
                go_wp2_with fail
                go_roundw
                case rel => exact ⟨k + 1, x, by omega, by go_num, rfl, below_dN HBxw.out _, HFN⟩
                case measure => simp [intOf]; omega
              · have hr0d : decide (r < 0) = false := decide_eq_false hr0
                have hxrd : decide ((x : Int) < r) = false := decide_eq_false hxr
                have HFM : Hid (Fst len (okN len d P F (k + 1)) r) := .inr ⟨by omega, by rcases HR.out with ⟨q1, q2⟩ | ⟨q1, q2, q3⟩ <;> omega, HNO.out⟩
                go_wp2_with fail
                go_quiet (fail)
                go_wp2_with fail
                go_roundw
                case rel => exact ⟨k + 1, r, by omega, by go_num, rfl, below_dN HBxw.out _, HFM⟩
                case measure => simp [intOf]; omega
    · obtain rfl : k = q := by omega
      have HE : Hid (Fst len (okP len d P F) r) := by
        have t := HR.out
        rw [← HFL.out] at t
        exact t
      go_wp2_with fail
      go_ret
      refine ⟨r, rfl, ?_, HB.out⟩
      rcases HE.out with ⟨q1, q2⟩ | ⟨q1, q2, q3⟩
      · exact .inl ⟨by omega, q2⟩
      · exact .inr ⟨q1, q2, q3⟩
end Go.Proofs.Ytpbeaghghlfiaaa
