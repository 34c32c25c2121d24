/- Signatures verified; the reference's root. The reference's signatures. Merkle paths, both. -/
import Derived.Test.YtpdledjgbgalcaaGreatDoorND
import Derived.Test.YtpdledjgbgalcaaGreatDoorPj
namespace Go.Proofs.YtpdledjgbgalcaaGreatDoor
open Go.RowKit Go.Lib
set_option linter.unusedVariables false
set_option linter.unusedSimpArgs false
theorem beqN (a b : ByteArray) : decide (a = b) = (a.toList == b.toList) := by
  rw [← beq_toListBytes]
  show decide (a = b) = (a.data == b.data)
  by_cases h : a = b
  · subst h; simp
  · rw [decide_eq_false h]
    symm
    rw [beq_eq_false_iff_ne]
    exact fun h2 => h (ByteArray.ext h2)
set_option maxRecDepth 100000 in
set_option maxHeartbeats 4000000 in
theorem sgverify_any (b h : Int) (dg : ByteArray) (hdg : dg.size = 32) (ix : Nat) (hix : ix < 256) (Ap Aq : Option Addr) (np nq cp cq B : Nat) (ps qs : List ByteArray) (w : World) (hG : Glob w) (hp : Sl fT w B Ap np ps) (hq : Sl fT w B Aq nq qs) (hB : B ≤ w.heap.size) (hn : np ≤ 300) (hm : nq ≤ 8) (hps : ∀ s ∈ ps, s.size = 32) (hqs : ∀ s ∈ qs, s.size = 32) (pub : ByteArray) :
    Calls Tryz.prog 90 #[.agg (cSc b h), .string pub, .string dg, .agg (cSg ix Ap np cp Aq nq cq)] w fun e w' => e = .returned (.bool (sgF b h ix np nq && decide (sgR b dg ix ps qs = pub))) ∧ Below w.heap.size w w' := by
  have HR : Hid (∀ V, Below w.heap.size w V → Calls Tryz.prog 152 #[.agg (cSc b h), .string dg, .agg (cSg ix Ap np cp Aq nq cq)] V fun e w' => ∃ r er, e = .returned (.tuple #[.string r, .int .i64 er]) ∧ (er = 0 ∧ sgF b h ix np nq = true ∧ r = sgR b dg ix ps qs ∨ er = 1 ∧ sgF b h ix np nq = false) ∧ Below V.heap.size V w') := fun V hb => sgroot_any b h dg hdg ix hix Ap Aq np nq cp cq B ps qs V (hG.on hb) (hp.up hb hB) (hq.up hb hB) (Nat.le_trans hB hb.size) hn hm hps hqs
  have HB : Hid (Below w.heap.size w ((w.alloc (.cells (cSc b h) 26)).alloc (.cells (cSg ix Ap np cp Aq nq cq) 33))) := ((Below.refl _ _).alloc (Nat.le_refl _) _).alloc (by simp) _
  have HC := Lib.hid (HR.out _ HB.out)
  clear hp hq hps hqs hG HR
  go_enter Tryz.func90, Tryz.ntmps90
  go_wp2_with (go_at_call 152; (with_reducible refine HC.out.mono ?_); rintro e w4 ⟨r, er, rfl, hr, hb4⟩; (have HB4 := Lib.hid (HB.out.trans (hb4.mono HB.out.size))); clear hb4; rcases hr with ⟨rfl, hf, rfl⟩ | ⟨rfl, hf⟩)
  all_goals
    have HF := Lib.hid hf
    clear hf
    go_wp2
    go_ret
    exact ⟨by rw [HF.out]; first | rfl | (rw [beqN]; rfl), HB4.out⟩
end Go.Proofs.YtpdledjgbgalcaaGreatDoor
namespace Go.Proofs.YtpdledjgbgalcaaGreatDoor
open Go.RowKit Go.Lib
set_option linter.unusedVariables false
set_option linter.unusedSimpArgs false
end Go.Proofs.YtpdledjgbgalcaaGreatDoor
namespace Go.Proofs.YtpdledjgbgalcaaGreatDoor
open Go.RowKit Go.Lib
set_option linter.unusedVariables false
set_option linter.unusedSimpArgs false
theorem upF_size (x : ByteArray) (hx : x.size ≤ 32) : ∀ (k i n : Nat) (ps : List ByteArray), (upF k x i n ps).1.size ≤ 32
  | 0, i, n, ps => by
    rw [upF]
    split
    · exact hx
    · split <;> exact Nat.zero_le _
  | k + 1, i, n, ps => by
    rw [upF]
    split
    · exact hx
    · split
      · exact Nat.zero_le _
      · split <;> (dsimp only; rw [ndS_size]; exact Nat.le_refl _)
theorem last_of {ps : List ByteArray} {m : Nat} (h : ps.length = m + 1) : ps.dropLast = ps.take m ∧ ps.getLastD ⟨#[]⟩ = ps.getD m ⟨#[]⟩ := by
  refine ⟨by rw [List.dropLast_eq_take, h]; rfl, ?_⟩
  rw [List.getLastD_eq_getLast?, List.getLast?_eq_getElem?, h, List.getD_eq_getElem?_getD]
  rfl
set_option maxRecDepth 100000 in
set_option maxHeartbeats 8000000 in
theorem climb_any : ∀ (k : Nat) (x : ByteArray) (i n : Nat) (A : Option Addr) (m c B : Nat) (ps : List ByteArray) (w : World) (hG : Glob w), x.size = 32 → i < n → n ≤ 256 → Sl fT w B A m ps → B ≤ w.heap.size → m ≤ c → m ≤ k → m ≤ 1000 → (∀ s ∈ ps, s.size = 32) →
    Calls Tryz.prog 149 #[.string x, .int .i64 i, .int .i64 n, .slice A m c] w fun e w' => e = .returned (.tuple #[.string (upF k x i n ps).1, .bool (upF k x i n ps).2]) ∧ Below w.heap.size w w' := fun k => by
  induction k with
  | zero =>
    intro x i n A m c B ps w hG hx hin hn hp hB hmc hmk hmm hps
    obtain rfl : m = 0 := by omega
    have hpl : ps.length = 0 := hp.1
    by_cases hn1 : n = 1
    · subst hn1
      have HV : Hid (upF 0 x i 1 ps = (x, true)) := by show _ = _; rw [upF, if_pos rfl, decide_eq_true hpl]
      rw [HV.out]
      clear hp hps hG
      go_enter Tryz.func149, Tryz.ntmps149
      go_wp2
      go_ret2
      exact ⟨rfl, Below.refl _ _⟩
    · have HV : Hid (upF 0 x i n ps = (⟨#[]⟩, false)) := by show _ = _; rw [upF, if_neg hn1, if_pos hpl]
      rw [HV.out]
      have hn1I : ((n : Int) == 1) = false := by simp; omega
      clear hp hps hG
      go_enter Tryz.func149, Tryz.ntmps149
      go_wp2
      go_ret2
      exact ⟨rfl, Below.refl _ _⟩
  | succ k ih =>
    intro x i n A m c B ps w hG hx hin hn hp hB hmc hmk hmm hps
    have hpl : ps.length = m := hp.1
    by_cases hn1 : n = 1
    · subst hn1
      have HV : Hid (upF (k + 1) x i 1 ps = (x, decide (m = 0))) := by show _ = _; rw [upF, if_pos rfl, hpl]
      rw [HV.out]
      have hmI : ((m : Int) == 0) = decide (m = 0) := by by_cases h : m = 0 <;> simp [h]
      clear hp hps hG
      go_enter Tryz.func149, Tryz.ntmps149
      go_wp2
      go_ret2
      exact ⟨by rw [← hmI]; rfl, Below.refl _ _⟩
    · have hn1I : ((n : Int) == 1) = false := by simp; omega
      by_cases hm0 : m = 0
      · subst hm0
        have HV : Hid (upF (k + 1) x i n ps = (⟨#[]⟩, false)) := by show _ = _; rw [upF, if_neg hn1, if_pos hpl]
        rw [HV.out]
        clear hp hps hG
        go_enter Tryz.func149, Tryz.ntmps149
        go_wp2
        go_ret2
        exact ⟨rfl, Below.refl _ _⟩
      · obtain ⟨m, rfl⟩ : ∃ m', m = m' + 1 := ⟨m - 1, by omega⟩
        obtain ⟨hlt1, hlt2⟩ := last_of hpl
        obtain ⟨b1, o1, z, rfl, hb1, hgz, hcz⟩ := hp.2.at_ (k := m) (by omega)
        have hz32 := hps z (List.mem_of_getElem? hgz)
        rw [getD_of hgz] at hlt2
        obtain ⟨f1, f2, f3, f4, f5⟩ := spl_facts (n := n) (by omega) hn
        have HSPL := Lib.hid (fun W => msplit_any n (by omega) hn W)
        have HV : Hid (upF (k + 1) x i n ps = if i < spl n then (ndS (upF k x i (spl n) (ps.take m)).1 z, (upF k x i (spl n) (ps.take m)).2) else (ndS z (upF k x (i - spl n) (n - spl n) (ps.take m)).1, (upF k x (i - spl n) (n - spl n) (ps.take m)).2)) := by
          show _ = _
          rw [upF, if_neg hn1, if_neg (by omega), hlt1, hlt2]
        obtain ⟨p, hp1⟩ : ∃ p, spl n = p := ⟨_, rfl⟩
        rw [hp1] at HSPL HV f3 f4 f5
        obtain ⟨iS, hS0, _, hS1, _⟩ := info_parts Tryz.infoS
        obtain ⟨A1, hA1⟩ : ∃ A1 : Option Addr, (if c = 0 then (some ⟨b1, o1, none⟩ : Option Addr) else (some ⟨b1, o1, none⟩ : Option Addr).map (·.add 0)) = A1 := ⟨_, rfl⟩
        have hsl1 := run_slice_hi (P := Tryz.prog) 24 9 iS Tryz.underlying24 hS0 hS1 (some ⟨b1, o1, none⟩) (m + 1) c m (by omega)
        rw [hA1] at hsl1
        have HSL : Hid (∀ V, Below w.heap.size w V → Sl fT V B A1 m (ps.take m)) := fun V hb => by
          have := (hp.up hb hB).partT (c := c) 0 m (by omega) hmc
          rw [hA1, List.drop_zero] at this
          exact this
        have hmI : ((m + 1 : Nat) : Int) - 1 = (m : Int) := by omega
        have hmI2 : (m : Int) + 1 - 1 = (m : Int) := by omega
        have hm0I : (((m + 1 : Nat) : Int) == 0) = false := by simp; omega
        have hm1I : (((m : Int) + 1) == 0) = false := by simp; omega
        have hwm : IntKind.i64.wrap (m : Int) = m := IntWalk.i64_in _ (by omega)
        have hmlt : (m : Int) < (m : Int) + 1 := by omega
        have hmlt2 : (m : Int) < ((m + 1 : Nat) : Int) := by omega
        have hps' : ∀ s ∈ ps.take m, s.size = 32 := fun s h => hps s (List.mem_of_mem_take h)
        have HB : Hid (Below w.heap.size w w) := Below.refl _ _
        have hkm : m ≤ k := by omega
        by_cases hip : i < p
        · have hipI : (i : Int) < (p : Int) := by omega
          have HR : Hid (∀ V, Below w.heap.size w V → Calls Tryz.prog 149 #[.string x, .int .i64 i, .int .i64 p, .slice A1 m c] V fun e w' => e = .returned (.tuple #[.string (upF k x i p (ps.take m)).1, .bool (upF k x i p (ps.take m)).2]) ∧ Below V.heap.size V w') := fun V hb =>
            ih x i p A1 m c B (ps.take m) V (hG.on hb) hx hip (by omega) (HSL.out V hb) (Nat.le_trans hB hb.size) (by omega) hkm (by omega) hps'
          have hrs := upF_size x (Nat.le_of_eq hx) k i p (ps.take m)
          rw [if_pos hip] at HV
          obtain ⟨⟨r, ok⟩, hr⟩ : ∃ r, upF k x i p (ps.take m) = r := ⟨_, rfl⟩
          rw [hr] at HR HV hrs
          dsimp only at hrs
          have HND : Hid (∀ V, Below w.heap.size w V → Calls Tryz.prog 168 #[.string r, .string z] V fun e w' => e = .returned (.string (ndS r z)) ∧ Below V.heap.size V w') := fun V hb => mnode_any r z V (hG.on hb) (by omega) (by omega)
          rw [HV.out]
          clear hp hps hx hgz hz32 hlt1 hlt2 hp1 hA1 hS0 hS1 hr hrs hps' ih f1 f2 HSL hG hb1 hip
          go_enter Tryz.func149, Tryz.ntmps149
          go_wp2_with fail
          refine wp_region_held_drew (S := (fun w' => w'.cell? ⟨b1, o1 + m, none⟩ = some (.string z))) (by kernel_rfl) (by first | exact hcz | go_keep) (fun hHeld => ?_)
          refine tkH (i := 0) (v := ?r1q0v) (y := (Or.inl ⟨by rfl, ?r1q0y⟩)) (h := ?r1q0r)
          case r1q0y => (intro w hSw; (try dsimp only at hSw); go_simp; try (with_reducible rfl))
          try simp only [pt]
          refine tkH (i := 1) (v := ?r1q1v) (y := (Or.inl ⟨by rfl, ?r1q1y⟩)) (h := ?r1q1r)
          case r1q1y => (intro w hSw; (try dsimp only at hSw); go_simp; try (with_reducible rfl))
          try simp only [pt]
          refine tkH (i := 2) (v := ?r1q2v) (y := (Or.inl ⟨by rfl, ?r1q2y⟩)) (h := ?r1q2r)
          case r1q2y => (intro w hSw; (try dsimp only at hSw); go_simp; try (with_reducible rfl))
          try simp only [pt]
          refine tkH (i := 3) (v := ?r1q3v) (y := (Or.inl ⟨by rfl, ?r1q3y⟩)) (h := ?r1q3r)
          case r1q3y => (intro w hSw; (try dsimp only at hSw); go_simp; try (with_reducible rfl))
          try simp only [pt]
          refine tkH (i := 4) (v := ?r1q4v) (y := (Or.inl ⟨by rfl, ?r1q4y⟩)) (h := ?r1q4r)
          case r1q4y => (intro w hSw; (try dsimp only at hSw); go_simp; try (with_reducible rfl))
          try simp only [pt]
          refine tkH (i := 5) (v := ?r1q5v) (y := (Or.inl ⟨by rfl, ?r1q5y⟩)) (h := ?r1q5r)
          case r1q5y => (intro w hSw; (try dsimp only at hSw); go_simp; try (with_reducible rfl))
          try simp only [pt]
          refine tkH (i := 6) (v := ?r1q6v) (y := (Or.inl ⟨by rfl, ?r1q6y⟩)) (h := ?r1q6r)
          case r1q6y => (intro w hSw; (try dsimp only at hSw); go_simp; try (with_reducible rfl))
          try simp only [pt]
          refine tkH (i := 7) (v := ?r1q7v) (y := (Or.inl ⟨by rfl, ?r1q7y⟩)) (h := ?r1q7r)
          case r1q7y => (intro w hSw; (try dsimp only at hSw); go_simp; try (with_reducible rfl))
          try simp only [pt]
          refine tkH (i := 8) (v := ?r1q8v) (y := (Or.inl ⟨by rfl, ?r1q8y⟩)) (h := ?r1q8r)
          case r1q8y => (intro w hSw; (try dsimp only at hSw); go_simp; try (with_reducible rfl))
          try simp only [pt]
          refine tkH (i := 9) (v := ?r1q9v) (y := (Or.inl ⟨by rfl, ?r1q9y⟩)) (h := ?r1q9r)
          case r1q9y => (intro w hSw; (try dsimp only at hSw); go_simp; try (with_reducible rfl))
          try simp only [pt]
          refine tkH (i := 10) (v := ?r1q10v) (y := (Or.inl ⟨by rfl, ?r1q10y⟩)) (h := ?r1q10r)
          case r1q10y => (intro w hSw; (try dsimp only at hSw); go_simp; try (with_reducible rfl))
          try simp only [pt]
          refine tkH (i := 11) (v := ?r1q11v) (y := (Or.inl ⟨by rfl, ?r1q11y⟩)) (h := ?r1q11r)
          case r1q11y => (intro w hSw; (try dsimp only at hSw); go_simp; try (with_reducible rfl))
          try simp only [pt]
          refine tkH (i := 12) (v := ?r1q12v) (y := (Or.inl ⟨by rfl, ?r1q12y⟩)) (h := ?r1q12r)
          case r1q12y => (intro w hSw; (try dsimp only at hSw); go_simp; try (with_reducible rfl))
          try simp only [pt]
          refine wpAnyH_done (by kernel_rfl) ?_ _
          clear hwm hmI hmI2 hsl1 hmlt hmlt2
          go_wp2_with (first
            | (go_at_call 167; (with_reducible refine (HSPL.out _).mono ?_); rintro e W1 ⟨rfl, rfl⟩)
            | (go_at_call 149; (with_reducible refine (HR.out _ (by repeat (first | exact HB.out | exact Below.refl _ _ | refine Below.drew ?_ | refine below_dN' ?_ _ | refine below_drewN' ?_ _))).mono ?_); rintro e w2 ⟨rfl, hb2⟩; (have HB : Hid (Below w.heap.size w w2) := Below.trans (B := w.heap.size) (by repeat (first | exact HB.out | exact Below.refl _ _ | refine Below.drew ?_ | refine below_dN' ?_ _ | refine below_drewN' ?_ _)) (hb2.mono (Nat.le_refl _))); (have HN2 := Lib.hid (HND.out w2 HB.out)); clear hb2)
            | (go_at_call 168; (with_reducible refine HN2.out.mono ?_); rintro e w3 ⟨rfl, hb3⟩; (have HB : Hid (Below w.heap.size w w3) := HB.out.trans (hb3.mono HB.out.size)); clear hb3))
          go_ret2
          exact ⟨rfl, HB.out⟩
        · have hipI : ¬ (i : Int) < (p : Int) := by omega
          have hpiI : (i : Int) - (p : Int) = ((i - p : Nat) : Int) := by omega
          have hpnI : (n : Int) - (p : Int) = ((n - p : Nat) : Int) := by omega
          have HR : Hid (∀ V, Below w.heap.size w V → Calls Tryz.prog 149 #[.string x, .int .i64 ((i - p : Nat) : Int), .int .i64 ((n - p : Nat) : Int), .slice A1 m c] V fun e w' => e = .returned (.tuple #[.string (upF k x (i - p) (n - p) (ps.take m)).1, .bool (upF k x (i - p) (n - p) (ps.take m)).2]) ∧ Below V.heap.size V w') := fun V hb =>
            ih x (i - p) (n - p) A1 m c B (ps.take m) V (hG.on hb) hx (by omega) (by omega) (HSL.out V hb) (Nat.le_trans hB hb.size) (by omega) hkm (by omega) hps'
          have hrs := upF_size x (Nat.le_of_eq hx) k (i - p) (n - p) (ps.take m)
          rw [if_neg hip] at HV
          obtain ⟨⟨r, ok⟩, hr⟩ : ∃ r, upF k x (i - p) (n - p) (ps.take m) = r := ⟨_, rfl⟩
          rw [hr] at HR HV hrs
          dsimp only at hrs
          have HND : Hid (∀ V, Below w.heap.size w V → Calls Tryz.prog 168 #[.string z, .string r] V fun e w' => e = .returned (.string (ndS z r)) ∧ Below V.heap.size V w') := fun V hb => mnode_any z r V (hG.on hb) (by omega) (by omega)
          rw [HV.out]
          obtain ⟨ip, hip2⟩ : ∃ q, i - p = q := ⟨_, rfl⟩
          obtain ⟨np, hnp2⟩ : ∃ q, n - p = q := ⟨_, rfl⟩
          rw [hip2] at HR hpiI
          rw [hnp2] at HR hpnI
          clear hp hps hx hgz hz32 hlt1 hlt2 hp1 hA1 hS0 hS1 hr hrs hps' ih f1 f2 HSL hG hb1 hip hip2 hnp2
          go_enter Tryz.func149, Tryz.ntmps149
          go_wp2_with fail
          refine wp_region_held_drew (S := (fun w' => w'.cell? ⟨b1, o1 + m, none⟩ = some (.string z))) (by kernel_rfl) (by first | exact hcz | go_keep) (fun hHeld => ?_)
          refine tkH (i := 0) (v := ?r2q0v) (y := (Or.inl ⟨by rfl, ?r2q0y⟩)) (h := ?r2q0r)
          case r2q0y => (intro w hSw; (try dsimp only at hSw); go_simp; try (with_reducible rfl))
          try simp only [pt]
          refine tkH (i := 1) (v := ?r2q1v) (y := (Or.inl ⟨by rfl, ?r2q1y⟩)) (h := ?r2q1r)
          case r2q1y => (intro w hSw; (try dsimp only at hSw); go_simp; try (with_reducible rfl))
          try simp only [pt]
          refine tkH (i := 2) (v := ?r2q2v) (y := (Or.inl ⟨by rfl, ?r2q2y⟩)) (h := ?r2q2r)
          case r2q2y => (intro w hSw; (try dsimp only at hSw); go_simp; try (with_reducible rfl))
          try simp only [pt]
          refine tkH (i := 3) (v := ?r2q3v) (y := (Or.inl ⟨by rfl, ?r2q3y⟩)) (h := ?r2q3r)
          case r2q3y => (intro w hSw; (try dsimp only at hSw); go_simp; try (with_reducible rfl))
          try simp only [pt]
          refine tkH (i := 4) (v := ?r2q4v) (y := (Or.inl ⟨by rfl, ?r2q4y⟩)) (h := ?r2q4r)
          case r2q4y => (intro w hSw; (try dsimp only at hSw); go_simp; try (with_reducible rfl))
          try simp only [pt]
          refine tkH (i := 5) (v := ?r2q5v) (y := (Or.inl ⟨by rfl, ?r2q5y⟩)) (h := ?r2q5r)
          case r2q5y => (intro w hSw; (try dsimp only at hSw); go_simp; try (with_reducible rfl))
          try simp only [pt]
          refine tkH (i := 6) (v := ?r2q6v) (y := (Or.inl ⟨by rfl, ?r2q6y⟩)) (h := ?r2q6r)
          case r2q6y => (intro w hSw; (try dsimp only at hSw); go_simp; try (with_reducible rfl))
          try simp only [pt]
          refine tkH (i := 7) (v := ?r2q7v) (y := (Or.inl ⟨by rfl, ?r2q7y⟩)) (h := ?r2q7r)
          case r2q7y => (intro w hSw; (try dsimp only at hSw); go_simp; try (with_reducible rfl))
          try simp only [pt]
          refine tkH (i := 8) (v := ?r2q8v) (y := (Or.inl ⟨by rfl, ?r2q8y⟩)) (h := ?r2q8r)
          case r2q8y => (intro w hSw; (try dsimp only at hSw); go_simp; try (with_reducible rfl))
          try simp only [pt]
          refine tkH (i := 9) (v := ?r2q9v) (y := (Or.inl ⟨by rfl, ?r2q9y⟩)) (h := ?r2q9r)
          case r2q9y => (intro w hSw; (try dsimp only at hSw); go_simp; try (with_reducible rfl))
          try simp only [pt]
          refine tkH (i := 10) (v := ?r2q10v) (y := (Or.inl ⟨by rfl, ?r2q10y⟩)) (h := ?r2q10r)
          case r2q10y => (intro w hSw; (try dsimp only at hSw); go_simp; try (with_reducible rfl))
          try simp only [pt]
          refine tkH (i := 11) (v := ?r2q11v) (y := (Or.inl ⟨by rfl, ?r2q11y⟩)) (h := ?r2q11r)
          case r2q11y => (intro w hSw; (try dsimp only at hSw); go_simp; try (with_reducible rfl))
          try simp only [pt]
          refine tkH (i := 12) (v := ?r2q12v) (y := (Or.inl ⟨by rfl, ?r2q12y⟩)) (h := ?r2q12r)
          case r2q12y => (intro w hSw; (try dsimp only at hSw); go_simp; try (with_reducible rfl))
          try simp only [pt]
          refine wpAnyH_done (by kernel_rfl) ?_ _
          clear hwm hmI hmI2 hsl1 hmlt hmlt2
          go_wp2_with (first
            | (go_at_call 167; (with_reducible refine (HSPL.out _).mono ?_); rintro e W1 ⟨rfl, rfl⟩)
            | (go_at_call 149; (with_reducible refine (HR.out _ (by repeat (first | exact HB.out | exact Below.refl _ _ | refine Below.drew ?_ | refine below_dN' ?_ _ | refine below_drewN' ?_ _))).mono ?_); rintro e w2 ⟨rfl, hb2⟩; (have HB : Hid (Below w.heap.size w w2) := Below.trans (B := w.heap.size) (by repeat (first | exact HB.out | exact Below.refl _ _ | refine Below.drew ?_ | refine below_dN' ?_ _ | refine below_drewN' ?_ _)) (hb2.mono (Nat.le_refl _))); (have HN2 := Lib.hid (HND.out w2 HB.out)); clear hb2)
            | (go_at_call 168; (with_reducible refine HN2.out.mono ?_); rintro e w3 ⟨rfl, hb3⟩; (have HB : Hid (Below w.heap.size w w3) := HB.out.trans (hb3.mono HB.out.size)); clear hb3))
          go_ret2
          exact ⟨rfl, HB.out⟩
end Go.Proofs.YtpdledjgbgalcaaGreatDoor
