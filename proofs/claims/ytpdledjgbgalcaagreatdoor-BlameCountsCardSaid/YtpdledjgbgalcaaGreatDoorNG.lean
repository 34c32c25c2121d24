/- Merkle paths, both. -/
import Derived.Test.YtpdledjgbgalcaaGreatDoorU3
import Derived.Test.YtpdledjgbgalcaaGreatDoorNE
namespace Go.Proofs.YtpdledjgbgalcaaGreatDoor
open Go.RowKit Go.Lib
set_option linter.unusedVariables false
set_option linter.unusedSimpArgs false
theorem upF_size (x : ByteArray) (hx : x.size ≤ 32) : ∀ (k i n : Nat) (ps : List ByteArray), (upF k x i n ps).1.size ≤ 32
  | 0, i, n, ps => by
    rw [upF]
    split
    · exact hx
    · split <;> exact Nat.zero_le _
  | k + 1, i, n, ps => by
    rw [upF]
    split
    · exact hx
    · split
      · exact Nat.zero_le _
      · split <;> (dsimp only; rw [ndS_size]; exact Nat.le_refl _)
theorem last_of {ps : List ByteArray} {m : Nat} (h : ps.length = m + 1) : ps.dropLast = ps.take m ∧ ps.getLastD ⟨#[]⟩ = ps.getD m ⟨#[]⟩ := by
  refine ⟨by rw [List.dropLast_eq_take, h]; rfl, ?_⟩
  rw [List.getLastD_eq_getLast?, List.getLast?_eq_getElem?, h, List.getD_eq_getElem?_getD]
  rfl
set_option maxRecDepth 100000 in
set_option maxHeartbeats 8000000 in
theorem climb_any : ∀ (k : Nat) (x : ByteArray) (i n : Nat) (A : Option Addr) (m c B : Nat) (ps : List ByteArray) (w : World) (hG : Glob w), x.size = 32 → i < n → n ≤ 256 → Sl fT w B A m ps → B ≤ w.heap.size → m ≤ c → m ≤ k → m ≤ 1000 → (∀ s ∈ ps, s.size = 32) →
    Calls Tryz.prog 149 #[.string x, .int .i64 i, .int .i64 n, .slice A m c] w fun e w' => e = .returned (.tuple #[.string (upF k x i n ps).1, .bool (upF k x i n ps).2]) ∧ Below w.heap.size w w' := fun k => by
  induction k with
  | zero =>
    intro x i n A m c B ps w hG hx hin hn hp hB hmc hmk hmm hps
    obtain rfl : m = 0 := by omega
    have hpl : ps.length = 0 := hp.1
    by_cases hn1 : n = 1
    · subst hn1
      have HV : Hid (upF 0 x i 1 ps = (x, true)) := by show _ = _; rw [upF, if_pos rfl, decide_eq_true hpl]
      rw [HV.out]
      clear hp hps hG
      go_enter Tryz.func149, Tryz.ntmps149
      go_wp2
      go_ret2
      exact ⟨rfl, Below.refl _ _⟩
    · have HV : Hid (upF 0 x i n ps = (⟨#[]⟩, false)) := by show _ = _; rw [upF, if_neg hn1, if_pos hpl]
      rw [HV.out]
      have hn1I : ((n : Int) == 1) = false := by simp; omega
      clear hp hps hG
      go_enter Tryz.func149, Tryz.ntmps149
      go_wp2
      go_ret2
      exact ⟨rfl, Below.refl _ _⟩
  | succ k ih =>
    intro x i n A m c B ps w hG hx hin hn hp hB hmc hmk hmm hps
    have hpl : ps.length = m := hp.1
    by_cases hn1 : n = 1
    · subst hn1
      have HV : Hid (upF (k + 1) x i 1 ps = (x, decide (m = 0))) := by show _ = _; rw [upF, if_pos rfl, hpl]
      rw [HV.out]
      have hmI : ((m : Int) == 0) = decide (m = 0) := by by_cases h : m = 0 <;> simp [h]
      clear hp hps hG
      go_enter Tryz.func149, Tryz.ntmps149
      go_wp2
      go_ret2
      exact ⟨by rw [← hmI]; rfl, Below.refl _ _⟩
    · have hn1I : ((n : Int) == 1) = false := by simp; omega
      by_cases hm0 : m = 0
      · subst hm0
        have HV : Hid (upF (k + 1) x i n ps = (⟨#[]⟩, false)) := by show _ = _; rw [upF, if_neg hn1, if_pos hpl]
        rw [HV.out]
        clear hp hps hG
        go_enter Tryz.func149, Tryz.ntmps149
        go_wp2
        go_ret2
        exact ⟨rfl, Below.refl _ _⟩
      · obtain ⟨m, rfl⟩ : ∃ m', m = m' + 1 := ⟨m - 1, by omega⟩
        obtain ⟨hlt1, hlt2⟩ := last_of hpl
        obtain ⟨b1, o1, z, rfl, hb1, hgz, hcz⟩ := hp.2.at_ (k := m) (by omega)
        have hz32 := hps z (List.mem_of_getElem? hgz)
        rw [getD_of hgz] at hlt2
        obtain ⟨f1, f2, f3, f4, f5⟩ := spl_facts (n := n) (by omega) hn
        have HSPL := Lib.hid (fun W => msplit_any n (by omega) hn W)
        have HV : Hid (upF (k + 1) x i n ps = if i < spl n then (ndS (upF k x i (spl n) (ps.take m)).1 z, (upF k x i (spl n) (ps.take m)).2) else (ndS z (upF k x (i - spl n) (n - spl n) (ps.take m)).1, (upF k x (i - spl n) (n - spl n) (ps.take m)).2)) := by
          show _ = _
          rw [upF, if_neg hn1, if_neg (by omega), hlt1, hlt2]
        obtain ⟨p, hp1⟩ : ∃ p, spl n = p := ⟨_, rfl⟩
        rw [hp1] at HSPL HV f3 f4 f5
        obtain ⟨iS, hS0, _, hS1, _⟩ := info_parts Tryz.infoS
        obtain ⟨A1, hA1⟩ : ∃ A1 : Option Addr, (if c = 0 then (some ⟨b1, o1, none⟩ : Option Addr) else (some ⟨b1, o1, none⟩ : Option Addr).map (·.add 0)) = A1 := ⟨_, rfl⟩
        have hsl1 := run_slice_hi (P := Tryz.prog) 24 9 iS Tryz.underlying24 hS0 hS1 (some ⟨b1, o1, none⟩) (m + 1) c m (by omega)
        rw [hA1] at hsl1
        have HSL : Hid (∀ V, Below w.heap.size w V → Sl fT V B A1 m (ps.take m)) := fun V hb => by
          have := (hp.up hb hB).partT (c := c) 0 m (by omega) hmc
          rw [hA1, List.drop_zero] at this
          exact this
        have hmI : ((m + 1 : Nat) : Int) - 1 = (m : Int) := by omega
        have hmI2 : (m : Int) + 1 - 1 = (m : Int) := by omega
        have hm0I : (((m + 1 : Nat) : Int) == 0) = false := by simp; omega
        have hm1I : (((m : Int) + 1) == 0) = false := by simp; omega
        have hwm : IntKind.i64.wrap (m : Int) = m := IntWalk.i64_in _ (by omega)
        have hmlt : (m : Int) < (m : Int) + 1 := by omega
        have hmlt2 : (m : Int) < ((m + 1 : Nat) : Int) := by omega
        have hps' : ∀ s ∈ ps.take m, s.size = 32 := fun s h => hps s (List.mem_of_mem_take h)
        have HB : Hid (Below w.heap.size w w) := Below.refl _ _
        have hkm : m ≤ k := by omega
        by_cases hip : i < p
        · have hipI : (i : Int) < (p : Int) := by omega
          have HR : Hid (∀ V, Below w.heap.size w V → Calls Tryz.prog 149 #[.string x, .int .i64 i, .int .i64 p, .slice A1 m c] V fun e w' => e = .returned (.tuple #[.string (upF k x i p (ps.take m)).1, .bool (upF k x i p (ps.take m)).2]) ∧ Below V.heap.size V w') := fun V hb =>
            ih x i p A1 m c B (ps.take m) V (hG.on hb) hx hip (by omega) (HSL.out V hb) (Nat.le_trans hB hb.size) (by omega) hkm (by omega) hps'
          have hrs := upF_size x (Nat.le_of_eq hx) k i p (ps.take m)
          rw [if_pos hip] at HV
          obtain ⟨⟨r, ok⟩, hr⟩ : ∃ r, upF k x i p (ps.take m) = r := ⟨_, rfl⟩
          rw [hr] at HR HV hrs
          dsimp only at hrs
          have HND : Hid (∀ V, Below w.heap.size w V → Calls Tryz.prog 168 #[.string r, .string z] V fun e w' => e = .returned (.string (ndS r z)) ∧ Below V.heap.size V w') := fun V hb => mnode_any r z V (hG.on hb) (by omega) (by omega)
          rw [HV.out]
          clear hp hps hx hgz hz32 hlt1 hlt2 hp1 hA1 hS0 hS1 hr hrs hps' ih f1 f2 HSL hG hb1 hip
          go_enter Tryz.func149, Tryz.ntmps149
          go_wp2_with fail
          refine wp_region_held_drew (S := (fun w' => w'.cell? ⟨b1, o1 + m, none⟩ = some (.string z))) (by kernel_rfl) (by first | exact hcz | go_keep) (fun hHeld => ?_)
          refine tkH (i := 0) (v := ?r1q0v) (y := (Or.inl ⟨by rfl, ?r1q0y⟩)) (h := ?r1q0r)
          case r1q0y => (intro w hSw; (try dsimp only at hSw); go_simp; try (with_reducible rfl))
          try simp only [pt]
          refine tkH (i := 1) (v := ?r1q1v) (y := (Or.inl ⟨by rfl, ?r1q1y⟩)) (h := ?r1q1r)
          case r1q1y => (intro w hSw; (try dsimp only at hSw); go_simp; try (with_reducible rfl))
          try simp only [pt]
          refine tkH (i := 2) (v := ?r1q2v) (y := (Or.inl ⟨by rfl, ?r1q2y⟩)) (h := ?r1q2r)
          case r1q2y => (intro w hSw; (try dsimp only at hSw); go_simp; try (with_reducible rfl))
          try simp only [pt]
          refine tkH (i := 3) (v := ?r1q3v) (y := (Or.inl ⟨by rfl, ?r1q3y⟩)) (h := ?r1q3r)
          case r1q3y => (intro w hSw; (try dsimp only at hSw); go_simp; try (with_reducible rfl))
          try simp only [pt]
          refine tkH (i := 4) (v := ?r1q4v) (y := (Or.inl ⟨by rfl, ?r1q4y⟩)) (h := ?r1q4r)
          case r1q4y => (intro w hSw; (try dsimp only at hSw); go_simp; try (with_reducible rfl))
          try simp only [pt]
          refine tkH (i := 5) (v := ?r1q5v) (y := (Or.inl ⟨by rfl, ?r1q5y⟩)) (h := ?r1q5r)
          case r1q5y => (intro w hSw; (try dsimp only at hSw); go_simp; try (with_reducible rfl))
          try simp only [pt]
          refine tkH (i := 6) (v := ?r1q6v) (y := (Or.inl ⟨by rfl, ?r1q6y⟩)) (h := ?r1q6r)
          case r1q6y => (intro w hSw; (try dsimp only at hSw); go_simp; try (with_reducible rfl))
          try simp only [pt]
          refine tkH (i := 7) (v := ?r1q7v) (y := (Or.inl ⟨by rfl, ?r1q7y⟩)) (h := ?r1q7r)
          case r1q7y => (intro w hSw; (try dsimp only at hSw); go_simp; try (with_reducible rfl))
          try simp only [pt]
          refine tkH (i := 8) (v := ?r1q8v) (y := (Or.inl ⟨by rfl, ?r1q8y⟩)) (h := ?r1q8r)
          case r1q8y => (intro w hSw; (try dsimp only at hSw); go_simp; try (with_reducible rfl))
          try simp only [pt]
          refine tkH (i := 9) (v := ?r1q9v) (y := (Or.inl ⟨by rfl, ?r1q9y⟩)) (h := ?r1q9r)
          case r1q9y => (intro w hSw; (try dsimp only at hSw); go_simp; try (with_reducible rfl))
          try simp only [pt]
          refine tkH (i := 10) (v := ?r1q10v) (y := (Or.inl ⟨by rfl, ?r1q10y⟩)) (h := ?r1q10r)
          case r1q10y => (intro w hSw; (try dsimp only at hSw); go_simp; try (with_reducible rfl))
          try simp only [pt]
          refine tkH (i := 11) (v := ?r1q11v) (y := (Or.inl ⟨by rfl, ?r1q11y⟩)) (h := ?r1q11r)
          case r1q11y => (intro w hSw; (try dsimp only at hSw); go_simp; try (with_reducible rfl))
          try simp only [pt]
          refine tkH (i := 12) (v := ?r1q12v) (y := (Or.inl ⟨by rfl, ?r1q12y⟩)) (h := ?r1q12r)
          case r1q12y => (intro w hSw; (try dsimp only at hSw); go_simp; try (with_reducible rfl))
          try simp only [pt]
          refine wpAnyH_done (by kernel_rfl) ?_ _
          clear hwm hmI hmI2 hsl1 hmlt hmlt2
          go_wp2_with (first
            | (go_at_call 167; (with_reducible refine (HSPL.out _).mono ?_); rintro e W1 ⟨rfl, rfl⟩)
            | (go_at_call 149; (with_reducible refine (HR.out _ (by repeat (first | exact HB.out | exact Below.refl _ _ | refine Below.drew ?_ | refine below_dN' ?_ _ | refine below_drewN' ?_ _))).mono ?_); rintro e w2 ⟨rfl, hb2⟩; (have HB : Hid (Below w.heap.size w w2) := Below.trans (B := w.heap.size) (by repeat (first | exact HB.out | exact Below.refl _ _ | refine Below.drew ?_ | refine below_dN' ?_ _ | refine below_drewN' ?_ _)) (hb2.mono (Nat.le_refl _))); (have HN2 := Lib.hid (HND.out w2 HB.out)); clear hb2)
            | (go_at_call 168; (with_reducible refine HN2.out.mono ?_); rintro e w3 ⟨rfl, hb3⟩; (have HB : Hid (Below w.heap.size w w3) := HB.out.trans (hb3.mono HB.out.size)); clear hb3))
          go_ret2
          exact ⟨rfl, HB.out⟩
        · have hipI : ¬ (i : Int) < (p : Int) := by omega
          have hpiI : (i : Int) - (p : Int) = ((i - p : Nat) : Int) := by omega
          have hpnI : (n : Int) - (p : Int) = ((n - p : Nat) : Int) := by omega
          have HR : Hid (∀ V, Below w.heap.size w V → Calls Tryz.prog 149 #[.string x, .int .i64 ((i - p : Nat) : Int), .int .i64 ((n - p : Nat) : Int), .slice A1 m c] V fun e w' => e = .returned (.tuple #[.string (upF k x (i - p) (n - p) (ps.take m)).1, .bool (upF k x (i - p) (n - p) (ps.take m)).2]) ∧ Below V.heap.size V w') := fun V hb =>
            ih x (i - p) (n - p) A1 m c B (ps.take m) V (hG.on hb) hx (by omega) (by omega) (HSL.out V hb) (Nat.le_trans hB hb.size) (by omega) hkm (by omega) hps'
          have hrs := upF_size x (Nat.le_of_eq hx) k (i - p) (n - p) (ps.take m)
          rw [if_neg hip] at HV
          obtain ⟨⟨r, ok⟩, hr⟩ : ∃ r, upF k x (i - p) (n - p) (ps.take m) = r := ⟨_, rfl⟩
          rw [hr] at HR HV hrs
          dsimp only at hrs
          have HND : Hid (∀ V, Below w.heap.size w V → Calls Tryz.prog 168 #[.string z, .string r] V fun e w' => e = .returned (.string (ndS z r)) ∧ Below V.heap.size V w') := fun V hb => mnode_any z r V (hG.on hb) (by omega) (by omega)
          rw [HV.out]
          obtain ⟨ip, hip2⟩ : ∃ q, i - p = q := ⟨_, rfl⟩
          obtain ⟨np, hnp2⟩ : ∃ q, n - p = q := ⟨_, rfl⟩
          rw [hip2] at HR hpiI
          rw [hnp2] at HR hpnI
          clear hp hps hx hgz hz32 hlt1 hlt2 hp1 hA1 hS0 hS1 hr hrs hps' ih f1 f2 HSL hG hb1 hip hip2 hnp2
          go_enter Tryz.func149, Tryz.ntmps149
          go_wp2_with fail
          refine wp_region_held_drew (S := (fun w' => w'.cell? ⟨b1, o1 + m, none⟩ = some (.string z))) (by kernel_rfl) (by first | exact hcz | go_keep) (fun hHeld => ?_)
          refine tkH (i := 0) (v := ?r2q0v) (y := (Or.inl ⟨by rfl, ?r2q0y⟩)) (h := ?r2q0r)
          case r2q0y => (intro w hSw; (try dsimp only at hSw); go_simp; try (with_reducible rfl))
          try simp only [pt]
          refine tkH (i := 1) (v := ?r2q1v) (y := (Or.inl ⟨by rfl, ?r2q1y⟩)) (h := ?r2q1r)
          case r2q1y => (intro w hSw; (try dsimp only at hSw); go_simp; try (with_reducible rfl))
          try simp only [pt]
          refine tkH (i := 2) (v := ?r2q2v) (y := (Or.inl ⟨by rfl, ?r2q2y⟩)) (h := ?r2q2r)
          case r2q2y => (intro w hSw; (try dsimp only at hSw); go_simp; try (with_reducible rfl))
          try simp only [pt]
          refine tkH (i := 3) (v := ?r2q3v) (y := (Or.inl ⟨by rfl, ?r2q3y⟩)) (h := ?r2q3r)
          case r2q3y => (intro w hSw; (try dsimp only at hSw); go_simp; try (with_reducible rfl))
          try simp only [pt]
          refine tkH (i := 4) (v := ?r2q4v) (y := (Or.inl ⟨by rfl, ?r2q4y⟩)) (h := ?r2q4r)
          case r2q4y => (intro w hSw; (try dsimp only at hSw); go_simp; try (with_reducible rfl))
          try simp only [pt]
          refine tkH (i := 5) (v := ?r2q5v) (y := (Or.inl ⟨by rfl, ?r2q5y⟩)) (h := ?r2q5r)
          case r2q5y => (intro w hSw; (try dsimp only at hSw); go_simp; try (with_reducible rfl))
          try simp only [pt]
          refine tkH (i := 6) (v := ?r2q6v) (y := (Or.inl ⟨by rfl, ?r2q6y⟩)) (h := ?r2q6r)
          case r2q6y => (intro w hSw; (try dsimp only at hSw); go_simp; try (with_reducible rfl))
          try simp only [pt]
          refine tkH (i := 7) (v := ?r2q7v) (y := (Or.inl ⟨by rfl, ?r2q7y⟩)) (h := ?r2q7r)
          case r2q7y => (intro w hSw; (try dsimp only at hSw); go_simp; try (with_reducible rfl))
          try simp only [pt]
          refine tkH (i := 8) (v := ?r2q8v) (y := (Or.inl ⟨by rfl, ?r2q8y⟩)) (h := ?r2q8r)
          case r2q8y => (intro w hSw; (try dsimp only at hSw); go_simp; try (with_reducible rfl))
          try simp only [pt]
          refine tkH (i := 9) (v := ?r2q9v) (y := (Or.inl ⟨by rfl, ?r2q9y⟩)) (h := ?r2q9r)
          case r2q9y => (intro w hSw; (try dsimp only at hSw); go_simp; try (with_reducible rfl))
          try simp only [pt]
          refine tkH (i := 10) (v := ?r2q10v) (y := (Or.inl ⟨by rfl, ?r2q10y⟩)) (h := ?r2q10r)
          case r2q10y => (intro w hSw; (try dsimp only at hSw); go_simp; try (with_reducible rfl))
          try simp only [pt]
          refine tkH (i := 11) (v := ?r2q11v) (y := (Or.inl ⟨by rfl, ?r2q11y⟩)) (h := ?r2q11r)
          case r2q11y => (intro w hSw; (try dsimp only at hSw); go_simp; try (with_reducible rfl))
          try simp only [pt]
          refine tkH (i := 12) (v := ?r2q12v) (y := (Or.inl ⟨by rfl, ?r2q12y⟩)) (h := ?r2q12r)
          case r2q12y => (intro w hSw; (try dsimp only at hSw); go_simp; try (with_reducible rfl))
          try simp only [pt]
          refine wpAnyH_done (by kernel_rfl) ?_ _
          clear hwm hmI hmI2 hsl1 hmlt hmlt2
          go_wp2_with (first
            | (go_at_call 167; (with_reducible refine (HSPL.out _).mono ?_); rintro e W1 ⟨rfl, rfl⟩)
            | (go_at_call 149; (with_reducible refine (HR.out _ (by repeat (first | exact HB.out | exact Below.refl _ _ | refine Below.drew ?_ | refine below_dN' ?_ _ | refine below_drewN' ?_ _))).mono ?_); rintro e w2 ⟨rfl, hb2⟩; (have HB : Hid (Below w.heap.size w w2) := Below.trans (B := w.heap.size) (by repeat (first | exact HB.out | exact Below.refl _ _ | refine Below.drew ?_ | refine below_dN' ?_ _ | refine below_drewN' ?_ _)) (hb2.mono (Nat.le_refl _))); (have HN2 := Lib.hid (HND.out w2 HB.out)); clear hb2)
            | (go_at_call 168; (with_reducible refine HN2.out.mono ?_); rintro e w3 ⟨rfl, hb3⟩; (have HB : Hid (Below w.heap.size w w3) := HB.out.trans (hb3.mono HB.out.size)); clear hb3))
          go_ret2
          exact ⟨rfl, HB.out⟩
set_option maxRecDepth 100000 in
set_option maxHeartbeats 8000000 in
theorem rup_any : ∀ (k : Nat) (x : ByteArray) (i n : Nat) (A : Option Addr) (m c B : Nat) (ps : List ByteArray) (w : World) , x.size = 32 → i < n → n ≤ 256 → Sl fT w B A m ps → B ≤ w.heap.size → m ≤ c → m ≤ k → m ≤ 1000 → (∀ s ∈ ps, s.size = 32) →
    Calls Tryz.prog 156 #[.string x, .int .i64 i, .int .i64 n, .slice A m c] w fun e w' => e = .returned (.tuple #[.string (upF k x i n ps).1, .bool (upF k x i n ps).2]) ∧ Below w.heap.size w w' := fun k => by
  induction k with
  | zero =>
    intro x i n A m c B ps w hx hin hn hp hB hmc hmk hmm hps
    obtain rfl : m = 0 := by omega
    have hpl : ps.length = 0 := hp.1
    by_cases hn1 : n = 1
    · subst hn1
      have HV : Hid (upF 0 x i 1 ps = (x, true)) := by show _ = _; rw [upF, if_pos rfl, decide_eq_true hpl]
      rw [HV.out]
      clear hp hps 
      go_enter Tryz.func156, Tryz.ntmps156
      go_wp2
      go_ret2
      exact ⟨rfl, Below.refl _ _⟩
    · have HV : Hid (upF 0 x i n ps = (⟨#[]⟩, false)) := by show _ = _; rw [upF, if_neg hn1, if_pos hpl]
      rw [HV.out]
      have hn1I : ((n : Int) == 1) = false := by simp; omega
      clear hp hps 
      go_enter Tryz.func156, Tryz.ntmps156
      go_wp2
      go_ret2
      exact ⟨rfl, Below.refl _ _⟩
  | succ k ih =>
    intro x i n A m c B ps w hx hin hn hp hB hmc hmk hmm hps
    have hpl : ps.length = m := hp.1
    by_cases hn1 : n = 1
    · subst hn1
      have HV : Hid (upF (k + 1) x i 1 ps = (x, decide (m = 0))) := by show _ = _; rw [upF, if_pos rfl, hpl]
      rw [HV.out]
      have hmI : ((m : Int) == 0) = decide (m = 0) := by by_cases h : m = 0 <;> simp [h]
      clear hp hps 
      go_enter Tryz.func156, Tryz.ntmps156
      go_wp2
      go_ret2
      exact ⟨by rw [← hmI]; rfl, Below.refl _ _⟩
    · have hn1I : ((n : Int) == 1) = false := by simp; omega
      by_cases hm0 : m = 0
      · subst hm0
        have HV : Hid (upF (k + 1) x i n ps = (⟨#[]⟩, false)) := by show _ = _; rw [upF, if_neg hn1, if_pos hpl]
        rw [HV.out]
        clear hp hps 
        go_enter Tryz.func156, Tryz.ntmps156
        go_wp2
        go_ret2
        exact ⟨rfl, Below.refl _ _⟩
      · obtain ⟨m, rfl⟩ : ∃ m', m = m' + 1 := ⟨m - 1, by omega⟩
        obtain ⟨hlt1, hlt2⟩ := last_of hpl
        obtain ⟨b1, o1, z, rfl, hb1, hgz, hcz⟩ := hp.2.at_ (k := m) (by omega)
        have hz32 := hps z (List.mem_of_getElem? hgz)
        rw [getD_of hgz] at hlt2
        obtain ⟨f1, f2, f3, f4, f5⟩ := spl_facts (n := n) (by omega) hn
        have HSPL := Lib.hid (fun W => rsplit_any n (by omega) hn W)
        have HV : Hid (upF (k + 1) x i n ps = if i < spl n then (ndS (upF k x i (spl n) (ps.take m)).1 z, (upF k x i (spl n) (ps.take m)).2) else (ndS z (upF k x (i - spl n) (n - spl n) (ps.take m)).1, (upF k x (i - spl n) (n - spl n) (ps.take m)).2)) := by
          show _ = _
          rw [upF, if_neg hn1, if_neg (by omega), hlt1, hlt2]
        obtain ⟨p, hp1⟩ : ∃ p, spl n = p := ⟨_, rfl⟩
        rw [hp1] at HSPL HV f3 f4 f5
        obtain ⟨iS, hS0, _, hS1, _⟩ := info_parts Tryz.infoS
        obtain ⟨A1, hA1⟩ : ∃ A1 : Option Addr, (if c = 0 then (some ⟨b1, o1, none⟩ : Option Addr) else (some ⟨b1, o1, none⟩ : Option Addr).map (·.add 0)) = A1 := ⟨_, rfl⟩
        have hsl1 := run_slice_hi (P := Tryz.prog) 24 9 iS Tryz.underlying24 hS0 hS1 (some ⟨b1, o1, none⟩) (m + 1) c m (by omega)
        rw [hA1] at hsl1
        have HSL : Hid (∀ V, Below w.heap.size w V → Sl fT V B A1 m (ps.take m)) := fun V hb => by
          have := (hp.up hb hB).partT (c := c) 0 m (by omega) hmc
          rw [hA1, List.drop_zero] at this
          exact this
        have hmI : ((m + 1 : Nat) : Int) - 1 = (m : Int) := by omega
        have hmI2 : (m : Int) + 1 - 1 = (m : Int) := by omega
        have hm0I : (((m + 1 : Nat) : Int) == 0) = false := by simp; omega
        have hm1I : (((m : Int) + 1) == 0) = false := by simp; omega
        have hwm : IntKind.i64.wrap (m : Int) = m := IntWalk.i64_in _ (by omega)
        have hmlt : (m : Int) < (m : Int) + 1 := by omega
        have hmlt2 : (m : Int) < ((m + 1 : Nat) : Int) := by omega
        have hps' : ∀ s ∈ ps.take m, s.size = 32 := fun s h => hps s (List.mem_of_mem_take h)
        have HB : Hid (Below w.heap.size w w) := Below.refl _ _
        have hkm : m ≤ k := by omega
        by_cases hip : i < p
        · have hipI : (i : Int) < (p : Int) := by omega
          have HR : Hid (∀ V, Below w.heap.size w V → Calls Tryz.prog 156 #[.string x, .int .i64 i, .int .i64 p, .slice A1 m c] V fun e w' => e = .returned (.tuple #[.string (upF k x i p (ps.take m)).1, .bool (upF k x i p (ps.take m)).2]) ∧ Below V.heap.size V w') := fun V hb =>
            ih x i p A1 m c B (ps.take m) V hx hip (by omega) (HSL.out V hb) (Nat.le_trans hB hb.size) (by omega) hkm (by omega) hps'
          have hrs := upF_size x (Nat.le_of_eq hx) k i p (ps.take m)
          rw [if_pos hip] at HV
          obtain ⟨⟨r, ok⟩, hr⟩ : ∃ r, upF k x i p (ps.take m) = r := ⟨_, rfl⟩
          rw [hr] at HR HV hrs
          dsimp only at hrs
          have HND : Hid (∀ V, Below w.heap.size w V → Calls Tryz.prog 125 #[.string r, .string z] V fun e w' => e = .returned (.string (ndS r z)) ∧ Below V.heap.size V w') := fun V hb => rnode_any r z V (by omega) (by omega)
          rw [HV.out]
          clear hp hps hx hgz hz32 hlt1 hlt2 hp1 hA1 hS0 hS1 hr hrs hps' ih f1 f2 HSL  hb1 hip
          go_enter Tryz.func156, Tryz.ntmps156
          go_wp2_with fail
          refine wp_region_held_drew (S := (fun w' => w'.cell? ⟨b1, o1 + m, none⟩ = some (.string z))) (by kernel_rfl) (by first | exact hcz | go_keep) (fun hHeld => ?_)
          refine tkH (i := 0) (v := ?r3q0v) (y := (Or.inl ⟨by rfl, ?r3q0y⟩)) (h := ?r3q0r)
          case r3q0y => (intro w hSw; (try dsimp only at hSw); go_simp; try (with_reducible rfl))
          try simp only [pt]
          refine tkH (i := 1) (v := ?r3q1v) (y := (Or.inl ⟨by rfl, ?r3q1y⟩)) (h := ?r3q1r)
          case r3q1y => (intro w hSw; (try dsimp only at hSw); go_simp; try (with_reducible rfl))
          try simp only [pt]
          refine tkH (i := 2) (v := ?r3q2v) (y := (Or.inl ⟨by rfl, ?r3q2y⟩)) (h := ?r3q2r)
          case r3q2y => (intro w hSw; (try dsimp only at hSw); go_simp; try (with_reducible rfl))
          try simp only [pt]
          refine tkH (i := 3) (v := ?r3q3v) (y := (Or.inl ⟨by rfl, ?r3q3y⟩)) (h := ?r3q3r)
          case r3q3y => (intro w hSw; (try dsimp only at hSw); go_simp; try (with_reducible rfl))
          try simp only [pt]
          refine tkH (i := 4) (v := ?r3q4v) (y := (Or.inl ⟨by rfl, ?r3q4y⟩)) (h := ?r3q4r)
          case r3q4y => (intro w hSw; (try dsimp only at hSw); go_simp; try (with_reducible rfl))
          try simp only [pt]
          refine tkH (i := 5) (v := ?r3q5v) (y := (Or.inl ⟨by rfl, ?r3q5y⟩)) (h := ?r3q5r)
          case r3q5y => (intro w hSw; (try dsimp only at hSw); go_simp; try (with_reducible rfl))
          try simp only [pt]
          refine tkH (i := 6) (v := ?r3q6v) (y := (Or.inl ⟨by rfl, ?r3q6y⟩)) (h := ?r3q6r)
          case r3q6y => (intro w hSw; (try dsimp only at hSw); go_simp; try (with_reducible rfl))
          try simp only [pt]
          refine tkH (i := 7) (v := ?r3q7v) (y := (Or.inl ⟨by rfl, ?r3q7y⟩)) (h := ?r3q7r)
          case r3q7y => (intro w hSw; (try dsimp only at hSw); go_simp; try (with_reducible rfl))
          try simp only [pt]
          refine tkH (i := 8) (v := ?r3q8v) (y := (Or.inl ⟨by rfl, ?r3q8y⟩)) (h := ?r3q8r)
          case r3q8y => (intro w hSw; (try dsimp only at hSw); go_simp; try (with_reducible rfl))
          try simp only [pt]
          refine tkH (i := 9) (v := ?r3q9v) (y := (Or.inl ⟨by rfl, ?r3q9y⟩)) (h := ?r3q9r)
          case r3q9y => (intro w hSw; (try dsimp only at hSw); go_simp; try (with_reducible rfl))
          try simp only [pt]
          refine tkH (i := 10) (v := ?r3q10v) (y := (Or.inl ⟨by rfl, ?r3q10y⟩)) (h := ?r3q10r)
          case r3q10y => (intro w hSw; (try dsimp only at hSw); go_simp; try (with_reducible rfl))
          try simp only [pt]
          refine tkH (i := 11) (v := ?r3q11v) (y := (Or.inl ⟨by rfl, ?r3q11y⟩)) (h := ?r3q11r)
          case r3q11y => (intro w hSw; (try dsimp only at hSw); go_simp; try (with_reducible rfl))
          try simp only [pt]
          refine tkH (i := 12) (v := ?r3q12v) (y := (Or.inl ⟨by rfl, ?r3q12y⟩)) (h := ?r3q12r)
          case r3q12y => (intro w hSw; (try dsimp only at hSw); go_simp; try (with_reducible rfl))
          try simp only [pt]
          refine wpAnyH_done (by kernel_rfl) ?_ _
          clear hwm hmI hmI2 hsl1 hmlt hmlt2
          go_wp2_with (first
            | (go_at_call 124; (with_reducible refine (HSPL.out _).mono ?_); rintro e W1 ⟨rfl, rfl⟩)
            | (go_at_call 156; (with_reducible refine (HR.out _ (by repeat (first | exact HB.out | exact Below.refl _ _ | refine Below.drew ?_ | refine below_dN' ?_ _ | refine below_drewN' ?_ _))).mono ?_); rintro e w2 ⟨rfl, hb2⟩; (have HB : Hid (Below w.heap.size w w2) := Below.trans (B := w.heap.size) (by repeat (first | exact HB.out | exact Below.refl _ _ | refine Below.drew ?_ | refine below_dN' ?_ _ | refine below_drewN' ?_ _)) (hb2.mono (Nat.le_refl _))); (have HN2 := Lib.hid (HND.out w2 HB.out)); clear hb2)
            | (go_at_call 125; (with_reducible refine HN2.out.mono ?_); rintro e w3 ⟨rfl, hb3⟩; (have HB : Hid (Below w.heap.size w w3) := HB.out.trans (hb3.mono HB.out.size)); clear hb3))
          go_ret2
          exact ⟨rfl, HB.out⟩
        · have hipI : ¬ (i : Int) < (p : Int) := by omega
          have hpiI : (i : Int) - (p : Int) = ((i - p : Nat) : Int) := by omega
          have hpnI : (n : Int) - (p : Int) = ((n - p : Nat) : Int) := by omega
          have HR : Hid (∀ V, Below w.heap.size w V → Calls Tryz.prog 156 #[.string x, .int .i64 ((i - p : Nat) : Int), .int .i64 ((n - p : Nat) : Int), .slice A1 m c] V fun e w' => e = .returned (.tuple #[.string (upF k x (i - p) (n - p) (ps.take m)).1, .bool (upF k x (i - p) (n - p) (ps.take m)).2]) ∧ Below V.heap.size V w') := fun V hb =>
            ih x (i - p) (n - p) A1 m c B (ps.take m) V hx (by omega) (by omega) (HSL.out V hb) (Nat.le_trans hB hb.size) (by omega) hkm (by omega) hps'
          have hrs := upF_size x (Nat.le_of_eq hx) k (i - p) (n - p) (ps.take m)
          rw [if_neg hip] at HV
          obtain ⟨⟨r, ok⟩, hr⟩ : ∃ r, upF k x (i - p) (n - p) (ps.take m) = r := ⟨_, rfl⟩
          rw [hr] at HR HV hrs
          dsimp only at hrs
          have HND : Hid (∀ V, Below w.heap.size w V → Calls Tryz.prog 125 #[.string z, .string r] V fun e w' => e = .returned (.string (ndS z r)) ∧ Below V.heap.size V w') := fun V hb => rnode_any z r V (by omega) (by omega)
          rw [HV.out]
          obtain ⟨ip, hip2⟩ : ∃ q, i - p = q := ⟨_, rfl⟩
          obtain ⟨np, hnp2⟩ : ∃ q, n - p = q := ⟨_, rfl⟩
          rw [hip2] at HR hpiI
          rw [hnp2] at HR hpnI
          clear hp hps hx hgz hz32 hlt1 hlt2 hp1 hA1 hS0 hS1 hr hrs hps' ih f1 f2 HSL  hb1 hip hip2 hnp2
          go_enter Tryz.func156, Tryz.ntmps156
          go_wp2_with fail
          refine wp_region_held_drew (S := (fun w' => w'.cell? ⟨b1, o1 + m, none⟩ = some (.string z))) (by kernel_rfl) (by first | exact hcz | go_keep) (fun hHeld => ?_)
          refine tkH (i := 0) (v := ?r4q0v) (y := (Or.inl ⟨by rfl, ?r4q0y⟩)) (h := ?r4q0r)
          case r4q0y => (intro w hSw; (try dsimp only at hSw); go_simp; try (with_reducible rfl))
          try simp only [pt]
          refine tkH (i := 1) (v := ?r4q1v) (y := (Or.inl ⟨by rfl, ?r4q1y⟩)) (h := ?r4q1r)
          case r4q1y => (intro w hSw; (try dsimp only at hSw); go_simp; try (with_reducible rfl))
          try simp only [pt]
          refine tkH (i := 2) (v := ?r4q2v) (y := (Or.inl ⟨by rfl, ?r4q2y⟩)) (h := ?r4q2r)
          case r4q2y => (intro w hSw; (try dsimp only at hSw); go_simp; try (with_reducible rfl))
          try simp only [pt]
          refine tkH (i := 3) (v := ?r4q3v) (y := (Or.inl ⟨by rfl, ?r4q3y⟩)) (h := ?r4q3r)
          case r4q3y => (intro w hSw; (try dsimp only at hSw); go_simp; try (with_reducible rfl))
          try simp only [pt]
          refine tkH (i := 4) (v := ?r4q4v) (y := (Or.inl ⟨by rfl, ?r4q4y⟩)) (h := ?r4q4r)
          case r4q4y => (intro w hSw; (try dsimp only at hSw); go_simp; try (with_reducible rfl))
          try simp only [pt]
          refine tkH (i := 5) (v := ?r4q5v) (y := (Or.inl ⟨by rfl, ?r4q5y⟩)) (h := ?r4q5r)
          case r4q5y => (intro w hSw; (try dsimp only at hSw); go_simp; try (with_reducible rfl))
          try simp only [pt]
          refine tkH (i := 6) (v := ?r4q6v) (y := (Or.inl ⟨by rfl, ?r4q6y⟩)) (h := ?r4q6r)
          case r4q6y => (intro w hSw; (try dsimp only at hSw); go_simp; try (with_reducible rfl))
          try simp only [pt]
          refine tkH (i := 7) (v := ?r4q7v) (y := (Or.inl ⟨by rfl, ?r4q7y⟩)) (h := ?r4q7r)
          case r4q7y => (intro w hSw; (try dsimp only at hSw); go_simp; try (with_reducible rfl))
          try simp only [pt]
          refine tkH (i := 8) (v := ?r4q8v) (y := (Or.inl ⟨by rfl, ?r4q8y⟩)) (h := ?r4q8r)
          case r4q8y => (intro w hSw; (try dsimp only at hSw); go_simp; try (with_reducible rfl))
          try simp only [pt]
          refine tkH (i := 9) (v := ?r4q9v) (y := (Or.inl ⟨by rfl, ?r4q9y⟩)) (h := ?r4q9r)
          case r4q9y => (intro w hSw; (try dsimp only at hSw); go_simp; try (with_reducible rfl))
          try simp only [pt]
          refine tkH (i := 10) (v := ?r4q10v) (y := (Or.inl ⟨by rfl, ?r4q10y⟩)) (h := ?r4q10r)
          case r4q10y => (intro w hSw; (try dsimp only at hSw); go_simp; try (with_reducible rfl))
          try simp only [pt]
          refine tkH (i := 11) (v := ?r4q11v) (y := (Or.inl ⟨by rfl, ?r4q11y⟩)) (h := ?r4q11r)
          case r4q11y => (intro w hSw; (try dsimp only at hSw); go_simp; try (with_reducible rfl))
          try simp only [pt]
          refine tkH (i := 12) (v := ?r4q12v) (y := (Or.inl ⟨by rfl, ?r4q12y⟩)) (h := ?r4q12r)
          case r4q12y => (intro w hSw; (try dsimp only at hSw); go_simp; try (with_reducible rfl))
          try simp only [pt]
          refine wpAnyH_done (by kernel_rfl) ?_ _
          clear hwm hmI hmI2 hsl1 hmlt hmlt2
          go_wp2_with (first
            | (go_at_call 124; (with_reducible refine (HSPL.out _).mono ?_); rintro e W1 ⟨rfl, rfl⟩)
            | (go_at_call 156; (with_reducible refine (HR.out _ (by repeat (first | exact HB.out | exact Below.refl _ _ | refine Below.drew ?_ | refine below_dN' ?_ _ | refine below_drewN' ?_ _))).mono ?_); rintro e w2 ⟨rfl, hb2⟩; (have HB : Hid (Below w.heap.size w w2) := Below.trans (B := w.heap.size) (by repeat (first | exact HB.out | exact Below.refl _ _ | refine Below.drew ?_ | refine below_dN' ?_ _ | refine below_drewN' ?_ _)) (hb2.mono (Nat.le_refl _))); (have HN2 := Lib.hid (HND.out w2 HB.out)); clear hb2)
            | (go_at_call 125; (with_reducible refine HN2.out.mono ?_); rintro e w3 ⟨rfl, hb3⟩; (have HB : Hid (Below w.heap.size w w3) := HB.out.trans (hb3.mono HB.out.size)); clear hb3))
          go_ret2
          exact ⟨rfl, HB.out⟩
end Go.Proofs.YtpdledjgbgalcaaGreatDoor
