/- The law's own functions. -/
import Derived.Test.YtpbeaghghlfiaaaD2
namespace Go.Proofs.Ytpbeaghghlfiaaa
open Go.RowKit Go.Lib
set_option linter.unusedVariables false
set_option linter.unusedSimpArgs false
theorem row22 : rowP 2 2 = [142, 244] := by decide +kernel
theorem rank3 : (redP 3 0 (idP 3) []).2.length = 3 := by decide +kernel
theorem mul29 : mulN 2 128 = 29 := by decide +kernel
set_option maxRecDepth 100000 in
set_option maxHeartbeats 4000000 in
theorem awake_any (w : World) : Calls Try.prog 4 #[] w fun e w' => e = .returned (.bool true) ∧ Below w.heap.size w w' := by
  have HR : Hid (Calls Try.prog 12 #[.int .i64 2, .int .i64 4, .int .i64 2] w (RoP 2 2 w)) := row_any 2 4 2 (by omega) (by omega) (by omega) (by omega) (by omega) w
  have HI : Hid (∀ V, Calls Try.prog 14 #[.int .i64 3] V (ZeP (idP 3) 3 V)) := fun V => identity_any 3 (by omega) V
  have HK : Hid (∀ V A c, SLL fN V V.heap.size A 3 (idP 3) → Calls Try.prog 13 #[.slice A 3 c] V fun e w' => e = .returned (.int .i64 3) ∧ Below V.heap.size V w') := fun V A c h => by
    have q := rank_any A 3 c 3 V.heap.size (idP 3) V h (Nat.le_refl _) (idP_ok 3) (by omega) (by omega) (by omega)
    rwa [rank3] at q
  have HM : Hid (∀ V, Calls Try.prog 15 #[.int .u8 2, .int .u8 128] V fun e w' => e = .returned (.int .u8 29) ∧ V = w') := fun V => by
    have q := mul_any 2 128 (by omega) (by omega) V
    rwa [mul29] at q
  have HL3 : Hid ((idP 3).length = 3) := rfl
  go_enter Try.func4, Try.ntmps4
  go_wp2_with (first
    | (go_at_call 12; (with_reducible refine HR.out.mono ?_); rintro e w1 ⟨a, c, rfl, hs, hb⟩; (obtain ⟨b, off, hA, _, hat⟩ := hs.2 (by rw [hs.1]; decide)); subst hA; rw [row22] at hat; (have k1 : w1.cell? ⟨b, off, none⟩ = some (.int .u8 142) := hat 0 142 rfl); (have k2 : w1.cell? ⟨b, off + 1, none⟩ = some (.int .u8 244) := hat 1 244 rfl); (have HB1 := Lib.hid hb); clear hs hb hat)
    | (go_at_call 14; (with_reducible refine (HI.out _).mono ?_); rintro e w2 ⟨he, hz, hb2⟩; rw [HL3.out] at he; subst he; (have HB2 : Hid (Below w.heap.size w w2) := HB1.out.trans (hb2.mono HB1.out.size)); (have HK2 := Lib.hid (HK.out w2 (some ⟨w1.heap.size, 0, none⟩) 3 hz.mat.sll)); clear hz hb2)
    | (go_at_call 13; (with_reducible refine HK2.out.mono ?_); rintro e w3 ⟨rfl, hb3⟩; (have HB3 : Hid (Below w.heap.size w w3) := HB2.out.trans (hb3.mono HB2.out.size)); clear hb3)
    | (go_at_call 15; (with_reducible refine (HM.out _).mono ?_); rintro e w' ⟨rfl, rfl⟩))
  go_ret
  exact ⟨rfl, HB3.out⟩
def BlP (data : Int) (n : Nat) (bl : Mt) (w : World) (e : Ending) (w' : World) : Prop := ∃ b, e = .returned (.bool b) ∧ (b = true → (n : Int) = data ∧ (n = 0 ∨ ∃ len, 1 ≤ len ∧ len ≤ 8 ∧ ∀ r ∈ bl, r.length = len)) ∧ w = w'
set_option maxRecDepth 100000 in
set_option maxHeartbeats 4000000 in
theorem blocks_any (data : Int) (A : Option Addr) (n c B : Nat) (bl : Mt) (w : World) (hm : SLL fN w B A n bl) (hn : n ≤ 9223372036854775807) : Calls Try.prog 6 #[.int .i64 data, .slice A n c, .int .i64 8] w (BlP data n bl w) := by
  have HM := Lib.hid hm
  have hl : bl.length = n := hm.choose_spec.2.1
  have HL := Lib.hid hl
  have hnI : (n : Int) ≤ 9223372036854775807 := by omega
  have HZ : Hid (∀ r ∈ bl.take 0, 1 ≤ r.length ∧ r.length ≤ 8 ∧ r.length = (bl.getD 0 []).length) := fun r hr => by simp at hr
  clear hm hl hn
  go_enter Try.func6, Try.ntmps6
  go_wp2_with fail
  go_loop [11] (fun i => ∃ k : Nat, k ≤ n ∧ i = .int .i64 k ∧ Hid (∀ r ∈ bl.take k, 1 ≤ r.length ∧ r.length ≤ 8 ∧ r.length = (bl.getD 0 []).length)) (fun i => n - (intOf i).toNat)
  case atStart => exact ⟨0, Nat.zero_le _, rfl, HZ⟩
  case round =>
    clear HZ
    obtain ⟨k, hk, rfl, HR⟩ := hrel
    by_cases hlt : k < n
    · have hkI : (k : Int) < (n : Int) := by omega
      obtain ⟨b, off, a, c1, r, rfl, hrk, hck, _⟩ := HM.out.cell hlt
      obtain ⟨b', off', a0, c0, r0, hA, hr0, hc0, _⟩ := HM.out.cell (k := 0) (by omega)
      injection hA with hA
      injection hA with e1 e2 _
      subst e1 e2
      simp only [Nat.add_zero] at hc0
      have hn0 : (0 : Int) < (n : Int) := by omega
      obtain ⟨x, hx⟩ : ∃ x, r.length = x := ⟨_, rfl⟩
      obtain ⟨y, hy⟩ : ∃ y, r0.length = y := ⟨_, rfl⟩
      rw [hx] at hck
      rw [hy] at hc0
      have HRK := Lib.hid hrk
      have HX := Lib.hid hx
      have HY : Hid ((bl.getD 0 []).length = y) := by show _ = _; rw [getD_some hr0]; exact hy
      clear hrk hr0 hx hy
      by_cases h1 : x < 1
      · have hxI : (x : Int) < 1 := by omega
        go_wp2_with fail
        go_ret
        exact ⟨false, rfl, (fun g => by cases g), rfl⟩
      · have hxI : ¬ (x : Int) < 1 := by omega
        have hxd : decide ((x : Int) < 1) = false := decide_eq_false hxI
        have hxN : decide (x < 1) = false := decide_eq_false h1
        have hx0 : decide (x = 0) = false := by simp; omega
        by_cases h2 : 8 < x
        · have hyI : (8 : Int) < (x : Int) := by omega
          go_wp2_with fail
          go_ret
          exact ⟨false, rfl, (fun g => by cases g), rfl⟩
        · have hyI : ¬ (8 : Int) < (x : Int) := by omega
          have hyd : decide ((8 : Int) < (x : Int)) = false := decide_eq_false hyI
          have hyN : decide (8 < x) = false := decide_eq_false h2
          by_cases h3 : x = y
          · have HR2 : Hid (∀ r ∈ bl.take (k + 1), 1 ≤ r.length ∧ r.length ≤ 8 ∧ r.length = (bl.getD 0 []).length) := fun q hq => by
              rw [take_snoc HRK.out] at hq
              rcases List.mem_append.1 hq with h | h
              · exact HR.out q h
              · obtain rfl : q = r := by simpa using h
                exact ⟨by rw [HX.out]; omega, by rw [HX.out]; omega, by rw [HX.out, HY.out, h3]⟩
            subst h3
            go_wp2_with fail
            go_round
            case rel => exact ⟨k + 1, by omega, by go_num, HR2⟩
            case measure => simp [intOf]; omega
          · have h3a : ((x : Int) == (y : Int)) = false := by simp; omega
            have h3b : ((x : Int) != (y : Int)) = true := by simp; omega
            have h3c : decide (x = y) = false := by simp; omega
            have h3d : (x == y) = false := by simp; omega
            go_wp2_with fail
            go_ret
            exact ⟨false, rfl, (fun g => by cases g), rfl⟩
    · obtain rfl : k = n := by omega
      have HF : Hid ((k : Int) = data → (k : Int) = data ∧ (k = 0 ∨ ∃ len, 1 ≤ len ∧ len ≤ 8 ∧ ∀ r ∈ bl, r.length = len)) := fun h => ⟨h, by
        have q := HR.out
        rw [List.take_of_length_le (by rw [HL.out]; exact Nat.le_refl _)] at q
        rcases Nat.eq_zero_or_pos k with h0 | h0
        · exact .inl h0
        · obtain ⟨r0, hr0⟩ := get_ex (xs := bl) (k := 0) (by rw [HL.out]; exact h0)
          have q0 := q r0 (List.mem_of_getElem? hr0)
          rw [getD_some hr0] at q
          exact .inr ⟨r0.length, q0.1, q0.2.1, fun r hr => (q r hr).2.2⟩⟩
      go_wp2_with fail
      go_ret
      exact ⟨decide ((k : Int) = data), rfl, fun g => HF.out (of_decide_eq_true g), rfl⟩
set_option maxRecDepth 100000 in
set_option maxHeartbeats 4000000 in
theorem same_yes (A1 A2 : Option Addr) (n c1 c2 B : Nat) (m : Mt) (w : World) (h1 : SLL fN w B A1 n m) (h2 : SLL fN w B A2 n m) (hB : B ≤ w.heap.size) (hn : n ≤ 1000) : Calls Try.prog 11 #[.slice A1 n c1, .slice A2 n c2] w fun e w' => e = .returned (.bool true) ∧ Below w.heap.size w w' := by
  have H1 := Lib.hid h1
  have H2 := Lib.hid h2
  have HBB := Lib.hid hB
  have hnI : (n : Int) ≤ 1000 := by omega
  have HZ : Hid (Below w.heap.size w w) := Below.refl _ _
  clear h1 h2 hB hn
  go_enter Try.func11, Try.ntmps11
  go_wp2_with fail
  go_loopw [13] (fun i wr => ∃ k : Nat, k ≤ n ∧ i = .int .i64 k ∧ Hid (Below w.heap.size w wr)) (fun i _ => n - (intOf i).toNat)
  case atStart => exact ⟨0, Nat.zero_le _, rfl, HZ⟩
  case round =>
    clear HZ
    obtain ⟨k, hk, rfl, HB⟩ := hrel
    by_cases hlt : k < n
    · have hkI : (k : Int) < (n : Int) := by omega
      obtain ⟨b1, o1, a1, c1', r, rfl, hr1, q1, s1⟩ := (H1.out.up HB.out HBB.out).cell hlt
      obtain ⟨b2, o2, a2, c2', r2, rfl, hr2, q2, s2⟩ := (H2.out.up HB.out HBB.out).cell hlt
      rw [hr1] at hr2
      obtain rfl : r = r2 := Option.some.inj hr2
      obtain ⟨n1, hn1⟩ : ∃ x, r.length = x := ⟨_, rfl⟩
      rw [hn1] at q1 q2 s1 s2
      replace s1 := s1.more' (Nat.le_trans HBB.out HB.out.size)
      replace s2 := s2.more' (Nat.le_trans HBB.out HB.out.size)
      clear hr1 hr2 hn1
      go_wp2_with fail
      refine wp_region_held_drew (S := (fun w' : World => w'.cell? ⟨b1, o1 + k, none⟩ = some (.slice a1 n1 c1') ∧ w'.cell? ⟨b2, o2 + k, none⟩ = some (.slice a2 n1 c2') ∧ Sl fN w' wr.heap.size a1 n1 r ∧ Sl fN w' wr.heap.size a2 n1 r)) (by kernel_rfl) (by exact ⟨q1, q2, s1, s2⟩) (fun hHeld => ?_)
      refine wpAnyH_take (i := 0) (v := _) (by simp only [List.getElem?_toArray, List.getElem?_cons_zero]; rfl) (by kernel_rfl) (by kernel_rfl) (by kernel_rfl) (by exact fun _ _ _ h => h) (Or.inl ⟨by rfl, by (intro w hSw; (try dsimp only at hSw); go_simp; try (with_reducible rfl))⟩) (by assumption) ?_
      try simp only [Act.put, List.setIfInBounds_toArray, List.set_cons_zero, List.set_cons_succ]
      refine wpAnyH_take (i := 1) (v := _) (by simp only [List.getElem?_toArray, List.getElem?_cons_succ, List.getElem?_cons_zero]; rfl) (by kernel_rfl) (by kernel_rfl) (by kernel_rfl) (by exact fun _ _ _ h => h) (Or.inl ⟨by rfl, by (intro w hSw; (try dsimp only at hSw); go_simp; try (with_reducible rfl))⟩) (by assumption) ?_
      try simp only [Act.put, List.setIfInBounds_toArray, List.set_cons_zero, List.set_cons_succ]
      refine wpAnyH_take (i := 2) (v := _) (by simp only [List.getElem?_toArray, List.getElem?_cons_succ, List.getElem?_cons_zero]; rfl) (by kernel_rfl) (by kernel_rfl) (by kernel_rfl) (by exact fun _ _ _ h => h) (Or.inl ⟨by rfl, by (intro w hSw; (try dsimp only at hSw); go_simp; try (with_reducible rfl))⟩) (by assumption) ?_
      try simp only [Act.put, List.setIfInBounds_toArray, List.set_cons_zero, List.set_cons_succ]
      refine wpAnyH_take (i := 3) (v := _) (by simp only [List.getElem?_toArray, List.getElem?_cons_succ, List.getElem?_cons_zero]; rfl) (by kernel_rfl) (by kernel_rfl) (by kernel_rfl) (by exact fun _ _ _ h => h) (Or.inl ⟨by rfl, by (intro w hSw; (try dsimp only at hSw); go_simp; try (with_reducible rfl))⟩) (by assumption) ?_
      try simp only [Act.put, List.setIfInBounds_toArray, List.set_cons_zero, List.set_cons_succ]
      refine wpAnyH_take (i := 4) (v := _) (by simp only [List.getElem?_toArray, List.getElem?_cons_succ, List.getElem?_cons_zero]; rfl) (by kernel_rfl) (by kernel_rfl) (by kernel_rfl) (by exact fun _ _ _ h => h) (Or.inl ⟨by rfl, by (intro w hSw; (try dsimp only at hSw); have qq := run_convN (c := c1') hSw.2.2.1; go_simp; try (with_reducible rfl))⟩) (by assumption) ?_
      try simp only [Act.put, List.setIfInBounds_toArray, List.set_cons_zero, List.set_cons_succ]
      refine wpAnyH_take (i := 5) (v := _) (by simp only [List.getElem?_toArray, List.getElem?_cons_succ, List.getElem?_cons_zero]; rfl) (by kernel_rfl) (by kernel_rfl) (by kernel_rfl) (by exact fun _ _ _ h => h) (Or.inl ⟨by rfl, by (intro w hSw; (try dsimp only at hSw); go_simp; try (with_reducible rfl))⟩) (by assumption) ?_
      try simp only [Act.put, List.setIfInBounds_toArray, List.set_cons_zero, List.set_cons_succ]
      refine wpAnyH_take (i := 6) (v := _) (by simp only [List.getElem?_toArray, List.getElem?_cons_succ, List.getElem?_cons_zero]; rfl) (by kernel_rfl) (by kernel_rfl) (by kernel_rfl) (by exact fun _ _ _ h => h) (Or.inl ⟨by rfl, by (intro w hSw; (try dsimp only at hSw); go_simp; try (with_reducible rfl))⟩) (by assumption) ?_
      try simp only [Act.put, List.setIfInBounds_toArray, List.set_cons_zero, List.set_cons_succ]
      refine wpAnyH_take (i := 7) (v := _) (by simp only [List.getElem?_toArray, List.getElem?_cons_succ, List.getElem?_cons_zero]; rfl) (by kernel_rfl) (by kernel_rfl) (by kernel_rfl) (by exact fun _ _ _ h => h) (Or.inl ⟨by rfl, by (intro w hSw; (try dsimp only at hSw); go_simp; try (with_reducible rfl))⟩) (by assumption) ?_
      try simp only [Act.put, List.setIfInBounds_toArray, List.set_cons_zero, List.set_cons_succ]
      refine wpAnyH_take (i := 8) (v := _) (by simp only [List.getElem?_toArray, List.getElem?_cons_succ, List.getElem?_cons_zero]; rfl) (by kernel_rfl) (by kernel_rfl) (by kernel_rfl) (by exact fun _ _ _ h => h) (Or.inl ⟨by rfl, by (intro w hSw; (try dsimp only at hSw); go_simp; try (with_reducible rfl))⟩) (by assumption) ?_
      try simp only [Act.put, List.setIfInBounds_toArray, List.set_cons_zero, List.set_cons_succ]
      refine wpAnyH_take (i := 9) (v := _) (by simp only [List.getElem?_toArray, List.getElem?_cons_succ, List.getElem?_cons_zero]; rfl) (by kernel_rfl) (by kernel_rfl) (by kernel_rfl) (by exact fun _ _ _ h => h) (Or.inl ⟨by rfl, by (intro w hSw; (try dsimp only at hSw); have qq := run_convN (c := c2') hSw.2.2.2; go_simp; try (with_reducible rfl))⟩) (by assumption) ?_
      try simp only [Act.put, List.setIfInBounds_toArray, List.set_cons_zero, List.set_cons_succ]
      refine wpAnyH_take (i := 10) (v := _) (by simp only [List.getElem?_toArray, List.getElem?_cons_succ, List.getElem?_cons_zero]; rfl) (by kernel_rfl) (by kernel_rfl) (by kernel_rfl) (by exact fun _ _ _ h => h) (Or.inl ⟨by rfl, by (intro w hSw; (try dsimp only at hSw); go_simp; try (with_reducible rfl))⟩) (by assumption) ?_
      try simp only [Act.put, List.setIfInBounds_toArray, List.set_cons_zero, List.set_cons_succ]
      refine wpAnyH_done (by kernel_rfl) ?_ _
      skip
      have HBd : Hid (Below w.heap.size w wr.drew) := HB.out.drew
      clear q1 q2 s1 s2
      go_wp2_with fail
      go_roundw
      case rel => exact ⟨k + 1, by omega, by go_num, HBd⟩
      case measure => simp [intOf]; omega
    · obtain rfl : k = n := by omega
      go_wp2_with fail
      go_ret
      exact ⟨rfl, HB.out⟩
end Go.Proofs.Ytpbeaghghlfiaaa
