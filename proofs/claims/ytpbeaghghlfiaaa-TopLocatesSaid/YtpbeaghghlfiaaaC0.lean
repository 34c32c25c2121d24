/- reedsolomon: Valid, oneLength, Clone, newTable. -/
import Derived.Test.YtpbeaghghlfiaaaB8
namespace Go.Proofs.Ytpbeaghghlfiaaa
open Go.RowKit Go.Lib
set_option linter.unusedVariables false
set_option linter.unusedSimpArgs false
def rsB (d t : Int) : Bool := decide (1 ≤ d ∧ d ≤ 8 ∧ d ≤ t ∧ t ≤ 16)
theorem rsvalid_any (d t : Int) (w : World) : Calls Try.prog 5 #[.int .i64 d, .int .i64 t] w fun e w' => e = .returned (.bool (rsB d t)) ∧ w = w' := by
  by_cases h1 : 1 ≤ d
  · by_cases h2 : d ≤ 8
    · by_cases h3 : d ≤ t
      · by_cases h4 : t ≤ 16
        · have H : Hid (rsB d t = true) := decide_eq_true ⟨h1, h2, h3, h4⟩
          go_enter Try.func5, Try.ntmps5
          go_wp2
          go_ret
          exact ⟨by rw [H.out]; rfl, rfl⟩
        · have H : Hid (rsB d t = false) := decide_eq_false (fun g => h4 g.2.2.2)
          have hd : decide (t ≤ 16) = false := by simp; omega
          go_enter Try.func5, Try.ntmps5
          go_wp2
          go_ret
          exact ⟨by rw [H.out]; rfl, rfl⟩
      · have H : Hid (rsB d t = false) := decide_eq_false (fun g => h3 g.2.2.1)
        have hd : decide (d ≤ t) = false := by simp; omega
        go_enter Try.func5, Try.ntmps5
        go_wp2
        go_ret
        exact ⟨by rw [H.out]; rfl, rfl⟩
    · have H : Hid (rsB d t = false) := decide_eq_false (fun g => h2 g.2.1)
      have hd : decide (d ≤ 8) = false := by simp; omega
      go_enter Try.func5, Try.ntmps5
      go_wp2
      go_ret
      exact ⟨by rw [H.out]; rfl, rfl⟩
  · have H : Hid (rsB d t = false) := decide_eq_false (fun g => h1 g.1)
    have hd : decide (1 ≤ d) = false := by simp; omega
    go_enter Try.func5, Try.ntmps5
    go_wp2
    go_ret
    exact ⟨by rw [H.out]; rfl, rfl⟩
theorem oneLength_yes (A : Option Addr) (n c B len : Nat) (m : Mt) (w : World) (hm : SLL fN w B A n m) (hr : ∀ r ∈ m, r.length = len) (h0 : 0 < len) (hl : len ≤ 65536) (hn : n ≤ 1000) : Calls Try.prog 16 #[.slice A n c] w fun e w' => e = .returned (.bool true) ∧ w = w' := by
  have HM := Lib.hid hm
  have HR := Lib.hid hr
  have hnI : (n : Int) ≤ 1000 := by omega
  have hl0 : ((len : Int) == 0) = false := by simp; omega
  have hl1 : ¬ (65536 : Int) < (len : Int) := by omega
  have hl2 : decide (65536 < len) = false := by simp; omega
  have hl3 : decide (len = 0) = false := by simp; omega
  have hl4 : (len == 0) = false := by simp; omega
  clear hm hr
  go_enter Try.func16, Try.ntmps16
  go_wp2_with fail
  go_loop [7] (fun i => ∃ k : Nat, k ≤ n ∧ i = .int .i64 k) (fun i => n - (intOf i).toNat)
  case atStart => exact ⟨0, Nat.zero_le _, rfl⟩
  case round =>
    obtain ⟨k, hk, rfl⟩ := hrel
    by_cases hlt : k < n
    · have hkI : (k : Int) < (n : Int) := by omega
      obtain ⟨b, off, a, c1, r, rfl, hrk, hck, _⟩ := HM.out.cell hlt
      obtain ⟨b', off', a0, c0, r0, hA, hr0, hc0, _⟩ := HM.out.cell (k := 0) (by omega)
      injection hA with hA
      injection hA with e1 e2 _
      subst e1 e2
      rw [HR.out r (List.mem_of_getElem? hrk)] at hck
      rw [HR.out r0 (List.mem_of_getElem? hr0)] at hc0
      simp only [Nat.add_zero] at hc0
      have hn0 : (0 : Int) < (n : Int) := by omega
      clear hrk hr0
      go_wp2_with fail
      go_round
      case rel => exact ⟨k + 1, by omega, by go_num⟩
      case measure => simp [intOf]; omega
    · obtain rfl : k = n := by omega
      go_wp2_with fail
      go_ret
      exact ⟨rfl, rfl⟩
/-- A slice of rows that the call owns, all rows below base. -/
def RwO (m : Mt) (base : Nat) (w : World) (v : Value) : Prop := ∃ hs : List Hd, Own fS TR w base v hs ∧ hs.length = m.length ∧ ∀ (k : Nat) hd r, hs[k]? = some hd → m[k]? = some r → Sl fN w base hd.a hd.n r
theorem RwO.sll {m : Mt} {base : Nat} {w : World} {v : Value} (h : RwO m base w v) (hb : base ≤ w.heap.size) : ∃ A c, v = .slice A m.length c ∧ m.length ≤ c ∧ SLL fN w w.heap.size A m.length m := by
  obtain ⟨hs, h1, h2, h3⟩ := h
  obtain ⟨A, c, q1, q2, q3, _⟩ := h1.shape
  rw [h2] at q1 q2
  exact ⟨A, c, q1, q2, hs, ⟨h2, q3⟩, rfl, fun k hd r p1 p2 => (h3 k hd r p1 p2).more' hb⟩
set_option maxRecDepth 20000 in
theorem clone_any (A : Option Addr) (n c B : Nat) (m : Mt) (w : World) (hm : SLL fN w B A n m) (hB : B ≤ w.heap.size) (h0 : 0 < n) (hn : n ≤ 1000) : Calls Try.prog 17 #[.slice A n c] w fun e w' => (∃ v, e = .returned v ∧ RwO m w.heap.size w' v) ∧ Below w.heap.size w w' := by
  obtain ⟨b, off, _, _, _, rfl, _, _, _⟩ := hm.cell h0
  obtain ⟨hs, hh, hl, hr⟩ := hm
  obtain ⟨j0, hj, hj1, hj2, hj3⟩ := info_parts Try.infoBR
  have HJ0 := Lib.hid hj
  have HJ1 := Lib.hid hj1
  have HJ2 := Lib.hid hj2
  have HJ3 := Lib.hid hj3
  have HHL : Hid (hs.length = m.length) := hh.1.trans hl.symm
  have HS : Hid (Sl fS (w.alloc (.cells #[] TR)) B (some ⟨b, off, none⟩) n hs) := hh.up ((Below.refl _ w).alloc (Nat.le_refl _) _) hB
  have HO : Hid (Own fS TR (w.alloc (.cells #[] TR)) w.heap.size (.slice (some ⟨w.heap.size, 0, none⟩) 0 0) ([] : List Hd)) := World.ownsRow_made w #[] 0 (Nat.le_refl _) (Nat.zero_le _) (by simp)
  have HL1 : Hid ((([] : List Hd).length + hs.length) * 24 ≤ 140737488355328) := by show (0 + hs.length) * 24 ≤ _; rw [hh.1]; omega
  have HL2 : Hid (([] : List Hd).length + hs.length ≤ maxLen) := by show 0 + hs.length ≤ _; rw [hh.1]; unfold maxLen; omega
  have HSZ : Hid (w.heap.size ≤ (w.alloc (.cells #[] TR)).heap.size) := by show _ ≤ _; simp
  have HR := Lib.hid hr
  have HBB := Lib.hid hB
  have hnil := Lib.run_eql_slice_nil (P := Try.prog) w 22 TR (some ⟨b, off, none⟩) n c 0 0 Try.underlying22
  clear hj hj1 hj2 hj3 hh hl hr hB
  go_enter Try.func17, Try.ntmps17
  go_wp2_with (at_builtin; (refine wpList_app (o := ⟨some 7, _, _, _, _, _⟩) (f := fS) rfl (.tmp 5) (.tmp 6) 22 rfl TR j0 (.slice none 0 0) 24 Try.underlying22 HJ0.out HJ1.out HJ2.out HJ3.out rfl (.slice (some ⟨w.heap.size, 0, none⟩) 0 0) ([] : List Hd) w.heap.size (by rfl) HO.out (some ⟨b, off, none⟩) n c B hs (by rfl) HS.out fS1 HL1.out HL2.out HSZ.out ?_); intro v5 W5 HO5 HG5 HV5)
  go_ret
  have HB5 : Below w.heap.size w W5 := ((Below.refl _ w).alloc (Nat.le_refl _) _).trans (grown_below HG5.out (fun q hq => by injection hq with hq; subst hq; exact Nat.le_refl _) HSZ.out)
  exact ⟨⟨v5, rfl, hs, HO5.out, HHL.out, fun k hd r q1 q2 => ((HR.out k hd r q1 q2).up HB5 HBB.out).more' HBB.out⟩, HB5⟩
abbrev TT : TypeId := 70
/-- The table's block. -/
def tT (d : Nat) (l : List Nat) : Array Value := (.int .i64 (d : Int) :: l.map fN).toArray
theorem tT_size (d : Nat) (l : List Nat) : (tT d l).size = l.length + 1 := by simp [tT]
theorem tT_set (d : Nat) (l : List Nat) (q x : Nat) : (tT d l).setIfInBounds (q + 1) (fN x) = tT d (l.set q x) := by
  unfold tT
  simp [List.map_set]
theorem tT_get (d : Nat) (l : List Nat) (q : Nat) : (tT d l)[q + 1]? = (l[q]?).map fN := by unfold tT; simp
def tP7 : Array (Nat × Operand) := #[(0, .tmp 6)]
set_option maxRecDepth 100000 in
theorem tB7 (a : Act) (d : Nat) (h0 : a.eval (.tmp 6) = .int .i64 (d : Int)) : Try.prog.built TT (tP7.map fun (i, x) => (i, a.eval x)).toList = some (tT d (List.replicate 128 0)) := by
  rw [Array.toList_map]
  show Try.prog.built TT [(0, a.eval (.tmp 6))] = _
  rw [h0]
  kernel_rfl
theorem wpList_built {P : Program} {ops : Array Oper} {rest : List Oper} {o : Oper} {a : Act} {w : World} {Q : Exit → Act → World → Prop} (hg : o.guard = none) (t : TypeId) (parts : Array (Nat × Operand)) (ho : o.op = .build t parts) (cells : Array Value)
    (hf : P.built t (parts.map fun (i, x) => (i, a.eval x)).toList = some cells)
    (h : wpList P ops Q rest (a.put o.dst (.agg cells)) w) : wpList P ops Q (o :: rest) a w :=
  wpList_build hg t parts ho (by rw [hf]; rfl) (by rw [hf]; exact h)
theorem i64_xor : ∀ i : Nat, i < 16 → ∀ c : Nat, c < 8 → bits .xor .i64 (i : Int) (c : Int) = ((i ^^^ c : Nat) : Int) := by decide +kernel
/-- The full table. -/
abbrev tFull (d : Nat) : Array Value := tT d (tabN d 16 0)
def NtP (d : Nat) (w : World) (e : Ending) (w' : World) : Prop := e = .returned (.pointer (some ⟨w.heap.size, 0, none⟩)) ∧ w'.heap[w.heap.size]? = some (.cells (tFull d) TT (0, 0)) ∧ Below w.heap.size w w'
set_option maxRecDepth 100000 in
set_option maxHeartbeats 4000000 in
theorem newTable_any (d : Nat) (h1 : 1 ≤ d) (h8 : d ≤ 8) (w : World) : Calls Try.prog 19 #[.int .i64 d] w (NtP d w) := by
  have H1 := Lib.hid h1
  have H8 := Lib.hid h8
  have hd0 : (1 : Int) ≤ (d : Int) := by omega
  have hd8 : (d : Int) ≤ 8 := by omega
  clear h1 h8
  go_enter Try.func19, Try.ntmps19
  go_upto_region 2 with fail
  generalize hW1 : World.alloc w _ = W1
  have HB1 : Hid (Below w.heap.size w W1) := by show Below ..; rw [← hW1]; exact (Below.refl _ _).alloc (Nat.le_refl _) _
  have HG1 : Hid (W1.heap[w.heap.size]? = some (.cells (tT d (tabN d 0 0)) TT (0, 0))) := by show _ = _; rw [← hW1, tabN_start]; exact heap_alloc_new w _
  clear hW1
  go_wp2_with fail
  go_loopw [9] (fun i wr => ∃ k : Nat, k ≤ 16 ∧ i = .int .i64 k ∧ Hid (Below w.heap.size w wr) ∧ Hid (wr.heap[w.heap.size]? = some (.cells (tT d (tabN d k 0)) TT (0, 0)))) (fun i _ => 16 - (intOf i).toNat)
  case atStart => exact ⟨0, Nat.zero_le _, rfl, HB1, HG1⟩
  case round =>
    clear HB1 HG1
    obtain ⟨i, hi, rfl, HB, HG⟩ := hrel
    by_cases hlt : i < 16
    · have hiI : (i : Int) < 16 := by omega
      go_upto_region 6 with fail
      obtain ⟨W0, hW0⟩ : ∃ W0, W0 = wr := ⟨_, rfl⟩
      subst hW0
      go_loopw [13] (fun j wr => ∃ k : Nat, k ≤ d ∧ j = .int .i64 k ∧ Hid (Below w.heap.size w wr) ∧ Hid (wr.heap[w.heap.size]? = some (.cells (tT d (tabN d i k)) TT (0, 0)))) (fun j _ => d - (intOf j).toNat)
      case atStart => exact ⟨0, Nat.zero_le _, rfl, HB, HG⟩
      case round =>
        clear HB HG
        obtain ⟨c, hc, rfl, HB, HG⟩ := hrel
        by_cases hct : c < d
        · have hcI : (c : Int) < (d : Int) := by omega
          have hc8 : c < 8 := by have := H8.out; omega
          have hc8I : (c : Int) < 8 := by omega
          have HSZ : Hid (1 + i * 8 + c < (tT d (tabN d i c)).size) := by show _ < _; rw [tT_size, tabN_len]; omega
          have hst := tabN_step hlt H8.out hct
          by_cases hid : i < d
          · have hidI : ¬ (d : Int) ≤ (i : Int) := by omega
            have hidN : decide (d ≤ i) = false := by simp; omega
            have htq : tq d i c = if i = c then 1 else 0 := by unfold tq; rw [if_pos hid]
            by_cases hic : i = c
            · rw [htq, if_pos hic] at hst
              have HST : Hid ((tT d (tabN d i c)).setIfInBounds (1 + i * 8 + c) (fN 1) = tT d (tabN d i (c + 1))) := by
                show _ = _
                rw [show 1 + i * 8 + c = (i * 8 + c) + 1 by omega, tT_set, hst]
              subst hic
              clear hst htq
              go_wp2_with ((with_reducible refine wpList_store_at1 rfl 5 (.tmp 43) _ rfl w.heap.size TT (1 + i * 8 + i) (tT d (tabN d i i)) (fN 1) rfl rfl HG.out HSZ.out Try.sizeB rfl ?_); intro W5 HG5 HB5)
              rw [HST.out] at HG5
              go_roundw
              case rel => exact ⟨i + 1, by omega, by go_num, HB5.out.below HB.out HB.out.size (fun q hq => by subst hq; exact Nat.le_refl _), HG5⟩
              case measure => simp [intOf]; omega
            · have hs2 := tabN_skip (d := d) (i := i) (c := c) (by rw [htq, if_neg hic])
              have HST := Lib.hid hs2
              have hic1 : ((i : Int) == (c : Int)) = false := by simp; omega
              have hic2 : decide (i = c) = false := by simp; omega
              have hic3 : (i == c) = false := by simp; omega
              clear hst htq hs2
              go_wp2_with fail
              go_roundw
              case rel => exact ⟨c + 1, by omega, by go_num, HB, by show _ = _; rw [← HST.out]; exact HG.out⟩
              case measure => simp [intOf]; omega
          · have hidI : (d : Int) ≤ (i : Int) := by omega
            have htq : tq d i c = invN (i ^^^ c) := by unfold tq; rw [if_neg hid]
            obtain ⟨hx0, hx256⟩ := xor_ne i hlt c hc8 (by omega)
            have hxo := i64_xor i hlt c hc8
            obtain ⟨x, hx⟩ : ∃ x, i ^^^ c = x := ⟨_, rfl⟩
            rw [hx] at htq hx256 hxo
            rw [htq] at hst
            have HST : Hid ((tT d (tabN d i c)).setIfInBounds (1 + i * 8 + c) (fN (invN x)) = tT d (tabN d i (c + 1))) := by
              show _ = _
              rw [show 1 + i * 8 + c = (i * 8 + c) + 1 by omega, tT_set, hst]
            have hxI : (x : Int) < 256 := by omega
            have hwr : IntKind.u8.wrap (x : Int) = (x : Int) := by rw [wrap_u8]; omega
            have HINV : Hid (∀ w, Calls Try.prog 35 #[fN x] w fun e w' => (∃ r, e = .returned (.tuple #[fN (invN x), .int .i64 r])) ∧ w = w') := fun w => inv_any x hx256 w
            have HGd : Hid (wr.drew.heap[w.heap.size]? = some (.cells (tT d (tabN d i c)) TT (0, 0))) := HG.out
            clear hst htq hx0 hx hx256
            go_wp2_with fail
            refine LastZ.start (by kernel_rfl) (fun _ => True) 15 ?_
            have hZ0 : Hid ((fun _ => True) wr.drew) := (by exact trivial)
            refine LastZ.take 0 (v := _) (by simp only [List.getElem?_toArray, List.getElem?_cons_zero]; rfl) (by kernel_rfl) (by kernel_rfl) (by kernel_rfl) (by decide) (by kernel_rfl) (by exact fun _ _ _ h => h) (Or.inl ⟨by rfl, by (intro w hSw; (try dsimp only at hSw); go_simp; try (with_reducible rfl))⟩) hZ0.out ?_
            try simp only [Act.put, List.setIfInBounds_toArray, List.set_cons_zero, List.set_cons_succ]
            refine LastZ.take 1 (v := _) (by simp only [List.getElem?_toArray, List.getElem?_cons_succ, List.getElem?_cons_zero]; rfl) (by kernel_rfl) (by kernel_rfl) (by kernel_rfl) (by decide) (by kernel_rfl) (by exact fun _ _ _ h => h) (Or.inl ⟨by rfl, by (intro w hSw; (try dsimp only at hSw); go_simp; try (with_reducible rfl))⟩) hZ0.out ?_
            try simp only [Act.put, List.setIfInBounds_toArray, List.set_cons_zero, List.set_cons_succ]
            refine LastZ.take 2 (v := _) (by simp only [List.getElem?_toArray, List.getElem?_cons_succ, List.getElem?_cons_zero]; rfl) (by kernel_rfl) (by kernel_rfl) (by kernel_rfl) (by decide) (by kernel_rfl) (by exact fun _ _ _ h => h) (Or.inl ⟨by rfl, by (intro w hSw; (try dsimp only at hSw); go_simp; try (with_reducible rfl))⟩) hZ0.out ?_
            try simp only [Act.put, List.setIfInBounds_toArray, List.set_cons_zero, List.set_cons_succ]
            refine LastZ.take 3 (v := _) (by simp only [List.getElem?_toArray, List.getElem?_cons_succ, List.getElem?_cons_zero]; rfl) (by kernel_rfl) (by kernel_rfl) (by kernel_rfl) (by decide) (by kernel_rfl) (by exact fun _ _ _ h => h) (Or.inl ⟨by rfl, by (intro w hSw; (try dsimp only at hSw); go_simp; try (with_reducible rfl))⟩) hZ0.out ?_
            try simp only [Act.put, List.setIfInBounds_toArray, List.set_cons_zero, List.set_cons_succ]
            refine LastZ.take 4 (v := _) (by simp only [List.getElem?_toArray, List.getElem?_cons_succ, List.getElem?_cons_zero]; rfl) (by kernel_rfl) (by kernel_rfl) (by kernel_rfl) (by decide) (by kernel_rfl) (by exact fun _ _ _ h => h) (Or.inl ⟨by rfl, by (intro w hSw; (try dsimp only at hSw); go_simp; try (with_reducible rfl))⟩) hZ0.out ?_
            try simp only [Act.put, List.setIfInBounds_toArray, List.set_cons_zero, List.set_cons_succ]
            refine LastZ.take 5 (v := _) (by simp only [List.getElem?_toArray, List.getElem?_cons_succ, List.getElem?_cons_zero]; rfl) (by kernel_rfl) (by kernel_rfl) (by kernel_rfl) (by decide) (by kernel_rfl) (by exact fun _ _ _ h => h) (Or.inl ⟨by rfl, by (intro w hSw; (try dsimp only at hSw); go_simp; try (with_reducible rfl))⟩) hZ0.out ?_
            try simp only [Act.put, List.setIfInBounds_toArray, List.set_cons_zero, List.set_cons_succ]
            refine LastZ.take 6 (v := _) (by simp only [List.getElem?_toArray, List.getElem?_cons_succ, List.getElem?_cons_zero]; rfl) (by kernel_rfl) (by kernel_rfl) (by kernel_rfl) (by decide) (by kernel_rfl) (by exact fun _ _ _ h => h) (Or.inl ⟨by rfl, by (intro w hSw; (try dsimp only at hSw); go_simp; try (with_reducible rfl))⟩) hZ0.out ?_
            try simp only [Act.put, List.setIfInBounds_toArray, List.set_cons_zero, List.set_cons_succ]
            refine LastZ.take 11 (v := _) (by simp only [List.getElem?_toArray, List.getElem?_cons_succ, List.getElem?_cons_zero]; rfl) (by kernel_rfl) (by kernel_rfl) (by kernel_rfl) (by decide) (by kernel_rfl) (by exact fun _ _ _ h => h) (Or.inl ⟨by rfl, by (intro w hSw; (try dsimp only at hSw); go_simp; try (with_reducible rfl))⟩) hZ0.out ?_
            try simp only [Act.put, List.setIfInBounds_toArray, List.set_cons_zero, List.set_cons_succ]
            refine LastZ.take 12 (v := _) (by simp only [List.getElem?_toArray, List.getElem?_cons_succ, List.getElem?_cons_zero]; rfl) (by kernel_rfl) (by kernel_rfl) (by kernel_rfl) (by decide) (by kernel_rfl) (by exact fun _ _ _ h => h) (Or.inl ⟨by rfl, by (intro w hSw; (try dsimp only at hSw); go_simp; try (with_reducible rfl))⟩) hZ0.out ?_
            try simp only [Act.put, List.setIfInBounds_toArray, List.set_cons_zero, List.set_cons_succ]
            refine LastZ.take 13 (v := _) (by simp only [List.getElem?_toArray, List.getElem?_cons_succ, List.getElem?_cons_zero]; rfl) (by kernel_rfl) (by kernel_rfl) (by kernel_rfl) (by decide) (by kernel_rfl) (by exact fun _ _ _ h => h) (Or.inl ⟨by rfl, by (intro w hSw; (try dsimp only at hSw); go_simp; try (with_reducible rfl))⟩) hZ0.out ?_
            try simp only [Act.put, List.setIfInBounds_toArray, List.set_cons_zero, List.set_cons_succ]
            refine LastZ.one 7 (by kernel_rfl) (by simp only [List.getElem?_toArray, List.getElem?_cons_succ, List.getElem?_cons_zero]; rfl) (fun K hK => ?_)
            (go_simp; go_at_call 35; (with_reducible refine (HINV.out _).mono ?_); rintro e w5 ⟨⟨er, rfl⟩, hw5⟩; subst hw5; go_wp2_with fail)
            refine hK.out _ _ (by exact trivial) (fun hHeldZ => ?_)
            have hZ1 := Lib.hid hHeldZ
            clear hK K hZ0 hHeldZ
            try simp only [Act.put, List.setIfInBounds_toArray, List.set_cons_zero, List.set_cons_succ]
            refine LastZ.take 8 (v := _) (by simp only [List.getElem?_toArray, List.getElem?_cons_succ, List.getElem?_cons_zero]; rfl) (by kernel_rfl) (by kernel_rfl) (by kernel_rfl) (by decide) (by kernel_rfl) (by exact fun _ _ _ h => h) (Or.inl ⟨by rfl, by (intro w hSw; (try dsimp only at hSw); go_simp; try (with_reducible rfl))⟩) hZ1.out ?_
            try simp only [Act.put, List.setIfInBounds_toArray, List.set_cons_zero, List.set_cons_succ]
            refine LastZ.take 9 (v := _) (by simp only [List.getElem?_toArray, List.getElem?_cons_succ, List.getElem?_cons_zero]; rfl) (by kernel_rfl) (by kernel_rfl) (by kernel_rfl) (by decide) (by kernel_rfl) (by exact fun _ _ _ h => h) (Or.inl ⟨by rfl, by (intro w hSw; (try dsimp only at hSw); go_simp; try (with_reducible rfl))⟩) hZ1.out ?_
            try simp only [Act.put, List.setIfInBounds_toArray, List.set_cons_zero, List.set_cons_succ]
            refine LastZ.takeW 10 (v := _) (by simp only [List.getElem?_toArray, List.getElem?_cons_succ, List.getElem?_cons_zero]; rfl) (by kernel_rfl) (by kernel_rfl) (by kernel_rfl) (by decide) (by exact fun _ _ _ h => h) (Or.inl ⟨by rfl, by (intro w hSw; (try dsimp only at hSw); go_simp; try (with_reducible rfl))⟩) hZ1.out ?_
            try simp only [Act.put, List.setIfInBounds_toArray, List.set_cons_zero, List.set_cons_succ]
            refine LastZ.take 14 (v := _) (by simp only [List.getElem?_toArray, List.getElem?_cons_succ, List.getElem?_cons_zero]; rfl) (by kernel_rfl) (by kernel_rfl) (by kernel_rfl) (by decide) (by kernel_rfl) (by exact fun _ _ _ h => h) (Or.inl ⟨by rfl, by (intro w hSw; (try dsimp only at hSw); go_simp; try (with_reducible rfl))⟩) hZ1.out ?_
            try simp only [Act.put, List.setIfInBounds_toArray, List.set_cons_zero, List.set_cons_succ]
            refine LastZ.last (by kernel_rfl) (by simp only [List.getElem?_toArray, List.getElem?_cons_succ, List.getElem?_cons_zero]; rfl) (by decide) (fun K hK => ?_)
            ((refine step_store_at1 rfl 5 (.tmp 33) (.tmp 28) rfl w.heap.size TT (1 + i * 8 + c) (tT d (tabN d i c)) (fN (invN x)) (by rfl) (by rfl) HGd.out HSZ.out Try.sizeB rfl ?_); intro W6 HG6 HB6)
            refine hK.out _ _ ?_
            clear hK K
            try simp only [Act.put, List.setIfInBounds_toArray, List.set_cons_zero, List.set_cons_succ]
            refine LastZ.done (by kernel_rfl) ?_ _
            skip
            go_wp2_with fail
            have HB6' : Hid (But (fun k => k = w.heap.size) wr W6) := ⟨HB6.out.os, HB6.out.tape, HB6.out.output, HB6.out.size, HB6.out.block⟩
            rw [HST.out] at HG6
            go_roundw
            case rel => exact ⟨c + 1, by omega, by go_num, HB6'.out.below HB.out HB.out.size (fun q hq => by subst hq; exact Nat.le_refl _), HG6⟩
            case measure => simp [intOf]; omega
        · obtain rfl : c = d := by omega
          have HN := Lib.hid (tabN_next (d := c) (i := i) H8.out)
          rw [HN.out] at HG
          go_wp2_with fail
          go_roundw
          case rel => exact ⟨i + 1, by omega, by go_num, HB, HG⟩
          case measure => simp [intOf]; omega
    · obtain rfl : i = 16 := by omega
      go_wp2_with fail
      go_ret
      exact ⟨rfl, HG.out, HB.out⟩
end Go.Proofs.Ytpbeaghghlfiaaa
