/- The reference: what is valid. -/
import Derived.Test.YtkeicjokekmkpaaGreatMc
namespace Go.Proofs.YtkeicjokekmkpaaGreat
open Go.RowKit Mb
set_option linter.unusedVariables false
set_option linter.unusedSimpArgs false

theorem mfive_of {w : World} {g : Nat} {x : Mem} (h : w.heap[g]? = some (cM x)) : w.cell? ⟨g, 0, none⟩ = some (.int .i64 x.dev) ∧ w.cell? ⟨g, 1, none⟩ = some (.string x.name) ∧ w.cell? ⟨g, 2, none⟩ = some (.string x.pub) ∧ w.cell? ⟨g, 3, none⟩ = some (.int .i64 x.quota) ∧ w.cell? ⟨g, 4, none⟩ = some (.bool x.exp) := by
  refine ⟨?_, ?_, ?_, ?_, ?_⟩ <;> (rw [cell_of_row w g _ _ _ _ h]; rfl)
set_option maxRecDepth 20000 in
set_option maxHeartbeats 2000000 in
theorem rcut_any (mn mx wn bt sd : Int) (w : World) : Calls Tryz.prog 72 #[aC mn mx wn bt sd] w (BoolB (cutB mn mx wn bt) w) := by
  have hb0 : Below w.heap.size w (w.alloc (.cells #[.int .i64 mn, .int .i64 mx, .int .i64 wn, .int .i64 bt, .int .u64 sd] 64)) := (Below.refl _ _).alloc (Nat.le_refl _) _
  have HB0 := Lib.hid hb0
  clear hb0
  by_cases q0 : 1 ≤ wn
  · have d0 : decide (1 ≤ wn) = true := decide_eq_true q0
    by_cases q1 : wn ≤ 64
    · have d1 : decide (wn ≤ 64) = true := decide_eq_true q1
      by_cases q2 : wn ≤ mn
      · have d2 : decide (wn ≤ mn) = true := decide_eq_true q2
        by_cases q3 : mn ≤ mx
        · have d3 : decide (mn ≤ mx) = true := decide_eq_true q3
          by_cases q4 : mx ≤ 32768
          · have d4 : decide (mx ≤ 32768) = true := decide_eq_true q4
            by_cases q5 : 0 ≤ bt
            · have d5 : decide (0 ≤ bt) = true := decide_eq_true q5
              by_cases q6 : bt ≤ 20
              · have d6 : decide (bt ≤ 20) = true := decide_eq_true q6
                have HR : Hid (cutB mn mx wn bt = true) := by show _ = _; unfold cutB; simp [q0, q1, q2, q3, q4, q5, q6]
                go_enter Tryz.func72, Tryz.ntmps72
                go_wp2
                go_ret
                exact ⟨ret_bool HR.out.symm, HB0.out⟩
              · have HR : Hid (cutB mn mx wn bt = false) := by show _ = _; unfold cutB; simp [q6]
                have d6 : decide (bt ≤ 20) = false := decide_eq_false q6
                go_enter Tryz.func72, Tryz.ntmps72
                go_wp2
                go_ret
                exact ⟨ret_bool HR.out.symm, HB0.out⟩
            · have HR : Hid (cutB mn mx wn bt = false) := by show _ = _; unfold cutB; simp [q5]
              have d5 : decide (0 ≤ bt) = false := decide_eq_false q5
              go_enter Tryz.func72, Tryz.ntmps72
              go_wp2
              go_ret
              exact ⟨ret_bool HR.out.symm, HB0.out⟩
          · have HR : Hid (cutB mn mx wn bt = false) := by show _ = _; unfold cutB; simp [q4]
            have d4 : decide (mx ≤ 32768) = false := decide_eq_false q4
            go_enter Tryz.func72, Tryz.ntmps72
            go_wp2
            go_ret
            exact ⟨ret_bool HR.out.symm, HB0.out⟩
        · have HR : Hid (cutB mn mx wn bt = false) := by show _ = _; unfold cutB; simp [q3]
          have d3 : decide (mn ≤ mx) = false := decide_eq_false q3
          go_enter Tryz.func72, Tryz.ntmps72
          go_wp2
          go_ret
          exact ⟨ret_bool HR.out.symm, HB0.out⟩
      · have HR : Hid (cutB mn mx wn bt = false) := by show _ = _; unfold cutB; simp [q2]
        have d2 : decide (wn ≤ mn) = false := decide_eq_false q2
        go_enter Tryz.func72, Tryz.ntmps72
        go_wp2
        go_ret
        exact ⟨ret_bool HR.out.symm, HB0.out⟩
    · have HR : Hid (cutB mn mx wn bt = false) := by show _ = _; unfold cutB; simp [q1]
      have d1 : decide (wn ≤ 64) = false := decide_eq_false q1
      go_enter Tryz.func72, Tryz.ntmps72
      go_wp2
      go_ret
      exact ⟨ret_bool HR.out.symm, HB0.out⟩
  · have HR : Hid (cutB mn mx wn bt = false) := by show _ = _; unfold cutB; simp [q0]
    have d0 : decide (1 ≤ wn) = false := decide_eq_false q0
    go_enter Tryz.func72, Tryz.ntmps72
    go_wp2
    go_ret
    exact ⟨ret_bool HR.out.symm, HB0.out⟩
set_option maxRecDepth 20000 in
set_option maxHeartbeats 2000000 in
theorem rrul_any (a b c d : Int) (w : World) : Calls Tryz.prog 73 #[fR a b c d] w (BoolB (rulesB a b c d) w) := by
  have hb0 : Below w.heap.size w (w.alloc (.cells #[.int .i64 a, .int .i64 b, .int .i64 c, .int .i64 d] 66)) := (Below.refl _ _).alloc (Nat.le_refl _) _
  have HB0 := Lib.hid hb0
  clear hb0
  by_cases q0 : 0 ≤ a
  · have d0 : decide (0 ≤ a) = true := decide_eq_true q0
    by_cases q1 : a ≤ 1000
    · have d1 : decide (a ≤ 1000) = true := decide_eq_true q1
      by_cases q2 : 0 ≤ b
      · have d2 : decide (0 ≤ b) = true := decide_eq_true q2
        by_cases q3 : b ≤ 1000
        · have d3 : decide (b ≤ 1000) = true := decide_eq_true q3
          by_cases q4 : 0 ≤ c
          · have d4 : decide (0 ≤ c) = true := decide_eq_true q4
            by_cases q5 : c ≤ 1000
            · have d5 : decide (c ≤ 1000) = true := decide_eq_true q5
              by_cases q6 : 0 ≤ d
              · have d6 : decide (0 ≤ d) = true := decide_eq_true q6
                by_cases q7 : d ≤ 1000
                · have d7 : decide (d ≤ 1000) = true := decide_eq_true q7
                  have HR : Hid (rulesB a b c d = true) := by show _ = _; unfold rulesB inN; simp [q0, q1, q2, q3, q4, q5, q6, q7]
                  go_enter Tryz.func73, Tryz.ntmps73
                  go_wp2
                  go_ret
                  exact ⟨ret_bool HR.out.symm, HB0.out⟩
                · have HR : Hid (rulesB a b c d = false) := by show _ = _; unfold rulesB inN; simp [q7]
                  have d7 : decide (d ≤ 1000) = false := decide_eq_false q7
                  go_enter Tryz.func73, Tryz.ntmps73
                  go_wp2
                  go_ret
                  exact ⟨ret_bool HR.out.symm, HB0.out⟩
              · have HR : Hid (rulesB a b c d = false) := by show _ = _; unfold rulesB inN; simp [q6]
                have d6 : decide (0 ≤ d) = false := decide_eq_false q6
                go_enter Tryz.func73, Tryz.ntmps73
                go_wp2
                go_ret
                exact ⟨ret_bool HR.out.symm, HB0.out⟩
            · have HR : Hid (rulesB a b c d = false) := by show _ = _; unfold rulesB inN; simp [q5]
              have d5 : decide (c ≤ 1000) = false := decide_eq_false q5
              go_enter Tryz.func73, Tryz.ntmps73
              go_wp2
              go_ret
              exact ⟨ret_bool HR.out.symm, HB0.out⟩
          · have HR : Hid (rulesB a b c d = false) := by show _ = _; unfold rulesB inN; simp [q4]
            have d4 : decide (0 ≤ c) = false := decide_eq_false q4
            go_enter Tryz.func73, Tryz.ntmps73
            go_wp2
            go_ret
            exact ⟨ret_bool HR.out.symm, HB0.out⟩
        · have HR : Hid (rulesB a b c d = false) := by show _ = _; unfold rulesB inN; simp [q3]
          have d3 : decide (b ≤ 1000) = false := decide_eq_false q3
          go_enter Tryz.func73, Tryz.ntmps73
          go_wp2
          go_ret
          exact ⟨ret_bool HR.out.symm, HB0.out⟩
      · have HR : Hid (rulesB a b c d = false) := by show _ = _; unfold rulesB inN; simp [q2]
        have d2 : decide (0 ≤ b) = false := decide_eq_false q2
        go_enter Tryz.func73, Tryz.ntmps73
        go_wp2
        go_ret
        exact ⟨ret_bool HR.out.symm, HB0.out⟩
    · have HR : Hid (rulesB a b c d = false) := by show _ = _; unfold rulesB inN; simp [q1]
      have d1 : decide (a ≤ 1000) = false := decide_eq_false q1
      go_enter Tryz.func73, Tryz.ntmps73
      go_wp2
      go_ret
      exact ⟨ret_bool HR.out.symm, HB0.out⟩
  · have HR : Hid (rulesB a b c d = false) := by show _ = _; unfold rulesB inN; simp [q0]
    have d0 : decide (0 ≤ a) = false := decide_eq_false q0
    go_enter Tryz.func73, Tryz.ntmps73
    go_wp2
    go_ret
    exact ⟨ret_bool HR.out.symm, HB0.out⟩
set_option maxRecDepth 20000 in
set_option maxHeartbeats 2000000 in
theorem named_any (s : ByteArray) (w : World) (hs : s.size ≤ 9223372036854775807) : Calls Tryz.prog 71 #[.string s] w (BoolB (nameB s) w) := by
  have HB0 : Hid (Below w.heap.size w w) := Below.refl _ _
  go_enter Tryz.func71, Tryz.ntmps71
  go_wp2
  go_loop [3] (fun i => ∃ k : Nat, k ≤ s.size ∧ i = .int .i64 k ∧ Hid ((s.data.toList.take k).all letB = true)) (fun i => s.size - (intOf i).toNat)
  case atStart => exact ⟨0, Nat.zero_le _, rfl, by show _ = _; simp⟩
  case round =>
    obtain ⟨k, hk, rfl, HL⟩ := hrel
    by_cases hlt : k < s.size
    · by_cases hc : letB s[k] = true
      · have hcc : 97 ≤ s[k].toNat ∧ s[k].toNat ≤ 122 := by simpa [letB] using hc
        obtain ⟨c1, c2⟩ := hcc
        have HN : Hid ((s.data.toList.take (k + 1)).all letB = true) := by show _ = _; rw [name_snoc s k hlt, List.all_append, HL.out]; simp [hc]
        have e1 : ¬ (s[k].toNat : Int) < 97 := by omega
        have e2 : ¬ (122 : Int) < (s[k].toNat : Int) := by omega
        clear hc
        go_wp2
        go_round
        case rel => exact ⟨k + 1, by omega, by go_num, HN⟩
        case measure => simp [intOf]; omega
      · have hcc : s[k].toNat < 97 ∨ 122 < s[k].toNat := by
          have : ¬ (97 ≤ s[k].toNat ∧ s[k].toNat ≤ 122) := by simpa [letB] using hc
          omega
        have HF : Hid (nameB s = false) := by
          show _ = _
          have : s.data.toList.all letB = false := by
            rw [List.all_eq_false]
            exact ⟨s[k], by simp [ByteArray.getElem_eq_getElem_data], by simpa using hc⟩
          unfold nameB
          rw [this]; simp
        clear hc
        rcases hcc with c1 | c1
        · have e1 : (s[k].toNat : Int) < 97 := by omega
          go_wp2
          go_ret
          exact ⟨ret_bool HF.out.symm, HB0.out⟩
        · have e1 : ¬ (s[k].toNat : Int) < 97 := by omega
          have e2 : (122 : Int) < (s[k].toNat : Int) := by omega
          go_wp2
          go_ret
          exact ⟨ret_bool HF.out.symm, HB0.out⟩
    · obtain rfl : k = s.size := by omega
      have hA : s.data.toList.all letB = true := by
        have h5 := HL.out
        rw [List.take_of_length_le (by simp)] at h5
        exact h5
      by_cases q1 : 1 ≤ s.size
      · have d1 : decide (1 ≤ (s.size : Int)) = true := by simp; omega
        have HR : Hid (nameB s = decide ((s.size : Int) ≤ 16)) := by show _ = _; unfold nameB; rw [hA]; simp [q1]; omega
        clear hA
        go_wp2
        go_ret
        exact ⟨ret_bool HR.out.symm, HB0.out⟩
      · have d1 : decide (1 ≤ (s.size : Int)) = false := by simp; omega
        have HR : Hid (nameB s = false) := by show _ = _; unfold nameB; simp [q1]
        clear hA
        go_wp2
        go_ret
        exact ⟨ret_bool HR.out.symm, HB0.out⟩
set_option maxRecDepth 20000 in
set_option maxHeartbeats 2000000 in
theorem rmem_any (m : Mem) (d : Int) (w : World) (hs : m.name.size ≤ 9223372036854775807) (hp : m.pub.size ≤ 9223372036854775807) : Calls Tryz.prog 21 #[aM m, .int .i64 d] w (BoolB (memB m d) w) := by
  have hb0 : Below w.heap.size w (w.alloc (.cells #[.int .i64 m.dev, .string m.name, .string m.pub, .int .i64 m.quota, .bool m.exp] 40)) := (Below.refl _ _).alloc (Nat.le_refl _) _
  have HB0 := Lib.hid hb0
  have hc0 := heap_alloc_new w (.cells #[.int .i64 m.dev, .string m.name, .string m.pub, .int .i64 m.quota, .bool m.exp] 40)
  have HC0 := Lib.hid hc0
  obtain ⟨nb, hnb⟩ : ∃ z, nameB m.name = z := ⟨_, rfl⟩
  have HNM : Hid (∀ V, Calls Tryz.prog 71 #[.string m.name] V (BoolB nb V)) := fun V => hnb ▸ named_any m.name V hs
  have HNB := Lib.hid hnb
  clear hb0 hc0 hnb
  by_cases q0 : m.dev = d
  · have d0 : (m.dev == d) = true := by simp [q0]
    have HQ0 := Lib.hid q0
    clear q0
    cases nb
    · have HR : Hid (memB m d = false) := by show _ = _; unfold memB; rw [HNB.out]; simp
      go_enter Tryz.func21, Tryz.ntmps21
      go_wp2_with (go_at_call 71; refine (HNM.out _).mono ?_; rintro e w5 ⟨rfl, hb5⟩; (have HB5 : Hid (Below w.heap.size w w5) := HB0.out.trans (hb5.mono HB0.out.size)); (obtain ⟨x0, x1, x2, x3, x4⟩ := mfive_of ((hb5.block _ (by simp)).trans HC0.out)); clear hb5)
      go_ret
      exact ⟨ret_bool HR.out.symm, HB5.out⟩
    · by_cases q1 : m.pub.size = 32
      · have f1 : ((m.pub.size : Int) == 32) = true := by simp; omega
        by_cases q2 : 0 ≤ m.quota
        · have f2 : decide (0 ≤ m.quota) = true := decide_eq_true q2
          by_cases q3 : m.quota ≤ 1099511627776
          · have f3 : decide (m.quota ≤ 1099511627776) = true := decide_eq_true q3
            have HR : Hid (memB m d = !m.exp) := by show _ = _; unfold memB; rw [HNB.out]; simp [HQ0.out, q1, q2, q3]
            go_enter Tryz.func21, Tryz.ntmps21
            go_wp2_with (go_at_call 71; refine (HNM.out _).mono ?_; rintro e w5 ⟨rfl, hb5⟩; (have HB5 : Hid (Below w.heap.size w w5) := HB0.out.trans (hb5.mono HB0.out.size)); (obtain ⟨x0, x1, x2, x3, x4⟩ := mfive_of ((hb5.block _ (by simp)).trans HC0.out)); clear hb5)
            go_ret
            exact ⟨ret_bool HR.out.symm, HB5.out⟩
          · have f3 : decide (m.quota ≤ 1099511627776) = false := decide_eq_false q3
            have HR : Hid (memB m d = false) := by show _ = _; unfold memB; simp [q3]
            go_enter Tryz.func21, Tryz.ntmps21
            go_wp2_with (go_at_call 71; refine (HNM.out _).mono ?_; rintro e w5 ⟨rfl, hb5⟩; (have HB5 : Hid (Below w.heap.size w w5) := HB0.out.trans (hb5.mono HB0.out.size)); (obtain ⟨x0, x1, x2, x3, x4⟩ := mfive_of ((hb5.block _ (by simp)).trans HC0.out)); clear hb5)
            go_ret
            exact ⟨ret_bool HR.out.symm, HB5.out⟩
        · have f2 : decide (0 ≤ m.quota) = false := decide_eq_false q2
          have HR : Hid (memB m d = false) := by show _ = _; unfold memB; simp [q2]
          go_enter Tryz.func21, Tryz.ntmps21
          go_wp2_with (go_at_call 71; refine (HNM.out _).mono ?_; rintro e w5 ⟨rfl, hb5⟩; (have HB5 : Hid (Below w.heap.size w w5) := HB0.out.trans (hb5.mono HB0.out.size)); (obtain ⟨x0, x1, x2, x3, x4⟩ := mfive_of ((hb5.block _ (by simp)).trans HC0.out)); clear hb5)
          go_ret
          exact ⟨ret_bool HR.out.symm, HB5.out⟩
      · have f1 : ((m.pub.size : Int) == 32) = false := by simp; omega
        have HR : Hid (memB m d = false) := by show _ = _; unfold memB; simp [q1]
        go_enter Tryz.func21, Tryz.ntmps21
        go_wp2_with (go_at_call 71; refine (HNM.out _).mono ?_; rintro e w5 ⟨rfl, hb5⟩; (have HB5 : Hid (Below w.heap.size w w5) := HB0.out.trans (hb5.mono HB0.out.size)); (obtain ⟨x0, x1, x2, x3, x4⟩ := mfive_of ((hb5.block _ (by simp)).trans HC0.out)); clear hb5)
        go_ret
        exact ⟨ret_bool HR.out.symm, HB5.out⟩
  · have d0 : (m.dev == d) = false := by simp [q0]
    have HR : Hid (memB m d = false) := by show _ = _; unfold memB; simp [q0]
    clear q0
    go_enter Tryz.func21, Tryz.ntmps21
    go_wp2_with (go_at_call 71; refine (HNM.out _).mono ?_; rintro e w5 ⟨rfl, hb5⟩; (have HB5 : Hid (Below w.heap.size w w5) := HB0.out.trans (hb5.mono HB0.out.size)); (obtain ⟨x0, x1, x2, x3, x4⟩ := mfive_of ((hb5.block _ (by simp)).trans HC0.out)); clear hb5)
    go_ret
    exact ⟨ret_bool HR.out.symm, HB0.out⟩
end Go.Proofs.YtkeicjokekmkpaaGreat
