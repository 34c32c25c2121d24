/- Leaves: chunker.Valid, validMember, taken. -/
import Derived.Test.YtkeicjokekmkpaaWn
import Derived.Test.YtkeicjokekmkpaaSt
import Derived.Test.YtkeicjokekmkpaaProg
import Derived.Test.YtkeicjokekmkpaaChecked
namespace Go.Proofs.Ytkeicjokekmkpaa
open Go.RowKit Mb
set_option linter.unusedVariables false
set_option linter.unusedSimpArgs false

def BoolB (v : Bool) (w : World) (e : Ending) (w' : World) : Prop := e = .returned (.bool v) ∧ Below w.heap.size w w'
/-- A member's cells. -/
def fM (m : Mem) : List Value := [.int .i64 m.dev, .string m.name, .string m.pub, .int .i64 m.quota, .bool m.exp]
theorem fM_len : ∀ m, (fM m).length = 5 := fun _ => rfl
theorem fM_one : ∀ m, ∀ u ∈ fM m, u.oneCell' = true := fun m u hu => by
  simp only [fM, List.mem_cons, List.not_mem_nil, or_false] at hu
  rcases hu with rfl | rfl | rfl | rfl | rfl <;> rfl
abbrev aM (m : Mem) : Value := .agg #[.int .i64 m.dev, .string m.name, .string m.pub, .int .i64 m.quota, .bool m.exp]

theorem name_snoc (s : ByteArray) (k : Nat) (h : k < s.size) : s.data.toList.take (k + 1) = s.data.toList.take k ++ [s[k]] := by
  rw [List.take_succ_eq_append_getElem (by simpa using h)]; rfl
set_option maxRecDepth 20000 in
set_option maxHeartbeats 2000000 in
theorem vmem_any (m : Mem) (d : Int) (w : World) (hs : m.name.size ≤ 9223372036854775807) (hp : m.pub.size ≤ 9223372036854775807) : Calls Try.prog 21 #[aM m, .int .i64 d] w (BoolB (memB m d) w) := by
  have hb0 : Below w.heap.size w (w.alloc (.cells #[.int .i64 m.dev, .string m.name, .string m.pub, .int .i64 m.quota, .bool m.exp] 44)) := (Below.refl _ _).alloc (Nat.le_refl _) _
  have HB0 := Lib.hid hb0
  clear hb0
  by_cases h1 : m.dev = d
  · have d1 : (m.dev != d) = false := by simp [h1]
    by_cases h2 : 1 ≤ m.name.size
    · have d2' : ¬ (m.name.size : Int) < 1 := by omega
      have d2'' : decide ((m.name.size : Int) < 1) = false := by simp; omega
      by_cases h3 : m.name.size ≤ 16
      · have d3' : ¬ (16 : Int) < m.name.size := by omega
        have d3'' : decide ((16 : Int) < m.name.size) = false := by simp; omega
        have HM : Hid (memB m d = (m.name.data.toList.all letB && (decide (m.pub.size = 32) && (decide (0 ≤ m.quota) && (decide (m.quota ≤ 1099511627776) && !m.exp))))) := by
          show _ = _
          unfold memB nameB
          simp [h1, h2, h3]
        clear h1
        go_enter Try.func21, Try.ntmps21
        go_wp2
        go_loop [25] (fun i => ∃ k : Nat, k ≤ m.name.size ∧ i = .int .i64 k ∧ Hid ((m.name.data.toList.take k).all letB = true)) (fun i => m.name.size - (intOf i).toNat)
        case atStart => exact ⟨0, Nat.zero_le _, rfl, by show _ = _; simp⟩
        case round =>
          obtain ⟨k, hk, rfl, HL⟩ := hrel
          by_cases hlt : k < m.name.size
          · by_cases hc : letB m.name[k] = true
            · have hcc : 97 ≤ m.name[k].toNat ∧ m.name[k].toNat ≤ 122 := by simpa [letB] using hc
              obtain ⟨c1, c2⟩ := hcc
              have HN : Hid ((m.name.data.toList.take (k + 1)).all letB = true) := by show _ = _; rw [name_snoc m.name k hlt, List.all_append, HL.out]; simp [hc]
              have e1 : ¬ (m.name[k].toNat : Int) < 97 := by omega
              have e2 : ¬ (122 : Int) < (m.name[k].toNat : Int) := by omega
              clear hc
              go_wp2
              go_round
              case rel => exact ⟨k + 1, by omega, by go_num, HN⟩
              case measure => simp [intOf]; omega
            · have hcc : m.name[k].toNat < 97 ∨ 122 < m.name[k].toNat := by
                have : ¬ (97 ≤ m.name[k].toNat ∧ m.name[k].toNat ≤ 122) := by simpa [letB] using hc
                omega
              have HF : Hid (memB m d = false) := by
                show _ = _
                rw [HM.out]
                have : m.name.data.toList.all letB = false := by
                  rw [List.all_eq_false]
                  exact ⟨m.name[k], by simp [ByteArray.getElem_eq_getElem_data], by simpa using hc⟩
                rw [this]; rfl
              clear hc
              rcases hcc with c1 | c1
              · have e1 : (m.name[k].toNat : Int) < 97 := by omega
                go_wp2
                go_ret
                exact ⟨ret_bool HF.out.symm, HB0.out⟩
              · have e1 : ¬ (m.name[k].toNat : Int) < 97 := by omega
                have e2 : (122 : Int) < (m.name[k].toNat : Int) := by omega
                go_wp2
                go_ret
                exact ⟨ret_bool HF.out.symm, HB0.out⟩
          · obtain rfl : k = m.name.size := by omega
            have HM2 : Hid (memB m d = (decide (m.pub.size = 32) && (decide (0 ≤ m.quota) && (decide (m.quota ≤ 1099511627776) && !m.exp)))) := by
              show _ = _
              rw [HM.out]
              have h5 := HL.out
              rw [List.take_of_length_le (by simp)] at h5
              rw [h5, Bool.true_and]
            clear HM
            by_cases q1 : m.pub.size = 32
            · have f1 : ((m.pub.size : Int) == 32) = true := by simp; omega
              by_cases q2 : 0 ≤ m.quota
              · have f2 : decide (0 ≤ m.quota) = true := decide_eq_true q2
                by_cases q3 : m.quota ≤ 1099511627776
                · have f3 : decide (m.quota ≤ 1099511627776) = true := decide_eq_true q3
                  have HR : Hid (memB m d = !m.exp) := by show _ = _; rw [HM2.out, decide_eq_true q1, f2, f3]; rfl
                  go_wp2
                  go_ret
                  exact ⟨ret_bool HR.out.symm, HB0.out⟩
                · have f3 : decide (m.quota ≤ 1099511627776) = false := decide_eq_false q3
                  have HR : Hid (memB m d = false) := by show _ = _; rw [HM2.out, decide_eq_true q1, f2, f3]; rfl
                  go_wp2
                  go_ret
                  exact ⟨ret_bool HR.out.symm, HB0.out⟩
              · have f2 : decide (0 ≤ m.quota) = false := decide_eq_false q2
                have HR : Hid (memB m d = false) := by show _ = _; rw [HM2.out, decide_eq_true q1, f2]; rfl
                go_wp2
                go_ret
                exact ⟨ret_bool HR.out.symm, HB0.out⟩
            · have f1 : ((m.pub.size : Int) == 32) = false := by simp; omega
              have HR : Hid (memB m d = false) := by show _ = _; rw [HM2.out, decide_eq_false q1]; rfl
              go_wp2
              go_ret
              exact ⟨ret_bool HR.out.symm, HB0.out⟩
      · have d3' : (16 : Int) < m.name.size := by omega
        have HM : Hid (memB m d = false) := by show _ = _; unfold memB nameB; simp [h3]
        clear h1
        go_enter Try.func21, Try.ntmps21
        go_wp2
        go_ret
        exact ⟨ret_bool HM.out.symm, HB0.out⟩
    · have d2' : (m.name.size : Int) < 1 := by omega
      have HM : Hid (memB m d = false) := by show _ = _; unfold memB nameB; simp [h2]
      clear h1
      go_enter Try.func21, Try.ntmps21
      go_wp2
      go_ret
      exact ⟨ret_bool HM.out.symm, HB0.out⟩
  · have HM : Hid (memB m d = false) := by show _ = _; unfold memB; simp [h1]
    have d1 : (m.dev != d) = true := by simp [h1]
    clear h1
    go_enter Try.func21, Try.ntmps21
    go_wp2
    go_ret
    exact ⟨ret_bool HM.out.symm, HB0.out⟩
end Go.Proofs.Ytkeicjokekmkpaa
