/- Rules, cuttings and vaults that are valid. validVault. -/
import Derived.Test.YtkeicjokekmkpaaGreatMb
namespace Go.Proofs.YtkeicjokekmkpaaGreat
open Go.RowKit Mb
set_option linter.unusedVariables false
set_option linter.unusedSimpArgs false

theorem all_false {xs : List Int} {p : Int → Bool} {k : Nat} {x : Int} (h : xs[k]? = some x) (hp : p x = false) : xs.all p = false := by
  rw [List.all_eq_false]
  exact ⟨x, List.mem_of_getElem? h, by simp [hp]⟩
def inN (n : Int) : Bool := decide (0 ≤ n) && decide (n ≤ 1000)
def rulesB (a b c d : Int) : Bool := inN a && (inN b && (inN c && inN d))
abbrev fR (a b c d : Int) : Value := .agg #[.int .i64 a, .int .i64 b, .int .i64 c, .int .i64 d]
theorem inN_neg {d : Int} (h : d < 0) : inN d = false := by unfold inN; simp; omega
theorem inN_big {d : Int} (h : 1000 < d) : inN d = false := by unfold inN; simp; omega
theorem inN_ok {d : Int} (h0 : 0 ≤ d) (h1 : d ≤ 1000) : inN d = true := by unfold inN; simp; omega
theorem inN_of {d : Int} (h : inN d = true) : 0 ≤ d ∧ d ≤ 1000 := by unfold inN at h; simpa using h
theorem rulesB_all (a b c d : Int) : rulesB a b c d = [a, b, c, d].all inN := by simp [rulesB]

set_option maxRecDepth 20000 in
theorem valid_any (a b c d : Int) (w : World) : Calls Tryz.prog 94 #[fR a b c d] w (BoolB (rulesB a b c d) w) := by
  rw [rulesB_all]
  obtain ⟨rb, hrb⟩ : ∃ rb, [a, b, c, d].all inN = rb := ⟨_, rfl⟩
  have HRB := Lib.hid hrb
  rw [hrb]
  clear hrb
  go_enter Tryz.func94, Tryz.ntmps94
  go_wp2
  obtain ⟨W0, hW0⟩ : ∃ W0 : World, W0 = (w.alloc (.cells #[.int .i64 a, .int .i64 b, .int .i64 c, .int .i64 d] 66)).alloc (.cells #[.int .i64 a, .int .i64 b, .int .i64 c, .int .i64 d] 3) := ⟨_, rfl⟩
  have HB0 : Hid (Below w.heap.size w W0) := by show Below _ _ _; rw [hW0]; exact ((Below.refl _ _).alloc (Nat.le_refl _) _).alloc (by simp) _
  have HG0 : Hid (W0.heap[w.heap.size + 1]? = some (.cells #[.int .i64 a, .int .i64 b, .int .i64 c, .int .i64 d] 3 (0, 0))) := by
    show _ = _
    rw [hW0]
    have := heap_alloc_new (w.alloc (.cells #[.int .i64 a, .int .i64 b, .int .i64 c, .int .i64 d] 66)) (.cells #[.int .i64 a, .int .i64 b, .int .i64 c, .int .i64 d] 3)
    simpa using this
  try rw [← hW0]
  clear hW0
  go_loop [15] (fun i => ∃ k : Nat, k ≤ 4 ∧ i = .int .i64 k ∧ Hid (([a, b, c, d].take k).all inN = true)) (fun i => 4 - (intOf i).toNat)
  case atStart => exact ⟨0, Nat.zero_le _, rfl, by show _ = _; simp⟩
  case round =>
    obtain ⟨k, hk, rfl, Hall⟩ := hrel
    by_cases hlt : k < 4
    · obtain ⟨x, hx⟩ : ∃ x, [a, b, c, d][k]? = some x := get_ex (by simpa using hlt)
      have Hx := Lib.hid hx
      have hck : W0.cell? ⟨w.heap.size + 1, k, none⟩ = some (.int .i64 x) := by
        rw [cell_of_row _ _ _ _ _ _ HG0.out]
        have : (#[Value.int .i64 a, .int .i64 b, .int .i64 c, .int .i64 d] : Array Value)[k]? = ([a, b, c, d].map I)[k]? := by simp
        rw [this, List.getElem?_map, hx]
        rfl
      clear hx
      by_cases h0 : x < 0
      · have HF : Hid ([a, b, c, d].all inN = false) := all_false Hx.out (inN_neg h0)
        go_wp2
        go_ret
        exact ⟨ret_bool (by rw [← HRB.out, HF.out]), HB0.out⟩
      · by_cases h2 : 1000 < x
        · have HF : Hid ([a, b, c, d].all inN = false) := all_false Hx.out (inN_big h2)
          go_wp2
          go_ret
          exact ⟨ret_bool (by rw [← HRB.out, HF.out]), HB0.out⟩
        · have HOK : Hid (inN x = true) := inN_ok (by omega) (by omega)
          go_wp2
          go_round
          case rel => exact ⟨k + 1, by omega, by go_num, by show _ = _; rw [take_snoc Hx.out, List.all_append, Hall.out]; simp only [List.all_cons, HOK.out, List.all_nil]; rfl⟩
          case measure => simp [intOf]; omega
    · obtain rfl : k = 4 := by omega
      go_wp2
      go_ret
      exact ⟨ret_bool (by have h1 := Hall.out; rw [List.take_of_length_le (by simp)] at h1; rw [← HRB.out, h1]), HB0.out⟩


def cutB (mn mx wn bt : Int) : Bool := decide (1 ≤ wn) && (decide (wn ≤ 64) && (decide (wn ≤ mn) && (decide (mn ≤ mx) && (decide (mx ≤ 32768) && (decide (0 ≤ bt) && decide (bt ≤ 20))))))
abbrev aC (mn mx wn bt sd : Int) : Value := .agg #[.int .i64 mn, .int .i64 mx, .int .i64 wn, .int .i64 bt, .int .u64 sd]
set_option maxRecDepth 20000 in
set_option maxHeartbeats 2000000 in
theorem cut_any (mn mx wn bt sd : Int) (w : World) : Calls Tryz.prog 93 #[aC mn mx wn bt sd] w (BoolB (cutB mn mx wn bt) w) := by
  have hb0 : Below w.heap.size w (w.alloc (.cells #[.int .i64 mn, .int .i64 mx, .int .i64 wn, .int .i64 bt, .int .u64 sd] 64)) := (Below.refl _ _).alloc (Nat.le_refl _) _
  have HB0 := Lib.hid hb0
  clear hb0
  by_cases q0 : 1 ≤ wn
  · have d0 : decide (1 ≤ wn) = true := decide_eq_true q0
    by_cases q1 : wn ≤ 64
    · have d1 : decide (wn ≤ 64) = true := decide_eq_true q1
      by_cases q2 : wn ≤ mn
      · have d2 : decide (wn ≤ mn) = true := decide_eq_true q2
        by_cases q3 : mn ≤ mx
        · have d3 : decide (mn ≤ mx) = true := decide_eq_true q3
          by_cases q4 : mx ≤ 32768
          · have d4 : decide (mx ≤ 32768) = true := decide_eq_true q4
            by_cases q5 : 0 ≤ bt
            · have d5 : decide (0 ≤ bt) = true := decide_eq_true q5
              by_cases q6 : bt ≤ 20
              · have d6 : decide (bt ≤ 20) = true := decide_eq_true q6
                have HR : Hid (cutB mn mx wn bt = true) := by show _ = _; unfold cutB; simp [q0, q1, q2, q3, q4, q5, q6]
                go_enter Tryz.func93, Tryz.ntmps93
                go_wp2
                go_ret
                exact ⟨ret_bool HR.out.symm, HB0.out⟩
              · have HR : Hid (cutB mn mx wn bt = false) := by show _ = _; unfold cutB; simp [q6]
                have d6 : decide (bt ≤ 20) = false := decide_eq_false q6
                go_enter Tryz.func93, Tryz.ntmps93
                go_wp2
                go_ret
                exact ⟨ret_bool HR.out.symm, HB0.out⟩
            · have HR : Hid (cutB mn mx wn bt = false) := by show _ = _; unfold cutB; simp [q5]
              have d5 : decide (0 ≤ bt) = false := decide_eq_false q5
              go_enter Tryz.func93, Tryz.ntmps93
              go_wp2
              go_ret
              exact ⟨ret_bool HR.out.symm, HB0.out⟩
          · have HR : Hid (cutB mn mx wn bt = false) := by show _ = _; unfold cutB; simp [q4]
            have d4 : decide (mx ≤ 32768) = false := decide_eq_false q4
            go_enter Tryz.func93, Tryz.ntmps93
            go_wp2
            go_ret
            exact ⟨ret_bool HR.out.symm, HB0.out⟩
        · have HR : Hid (cutB mn mx wn bt = false) := by show _ = _; unfold cutB; simp [q3]
          have d3 : decide (mn ≤ mx) = false := decide_eq_false q3
          go_enter Tryz.func93, Tryz.ntmps93
          go_wp2
          go_ret
          exact ⟨ret_bool HR.out.symm, HB0.out⟩
      · have HR : Hid (cutB mn mx wn bt = false) := by show _ = _; unfold cutB; simp [q2]
        have d2 : decide (wn ≤ mn) = false := decide_eq_false q2
        go_enter Tryz.func93, Tryz.ntmps93
        go_wp2
        go_ret
        exact ⟨ret_bool HR.out.symm, HB0.out⟩
    · have HR : Hid (cutB mn mx wn bt = false) := by show _ = _; unfold cutB; simp [q1]
      have d1 : decide (wn ≤ 64) = false := decide_eq_false q1
      go_enter Tryz.func93, Tryz.ntmps93
      go_wp2
      go_ret
      exact ⟨ret_bool HR.out.symm, HB0.out⟩
  · have HR : Hid (cutB mn mx wn bt = false) := by show _ = _; unfold cutB; simp [q0]
    have d0 : decide (1 ≤ wn) = false := decide_eq_false q0
    go_enter Tryz.func93, Tryz.ntmps93
    go_wp2
    go_ret
    exact ⟨ret_bool HR.out.symm, HB0.out⟩
end Go.Proofs.YtkeicjokekmkpaaGreat
namespace Go.Proofs.YtkeicjokekmkpaaGreat
open Go.RowKit Mb
set_option linter.unusedVariables false
set_option linter.unusedSimpArgs false

/-- A vault's value, its writers behind a head. -/
abbrev aV (v : Vlt) (A : Option Addr) (n c : Nat) : Value := .agg #[.int .i64 v.num, .slice A n c, .int .i64 v.data, .int .i64 v.total, .int .i64 v.thr, .string v.print, .int .i64 v.cmin, .int .i64 v.cmax, .int .i64 v.cwin, .int .i64 v.cbits, .int .u64 v.cseed, .int .i64 v.ra, .int .i64 v.rb, .int .i64 v.rc, .int .i64 v.rd]
/-- Its cells. -/
abbrev fVc (v : Vlt) (A : Option Addr) (n c : Nat) : List Value := [.int .i64 v.num, .slice A n c, .int .i64 v.data, .int .i64 v.total, .int .i64 v.thr, .string v.print, .int .i64 v.cmin, .int .i64 v.cmax, .int .i64 v.cwin, .int .i64 v.cbits, .int .u64 v.cseed, .int .i64 v.ra, .int .i64 v.rb, .int .i64 v.rc, .int .i64 v.rd]
abbrev oV (v : Vlt) (A : Option Addr) (n c : Nat) : Obj := .cells #[.int .i64 v.num, .slice A n c, .int .i64 v.data, .int .i64 v.total, .int .i64 v.thr, .string v.print, .int .i64 v.cmin, .int .i64 v.cmax, .int .i64 v.cwin, .int .i64 v.cbits, .int .u64 v.cseed, .int .i64 v.ra, .int .i64 v.rb, .int .i64 v.rc, .int .i64 v.rd] 68 (0, 0)
def okW (ws : List Int) (N : Int) (i : Nat) : Bool := decide (0 ≤ ws.getD i 0) && (decide (ws.getD i 0 < N) && (decide (i = 0) || decide (ws.getD (i - 1) 0 < ws.getD i 0)))
def wsB (ws : List Int) (N : Int) : Bool := (List.range ws.length).all (okW ws N)
def restB (v : Vlt) : Bool := decide (1 ≤ v.data) && (decide (v.data ≤ 8) && (decide (v.data ≤ v.total) && (decide (v.total ≤ 16) && (decide (1 ≤ v.thr) && (decide (v.print.size = 32) && (cutB v.cmin v.cmax v.cwin v.cbits && (decide (v.cseed = 0) && rulesB v.ra v.rb v.rc v.rd)))))))
def vltB (v : Vlt) (k N : Int) : Bool := decide (v.num = k) && (decide (1 ≤ v.ws.length) && (decide (v.ws.length ≤ 3) && (wsB v.ws N && restB v)))
theorem wsB_no {ws : List Int} {N : Int} {i : Nat} (hi : i < ws.length) (h : okW ws N i = false) : wsB ws N = false := by
  unfold wsB
  rw [List.all_eq_false]
  exact ⟨i, List.mem_range.2 hi, by simp [h]⟩
theorem range_all_succ (f : Nat → Bool) (k : Nat) : (List.range (k + 1)).all f = ((List.range k).all f && f k) := by
  rw [List.range_succ, List.all_append]; simp

set_option maxRecDepth 20000 in
set_option maxHeartbeats 4000000 in
theorem vvault_any (v : Vlt) (HA : Option Addr) (HN HC : Nat) (k N : Int) (w : World) (hw : Sl I w w.heap.size HA HN v.ws) (hp : v.print.size ≤ 9223372036854775807) (hl : HN ≤ 9223372036854775807) : Calls Tryz.prog 67 #[aV v HA HN HC, .int .i64 k, .int .i64 N] w (BoolB (vltB v k N) w) := by
  have hb0 : Below w.heap.size w (w.alloc (oV v HA HN HC)) := (Below.refl _ _).alloc (Nat.le_refl _) _
  have HB0 := Lib.hid hb0
  have HW0 : Hid (Sl I (w.alloc (oV v HA HN HC)) w.heap.size HA HN v.ws) := hw.up hb0 (Nat.le_refl _)
  have HLEN : Hid (v.ws.length = HN) := hw.1
  have hln := hw.1
  clear hb0 hw
  by_cases q1 : v.num = k
  · have d1 : (v.num != k) = false := by simp [q1]
    by_cases q2 : 1 ≤ HN
    · have d2 : ¬ (HN : Int) < 1 := by omega
      have d2b : decide ((HN : Int) < 1) = false := by simp; omega
      by_cases q3 : HN ≤ 3
      · have d3 : ¬ 3 < (HN : Int) := by omega
        have d3b : decide (3 < (HN : Int)) = false := by simp; omega
        have HM : Hid (vltB v k N = (wsB v.ws N && restB v)) := by show _ = _; unfold vltB; rw [hln]; simp [q1, q2, q3]
        clear q1 hln
        go_enter Tryz.func67, Tryz.ntmps67
        go_wp2
        go_loop [28] (fun i => ∃ j : Nat, j ≤ HN ∧ i = .int .i64 j ∧ Hid ((List.range j).all (okW v.ws N) = true)) (fun i => HN - (intOf i).toNat)
        case atStart => exact ⟨0, Nat.zero_le _, rfl, by show _ = _; rfl⟩
        case round =>
          obtain ⟨j, hj, rfl, HJ⟩ := hrel
          by_cases hlt : j < HN
          · obtain ⟨b, off, x, rfl, _, hxk, hcx⟩ := HW0.out.2.at_ (k := j) (by rw [HLEN.out]; exact hlt)
            have hgx : v.ws.getD j 0 = x := getD_of hxk
            by_cases a1 : 0 ≤ x
            · have b1 : ¬ x < 0 := by omega
              have b1b : decide (x < 0) = false := by simp; omega
              by_cases a2 : x < N
              · have b2 : ¬ N ≤ x := by omega
                have b2b : decide (N ≤ x) = false := by simp; omega
                rcases Nat.eq_zero_or_pos j with h0 | h0
                · subst h0
                  have HO : Hid ((List.range 1).all (okW v.ws N) = true) := by show _ = _; simp [okW, hxk, a1, a2]
                  rw [Nat.add_zero] at hcx
                  clear hxk hgx
                  go_wp2
                  go_round
                  case rel => exact ⟨1, by omega, by go_num, HO⟩
                  case measure => simp [intOf]; omega
                · obtain ⟨p, rfl⟩ : ∃ p, j = p + 1 := ⟨j - 1, by omega⟩
                  obtain ⟨b', off', z, hA', _, hzk, hcz⟩ := HW0.out.2.at_ (k := p) (by rw [HLEN.out]; omega)
                  have hA'' : b' = b ∧ off' = off := by simpa [eq_comm] using hA'
                  obtain ⟨rfl, rfl⟩ := hA''
                  have hgz : v.ws.getD p 0 = z := getD_of hzk
                  have hp0 : (0 : Int) ≤ (p : Int) := by omega
                  have hp1 : (p : Int) < (HN : Int) := by omega
                  have hw1 : IntKind.i64.wrap ((p : Int) + 1 - 1) = (p : Int) := by rw [show ((p : Int) + 1 - 1) = (p : Int) from by omega]; exact IntWalk.i64_in _ (by omega)
                  have hp2 : decide (0 < (p : Int) + 1) = true := by simp <;> omega
                  by_cases a3 : z < x
                  · have b3 : ¬ x ≤ z := by omega
                    have b3b : decide (x ≤ z) = false := by simp; omega
                    have HO : Hid ((List.range (p + 1 + 1)).all (okW v.ws N) = true) := by
                      show _ = _
                      rw [range_all_succ, HJ.out]
                      simp [okW, hxk, hzk, a1, a2, a3]
                    clear hxk hgx hzk hgz hA'
                    go_wp2
                    go_round
                    case rel => exact ⟨p + 1 + 1, by omega, by go_num, HO⟩
                    case measure => simp [intOf]; omega
                  · have b3 : x ≤ z := by omega
                    have HR : Hid (vltB v k N = false) := by
                      show _ = _
                      rw [HM.out, wsB_no (i := p + 1) (by rw [HLEN.out]; exact hlt) (by simp [okW, hxk, hzk, a3])]
                      rfl
                    clear hxk hgx hzk hgz hA'
                    go_wp2
                    go_ret
                    exact ⟨ret_bool HR.out.symm, HB0.out⟩
              · have b2 : N ≤ x := by omega
                have HR : Hid (vltB v k N = false) := by
                  show _ = _
                  rw [HM.out, wsB_no (i := j) (by rw [HLEN.out]; exact hlt) (by simp [okW, hxk, a2])]
                  rfl
                clear hxk hgx
                go_wp2
                go_ret
                exact ⟨ret_bool HR.out.symm, HB0.out⟩
            · have b1 : x < 0 := by omega
              have HR : Hid (vltB v k N = false) := by
                show _ = _
                rw [HM.out, wsB_no (i := j) (by rw [HLEN.out]; exact hlt) (by simp [okW, hxk, a1])]
                rfl
              clear hxk hgx
              go_wp2
              go_ret
              exact ⟨ret_bool HR.out.symm, HB0.out⟩
          · obtain rfl : HN = j := by omega
            have HM2 : Hid (vltB v k N = restB v) := by
              show _ = _
              rw [HM.out]
              unfold wsB
              rw [HLEN.out, HJ.out]
              rfl
            clear HM
            by_cases r0 : 1 ≤ v.data
            · have e0 : ¬ v.data < 1 := by omega
              have e0b : decide (v.data < 1) = false := by simp; omega
              by_cases r1 : v.data ≤ 8
              · have e1 : ¬ 8 < v.data := by omega
                have e1b : decide (8 < v.data) = false := by simp; omega
                by_cases r2 : v.data ≤ v.total
                · have e2 : ¬ v.total < v.data := by omega
                  have e2b : decide (v.total < v.data) = false := by simp; omega
                  by_cases r3 : v.total ≤ 16
                  · have e3 : ¬ 16 < v.total := by omega
                    have e3b : decide (16 < v.total) = false := by simp; omega
                    by_cases r4 : 1 ≤ v.thr
                    · have e4 : ¬ v.thr < 1 := by omega
                      have e4b : decide (v.thr < 1) = false := by simp; omega
                      have HM3 : Hid (vltB v k N = (decide (v.print.size = 32) && (cutB v.cmin v.cmax v.cwin v.cbits && (decide (v.cseed = 0) && rulesB v.ra v.rb v.rc v.rd)))) := by show _ = _; rw [HM2.out]; unfold restB; simp [r0, r1, r2, r3, r4]
                      clear HM2
                      by_cases s1 : v.print.size = 32
                      · have f1 : ((v.print.size : Int) == 32) = true := by simp; omega
                        have HC1 : Hid (∀ W, Calls Tryz.prog 93 #[aC v.cmin v.cmax v.cwin v.cbits v.cseed] W (BoolB (cutB v.cmin v.cmax v.cwin v.cbits) W)) := fun W => cut_any _ _ _ _ _ W
                        have HR1 : Hid (∀ W, Calls Tryz.prog 94 #[fR v.ra v.rb v.rc v.rd] W (BoolB (rulesB v.ra v.rb v.rc v.rd) W)) := fun W => valid_any _ _ _ _ W
                        obtain ⟨cb, hcb⟩ : ∃ z, cutB v.cmin v.cmax v.cwin v.cbits = z := ⟨_, rfl⟩
                        obtain ⟨rb, hrb⟩ : ∃ z, rulesB v.ra v.rb v.rc v.rd = z := ⟨_, rfl⟩
                        rw [hcb] at HC1 HM3
                        rw [hrb] at HR1 HM3
                        clear hcb hrb
                        go_wp2_with fail
                        refine (HC1.out _).mono ?_
                        rintro e w1 ⟨rfl, hb⟩
                        have HB1 : Hid (Below w.heap.size w w1) := HB0.out.trans (hb.mono (by simp))
                        have HG1 : Hid (w1.heap[w.heap.size]? = some (oV v HA HN HC)) := (hb.block _ (by simp)).trans (heap_alloc_new w _)
                        clear hb
                        have k10 := cell_of_row w1 w.heap.size 10 _ _ _ HG1.out
                        have k11 := cell_of_row w1 w.heap.size 11 _ _ _ HG1.out
                        have k12 := cell_of_row w1 w.heap.size 12 _ _ _ HG1.out
                        have k13 := cell_of_row w1 w.heap.size 13 _ _ _ HG1.out
                        have k14 := cell_of_row w1 w.heap.size 14 _ _ _ HG1.out
                        simp at k10 k11 k12 k13 k14
                        cases cb
                        · have HR : Hid (vltB v k N = false) := by show _ = _; rw [HM3.out]; simp
                          go_wp2
                          go_ret
                          exact ⟨ret_bool HR.out.symm, HB1.out⟩
                        · by_cases s2 : v.cseed = 0
                          · have f2 : (v.cseed == 0) = true := by simp [s2]
                            have HR : Hid (vltB v k N = rb) := by show _ = _; rw [HM3.out, decide_eq_true s1, decide_eq_true s2]; rfl
                            clear s1 s2
                            go_wp2_with fail
                            refine (HR1.out _).mono ?_
                            rintro e w2 ⟨rfl, hb⟩
                            have HB2 : Hid (Below w.heap.size w w2) := HB1.out.trans (hb.mono HB1.out.size)
                            clear hb
                            go_wp2
                            go_ret
                            exact ⟨ret_bool HR.out.symm, HB2.out⟩
                          · have f2 : (v.cseed == 0) = false := by simp [s2]
                            have HR : Hid (vltB v k N = false) := by show _ = _; rw [HM3.out, decide_eq_false s2]; simp
                            clear s1 s2
                            go_wp2
                            go_ret
                            exact ⟨ret_bool HR.out.symm, HB1.out⟩
                      · have f1 : ((v.print.size : Int) == 32) = false := by simp; omega
                        have HR : Hid (vltB v k N = false) := by show _ = _; rw [HM3.out, decide_eq_false s1]; rfl
                        clear s1
                        go_wp2
                        go_ret
                        exact ⟨ret_bool HR.out.symm, HB0.out⟩
                    · have e4 : v.thr < 1 := by omega
                      have HR : Hid (vltB v k N = false) := by show _ = _; rw [HM2.out]; unfold restB; simp [r4]
                      go_wp2
                      go_ret
                      exact ⟨ret_bool HR.out.symm, HB0.out⟩
                  · have e3 : 16 < v.total := by omega
                    have HR : Hid (vltB v k N = false) := by show _ = _; rw [HM2.out]; unfold restB; simp [r3]
                    go_wp2
                    go_ret
                    exact ⟨ret_bool HR.out.symm, HB0.out⟩
                · have e2 : v.total < v.data := by omega
                  have HR : Hid (vltB v k N = false) := by show _ = _; rw [HM2.out]; unfold restB; simp [r2]
                  go_wp2
                  go_ret
                  exact ⟨ret_bool HR.out.symm, HB0.out⟩
              · have e1 : 8 < v.data := by omega
                have HR : Hid (vltB v k N = false) := by show _ = _; rw [HM2.out]; unfold restB; simp [r1]
                go_wp2
                go_ret
                exact ⟨ret_bool HR.out.symm, HB0.out⟩
            · have e0 : v.data < 1 := by omega
              have HR : Hid (vltB v k N = false) := by show _ = _; rw [HM2.out]; unfold restB; simp [r0]
              go_wp2
              go_ret
              exact ⟨ret_bool HR.out.symm, HB0.out⟩
      · have d3 : 3 < (HN : Int) := by omega
        have HR : Hid (vltB v k N = false) := by show _ = _; unfold vltB; rw [hln]; simp [q3]
        clear q1 hln
        go_enter Tryz.func67, Tryz.ntmps67
        go_wp2
        go_ret
        exact ⟨ret_bool HR.out.symm, HB0.out⟩
    · have d2 : (HN : Int) < 1 := by omega
      have HR : Hid (vltB v k N = false) := by show _ = _; unfold vltB; rw [hln]; simp [q2]
      clear q1 hln
      go_enter Tryz.func67, Tryz.ntmps67
      go_wp2
      go_ret
      exact ⟨ret_bool HR.out.symm, HB0.out⟩
  · have d1 : (v.num != k) = true := by simp [q1]
    have HR : Hid (vltB v k N = false) := by show _ = _; unfold vltB; simp [q1]
    clear q1 hln
    go_enter Tryz.func67, Tryz.ntmps67
    go_wp2
    go_ret
    exact ⟨ret_bool HR.out.symm, HB0.out⟩
end Go.Proofs.YtkeicjokekmkpaaGreat
