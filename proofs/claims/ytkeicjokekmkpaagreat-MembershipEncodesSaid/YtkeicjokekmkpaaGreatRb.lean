/- The reference: taken, Vault. -/
import Derived.Test.YtkeicjokekmkpaaGreatRa
namespace Go.Proofs.YtkeicjokekmkpaaGreat
open Go.RowKit Mb
set_option linter.unusedVariables false
set_option linter.unusedSimpArgs false

theorem below_dR {B : Nat} {a w : World} (h : Below B a w) (n : Nat) : Below B a (w.drewN n) := ⟨h.os, h.tape, h.output, h.size, h.block⟩
set_option maxRecDepth 20000 in
set_option maxHeartbeats 4000000 in
theorem rtaken_any (m : Mem) (A : Option Addr) (n c : Nat) (ms : List Mem) (w : World) (hx : SlN fM 5 w w.heap.size A n ms) (hn : n ≤ 1000000) :
    Calls Tryz.prog 22 #[.slice A n c, aM m] w (BoolB (takenB ms m) w) := by
  obtain ⟨W, hW⟩ : ∃ W : World, W = w.alloc (cM m) := ⟨_, rfl⟩
  have hB : Below w.heap.size w W := by rw [hW]; exact (Below.refl _ _).alloc (Nat.le_refl _) _
  have hG : W.heap[w.heap.size]? = some (cM m) := by rw [hW]; exact heap_alloc_new w _
  have HX := Lib.hid hx
  have HLEN : Hid (ms.length = n) := hx.1
  have HB := Lib.hid hB
  have HG := Lib.hid hG
  have HW := Lib.hid hW
  clear hx hB hG hW
  go_enter Tryz.func22, Tryz.ntmps22
  go_wp2
  rw [← HW.out]
  clear HW
  go_loopw [5] (fun i wr => ∃ k : Nat, k ≤ n ∧ i = .int .i64 k ∧ Hid ((ms.take k).any (likeB m) = false) ∧ Hid (Below w.heap.size w wr) ∧ Hid (wr.heap[w.heap.size]? = some (cM m))) (fun i _ => n - (intOf i).toNat)
  case atStart => exact ⟨0, Nat.zero_le _, rfl, by show _ = _; simp, HB, HG⟩
  case round =>
    obtain ⟨k, hk, rfl, HA, HB0, HG0⟩ := hrel
    clear HB HG
    by_cases hlt : k < n
    · obtain ⟨b, off, x, rfl, hbB, hxk, hcell⟩ := (HX.out.up HB0.out (Nat.le_refl _)).at_ hlt
      obtain ⟨c0, c1, c2, c3, c4⟩ := five hcell
      obtain ⟨x0, x1, x2, x3, x4⟩ := mfive_of HG0.out
      have HXK := Lib.hid hxk
      have HMM := Lib.hid (List.mem_of_getElem? hxk)
      clear hcell hxk
      have HNX : Hid (likeB m x = false → (ms.take (k + 1)).any (likeB m) = false) := fun h => by rw [take_snoc HXK.out, List.any_append, HA.out]; simp [h]
      have HYS : Hid (likeB m x = true → takenB ms m = true) := fun h => by unfold takenB; rw [List.any_eq_true]; exact ⟨x, HMM.out, h⟩
      have hk0 : (0 : Int) ≤ (k : Int) := by omega
      have hk1 : (k : Int) < (n : Int) := by omega
      cases hq : (x.name.toList == m.name.toList)
      · cases hp : (x.pub.toList == m.pub.toList)
        · have HL : Hid (likeB m x = false) := by show _ = _; unfold likeB; rw [hq, hp]; rfl
          go_wp2
          go_quiet (fail)
          go_wp2
          go_roundw
          case rel => exact ⟨k + 1, by omega, by go_num, HNX.out HL.out, by first | exact HB0 | exact below_dR HB0.out _, by first | exact HG0 | exact HG0.out⟩
          case measure => simp [intOf]; omega
        · have HL : Hid (likeB m x = true) := by show _ = _; unfold likeB; rw [hq, hp]; rfl
          go_wp2
          go_quiet (fail)
          go_wp2
          go_ret
          exact ⟨ret_bool (HYS.out HL.out).symm, by first | exact HB0.out | exact below_dR HB0.out _⟩
      · have HL : Hid (likeB m x = true) := by show _ = _; unfold likeB; rw [hq]; rfl
        go_wp2
        go_quiet (fail)
        go_wp2
        go_ret
        exact ⟨ret_bool (HYS.out HL.out).symm, by first | exact HB0.out | exact below_dR HB0.out _⟩
    · obtain rfl : n = k := by omega
      have HF : Hid (takenB ms m = false) := by
        show _ = _
        have h5 := HA.out
        rw [List.take_of_length_le (by have := HLEN.out; omega)] at h5
        exact h5
      go_wp2
      go_ret
      exact ⟨ret_bool HF.out.symm, HB0.out⟩
theorem vfifteen_of {w : World} {b : Nat} {v : Vlt} {A : Option Addr} {n c : Nat} (h : w.heap[b]? = some (oV v A n c)) :
    w.cell? ⟨b, 0, none⟩ = some (.int .i64 v.num) ∧ w.cell? ⟨b, 1, none⟩ = some (.slice A n c) ∧ w.cell? ⟨b, 2, none⟩ = some (.int .i64 v.data) ∧ w.cell? ⟨b, 3, none⟩ = some (.int .i64 v.total) ∧ w.cell? ⟨b, 4, none⟩ = some (.int .i64 v.thr) ∧ w.cell? ⟨b, 5, none⟩ = some (.string v.print) ∧ w.cell? ⟨b, 6, none⟩ = some (.int .i64 v.cmin) ∧ w.cell? ⟨b, 7, none⟩ = some (.int .i64 v.cmax) ∧ w.cell? ⟨b, 8, none⟩ = some (.int .i64 v.cwin) ∧ w.cell? ⟨b, 9, none⟩ = some (.int .i64 v.cbits) ∧ w.cell? ⟨b, 10, none⟩ = some (.int .u64 v.cseed) ∧ w.cell? ⟨b, 11, none⟩ = some (.int .i64 v.ra) ∧ w.cell? ⟨b, 12, none⟩ = some (.int .i64 v.rb) ∧ w.cell? ⟨b, 13, none⟩ = some (.int .i64 v.rc) ∧ w.cell? ⟨b, 14, none⟩ = some (.int .i64 v.rd) := by
  refine ⟨?_, ?_, ?_, ?_, ?_, ?_, ?_, ?_, ?_, ?_, ?_, ?_, ?_, ?_, ?_⟩ <;> (rw [cell_of_row w b _ _ _ _ h]; rfl)
set_option maxRecDepth 20000 in
set_option maxHeartbeats 4000000 in
theorem rvault_any (v : Vlt) (HA : Option Addr) (HN HC : Nat) (k N : Int) (w : World) (hw : Sl I w w.heap.size HA HN v.ws) (hp : v.print.size ≤ 9223372036854775807) (hl : HN ≤ 9223372036854775807) : Calls Tryz.prog 23 #[aV v HA HN HC, .int .i64 k, .int .i64 N] w (BoolB (vltB v k N) w) := by
  obtain ⟨W, hW⟩ : ∃ W : World, W = w.alloc (oV v HA HN HC) := ⟨_, rfl⟩
  have hB : Below w.heap.size w W := by rw [hW]; exact (Below.refl _ _).alloc (Nat.le_refl _) _
  have hG : W.heap[w.heap.size]? = some (oV v HA HN HC) := by rw [hW]; exact heap_alloc_new w _
  have hln := hw.1
  have HX := Lib.hid hw
  have HLEN : Hid (v.ws.length = HN) := hw.1
  have HB := Lib.hid hB
  have HG := Lib.hid hG
  have HW := Lib.hid hW
  clear hw hB hG hW
  by_cases q0 : v.num = k
  · have d0 : (v.num != k) = false := by simp [q0]
    by_cases q1 : 1 ≤ HN
    · have d1 : ¬ (HN : Int) < 1 := by omega
      have d1b : decide ((HN : Int) < 1) = false := by simp; omega
      by_cases q2 : HN ≤ 3
      · have d2 : ¬ 3 < (HN : Int) := by omega
        have d2b : decide (3 < (HN : Int)) = false := by simp; omega
        by_cases q3 : 1 ≤ v.data
        · have d3 : ¬ v.data < 1 := by omega
          have d3b : decide (v.data < 1) = false := by simp; omega
          by_cases q4 : v.data ≤ 8
          · have d4 : ¬ 8 < v.data := by omega
            have d4b : decide (8 < v.data) = false := by simp; omega
            by_cases q5 : v.data ≤ v.total
            · have d5 : ¬ v.total < v.data := by omega
              have d5b : decide (v.total < v.data) = false := by simp; omega
              by_cases q6 : v.total ≤ 16
              · have d6 : ¬ 16 < v.total := by omega
                have d6b : decide (16 < v.total) = false := by simp; omega
                by_cases q7 : 1 ≤ v.thr
                · have d7 : ¬ v.thr < 1 := by omega
                  have d7b : decide (v.thr < 1) = false := by simp; omega
                  have HM : Hid (vltB v k N = (wsB v.ws N && (decide (v.print.size = 32) && (cutB v.cmin v.cmax v.cwin v.cbits && (decide (v.cseed = 0) && rulesB v.ra v.rb v.rc v.rd))))) := by show _ = _; unfold vltB restB; rw [hln]; simp [q0, q1, q2, q3, q4, q5, q6, q7]
                  clear hln q0
                  go_enter Tryz.func23, Tryz.ntmps23
                  go_wp2
                  rw [← HW.out]
                  clear HW
                  go_loopw [7] (fun i wr => ∃ j : Nat, j ≤ HN ∧ i = .int .i64 j ∧ Hid ((List.range j).all (okW v.ws N) = true) ∧ Hid (Below w.heap.size w wr) ∧ Hid (wr.heap[w.heap.size]? = some (oV v HA HN HC))) (fun i _ => HN - (intOf i).toNat)
                  case atStart => exact ⟨0, Nat.zero_le _, rfl, by show _ = _; rfl, HB, HG⟩
                  case round =>
                    obtain ⟨j, hj, rfl, HJ, HB0, HG0⟩ := hrel
                    clear HB HG
                    obtain ⟨y0, y1, y2, y3, y4, y5, y6, y7, y8, y9, y10, y11, y12, y13, y14⟩ := vfifteen_of HG0.out
                    have HXR := Lib.hid (HX.out.up HB0.out (Nat.le_refl _))
                    by_cases hlt : j < HN
                    · obtain ⟨b, off, x, rfl, _, hxk, hcx⟩ := HXR.out.2.at_ (k := j) (by rw [HLEN.out]; exact hlt)
                      have HXK := Lib.hid hxk
                      have hj0 : (0 : Int) ≤ (j : Int) := by omega
                      have hj1 : (j : Int) < (HN : Int) := by omega
                      clear hxk
                      by_cases a1 : 0 ≤ x
                      · have b1 : ¬ x < 0 := by omega
                        have b1b : decide (x < 0) = false := by simp; omega
                        by_cases a2 : x < N
                        · have b2 : ¬ N ≤ x := by omega
                          have b2b : decide (N ≤ x) = false := by simp; omega
                          rcases Nat.eq_zero_or_pos j with h0 | h0
                          · subst h0
                            have HO : Hid ((List.range 1).all (okW v.ws N) = true) := by show _ = _; simp [okW, HXK.out, a1, a2]
                            rw [Nat.add_zero] at hcx
                            go_wp2
                            go_quiet (fail)
                            go_wp2
                            go_roundw
                            case rel => exact ⟨1, by omega, by go_num, HO, below_dR HB0.out _, HG0.out⟩
                            case measure => simp [intOf]; omega
                          · obtain ⟨p, rfl⟩ : ∃ p, j = p + 1 := ⟨j - 1, by omega⟩
                            obtain ⟨b', off', z, hA', _, hzk, hcz⟩ := HXR.out.2.at_ (k := p) (by rw [HLEN.out]; omega)
                            have hA'' : b' = b ∧ off' = off := by simpa [eq_comm] using hA'
                            obtain ⟨rfl, rfl⟩ := hA''
                            have HZK := Lib.hid hzk
                            have hp0 : (0 : Int) ≤ (p : Int) := by omega
                            have hp1 : (p : Int) < (HN : Int) := by omega
                            have hw1 : IntKind.i64.wrap ((p : Int) + 1 - 1) = (p : Int) := by rw [show ((p : Int) + 1 - 1) = (p : Int) from by omega]; exact IntWalk.i64_in _ (by omega)
                            have hw2 : IntKind.i64.wrap (((p + 1 : Nat) : Int) - 1) = (p : Int) := by rw [show (((p + 1 : Nat) : Int) - 1) = (p : Int) from by omega]; exact IntWalk.i64_in _ (by omega)
                            have hp2 : decide (0 < (p : Int) + 1) = true := by simp <;> omega
                            have hp3 : decide (0 < ((p + 1 : Nat) : Int)) = true := by simp <;> omega
                            clear hzk hA'
                            by_cases a3 : z < x
                            · have b3 : ¬ x ≤ z := by omega
                              have b3b : decide (x ≤ z) = false := by simp; omega
                              have HO : Hid ((List.range (p + 1 + 1)).all (okW v.ws N) = true) := by
                                show _ = _
                                rw [range_all_succ, HJ.out]
                                simp [okW, HXK.out, HZK.out, a1, a2, a3]
                              go_wp2
                              go_quiet (fail)
                              go_wp2
                              go_roundw
                              case rel => exact ⟨p + 1 + 1, by omega, by go_num, HO, below_dR HB0.out _, HG0.out⟩
                              case measure => simp [intOf]; omega
                            · have b3 : x ≤ z := by omega
                              have b3b : decide (x ≤ z) = true := by simp; omega
                              have HR : Hid (vltB v k N = false) := by
                                show _ = _
                                rw [HM.out, wsB_no (i := p + 1) (by rw [HLEN.out]; exact hlt) (by simp [okW, HXK.out, HZK.out, a3])]
                                rfl
                              go_wp2
                              go_quiet (fail)
                              go_wp2
                              go_ret
                              exact ⟨ret_bool HR.out.symm, below_dR HB0.out _⟩
                        · have b2 : N ≤ x := by omega
                          have b2b : decide (N ≤ x) = true := by simp; omega
                          have HR : Hid (vltB v k N = false) := by
                            show _ = _
                            rw [HM.out, wsB_no (i := j) (by rw [HLEN.out]; exact hlt) (by simp [okW, HXK.out, a2])]
                            rfl
                          go_wp2
                          go_quiet (fail)
                          go_wp2
                          go_ret
                          exact ⟨ret_bool HR.out.symm, below_dR HB0.out _⟩
                      · have b1 : x < 0 := by omega
                        have b1b : decide (x < 0) = true := by simp; omega
                        have HR : Hid (vltB v k N = false) := by
                          show _ = _
                          rw [HM.out, wsB_no (i := j) (by rw [HLEN.out]; exact hlt) (by simp [okW, HXK.out, a1])]
                          rfl
                        go_wp2
                        go_quiet (fail)
                        go_wp2
                        go_ret
                        exact ⟨ret_bool HR.out.symm, below_dR HB0.out _⟩
                    · obtain rfl : HN = j := by omega
                      have HM2 : Hid (vltB v k N = (decide (v.print.size = 32) && (cutB v.cmin v.cmax v.cwin v.cbits && (decide (v.cseed = 0) && rulesB v.ra v.rb v.rc v.rd)))) := by
                        show _ = _
                        rw [HM.out]
                        unfold wsB
                        rw [HLEN.out, HJ.out]
                        rfl
                      clear HM
                      obtain ⟨cb, hcb⟩ : ∃ z, cutB v.cmin v.cmax v.cwin v.cbits = z := ⟨_, rfl⟩
                      obtain ⟨rb, hrb⟩ : ∃ z, rulesB v.ra v.rb v.rc v.rd = z := ⟨_, rfl⟩
                      have HCB : Hid (∀ V, Calls Tryz.prog 72 #[aC v.cmin v.cmax v.cwin v.cbits v.cseed] V (BoolB cb V)) := fun V => hcb ▸ rcut_any _ _ _ _ _ V
                      have HRB : Hid (∀ V, Calls Tryz.prog 73 #[fR v.ra v.rb v.rc v.rd] V (BoolB rb V)) := fun V => hrb ▸ rrul_any _ _ _ _ V
                      rw [hcb, hrb] at HM2
                      have HG1 := HG0
                      clear hcb hrb
                      by_cases r1 : v.print.size = 32
                      · have f1 : ((v.print.size : Int) == 32) = true := by simp; omega
                        cases cb
                        · have HR : Hid (vltB v k N = false) := by show _ = _; rw [HM2.out]; simp
                          go_wp2_with (go_at_call 72; refine (HCB.out _).mono ?_; rintro e w5 ⟨rfl, hb5⟩; (have HB5 : Hid (Below w.heap.size w w5) := HB0.out.trans (hb5.mono HB0.out.size)); (have HG5 : Hid (w5.heap[w.heap.size]? = some (oV v HA HN HC)) := (hb5.block _ (lt_of_block HG0.out)).trans HG0.out); clear y0 y1 y2 y3 y4 y5 y6 y7 y8 y9 y10 y11 y12 y13 y14; (obtain ⟨y0, y1, y2, y3, y4, y5, y6, y7, y8, y9, y10, y11, y12, y13, y14⟩ := vfifteen_of HG5.out); clear hb5)
                          go_ret
                          exact ⟨ret_bool HR.out.symm, HB5.out⟩
                        · by_cases r2 : v.cseed = 0
                          · have f2 : (v.cseed == 0) = true := by simp [r2]
                            have HR : Hid (vltB v k N = rb) := by show _ = _; rw [HM2.out]; simp [r1, r2]
                            clear r2
                            go_wp2_with (first | (go_at_call 72; refine (HCB.out _).mono ?_; rintro e w5 ⟨rfl, hb5⟩; (have HB5 : Hid (Below w.heap.size w w5) := HB0.out.trans (hb5.mono HB0.out.size)); (have HG5 : Hid (w5.heap[w.heap.size]? = some (oV v HA HN HC)) := (hb5.block _ (lt_of_block HG0.out)).trans HG0.out); clear y0 y1 y2 y3 y4 y5 y6 y7 y8 y9 y10 y11 y12 y13 y14; (obtain ⟨y0, y1, y2, y3, y4, y5, y6, y7, y8, y9, y10, y11, y12, y13, y14⟩ := vfifteen_of HG5.out); clear hb5) | (go_at_call 73; refine (HRB.out _).mono ?_; rintro e w6 ⟨rfl, hb6⟩; (have HB6 : Hid (Below w.heap.size w w6) := HB5.out.trans (hb6.mono HB5.out.size)); clear hb6))
                            go_ret
                            exact ⟨ret_bool HR.out.symm, HB6.out⟩
                          · have f2 : (v.cseed == 0) = false := by simp [r2]
                            have HR : Hid (vltB v k N = false) := by show _ = _; rw [HM2.out]; simp [r2]
                            clear r2
                            go_wp2_with (go_at_call 72; refine (HCB.out _).mono ?_; rintro e w5 ⟨rfl, hb5⟩; (have HB5 : Hid (Below w.heap.size w w5) := HB0.out.trans (hb5.mono HB0.out.size)); (have HG5 : Hid (w5.heap[w.heap.size]? = some (oV v HA HN HC)) := (hb5.block _ (lt_of_block HG0.out)).trans HG0.out); clear y0 y1 y2 y3 y4 y5 y6 y7 y8 y9 y10 y11 y12 y13 y14; (obtain ⟨y0, y1, y2, y3, y4, y5, y6, y7, y8, y9, y10, y11, y12, y13, y14⟩ := vfifteen_of HG5.out); clear hb5)
                            go_ret
                            exact ⟨ret_bool HR.out.symm, HB5.out⟩
                      · have f1 : ((v.print.size : Int) == 32) = false := by simp; omega
                        have HR : Hid (vltB v k N = false) := by show _ = _; rw [HM2.out]; simp [r1]
                        go_wp2
                        go_ret
                        exact ⟨ret_bool HR.out.symm, HB0.out⟩
                · have HR : Hid (vltB v k N = false) := by show _ = _; unfold vltB restB; first | (simp [q7]; done) | (rw [hln]; simp [q7])
                  have d7 : v.thr < 1 := by omega
                  have d7b : decide (v.thr < 1) = true := by simp; omega
                  clear hln
                  clear q0
                  go_enter Tryz.func23, Tryz.ntmps23
                  go_wp2
                  go_ret
                  exact ⟨ret_bool HR.out.symm, (Below.refl _ _).alloc (Nat.le_refl _) _⟩
              · have HR : Hid (vltB v k N = false) := by show _ = _; unfold vltB restB; first | (simp [q6]; done) | (rw [hln]; simp [q6])
                have d6 : 16 < v.total := by omega
                have d6b : decide (16 < v.total) = true := by simp; omega
                clear hln
                clear q0
                go_enter Tryz.func23, Tryz.ntmps23
                go_wp2
                go_ret
                exact ⟨ret_bool HR.out.symm, (Below.refl _ _).alloc (Nat.le_refl _) _⟩
            · have HR : Hid (vltB v k N = false) := by show _ = _; unfold vltB restB; first | (simp [q5]; done) | (rw [hln]; simp [q5])
              have d5 : v.total < v.data := by omega
              have d5b : decide (v.total < v.data) = true := by simp; omega
              clear hln
              clear q0
              go_enter Tryz.func23, Tryz.ntmps23
              go_wp2
              go_ret
              exact ⟨ret_bool HR.out.symm, (Below.refl _ _).alloc (Nat.le_refl _) _⟩
          · have HR : Hid (vltB v k N = false) := by show _ = _; unfold vltB restB; first | (simp [q4]; done) | (rw [hln]; simp [q4])
            have d4 : 8 < v.data := by omega
            have d4b : decide (8 < v.data) = true := by simp; omega
            clear hln
            clear q0
            go_enter Tryz.func23, Tryz.ntmps23
            go_wp2
            go_ret
            exact ⟨ret_bool HR.out.symm, (Below.refl _ _).alloc (Nat.le_refl _) _⟩
        · have HR : Hid (vltB v k N = false) := by show _ = _; unfold vltB restB; first | (simp [q3]; done) | (rw [hln]; simp [q3])
          have d3 : v.data < 1 := by omega
          have d3b : decide (v.data < 1) = true := by simp; omega
          clear hln
          clear q0
          go_enter Tryz.func23, Tryz.ntmps23
          go_wp2
          go_ret
          exact ⟨ret_bool HR.out.symm, (Below.refl _ _).alloc (Nat.le_refl _) _⟩
      · have HR : Hid (vltB v k N = false) := by show _ = _; unfold vltB restB; first | (simp [q2]; done) | (rw [hln]; simp [q2])
        have d2 : 3 < (HN : Int) := by omega
        have d2b : decide (3 < (HN : Int)) = true := by simp; omega
        clear hln
        clear q0
        go_enter Tryz.func23, Tryz.ntmps23
        go_wp2
        go_ret
        exact ⟨ret_bool HR.out.symm, (Below.refl _ _).alloc (Nat.le_refl _) _⟩
    · have HR : Hid (vltB v k N = false) := by show _ = _; unfold vltB restB; first | (simp [q1]; done) | (rw [hln]; simp [q1])
      have d1 : (HN : Int) < 1 := by omega
      have d1b : decide ((HN : Int) < 1) = true := by simp; omega
      clear hln
      clear q0
      go_enter Tryz.func23, Tryz.ntmps23
      go_wp2
      go_ret
      exact ⟨ret_bool HR.out.symm, (Below.refl _ _).alloc (Nat.le_refl _) _⟩
  · have HR : Hid (vltB v k N = false) := by show _ = _; unfold vltB restB; first | (simp [q0]; done) | (rw [hln]; simp [q0])
    have d0 : (v.num != k) = true := by simp [q0]
    clear hln
    clear q0
    go_enter Tryz.func23, Tryz.ntmps23
    go_wp2
    go_ret
    exact ⟨ret_bool HR.out.symm, (Below.refl _ _).alloc (Nat.le_refl _) _⟩
end Go.Proofs.YtkeicjokekmkpaaGreat
