/- The law of pieces that are placed anew. -/
import Derived.Test.YtlnaakpcnhnccaaDoorZf
import Derived.BigQuiet
namespace Go.Proofs.YtlnaakpcnhnccaaDoor
open Go.RowKit Go.Lib
set_option linter.unusedVariables false
set_option linter.unusedSimpArgs false

/-- The law's list under way. -/
def RsgP (dev : List Int) (rs : List Rcp) (w : World) (v i : Value) (wr : World) : Prop :=
  ∃ k : Nat, k ≤ rs.length ∧ i = .int .i64 k ∧ Hid (OwnN fP 2 42 wr w.heap.size v (rea dev (rs.take k))) ∧ Hid (Below w.heap.size w wr)
/-- Fresh so far. -/
def FrP (c : Bool) (acc : List (ByteArray × Int)) (p : ByteArray × Int) (w : World) (f i : Value) (wr : World) : Prop :=
  ∃ j q : Nat, j ≤ acc.length ∧ i = .int .i64 j ∧ f = .bool (c && !pinB (acc.take j) p) ∧ wr = w.drewN q
theorem RsgP.start {dev : List Int} {rs : List Rcp} {w : World} : RsgP dev rs w (.slice (some ⟨w.heap.size, 0, none⟩) 0 0) (.int .i64 0) (w.alloc (.cells #[] 42)) :=
  ⟨0, Nat.zero_le _, rfl, World.ownsRow_made w #[] 0 (Nat.le_refl _) (by decide) rfl, (Below.refl _ _).alloc (Nat.le_refl _) _⟩
theorem FrP.start {c : Bool} {acc : List (ByteArray × Int)} {p : ByteArray × Int} {w : World} : FrP c acc p w (.bool c) (.int .i64 0) w :=
  ⟨0, 0, Nat.zero_le _, rfl, by rw [List.take_zero, pinB_no (by simp)]; simp, rfl⟩
theorem bal_ne {a b : ByteArray} (h : ¬ a = b) : ¬ a.toList = b.toList := fun e => h (by
  rw [ByteArray.toList_eq, ByteArray.toList_eq] at e
  exact WideShapes.bytes_inj e)
open Classical in
theorem pne_same {p : ByteArray × Int} : (true && !decide (p = p)) = false := by simp
open Classical in
theorem pne_other {p q : ByteArray × Int} (h : ¬ p = q) : (true && !decide (p = q)) = true := by simp [h]
open Classical in
theorem FrP.step {c : Bool} {acc : List (ByteArray × Int)} {p y : ByteArray × Int} {w : World} {j : Nat} (hy : acc[j]? = some y) (hj : j < acc.length) (q' : Nat) :
    FrP c acc p w (.bool ((c && !pinB (acc.take j) p) && !decide (y = p))) (.int .i64 ((j + 1 : Nat) : Int)) (w.drewN q') := by
  refine ⟨j + 1, q', hj, rfl, ?_, rfl⟩
  rw [take_snoc hy]
  by_cases h : y = p
  · subst h
    rw [pinB_yes (L := acc.take j ++ [y]) (by simp)]
    simp
  · by_cases h2 : p ∈ acc.take j
    · rw [pinB_yes h2, pinB_yes (by simp [h2])]; simp
    · rw [pinB_no h2, pinB_no (by simp [h2]; exact fun e => h e.symm)]; simp [h]
set_option maxRecDepth 100000 in
set_option maxHeartbeats 8000000 in
theorem reassigns_any (A A' : Option Addr) (n c n' c' B : Nat) (rs : List Rcp) (dev : List Int) (w : World) (hG : Glob w) (hx : SlN fR 14 w B A n rs) (hy : Sl I w B A' n' dev) (hB : B ≤ w.heap.size) (hok : ∀ r ∈ rs, okP r.s r.ix) :
    Calls Tryd.prog 4 #[.slice A n c, .slice A' n' c'] w fun e w' => e = .returned (.bool true) ∧ Below w.heap.size w w' := by
  have HAw : Hid (∀ W, Below w.heap.size w W → Calls Tryd.prog 5 #[] W fun e w' => e = .returned (.bool true) ∧ Below W.heap.size W w') := fun W hb => awake_any W (hG.on hb)
  by_cases hn : n ≤ 30
  · have hnI : ¬ (30 : Int) < (n : Int) := by omega
    by_cases hn' : n' ≤ 20
    · have hnI' : ¬ (20 : Int) < (n' : Int) := by omega
      obtain ⟨i0, hi, hz0, hz1, hz2⟩ := info_parts Tryd.infoP
      have HI := Lib.hid hi
      have HZ0 := Lib.hid hz0
      have HZ1 := Lib.hid hz1
      have HZ2 := Lib.hid hz2
      clear hi hz0 hz1 hz2
      have HX := Lib.hid hx
      have HXN : Hid (rs.length = n) := hx.1
      have HB := Lib.hid hB
      have HIN : Hid (∀ W h, Below w.heap.size w W → Calls Tryd.prog 13 #[.slice A' n' c', .int .i64 h] W fun e w' => e = .returned (.bool (dev.contains h)) ∧ W = w') := fun W h hb => in_any A' n' c' B dev h W (hy.up hb hB) (by omega)
      have HRA : Hid (∀ W, Below w.heap.size w W → Calls Tryd.prog 14 #[.slice A n c, .slice A' n' c'] W fun e w' => ∃ A1 n1 c1, e = .returned (.slice A1 n1 c1) ∧ SlN fP 2 w' w'.heap.size A1 n1 (rea dev rs) ∧ Below W.heap.size W w') := fun W hb => reassign_any A A' n c n' c' B rs dev W (hx.up hb hB) (hy.up hb hB) (Nat.le_trans hB hb.size) (by omega) (by omega) hok
      clear hx hy hB hok hG
      go_enter Tryd.func4, Tryd.ntmps4
      go_wp2
      -- MAIN
      go_loopw [5, 6] (fun v i wr => RsgP dev rs w v i wr) (fun _ i _ => n - (intOf i).toNat)
      case atStart => exact RsgP.start
      case round =>
        -- PART round
        obtain ⟨k, hk, rfl, HO, HBw⟩ := hrel
        rw [HXN.out] at hk
        obtain ⟨acc, hacc⟩ : ∃ acc, acc = rea dev (rs.take k) := ⟨_, rfl⟩
        have HACC := Lib.hid hacc
        rw [← hacc] at HO
        obtain ⟨A1, c1, hv, hc1, hs1, _⟩ := HO.out.shape fP_len
        subst hv
        have HS1 := Lib.hid hs1
        have HC1 := Lib.hid hc1
        clear hs1 hc1
        by_cases hlt : k < n
        · -- PART step
          obtain ⟨b, off, r, rfl, hbB, hr, hat⟩ := (HX.out.up HBw.out HB.out).at_ hlt
          have hkI : (k : Int) < (n : Int) := by omega
          have hx0 : wr.cell? ⟨b, off + k * 14, none⟩ = some (.int .i64 r.hd) := by rw [show off + k * 14 = off + (k * 14 + 0) by omega]; exact hat 0 _ rfl
          have hx2 : wr.cell? ⟨b, off + k * 14 + 2, none⟩ = some (.string r.s) := by rw [show off + k * 14 + 2 = off + (k * 14 + 2) by omega]; exact hat 2 _ rfl
          have hx3 : wr.cell? ⟨b, off + k * 14 + 3, none⟩ = some (.int .i64 r.ix) := by rw [show off + k * 14 + 3 = off + (k * 14 + 3) by omega]; exact hat 3 _ rfl
          have hx3' : wr.cell? ⟨b, off + k * 14 + 2 + 1, none⟩ = some (.int .i64 r.ix) := hx3
          have HR := Lib.hid hr
          have HSN : Hid (rea dev (rs.take (k + 1)) = reaS dev acc r) := by show _ = _; rw [take_snoc hr, rea_snoc, HACC.out]
          have hlen := rea_take_len dev rs k (by rw [HXN.out]; omega)
          rw [← hacc] at hlen
          obtain ⟨m, hm⟩ : ∃ m, acc.length = m := ⟨_, rfl⟩
          rw [hm] at HO HS1 HC1 hlen ⊢
          have HM := Lib.hid hm
          have HLn := Lib.hid hlen
          have hm30 : m ≤ 30 := by omega
          clear hat hr hacc hm hlen
          have hin := HIN.out wr r.hd HBw.out
          obtain ⟨cc, hcc⟩ : ∃ cc, cc = dev.contains r.hd := ⟨_, rfl⟩
          have HCC := Lib.hid hcc
          rw [← hcc] at hin
          have HINr := Lib.hid hin
          clear hin hcc
          go_upto_region 8 with (first
            | (go_at_call 13; (with_reducible refine HINr.out.mono ?_); rintro e w1 ⟨rfl, hw1⟩; subst hw1))
          go_wp2
          clear hx0
          go_loopw [7, 8] (fun f i wj => FrP cc acc (r.s, r.ix) wr f i wj) (fun _ i _ => m - (intOf i).toNat)
          case atStart => exact FrP.start
          case round =>
            -- PART inner
            obtain ⟨j, q, hj, rfl, rfl, rfl⟩ := hrel
            rw [HM.out] at hj
            by_cases hjl : j < m
            · have hjI : (j : Int) < (m : Int) := by omega
              obtain ⟨b1, off1, ⟨ys, yi⟩, rfl, hb1, hy, hat1⟩ := HS1.out.at_ hjl
              have y0 : wr.cell? ⟨b1, off1 + j * 2, none⟩ = some (.string ys) := hat1 0 _ rfl
              have y1 : wr.cell? ⟨b1, off1 + j * 2 + 1, none⟩ = some (.int .i64 yi) := by rw [show off1 + j * 2 + 1 = off1 + (j * 2 + 1) by omega]; exact hat1 1 _ rfl
              have HY := Lib.hid hy
              clear hat1 hy
              have hst := FrP.step (w := wr) (c := cc) (p := (r.s, r.ix)) HY.out (by rw [HM.out]; exact hjl)
              generalize hf : (cc && !pinB (acc.take j) (r.s, r.ix)) = f at hst ⊢
              clear hf
              have HST := Lib.hid hst
              clear hst
              cases f
              · -- PART no
                go_upto_region 11 with fail
                go_quiet (fail)
                go_wp2
                refine ⟨?rel, ?measure⟩
                case rel =>
                  have h := HST.out (q + nq)
                  rw [Bool.false_and] at h
                  rw [show Value.int IntKind.i64 ((j : Int) + 1) = .int .i64 ((j + 1 : Nat) : Int) from rfl]
                  exact h
                case measure => simp [intOf]; omega
                -- END no
              · by_cases hps : ys = r.s
                · subst hps
                  by_cases hpi : yi = r.ix
                  · -- PART same
                    subst hpi
                    go_upto_region 11 with fail
                    go_quiet (fail)
                    go_wp2
                    refine ⟨?rel, ?measure⟩
                    case rel =>
                      have h := HST.out (q + nq)
                      rw [pne_same] at h
                      rw [show Value.int IntKind.i64 ((j : Int) + 1) = .int .i64 ((j + 1 : Nat) : Int) from rfl]
                      exact h
                    case measure => simp [intOf]; omega
                    -- END same
                  · -- PART otheri
                    have HNE : Hid (¬ ((r.s, yi) = (r.s, r.ix))) := by
                      intro e; injection e with _ e; exact hpi e
                    go_upto_region 11 with fail
                    go_quiet (fail)
                    go_wp2
                    refine ⟨?rel, ?measure⟩
                    case rel =>
                      have h := HST.out (q + nq)
                      rw [pne_other HNE.out] at h
                      rw [show Value.int IntKind.i64 ((j : Int) + 1) = .int .i64 ((j + 1 : Nat) : Int) from rfl]
                      exact h
                    case measure => simp [intOf]; omega
                    -- END otheri
                · -- PART others
                  have HNE : Hid (¬ ((ys, yi) = (r.s, r.ix))) := by
                    intro e; injection e with e _; exact hps e
                  have hl1 := bal_ne hps
                  have hl2 : decide (ys.toList = r.s.toList) = false := by simp [hl1]
                  have hl3 : (ys.toList == r.s.toList) = false := by simp [hl1]
                  go_upto_region 11 with fail
                  go_quiet (fail)
                  go_wp2
                  refine ⟨?rel, ?measure⟩
                  case rel =>
                    have h := HST.out (q + nq)
                    rw [pne_other HNE.out] at h
                    rw [show Value.int IntKind.i64 ((j : Int) + 1) = .int .i64 ((j + 1 : Nat) : Int) from rfl]
                    exact h
                  case measure => simp [intOf]; omega
                  -- END others
            · -- PART end
              obtain rfl : j = m := by omega
              have htk : acc.take j = acc := List.take_of_length_le (by rw [HM.out]; exact Nat.le_refl _)
              rw [htk]
              clear htk
              have HO2 : Hid (OwnN fP 2 42 (wr.drewN q) w.heap.size (.slice A1 j c1) acc) := HO.out.drewN q
              have HB2 : Hid (Below w.heap.size w (wr.drewN q)) := below_drewN' HBw.out q
              cases hcb : cc
              · have HRE : Hid (rea dev (rs.take (k + 1)) = acc) := by show _ = _; rw [HSN.out, reaS, ← HCC.out, hcb]; rfl
                clear hcb
                rw [Bool.false_and]
                go_wp2
                refine ⟨?rel, ?measure⟩
                case rel => exact ⟨k + 1, by rw [HXN.out]; omega, by go_num, by show OwnN ..; rw [HRE.out]; exact HO2.out, HB2.out⟩
                case measure => simp [intOf]; omega
              · cases hpb : pinB acc (r.s, r.ix)
                · have HRE : Hid (rea dev (rs.take (k + 1)) = acc ++ [(r.s, r.ix)]) := by show _ = _; rw [HSN.out, reaS, ← HCC.out, hcb, hpb]; rfl
                  have HL1 : Hid ((acc.length + 1) * 24 ≤ 140737488355328) := by show _ ≤ _; rw [HM.out]; have := HLn.out; omega
                  have HL2 : Hid (acc.length + 1 ≤ maxLen) := by show _ ≤ _; rw [HM.out]; have := HLn.out; unfold maxLen; omega
                  have HSz : Hid (w.heap.size ≤ (wr.drewN q).heap.size) := HB2.out.size
                  clear hcb hpb
                  go_upto_region 6 with (first
                    | (at_builtin; (refine wpList_appN1 fP_len (by omega) (o := ⟨some 61, _, _, _, _, _⟩) rfl (.tmp 54) (.tmp 60) 39 rfl 42 i0 _ 24 Tryd.underlying39 HI.out HZ0.out HZ1.out HZ2.out (by rfl) _ acc (w.heap.size) (by rfl) HO2.out (r.s, r.ix) 1 (by rfl) fP_one HL1.out HL2.out HSz.out ?_); intro v3 w3 HO3 HG3 HV3))
                  go_wp2
                  refine ⟨?rel, ?measure⟩
                  case rel => exact ⟨k + 1, by rw [HXN.out]; omega, by go_num, by show OwnN ..; rw [HRE.out]; exact HO3.out, HB2.out.trans (grown_below HG3.out (fun j hj => (World.ownsRow.lt HO2.out j hj).1) HB2.out.size)⟩
                  case measure => simp [intOf]; omega
                · have HRE : Hid (rea dev (rs.take (k + 1)) = acc) := by show _ = _; rw [HSN.out, reaS, ← HCC.out, hcb, hpb]; rfl
                  clear hcb hpb
                  go_wp2
                  refine ⟨?rel, ?measure⟩
                  case rel => exact ⟨k + 1, by rw [HXN.out]; omega, by go_num, by show OwnN ..; rw [HRE.out]; exact HO2.out, HB2.out⟩
                  case measure => simp [intOf]; omega
              -- END end
            -- END inner
          -- END step
        · -- PART last
          obtain rfl : k = n := by omega
          have hra := HRA.out wr HBw.out
          rw [List.take_of_length_le (by rw [HXN.out]; exact Nat.le_refl _)] at hacc
          rw [← hacc] at hra
          obtain ⟨m, hm⟩ : ∃ m, acc.length = m := ⟨_, rfl⟩
          rw [hm] at HO HS1 HC1 ⊢
          have HM := Lib.hid hm
          have HRr := Lib.hid hra
          have hm30 : m ≤ 30 := by
            have h := rea_take_len dev rs k (by rw [HXN.out]; exact Nat.le_refl _)
            rw [List.take_of_length_le (by rw [HXN.out]; exact Nat.le_refl _), ← hacc, hm] at h
            omega
          clear hra hm hacc
          go_wp2_with (first
            | (go_at_call 14; (with_reducible refine HRr.out.mono ?_); rintro e w2 ⟨A2, n2, c2, rfl, hs2, hb2⟩
               obtain rfl : m = n2 := HM.out.symm.trans hs2.1
               have HS2 := Lib.hid hs2
               have HS1' : Hid (SlN fP 2 w2 wr.heap.size A1 m acc) := HS1.out.up hb2 (Nat.le_refl _)
               have HB2 : Hid (Below w.heap.size w w2) := HBw.out.trans (hb2.mono HBw.out.size)
               clear hs2 hb2))
          go_loopw [10] (fun i wj => ∃ j q : Nat, j ≤ m ∧ i = .int .i64 j ∧ wj = w2.drewN q) (fun i _ => m - (intOf i).toNat)
          case atStart => exact ⟨0, 0, Nat.zero_le _, rfl, rfl⟩
          case round =>
            -- PART third
            obtain ⟨j, q, hj, rfl, rfl⟩ := hrel
            by_cases hjl : j < m
            · have hjI : (j : Int) < (m : Int) := by omega
              obtain ⟨b1, off1, ⟨ys, yi⟩, rfl, hb1, hy, hat1⟩ := HS1'.out.at_ hjl
              obtain ⟨b2, off2, y', rfl, hb2, hy', hat2⟩ := HS2.out.at_ hjl
              obtain rfl : (ys, yi) = y' := Option.some.inj (hy.symm.trans hy')
              have y0 : w2.cell? ⟨b1, off1 + j * 2, none⟩ = some (.string ys) := hat1 0 _ rfl
              have y1 : w2.cell? ⟨b1, off1 + j * 2 + 1, none⟩ = some (.int .i64 yi) := by rw [show off1 + j * 2 + 1 = off1 + (j * 2 + 1) by omega]; exact hat1 1 _ rfl
              have y2 : w2.cell? ⟨b2, off2 + j * 2, none⟩ = some (.string ys) := hat2 0 _ rfl
              have y3 : w2.cell? ⟨b2, off2 + j * 2 + 1, none⟩ = some (.int .i64 yi) := by rw [show off2 + j * 2 + 1 = off2 + (j * 2 + 1) by omega]; exact hat2 1 _ rfl
              clear hat1 hat2 hy hy'
              go_upto_region 20 with fail
              go_quiet (fail)
              go_wp2
              refine ⟨?rel, ?measure⟩
              case rel => exact ⟨j + 1, q + nq, by omega, by go_num, rfl⟩
              case measure => simp [intOf]; omega
            · obtain rfl : j = m := by omega
              have HBd : Hid (Below w.heap.size w (w2.drewN q)) := below_drewN' HB2.out q
              go_wp2_with (first
                | (go_at_call 5; (with_reducible refine (HAw.out _ HBd.out).mono ?_); rintro e w3 ⟨rfl, hb3⟩
                   have HB3 : Hid (Below w.heap.size w w3) := HBd.out.trans (hb3.mono HBd.out.size)
                   clear hb3))
              go_ret
              exact ⟨rfl, HB3.out⟩
            -- END third
          -- END last
        -- END round
    · have hnI' : (20 : Int) < (n' : Int) := by omega
      clear hx hy hB hok hG
      go_enter Tryd.func4, Tryd.ntmps4
      go_wp2_with (first
        | (go_at_call 5; (with_reducible refine (HAw.out _ (Below.refl _ _)).mono ?_); rintro e w3 ⟨rfl, hb3⟩
           have HB3 := Lib.hid hb3
           clear hb3))
      go_ret
      exact ⟨rfl, HB3.out⟩
  · have hnI : (30 : Int) < (n : Int) := by omega
    clear hx hy hB hok hG
    go_enter Tryd.func4, Tryd.ntmps4
    go_wp2_with (first
      | (go_at_call 5; (with_reducible refine (HAw.out _ (Below.refl _ _)).mono ?_); rintro e w3 ⟨rfl, hb3⟩
         have HB3 := Lib.hid hb3
         clear hb3))
    go_ret
    exact ⟨rfl, HB3.out⟩
end Go.Proofs.YtlnaakpcnhnccaaDoor
