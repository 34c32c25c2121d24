/- The reference's number reads what the program's reads. -/
import Derived.Test.YtnfkjnmdfijhnaaGreatDoorT0
import Derived.Test.YtnfkjnmdfijhnaaGreatDoorMr
namespace Go.Proofs.YtnfkjnmdfijhnaaGreatDoor
open Go.RowKit Go.Lib
set_option linter.unusedVariables false
set_option linter.unusedSimpArgs false

set_option maxRecDepth 100000 in
set_option maxHeartbeats 4000000 in
theorem nm_any (A : Option Addr) (n c p B : Nat) (bs : List Int) (w : World) (hx : Sl fB w B A n bs) (hb : ∀ b ∈ bs, 0 ≤ b ∧ b < 256) (hB : B ≤ w.heap.size) (hp : p ≤ n) (hn : n ≤ 1000000) :
    Calls Tryz.prog 123 #[.slice A n c, .int .i64 p] w fun e w' => e = .returned (.tuple #[.int .u64 (nmF bs p).1, .int .i64 (nmF bs p).2.1, .bool (nmF bs p).2.2]) ∧ Below w.heap.size w w' := by
  have HX := Lib.hid hx
  have HBY := Lib.hid hb
  have HLN : Hid (bs.length = n) := hx.1
  have HBB := Lib.hid hB
  clear hx hb hB
  go_enter Tryz.func123, Tryz.ntmps123
  go_wp2
  go_loopw [7] (fun i wr => ∃ j : Nat, j ≤ 10 ∧ i = .int .i64 ((j : Int) + 1) ∧ p + j ≤ n ∧ Hid (∀ i, i < j → ∀ x, bs[p + i]? = some x → 128 ≤ x) ∧ Hid (Below w.heap.size w wr)) (fun i _ => 11 - (intOf i).toNat)
  case atStart => exact ⟨0, by omega, rfl, by omega, fun i hi => absurd hi (by omega), Below.refl _ _⟩
  case round =>
    obtain ⟨j, hj, rfl, hpj, HJ, HR⟩ := hrel
    have hq0 : ((p : Int) + ((j : Int) + 1)) = ((p + j + 1 : Nat) : Int) := by omega
    by_cases hj10 : j < 10
    · by_cases hend : p + j = n
      · have HF : Hid (nmF bs p = (0, 0, false)) := nmF_no HBY.out fun m h1 h2 => at_no HJ.out (.inr (by rw [HLN.out]; omega)) h1 h2
        have hq1 : ¬ ((p + j + 1 : Nat) : Int) ≤ (n : Int) := by omega
        have hq2 : (j : Int) + 1 ≤ 10 := by omega
        go_wp2
        go_ret3
        rw [HF.out]
        exact ⟨rfl, HR.out⟩
      · obtain ⟨b1, o1, x, rfl, _, hg, hc⟩ := (HX.out.up HR.out HBB.out).2.at_ (k := p + j) (by rw [HLN.out]; omega)
        have hxr := HBY.out x (List.mem_of_getElem? hg)
        have hq1 : ((p + j + 1 : Nat) : Int) ≤ (n : Int) := by omega
        have hq2 : (j : Int) + 1 ≤ 10 := by omega
        have hq3 : ((p + j + 1 : Nat) : Int) - 1 = ((p + j : Nat) : Int) := by omega
        by_cases hge : 128 ≤ x
        · have HJ2 : Hid (∀ i, i < j + 1 → ∀ x, bs[p + i]? = some x → 128 ≤ x) := fun i hi y hy => by
            rcases Nat.lt_or_ge i j with c | c
            · exact HJ.out i c y hy
            · obtain rfl : i = j := by omega
              rw [hg] at hy; cases hy; exact hge
          clear hg
          go_wp2
          go_roundw
          case rel => exact ⟨j + 1, by omega, by go_num, by omega, HJ2, HR.out⟩
          case measure => simp [intOf]; omega
        · obtain ⟨V, hV⟩ : ∃ V : Nat, hor (segL bs p (j + 1)) = V := ⟨(hor (segL bs p (j + 1))).toNat, by have := (hor_rng (segL bs p (j + 1))).1; omega⟩
          have hVM : V < 18446744073709551616 := by have := (hor_rng (segL bs p (j + 1))).2; omega
          have HV : Hid (hor (segL bs p (j + 1)) = V) := hV
          have HAT : Hid (∀ m, m < 18446744073709551616 → AtL bs p (enc m) → enc V = segL bs p (j + 1)) := fun m h1 h2 => at_seg HJ.out hg (by omega) hV h1 h2
          have HLE : Hid (p + (j + 1) ≤ bs.length) := by show _ ≤ _; rw [HLN.out]; omega
          clear hV hg
          go_wp2
          go_loopw [8, 9] (fun v i wq => ∃ (m : Nat) (q : Int), m ≤ j + 1 ∧ i = .int .i64 q ∧ q = (m : Int) - 1 ∧ Hid (v = .int .u64 (hor ((segL bs p (j + 1)).drop m))) ∧ Hid (Below w.heap.size w wq)) (fun _ i _ => ((intOf i) + 1).toNat)
          case atStart => exact ⟨j + 1, _, by omega, by go_num, by omega, by show _ = _; rw [seg_all HLE.out]; rfl, HR⟩
          case round =>
            rename_i wq _ _
            obtain ⟨m, q, hm, rfl, hq, HVv, HQ⟩ := hrel
            by_cases hm0 : m = 0
            · subst hm0
              obtain rfl : q = -1 := by omega
              clear hq
              obtain rfl := HVv.out.trans (by rw [List.drop_zero, HV.out])
              obtain ⟨L6, HL6⟩ : ∃ L6, Hid ((enc V).length = L6) := ⟨_, rfl⟩
              by_cases hL : L6 = j + 1
              · subst hL
                clear hq0 hq1 hq2 hq3 hc
                go_wp2_with (go_at_call 89; (refine (rnum_any V _ hVM).mono ?_); (rintro e w6 ⟨v6, rfl, ho6, b6⟩); (obtain ⟨A6, c6, rfl, _, hs6, _⟩ := ho6.shape); (have HS6 : Hid (Sl fB w6 w6.heap.size A6 (enc V).length (enc V)) := ⟨rfl, hs6⟩); (have HQ6 : Hid (Below w.heap.size w w6) := HQ.out.trans (b6.mono HQ.out.size)); (have HS7 : Hid (w.heap.size ≤ w6.heap.size) := HQ6.out.size); (rw [HL6.out] at HS6 ⊢); clear ho6 hs6 b6)
                go_loopw [11] (fun i wq => ∃ k : Nat, k ≤ j + 1 ∧ i = .int .i64 k ∧ Hid (∀ i, i < k → (enc V)[i]? = bs[p + i]?) ∧ Hid (Below w6.heap.size w6 wq)) (fun i _ => j + 1 - (intOf i).toNat)
                case atStart => exact ⟨0, by omega, rfl, fun i hi => absurd hi (by omega), Below.refl _ _⟩
                case round =>
                  obtain ⟨k, hk, rfl, HK, HQ7⟩ := hrel
                  have HQ8 := Lib.hid (HQ6.out.trans (HQ7.out.mono HS7.out))
                  by_cases hkl : k < j + 1
                  · obtain ⟨b2, o2, y, e2, _, hgy, hcy⟩ := (HX.out.up HQ8.out HBB.out).2.at_ (k := p + k) (by rw [HLN.out]; omega)
                    cases e2
                    obtain ⟨b3, o3, y', rfl, _, hgz, hcz⟩ := (HS6.out.up HQ7.out (Nat.le_refl _)).2.at_ (k := k) (by rw [HL6.out]; omega)
                    have hk1 : (k : Int) < (j : Int) + 1 := by omega
                    have hk0 : (0 : Int) ≤ (k : Int) := by omega
                    have hk3 : (p : Int) + (k : Int) < (n : Int) := by omega
                    have hk4 : (0 : Int) ≤ (p : Int) + (k : Int) := by omega
                    have hk5 : ((p : Int) + (k : Int)).toNat = p + k := by omega
                    by_cases hyy : y' = y
                    · subst hyy
                      have HK2 : Hid (∀ i, i < k + 1 → (enc V)[i]? = bs[p + i]?) := fun i hi => by
                        rcases Nat.lt_or_ge i k with c | c
                        · exact HK.out i c
                        · obtain rfl : i = k := by omega
                          rw [hgy, hgz]
                      clear hgy hgz
                      go_wp2
                      go_quiet (fail)
                      go_wp2
                      go_roundw
                      case rel => exact ⟨k + 1, by omega, by go_num, HK2, below_drewN HQ7.out _⟩
                      case measure => simp [intOf]; omega
                    · have HF : Hid (nmF bs p = (0, 0, false)) := nmF_no HBY.out fun m h1 h2 => hyy (by
                        have e := HAT.out m h1 h2
                        have e4 : (segL bs p (j + 1))[k]? = some y := by rw [seg_at (by omega)]; exact hgy
                        rw [← e, hgz] at e4
                        exact Option.some.inj e4)
                      have hyb : (y' == y) = false := by simp [hyy]
                      clear hgy hgz hyy
                      go_wp2
                      go_quiet (fail)
                      go_wp2
                      go_ret3
                      rw [HF.out]
                      exact ⟨rfl, below_drewN HQ8.out _⟩
                  · obtain rfl : k = j + 1 := by omega
                    have HE : Hid (enc V = segL bs p (j + 1)) := by
                      apply List.ext_getElem?
                      intro i
                      rcases Nat.lt_or_ge i (j + 1) with c | c
                      · rw [HK.out i c, seg_at c]
                      · rw [List.getElem?_eq_none (by rw [HL6.out]; exact c), List.getElem?_eq_none (by rw [seg_len HLE.out]; exact c)]
                    have HF : Hid (nmF bs p = ((V : Int), p + (j + 1), true)) := nmF_seg HLE.out hVM HE.out
                    go_wp2
                    go_ret3
                    rw [HF.out]
                    exact ⟨rfl, HQ8.out⟩
              · have hL2 : ¬ ((L6 : Int) = (j : Int) + 1) := by omega
                have HF : Hid (nmF bs p = (0, 0, false)) := nmF_no HBY.out fun m h1 h2 => hL (by
                  have := HAT.out m h1 h2
                  rw [← HL6.out, this]
                  exact seg_len HLE.out)
                clear hq0 hq1 hq2 hq3 hc hL
                go_wp2_with (go_at_call 89; (refine (rnum_any V _ hVM).mono ?_); (rintro e w6 ⟨v6, rfl, ho6, b6⟩); (obtain ⟨A6, c6, rfl, _, hs6, _⟩ := ho6.shape); (have HS6 : Hid (Sl fB w6 w6.heap.size A6 (enc V).length (enc V)) := ⟨rfl, hs6⟩); (have HQ6 : Hid (Below w.heap.size w w6) := HQ.out.trans (b6.mono HQ.out.size)); (have HS7 : Hid (w.heap.size ≤ w6.heap.size) := HQ6.out.size); (rw [HL6.out] at HS6 ⊢); clear ho6 hs6 b6)
                go_ret3
                rw [HF.out]
                exact ⟨rfl, HQ6.out⟩
            · obtain ⟨m, rfl⟩ : ∃ k, m = k + 1 := ⟨m - 1, by omega⟩
              obtain rfl : q = (m : Int) := by omega
              clear hq hq0 hq1 hq2 hq3 hc
              obtain ⟨b2, o2, y, e2, _, hgy, hcy⟩ := (HX.out.up HQ.out HBB.out).2.at_ (k := p + m) (by rw [HLN.out]; omega)
              cases e2
              have hyr := HBY.out y (List.mem_of_getElem? hgy)
              obtain ⟨z, hz⟩ : ∃ z, hor ((segL bs p (j + 1)).drop (m + 1)) = z := ⟨_, rfl⟩
              have hzr := hor_rng ((segL bs p (j + 1)).drop (m + 1))
              rw [hz] at hzr
              have HS : Hid (hor ((segL bs p (j + 1)).drop m) = (z * 128 + y % 128) % 18446744073709551616) := by
                show _ = _
                rw [seg_drop (by omega) hgy, hor, hz]
              rw [hz] at HVv
              obtain rfl := HVv.out
              have hq6 : (0 : Int) ≤ (m : Int) := by omega
              have hq8 : y.tmod 128 = y % 128 := Int.tmod_eq_emod_of_nonneg (by omega)
              clear hgy hz hm0
              go_wp2
              go_roundw
              case rel =>
                refine ⟨m, _, by omega, rfl, rfl, ?_, HQ⟩
                show _ = _
                rw [HS.out, IntKind.wrap_u64, IntKind.wrap_u64]
                congr 1
                omega
              case measure => simp [intOf]
    · have HF : Hid (nmF bs p = (0, 0, false)) := nmF_no HBY.out fun m h1 h2 => at_no HJ.out (.inl (by omega)) h1 h2
      have hq2 : ¬ (j : Int) + 1 ≤ 10 := by omega
      go_wp2
      go_ret3
      rw [HF.out]
      exact ⟨rfl, HR.out⟩
end Go.Proofs.YtnfkjnmdfijhnaaGreatDoor
