/- matrix: clear. -/
import Derived.Test.YtpbeaghghlfiaaaB2
namespace Go.Proofs.Ytpbeaghghlfiaaa
open Go.RowKit Go.Lib
set_option linter.unusedVariables false
set_option linter.unusedSimpArgs false
abbrev TE : TypeId := 60
/-- The elimination's block. -/
abbrev cE (g N c : Nat) (pv : Value) (p : Nat) : Array Value := #[.slice (some ⟨g, 0, none⟩) N c, pv, fN p]
theorem getD_some {α : Type} {l : List α} {k : Nat} {x d : α} (h : l[k]? = some x) : l.getD k d = x := by rw [List.getD_eq_getElem?_getD, h]; rfl
def ClP (g : Nat) (m : Mt) (w : World) (e : Ending) (w' : World) : Prop := ∃ hs, e = .returned (.tuple #[]) ∧ Mat w' g hs m ∧ But (fun i => i = g) w w'
set_option maxRecDepth 100000 in
set_option maxHeartbeats 4000000 in
theorem clear_any (h g N c p n top col : Nat) (pv : Value) (hs0 : List Hd) (m : Mt) (w : World) (hE : w.heap[h]? = some (.cells (cE g N c pv p) TE (0, 0))) (hM : Mat w g hs0 m) (hN : m.length = N) (hok : MtOk n m) (ht : top < N) (hc : col < n) (hn : n ≤ 1000) (hN2 : N ≤ 64) :
    Calls Try.prog 50 #[.pointer (some ⟨h, 0, none⟩), .int .i64 top, .int .i64 col] w (ClP g (clearP m top col) w) := by
  obtain ⟨ta, tn, tc, rt, hht, hrt, hct, hxt⟩ := hM.at_ (k := top) (by omega)
  have hrok := hok.get hrt
  obtain rfl : n = tn := hrok.1.symm.trans hxt.2.1
  obtain ⟨x, hx⟩ := get_ex (xs := rt) (k := col) (by omega)
  obtain ⟨tb, toff, rfl, htb, htat⟩ := hxt.sl.2 (by omega)
  have hcx : w.cell? ⟨tb, toff + col, none⟩ = some (fN x) := htat col x hx
  have hx256 : x < 256 := hrok.2 x (List.mem_of_getElem? hx)
  have hpv : pivP m top col = sclv (invN x) rt := by
    unfold pivP
    rw [getD_some hrt, getD_some hx]
  have hpo := hok.piv (top := top) (by omega) col
  rw [hpv] at hpo
  have hcl : clearP m top col = clrP (sclv (invN x) rt) top col 0 (m.set top (sclv (invN x) rt)) := by unfold clearP; rw [hpv]
  obtain ⟨t, htt⟩ : ∃ t, sclv (invN x) rt = t := ⟨_, rfl⟩
  obtain ⟨m1, hm1⟩ : ∃ m1, m.set top t = m1 := ⟨_, rfl⟩
  rw [hcl, htt, hm1]
  rw [htt] at hpo
  have hok1 : MtOk n m1 := by rw [← hm1]; exact hok.set hpo
  have hl1 : m1.length = N := by rw [← hm1, List.length_set]; exact hN
  have hm1t : m1[top]? = some t := by rw [← hm1, List.getElem?_set, if_pos rfl, if_pos (by omega)]
  have HIN := Lib.hid (inv_any x hx256 w)
  have HSC : Hid (Calls Try.prog 51 #[.slice (some ⟨tb, toff, none⟩) n tc, fN (invN x)] w.drew (OwP t w.drew)) := by
    have hh := scale_any (some ⟨tb, toff, none⟩) tc (invN x) w.heap.size rt w.drew hxt.sl.2 (Nat.le_refl _) hrok.2 (by omega) (invN_lt x hx256)
    rw [hrok.1, htt] at hh
    exact hh
  have hc0 : w.cell? ⟨h, 0, none⟩ = some (.slice (some ⟨g, 0, none⟩) N c) := by rw [cell_of_row w h _ _ _ _ hE]; rfl
  have HC0 := Lib.hid hc0
  have HCT := Lib.hid hct
  have HLH : Hid (h < w.heap.size) := lt_block hE
  have HLG : Hid (g < w.heap.size) := hM.lt
  have hne : g ≠ h := fun e => by
    subst e
    obtain ⟨cur, q, _⟩ := hM.cells
    rw [hE] at q
    injection q with q
    injection q with _ q _
    exact absurd q (by decide)
  have HEE := Lib.hid hE
  have HM := Lib.hid hM
  have HTL : Hid (top < m.length) := by show _ < _; omega
  have HNL := Lib.hid hN
  have HM1 := Lib.hid hm1
  have HL1 := Lib.hid hl1
  have HOK := Lib.hid hok1
  have HT1 := Lib.hid hm1t
  have HPO := Lib.hid hpo
  have htI : (top : Int) < (N : Int) := by omega
  have hcI : (col : Int) < (n : Int) := by omega
  have hnI : (n : Int) ≤ 1000 := by omega
  have hNI : (N : Int) ≤ 64 := by omega
  have HNE := Lib.hid hne
  clear hE hM hN hok hht hrt hxt hrok hx hx256 hpv hpo hcl htt hm1 hok1 hl1 hm1t htb htat hne
  go_enter Try.func50, Try.ntmps50
  go_wp2_with (go_at_call 35; (with_reducible refine HIN.out.mono ?_); rintro e w' ⟨⟨r, rfl⟩, rfl⟩)
  refine LastZ.start (by kernel_rfl) (fun w' : World => w'.cell? ⟨h, 0, none⟩ = some (.slice (some ⟨g, 0, none⟩) N c) ∧ w'.cell? ⟨g, top, none⟩ = some (.slice (some ⟨tb, toff, none⟩) n tc)) 15 ?_
  have hZ0 : Hid ((fun w' : World => w'.cell? ⟨h, 0, none⟩ = some (.slice (some ⟨g, 0, none⟩) N c) ∧ w'.cell? ⟨g, top, none⟩ = some (.slice (some ⟨tb, toff, none⟩) n tc)) w.drew) := (by exact ⟨hc0, hct⟩)
  refine LastZ.take 0 (v := _) (by simp only [List.getElem?_toArray, List.getElem?_cons_zero]; rfl) (by kernel_rfl) (by kernel_rfl) (by kernel_rfl) (by decide) (by kernel_rfl) (by exact fun _ _ _ h => h) (Or.inl ⟨by rfl, by (intro w hSw; (try dsimp only at hSw); go_simp; try (with_reducible rfl))⟩) hZ0.out ?_
  try simp only [Act.put, List.setIfInBounds_toArray, List.set_cons_zero, List.set_cons_succ]
  refine LastZ.take 1 (v := _) (by simp only [List.getElem?_toArray, List.getElem?_cons_succ, List.getElem?_cons_zero]; rfl) (by kernel_rfl) (by kernel_rfl) (by kernel_rfl) (by decide) (by kernel_rfl) (by exact fun _ _ _ h => h) (Or.inl ⟨by rfl, by (intro w hSw; (try dsimp only at hSw); go_simp; try (with_reducible rfl))⟩) hZ0.out ?_
  try simp only [Act.put, List.setIfInBounds_toArray, List.set_cons_zero, List.set_cons_succ]
  refine LastZ.take 2 (v := _) (by simp only [List.getElem?_toArray, List.getElem?_cons_succ, List.getElem?_cons_zero]; rfl) (by kernel_rfl) (by kernel_rfl) (by kernel_rfl) (by decide) (by kernel_rfl) (by exact fun _ _ _ h => h) (Or.inl ⟨by rfl, by (intro w hSw; (try dsimp only at hSw); go_simp; try (with_reducible rfl))⟩) hZ0.out ?_
  try simp only [Act.put, List.setIfInBounds_toArray, List.set_cons_zero, List.set_cons_succ]
  refine LastZ.take 3 (v := _) (by simp only [List.getElem?_toArray, List.getElem?_cons_succ, List.getElem?_cons_zero]; rfl) (by kernel_rfl) (by kernel_rfl) (by kernel_rfl) (by decide) (by kernel_rfl) (by exact fun _ _ _ h => h) (Or.inl ⟨by rfl, by (intro w hSw; (try dsimp only at hSw); go_simp; try (with_reducible rfl))⟩) hZ0.out ?_
  try simp only [Act.put, List.setIfInBounds_toArray, List.set_cons_zero, List.set_cons_succ]
  refine LastZ.take 4 (v := _) (by simp only [List.getElem?_toArray, List.getElem?_cons_succ, List.getElem?_cons_zero]; rfl) (by kernel_rfl) (by kernel_rfl) (by kernel_rfl) (by decide) (by kernel_rfl) (by exact fun _ _ _ h => h) (Or.inl ⟨by rfl, by (intro w hSw; (try dsimp only at hSw); go_simp; try (with_reducible rfl))⟩) hZ0.out ?_
  try simp only [Act.put, List.setIfInBounds_toArray, List.set_cons_zero, List.set_cons_succ]
  refine LastZ.take 5 (v := _) (by simp only [List.getElem?_toArray, List.getElem?_cons_succ, List.getElem?_cons_zero]; rfl) (by kernel_rfl) (by kernel_rfl) (by kernel_rfl) (by decide) (by kernel_rfl) (by exact fun _ _ _ h => h) (Or.inl ⟨by rfl, by (intro w hSw; (try dsimp only at hSw); go_simp; try (with_reducible rfl))⟩) hZ0.out ?_
  try simp only [Act.put, List.setIfInBounds_toArray, List.set_cons_zero, List.set_cons_succ]
  refine LastZ.take 6 (v := _) (by simp only [List.getElem?_toArray, List.getElem?_cons_succ, List.getElem?_cons_zero]; rfl) (by kernel_rfl) (by kernel_rfl) (by kernel_rfl) (by decide) (by kernel_rfl) (by exact fun _ _ _ h => h) (Or.inl ⟨by rfl, by (intro w hSw; (try dsimp only at hSw); go_simp; try (with_reducible rfl))⟩) hZ0.out ?_
  try simp only [Act.put, List.setIfInBounds_toArray, List.set_cons_zero, List.set_cons_succ]
  refine LastZ.take 7 (v := _) (by simp only [List.getElem?_toArray, List.getElem?_cons_succ, List.getElem?_cons_zero]; rfl) (by kernel_rfl) (by kernel_rfl) (by kernel_rfl) (by decide) (by kernel_rfl) (by exact fun _ _ _ h => h) (Or.inl ⟨by rfl, by (intro w hSw; (try dsimp only at hSw); go_simp; try (with_reducible rfl))⟩) hZ0.out ?_
  try simp only [Act.put, List.setIfInBounds_toArray, List.set_cons_zero, List.set_cons_succ]
  refine LastZ.take 8 (v := _) (by simp only [List.getElem?_toArray, List.getElem?_cons_succ, List.getElem?_cons_zero]; rfl) (by kernel_rfl) (by kernel_rfl) (by kernel_rfl) (by decide) (by kernel_rfl) (by exact fun _ _ _ h => h) (Or.inl ⟨by rfl, by (intro w hSw; (try dsimp only at hSw); go_simp; try (with_reducible rfl))⟩) hZ0.out ?_
  try simp only [Act.put, List.setIfInBounds_toArray, List.set_cons_zero, List.set_cons_succ]
  refine LastZ.take 9 (v := _) (by simp only [List.getElem?_toArray, List.getElem?_cons_succ, List.getElem?_cons_zero]; rfl) (by kernel_rfl) (by kernel_rfl) (by kernel_rfl) (by decide) (by kernel_rfl) (by exact fun _ _ _ h => h) (Or.inl ⟨by rfl, by (intro w hSw; (try dsimp only at hSw); go_simp; try (with_reducible rfl))⟩) hZ0.out ?_
  try simp only [Act.put, List.setIfInBounds_toArray, List.set_cons_zero, List.set_cons_succ]
  refine LastZ.take 10 (v := _) (by simp only [List.getElem?_toArray, List.getElem?_cons_succ, List.getElem?_cons_zero]; rfl) (by kernel_rfl) (by kernel_rfl) (by kernel_rfl) (by decide) (by kernel_rfl) (by exact fun _ _ _ h => h) (Or.inl ⟨by rfl, by (intro w hSw; (try dsimp only at hSw); go_simp; try (with_reducible rfl))⟩) hZ0.out ?_
  try simp only [Act.put, List.setIfInBounds_toArray, List.set_cons_zero, List.set_cons_succ]
  refine LastZ.take 11 (v := _) (by simp only [List.getElem?_toArray, List.getElem?_cons_succ, List.getElem?_cons_zero]; rfl) (by kernel_rfl) (by kernel_rfl) (by kernel_rfl) (by decide) (by kernel_rfl) (by exact fun _ _ _ h => h) (Or.inl ⟨by rfl, by (intro w hSw; (try dsimp only at hSw); go_simp; try (with_reducible rfl))⟩) hZ0.out ?_
  try simp only [Act.put, List.setIfInBounds_toArray, List.set_cons_zero, List.set_cons_succ]
  refine LastZ.take 12 (v := _) (by simp only [List.getElem?_toArray, List.getElem?_cons_succ, List.getElem?_cons_zero]; rfl) (by kernel_rfl) (by kernel_rfl) (by kernel_rfl) (by decide) (by kernel_rfl) (by exact fun _ _ _ h => h) (Or.inl ⟨by rfl, by (intro w hSw; (try dsimp only at hSw); go_simp; try (with_reducible rfl))⟩) hZ0.out ?_
  try simp only [Act.put, List.setIfInBounds_toArray, List.set_cons_zero, List.set_cons_succ]
  refine LastZ.one 13 (by kernel_rfl) (by simp only [List.getElem?_toArray, List.getElem?_cons_succ, List.getElem?_cons_zero]; rfl) (fun K hK => ?_)
  (go_simp; go_at_call 51; (with_reducible refine HSC.out.mono ?_); rintro e w5 ⟨v5, rfl, ho5, hb5⟩; (obtain ⟨hd5, hv5, hx5, hn5⟩ := RowX.of_own ho5); (have HX5 := Lib.hid hx5); (have HB5 : Hid (Below w.heap.size w w5) := (Below.refl _ w).drew.trans hb5); (have HV5 := Lib.hid hv5); (have HM5 := Lib.hid (HM.out.on HB5.out)); clear ho5 hb5 hx5 hn5 hv5; go_wp2_with fail)
  refine hK.out _ _ (by exact ⟨(World.cell?_of_block (HB5.out.block _ HLH.out)).trans HC0.out, (World.cell?_of_block (HB5.out.block _ HLG.out)).trans HCT.out⟩) (fun hHeldZ => ?_)
  have hZ1 := Lib.hid hHeldZ
  clear hK K hZ0 hHeldZ
  try simp only [Act.put, List.setIfInBounds_toArray, List.set_cons_zero, List.set_cons_succ]
  refine LastZ.take 14 (v := _) (by simp only [List.getElem?_toArray, List.getElem?_cons_succ, List.getElem?_cons_zero]; rfl) (by kernel_rfl) (by kernel_rfl) (by kernel_rfl) (by decide) (by kernel_rfl) (by exact fun _ _ _ h => h) (Or.inl ⟨by rfl, by (intro w hSw; (try dsimp only at hSw); go_simp; try (with_reducible rfl))⟩) hZ1.out ?_
  try simp only [Act.put, List.setIfInBounds_toArray, List.set_cons_zero, List.set_cons_succ]
  refine LastZ.last (by kernel_rfl) (by simp only [List.getElem?_toArray, List.getElem?_cons_succ, List.getElem?_cons_zero]; rfl) (by decide) (fun K hK => ?_)
  (obtain ⟨cur5, hcur5, hcs5⟩ := HM5.out.cells; (have hlt5 : top < cur5.size := (by obtain ⟨x, hx⟩ := get_ex (xs := hs0) (k := top) (by rw [HM5.out.len]; exact HTL.out); exact (Array.getElem?_eq_some_iff.1 (hcs5 _ x hx)).1)); (have HC5 := Lib.hid hcur5); (refine step_store_at1 rfl 30 (.tmp 38) (.tmp 37) rfl g TR top cur5 v5 (by rfl) (by rfl) HC5.out hlt5 Try.sizeR (by rw [HV5.out]; rfl) ?_); intro WZ6 HG6 HB6)
  refine hK.out _ _ ?_
  clear hK K
  try simp only [Act.put, List.setIfInBounds_toArray, List.set_cons_zero, List.set_cons_succ]
  refine LastZ.done (by kernel_rfl) ?_ _
  skip
  clear hc0 hct hcx HC0 HCT
  have HM6 : Hid (Mat WZ6 g (hs0.set top hd5) (clrK t top col m1 0)) := by
    have q := HM5.out.put HC5.out (by rw [← HV5.out]; exact HG6.out) HB6.out HX5.out
    show Mat ..
    rw [clrK_zero, ← HM1.out]
    exact q
  have HE6 : Hid (WZ6.heap[h]? = some (.cells (cE g N c pv p) TE (0, 0))) := (HB6.out.block _ (Nat.lt_of_lt_of_le HLH.out HB5.out.size) (Ne.symm HNE.out)).trans ((HB5.out.block _ HLH.out).trans HEE.out)
  have HBW : Hid (But (fun i => i = g) w WZ6) := (But.of_below (p := fun i => i = g) HB5.out).trans HB6.out (fun i hi => .inl hi)
  have hc6 : WZ6.cell? ⟨h, 0, none⟩ = some (.slice (some ⟨g, 0, none⟩) N c) := by rw [cell_of_row WZ6 h _ _ _ _ HE6.out]; rfl
  go_wp2_with fail
  clear hc6
  have HR6 : Hid (But (fun i => i = g) WZ6 WZ6) := But.refl _ _
  clear HG6 HB6 HM5 HC5
  go_loopw [44] (fun i wr => ∃ (k : Nat) (hs : List Hd), k ≤ N ∧ i = .int .i64 k ∧ Hid (But (fun i => i = g) WZ6 wr) ∧ Hid (Mat wr g hs (clrK t top col m1 k))) (fun i _ => N - (intOf i).toNat)
  case atStart => exact ⟨0, _, Nat.zero_le _, rfl, HR6, HM6⟩
  case round =>
    clear HR6 HM6
    obtain ⟨k, hs, hk, rfl, HB, HM⟩ := hrel
    have HKN : Hid ((clrK t top col m1 k).length = N) := by show _ = _; rw [clrK_len]; exact HL1.out
    have HE : Hid (wr.heap[h]? = some (.cells (cE g N c pv p) TE (0, 0))) := (HB.out.block _ (lt_block HE6.out) (Ne.symm HNE.out)).trans HE6.out
    by_cases hlt : k < N
    · have hkI : (k : Int) < (N : Int) := by omega
      have HKL : Hid (k < (clrK t top col m1 k).length) := by show _ < _; rw [HKN.out]; exact hlt
      obtain ⟨ra, rn, rc, rk, hhk, hrk, hck, hxk⟩ := HM.out.at_ HKL.out
      rw [clrK_now] at hrk
      have hro := HOK.out.get hrk
      obtain rfl : n = rn := hro.1.symm.trans hxk.2.1
      obtain ⟨y, hy⟩ := get_ex (xs := rk) (k := col) (by rw [hro.1]; omega)
      obtain ⟨rb, ro, rfl, hrb, hrat⟩ := hxk.sl.2 (by omega)
      have hcy : wr.cell? ⟨rb, ro + col, none⟩ = some (fN y) := hrat col y hy
      have hc0 : wr.cell? ⟨h, 0, none⟩ = some (.slice (some ⟨g, 0, none⟩) N c) := by rw [cell_of_row wr h _ _ _ _ HE.out]; rfl
      have hyd : rk.getD col 0 = y := getD_some hy
      by_cases h1 : k = top
      · have HST := Lib.hid (clrK_skip (t := t) (top := top) (col := col) hrk (.inl h1))
        subst h1
        clear hrk hro hy hrb hrat hyd hhk hxk
        go_wp2_with fail
        go_roundw
        case rel => exact ⟨k + 1, hs, by omega, by go_num, HB, by show Mat ..; rw [HST.out]; exact HM.out⟩
        case measure => simp [intOf]; omega
      · have h1a : ((k : Int) == (top : Int)) = false := by simp; omega
        have h1b : ((k : Int) != (top : Int)) = true := by simp; omega
        have h1c : decide ((k : Int) = (top : Int)) = false := by simp; omega
        have h1d : decide (k = top) = false := by simp; omega
        by_cases h2 : y = 0
        · have HST := Lib.hid (clrK_skip (t := t) (top := top) (col := col) hrk (.inr (hyd.trans h2)))
          subst h2
          clear hrk hro hy hrb hrat hyd hhk hxk
          go_wp2_with fail
          go_roundw
          case rel => exact ⟨k + 1, hs, by omega, by go_num, HB, by show Mat ..; rw [HST.out]; exact HM.out⟩
          case measure => simp [intOf]; omega
        · have h2a : ((y : Int) == 0) = false := by simp; omega
          have h2b : ((y : Int) != 0) = true := by simp; omega
          have hst := clrK_step (t := t) (top := top) (col := col) hrk
          have hc1 : clr1 t top col k rk = addv (sclv y t) rk := by
            unfold clr1
            rw [hyd, if_neg (by intro q; rcases q with q | q <;> omega)]
          rw [hc1] at hst
          have HST := Lib.hid hst
          obtain ⟨pa, pn, pc, tr, hhp, hrp, hcp, hxp⟩ := HM.out.at_ (k := top) (by rw [HKN.out]; omega)
          rw [clrK_top HT1.out] at hrp
          injection hrp with hrp
          subst hrp
          obtain rfl : n = pn := HPO.out.1.symm.trans hxp.2.1
          have HMA : Hid (Calls Try.prog 46 #[.slice (some ⟨rb, ro, none⟩) n rc, .slice pa n pc, fN y] wr.drew (OwP2 (addv (sclv y t) rk) wr.drew)) :=
            mulAdd_any (some ⟨rb, ro, none⟩) pa n rc pc y wr.heap.size rk t wr.drew hxk.sl hxp.sl (Nat.le_refl _) hro.2 HPO.out.2 (by omega) (hro.2 y (List.mem_of_getElem? hy))
          have HC0 := Lib.hid hc0
          have HCP := Lib.hid hcp
          have HCY := Lib.hid hcy
          have HLH : Hid (h < wr.heap.size) := lt_block HE.out
          have HLG : Hid (g < wr.heap.size) := HM.out.lt
          have HLR : Hid (rb < wr.heap.size) := hrb
          clear hrk hro hy hrb hrat hyd hhk hxk hst hc1 hhp hxp
          go_wp2_with fail
          refine LastZ.start (by kernel_rfl) (fun w' : World => w'.cell? ⟨h, 0, none⟩ = some (.slice (some ⟨g, 0, none⟩) N c) ∧ w'.cell? ⟨g, top, none⟩ = some (.slice pa n pc) ∧ w'.cell? ⟨rb, ro + col, none⟩ = some (fN y)) 22 ?_
          have hZ0 : Hid ((fun w' : World => w'.cell? ⟨h, 0, none⟩ = some (.slice (some ⟨g, 0, none⟩) N c) ∧ w'.cell? ⟨g, top, none⟩ = some (.slice pa n pc) ∧ w'.cell? ⟨rb, ro + col, none⟩ = some (fN y)) wr.drew) := (by exact ⟨hc0, hcp, hcy⟩)
          refine LastZ.take 0 (v := _) (by simp only [List.getElem?_toArray, List.getElem?_cons_zero]; rfl) (by kernel_rfl) (by kernel_rfl) (by kernel_rfl) (by decide) (by kernel_rfl) (by exact fun _ _ _ h => h) (Or.inl ⟨by rfl, by (intro w hSw; (try dsimp only at hSw); go_simp; try (with_reducible rfl))⟩) hZ0.out ?_
          try simp only [Act.put, List.setIfInBounds_toArray, List.set_cons_zero, List.set_cons_succ]
          refine LastZ.take 1 (v := _) (by simp only [List.getElem?_toArray, List.getElem?_cons_succ, List.getElem?_cons_zero]; rfl) (by kernel_rfl) (by kernel_rfl) (by kernel_rfl) (by decide) (by kernel_rfl) (by exact fun _ _ _ h => h) (Or.inl ⟨by rfl, by (intro w hSw; (try dsimp only at hSw); go_simp; try (with_reducible rfl))⟩) hZ0.out ?_
          try simp only [Act.put, List.setIfInBounds_toArray, List.set_cons_zero, List.set_cons_succ]
          refine LastZ.take 2 (v := _) (by simp only [List.getElem?_toArray, List.getElem?_cons_succ, List.getElem?_cons_zero]; rfl) (by kernel_rfl) (by kernel_rfl) (by kernel_rfl) (by decide) (by kernel_rfl) (by exact fun _ _ _ h => h) (Or.inl ⟨by rfl, by (intro w hSw; (try dsimp only at hSw); go_simp; try (with_reducible rfl))⟩) hZ0.out ?_
          try simp only [Act.put, List.setIfInBounds_toArray, List.set_cons_zero, List.set_cons_succ]
          refine LastZ.take 3 (v := _) (by simp only [List.getElem?_toArray, List.getElem?_cons_succ, List.getElem?_cons_zero]; rfl) (by kernel_rfl) (by kernel_rfl) (by kernel_rfl) (by decide) (by kernel_rfl) (by exact fun _ _ _ h => h) (Or.inl ⟨by rfl, by (intro w hSw; (try dsimp only at hSw); go_simp; try (with_reducible rfl))⟩) hZ0.out ?_
          try simp only [Act.put, List.setIfInBounds_toArray, List.set_cons_zero, List.set_cons_succ]
          refine LastZ.take 4 (v := _) (by simp only [List.getElem?_toArray, List.getElem?_cons_succ, List.getElem?_cons_zero]; rfl) (by kernel_rfl) (by kernel_rfl) (by kernel_rfl) (by decide) (by kernel_rfl) (by exact fun _ _ _ h => h) (Or.inl ⟨by rfl, by (intro w hSw; (try dsimp only at hSw); go_simp; try (with_reducible rfl))⟩) hZ0.out ?_
          try simp only [Act.put, List.setIfInBounds_toArray, List.set_cons_zero, List.set_cons_succ]
          refine LastZ.take 5 (v := _) (by simp only [List.getElem?_toArray, List.getElem?_cons_succ, List.getElem?_cons_zero]; rfl) (by kernel_rfl) (by kernel_rfl) (by kernel_rfl) (by decide) (by kernel_rfl) (by exact fun _ _ _ h => h) (Or.inl ⟨by rfl, by (intro w hSw; (try dsimp only at hSw); go_simp; try (with_reducible rfl))⟩) hZ0.out ?_
          try simp only [Act.put, List.setIfInBounds_toArray, List.set_cons_zero, List.set_cons_succ]
          refine LastZ.take 6 (v := _) (by simp only [List.getElem?_toArray, List.getElem?_cons_succ, List.getElem?_cons_zero]; rfl) (by kernel_rfl) (by kernel_rfl) (by kernel_rfl) (by decide) (by kernel_rfl) (by exact fun _ _ _ h => h) (Or.inl ⟨by rfl, by (intro w hSw; (try dsimp only at hSw); go_simp; try (with_reducible rfl))⟩) hZ0.out ?_
          try simp only [Act.put, List.setIfInBounds_toArray, List.set_cons_zero, List.set_cons_succ]
          refine LastZ.take 7 (v := _) (by simp only [List.getElem?_toArray, List.getElem?_cons_succ, List.getElem?_cons_zero]; rfl) (by kernel_rfl) (by kernel_rfl) (by kernel_rfl) (by decide) (by kernel_rfl) (by exact fun _ _ _ h => h) (Or.inl ⟨by rfl, by (intro w hSw; (try dsimp only at hSw); go_simp; try (with_reducible rfl))⟩) hZ0.out ?_
          try simp only [Act.put, List.setIfInBounds_toArray, List.set_cons_zero, List.set_cons_succ]
          refine LastZ.take 8 (v := _) (by simp only [List.getElem?_toArray, List.getElem?_cons_succ, List.getElem?_cons_zero]; rfl) (by kernel_rfl) (by kernel_rfl) (by kernel_rfl) (by decide) (by kernel_rfl) (by exact fun _ _ _ h => h) (Or.inl ⟨by rfl, by (intro w hSw; (try dsimp only at hSw); go_simp; try (with_reducible rfl))⟩) hZ0.out ?_
          try simp only [Act.put, List.setIfInBounds_toArray, List.set_cons_zero, List.set_cons_succ]
          refine LastZ.take 9 (v := _) (by simp only [List.getElem?_toArray, List.getElem?_cons_succ, List.getElem?_cons_zero]; rfl) (by kernel_rfl) (by kernel_rfl) (by kernel_rfl) (by decide) (by kernel_rfl) (by exact fun _ _ _ h => h) (Or.inl ⟨by rfl, by (intro w hSw; (try dsimp only at hSw); go_simp; try (with_reducible rfl))⟩) hZ0.out ?_
          try simp only [Act.put, List.setIfInBounds_toArray, List.set_cons_zero, List.set_cons_succ]
          refine LastZ.take 10 (v := _) (by simp only [List.getElem?_toArray, List.getElem?_cons_succ, List.getElem?_cons_zero]; rfl) (by kernel_rfl) (by kernel_rfl) (by kernel_rfl) (by decide) (by kernel_rfl) (by exact fun _ _ _ h => h) (Or.inl ⟨by rfl, by (intro w hSw; (try dsimp only at hSw); go_simp; try (with_reducible rfl))⟩) hZ0.out ?_
          try simp only [Act.put, List.setIfInBounds_toArray, List.set_cons_zero, List.set_cons_succ]
          refine LastZ.take 11 (v := _) (by simp only [List.getElem?_toArray, List.getElem?_cons_succ, List.getElem?_cons_zero]; rfl) (by kernel_rfl) (by kernel_rfl) (by kernel_rfl) (by decide) (by kernel_rfl) (by exact fun _ _ _ h => h) (Or.inl ⟨by rfl, by (intro w hSw; (try dsimp only at hSw); go_simp; try (with_reducible rfl))⟩) hZ0.out ?_
          try simp only [Act.put, List.setIfInBounds_toArray, List.set_cons_zero, List.set_cons_succ]
          refine LastZ.take 12 (v := _) (by simp only [List.getElem?_toArray, List.getElem?_cons_succ, List.getElem?_cons_zero]; rfl) (by kernel_rfl) (by kernel_rfl) (by kernel_rfl) (by decide) (by kernel_rfl) (by exact fun _ _ _ h => h) (Or.inl ⟨by rfl, by (intro w hSw; (try dsimp only at hSw); go_simp; try (with_reducible rfl))⟩) hZ0.out ?_
          try simp only [Act.put, List.setIfInBounds_toArray, List.set_cons_zero, List.set_cons_succ]
          refine LastZ.take 13 (v := _) (by simp only [List.getElem?_toArray, List.getElem?_cons_succ, List.getElem?_cons_zero]; rfl) (by kernel_rfl) (by kernel_rfl) (by kernel_rfl) (by decide) (by kernel_rfl) (by exact fun _ _ _ h => h) (Or.inl ⟨by rfl, by (intro w hSw; (try dsimp only at hSw); go_simp; try (with_reducible rfl))⟩) hZ0.out ?_
          try simp only [Act.put, List.setIfInBounds_toArray, List.set_cons_zero, List.set_cons_succ]
          refine LastZ.take 14 (v := _) (by simp only [List.getElem?_toArray, List.getElem?_cons_succ, List.getElem?_cons_zero]; rfl) (by kernel_rfl) (by kernel_rfl) (by kernel_rfl) (by decide) (by kernel_rfl) (by exact fun _ _ _ h => h) (Or.inl ⟨by rfl, by (intro w hSw; (try dsimp only at hSw); go_simp; try (with_reducible rfl))⟩) hZ0.out ?_
          try simp only [Act.put, List.setIfInBounds_toArray, List.set_cons_zero, List.set_cons_succ]
          refine LastZ.take 15 (v := _) (by simp only [List.getElem?_toArray, List.getElem?_cons_succ, List.getElem?_cons_zero]; rfl) (by kernel_rfl) (by kernel_rfl) (by kernel_rfl) (by decide) (by kernel_rfl) (by exact fun _ _ _ h => h) (Or.inl ⟨by rfl, by (intro w hSw; (try dsimp only at hSw); go_simp; try (with_reducible rfl))⟩) hZ0.out ?_
          try simp only [Act.put, List.setIfInBounds_toArray, List.set_cons_zero, List.set_cons_succ]
          refine LastZ.take 16 (v := _) (by simp only [List.getElem?_toArray, List.getElem?_cons_succ, List.getElem?_cons_zero]; rfl) (by kernel_rfl) (by kernel_rfl) (by kernel_rfl) (by decide) (by kernel_rfl) (by exact fun _ _ _ h => h) (Or.inl ⟨by rfl, by (intro w hSw; (try dsimp only at hSw); go_simp; try (with_reducible rfl))⟩) hZ0.out ?_
          try simp only [Act.put, List.setIfInBounds_toArray, List.set_cons_zero, List.set_cons_succ]
          refine LastZ.one 17 (by kernel_rfl) (by simp only [List.getElem?_toArray, List.getElem?_cons_succ, List.getElem?_cons_zero]; rfl) (fun K hK => ?_)
          (go_simp; go_at_call 46; (with_reducible refine HMA.out.mono ?_); rintro e w5 ⟨v5, rfl, ho5, hb5⟩; (obtain ⟨hd5, hv5, hx5, hn5⟩ := RowX.of_own ho5); (have HX5 := Lib.hid hx5); (have HB5 : Hid (Below wr.heap.size wr w5) := (Below.refl _ wr).drew.trans hb5); (have HV5 := Lib.hid hv5); (have HM5 := Lib.hid (HM.out.on HB5.out)); clear ho5 hb5 hx5 hn5 hv5; go_wp2_with fail)
          refine hK.out _ _ (by exact ⟨(World.cell?_of_block (HB5.out.block _ HLH.out)).trans HC0.out, (World.cell?_of_block (HB5.out.block _ HLG.out)).trans HCP.out, (World.cell?_of_block (HB5.out.block _ HLR.out)).trans HCY.out⟩) (fun hHeldZ => ?_)
          have hZ1 := Lib.hid hHeldZ
          clear hK K hZ0 hHeldZ
          try simp only [Act.put, List.setIfInBounds_toArray, List.set_cons_zero, List.set_cons_succ]
          refine LastZ.take 18 (v := _) (by simp only [List.getElem?_toArray, List.getElem?_cons_succ, List.getElem?_cons_zero]; rfl) (by kernel_rfl) (by kernel_rfl) (by kernel_rfl) (by decide) (by kernel_rfl) (by exact fun _ _ _ h => h) (Or.inl ⟨by rfl, by (intro w hSw; (try dsimp only at hSw); go_simp; try (with_reducible rfl))⟩) hZ1.out ?_
          try simp only [Act.put, List.setIfInBounds_toArray, List.set_cons_zero, List.set_cons_succ]
          refine LastZ.take 19 (v := _) (by simp only [List.getElem?_toArray, List.getElem?_cons_succ, List.getElem?_cons_zero]; rfl) (by kernel_rfl) (by kernel_rfl) (by kernel_rfl) (by decide) (by kernel_rfl) (by exact fun _ _ _ h => h) (Or.inl ⟨by rfl, by (intro w hSw; (try dsimp only at hSw); go_simp; try (with_reducible rfl))⟩) hZ1.out ?_
          try simp only [Act.put, List.setIfInBounds_toArray, List.set_cons_zero, List.set_cons_succ]
          refine LastZ.takeW 20 (v := _) (by simp only [List.getElem?_toArray, List.getElem?_cons_succ, List.getElem?_cons_zero]; rfl) (by kernel_rfl) (by kernel_rfl) (by kernel_rfl) (by decide) (by exact fun _ _ _ h => h) (Or.inl ⟨by rfl, by (intro w hSw; (try dsimp only at hSw); go_simp; try (with_reducible rfl))⟩) hZ1.out ?_
          try simp only [Act.put, List.setIfInBounds_toArray, List.set_cons_zero, List.set_cons_succ]
          refine LastZ.take 21 (v := _) (by simp only [List.getElem?_toArray, List.getElem?_cons_succ, List.getElem?_cons_zero]; rfl) (by kernel_rfl) (by kernel_rfl) (by kernel_rfl) (by decide) (by kernel_rfl) (by exact fun _ _ _ h => h) (Or.inl ⟨by rfl, by (intro w hSw; (try dsimp only at hSw); go_simp; try (with_reducible rfl))⟩) hZ1.out ?_
          try simp only [Act.put, List.setIfInBounds_toArray, List.set_cons_zero, List.set_cons_succ]
          refine LastZ.last (by kernel_rfl) (by simp only [List.getElem?_toArray, List.getElem?_cons_succ, List.getElem?_cons_zero]; rfl) (by decide) (fun K hK => ?_)
          (obtain ⟨cur5, hcur5, hcs5⟩ := HM5.out.cells; (have hlt5 : k < cur5.size := (by obtain ⟨x, hx⟩ := get_ex (xs := hs) (k := k) (by rw [HM5.out.len]; exact HKL.out); exact (Array.getElem?_eq_some_iff.1 (hcs5 _ x hx)).1)); (have HC5 := Lib.hid hcur5); (refine step_store_at1 rfl 30 (.tmp 80) (.tmp 78) rfl g TR k cur5 v5 (by rfl) (by rfl) HC5.out hlt5 Try.sizeR (by rw [HV5.out]; rfl) ?_); intro W6 HG6 HB6)
          refine hK.out _ _ ?_
          clear hK K
          try simp only [Act.put, List.setIfInBounds_toArray, List.set_cons_zero, List.set_cons_succ]
          refine LastZ.done (by kernel_rfl) ?_ _
          skip
          go_wp2_with fail
          have HM6 : Hid (Mat W6 g (hs.set k hd5) (clrK t top col m1 (k + 1))) := by
            have q := HM5.out.put HC5.out (by rw [← HV5.out]; exact HG6.out) HB6.out HX5.out
            show Mat ..
            rw [← HST.out]
            exact q
          have HBn : Hid (But (fun i => i = g) WZ6 W6) := HB.out.trans ((But.of_below (p := fun i => i = g) HB5.out).trans HB6.out (fun i hi => .inl hi)) (fun i hi => .inl hi)
          go_roundw
          case rel => exact ⟨k + 1, _, by omega, by go_num, HBn, HM6⟩
          case measure => simp [intOf]; omega
    · obtain rfl : k = N := by omega
      have hE := clrK_all t top col m1
      rw [HL1.out] at hE
      have HEE2 := Lib.hid hE
      clear hE
      go_wp2_with fail
      refine bodyPost_ret (results_none rfl _ _ _) rfl ?_
      exact ⟨hs, rfl, by rw [← HEE2.out]; exact HM.out, HBW.out.trans HB.out (fun i hi => .inl hi)⟩
end Go.Proofs.Ytpbeaghghlfiaaa
