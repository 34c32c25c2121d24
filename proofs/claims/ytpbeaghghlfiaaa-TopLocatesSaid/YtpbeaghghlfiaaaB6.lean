/- matrix: reduce. -/
import Derived.Test.YtpbeaghghlfiaaaB5
import Derived.WalkMore
namespace Go.Proofs.Ytpbeaghghlfiaaa
open Go.RowKit Go.Lib
set_option linter.unusedVariables false
set_option linter.unusedSimpArgs false
abbrev fI (k : Nat) : Value := .int .i64 (k : Int)
theorem Try.sizeP : (Try.prog.info? 33).map (·.size) = some 1 := by kernel_rfl
theorem Try.infoI8 : (Try.prog.info? 3).map (fun i => (i.zero, i.size, i.bytes)) = some (some (.int .i64 0), 1, 8) := by kernel_rfl
theorem step_app {P : Program} {w : World} {α : Type} {f : α → Value} {ops : Array Oper} {o : Oper} {a : Act} {K : Act → World → Prop} {Q : Exit → Act → World → Prop} {E : Prop} (sl x : Operand) (t : TypeId)
    (ho : o.op = .call { callee := .builtin .append, args := #[sl, x], argTypes := #[t, t] }) (hgd : o.guard = none)
    (e : TypeId) (i : TypeInfo) (z : Value) (bytes : Nat) (ht : P.underlying t = some (.slice e)) (hi : P.info? e = some i) (hz : i.zero = some z)
    (hsize : i.size = 1) (hby : i.bytes = bytes) (hzs : z.cells.size = 1) (xs : List α) (base : Nat) (hown : Own f e w base (a.eval sl) xs)
    (ys : List α) (hr : ∃ B A m c, a.eval x = .slice A m c ∧ Sl f w B A m ys) (h1 : ∀ y, (f y).oneCell' = true) (hbytes : (xs.length + ys.length) * bytes ≤ 140737488355328) (hmax : xs.length + ys.length ≤ maxLen) (hbase : base ≤ w.heap.size)
    (h : ∀ v' w', Hid (Own f e w' base v' (xs ++ ys)) → Hid (w.grownBy w' (a.eval sl).ownBlock) → Hid (v'.ownBlock = (a.eval sl).ownBlock ∨ v'.ownBlock = some w.heap.size) → Hid (∀ B0 w0, Below B0 w0 w → B0 ≤ base → Below B0 w0 w') → K (a.put o.dst v') w') :
    if Region.wanted o (yielded ops a.tmps) = true then Oper.wp P o a w K Q else E := by
  have hw : Region.wanted o (yielded ops a.tmps) = true := by simp [Region.wanted, hgd]
  rw [if_pos hw]
  obtain ⟨B, A, m, c, hx, hr⟩ := hr
  exact wp_app sl x t ho e i z bytes ht hi hz hsize hby hzs _ xs base rfl hown A m c B ys hx hr h1 hbytes hmax hbase fun v' w' h2 h3 h4 => h v' w' h2 h3 h4 fun B0 w0 hb hB => hown.below hb hB (Nat.le_trans hB hbase) h3
theorem below_dN {B : Nat} {w w' : World} (h : Below B w w') (n : Nat) : Below B w (w'.drewN n) := ⟨h.os, h.tape, h.output, h.size, h.block⟩
/-- What reduce leaves. -/
def RdP (h g N c base : Nat) (R : Mt × List Nat) (w : World) (e : Ending) (w' : World) : Prop :=
  ∃ hs pv p, e = .returned (.tuple #[]) ∧ w'.heap[h]? = some (.cells (cE g N c pv p) TE (0, 0)) ∧ Mat w' g hs R.1 ∧ Own fI TI w' base pv R.2 ∧ Below base w w'
theorem type_ne {w : World} {a b : Nat} {cs ds : Array Value} {s t : TypeId} {f1 f2 : Nat × Nat} (h1 : w.heap[a]? = some (.cells cs s f1)) (h2 : w.heap[b]? = some (.cells ds t f2)) (h : s ≠ t) : a ≠ b := fun e => by
  subst e
  rw [h1] at h2
  injection h2 with h2
  injection h2 with _ h2 _
  exact h h2
theorem Own.type_ne {α : Type} {f : α → Value} {e t : TypeId} {w : World} {base b : Nat} {v : Value} {xs : List α} {ds : Array Value} {f2 : Nat × Nat} (h : Own f e w base v xs) (h2 : w.heap[b]? = some (.cells ds t f2)) (hne : e ≠ t) : v.ownBlock = none ∨ v.ownBlock ≠ some b := by
  rcases h.2 with ⟨rfl, h0⟩ | ⟨g', cap, cur, rfl, h1, hg', h3⟩
  · exact .inl rfl
  · right
    intro q
    have e1 : g' = b := by injection q
    subst e1
    rw [hg'] at h2
    injection h2 with h2
    injection h2 with _ h2 _
    exact hne h2
theorem Mat.grown {w w' : World} {g : Nat} {hs : List Hd} {m : Mt} {row : Option Nat} (h : Mat w g hs m) (hb : w.grownBy w' row) (hr : ∀ b, row = some b → ∃ cs t fr, w.heap[b]? = some (.cells cs t fr) ∧ T8 ≠ t ∧ TR ≠ t) : Mat w' g hs m where
  cells := by
    obtain ⟨cur, h1, h2⟩ := h.cells
    refine ⟨cur, (hb.block g h.lt (fun e => ?_)).trans h1, h2⟩
    obtain ⟨cs, t, fr, q1, _, q3⟩ := hr g e.symm
    exact Go.Proofs.Ytpbeaghghlfiaaa.type_ne h1 q1 q3 rfl
  len := h.len
  rows := fun k hd r h1 h2 => (h.rows k hd r h1 h2).grown hb (fun b e => by obtain ⟨cs, t, fr, q1, q2, _⟩ := hr b e; exact ⟨cs, t, fr, q1, q2⟩)
theorem Own.block {α : Type} {f : α → Value} {e : TypeId} {w : World} {base b : Nat} {v : Value} {xs : List α} (h : Own f e w base v xs) (hb : v.ownBlock = some b) : ∃ cs, w.heap[b]? = some (.cells cs e (0, 0)) := by
  rcases h.2 with ⟨rfl, h0⟩ | ⟨g', cap, cur, rfl, h1, hg', h3⟩
  · cases hb
  · injection hb with hb
    subst hb
    exact ⟨cur, hg'⟩
theorem But.grown {w w' : World} {b : Nat} (h : But (fun i => i = b) w w') : w.grownBy w' (some b) := ⟨h.os, h.tape, h.output, h.size, fun k hk hne => h.block k hk (fun e => hne (by rw [e]))⟩
set_option maxRecDepth 100000 in
set_option maxHeartbeats 8000000 in
theorem reduce_any (h g N c p0 n cols base : Nat) (hs0 : List Hd) (m0 : Mt) (w : World) (hE : w.heap[h]? = some (.cells (cE g N c (.slice none 0 0) p0) TE (0, 0))) (hp : p0 < 256) (hM : Mat w g hs0 m0) (hN : m0.length = N) (hok : MtOk n m0) (hc : cols ≤ n) (hn : n ≤ 1000) (hN2 : N ≤ 64) (hb1 : base ≤ h) (hb2 : base ≤ g) (hb3 : base ≤ w.heap.size) :
    Calls Try.prog 45 #[.pointer (some ⟨h, 0, none⟩), .int .i64 cols] w (RdP h g N c base (redP cols 0 m0 []) w) := by
  obtain ⟨W1, hW1⟩ : ∃ W, W = w.alloc (.cells #[.pointer (some ⟨h, 0, none⟩)] TPE) := ⟨_, rfl⟩
  have hbw : Below w.heap.size w W1 := by rw [hW1]; exact (Below.refl _ _).alloc (Nat.le_refl _) _
  have HG1 : Hid (W1.heap[w.heap.size]? = some (.cells #[.pointer (some ⟨h, 0, none⟩)] TPE (0, 0))) := by show _ = _; rw [hW1]; exact heap_alloc_new w _
  have HE1 : Hid (W1.heap[h]? = some (.cells (cE g N c (.slice none 0 0) p0) TE (0, 0))) := (hbw.block _ (lt_block hE)).trans hE
  have HM1 := Lib.hid (hM.on hbw)
  have HB1 : Hid (Below base w W1) := hbw.mono hb3
  have HP1 : Hid (Own fI TI W1 base (.slice none 0 0) ([] : List Nat)) := Own.nil
  obtain ⟨R, hR⟩ : ∃ R, redP cols 0 m0 [] = R := ⟨_, rfl⟩
  have HR1 : Hid (redP (cols - 0) 0 m0 [] = R) := hR
  rw [hR]
  have HWE := Lib.hid hW1
  have HBH := Lib.hid hb1
  have HBG := Lib.hid hb2
  have HB3 := Lib.hid hb3
  have HQ1 : Hid (p0 < 256 ∧ m0.length = N ∧ MtOk n m0 ∧ ([] : List Nat).length ≤ N) := ⟨hp, hN, hok, Nat.zero_le _⟩
  have HCN := Lib.hid hc
  have HNN := Lib.hid hn
  have HN2 := Lib.hid hN2
  have hcI : (cols : Int) ≤ 1000 := by omega
  have hmf : ∀ (fn : Fn) (first cap : Array Value) (w : World), (Instr.makeFunc fn first cap).run Try.prog w = .ok (.func fn first cap) w := fun _ _ _ _ => rfl
  clear hE hp hM hN hok hb1 hb2 hb3 hR hW1 hbw hc hn hN2
  go_enter Try.func45, Try.ntmps45
  go_upto_region 1 with fail
  rw [← HWE.out]
  clear HWE
  go_wp2_with fail
  go_step3
  go_wp2_with fail
  (try go_step3)
  go_wp2_with fail
  go_loopw [9] (fun i wr => ∃ (k : Nat) (hs : List Hd) (m : Mt) (piv : List Nat) (pv : Value) (p : Nat), k ≤ cols ∧ i = .int .i64 k ∧ Hid (Below base w wr) ∧ Hid (wr.heap[w.heap.size]? = some (.cells #[.pointer (some ⟨h, 0, none⟩)] TPE (0, 0))) ∧ Hid (wr.heap[h]? = some (.cells (cE g N c pv p) TE (0, 0))) ∧ Hid (Mat wr g hs m) ∧ Hid (Own fI TI wr base pv piv) ∧ Hid (p < 256 ∧ m.length = N ∧ MtOk n m ∧ piv.length ≤ N) ∧ Hid (redP (cols - k) k m piv = R)) (fun i _ => cols - (intOf i).toNat)
  case atStart => exact ⟨0, hs0, m0, [], _, p0, Nat.zero_le _, rfl, HB1, HG1, HE1, HM1, HP1, HQ1, HR1⟩
  case round =>
    clear HB1 HG1 HE1 HM1 HP1 HQ1 HR1
    obtain ⟨col, hs, m, piv, pv, p, hk, rfl, HB, HG, HE, HM, HP, HQ, HR⟩ := hrel
    by_cases hlt : col < cols
    · have hkI : (col : Int) < (cols : Int) := by omega
      obtain ⟨top, htop⟩ : ∃ t, piv.length = t := ⟨_, rfl⟩
      obtain ⟨PA, pc, hpv, hpc⟩ := HP.out.shape'
      rw [htop] at hpv hpc
      subst hpv
      obtain ⟨hp, hml, hok, htN⟩ := HQ.out
      rw [htop] at htN
      obtain ⟨bc, hbc⟩ : ∃ b, b = wr.heap.size := ⟨_, rfl⟩
      obtain ⟨bt, hbt⟩ : ∃ b, b = wr.heap.size + 1 := ⟨_, rfl⟩
      obtain ⟨W2, hW2⟩ : ∃ W, W = (wr.alloc (.cells #[.int .i64 (col : Int)] TI)).alloc (.cells #[.int .i64 (top : Int)] TI) := ⟨_, rfl⟩
      have hb2 : Below wr.heap.size wr W2 := by rw [hW2]; exact ((Below.refl _ _).alloc (Nat.le_refl _) _).alloc (by simp) _
      have hgc : W2.heap[bc]? = some (.cells #[.int .i64 (col : Int)] TI (0, 0)) := by rw [hbc, hW2]; exact (Below.heap_alloc _ _ _ (by simp)).trans (heap_alloc_new wr _)
      have hgt : W2.heap[bt]? = some (.cells #[.int .i64 (top : Int)] TI (0, 0)) := by
        have q := heap_alloc_new (wr.alloc (.cells #[.int .i64 (col : Int)] TI)) (.cells #[.int .i64 (top : Int)] TI)
        rw [← hW2, show (wr.alloc (.cells #[.int .i64 (col : Int)] TI)).heap.size = bt by rw [hbt]; simp] at q
        exact q
      have hge := (hb2.block _ (lt_block HG.out)).trans HG.out
      have hhe := (hb2.block _ (lt_block HE.out)).trans HE.out
      have hM2 := HM.out.on hb2
      have hP2 := HP.out.on hb2
      have HFD := Lib.hid (find_any bt w.heap.size bc h g N c p n top col (.slice PA top pc) hs m W2 hgt hge hgc hhe hM2 hml hok htN (by have := HCN.out; omega) HNN.out HN2.out)
      have HB2 : Hid (Below base w W2) := HB.out.trans (hb2.mono (Nat.le_trans HB3.out HB.out.size))
      have HGC := Lib.hid hgc
      have HGT := Lib.hid hgt
      have HGE := Lib.hid hge
      have HHE := Lib.hid hhe
      have HM2 := Lib.hid hM2
      have HP2 := Lib.hid hP2
      have HOK := Lib.hid hok
      have HPL := Lib.hid hp
      have HML := Lib.hid hml
      have HTP := Lib.hid htop
      have HTN := Lib.hid htN
      have HPC := Lib.hid hpc
      have HWE := Lib.hid hW2
      have HBC := Lib.hid hbc
      have HBT := Lib.hid hbt
      have k1 := one_cell HG.out
      have k4 : wr.cell? ⟨h, 1, none⟩ = some (.slice PA top pc) := by rw [cell_of_row wr h _ _ _ _ HE.out]; rfl
      have k1' : ∀ o, (wr.alloc o).cell? ⟨w.heap.size, 0, none⟩ = some (.pointer (some ⟨h, 0, none⟩)) := fun o => (World.cell?_of_block (Below.heap_alloc wr o _ (lt_block HG.out))).trans k1
      have k4' : ∀ o, (wr.alloc o).cell? ⟨h, 1, none⟩ = some (.slice PA top pc) := fun o => (World.cell?_of_block (Below.heap_alloc wr o _ (lt_block HE.out))).trans k4
      have HPB : Hid (∀ b, (Value.slice PA top pc).ownBlock = some b → b < bc) := fun b hb => by rw [hbc]; exact (World.ownsRow.lt HP.out b hb).2
      clear hW2 hb2 hgc hgt hge hhe hM2 hP2 hp hml hok htop htN hpc hbc hbt
      go_upto_region 5 with fail
      clear k1 k4 k1' k4'
      rw [← HWE.out, ← HBT.out, ← HBC.out]
      obtain ⟨fr, hfr⟩ : ∃ fr, findP m col (N - top) top = fr := ⟨_, rfl⟩
      rw [hfr] at HFD
      have HFR := Lib.hid hfr
      clear hfr HB HG HE HM HP HQ HWE
      go_upto_region 7 with (go_at_call 49; (with_reducible refine HFD.out.mono ?_); rintro e w3 ⟨rfl, q, hq⟩; (have HB23 : Hid (Below W2.heap.size W2 w3) := (by show Below ..; rw [hq]; exact below_dN (Below.refl _ _) _)); clear hq)
      have hge := (HB23.out.block _ (lt_block HGE.out)).trans HGE.out
      have hhe := (HB23.out.block _ (lt_block HHE.out)).trans HHE.out
      have hgt := (HB23.out.block _ (lt_block HGT.out)).trans HGT.out
      have hgc := (HB23.out.block _ (lt_block HGC.out)).trans HGC.out
      have HM3w := Lib.hid (HM2.out.on HB23.out)
      have HP3 := Lib.hid (HP2.out.on HB23.out)
      have HB03 : Hid (Below base w w3) := HB2.out.trans (HB23.out.mono (Nat.le_trans HB3.out (Nat.le_of_lt (lt_block HGE.out))))
      have HQ3 : Hid (p < 256 ∧ m.length = N ∧ MtOk n m ∧ piv.length ≤ N) := ⟨HPL.out, HML.out, HOK.out, by rw [HTP.out]; exact HTN.out⟩
      have HGE3 := Lib.hid hge
      have HHE3 := Lib.hid hhe
      have HGT3 := Lib.hid hgt
      have HGC3 := Lib.hid hgc
      clear hge hhe hgt hgc HFD HM2 HP2 HGC HGT HGE HHE HB2
      cases fr with
      | none =>
        have HR2 : Hid (redP (cols - (col + 1)) (col + 1) m piv = R) := by
          have q := HR.out
          rw [show cols - col = (cols - (col + 1)) + 1 by omega, redP_none (by rw [HML.out, HTP.out]; exact HFR.out)] at q
          exact q
        have hf1 : fdV none < 0 := by decide
        have hf2 : fdV none = -1 := rfl
        go_wp2_with fail
        go_roundw
        case rel => exact ⟨col + 1, hs, m, piv, _, p, by omega, by go_num, HB03, HGE3, HHE3, HM3w, HP3, HQ3, HR2⟩
        case measure => simp [intOf]; omega
      | some f =>
        obtain ⟨hf1, hf2⟩ := findP_lt HFR.out
        have HR2 : Hid (redP (cols - (col + 1)) (col + 1) (clearP (swapP m top f) top col) (piv ++ [col]) = R) := by
          have q := HR.out
          rw [show cols - col = (cols - (col + 1)) + 1 by omega, redP_some (f := f) (by rw [HML.out, HTP.out]; exact HFR.out), HTP.out] at q
          exact q
        have hf4 : fdV (some f) = (f : Int) := rfl
        have htl : top < m.length := by rw [HML.out]; omega
        have hfl : f < m.length := by rw [HML.out]; have := HTN.out; omega
        obtain ⟨fa, fn, fc, rf, hhf, hrf, hcf, hxf⟩ := HM3w.out.at_ hfl
        obtain ⟨ta, tn, tc, rt, hht, hrt, hct, hxt⟩ := HM3w.out.at_ htl
        obtain rfl : n = fn := (HOK.out.get hrf).1.symm.trans hxf.2.1
        obtain rfl : n = tn := (HOK.out.get hrt).1.symm.trans hxt.2.1
        have hsw : swapP m top f = (m.set top rf).set f rt := by unfold swapP; rw [getD_some hrf, getD_some hrt]
        have HSW := Lib.hid hsw
        have HXF : Hid (RowX w3.drew ⟨fa, n, fc⟩ rf) := hxf
        have HXT := Lib.hid hxt
        have HM3 : Hid (Mat w3.drew g hs m) := HM3w.out.on (Below.refl _ w3).drew
        have HTL := Lib.hid htl
        have HFLm := Lib.hid hfl
        have k1 := one_cell HGE3.out
        have k2 : w3.cell? ⟨h, 0, none⟩ = some (.slice (some ⟨g, 0, none⟩) N c) := by rw [cell_of_row w3 h _ _ _ _ HHE3.out]; rfl
        have k3 := one_cell HGT3.out
        have k5 := hcf
        have k6 := hct
        have hfI : (f : Int) < (N : Int) := by rw [← HML.out]; omega
        have htI : (top : Int) < (N : Int) := by rw [← HML.out]; omega
        have hn1 : ¬ ((f : Int) < 0) := by omega
        rw [hf4]
        clear hhf hrf hcf hxf hht hrt hct hxt hsw HR HFR hf1 hf2 hf4 htl hfl
        go_wp2_with fail
        refine LastZ.start (by kernel_rfl) (fun w' : World => w'.cell? ⟨w.heap.size, 0, none⟩ = some (.pointer (some ⟨h, 0, none⟩)) ∧ w'.cell? ⟨h, 0, none⟩ = some (.slice (some ⟨g, 0, none⟩) N c) ∧ w'.cell? ⟨bt, 0, none⟩ = some (.int .i64 top) ∧ w'.cell? ⟨g, f, none⟩ = some (.slice fa n fc) ∧ w'.cell? ⟨g, top, none⟩ = some (.slice ta n tc)) 25 ?_
        have hZ0 : Hid ((fun w' : World => w'.cell? ⟨w.heap.size, 0, none⟩ = some (.pointer (some ⟨h, 0, none⟩)) ∧ w'.cell? ⟨h, 0, none⟩ = some (.slice (some ⟨g, 0, none⟩) N c) ∧ w'.cell? ⟨bt, 0, none⟩ = some (.int .i64 top) ∧ w'.cell? ⟨g, f, none⟩ = some (.slice fa n fc) ∧ w'.cell? ⟨g, top, none⟩ = some (.slice ta n tc)) w3.drew) := (by exact ⟨k1, k2, k3, k5, k6⟩)
        refine LastZ.take 0 (v := _) (by simp only [List.getElem?_toArray, List.getElem?_cons_zero]; rfl) (by kernel_rfl) (by kernel_rfl) (by kernel_rfl) (by decide) (by kernel_rfl) (by exact fun _ _ _ h => h) (Or.inl ⟨by rfl, by (intro w hSw; (try dsimp only at hSw); go_simp; try (with_reducible rfl))⟩) hZ0.out ?_
        try simp only [Act.put, List.setIfInBounds_toArray, List.set_cons_zero, List.set_cons_succ]
        refine LastZ.take 1 (v := _) (by simp only [List.getElem?_toArray, List.getElem?_cons_succ, List.getElem?_cons_zero]; rfl) (by kernel_rfl) (by kernel_rfl) (by kernel_rfl) (by decide) (by kernel_rfl) (by exact fun _ _ _ h => h) (Or.inl ⟨by rfl, by (intro w hSw; (try dsimp only at hSw); go_simp; try (with_reducible rfl))⟩) hZ0.out ?_
        try simp only [Act.put, List.setIfInBounds_toArray, List.set_cons_zero, List.set_cons_succ]
        refine LastZ.take 2 (v := _) (by simp only [List.getElem?_toArray, List.getElem?_cons_succ, List.getElem?_cons_zero]; rfl) (by kernel_rfl) (by kernel_rfl) (by kernel_rfl) (by decide) (by kernel_rfl) (by exact fun _ _ _ h => h) (Or.inl ⟨by rfl, by (intro w hSw; (try dsimp only at hSw); go_simp; try (with_reducible rfl))⟩) hZ0.out ?_
        try simp only [Act.put, List.setIfInBounds_toArray, List.set_cons_zero, List.set_cons_succ]
        refine LastZ.take 3 (v := _) (by simp only [List.getElem?_toArray, List.getElem?_cons_succ, List.getElem?_cons_zero]; rfl) (by kernel_rfl) (by kernel_rfl) (by kernel_rfl) (by decide) (by kernel_rfl) (by exact fun _ _ _ h => h) (Or.inl ⟨by rfl, by (intro w hSw; (try dsimp only at hSw); go_simp; try (with_reducible rfl))⟩) hZ0.out ?_
        try simp only [Act.put, List.setIfInBounds_toArray, List.set_cons_zero, List.set_cons_succ]
        refine LastZ.take 4 (v := _) (by simp only [List.getElem?_toArray, List.getElem?_cons_succ, List.getElem?_cons_zero]; rfl) (by kernel_rfl) (by kernel_rfl) (by kernel_rfl) (by decide) (by kernel_rfl) (by exact fun _ _ _ h => h) (Or.inl ⟨by rfl, by (intro w hSw; (try dsimp only at hSw); go_simp; try (with_reducible rfl))⟩) hZ0.out ?_
        try simp only [Act.put, List.setIfInBounds_toArray, List.set_cons_zero, List.set_cons_succ]
        refine LastZ.take 5 (v := _) (by simp only [List.getElem?_toArray, List.getElem?_cons_succ, List.getElem?_cons_zero]; rfl) (by kernel_rfl) (by kernel_rfl) (by kernel_rfl) (by decide) (by kernel_rfl) (by exact fun _ _ _ h => h) (Or.inl ⟨by rfl, by (intro w hSw; (try dsimp only at hSw); go_simp; try (with_reducible rfl))⟩) hZ0.out ?_
        try simp only [Act.put, List.setIfInBounds_toArray, List.set_cons_zero, List.set_cons_succ]
        refine LastZ.take 6 (v := _) (by simp only [List.getElem?_toArray, List.getElem?_cons_succ, List.getElem?_cons_zero]; rfl) (by kernel_rfl) (by kernel_rfl) (by kernel_rfl) (by decide) (by kernel_rfl) (by exact fun _ _ _ h => h) (Or.inl ⟨by rfl, by (intro w hSw; (try dsimp only at hSw); go_simp; try (with_reducible rfl))⟩) hZ0.out ?_
        try simp only [Act.put, List.setIfInBounds_toArray, List.set_cons_zero, List.set_cons_succ]
        refine LastZ.take 7 (v := _) (by simp only [List.getElem?_toArray, List.getElem?_cons_succ, List.getElem?_cons_zero]; rfl) (by kernel_rfl) (by kernel_rfl) (by kernel_rfl) (by decide) (by kernel_rfl) (by exact fun _ _ _ h => h) (Or.inl ⟨by rfl, by (intro w hSw; (try dsimp only at hSw); go_simp; try (with_reducible rfl))⟩) hZ0.out ?_
        try simp only [Act.put, List.setIfInBounds_toArray, List.set_cons_zero, List.set_cons_succ]
        refine LastZ.take 8 (v := _) (by simp only [List.getElem?_toArray, List.getElem?_cons_succ, List.getElem?_cons_zero]; rfl) (by kernel_rfl) (by kernel_rfl) (by kernel_rfl) (by decide) (by kernel_rfl) (by exact fun _ _ _ h => h) (Or.inl ⟨by rfl, by (intro w hSw; (try dsimp only at hSw); go_simp; try (with_reducible rfl))⟩) hZ0.out ?_
        try simp only [Act.put, List.setIfInBounds_toArray, List.set_cons_zero, List.set_cons_succ]
        refine LastZ.takeW 9 (v := _) (by simp only [List.getElem?_toArray, List.getElem?_cons_succ, List.getElem?_cons_zero]; rfl) (by kernel_rfl) (by kernel_rfl) (by kernel_rfl) (by decide) (by exact fun _ _ _ h => h) (Or.inl ⟨by rfl, by (intro w hSw; (try dsimp only at hSw); go_simp; try (with_reducible rfl))⟩) hZ0.out ?_
        try simp only [Act.put, List.setIfInBounds_toArray, List.set_cons_zero, List.set_cons_succ]
        refine LastZ.take 10 (v := _) (by simp only [List.getElem?_toArray, List.getElem?_cons_succ, List.getElem?_cons_zero]; rfl) (by kernel_rfl) (by kernel_rfl) (by kernel_rfl) (by decide) (by kernel_rfl) (by exact fun _ _ _ h => h) (Or.inl ⟨by rfl, by (intro w hSw; (try dsimp only at hSw); go_simp; try (with_reducible rfl))⟩) hZ0.out ?_
        try simp only [Act.put, List.setIfInBounds_toArray, List.set_cons_zero, List.set_cons_succ]
        refine LastZ.take 11 (v := _) (by simp only [List.getElem?_toArray, List.getElem?_cons_succ, List.getElem?_cons_zero]; rfl) (by kernel_rfl) (by kernel_rfl) (by kernel_rfl) (by decide) (by kernel_rfl) (by exact fun _ _ _ h => h) (Or.inl ⟨by rfl, by (intro w hSw; (try dsimp only at hSw); go_simp; try (with_reducible rfl))⟩) hZ0.out ?_
        try simp only [Act.put, List.setIfInBounds_toArray, List.set_cons_zero, List.set_cons_succ]
        refine LastZ.take 12 (v := _) (by simp only [List.getElem?_toArray, List.getElem?_cons_succ, List.getElem?_cons_zero]; rfl) (by kernel_rfl) (by kernel_rfl) (by kernel_rfl) (by decide) (by kernel_rfl) (by exact fun _ _ _ h => h) (Or.inl ⟨by rfl, by (intro w hSw; (try dsimp only at hSw); go_simp; try (with_reducible rfl))⟩) hZ0.out ?_
        try simp only [Act.put, List.setIfInBounds_toArray, List.set_cons_zero, List.set_cons_succ]
        refine LastZ.take 13 (v := _) (by simp only [List.getElem?_toArray, List.getElem?_cons_succ, List.getElem?_cons_zero]; rfl) (by kernel_rfl) (by kernel_rfl) (by kernel_rfl) (by decide) (by kernel_rfl) (by exact fun _ _ _ h => h) (Or.inl ⟨by rfl, by (intro w hSw; (try dsimp only at hSw); go_simp; try (with_reducible rfl))⟩) hZ0.out ?_
        try simp only [Act.put, List.setIfInBounds_toArray, List.set_cons_zero, List.set_cons_succ]
        refine LastZ.take 14 (v := _) (by simp only [List.getElem?_toArray, List.getElem?_cons_succ, List.getElem?_cons_zero]; rfl) (by kernel_rfl) (by kernel_rfl) (by kernel_rfl) (by decide) (by kernel_rfl) (by exact fun _ _ _ h => h) (Or.inl ⟨by rfl, by (intro w hSw; (try dsimp only at hSw); go_simp; try (with_reducible rfl))⟩) hZ0.out ?_
        try simp only [Act.put, List.setIfInBounds_toArray, List.set_cons_zero, List.set_cons_succ]
        refine LastZ.take 15 (v := _) (by simp only [List.getElem?_toArray, List.getElem?_cons_succ, List.getElem?_cons_zero]; rfl) (by kernel_rfl) (by kernel_rfl) (by kernel_rfl) (by decide) (by kernel_rfl) (by exact fun _ _ _ h => h) (Or.inl ⟨by rfl, by (intro w hSw; (try dsimp only at hSw); go_simp; try (with_reducible rfl))⟩) hZ0.out ?_
        try simp only [Act.put, List.setIfInBounds_toArray, List.set_cons_zero, List.set_cons_succ]
        refine LastZ.take 16 (v := _) (by simp only [List.getElem?_toArray, List.getElem?_cons_succ, List.getElem?_cons_zero]; rfl) (by kernel_rfl) (by kernel_rfl) (by kernel_rfl) (by decide) (by kernel_rfl) (by exact fun _ _ _ h => h) (Or.inl ⟨by rfl, by (intro w hSw; (try dsimp only at hSw); go_simp; try (with_reducible rfl))⟩) hZ0.out ?_
        try simp only [Act.put, List.setIfInBounds_toArray, List.set_cons_zero, List.set_cons_succ]
        refine LastZ.take 17 (v := _) (by simp only [List.getElem?_toArray, List.getElem?_cons_succ, List.getElem?_cons_zero]; rfl) (by kernel_rfl) (by kernel_rfl) (by kernel_rfl) (by decide) (by kernel_rfl) (by exact fun _ _ _ h => h) (Or.inl ⟨by rfl, by (intro w hSw; (try dsimp only at hSw); go_simp; try (with_reducible rfl))⟩) hZ0.out ?_
        try simp only [Act.put, List.setIfInBounds_toArray, List.set_cons_zero, List.set_cons_succ]
        refine LastZ.take 18 (v := _) (by simp only [List.getElem?_toArray, List.getElem?_cons_succ, List.getElem?_cons_zero]; rfl) (by kernel_rfl) (by kernel_rfl) (by kernel_rfl) (by decide) (by kernel_rfl) (by exact fun _ _ _ h => h) (Or.inl ⟨by rfl, by (intro w hSw; (try dsimp only at hSw); go_simp; try (with_reducible rfl))⟩) hZ0.out ?_
        try simp only [Act.put, List.setIfInBounds_toArray, List.set_cons_zero, List.set_cons_succ]
        refine LastZ.take 19 (v := _) (by simp only [List.getElem?_toArray, List.getElem?_cons_succ, List.getElem?_cons_zero]; rfl) (by kernel_rfl) (by kernel_rfl) (by kernel_rfl) (by decide) (by kernel_rfl) (by exact fun _ _ _ h => h) (Or.inl ⟨by rfl, by (intro w hSw; (try dsimp only at hSw); go_simp; try (with_reducible rfl))⟩) hZ0.out ?_
        try simp only [Act.put, List.setIfInBounds_toArray, List.set_cons_zero, List.set_cons_succ]
        refine LastZ.take 20 (v := _) (by simp only [List.getElem?_toArray, List.getElem?_cons_succ, List.getElem?_cons_zero]; rfl) (by kernel_rfl) (by kernel_rfl) (by kernel_rfl) (by decide) (by kernel_rfl) (by exact fun _ _ _ h => h) (Or.inl ⟨by rfl, by (intro w hSw; (try dsimp only at hSw); go_simp; try (with_reducible rfl))⟩) hZ0.out ?_
        try simp only [Act.put, List.setIfInBounds_toArray, List.set_cons_zero, List.set_cons_succ]
        refine LastZ.take 21 (v := _) (by simp only [List.getElem?_toArray, List.getElem?_cons_succ, List.getElem?_cons_zero]; rfl) (by kernel_rfl) (by kernel_rfl) (by kernel_rfl) (by decide) (by kernel_rfl) (by exact fun _ _ _ h => h) (Or.inl ⟨by rfl, by (intro w hSw; (try dsimp only at hSw); go_simp; try (with_reducible rfl))⟩) hZ0.out ?_
        try simp only [Act.put, List.setIfInBounds_toArray, List.set_cons_zero, List.set_cons_succ]
        refine LastZ.take 22 (v := _) (by simp only [List.getElem?_toArray, List.getElem?_cons_succ, List.getElem?_cons_zero]; rfl) (by kernel_rfl) (by kernel_rfl) (by kernel_rfl) (by decide) (by kernel_rfl) (by exact fun _ _ _ h => h) (Or.inl ⟨by rfl, by (intro w hSw; (try dsimp only at hSw); go_simp; try (with_reducible rfl))⟩) hZ0.out ?_
        try simp only [Act.put, List.setIfInBounds_toArray, List.set_cons_zero, List.set_cons_succ]
        refine LastZ.take 23 (v := _) (by simp only [List.getElem?_toArray, List.getElem?_cons_succ, List.getElem?_cons_zero]; rfl) (by kernel_rfl) (by kernel_rfl) (by kernel_rfl) (by decide) (by kernel_rfl) (by exact fun _ _ _ h => h) (Or.inl ⟨by rfl, by (intro w hSw; (try dsimp only at hSw); go_simp; try (with_reducible rfl))⟩) hZ0.out ?_
        try simp only [Act.put, List.setIfInBounds_toArray, List.set_cons_zero, List.set_cons_succ]
        refine LastZ.take 24 (v := _) (by simp only [List.getElem?_toArray, List.getElem?_cons_succ, List.getElem?_cons_zero]; rfl) (by kernel_rfl) (by kernel_rfl) (by kernel_rfl) (by decide) (by kernel_rfl) (by exact fun _ _ _ h => h) (Or.inl ⟨by rfl, by (intro w hSw; (try dsimp only at hSw); go_simp; try (with_reducible rfl))⟩) hZ0.out ?_
        try simp only [Act.put, List.setIfInBounds_toArray, List.set_cons_zero, List.set_cons_succ]
        refine LastZ.last (by kernel_rfl) (by simp only [List.getElem?_toArray, List.getElem?_cons_succ, List.getElem?_cons_zero]; rfl) (by decide) (fun K hK => ?_)
        (obtain ⟨cur5, hcur5, hcs5⟩ := HM3.out.cells; (have hlt5 : top < cur5.size := (by obtain ⟨x, hx⟩ := get_ex (xs := hs) (k := top) (by rw [HM3.out.len]; exact HTL.out); exact (Array.getElem?_eq_some_iff.1 (hcs5 _ x hx)).1)); (have HCW4 := Lib.hid hcur5); (refine step_store_at1 rfl 30 (.tmp 46) (.tmp 38) rfl g TR top cur5 (.slice fa n fc) (by rfl) (by rfl) HCW4.out hlt5 Try.sizeR rfl ?_); intro W4 HGW4 HBW4)
        refine hK.out _ _ ?_
        clear hK K
        try simp only [Act.put, List.setIfInBounds_toArray, List.set_cons_zero, List.set_cons_succ]
        have HM4 : Hid (Mat W4 g (hs.set top ⟨fa, n, fc⟩) (m.set top rf)) := Mat.put (hd := ⟨fa, n, fc⟩) HM3.out HCW4.out HGW4.out HBW4.out HXF.out
        have HFL : Hid (f < (m.set top rf).length) := by show _ < _; rw [List.length_set]; exact HFLm.out
        refine LastZ.free 26 (by kernel_rfl) (by simp only [List.getElem?_toArray, List.getElem?_cons_succ, List.getElem?_cons_zero]; rfl) (by kernel_rfl) (fun K hK => ?_)
        go_simp
        refine hK.out _ _ ?_
        clear hK K
        try simp only [Act.put, List.setIfInBounds_toArray, List.set_cons_zero, List.set_cons_succ]
        refine LastZ.free 27 (by kernel_rfl) (by simp only [List.getElem?_toArray, List.getElem?_cons_succ, List.getElem?_cons_zero]; rfl) (by kernel_rfl) (fun K hK => ?_)
        (obtain ⟨cur5, hcur5, hcs5⟩ := HM4.out.cells; (have hlt5 : f < cur5.size := (by obtain ⟨x, hx⟩ := get_ex (xs := (hs.set top ⟨fa, n, fc⟩)) (k := f) (by rw [HM4.out.len]; exact HFL.out); exact (Array.getElem?_eq_some_iff.1 (hcs5 _ x hx)).1)); (have HCW5 := Lib.hid hcur5); (refine step_store_at1 rfl 30 (.tmp 47) (.tmp 45) rfl g TR f cur5 (.slice ta n tc) (by rfl) (by rfl) HCW5.out hlt5 Try.sizeR rfl ?_); intro W5 HGW5 HBW5)
        refine hK.out _ _ ?_
        clear hK K
        try simp only [Act.put, List.setIfInBounds_toArray, List.set_cons_zero, List.set_cons_succ]
        refine LastZ.done (by kernel_rfl) ?_ _
        skip
        clear k1 k2 k3 k5 k6
        have HM5 : Hid (Mat W5 g ((hs.set top ⟨fa, n, fc⟩).set f ⟨ta, n, tc⟩) (swapP m top f)) := by
          show Mat ..
          rw [HSW.out]
          exact HM4.out.put (hd := ⟨ta, n, tc⟩) HCW5.out HGW5.out HBW5.out (RowX.but HXT.out (w := w3.drew) HBW4.out HCW4.out (by decide))
        have HB35 : Hid (But (fun i => i = g) w3 W5) := (But.trans (p := fun i => i = g) ⟨HBW4.out.os, HBW4.out.tape, HBW4.out.output, HBW4.out.size, HBW4.out.block⟩ HBW5.out (fun i hi => .inl hi))
        obtain ⟨gcur, hgcur, _⟩ := HM3w.out.cells
        have hge := (HB35.out.block _ (lt_block HGE3.out) (type_ne HGE3.out hgcur (by decide))).trans HGE3.out
        have hhe := (HB35.out.block _ (lt_block HHE3.out) (type_ne HHE3.out hgcur (by decide))).trans HHE3.out
        have hgt := (HB35.out.block _ (lt_block HGT3.out) (type_ne HGT3.out hgcur (by decide))).trans HGT3.out
        have hgc := (HB35.out.block _ (lt_block HGC3.out) (type_ne HGC3.out hgcur (by decide))).trans HGC3.out
        have HP5 : Hid (Own fI TI W5 base (.slice PA top pc) piv) := HP3.out.kept HB35.out.grown (HP3.out.type_ne hgcur (by decide))
        have HB05 : Hid (Below base w W5) := HB35.out.below HB03.out (Nat.le_trans HB3.out HB03.out.size) (fun i hi => by subst hi; exact HBG.out)
        have hosw := HOK.out.swap HTL.out HFLm.out
        have hlsw : (swapP m top f).length = N := by rw [swapP_len]; exact HML.out
        have htl5 : top < (swapP m top f).length := by rw [swapP_len]; exact HTL.out
        obtain ⟨xa, xn, xc, rx, hhx, hrx, hcx, hxx⟩ := HM5.out.at_ htl5
        have hro := hosw.get hrx
        obtain rfl : n = xn := hro.1.symm.trans hxx.2.1
        obtain ⟨x, hx⟩ := get_ex (xs := rx) (k := col) (by rw [hro.1]; have := HCN.out; omega)
        obtain ⟨xb, xo, rfl, hxb, hxat⟩ := hxx.sl.2 (by have := HCN.out; omega)
        have k6 : W5.cell? ⟨xb, xo + col, none⟩ = some (fN x) := hxat col x hx
        have hx256 := hro.2 x (List.mem_of_getElem? hx)
        obtain ⟨p2, hp2⟩ : ∃ p2, mulN p x = p2 := ⟨_, rfl⟩
        have HMU : Hid (∀ w, Calls Try.prog 15 #[fN p, fN x] w fun e w' => e = .returned (fN p2) ∧ w = w') := fun w => by
          have q := mul_any p x HPL.out hx256 w
          rwa [hp2] at q
        have HP22 : Hid (p2 < 256) := by show _ < _; rw [← hp2]; exact mulN_lt HPL.out
        have k1 := one_cell hge
        have k2 : W5.cell? ⟨h, 0, none⟩ = some (.slice (some ⟨g, 0, none⟩) N c) := by rw [cell_of_row W5 h _ _ _ _ hhe]; rfl
        have k4 : W5.cell? ⟨h, 2, none⟩ = some (fN p) := by rw [cell_of_row W5 h _ _ _ _ hhe]; rfl
        have k3 := one_cell hgt
        have k7 := one_cell hgc
        have k5 := hcx
        have HE5d : Hid (W5.drew.heap[h]? = some (.cells (cE g N c (.slice PA top pc) p) TE (0, 0))) := hhe
        have HGE5 := Lib.hid hge
        have HHE5 := Lib.hid hhe
        have HGT5 := Lib.hid hgt
        have HGC5 := Lib.hid hgc
        have HOSW := Lib.hid hosw
        have HLSW := Lib.hid hlsw
        have hcnI : (col : Int) < (n : Int) := by have := HCN.out; omega
        have hnI : (n : Int) ≤ 1000 := by have := HNN.out; omega
        have hNI : (N : Int) ≤ 64 := by have := HN2.out; omega
        have HCOL : Hid (col < n) := by show _ < _; have := HCN.out; omega
        have HTN2 : Hid (top < N) := by show _ < _; rw [← HML.out]; exact HTL.out
        obtain ⟨pv, hpve⟩ : ∃ pv, pv = Value.slice PA top pc := ⟨_, rfl⟩
        have HPVE := Lib.hid hpve
        rw [← hpve] at HE5d
        clear hge hhe hgt hgc hgcur hosw hlsw htl5 hhx hrx hcx hxx hro hx hxb hxat hx256 hp2 HM3 HM4 HCW4 HGW4 HBW4 HCW5 HGW5 HBW5 HFL HM3w HP3 hpve
        go_wp2_with fail
        refine LastZ.start (by kernel_rfl) (fun w' : World => w'.cell? ⟨w.heap.size, 0, none⟩ = some (.pointer (some ⟨h, 0, none⟩)) ∧ w'.cell? ⟨h, 0, none⟩ = some (.slice (some ⟨g, 0, none⟩) N c) ∧ w'.cell? ⟨h, 2, none⟩ = some (fN p) ∧ w'.cell? ⟨bt, 0, none⟩ = some (.int .i64 top) ∧ w'.cell? ⟨bc, 0, none⟩ = some (.int .i64 col) ∧ w'.cell? ⟨g, top, none⟩ = some (.slice (some ⟨xb, xo, none⟩) n xc) ∧ w'.cell? ⟨xb, xo + col, none⟩ = some (fN x)) 18 ?_
        have hZ0 : Hid ((fun w' : World => w'.cell? ⟨w.heap.size, 0, none⟩ = some (.pointer (some ⟨h, 0, none⟩)) ∧ w'.cell? ⟨h, 0, none⟩ = some (.slice (some ⟨g, 0, none⟩) N c) ∧ w'.cell? ⟨h, 2, none⟩ = some (fN p) ∧ w'.cell? ⟨bt, 0, none⟩ = some (.int .i64 top) ∧ w'.cell? ⟨bc, 0, none⟩ = some (.int .i64 col) ∧ w'.cell? ⟨g, top, none⟩ = some (.slice (some ⟨xb, xo, none⟩) n xc) ∧ w'.cell? ⟨xb, xo + col, none⟩ = some (fN x)) W5.drew) := (by exact ⟨k1, k2, k4, k3, k7, k5, k6⟩)
        refine LastZ.take 0 (v := _) (by simp only [List.getElem?_toArray, List.getElem?_cons_zero]; rfl) (by kernel_rfl) (by kernel_rfl) (by kernel_rfl) (by decide) (by kernel_rfl) (by exact fun _ _ _ h => h) (Or.inl ⟨by rfl, by (intro w hSw; (try dsimp only at hSw); go_simp; try (with_reducible rfl))⟩) hZ0.out ?_
        try simp only [Act.put, List.setIfInBounds_toArray, List.set_cons_zero, List.set_cons_succ]
        refine LastZ.take 1 (v := _) (by simp only [List.getElem?_toArray, List.getElem?_cons_succ, List.getElem?_cons_zero]; rfl) (by kernel_rfl) (by kernel_rfl) (by kernel_rfl) (by decide) (by kernel_rfl) (by exact fun _ _ _ h => h) (Or.inl ⟨by rfl, by (intro w hSw; (try dsimp only at hSw); go_simp; try (with_reducible rfl))⟩) hZ0.out ?_
        try simp only [Act.put, List.setIfInBounds_toArray, List.set_cons_zero, List.set_cons_succ]
        refine LastZ.take 2 (v := _) (by simp only [List.getElem?_toArray, List.getElem?_cons_succ, List.getElem?_cons_zero]; rfl) (by kernel_rfl) (by kernel_rfl) (by kernel_rfl) (by decide) (by kernel_rfl) (by exact fun _ _ _ h => h) (Or.inl ⟨by rfl, by (intro w hSw; (try dsimp only at hSw); go_simp; try (with_reducible rfl))⟩) hZ0.out ?_
        try simp only [Act.put, List.setIfInBounds_toArray, List.set_cons_zero, List.set_cons_succ]
        refine LastZ.take 3 (v := _) (by simp only [List.getElem?_toArray, List.getElem?_cons_succ, List.getElem?_cons_zero]; rfl) (by kernel_rfl) (by kernel_rfl) (by kernel_rfl) (by decide) (by kernel_rfl) (by exact fun _ _ _ h => h) (Or.inl ⟨by rfl, by (intro w hSw; (try dsimp only at hSw); go_simp; try (with_reducible rfl))⟩) hZ0.out ?_
        try simp only [Act.put, List.setIfInBounds_toArray, List.set_cons_zero, List.set_cons_succ]
        refine LastZ.take 4 (v := _) (by simp only [List.getElem?_toArray, List.getElem?_cons_succ, List.getElem?_cons_zero]; rfl) (by kernel_rfl) (by kernel_rfl) (by kernel_rfl) (by decide) (by kernel_rfl) (by exact fun _ _ _ h => h) (Or.inl ⟨by rfl, by (intro w hSw; (try dsimp only at hSw); go_simp; try (with_reducible rfl))⟩) hZ0.out ?_
        try simp only [Act.put, List.setIfInBounds_toArray, List.set_cons_zero, List.set_cons_succ]
        refine LastZ.take 5 (v := _) (by simp only [List.getElem?_toArray, List.getElem?_cons_succ, List.getElem?_cons_zero]; rfl) (by kernel_rfl) (by kernel_rfl) (by kernel_rfl) (by decide) (by kernel_rfl) (by exact fun _ _ _ h => h) (Or.inl ⟨by rfl, by (intro w hSw; (try dsimp only at hSw); go_simp; try (with_reducible rfl))⟩) hZ0.out ?_
        try simp only [Act.put, List.setIfInBounds_toArray, List.set_cons_zero, List.set_cons_succ]
        refine LastZ.take 6 (v := _) (by simp only [List.getElem?_toArray, List.getElem?_cons_succ, List.getElem?_cons_zero]; rfl) (by kernel_rfl) (by kernel_rfl) (by kernel_rfl) (by decide) (by kernel_rfl) (by exact fun _ _ _ h => h) (Or.inl ⟨by rfl, by (intro w hSw; (try dsimp only at hSw); go_simp; try (with_reducible rfl))⟩) hZ0.out ?_
        try simp only [Act.put, List.setIfInBounds_toArray, List.set_cons_zero, List.set_cons_succ]
        refine LastZ.take 7 (v := _) (by simp only [List.getElem?_toArray, List.getElem?_cons_succ, List.getElem?_cons_zero]; rfl) (by kernel_rfl) (by kernel_rfl) (by kernel_rfl) (by decide) (by kernel_rfl) (by exact fun _ _ _ h => h) (Or.inl ⟨by rfl, by (intro w hSw; (try dsimp only at hSw); go_simp; try (with_reducible rfl))⟩) hZ0.out ?_
        try simp only [Act.put, List.setIfInBounds_toArray, List.set_cons_zero, List.set_cons_succ]
        refine LastZ.take 8 (v := _) (by simp only [List.getElem?_toArray, List.getElem?_cons_succ, List.getElem?_cons_zero]; rfl) (by kernel_rfl) (by kernel_rfl) (by kernel_rfl) (by decide) (by kernel_rfl) (by exact fun _ _ _ h => h) (Or.inl ⟨by rfl, by (intro w hSw; (try dsimp only at hSw); go_simp; try (with_reducible rfl))⟩) hZ0.out ?_
        try simp only [Act.put, List.setIfInBounds_toArray, List.set_cons_zero, List.set_cons_succ]
        refine LastZ.take 9 (v := _) (by simp only [List.getElem?_toArray, List.getElem?_cons_succ, List.getElem?_cons_zero]; rfl) (by kernel_rfl) (by kernel_rfl) (by kernel_rfl) (by decide) (by kernel_rfl) (by exact fun _ _ _ h => h) (Or.inl ⟨by rfl, by (intro w hSw; (try dsimp only at hSw); go_simp; try (with_reducible rfl))⟩) hZ0.out ?_
        try simp only [Act.put, List.setIfInBounds_toArray, List.set_cons_zero, List.set_cons_succ]
        refine LastZ.take 10 (v := _) (by simp only [List.getElem?_toArray, List.getElem?_cons_succ, List.getElem?_cons_zero]; rfl) (by kernel_rfl) (by kernel_rfl) (by kernel_rfl) (by decide) (by kernel_rfl) (by exact fun _ _ _ h => h) (Or.inl ⟨by rfl, by (intro w hSw; (try dsimp only at hSw); go_simp; try (with_reducible rfl))⟩) hZ0.out ?_
        try simp only [Act.put, List.setIfInBounds_toArray, List.set_cons_zero, List.set_cons_succ]
        refine LastZ.take 11 (v := _) (by simp only [List.getElem?_toArray, List.getElem?_cons_succ, List.getElem?_cons_zero]; rfl) (by kernel_rfl) (by kernel_rfl) (by kernel_rfl) (by decide) (by kernel_rfl) (by exact fun _ _ _ h => h) (Or.inl ⟨by rfl, by (intro w hSw; (try dsimp only at hSw); go_simp; try (with_reducible rfl))⟩) hZ0.out ?_
        try simp only [Act.put, List.setIfInBounds_toArray, List.set_cons_zero, List.set_cons_succ]
        refine LastZ.take 12 (v := _) (by simp only [List.getElem?_toArray, List.getElem?_cons_succ, List.getElem?_cons_zero]; rfl) (by kernel_rfl) (by kernel_rfl) (by kernel_rfl) (by decide) (by kernel_rfl) (by exact fun _ _ _ h => h) (Or.inl ⟨by rfl, by (intro w hSw; (try dsimp only at hSw); go_simp; try (with_reducible rfl))⟩) hZ0.out ?_
        try simp only [Act.put, List.setIfInBounds_toArray, List.set_cons_zero, List.set_cons_succ]
        refine LastZ.take 13 (v := _) (by simp only [List.getElem?_toArray, List.getElem?_cons_succ, List.getElem?_cons_zero]; rfl) (by kernel_rfl) (by kernel_rfl) (by kernel_rfl) (by decide) (by kernel_rfl) (by exact fun _ _ _ h => h) (Or.inl ⟨by rfl, by (intro w hSw; (try dsimp only at hSw); go_simp; try (with_reducible rfl))⟩) hZ0.out ?_
        try simp only [Act.put, List.setIfInBounds_toArray, List.set_cons_zero, List.set_cons_succ]
        refine LastZ.take 14 (v := _) (by simp only [List.getElem?_toArray, List.getElem?_cons_succ, List.getElem?_cons_zero]; rfl) (by kernel_rfl) (by kernel_rfl) (by kernel_rfl) (by decide) (by kernel_rfl) (by exact fun _ _ _ h => h) (Or.inl ⟨by rfl, by (intro w hSw; (try dsimp only at hSw); go_simp; try (with_reducible rfl))⟩) hZ0.out ?_
        try simp only [Act.put, List.setIfInBounds_toArray, List.set_cons_zero, List.set_cons_succ]
        refine LastZ.one 15 (by kernel_rfl) (by simp only [List.getElem?_toArray, List.getElem?_cons_succ, List.getElem?_cons_zero]; rfl) (fun K hK => ?_)
        (go_simp; go_at_call 15; (with_reducible refine (HMU.out _).mono ?_); rintro e w6 ⟨rfl, hw6⟩; subst hw6; go_wp2_with fail)
        refine hK.out _ _ (by exact hZ0.out) (fun hHeldZ => ?_)
        have hZ1 := Lib.hid hHeldZ
        clear hK K hZ0 hHeldZ
        try simp only [Act.put, List.setIfInBounds_toArray, List.set_cons_zero, List.set_cons_succ]
        refine LastZ.take 16 (v := _) (by simp only [List.getElem?_toArray, List.getElem?_cons_succ, List.getElem?_cons_zero]; rfl) (by kernel_rfl) (by kernel_rfl) (by kernel_rfl) (by decide) (by kernel_rfl) (by exact fun _ _ _ h => h) (Or.inl ⟨by rfl, by (intro w hSw; (try dsimp only at hSw); go_simp; try (with_reducible rfl))⟩) hZ1.out ?_
        try simp only [Act.put, List.setIfInBounds_toArray, List.set_cons_zero, List.set_cons_succ]
        refine LastZ.take 17 (v := _) (by simp only [List.getElem?_toArray, List.getElem?_cons_succ, List.getElem?_cons_zero]; rfl) (by kernel_rfl) (by kernel_rfl) (by kernel_rfl) (by decide) (by kernel_rfl) (by exact fun _ _ _ h => h) (Or.inl ⟨by rfl, by (intro w hSw; (try dsimp only at hSw); go_simp; try (with_reducible rfl))⟩) hZ1.out ?_
        try simp only [Act.put, List.setIfInBounds_toArray, List.set_cons_zero, List.set_cons_succ]
        refine LastZ.last (by kernel_rfl) (by simp only [List.getElem?_toArray, List.getElem?_cons_succ, List.getElem?_cons_zero]; rfl) (by decide) (fun K hK => ?_)
        (refine step_store_at1 rfl 5 (.tmp 65) (.tmp 63) rfl h TE 2 (cE g N c pv p) (fN p2) (by rfl) (by rfl) HE5d.out (by simp) Try.sizeB rfl ?_); intro W6 HG6 HB6
        refine hK.out _ _ ?_
        clear hK K
        try simp only [Act.put, List.setIfInBounds_toArray, List.set_cons_zero, List.set_cons_succ]
        refine LastZ.done (by kernel_rfl) ?_ _
        skip
        clear k1 k2 k3 k4 k5 k6 k7
        have HG6' : Hid (W6.heap[h]? = some (.cells (cE g N c (.slice PA top pc) p2) TE (0, 0))) := by
          have q := HG6.out
          rw [HPVE.out] at q
          exact q
        have HB56 : Hid (But (fun i => i = h) W5 W6) := ⟨HB6.out.os, HB6.out.tape, HB6.out.output, HB6.out.size, HB6.out.block⟩
        have HM6 := Lib.hid (HM5.out.keep HB56.out HHE5.out (by decide) (by decide))
        have HP6 : Hid (Own fI TI W6 base (.slice PA top pc) piv) := HP5.out.kept HB56.out.grown (HP5.out.type_ne HHE5.out (by decide))
        have HGE6 : Hid (W6.heap[w.heap.size]? = some (.cells #[.pointer (some ⟨h, 0, none⟩)] TPE (0, 0))) := (HB56.out.block _ (lt_block HGE5.out) (type_ne HGE5.out HHE5.out (by decide))).trans HGE5.out
        have HGT6 : Hid (W6.heap[bt]? = some (.cells #[.int .i64 (top : Int)] TI (0, 0))) := (HB56.out.block _ (lt_block HGT5.out) (type_ne HGT5.out HHE5.out (by decide))).trans HGT5.out
        have HGC6 : Hid (W6.heap[bc]? = some (.cells #[.int .i64 (col : Int)] TI (0, 0))) := (HB56.out.block _ (lt_block HGC5.out) (type_ne HGC5.out HHE5.out (by decide))).trans HGC5.out
        have HB06 : Hid (Below base w W6) := HB56.out.below HB05.out (Nat.le_trans HB3.out HB05.out.size) (fun i hi => by subst hi; exact HBH.out)
        have HCL := Lib.hid (clear_any h g N c p2 n top col (.slice PA top pc) _ (swapP m top f) W6 HG6'.out HM6.out HLSW.out HOSW.out HTN2.out HCOL.out HNN.out HN2.out)
        have k1 := one_cell HGE6.out
        have k3 := one_cell HGT6.out
        have k7 := one_cell HGC6.out
        clear HM5 HP5 HHE5 HGE5 HGT5 HGC5 HB05 HE5d HG6 HB6 hZ0
        go_upto_region 11 with (go_at_call 50; (with_reducible refine HCL.out.mono ?_); rintro e W8 ⟨hs8, rfl, hm8, hb8⟩; (have HM8 := Lib.hid hm8); (have HB8 := Lib.hid hb8); clear hm8 hb8)
        clear k1 k3 k7
        obtain ⟨gcur, hgcur, _⟩ := HM6.out.cells
        have HGE8 : Hid (W8.heap[w.heap.size]? = some (.cells #[.pointer (some ⟨h, 0, none⟩)] TPE (0, 0))) := (HB8.out.block _ (lt_block HGE6.out) (type_ne HGE6.out hgcur (by decide))).trans HGE6.out
        have HHE8 : Hid (W8.heap[h]? = some (.cells (cE g N c (.slice PA top pc) p2) TE (0, 0))) := (HB8.out.block _ (lt_block HG6'.out) (type_ne HG6'.out hgcur (by decide))).trans HG6'.out
        have HGC8 : Hid (W8.heap[bc]? = some (.cells #[.int .i64 (col : Int)] TI (0, 0))) := (HB8.out.block _ (lt_block HGC6.out) (type_ne HGC6.out hgcur (by decide))).trans HGC6.out
        have HP8 : Hid (Own fI TI W8 base (.slice PA top pc) piv) := HP6.out.kept HB8.out.grown (HP6.out.type_ne hgcur (by decide))
        have HB08 : Hid (Below base w W8) := HB8.out.below HB06.out (Nat.le_trans HB3.out HB06.out.size) (fun i hi => by subst hi; exact HBG.out)
        have k1 := one_cell HGE8.out
        have k4 : W8.cell? ⟨h, 1, none⟩ = some (.slice PA top pc) := by rw [cell_of_row W8 h _ _ _ _ HHE8.out]; rfl
        have k7 := one_cell HGC8.out
        clear hgcur HM6 HP6 HGE6 HGT6 HGC6 HB06 HG6' HCL
        obtain ⟨i0, hi, hi1, hi2, hi3⟩ := info_parts Try.infoI8
        have HI := Lib.hid hi
        have HI1 := Lib.hid hi1
        have HI2 := Lib.hid hi2
        have HI3 := Lib.hid hi3
        obtain ⟨WB, hWB⟩ : ∃ W, W = W8.drew.alloc (.cells #[.int .i64 (col : Int)] TI) := ⟨_, rfl⟩
        have hb8B : Below W8.heap.size W8 WB := by rw [hWB]; exact (Below.refl _ W8).drew.alloc (Nat.le_refl _) _
        have HG1B := (hb8B.block _ (lt_block HGE8.out)).trans HGE8.out
        have HGHB := (hb8B.block _ (lt_block HHE8.out)).trans HHE8.out
        have HGCB := (hb8B.block _ (lt_block HGC8.out)).trans HGC8.out
        have HPB8 := HP8.out.on hb8B
        have hMB := HM8.out.on hb8B
        have HKB : Hid (∀ V, WB.grownBy V (Value.slice PA top pc).ownBlock → V.heap[w.heap.size]? = some (.cells #[.pointer (some ⟨h, 0, none⟩)] TPE (0, 0)) ∧ V.heap[h]? = some (.cells (cE g N c (.slice PA top pc) p2) TE (0, 0)) ∧ V.heap[bc]? = some (.cells #[.int .i64 (col : Int)] TI (0, 0))) := fun V hv => by
          refine ⟨(hv.block _ (lt_block HG1B) (fun e => ?_)).trans HG1B, (hv.block _ (lt_block HGHB) (fun e => ?_)).trans HGHB, (hv.block _ (lt_block HGCB) (fun e => ?_)).trans HGCB⟩
          · obtain ⟨cs, q⟩ := HPB8.block e.symm
            exact Go.Proofs.Ytpbeaghghlfiaaa.type_ne HG1B q (by decide) rfl
          · obtain ⟨cs, q⟩ := HPB8.block e.symm
            exact Go.Proofs.Ytpbeaghghlfiaaa.type_ne HGHB q (by decide) rfl
          · exact Nat.lt_irrefl _ (HPB.out _ e.symm)
        have HMG : Hid (∀ V, WB.grownBy V (Value.slice PA top pc).ownBlock → Mat V g hs8 (clearP (swapP m top f) top col)) := fun V hv => hMB.grown hv (fun b e => by
          obtain ⟨cs, q⟩ := HPB8.block e
          exact ⟨cs, TI, (0, 0), q, by decide, by decide⟩)
        have HBB : Hid (Below base w WB) := HB08.out.trans (hb8B.mono (Nat.le_trans HB3.out HB08.out.size))
        have HBS : Hid (base ≤ WB.heap.size) := Nat.le_trans HB3.out HBB.out.size
        have HP8a := Lib.hid HPB8
        have K1A := Lib.hid (one_cell HG1B)
        have K4A : Hid (WB.cell? ⟨h, 1, none⟩ = some (.slice PA top pc)) := by show _ = _; rw [cell_of_row WB h _ _ _ _ HGHB]; rfl
        have K7A := Lib.hid (one_cell HGCB)
        have HLB : Hid ((piv.length + [col].length) * 8 ≤ 140737488355328) := by show (piv.length + 1) * 8 ≤ _; rw [HTP.out]; have := HTN2.out; have := HN2.out; omega
        have HLM : Hid (piv.length + [col].length ≤ maxLen) := by show piv.length + 1 ≤ _; rw [HTP.out]; have := HTN2.out; have := HN2.out; unfold maxLen; omega
        subst hWB
        clear hi hi1 hi2 hi3 hb8B HG1B HGHB HGCB HPB8 hMB HB8
        go_wp2_with fail
        refine LastZ.start (by kernel_rfl) (fun w' : World => w'.cell? ⟨w.heap.size, 0, none⟩ = some (.pointer (some ⟨h, 0, none⟩)) ∧ w'.cell? ⟨h, 1, none⟩ = some (.slice PA top pc) ∧ w'.cell? ⟨bc, 0, none⟩ = some (.int .i64 col)) 10 ?_
        have hZ0 : Hid ((fun w' : World => w'.cell? ⟨w.heap.size, 0, none⟩ = some (.pointer (some ⟨h, 0, none⟩)) ∧ w'.cell? ⟨h, 1, none⟩ = some (.slice PA top pc) ∧ w'.cell? ⟨bc, 0, none⟩ = some (.int .i64 col)) W8.drew) := (by exact ⟨k1, k4, k7⟩)
        refine LastZ.take 0 (v := _) (by simp only [List.getElem?_toArray, List.getElem?_cons_zero]; rfl) (by kernel_rfl) (by kernel_rfl) (by kernel_rfl) (by decide) (by kernel_rfl) (by exact fun _ _ _ h => h) (Or.inl ⟨by rfl, by (intro w hSw; (try dsimp only at hSw); go_simp; try (with_reducible rfl))⟩) hZ0.out ?_
        try simp only [Act.put, List.setIfInBounds_toArray, List.set_cons_zero, List.set_cons_succ]
        refine LastZ.take 1 (v := _) (by simp only [List.getElem?_toArray, List.getElem?_cons_succ, List.getElem?_cons_zero]; rfl) (by kernel_rfl) (by kernel_rfl) (by kernel_rfl) (by decide) (by kernel_rfl) (by exact fun _ _ _ h => h) (Or.inl ⟨by rfl, by (intro w hSw; (try dsimp only at hSw); go_simp; try (with_reducible rfl))⟩) hZ0.out ?_
        try simp only [Act.put, List.setIfInBounds_toArray, List.set_cons_zero, List.set_cons_succ]
        refine LastZ.take 2 (v := _) (by simp only [List.getElem?_toArray, List.getElem?_cons_succ, List.getElem?_cons_zero]; rfl) (by kernel_rfl) (by kernel_rfl) (by kernel_rfl) (by decide) (by kernel_rfl) (by exact fun _ _ _ h => h) (Or.inl ⟨by rfl, by (intro w hSw; (try dsimp only at hSw); go_simp; try (with_reducible rfl))⟩) hZ0.out ?_
        try simp only [Act.put, List.setIfInBounds_toArray, List.set_cons_zero, List.set_cons_succ]
        refine LastZ.take 3 (v := _) (by simp only [List.getElem?_toArray, List.getElem?_cons_succ, List.getElem?_cons_zero]; rfl) (by kernel_rfl) (by kernel_rfl) (by kernel_rfl) (by decide) (by kernel_rfl) (by exact fun _ _ _ h => h) (Or.inl ⟨by rfl, by (intro w hSw; (try dsimp only at hSw); go_simp; try (with_reducible rfl))⟩) hZ0.out ?_
        try simp only [Act.put, List.setIfInBounds_toArray, List.set_cons_zero, List.set_cons_succ]
        refine LastZ.take 4 (v := _) (by simp only [List.getElem?_toArray, List.getElem?_cons_succ, List.getElem?_cons_zero]; rfl) (by kernel_rfl) (by kernel_rfl) (by kernel_rfl) (by decide) (by kernel_rfl) (by exact fun _ _ _ h => h) (Or.inl ⟨by rfl, by (intro w hSw; (try dsimp only at hSw); go_simp; try (with_reducible rfl))⟩) hZ0.out ?_
        try simp only [Act.put, List.setIfInBounds_toArray, List.set_cons_zero, List.set_cons_succ]
        refine LastZ.take 5 (v := _) (by simp only [List.getElem?_toArray, List.getElem?_cons_succ, List.getElem?_cons_zero]; rfl) (by kernel_rfl) (by kernel_rfl) (by kernel_rfl) (by decide) (by kernel_rfl) (by exact fun _ _ _ h => h) (Or.inl ⟨by rfl, by (intro w hSw; (try dsimp only at hSw); go_simp; try (with_reducible rfl))⟩) hZ0.out ?_
        try simp only [Act.put, List.setIfInBounds_toArray, List.set_cons_zero, List.set_cons_succ]
        refine LastZ.one 6 (by kernel_rfl) (by simp only [List.getElem?_toArray, List.getElem?_cons_succ, List.getElem?_cons_zero]; rfl) (fun K hK => ?_)
        go_simp
        refine hK.out _ _ (by exact ⟨K1A.out, K4A.out, K7A.out⟩) (fun hHeldZ => ?_)
        have hZ1 := Lib.hid hHeldZ
        clear hK K hZ0 hHeldZ
        try simp only [Act.put, List.setIfInBounds_toArray, List.set_cons_zero, List.set_cons_succ]
        refine LastZ.one 7 (by kernel_rfl) (by simp only [List.getElem?_toArray, List.getElem?_cons_succ, List.getElem?_cons_zero]; rfl) (fun K hK => ?_)
        ((refine step_app (.tmp 74) (.tmp 76) 33 rfl rfl TI i0 (.int .i64 0) 8 Try.underlying33 HI.out HI1.out HI2.out HI3.out rfl (f := fI) piv base (by exact HP8a.out) [col] ⟨_, _, _, _, rfl, SL.sl (SL.of_block (t := TI) (fr := (0, 0)) (heap_alloc_new W8.drew _) (Nat.lt_succ_self _))⟩ (fun _ => rfl) HLB.out HLM.out HBS.out ?_); intro v9 W9 HO9 HG9 HV9 HB9; (have HG9b := Lib.hid (HKB.out W9 HG9.out)))
        refine hK.out _ _ (by exact ⟨one_cell HG9b.out.1, (by rw [cell_of_row W9 h _ _ _ _ HG9b.out.2.1]; rfl), one_cell HG9b.out.2.2⟩) (fun hHeldZ => ?_)
        have hZ2 := Lib.hid hHeldZ
        clear hK K hZ1 hHeldZ
        try simp only [Act.put, List.setIfInBounds_toArray, List.set_cons_zero, List.set_cons_succ]
        refine LastZ.take 8 (v := _) (by simp only [List.getElem?_toArray, List.getElem?_cons_succ, List.getElem?_cons_zero]; rfl) (by kernel_rfl) (by kernel_rfl) (by kernel_rfl) (by decide) (by kernel_rfl) (by exact fun _ _ _ h => h) (Or.inl ⟨by rfl, by (intro w hSw; (try dsimp only at hSw); go_simp; try (with_reducible rfl))⟩) hZ2.out ?_
        try simp only [Act.put, List.setIfInBounds_toArray, List.set_cons_zero, List.set_cons_succ]
        refine LastZ.take 9 (v := _) (by simp only [List.getElem?_toArray, List.getElem?_cons_succ, List.getElem?_cons_zero]; rfl) (by kernel_rfl) (by kernel_rfl) (by kernel_rfl) (by decide) (by kernel_rfl) (by exact fun _ _ _ h => h) (Or.inl ⟨by rfl, by (intro w hSw; (try dsimp only at hSw); go_simp; try (with_reducible rfl))⟩) hZ2.out ?_
        try simp only [Act.put, List.setIfInBounds_toArray, List.set_cons_zero, List.set_cons_succ]
        refine LastZ.last (by kernel_rfl) (by simp only [List.getElem?_toArray, List.getElem?_cons_succ, List.getElem?_cons_zero]; rfl) (by decide) (fun K hK => ?_)
        (refine step_store_at1 rfl 33 (.tmp 79) (.tmp 77) rfl h TE 1 (cE g N c (.slice PA top pc) p2) v9 (by rfl) (by rfl) HG9b.out.2.1 (by simp) Try.sizeP (by obtain ⟨q1, q2, q3, _⟩ := HO9.out.shape'; rw [q3]; rfl) ?_); intro WA HGA HBA
        refine hK.out _ _ ?_
        clear hK K
        try simp only [Act.put, List.setIfInBounds_toArray, List.set_cons_zero, List.set_cons_succ]
        refine LastZ.done (by kernel_rfl) ?_ _
        skip
        clear k1 k4 k7
        go_wp2_with fail
        have HBA' : Hid (But (fun i => i = h) W9 WA) := HBA
        have HMA := Lib.hid ((HMG.out W9 HG9.out).keep HBA'.out HG9b.out.2.1 (by decide) (by decide))
        have HB9w : Hid (Below base w W9) := HB9.out base w HBB.out (Nat.le_refl _)
        have HBAw : Hid (Below base w WA) := HBA'.out.below HB9w.out (Nat.le_trans HB3.out HB9w.out.size) (fun i hi => by subst hi; exact HBH.out)
        have HGEA : Hid (WA.heap[w.heap.size]? = some (.cells #[.pointer (some ⟨h, 0, none⟩)] TPE (0, 0))) := (HBA'.out.block _ (lt_block HG9b.out.1) (type_ne HG9b.out.1 HG9b.out.2.1 (by decide))).trans HG9b.out.1
        have HPA9 : Hid (Own fI TI WA base v9 (piv ++ [col])) := HO9.out.kept HBA'.out.grown (HO9.out.type_ne HG9b.out.2.1 (by decide))
        have HGA' : Hid (WA.heap[h]? = some (.cells (cE g N c v9 p2) TE (0, 0))) := HGA.out
        have HQA : Hid (p2 < 256 ∧ (clearP (swapP m top f) top col).length = N ∧ MtOk n (clearP (swapP m top f) top col) ∧ (piv ++ [col]).length ≤ N) :=
          ⟨HP22.out, by rw [clearP_len]; exact HLSW.out, HOSW.out.clear (by rw [HLSW.out]; exact HTN2.out) col, by rw [List.length_append, HTP.out]; exact HTN2.out⟩
        go_roundw
        case rel => exact ⟨col + 1, _, _, _, _, p2, by omega, by go_num, HBAw, HGEA, HGA', HMA, HPA9, HQA, HR2⟩
        case measure => simp [intOf]; omega
    · obtain rfl : col = cols := by omega
      have HE2 : Hid ((m, piv) = R) := by have q := HR.out; rw [Nat.sub_self] at q; exact q
      go_wp2_with fail
      refine bodyPost_ret (results_none rfl _ _ _) rfl ?_
      rw [← HE2.out]
      exact ⟨hs, pv, p, rfl, HE.out, HM.out, HP.out, HB.out⟩
end Go.Proofs.Ytpbeaghghlfiaaa
