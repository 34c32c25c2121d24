/- The reference's New. -/
import Derived.Test.YtkeicjokekmkpaaGreatMp
namespace Go.Proofs.YtkeicjokekmkpaaGreat
open Go.RowKit Mb
set_option linter.unusedVariables false
set_option linter.unusedSimpArgs false

abbrev zR : RV := ⟨⟨none, 0, 0⟩, ⟨none, 0, 0⟩, 0, ⟨none, 0, 0⟩, ⟨none, 0, 0⟩, ⟨none, 0, 0⟩, ⟨none, 0, 0⟩⟩
abbrev zRO : Obj := .cells #[.slice none 0 0, .slice none 0 0, .int .i64 0, .slice none 0 0, .slice none 0 0, .slice none 0 0, .slice none 0 0] 34
/-- What the reference's New does. -/
def FarR (w w' : World) (r : RV) (ps : List VP) : Prop := (∀ ad, r.a4.a = some ad → w.heap.size ≤ ad.block) ∧ (∀ ad, r.a5.a = some ad → w.heap.size ≤ ad.block) ∧ r.a3 = ⟨none, 0, 0⟩ ∧ r.a6 = ⟨none, 0, 0⟩ ∧ VIn w' w'.heap.size r.a5.a r.a5.n ps
/-- What the reference's New keeps of its arguments. -/
def KepR (w' : World) (r : RV) (ms : List Mem) (ps : List VP) : Prop := SlN fM 5 w' w'.heap.size r.a1.a r.a1.n ms ∧ VIn w' w'.heap.size r.a2.a r.a2.n ps
def RNewP (ms : List Mem) (vs : List Vlt) (ps : List VP) (q : Int) (w : World) (e : Ending) (w' : World) : Prop :=
  (newE ms vs q = 0 ∧ ∃ r : RV, e = .returned (.tuple #[r.val, .int .i64 0]) ∧ RefC w' w'.heap.size r ⟨ms, vs, q, []⟩ ∧ Below w.heap.size w w' ∧ FarR w w' r ps ∧ KepR w' r ms ps) ∨
  (newE ms vs q ≠ 0 ∧ ∃ r : RV, e = .returned (.tuple #[r.val, .int .i64 (newE ms vs q)]) ∧ Below w.heap.size w w')
theorem newE_head {ms : List Mem} {vs : List Vlt} {q : Int} (h : headB ms.length vs.length q = false) : newE ms vs q = 1 := by unfold newE; rw [h]; rfl
theorem newE_mem {ms : List Mem} {vs : List Vlt} {q : Int} (h : memsB ms = false) : newE ms vs q = 1 := by unfold newE; rw [h]; simp
theorem newE_vlt {ms : List Mem} {vs : List Vlt} {q : Int} (h : vltsB vs ms.length = false) : newE ms vs q = 1 := by unfold newE; rw [h]; simp
theorem newE_pos {ms : List Mem} {vs : List Vlt} {q : Int} (h0 : headB ms.length vs.length q = true) (h1 : memsB ms = true) (h2 : vltsB vs ms.length = true) (h : vs.all (possB ms.length) = false) : newE ms vs q = 14 := by unfold newE; rw [h0, h1, h2, h]; rfl
theorem newE_yes {ms : List Mem} {vs : List Vlt} {q : Int} (h0 : headB ms.length vs.length q = true) (h1 : memsB ms = true) (h2 : vltsB vs ms.length = true) (h : vs.all (possB ms.length) = true) : newE ms vs q = 0 := by unfold newE; rw [h0, h1, h2, h]; rfl
set_option maxRecDepth 20000 in
set_option maxHeartbeats 8000000 in
theorem rnew_head (A A' : Option Addr) (n n' c c' : Nat) (q : Int) (ms : List Mem) (ps : List VP) (w : World) (hh : headB n n' q = false) (hl : ms.length = n) (hl' : ps.length = n') : Calls Tryz.prog 7 #[.slice A n c, .slice A' n' c', .int .i64 q] w (RNewP ms (ps.map Prod.fst) ps q w) := by
  have HE : Hid (newE ms (ps.map Prod.fst) q = 1) := newE_head (by rw [List.length_map, hl, hl']; exact hh)
  by_cases q0 : 1 ≤ n
  · have e0 : ¬ (n : Int) < 1 := by omega
    have d0 : decide ((n : Int) < 1) = false := by simp; omega
    by_cases q1 : n ≤ 12
    · have e1 : ¬ 12 < (n : Int) := by omega
      have d1 : decide (12 < (n : Int)) = false := by simp; omega
      by_cases q2 : n' ≤ 12
      · have e2 : ¬ 12 < (n' : Int) := by omega
        have d2 : decide (12 < (n' : Int)) = false := by simp; omega
        by_cases q3 : 1 ≤ q
        · have e3 : ¬ q < 1 := by omega
          have d3 : decide (q < 1) = false := by simp; omega
          by_cases q4 : q ≤ 12
          · have e4 : ¬ 12 < q := by omega
            have d4 : decide (12 < q) = false := by simp; omega
            exfalso
            unfold headB at hh
            simp [q0, q1, q2, q3, q4] at hh
          · have e4 : 12 < q := by omega
            have d4 : decide (12 < q) = true := by simp; omega
            clear hh
            go_enter Tryz.func7, Tryz.ntmps7
            go_wp2_with (refine wpList_store_new (o := ⟨none, .store 34 (.tmp 6) (.tmp 33), _, _, _, _⟩) rfl 34 (.tmp 6) (.tmp 33) rfl 34 _ zR.cells rfl rfl Tryz.sizeR rfl (RV.one _) ?_)
            exact bodyPost_ret (ret_cell_tmpS (cs := zR.cells) rfl rfl (heap_alloc_new w _) Tryz.underlying34 rfl Tryz.sizeR) rfl (.inr ⟨by rw [HE.out]; decide, zR, by rw [HE.out]; rfl, (Below.refl _ _).alloc (Nat.le_refl _) _⟩)
        · have e3 : q < 1 := by omega
          have d3 : decide (q < 1) = true := by simp; omega
          clear hh
          go_enter Tryz.func7, Tryz.ntmps7
          go_wp2_with (refine wpList_store_new (o := ⟨none, .store 34 (.tmp 6) (.tmp 33), _, _, _, _⟩) rfl 34 (.tmp 6) (.tmp 33) rfl 34 _ zR.cells rfl rfl Tryz.sizeR rfl (RV.one _) ?_)
          exact bodyPost_ret (ret_cell_tmpS (cs := zR.cells) rfl rfl (heap_alloc_new w _) Tryz.underlying34 rfl Tryz.sizeR) rfl (.inr ⟨by rw [HE.out]; decide, zR, by rw [HE.out]; rfl, (Below.refl _ _).alloc (Nat.le_refl _) _⟩)
      · have e2 : 12 < (n' : Int) := by omega
        have d2 : decide (12 < (n' : Int)) = true := by simp; omega
        clear hh
        go_enter Tryz.func7, Tryz.ntmps7
        go_wp2_with (refine wpList_store_new (o := ⟨none, .store 34 (.tmp 6) (.tmp 33), _, _, _, _⟩) rfl 34 (.tmp 6) (.tmp 33) rfl 34 _ zR.cells rfl rfl Tryz.sizeR rfl (RV.one _) ?_)
        exact bodyPost_ret (ret_cell_tmpS (cs := zR.cells) rfl rfl (heap_alloc_new w _) Tryz.underlying34 rfl Tryz.sizeR) rfl (.inr ⟨by rw [HE.out]; decide, zR, by rw [HE.out]; rfl, (Below.refl _ _).alloc (Nat.le_refl _) _⟩)
    · have e1 : 12 < (n : Int) := by omega
      have d1 : decide (12 < (n : Int)) = true := by simp; omega
      clear hh
      go_enter Tryz.func7, Tryz.ntmps7
      go_wp2_with (refine wpList_store_new (o := ⟨none, .store 34 (.tmp 6) (.tmp 33), _, _, _, _⟩) rfl 34 (.tmp 6) (.tmp 33) rfl 34 _ zR.cells rfl rfl Tryz.sizeR rfl (RV.one _) ?_)
      exact bodyPost_ret (ret_cell_tmpS (cs := zR.cells) rfl rfl (heap_alloc_new w _) Tryz.underlying34 rfl Tryz.sizeR) rfl (.inr ⟨by rw [HE.out]; decide, zR, by rw [HE.out]; rfl, (Below.refl _ _).alloc (Nat.le_refl _) _⟩)
  · have e0 : (n : Int) < 1 := by omega
    have d0 : decide ((n : Int) < 1) = true := by simp; omega
    clear hh
    go_enter Tryz.func7, Tryz.ntmps7
    go_wp2_with (refine wpList_store_new (o := ⟨none, .store 34 (.tmp 6) (.tmp 33), _, _, _, _⟩) rfl 34 (.tmp 6) (.tmp 33) rfl 34 _ zR.cells rfl rfl Tryz.sizeR rfl (RV.one _) ?_)
    exact bodyPost_ret (ret_cell_tmpS (cs := zR.cells) rfl rfl (heap_alloc_new w _) Tryz.underlying34 rfl Tryz.sizeR) rfl (.inr ⟨by rw [HE.out]; decide, zR, by rw [HE.out]; rfl, (Below.refl _ _).alloc (Nat.le_refl _) _⟩)
set_option maxRecDepth 20000 in
set_option maxHeartbeats 8000000 in
theorem rnew_go (A A' : Option Addr) (n n' c c' : Nat) (q : Int) (ms : List Mem) (ps : List VP) (w : World) (hh : headB n n' q = true) (hcap : n ≤ c) (hx : SlN fM 5 w w.heap.size A n ms) (hsz : ∀ m ∈ ms, m.name.size ≤ 9223372036854775807 ∧ m.pub.size ≤ 9223372036854775807) (hv : VIn w w.heap.size A' n' ps) (hvz : ∀ p ∈ ps, p.2.n ≤ 9223372036854775807 ∧ p.1.print.size ≤ 9223372036854775807) : Calls Tryz.prog 7 #[.slice A n c, .slice A' n' c', .int .i64 q] w (RNewP ms (ps.map Prod.fst) ps q w) := by
  have hh0 := hh
  unfold headB at hh
  simp only [Bool.and_eq_true, decide_eq_true_eq] at hh
  obtain ⟨h1, h2, h3, h4, h5⟩ := hh
  have e0 : ¬ (n : Int) < 1 := by omega
  have e1 : ¬ 12 < (n : Int) := by omega
  have e2 : ¬ 12 < (n' : Int) := by omega
  have e3 : ¬ q < 1 := by omega
  have e4 : ¬ 12 < q := by omega
  have f0 : decide ((n : Int) < 1) = false := by simp; omega
  have f1 : decide (12 < (n : Int)) = false := by simp; omega
  have f2 : decide (12 < (n' : Int)) = false := by simp; omega
  have f3 : decide (q < 1) = false := by simp; omega
  have f4 : decide (12 < q) = false := by simp; omega
  obtain ⟨W, hW⟩ : ∃ W : World, W = w.alloc zRO := ⟨_, rfl⟩
  have hB : Below w.heap.size w W := by rw [hW]; exact (Below.refl _ _).alloc (Nat.le_refl _) _
  have hG : W.heap[w.heap.size]? = some zRO := by rw [hW]; exact heap_alloc_new w _
  have HH0 : Hid (headB ms.length (ps.map Prod.fst).length q = true) := by show _ = _; rw [List.length_map, hx.1, hv.1.1]; exact hh0
  have HX := Lib.hid hx
  have HV := Lib.hid hv
  have HS := Lib.hid hsz
  have HVZ := Lib.hid hvz
  have HLEN : Hid (ms.length = n) := hx.1
  have HLEV : Hid (ps.length = n') := hv.1.1
  have HB := Lib.hid hB
  have HG := Lib.hid hG
  have HW := Lib.hid hW
  have HBW : Hid (Below W.heap.size W W) := Below.refl _ _
  clear hx hv hsz hvz hB hG hW hh0
  go_enter Tryz.func7, Tryz.ntmps7
  go_wp2_with fail
  rw [← HW.out]
  clear f0 f1 f2 f3 f4
  go_loopw [8] (fun i wr => ∃ k : Nat, k ≤ n ∧ i = .int .i64 k ∧ Hid ((List.range k).all (okM ms) = true) ∧ Hid (Below W.heap.size W wr)) (fun i _ => n - (intOf i).toNat)
  case atStart => exact ⟨0, Nat.zero_le _, rfl, by show _ = _; rfl, HBW⟩
  case round =>
    obtain ⟨k, hk, rfl, HA, HB0⟩ := hrel
    clear HBW
    have HBw : Hid (Below w.heap.size w wr) := HB.out.trans (HB0.out.mono HB.out.size)
    have HG0 : Hid (wr.heap[w.heap.size]? = some zRO) := (HB0.out.block _ (lt_of_block HG.out)).trans HG.out
    by_cases hlt : k < n
    · have hin := HX.out.up HBw.out (Nat.le_refl _)
      obtain ⟨b, off, x, rfl, hbB, hxk, hcell⟩ := hin.at_ hlt
      obtain ⟨c0, c1, c2, c3, c4⟩ := five hcell
      have hxs := HS.out x (List.mem_of_getElem? hxk)
      obtain ⟨bm, hbm⟩ : ∃ z, memB x k = z := ⟨_, rfl⟩
      obtain ⟨bt, hbt⟩ : ∃ z, takenB (ms.take k) x = z := ⟨_, rfl⟩
      have HBLT : Hid (b < wr.heap.size) := Nat.lt_of_lt_of_le hbB HBw.out.size
      have HVM : Hid (∀ V, Calls Tryz.prog 21 #[aM x, .int .i64 k] V (BoolB bm V)) := fun V => hbm ▸ rmem_any x k V hxs.1 hxs.2
      have HTK : Hid (∀ V, Below wr.heap.size wr V → Calls Tryz.prog 22 #[.slice (some ⟨b, off, none⟩) k c, aM x] V (BoolB bt V)) := fun V h => hbt ▸ rtaken_any x (some ⟨b, off, none⟩) k c (ms.take k) V (((hin.take_ hk).up h HBw.out.size).more (Nat.le_trans HBw.out.size h.size)) (by omega)
      have HOK : Hid (okM ms k = (bm && !bt)) := by show _ = _; unfold okM; rw [hxk]; simp [hbm, hbt]
      have HC0 := Lib.hid c0
      have HC1 := Lib.hid c1
      have HC2 := Lib.hid c2
      have HC3 := Lib.hid c3
      have HC4 := Lib.hid c4
      have hk0 : (0 : Int) ≤ (k : Int) := by omega
      have hk1 : (k : Int) < (n : Int) := by omega
      have hcc : k ≤ c := by omega
      have hcc' : (k : Int) ≤ (c : Int) := by omega
      clear hin hxk hxs hcell hbm hbt hbB
      cases bm
      · go_wp2_with fail
        refine wp_region_noPanic ?_
        refine wp_region_held_drew (S := (fun w' => w'.cell? ⟨b, off + k * 5, none⟩ = some (.int .i64 x.dev) ∧ w'.cell? ⟨b, off + k * 5 + 1, none⟩ = some (.string x.name) ∧ w'.cell? ⟨b, off + k * 5 + 2, none⟩ = some (.string x.pub) ∧ w'.cell? ⟨b, off + k * 5 + 3, none⟩ = some (.int .i64 x.quota) ∧ w'.cell? ⟨b, off + k * 5 + 4, none⟩ = some (.bool x.exp))) (by kernel_rfl) (⟨HC0.out, HC1.out, HC2.out, HC3.out, HC4.out⟩) (fun hHeld => ?_)
        refine wpAnyH_take (i := 0) (v := ?zav0) (by simp only [List.getElem?_toArray, List.getElem?_cons_zero]; rfl) (by kernel_rfl) (by kernel_rfl) (by kernel_rfl) (by exact fun _ _ _ h => h) (Or.inl ⟨by rfl, ?zay0⟩) (by assumption) ?zar0
        case zay0 => (intro w hSw; (try dsimp only at hSw); go_simp; try (with_reducible rfl))
        try simp only [Act.put, List.setIfInBounds_toArray, List.set_cons_zero, List.set_cons_succ]
        refine wpAnyH_take (i := 1) (v := ?zav1) (by simp only [List.getElem?_toArray, List.getElem?_cons_succ, List.getElem?_cons_zero]; rfl) (by kernel_rfl) (by kernel_rfl) (by kernel_rfl) (by exact fun _ _ _ h => h) (Or.inl ⟨by rfl, ?zay1⟩) (by assumption) ?zar1
        case zay1 => (intro w hSw; (try dsimp only at hSw); go_simp; try (with_reducible rfl))
        try simp only [Act.put, List.setIfInBounds_toArray, List.set_cons_zero, List.set_cons_succ]
        refine wpAnyH_take (i := 2) (v := ?zav2) (by simp only [List.getElem?_toArray, List.getElem?_cons_succ, List.getElem?_cons_zero]; rfl) (by kernel_rfl) (by kernel_rfl) (by kernel_rfl) (by exact fun _ _ _ h => h) (Or.inl ⟨by rfl, ?zay2⟩) (by assumption) ?zar2
        case zay2 => (intro w hSw; (try dsimp only at hSw); go_simp; try (with_reducible rfl))
        try simp only [Act.put, List.setIfInBounds_toArray, List.set_cons_zero, List.set_cons_succ]
        refine wpAnyH_take (i := 3) (v := ?zav3) (by simp only [List.getElem?_toArray, List.getElem?_cons_succ, List.getElem?_cons_zero]; rfl) (by kernel_rfl) (by kernel_rfl) (by kernel_rfl) (by exact fun _ _ _ h => h) (Or.inl ⟨by rfl, ?zay3⟩) (by assumption) ?zar3
        case zay3 => (intro w hSw; (try dsimp only at hSw); go_simp; try (with_reducible rfl))
        try simp only [Act.put, List.setIfInBounds_toArray, List.set_cons_zero, List.set_cons_succ]
        refine wpAnyH_take (i := 4) (v := ?zav4) (by simp only [List.getElem?_toArray, List.getElem?_cons_succ, List.getElem?_cons_zero]; rfl) (by kernel_rfl) (by kernel_rfl) (by kernel_rfl) (by exact fun _ _ _ h => h) (Or.inl ⟨by rfl, ?zay4⟩) (by assumption) ?zar4
        case zay4 => (intro w hSw; (try dsimp only at hSw); go_simp; try (with_reducible rfl))
        try simp only [Act.put, List.setIfInBounds_toArray, List.set_cons_zero, List.set_cons_succ]
        refine wpAnyH_ready (rs := [5]) (by kernel_rfl) (by simp) ?_
        refine AllReadyH.cons (by simp only [List.getElem?_toArray, List.getElem?_cons_succ, List.getElem?_cons_zero]; rfl) (fun K hK => ?_) AllReadyH.nil
        go_simp
        (with_reducible refine (HVM.out _).mono ?_)
        rintro e w5 ⟨rfl, hb⟩
        have HB5 : Hid (Below wr.heap.size wr w5) := Below.trans (by first | exact Below.refl _ _ | exact (Below.refl _ _).drew | exact below_dN' (Below.refl _ _) _) hb
        clear hb
        go_wp2_with fail
        refine hK.out _ _ (by exact ⟨(HB5.out.cell (p := ⟨b, off + k * 5, none⟩) HBLT.out).trans HC0.out, (HB5.out.cell (p := ⟨b, off + k * 5 + 1, none⟩) HBLT.out).trans HC1.out, (HB5.out.cell (p := ⟨b, off + k * 5 + 2, none⟩) HBLT.out).trans HC2.out, (HB5.out.cell (p := ⟨b, off + k * 5 + 3, none⟩) HBLT.out).trans HC3.out, (HB5.out.cell (p := ⟨b, off + k * 5 + 4, none⟩) HBLT.out).trans HC4.out⟩) (fun hHeld1 => ?_)
        clear hK K hHeld
        try simp only [Act.put, List.setIfInBounds_toArray, List.set_cons_zero, List.set_cons_succ]
        refine wpAnyH_take (i := 6) (v := ?zav6) (by simp only [List.getElem?_toArray, List.getElem?_cons_succ, List.getElem?_cons_zero]; rfl) (by kernel_rfl) (by kernel_rfl) (by kernel_rfl) (by exact fun _ _ _ h => h) (Or.inl ⟨by rfl, ?zay6⟩) (by assumption) ?zar6
        case zay6 => (intro w hSw; (try dsimp only at hSw); go_simp; try (with_reducible rfl))
        try simp only [Act.put, List.setIfInBounds_toArray, List.set_cons_zero, List.set_cons_succ]
        refine wpAnyH_take (i := 7) (v := ?zav7) (by simp only [List.getElem?_toArray, List.getElem?_cons_succ, List.getElem?_cons_zero]; rfl) (by kernel_rfl) (by kernel_rfl) (by kernel_rfl) (by exact fun _ _ _ h => h) (Or.inl ⟨by rfl, ?zay7⟩) (by assumption) ?zar7
        case zay7 => (intro w hSw; (try dsimp only at hSw); go_simp; try (with_reducible rfl))
        try simp only [Act.put, List.setIfInBounds_toArray, List.set_cons_zero, List.set_cons_succ]
        refine wpAnyH_take (i := 8) (v := undef) (by simp only [List.getElem?_toArray, List.getElem?_cons_succ, List.getElem?_cons_zero]; rfl) (by kernel_rfl) (by kernel_rfl) (by kernel_rfl) (by exact fun _ _ _ h => h) (Or.inr ⟨by rfl, rfl⟩) (by assumption) ?_
        try simp only [Act.put, List.setIfInBounds_toArray, List.set_cons_zero, List.set_cons_succ]
        refine wpAnyH_take (i := 9) (v := undef) (by simp only [List.getElem?_toArray, List.getElem?_cons_succ, List.getElem?_cons_zero]; rfl) (by kernel_rfl) (by kernel_rfl) (by kernel_rfl) (by exact fun _ _ _ h => h) (Or.inr ⟨by rfl, rfl⟩) (by assumption) ?_
        try simp only [Act.put, List.setIfInBounds_toArray, List.set_cons_zero, List.set_cons_succ]
        refine wpAnyH_take (i := 10) (v := undef) (by simp only [List.getElem?_toArray, List.getElem?_cons_succ, List.getElem?_cons_zero]; rfl) (by kernel_rfl) (by kernel_rfl) (by kernel_rfl) (by exact fun _ _ _ h => h) (Or.inr ⟨by rfl, rfl⟩) (by assumption) ?_
        try simp only [Act.put, List.setIfInBounds_toArray, List.set_cons_zero, List.set_cons_succ]
        refine wpAnyH_take (i := 11) (v := undef) (by simp only [List.getElem?_toArray, List.getElem?_cons_succ, List.getElem?_cons_zero]; rfl) (by kernel_rfl) (by kernel_rfl) (by kernel_rfl) (by exact fun _ _ _ h => h) (Or.inr ⟨by rfl, rfl⟩) (by assumption) ?_
        try simp only [Act.put, List.setIfInBounds_toArray, List.set_cons_zero, List.set_cons_succ]
        refine wpAnyH_take (i := 12) (v := undef) (by simp only [List.getElem?_toArray, List.getElem?_cons_succ, List.getElem?_cons_zero]; rfl) (by kernel_rfl) (by kernel_rfl) (by kernel_rfl) (by exact fun _ _ _ h => h) (Or.inr ⟨by rfl, rfl⟩) (by assumption) ?_
        try simp only [Act.put, List.setIfInBounds_toArray, List.set_cons_zero, List.set_cons_succ]
        refine wpAnyH_take (i := 13) (v := undef) (by simp only [List.getElem?_toArray, List.getElem?_cons_succ, List.getElem?_cons_zero]; rfl) (by kernel_rfl) (by kernel_rfl) (by kernel_rfl) (by exact fun _ _ _ h => h) (Or.inr ⟨by rfl, rfl⟩) (by assumption) ?_
        try simp only [Act.put, List.setIfInBounds_toArray, List.set_cons_zero, List.set_cons_succ]
        refine wpAnyH_take (i := 14) (v := undef) (by simp only [List.getElem?_toArray, List.getElem?_cons_succ, List.getElem?_cons_zero]; rfl) (by kernel_rfl) (by kernel_rfl) (by kernel_rfl) (by exact fun _ _ _ h => h) (Or.inr ⟨by rfl, rfl⟩) (by assumption) ?_
        try simp only [Act.put, List.setIfInBounds_toArray, List.set_cons_zero, List.set_cons_succ]
        refine wpAnyH_take (i := 15) (v := undef) (by simp only [List.getElem?_toArray, List.getElem?_cons_succ, List.getElem?_cons_zero]; rfl) (by kernel_rfl) (by kernel_rfl) (by kernel_rfl) (by exact fun _ _ _ h => h) (Or.inr ⟨by rfl, rfl⟩) (by assumption) ?_
        try simp only [Act.put, List.setIfInBounds_toArray, List.set_cons_zero, List.set_cons_succ]
        refine wpAnyH_take (i := 16) (v := ?zav16) (by simp only [List.getElem?_toArray, List.getElem?_cons_succ, List.getElem?_cons_zero]; rfl) (by kernel_rfl) (by kernel_rfl) (by kernel_rfl) (by exact fun _ _ _ h => h) (Or.inl ⟨by rfl, ?zay16⟩) (by assumption) ?zar16
        case zay16 => (intro w hSw; (try dsimp only at hSw); go_simp; try (with_reducible rfl))
        try simp only [Act.put, List.setIfInBounds_toArray, List.set_cons_zero, List.set_cons_succ]
        refine wpAnyH_done (by kernel_rfl) ?_ _
        refine NoPanic.normal ?_
        have HEM : Hid (newE ms (ps.map Prod.fst) q = 1) := newE_mem (memsB_no (by rw [HLEN.out]; exact hlt) HOK.out)
        have HG5 : Hid (w5.heap[w.heap.size]? = some zRO) := (HB5.out.block _ (lt_of_block HG0.out)).trans HG0.out
        go_wp2_with ((refine wpList_store_far (o := ⟨none, .store 34 (.tmp 6) (.tmp 57), _, _, _, _⟩) rfl 34 (.tmp 6) (.tmp 57) rfl w.heap.size 34 _ zR.cells rfl rfl HG5.out Tryz.sizeR rfl (RV.one _) w.heap.size w (HBw.out.trans (HB5.out.mono HBw.out.size)) (Nat.le_refl _) ?_); intro w9 HG9 hb9 HB9)
        exact bodyPost_ret (ret_cell_tmpS (cs := zR.cells) rfl rfl HG9.out Tryz.underlying34 rfl Tryz.sizeR) rfl (.inr ⟨by rw [HEM.out]; decide, zR, by rw [HEM.out]; rfl, hb9⟩)
      · cases bt
        · have HA2 : Hid ((List.range (k + 1)).all (okM ms) = true) := by show _ = _; rw [range_all_succ, HA.out, HOK.out]; rfl
          go_wp2_with fail
          refine wp_region_noPanic ?_
          refine wp_region_held_drew (S := (fun w' => w'.cell? ⟨b, off + k * 5, none⟩ = some (.int .i64 x.dev) ∧ w'.cell? ⟨b, off + k * 5 + 1, none⟩ = some (.string x.name) ∧ w'.cell? ⟨b, off + k * 5 + 2, none⟩ = some (.string x.pub) ∧ w'.cell? ⟨b, off + k * 5 + 3, none⟩ = some (.int .i64 x.quota) ∧ w'.cell? ⟨b, off + k * 5 + 4, none⟩ = some (.bool x.exp))) (by kernel_rfl) (⟨HC0.out, HC1.out, HC2.out, HC3.out, HC4.out⟩) (fun hHeld => ?_)
          refine wpAnyH_take (i := 0) (v := ?zbv0) (by simp only [List.getElem?_toArray, List.getElem?_cons_zero]; rfl) (by kernel_rfl) (by kernel_rfl) (by kernel_rfl) (by exact fun _ _ _ h => h) (Or.inl ⟨by rfl, ?zby0⟩) (by assumption) ?zbr0
          case zby0 => (intro w hSw; (try dsimp only at hSw); go_simp; try (with_reducible rfl))
          try simp only [Act.put, List.setIfInBounds_toArray, List.set_cons_zero, List.set_cons_succ]
          refine wpAnyH_take (i := 1) (v := ?zbv1) (by simp only [List.getElem?_toArray, List.getElem?_cons_succ, List.getElem?_cons_zero]; rfl) (by kernel_rfl) (by kernel_rfl) (by kernel_rfl) (by exact fun _ _ _ h => h) (Or.inl ⟨by rfl, ?zby1⟩) (by assumption) ?zbr1
          case zby1 => (intro w hSw; (try dsimp only at hSw); go_simp; try (with_reducible rfl))
          try simp only [Act.put, List.setIfInBounds_toArray, List.set_cons_zero, List.set_cons_succ]
          refine wpAnyH_take (i := 2) (v := ?zbv2) (by simp only [List.getElem?_toArray, List.getElem?_cons_succ, List.getElem?_cons_zero]; rfl) (by kernel_rfl) (by kernel_rfl) (by kernel_rfl) (by exact fun _ _ _ h => h) (Or.inl ⟨by rfl, ?zby2⟩) (by assumption) ?zbr2
          case zby2 => (intro w hSw; (try dsimp only at hSw); go_simp; try (with_reducible rfl))
          try simp only [Act.put, List.setIfInBounds_toArray, List.set_cons_zero, List.set_cons_succ]
          refine wpAnyH_take (i := 3) (v := ?zbv3) (by simp only [List.getElem?_toArray, List.getElem?_cons_succ, List.getElem?_cons_zero]; rfl) (by kernel_rfl) (by kernel_rfl) (by kernel_rfl) (by exact fun _ _ _ h => h) (Or.inl ⟨by rfl, ?zby3⟩) (by assumption) ?zbr3
          case zby3 => (intro w hSw; (try dsimp only at hSw); go_simp; try (with_reducible rfl))
          try simp only [Act.put, List.setIfInBounds_toArray, List.set_cons_zero, List.set_cons_succ]
          refine wpAnyH_take (i := 4) (v := ?zbv4) (by simp only [List.getElem?_toArray, List.getElem?_cons_succ, List.getElem?_cons_zero]; rfl) (by kernel_rfl) (by kernel_rfl) (by kernel_rfl) (by exact fun _ _ _ h => h) (Or.inl ⟨by rfl, ?zby4⟩) (by assumption) ?zbr4
          case zby4 => (intro w hSw; (try dsimp only at hSw); go_simp; try (with_reducible rfl))
          try simp only [Act.put, List.setIfInBounds_toArray, List.set_cons_zero, List.set_cons_succ]
          refine wpAnyH_ready (rs := [5]) (by kernel_rfl) (by simp) ?_
          refine AllReadyH.cons (by simp only [List.getElem?_toArray, List.getElem?_cons_succ, List.getElem?_cons_zero]; rfl) (fun K hK => ?_) AllReadyH.nil
          go_simp
          (with_reducible refine (HVM.out _).mono ?_)
          rintro e w5 ⟨rfl, hb⟩
          have HB5 : Hid (Below wr.heap.size wr w5) := Below.trans (by first | exact Below.refl _ _ | exact (Below.refl _ _).drew | exact below_dN' (Below.refl _ _) _) hb
          clear hb
          go_wp2_with fail
          refine hK.out _ _ (by exact ⟨(HB5.out.cell (p := ⟨b, off + k * 5, none⟩) HBLT.out).trans HC0.out, (HB5.out.cell (p := ⟨b, off + k * 5 + 1, none⟩) HBLT.out).trans HC1.out, (HB5.out.cell (p := ⟨b, off + k * 5 + 2, none⟩) HBLT.out).trans HC2.out, (HB5.out.cell (p := ⟨b, off + k * 5 + 3, none⟩) HBLT.out).trans HC3.out, (HB5.out.cell (p := ⟨b, off + k * 5 + 4, none⟩) HBLT.out).trans HC4.out⟩) (fun hHeld1 => ?_)
          clear hK K hHeld
          try simp only [Act.put, List.setIfInBounds_toArray, List.set_cons_zero, List.set_cons_succ]
          refine wpAnyH_take (i := 6) (v := ?zbv6) (by simp only [List.getElem?_toArray, List.getElem?_cons_succ, List.getElem?_cons_zero]; rfl) (by kernel_rfl) (by kernel_rfl) (by kernel_rfl) (by exact fun _ _ _ h => h) (Or.inl ⟨by rfl, ?zby6⟩) (by assumption) ?zbr6
          case zby6 => (intro w hSw; (try dsimp only at hSw); go_simp; try (with_reducible rfl))
          try simp only [Act.put, List.setIfInBounds_toArray, List.set_cons_zero, List.set_cons_succ]
          refine wpAnyH_take (i := 7) (v := ?zbv7) (by simp only [List.getElem?_toArray, List.getElem?_cons_succ, List.getElem?_cons_zero]; rfl) (by kernel_rfl) (by kernel_rfl) (by kernel_rfl) (by exact fun _ _ _ h => h) (Or.inl ⟨by rfl, ?zby7⟩) (by assumption) ?zbr7
          case zby7 => (intro w hSw; (try dsimp only at hSw); go_simp; try (with_reducible rfl))
          try simp only [Act.put, List.setIfInBounds_toArray, List.set_cons_zero, List.set_cons_succ]
          refine wpAnyH_take (i := 8) (v := ?zbv8) (by simp only [List.getElem?_toArray, List.getElem?_cons_succ, List.getElem?_cons_zero]; rfl) (by kernel_rfl) (by kernel_rfl) (by kernel_rfl) (by exact fun _ _ _ h => h) (Or.inl ⟨by rfl, ?zby8⟩) (by assumption) ?zbr8
          case zby8 => (intro w hSw; (try dsimp only at hSw); go_simp; try (with_reducible rfl))
          try simp only [Act.put, List.setIfInBounds_toArray, List.set_cons_zero, List.set_cons_succ]
          refine wpAnyH_take (i := 9) (v := ?zbv9) (by simp only [List.getElem?_toArray, List.getElem?_cons_succ, List.getElem?_cons_zero]; rfl) (by kernel_rfl) (by kernel_rfl) (by kernel_rfl) (by exact fun _ _ _ h => h) (Or.inl ⟨by rfl, ?zby9⟩) (by assumption) ?zbr9
          case zby9 => (intro w hSw; (try dsimp only at hSw); go_simp; try (with_reducible rfl))
          try simp only [Act.put, List.setIfInBounds_toArray, List.set_cons_zero, List.set_cons_succ]
          refine wpAnyH_take (i := 10) (v := ?zbv10) (by simp only [List.getElem?_toArray, List.getElem?_cons_succ, List.getElem?_cons_zero]; rfl) (by kernel_rfl) (by kernel_rfl) (by kernel_rfl) (by exact fun _ _ _ h => h) (Or.inl ⟨by rfl, ?zby10⟩) (by assumption) ?zbr10
          case zby10 => (intro w hSw; (try dsimp only at hSw); go_simp; try (with_reducible rfl))
          try simp only [Act.put, List.setIfInBounds_toArray, List.set_cons_zero, List.set_cons_succ]
          refine wpAnyH_take (i := 11) (v := ?zbv11) (by simp only [List.getElem?_toArray, List.getElem?_cons_succ, List.getElem?_cons_zero]; rfl) (by kernel_rfl) (by kernel_rfl) (by kernel_rfl) (by exact fun _ _ _ h => h) (Or.inl ⟨by rfl, ?zby11⟩) (by assumption) ?zbr11
          case zby11 => (intro w hSw; (try dsimp only at hSw); go_simp; try (with_reducible rfl))
          try simp only [Act.put, List.setIfInBounds_toArray, List.set_cons_zero, List.set_cons_succ]
          refine wpAnyH_take (i := 12) (v := ?zbv12) (by simp only [List.getElem?_toArray, List.getElem?_cons_succ, List.getElem?_cons_zero]; rfl) (by kernel_rfl) (by kernel_rfl) (by kernel_rfl) (by exact fun _ _ _ h => h) (Or.inl ⟨by rfl, ?zby12⟩) (by assumption) ?zbr12
          case zby12 => (intro w hSw; (try dsimp only at hSw); go_simp; try (with_reducible rfl))
          try simp only [Act.put, List.setIfInBounds_toArray, List.set_cons_zero, List.set_cons_succ]
          refine wpAnyH_take (i := 13) (v := ?zbv13) (by simp only [List.getElem?_toArray, List.getElem?_cons_succ, List.getElem?_cons_zero]; rfl) (by kernel_rfl) (by kernel_rfl) (by kernel_rfl) (by exact fun _ _ _ h => h) (Or.inl ⟨by rfl, ?zby13⟩) (by assumption) ?zbr13
          case zby13 => (intro w hSw; (try dsimp only at hSw); go_simp; try (with_reducible rfl))
          try simp only [Act.put, List.setIfInBounds_toArray, List.set_cons_zero, List.set_cons_succ]
          refine wpAnyH_take (i := 14) (v := ?zbv14) (by simp only [List.getElem?_toArray, List.getElem?_cons_succ, List.getElem?_cons_zero]; rfl) (by kernel_rfl) (by kernel_rfl) (by kernel_rfl) (by exact fun _ _ _ h => h) (Or.inl ⟨by rfl, ?zby14⟩) (by assumption) ?zbr14
          case zby14 => (intro w hSw; (try dsimp only at hSw); go_simp; try (with_reducible rfl))
          try simp only [Act.put, List.setIfInBounds_toArray, List.set_cons_zero, List.set_cons_succ]
          refine wpAnyH_ready (rs := [15]) (by kernel_rfl) (by simp) ?_
          refine AllReadyH.cons (by simp only [List.getElem?_toArray, List.getElem?_cons_succ, List.getElem?_cons_zero]; rfl) (fun K hK => ?_) AllReadyH.nil
          go_simp
          (with_reducible refine (HTK.out _ (by first | exact HB5.out | exact HB5.out.drew | exact below_dN' HB5.out _)).mono ?_)
          rintro e w6 ⟨rfl, hb⟩
          have HB6 : Hid (Below wr.heap.size wr w6) := Below.trans (by first | exact HB5.out | exact HB5.out.drew | exact below_dN' HB5.out _) (hb.mono (by first | exact HB5.out.size | exact HB5.out.drew.size))
          clear hb
          go_wp2_with fail
          refine hK.out _ _ (by exact ⟨(HB6.out.cell (p := ⟨b, off + k * 5, none⟩) HBLT.out).trans HC0.out, (HB6.out.cell (p := ⟨b, off + k * 5 + 1, none⟩) HBLT.out).trans HC1.out, (HB6.out.cell (p := ⟨b, off + k * 5 + 2, none⟩) HBLT.out).trans HC2.out, (HB6.out.cell (p := ⟨b, off + k * 5 + 3, none⟩) HBLT.out).trans HC3.out, (HB6.out.cell (p := ⟨b, off + k * 5 + 4, none⟩) HBLT.out).trans HC4.out⟩) (fun hHeld2 => ?_)
          clear hK K hHeld1
          try simp only [Act.put, List.setIfInBounds_toArray, List.set_cons_zero, List.set_cons_succ]
          refine wpAnyH_take (i := 16) (v := ?zbv16) (by simp only [List.getElem?_toArray, List.getElem?_cons_succ, List.getElem?_cons_zero]; rfl) (by kernel_rfl) (by kernel_rfl) (by kernel_rfl) (by exact fun _ _ _ h => h) (Or.inl ⟨by rfl, ?zby16⟩) (by assumption) ?zbr16
          case zby16 => (intro w hSw; (try dsimp only at hSw); go_simp; try (with_reducible rfl))
          try simp only [Act.put, List.setIfInBounds_toArray, List.set_cons_zero, List.set_cons_succ]
          refine wpAnyH_done (by kernel_rfl) ?_ _
          refine NoPanic.normal ?_
          go_wp2_with fail
          go_roundw
          case rel => exact ⟨k + 1, by omega, by go_num, HA2, HB0.out.trans (HB6.out.mono HB0.out.size)⟩
          case measure => simp [intOf]; omega
        · go_wp2_with fail
          refine wp_region_noPanic ?_
          refine wp_region_held_drew (S := (fun w' => w'.cell? ⟨b, off + k * 5, none⟩ = some (.int .i64 x.dev) ∧ w'.cell? ⟨b, off + k * 5 + 1, none⟩ = some (.string x.name) ∧ w'.cell? ⟨b, off + k * 5 + 2, none⟩ = some (.string x.pub) ∧ w'.cell? ⟨b, off + k * 5 + 3, none⟩ = some (.int .i64 x.quota) ∧ w'.cell? ⟨b, off + k * 5 + 4, none⟩ = some (.bool x.exp))) (by kernel_rfl) (⟨HC0.out, HC1.out, HC2.out, HC3.out, HC4.out⟩) (fun hHeld => ?_)
          refine wpAnyH_take (i := 0) (v := ?zcv0) (by simp only [List.getElem?_toArray, List.getElem?_cons_zero]; rfl) (by kernel_rfl) (by kernel_rfl) (by kernel_rfl) (by exact fun _ _ _ h => h) (Or.inl ⟨by rfl, ?zcy0⟩) (by assumption) ?zcr0
          case zcy0 => (intro w hSw; (try dsimp only at hSw); go_simp; try (with_reducible rfl))
          try simp only [Act.put, List.setIfInBounds_toArray, List.set_cons_zero, List.set_cons_succ]
          refine wpAnyH_take (i := 1) (v := ?zcv1) (by simp only [List.getElem?_toArray, List.getElem?_cons_succ, List.getElem?_cons_zero]; rfl) (by kernel_rfl) (by kernel_rfl) (by kernel_rfl) (by exact fun _ _ _ h => h) (Or.inl ⟨by rfl, ?zcy1⟩) (by assumption) ?zcr1
          case zcy1 => (intro w hSw; (try dsimp only at hSw); go_simp; try (with_reducible rfl))
          try simp only [Act.put, List.setIfInBounds_toArray, List.set_cons_zero, List.set_cons_succ]
          refine wpAnyH_take (i := 2) (v := ?zcv2) (by simp only [List.getElem?_toArray, List.getElem?_cons_succ, List.getElem?_cons_zero]; rfl) (by kernel_rfl) (by kernel_rfl) (by kernel_rfl) (by exact fun _ _ _ h => h) (Or.inl ⟨by rfl, ?zcy2⟩) (by assumption) ?zcr2
          case zcy2 => (intro w hSw; (try dsimp only at hSw); go_simp; try (with_reducible rfl))
          try simp only [Act.put, List.setIfInBounds_toArray, List.set_cons_zero, List.set_cons_succ]
          refine wpAnyH_take (i := 3) (v := ?zcv3) (by simp only [List.getElem?_toArray, List.getElem?_cons_succ, List.getElem?_cons_zero]; rfl) (by kernel_rfl) (by kernel_rfl) (by kernel_rfl) (by exact fun _ _ _ h => h) (Or.inl ⟨by rfl, ?zcy3⟩) (by assumption) ?zcr3
          case zcy3 => (intro w hSw; (try dsimp only at hSw); go_simp; try (with_reducible rfl))
          try simp only [Act.put, List.setIfInBounds_toArray, List.set_cons_zero, List.set_cons_succ]
          refine wpAnyH_take (i := 4) (v := ?zcv4) (by simp only [List.getElem?_toArray, List.getElem?_cons_succ, List.getElem?_cons_zero]; rfl) (by kernel_rfl) (by kernel_rfl) (by kernel_rfl) (by exact fun _ _ _ h => h) (Or.inl ⟨by rfl, ?zcy4⟩) (by assumption) ?zcr4
          case zcy4 => (intro w hSw; (try dsimp only at hSw); go_simp; try (with_reducible rfl))
          try simp only [Act.put, List.setIfInBounds_toArray, List.set_cons_zero, List.set_cons_succ]
          refine wpAnyH_ready (rs := [5]) (by kernel_rfl) (by simp) ?_
          refine AllReadyH.cons (by simp only [List.getElem?_toArray, List.getElem?_cons_succ, List.getElem?_cons_zero]; rfl) (fun K hK => ?_) AllReadyH.nil
          go_simp
          (with_reducible refine (HVM.out _).mono ?_)
          rintro e w5 ⟨rfl, hb⟩
          have HB5 : Hid (Below wr.heap.size wr w5) := Below.trans (by first | exact Below.refl _ _ | exact (Below.refl _ _).drew | exact below_dN' (Below.refl _ _) _) hb
          clear hb
          go_wp2_with fail
          refine hK.out _ _ (by exact ⟨(HB5.out.cell (p := ⟨b, off + k * 5, none⟩) HBLT.out).trans HC0.out, (HB5.out.cell (p := ⟨b, off + k * 5 + 1, none⟩) HBLT.out).trans HC1.out, (HB5.out.cell (p := ⟨b, off + k * 5 + 2, none⟩) HBLT.out).trans HC2.out, (HB5.out.cell (p := ⟨b, off + k * 5 + 3, none⟩) HBLT.out).trans HC3.out, (HB5.out.cell (p := ⟨b, off + k * 5 + 4, none⟩) HBLT.out).trans HC4.out⟩) (fun hHeld1 => ?_)
          clear hK K hHeld
          try simp only [Act.put, List.setIfInBounds_toArray, List.set_cons_zero, List.set_cons_succ]
          refine wpAnyH_take (i := 6) (v := ?zcv6) (by simp only [List.getElem?_toArray, List.getElem?_cons_succ, List.getElem?_cons_zero]; rfl) (by kernel_rfl) (by kernel_rfl) (by kernel_rfl) (by exact fun _ _ _ h => h) (Or.inl ⟨by rfl, ?zcy6⟩) (by assumption) ?zcr6
          case zcy6 => (intro w hSw; (try dsimp only at hSw); go_simp; try (with_reducible rfl))
          try simp only [Act.put, List.setIfInBounds_toArray, List.set_cons_zero, List.set_cons_succ]
          refine wpAnyH_take (i := 7) (v := ?zcv7) (by simp only [List.getElem?_toArray, List.getElem?_cons_succ, List.getElem?_cons_zero]; rfl) (by kernel_rfl) (by kernel_rfl) (by kernel_rfl) (by exact fun _ _ _ h => h) (Or.inl ⟨by rfl, ?zcy7⟩) (by assumption) ?zcr7
          case zcy7 => (intro w hSw; (try dsimp only at hSw); go_simp; try (with_reducible rfl))
          try simp only [Act.put, List.setIfInBounds_toArray, List.set_cons_zero, List.set_cons_succ]
          refine wpAnyH_take (i := 8) (v := ?zcv8) (by simp only [List.getElem?_toArray, List.getElem?_cons_succ, List.getElem?_cons_zero]; rfl) (by kernel_rfl) (by kernel_rfl) (by kernel_rfl) (by exact fun _ _ _ h => h) (Or.inl ⟨by rfl, ?zcy8⟩) (by assumption) ?zcr8
          case zcy8 => (intro w hSw; (try dsimp only at hSw); go_simp; try (with_reducible rfl))
          try simp only [Act.put, List.setIfInBounds_toArray, List.set_cons_zero, List.set_cons_succ]
          refine wpAnyH_take (i := 9) (v := ?zcv9) (by simp only [List.getElem?_toArray, List.getElem?_cons_succ, List.getElem?_cons_zero]; rfl) (by kernel_rfl) (by kernel_rfl) (by kernel_rfl) (by exact fun _ _ _ h => h) (Or.inl ⟨by rfl, ?zcy9⟩) (by assumption) ?zcr9
          case zcy9 => (intro w hSw; (try dsimp only at hSw); go_simp; try (with_reducible rfl))
          try simp only [Act.put, List.setIfInBounds_toArray, List.set_cons_zero, List.set_cons_succ]
          refine wpAnyH_take (i := 10) (v := ?zcv10) (by simp only [List.getElem?_toArray, List.getElem?_cons_succ, List.getElem?_cons_zero]; rfl) (by kernel_rfl) (by kernel_rfl) (by kernel_rfl) (by exact fun _ _ _ h => h) (Or.inl ⟨by rfl, ?zcy10⟩) (by assumption) ?zcr10
          case zcy10 => (intro w hSw; (try dsimp only at hSw); go_simp; try (with_reducible rfl))
          try simp only [Act.put, List.setIfInBounds_toArray, List.set_cons_zero, List.set_cons_succ]
          refine wpAnyH_take (i := 11) (v := ?zcv11) (by simp only [List.getElem?_toArray, List.getElem?_cons_succ, List.getElem?_cons_zero]; rfl) (by kernel_rfl) (by kernel_rfl) (by kernel_rfl) (by exact fun _ _ _ h => h) (Or.inl ⟨by rfl, ?zcy11⟩) (by assumption) ?zcr11
          case zcy11 => (intro w hSw; (try dsimp only at hSw); go_simp; try (with_reducible rfl))
          try simp only [Act.put, List.setIfInBounds_toArray, List.set_cons_zero, List.set_cons_succ]
          refine wpAnyH_take (i := 12) (v := ?zcv12) (by simp only [List.getElem?_toArray, List.getElem?_cons_succ, List.getElem?_cons_zero]; rfl) (by kernel_rfl) (by kernel_rfl) (by kernel_rfl) (by exact fun _ _ _ h => h) (Or.inl ⟨by rfl, ?zcy12⟩) (by assumption) ?zcr12
          case zcy12 => (intro w hSw; (try dsimp only at hSw); go_simp; try (with_reducible rfl))
          try simp only [Act.put, List.setIfInBounds_toArray, List.set_cons_zero, List.set_cons_succ]
          refine wpAnyH_take (i := 13) (v := ?zcv13) (by simp only [List.getElem?_toArray, List.getElem?_cons_succ, List.getElem?_cons_zero]; rfl) (by kernel_rfl) (by kernel_rfl) (by kernel_rfl) (by exact fun _ _ _ h => h) (Or.inl ⟨by rfl, ?zcy13⟩) (by assumption) ?zcr13
          case zcy13 => (intro w hSw; (try dsimp only at hSw); go_simp; try (with_reducible rfl))
          try simp only [Act.put, List.setIfInBounds_toArray, List.set_cons_zero, List.set_cons_succ]
          refine wpAnyH_take (i := 14) (v := ?zcv14) (by simp only [List.getElem?_toArray, List.getElem?_cons_succ, List.getElem?_cons_zero]; rfl) (by kernel_rfl) (by kernel_rfl) (by kernel_rfl) (by exact fun _ _ _ h => h) (Or.inl ⟨by rfl, ?zcy14⟩) (by assumption) ?zcr14
          case zcy14 => (intro w hSw; (try dsimp only at hSw); go_simp; try (with_reducible rfl))
          try simp only [Act.put, List.setIfInBounds_toArray, List.set_cons_zero, List.set_cons_succ]
          refine wpAnyH_ready (rs := [15]) (by kernel_rfl) (by simp) ?_
          refine AllReadyH.cons (by simp only [List.getElem?_toArray, List.getElem?_cons_succ, List.getElem?_cons_zero]; rfl) (fun K hK => ?_) AllReadyH.nil
          go_simp
          (with_reducible refine (HTK.out _ (by first | exact HB5.out | exact HB5.out.drew | exact below_dN' HB5.out _)).mono ?_)
          rintro e w6 ⟨rfl, hb⟩
          have HB6 : Hid (Below wr.heap.size wr w6) := Below.trans (by first | exact HB5.out | exact HB5.out.drew | exact below_dN' HB5.out _) (hb.mono (by first | exact HB5.out.size | exact HB5.out.drew.size))
          clear hb
          go_wp2_with fail
          refine hK.out _ _ (by exact ⟨(HB6.out.cell (p := ⟨b, off + k * 5, none⟩) HBLT.out).trans HC0.out, (HB6.out.cell (p := ⟨b, off + k * 5 + 1, none⟩) HBLT.out).trans HC1.out, (HB6.out.cell (p := ⟨b, off + k * 5 + 2, none⟩) HBLT.out).trans HC2.out, (HB6.out.cell (p := ⟨b, off + k * 5 + 3, none⟩) HBLT.out).trans HC3.out, (HB6.out.cell (p := ⟨b, off + k * 5 + 4, none⟩) HBLT.out).trans HC4.out⟩) (fun hHeld2 => ?_)
          clear hK K hHeld1
          try simp only [Act.put, List.setIfInBounds_toArray, List.set_cons_zero, List.set_cons_succ]
          refine wpAnyH_take (i := 16) (v := ?zcv16) (by simp only [List.getElem?_toArray, List.getElem?_cons_succ, List.getElem?_cons_zero]; rfl) (by kernel_rfl) (by kernel_rfl) (by kernel_rfl) (by exact fun _ _ _ h => h) (Or.inl ⟨by rfl, ?zcy16⟩) (by assumption) ?zcr16
          case zcy16 => (intro w hSw; (try dsimp only at hSw); go_simp; try (with_reducible rfl))
          try simp only [Act.put, List.setIfInBounds_toArray, List.set_cons_zero, List.set_cons_succ]
          refine wpAnyH_done (by kernel_rfl) ?_ _
          refine NoPanic.normal ?_
          have HEM : Hid (newE ms (ps.map Prod.fst) q = 1) := newE_mem (memsB_no (by rw [HLEN.out]; exact hlt) HOK.out)
          have HG6 : Hid (w6.heap[w.heap.size]? = some zRO) := (HB6.out.block _ (lt_of_block HG0.out)).trans HG0.out
          go_wp2_with ((refine wpList_store_far (o := ⟨none, .store 34 (.tmp 6) (.tmp 57), _, _, _, _⟩) rfl 34 (.tmp 6) (.tmp 57) rfl w.heap.size 34 _ zR.cells rfl rfl HG6.out Tryz.sizeR rfl (RV.one _) w.heap.size w (HBw.out.trans (HB6.out.mono HBw.out.size)) (Nat.le_refl _) ?_); intro w9 HG9 hb9 HB9)
          exact bodyPost_ret (ret_cell_tmpS (cs := zR.cells) rfl rfl HG9.out Tryz.underlying34 rfl Tryz.sizeR) rfl (.inr ⟨by rw [HEM.out]; decide, zR, by rw [HEM.out]; rfl, hb9⟩)
    · obtain ⟨k0, hk0⟩ : ∃ k0, k0 = n := ⟨_, rfl⟩
      obtain hkn : k = n := by omega
      subst hkn
      subst hk0
      have HMS : Hid (memsB ms = true) := by show _ = _; unfold memsB; rw [HLEN.out]; exact HA.out
      clear HA
      go_wp2_with fail
      go_loopw [9] (fun i wr => ∃ k : Nat, k ≤ n' ∧ i = .int .i64 k ∧ Hid ((List.range k).all (okVt (ps.map Prod.fst) k0) = true) ∧ Hid (Below W.heap.size W wr)) (fun i _ => n' - (intOf i).toNat)
      case atStart => exact ⟨0, Nat.zero_le _, rfl, by show _ = _; rfl, HB0⟩
      case round =>
        obtain ⟨j, hj, rfl, HAV, HB1⟩ := hrel
        clear HB0 HG0 HBw
        have HBw : Hid (Below w.heap.size w wr) := HB.out.trans (HB1.out.mono HB.out.size)
        have HG0 : Hid (wr.heap[w.heap.size]? = some zRO) := (HB1.out.block _ (lt_of_block HG.out)).trans HG.out
        by_cases hlt2 : j < n'
        · have hin := HV.out.up HBw.out (Nat.le_refl _)
          obtain ⟨b, off, x, hA', hbB, hxk, hcell⟩ := hin.1.at_ hlt2
          have hxm := List.mem_of_getElem? hxk
          have hsw := hin.2 x hxm
          have hxz := HVZ.out x hxm
          obtain ⟨d0, d1, d2, d3, d4, d5, d6, d7, d8, d9, d10, d11, d12, d13, d14⟩ := fifteen hcell
          have HVX : Hid ((ps.map Prod.fst)[j]? = some x.1) := by show _ = _; rw [List.getElem?_map, hxk]; rfl
          obtain ⟨vk, A0, n0, cc0⟩ := x
          simp only at hsw hxz HVX d0 d1 d2 d3 d4 d5 d6 d7 d8 d9 d10 d11 d12 d13 d14
          obtain ⟨bv, hbv⟩ : ∃ z, vltB vk j k0 = z := ⟨_, rfl⟩
          have HVV : Hid (Calls Tryz.prog 23 #[aV vk A0 n0 cc0, .int .i64 j, .int .i64 k0] wr (BoolB bv wr)) := hbv ▸ rvault_any vk A0 n0 cc0 j k0 wr (hsw.more' HBw.out.size) hxz.2 hxz.1
          have HOV : Hid (okVt (ps.map Prod.fst) k0 j = bv) := by show _ = _; unfold okVt; rw [HVX.out]; exact hbv
          subst hA'
          have hj0 : (0 : Int) ≤ (j : Int) := by omega
          have hj1 : (j : Int) < (n' : Int) := by omega
          clear hin hbB hxk hxm hsw hxz hcell hbv
          go_wp2_with fail
          refine HVV.out.mono ?_
          rintro e w5 ⟨rfl, hb⟩
          have HB5 : Hid (Below W.heap.size W w5) := HB1.out.trans (hb.mono HB1.out.size)
          have HBw5 : Hid (Below w.heap.size w w5) := HBw.out.trans (hb.mono HBw.out.size)
          have HG5 : Hid (w5.heap[w.heap.size]? = some zRO) := (hb.block _ (lt_of_block HG0.out)).trans HG0.out
          clear hb d0 d1 d2 d3 d4 d5 d6 d7 d8 d9 d10 d11 d12 d13 d14
          cases bv
          · have HEV : Hid (newE ms (ps.map Prod.fst) q = 1) := newE_vlt (by
              rw [HLEN.out]
              unfold vltsB
              rw [List.all_eq_false]
              exact ⟨j, List.mem_range.2 (by rw [List.length_map, HLEV.out]; exact hlt2), by rw [HOV.out]; simp⟩)
            go_wp2_with ((refine wpList_store_far (o := ⟨none, .store 34 (.tmp 6) (.tmp 73), _, _, _, _⟩) rfl 34 (.tmp 6) (.tmp 73) rfl w.heap.size 34 _ zR.cells rfl rfl HG5.out Tryz.sizeR rfl (RV.one _) w.heap.size w HBw5.out (Nat.le_refl _) ?_); intro w9 HG9 hb9 HB9)
            exact bodyPost_ret (ret_cell_tmpS (cs := zR.cells) rfl rfl HG9.out Tryz.underlying34 rfl Tryz.sizeR) rfl (.inr ⟨by rw [HEV.out]; decide, zR, by rw [HEV.out]; rfl, hb9⟩)
          · have HA2 : Hid ((List.range (j + 1)).all (okVt (ps.map Prod.fst) k0) = true) := by show _ = _; rw [range_all_succ, HAV.out, HOV.out]; rfl
            go_wp2_with fail
            go_roundw
            case rel => exact ⟨j + 1, by omega, by go_num, HA2, HB5⟩
            case measure => simp [intOf]; omega
        · obtain hjn : j = n' := by omega
          subst hjn
          have HVS : Hid (vltsB (ps.map Prod.fst) k0 = true) := by show _ = _; unfold vltsB; rw [List.length_map, HLEV.out]; exact HAV.out
          clear HAV
          go_wp2_with fail
          go_loopw [10] (fun i wr => ∃ k : Nat, k ≤ j ∧ i = .int .i64 k ∧ Hid (((ps.map Prod.fst).take k).all (possB k0) = true) ∧ Hid (Below W.heap.size W wr)) (fun i _ => j - (intOf i).toNat)
          case atStart => exact ⟨0, Nat.zero_le _, rfl, by show _ = _; simp, HB1⟩
          case round =>
            obtain ⟨p, hp, rfl, HAP, HB2⟩ := hrel
            clear HB1 HG0 HBw
            have HBw : Hid (Below w.heap.size w wr) := HB.out.trans (HB2.out.mono HB.out.size)
            have HG0 : Hid (wr.heap[w.heap.size]? = some zRO) := (HB2.out.block _ (lt_of_block HG.out)).trans HG.out
            by_cases hlt3 : p < j
            · have hin := HV.out.up HBw.out (Nat.le_refl _)
              obtain ⟨b, off, x, hA', hbB, hxk, hcell⟩ := hin.1.at_ hlt3
              have hxm := List.mem_of_getElem? hxk
              have hsw := hin.2 x hxm
              obtain ⟨d0, d1, d2, d3, d4, d5, d6, d7, d8, d9, d10, d11, d12, d13, d14⟩ := fifteen hcell
              have HVX : Hid ((ps.map Prod.fst)[p]? = some x.1) := by show _ = _; rw [List.getElem?_map, hxk]; rfl
              have hw3 := vlts_ws HVS.out x.1 (List.mem_of_getElem? HVX.out)
              have hwl := hsw.1
              obtain ⟨vk, A0, n0, cc0⟩ := x
              simp only at hsw HVX hw3 hwl d0 d1 d2 d3 d4 d5 d6 d7 d8 d9 d10 d11 d12 d13 d14
              have hn0 : n0 ≤ 3 := by omega
              have HLW : Hid (vk.ws.length = n0) := hwl
              subst hA'
              have hp0 : (0 : Int) ≤ (p : Int) := by omega
              have hp1 : (p : Int) < (j : Int) := by omega
              have HPB : Hid (possB k0 vk = false → newE ms (ps.map Prod.fst) q = 14) := fun h => newE_pos HH0.out HMS.out (by rw [HLEN.out]; exact HVS.out) (by
                rw [HLEN.out, List.all_eq_false]
                exact ⟨vk, List.mem_of_getElem? HVX.out, by rw [h]; simp⟩)
              clear hin hbB hxk hxm hsw hcell hw3 hwl d0 d2 d5 d6 d7 d8 d9 d10 d11 d12 d13 d14
              by_cases hp1' : vk.total ≤ (k0 : Int) - (n0 : Int)
              · have g1 : ¬ (k0 : Int) - (n0 : Int) < vk.total := by omega
                have g1b : decide ((k0 : Int) - (n0 : Int) < vk.total) = false := by simp; omega
                by_cases hp2' : vk.thr ≤ (k0 : Int) - (n0 : Int)
                · have g2 : ¬ (k0 : Int) - (n0 : Int) < vk.thr := by omega
                  have g2b : decide ((k0 : Int) - (n0 : Int) < vk.thr) = false := by simp; omega
                  have HA3 : Hid (((ps.map Prod.fst).take (p + 1)).all (possB k0) = true) := by show _ = _; rw [take_snoc HVX.out, List.all_append, HAP.out]; simp [possB, HLW.out, hp1', hp2']
                  go_wp2_with fail
                  go_roundw
                  case rel => exact ⟨p + 1, by omega, by go_num, HA3, HB2⟩
                  case measure => simp [intOf]; omega
                · have g2 : (k0 : Int) - (n0 : Int) < vk.thr := by omega
                  have g2b : decide ((k0 : Int) - (n0 : Int) < vk.thr) = true := by simp; omega
                  have HEP : Hid (newE ms (ps.map Prod.fst) q = 14) := HPB.out (by simp [possB, HLW.out, hp2'])
                  go_wp2_with ((refine wpList_store_far (o := ⟨none, .store 34 (.tmp 6) (.tmp 105), _, _, _, _⟩) rfl 34 (.tmp 6) (.tmp 105) rfl w.heap.size 34 _ zR.cells rfl rfl HG0.out Tryz.sizeR rfl (RV.one _) w.heap.size w HBw.out (Nat.le_refl _) ?_); intro w9 HG9 hb9 HB9)
                  exact bodyPost_ret (ret_cell_tmpS (cs := zR.cells) rfl rfl HG9.out Tryz.underlying34 rfl Tryz.sizeR) rfl (.inr ⟨by rw [HEP.out]; decide, zR, by rw [HEP.out]; rfl, hb9⟩)
              · have g1 : (k0 : Int) - (n0 : Int) < vk.total := by omega
                have g1b : decide ((k0 : Int) - (n0 : Int) < vk.total) = true := by simp; omega
                have HEP : Hid (newE ms (ps.map Prod.fst) q = 14) := HPB.out (by simp [possB, HLW.out, hp1'])
                go_wp2_with ((refine wpList_store_far (o := ⟨none, .store 34 (.tmp 6) (.tmp 105), _, _, _, _⟩) rfl 34 (.tmp 6) (.tmp 105) rfl w.heap.size 34 _ zR.cells rfl rfl HG0.out Tryz.sizeR rfl (RV.one _) w.heap.size w HBw.out (Nat.le_refl _) ?_); intro w9 HG9 hb9 HB9)
                exact bodyPost_ret (ret_cell_tmpS (cs := zR.cells) rfl rfl HG9.out Tryz.underlying34 rfl Tryz.sizeR) rfl (.inr ⟨by rw [HEP.out]; decide, zR, by rw [HEP.out]; rfl, hb9⟩)
            · obtain hpj : p = j := by omega
              subst hpj
              have HEY : Hid (newE ms (ps.map Prod.fst) q = 0) := newE_yes HH0.out HMS.out (by rw [HLEN.out]; exact HVS.out) (by
                have h7 := HAP.out
                rw [List.take_of_length_le (by rw [List.length_map, HLEV.out]; exact Nat.le_refl _)] at h7
                rw [HLEN.out]
                exact h7)
              obtain ⟨i0, hi, hz0, hz1, hz2⟩ := info_parts Tryz.infoM
              have HI := Lib.hid hi
              have HZ0 := Lib.hid hz0
              have HZ1 := Lib.hid hz1
              have HZ2 := Lib.hid hz2
              obtain ⟨v0, hv, hy0, hy1, hy2⟩ := info_parts Tryz.infoV
              have HJ := Lib.hid hv
              have HY0 := Lib.hid hy0
              have HY1 := Lib.hid hy1
              have HY2 := Lib.hid hy2
              have hE1 : OwnN fM 5 40 (wr.alloc (.cells #[] 40)) wr.heap.size (.slice (some ⟨wr.heap.size, 0, none⟩) 0 0) [] := World.ownsRow_lit wr #[] 0 (Nat.le_refl _) (by unfold maxLen; omega) rfl
              have HE1 := Lib.hid hE1
              have HK1 : Hid ((([] : List Mem).length + k0) * 56 ≤ 140737488355328) := by show _ ≤ _; simp; omega
              have HK2 : Hid (([] : List Mem).length + k0 ≤ maxLen) := by show _ ≤ _; simp [maxLen]; omega
              have HK3 : Hid ((([] : List VP).length + p) * 144 ≤ 140737488355328) := by show _ ≤ _; simp; omega
              have HK4 : Hid (([] : List VP).length + p ≤ maxLen) := by show _ ≤ _; simp [maxLen]; omega
              have HXW := Lib.hid ((HX.out.up HBw.out (Nat.le_refl _)).more HBw.out.size)
              clear hi hz0 hz1 hz2 hv hy0 hy1 hy2 hE1
              go_wp2_with (first | ((refine wpList_appN fM_len (by omega) (o := ⟨some 111, _, _, _, _, _⟩) rfl (.tmp 109) (.tmp 110) 22 rfl 40 i0 _ 56 Tryz.underlying22 HI.out HZ0.out HZ1.out HZ2.out Tryz.zsM (.slice (some ⟨wr.heap.size, 0, none⟩) 0 0) [] wr.heap.size (by rfl) HE1.out A k0 c wr.heap.size ms (by rfl) (HXW.out.up ((Below.refl _ _).alloc (Nat.le_refl _) _) (Nat.le_refl _)) fM_one HK1.out HK2.out (by simp) ?_); intro v5 w5 HO5 HG5 _; (have HB5 : Hid (Below wr.heap.size wr w5) := ((Below.refl _ _).alloc (Nat.le_refl _) _).trans (grown_below HG5.out (by simp [Value.ownBlock]) (by simp))); (have HE2 : Hid (OwnN fP 15 68 (w5.alloc (.cells #[] 68)) w5.heap.size (.slice (some ⟨w5.heap.size, 0, none⟩) 0 0) []) := World.ownsRow_lit w5 #[] 0 (Nat.le_refl _) (by unfold maxLen; omega) rfl); (have HVW : Hid (VIn w5 w5.heap.size A' p ps) := (HV.out.up (HBw.out.trans (HB5.out.mono HBw.out.size)) (Nat.le_refl _)).more (Nat.le_trans HBw.out.size HB5.out.size)); (have HO5 : Hid (OwnN fM 5 40 w5 wr.heap.size v5 ms) := HO5)) | ((refine wpList_appN fP_len (by omega) (o := ⟨some 114, _, _, _, _, _⟩) rfl (.tmp 112) (.tmp 113) 23 rfl 68 v0 _ 144 Tryz.underlying23 HJ.out HY0.out HY1.out HY2.out Tryz.zsV (.slice (some ⟨w5.heap.size, 0, none⟩) 0 0) [] w5.heap.size (by rfl) HE2.out A' p c' w5.heap.size ps (by rfl) (HVW.out.1.up ((Below.refl _ _).alloc (Nat.le_refl _) _) (Nat.le_refl _)) fP_one HK3.out HK4.out (by simp) ?_); intro v6 w6 HO6 HG6 _; (have HB6 : Hid (Below w5.heap.size w5 w6) := ((Below.refl _ _).alloc (Nat.le_refl _) _).trans (grown_below HG6.out (by simp [Value.ownBlock]) (by simp))); (have HO6 : Hid (OwnN fP 15 68 w6 w5.heap.size v6 ps) := HO6); (have HO5 := Lib.hid (HO5.out.on HB6.out)); (obtain ⟨A5, c5, hv5, _, hs5, _⟩ := HO5.out.shape fM_len); subst hv5; (obtain ⟨A6, c6, hv6, _, hs6, _⟩ := HO6.out.shape fP_len); subst hv6; (have HB7 : Hid (Below w.heap.size w w6) := HBw.out.trans ((HB5.out.trans (HB6.out.mono HB5.out.size)).mono HBw.out.size)); (have HG7 : Hid (w6.heap[w.heap.size]? = some zRO) := (HB6.out.block _ (Nat.lt_of_lt_of_le (lt_of_block HG0.out) HB5.out.size)).trans ((HB5.out.block _ (lt_of_block HG0.out)).trans HG0.out)); (have HS5 := Lib.hid hs5); (have HS6 := Lib.hid hs6); clear hs5 hs6) | ((refine wpList_store_far (o := ⟨none, .store 34 (.tmp 6) (.tmp 115), _, _, _, _⟩) rfl 34 (.tmp 6) (.tmp 115) rfl w.heap.size 34 _ (⟨⟨A, k0, c⟩, ⟨A', p, c'⟩, q, ⟨none, 0, 0⟩, ⟨A5, ms.length, c5⟩, ⟨A6, ps.length, c6⟩, ⟨none, 0, 0⟩⟩ : RV).cells rfl rfl HG7.out Tryz.sizeR rfl (RV.one _) w.heap.size w HB7.out (Nat.le_refl _) ?_); intro w9 HG9 hb9 HB9))
              have hlt9 := lt_of_block HG0.out
              have ho5 := HO5.out.kept HB9.out (.inr (fun e => by have h7 := (World.ownsRow.lt HO5.out w.heap.size e).1; omega))
              have ho6 := HO6.out.kept HB9.out (.inr (fun e => by have h7 := (World.ownsRow.lt HO6.out w.heap.size e).1; have := HB5.out.size; omega))
              obtain ⟨A5', c5', e5, _, hs5, _⟩ := ho5.shape fM_len
              obtain ⟨A6', c6', e6, _, hs6, _⟩ := ho6.shape fP_len
              obtain ⟨hA5, _⟩ : A5 = A5' ∧ c5 = c5' := by simpa using e5
              obtain ⟨hA6, _⟩ : A6 = A6' ∧ c6 = c6' := by simpa using e6
              rw [← hA5] at hs5
              rw [← hA6] at hs6
              exact bodyPost_ret (ret_cell_tmpS (cs := (⟨⟨A, k0, c⟩, ⟨A', p, c'⟩, q, ⟨none, 0, 0⟩, ⟨A5, ms.length, c5⟩, ⟨A6, ps.length, c6⟩, ⟨none, 0, 0⟩⟩ : RV).cells) rfl rfl HG9.out Tryz.underlying34 rfl Tryz.sizeR) rfl (.inl ⟨HEY.out, (⟨⟨A, k0, c⟩, ⟨A', p, c'⟩, q, ⟨none, 0, 0⟩, ⟨A5, ms.length, c5⟩, ⟨A6, ps.length, c6⟩, ⟨none, 0, 0⟩⟩ : RV), rfl, ⟨rfl, hs5, ⟨ps, ⟨hs6, fun x hx => ((HV.out.2 x hx).up hb9 (Nat.le_refl _)).more' hb9.size⟩, rfl⟩, SlN.nil, ⟨[], SlN.nil, by simp⟩⟩, hb9, ⟨fun ad h => Nat.le_trans HBw.out.size (World.ownsRow.lt ho5 ad.block (by show Value.ownBlock (.slice A5 _ _) = _; rw [show A5 = some ad from h]; rfl)).1, fun ad h => Nat.le_trans HBw.out.size (Nat.le_trans HB5.out.size (World.ownsRow.lt ho6 ad.block (by show Value.ownBlock (.slice A6 _ _) = _; rw [show A6 = some ad from h]; rfl)).1), rfl, rfl, ⟨hs6, fun x hx => ((HV.out.2 x hx).up hb9 (Nat.le_refl _)).more' hb9.size⟩⟩, ⟨(HX.out.up hb9 (Nat.le_refl _)).more hb9.size, (HV.out.up hb9 (Nat.le_refl _)).more hb9.size⟩⟩)
end Go.Proofs.YtkeicjokekmkpaaGreat
