/- retention.reasons, walked. -/
import Derived.Test.YtfffhdclbdmfnaaRsA
import Derived.Laws.EntriesVeiled
import Derived.Sort.LoopGhostIn
namespace Go.Proofs.Ytfffhdclbdmfnaa
open Go.RowKit Go.Shelf Ret
set_option linter.unusedVariables false
set_option linter.unusedSimpArgs false

attribute [local go_sem] Oper.semAt_some

theorem cells_keep {A B : World} {row : Option Nat} {base g : Nat} {cs : Array Value} {t : TypeId} {fr : Nat × Nat} (hg : A.grownBy B row) (hr : ∀ r, row = some r → base ≤ r ∧ ∃ o : Obj, A.heap[r]? = some o ∧ o.isCells = false) (h : A.heap[g]? = some (.cells cs t fr)) :
    B.heap[g]? = some (.cells cs t fr) := (hg.block g (lt_of_block h) (fun e => by
      obtain ⟨_, o, ho, hc⟩ := hr g e.symm
      rw [h] at ho
      injection ho with ho
      subst ho
      cases hc)).trans h
/-- The marks that the loops over functions leave. -/
def Marks (base top : Nat) (ds : List Deferred) (W : World) : Prop := ∃ Ds : List Nat, ds = Ds.map (fun D => { target := .collected D, args := #[] }) ∧ Ds.Nodup ∧ ∀ D ∈ Ds, base ≤ D ∧ D < top ∧ W.heap[D]? = some (.deferred (some []))
theorem Marks.nil (base top : Nat) (W : World) : Marks base top [] W := ⟨[], rfl, List.nodup_nil, fun D h => by cases h⟩
theorem Marks.kept {base top top' : Nat} {ds : List Deferred} {W W' : World} (h : Marks base top ds W) (ht : top ≤ top') (hk : ∀ D, D < top → W.heap[D]? = some (.deferred (some [])) → W'.heap[D]? = some (.deferred (some []))) : Marks base top' ds W' := by
  obtain ⟨Ds, h1, h2, h3⟩ := h
  exact ⟨Ds, h1, h2, fun D hD => ⟨(h3 D hD).1, by have := (h3 D hD).2.1; omega, hk D (h3 D hD).2.1 (h3 D hD).2.2⟩⟩
theorem Marks.cons {base top D : Nat} {ds : List Deferred} {W : World} (h : Marks base top ds W) (hb : base ≤ top) (hD : top ≤ D) (hd : W.heap[D]? = some (.deferred (some []))) : Marks base W.heap.size ({ target := .collected D, args := #[] } :: ds) W := by
  obtain ⟨Ds, h1, h2, h3⟩ := h
  refine ⟨D :: Ds, by rw [h1]; rfl, List.nodup_cons.2 ⟨fun hm => by have := (h3 D hm).2.1; omega, h2⟩, fun E hE => ?_⟩
  rcases List.mem_cons.1 hE with rfl | hE
  · exact ⟨by omega, lt_of_block hd, hd⟩
  · exact ⟨(h3 E hE).1, lt_of_block (h3 E hE).2.2, (h3 E hE).2.2⟩

/-- What holds of the world between two rounds of the loop over the days. -/
def RI (base S k m : Nat) (f : FuncId) (r : Int) (G : Int → Int) (pc : Array Value) (dfs : List Deferred) (w : World) (pre : List (Nat × Day)) (W : World) : Prop :=
  (∃ (K : List Int) (left : Nat) (last : Int), Kst k m (preD pre) K left last ∧ left ≤ m ∧ W.heap[S + 1]? = some (.cells #[.int .i64 (left : Int)] 3 (0, 0)) ∧ W.heap[S + 1 + 1]? = some (.cells #[.int .i64 last] 3 (0, 0)) ∧ MapI Try.prog 3 3 W (base + 1) (k * 100000 + pre.length) (addR G r K)) ∧
  W.heap[S]? = some (.cells #[fF f, .int .i64 (m : Int), .int .i64 r] 51 (0, 0)) ∧ W.heap[base + 1 + 1]? = some (.cells #[.map (some (base + 1))] 44 (0, 0)) ∧ W.heap[base + 1 + 1 + 1 + 1]? = some (.cells pc 51 (0, 0)) ∧ Marks base S dfs W ∧ S + 1 + 1 + 1 < W.heap.size ∧ Below base w W
/-- .. behind a round that has left the loop. -/
def RX (base S k m : Nat) (r : Int) (G : Int → Int) (pc : Array Value) (dfs : List Deferred) (w : World) (pre : List (Nat × Day)) (W : World) : Prop :=
  (∃ K : List Int, Kend k m (preD pre) K ∧ MapI Try.prog 3 3 W (base + 1) (k * 100000 + pre.length) (addR G r K)) ∧
  W.heap[base + 1 + 1]? = some (.cells #[.map (some (base + 1))] 44 (0, 0)) ∧ W.heap[base + 1 + 1 + 1 + 1]? = some (.cells pc 51 (0, 0)) ∧ Marks base S dfs W ∧ Below base w W
theorem RI_own {base S k m N : Nat} {f : FuncId} {r : Int} {G : Int → Int} {pc : Array Value} {dfs : List Deferred} {w : World} (hN : base + 1 < N) (hS : S ≤ N) : OwnFrom N (RI base S k m f r G pc dfs w) := by
  rintro pre W W' row ⟨⟨K, left, last, h1, h2, h3, h4, h5⟩, h6, h7, h8, h9, hss, h10⟩ hg hr
  refine ⟨⟨K, left, last, h1, h2, cells_keep hg hr h3, cells_keep hg hr h4, h5.kept hg (fun e => by have := (hr _ e.symm).1; omega)⟩, cells_keep hg hr h6, cells_keep hg hr h7, cells_keep hg hr h8, h9.kept (Nat.le_refl _) (fun D hD h => (hg.block D (lt_of_block h) (fun e => by have := (hr _ e.symm).1; omega)).trans h), by have := hg.size; omega, ?_⟩
  have hsz : base ≤ W.heap.size := by have := h5.lt; omega
  exact h10.grown hg hsz (fun j e => by have := (hr _ e).1; omega)
theorem RX_own' {base S k m N : Nat} {r : Int} {G : Int → Int} {pc : Array Value} {dfs : List Deferred} {w : World} (hN : base + 1 < N) (hS : S ≤ N) (c : Code) : OwnFrom N (fun pre W => c = .exit 2 ∧ RX base S k m r G pc dfs w pre W) := by
  rintro pre W W' row ⟨hc, ⟨K, h1, h5⟩, h7, h8, h9, h10⟩ hg hr
  refine ⟨hc, ⟨K, h1, h5.kept hg (fun e => by have := (hr _ e.symm).1; omega)⟩, cells_keep hg hr h7, cells_keep hg hr h8, h9.kept (Nat.le_refl _) (fun D hD h => (hg.block D (lt_of_block h) (fun e => by have := (hr _ e.symm).1; omega)).trans h), ?_⟩
  have hsz : base ≤ W.heap.size := by have := h5.lt; omega
  exact h10.grown hg hsz (fun j e => by have := (hr _ e).1; omega)
theorem preD_app (p q : List (Nat × Day)) : preD (p ++ q) = preD p ++ preD q := by simp [preD]
theorem zeroI : ∀ w, (zeroValue 3).run Try.prog w = .ok (.int .i64 0) w := fun w => by kernel_rfl
theorem getEx_of_lt {W : World} {g : Nat} (h : g < W.heap.size) : ∃ o, W.heap[g]? = some o := ⟨W.heap[g], Array.getElem?_eq_getElem h⟩
theorem MapI.is_map {P : Program} {kt et : TypeId} {w : World} {b n : Nat} {F : Int → Int} (h : MapI P kt et w b n F) : ∃ o : Obj, w.heap[b]? = some o ∧ o ≠ .deferred (some []) := by
  obtain ⟨D, ⟨es, ck, h1, _⟩, _⟩ := h
  exact ⟨_, h1, fun e => by cases e⟩
theorem zeroB : ∀ w, (zeroValue 4).run Try.prog w = .ok (.bool false) w := fun w => by kernel_rfl
/-- The reasons of the days. -/
def whyF (zs hs : List Day) (a b c d : Nat) : Int → Int := addR (Fk zs a b c d 4) 16 ((dys zs).filter fun y => decide (y ∈ dys hs))
def RsPost (zs hs : List Day) (a b c d : Nat) (w : World) (e : Ending) (w' : World) : Prop := ∃ bm m, e = .returned (.map (some bm)) ∧ MapI Try.prog 3 3 w' bm m (whyF zs hs a b c d) ∧ Below w.heap.size w w'
theorem addH_bd (zs : List Day) (a b c d : Nat) (K : List Int) (x : Int) (hK : K.length ≤ 100000) (hn : zs.length ≤ 100000) : 0 ≤ addR (Fk zs a b c d 4) 16 K x ∧ addR (Fk zs a b c d 4) 16 K x ≤ 10000000 := by
  have h1 := Fk_bd zs a b c d hn x 4
  have hc : K.count x ≤ 100000 := Nat.le_trans List.count_le_length hK
  simp only [addR]
  omega
/-- The way out, past the marks. -/
theorem leaves_marks {F : Fence} {n : Nat} {fn : Func} {tmps : Array Value} {R : Ending → World → Prop} {base top : Nat} {ds : List Deferred} {W : World} (h : Marks base top ds W)
    (hR : ∀ W' : World, (∀ g : Nat, W.heap[g]? ≠ some (Obj.deferred (some [])) → W'.heap[g]? = W.heap[g]?) → Below base W W' → ∃ v, (results fn tmps).run Try.prog W' = .ok v W' ∧ R (.returned v) W') : LeavesInM F n Try.prog fn tmps R ds .returning W := by
  obtain ⟨Ds, rfl, hnd, hall⟩ := h
  have key : ∀ (Ds : List Nat) (W1 : World), Ds.Nodup → (∀ D ∈ Ds, base ≤ D ∧ W1.heap[D]? = some (.deferred (some [])) ∧ W.heap[D]? = some (.deferred (some []))) → (∀ g : Nat, W.heap[g]? ≠ some (Obj.deferred (some [])) → W1.heap[g]? = W.heap[g]?) → Below base W W1 →
      LeavesInM F n Try.prog fn tmps R (Ds.map fun D => { target := .collected D, args := #[] }) .returning W1 := by
    intro Ds
    induction Ds with
    | nil => intro W1 _ _ hk hb; exact hR W1 hk hb
    | cons D Ds ih =>
      intro W1 hnd hall hk hb
      rw [List.nodup_cons] at hnd
      obtain ⟨h1, h2, h3⟩ := hall D (List.mem_cons_self ..)
      refine ⟨by simp, .inl ⟨D, _, rfl, run_takeDeferred h2, ih _ hnd.2 (fun E hE => ?_) (fun g hg => ?_) ?_⟩⟩
      · obtain ⟨g1, g2, g3⟩ := hall E (List.mem_cons_of_mem _ hE)
        exact ⟨g1, ((grownBy_putObj' W1 D (.deferred none)).block E (lt_of_block g2) (fun e => hnd.1 (by have := Option.some.inj e; subst this; exact hE))).trans g2, g3⟩
      · have hgD : g ≠ D := fun e => hg (by rw [e]; exact h3)
        have := hk g hg
        rw [← this]
        exact World.putObj_heap_other hgD
      · exact hb.grown (grownBy_putObj' W1 D (.deferred none)) (by have := lt_of_block h3; have := hb.size; omega) (fun k e => by have := Option.some.inj e; omega)
  exact key Ds W hnd (fun D hD => ⟨(hall D hD).1, (hall D hD).2.2, (hall D hD).2.2⟩) (fun g _ => rfl) (Below.refl _ _)
theorem keeps_of {B : Nat} {W W' : World} (hs : W.heap.size ≤ W'.heap.size) (h : ∀ g o, W.heap[g]? = some o → o.isCells = false → B ≤ g → W'.heap[g]? = some o) : KeepsFrom B W W' := ⟨hs, fun k o hB hk ho => h k o hk ho hB⟩

set_option maxRecDepth 100000 in
set_option maxHeartbeats 8000000 in
theorem reasons_any (a b c d : Nat) (ha : a ≤ 1000) (hb : b ≤ 1000) (hc : c ≤ 1000) (hd : d ≤ 1000) (A A' : Option Addr) (cp cp' : Nat) (zs hs : List Day) (w : World) (hx : Sl I w w.heap.size A zs.length (dys zs)) (hy : Sl I w w.heap.size A' hs.length (dys hs)) (hn : zs.length ≤ 100000) (hn' : hs.length ≤ 100000) :
    Calls Try.prog 31 #[fR a b c d, .slice A zs.length cp, .slice A' hs.length cp'] w (RsPost zs hs a b c d w) := by
  refine (callsIn_wide (n := 8)).1 ?_
  have hmm := @run_makeMap Try.prog
  refine callsIn_of_wp_marks Try.func31 rfl trivial ?_ rfl
  simp only [Try.ntmps31, List.size_toArray, List.length_cons, List.length_nil, Nat.reduceAdd, Nat.reduceSub, Array.replicate_succ, Array.replicate_zero, List.push_toArray, List.append_toArray, List.nil_append, List.cons_append]
  gi_wp2_with (refine ⟨trivial, ?_⟩; gi_at_call 36; refine (callsIn_wide.2 (periods_any _ _ _ _ _)).mono ?_; rintro e w1 ⟨rfl, rfl⟩)
  obtain ⟨W0, hW0⟩ : ∃ W0 : World, W0 = ((((w.alloc (.cells #[.int .i64 a, .int .i64 b, .int .i64 c, .int .i64 d] 23)).alloc (.map #[] 0)).alloc (.cells #[.map (some (w.heap.size + 1))] 44)).alloc (.cells #[.int .i64 a, .int .i64 b, .int .i64 c, .int .i64 d] 23)).alloc (.cells (pcells a b c d) 51) := ⟨_, rfl⟩
  have HB0 : Hid (Below w.heap.size w W0) := by
    show Below _ _ _
    rw [hW0]
    exact ((((((Below.refl _ _).alloc (Nat.le_refl _) _).alloc (by simp) _).alloc (by simp; omega) _).alloc (by simp; omega) _).alloc (by simp; omega) _)
  have HM0 : Hid (MapI Try.prog 3 3 W0 (w.heap.size + 1) 0 (fun _ => 0)) := by
    show MapI _ _ _ _ _ _ _
    have h := MapI.made (P := Try.prog) (kt := 3) (et := 3) (w.alloc (.cells #[.int .i64 a, .int .i64 b, .int .i64 c, .int .i64 d] 23))
    rw [World.size_alloc] at h
    refine h.block ?_
    rw [hW0, Below.heap_alloc _ _ _ (by simp), Below.heap_alloc _ _ _ (by simp), Below.heap_alloc _ _ _ (by simp)]
  have HW0 : Hid (W0.heap[w.heap.size + 1 + 1]? = some (.cells #[.map (some (w.heap.size + 1))] 44 (0, 0))) := by
    show _ = _
    rw [hW0, Below.heap_alloc _ _ _ (by simp), Below.heap_alloc _ _ _ (by simp)]
    have := heap_alloc_new ((w.alloc (.cells #[.int .i64 a, .int .i64 b, .int .i64 c, .int .i64 d] 23)).alloc (.map #[] 0)) (.cells #[.map (some (w.heap.size + 1))] 44)
    simpa using this
  have HP0 : Hid (W0.heap[w.heap.size + 1 + 1 + 1 + 1]? = some (.cells (pcells a b c d) 51 (0, 0))) := by
    show _ = _
    rw [hW0]
    have := heap_alloc_new ((((w.alloc (.cells #[.int .i64 a, .int .i64 b, .int .i64 c, .int .i64 d] 23)).alloc (.map #[] 0)).alloc (.cells #[.map (some (w.heap.size + 1))] 44)).alloc (.cells #[.int .i64 a, .int .i64 b, .int .i64 c, .int .i64 d] 23)) (.cells (pcells a b c d) 51)
    simpa using this
  rw [← hW0]
  clear hW0
  refine wpIn_loop_ghost (fun gk act wr => ∃ (k : Nat) (dfs : List Deferred) (u9 u10 u11 u13 u14 u25 u26 u27 u28 u29 u30 u31 u34 u35 u36 u37 u38 u39 u40 u41 u42 u43 u44 u45 u46 u47 u48 u49 u50 u51 u52 : Value), k + gk = 4 ∧ act = { tmps := #[fR a b c d, .slice A zs.length cp, .slice A' hs.length cp', .pointer (some ⟨w.heap.size, 0, none⟩), undef, undef, .map none, .pointer (some ⟨w.heap.size + 1 + 1, 0, none⟩), undef, u9, u10, u11, undef, u13, u14, undef, undef, undef, undef, undef, .map (some (w.heap.size + 1)), .agg #[.int .i64 a, .int .i64 b, .int .i64 c, .int .i64 d], .slice (some ⟨w.heap.size + 1 + 1 + 1 + 1, 0, none⟩) 4 4, .int .i64 4, .int .i64 (k : Int), u25, u26, u27, u28, u29, u30, u31, undef, undef, u34, u35, u36, u37, u38, u39, u40, u41, u42, u43, u44, u45, u46, u47, u48, u49, u50, u51, u52, undef, undef, undef, undef, undef, undef, undef, undef, undef, undef, undef, undef, undef, undef, undef, undef, undef, undef, undef, undef, undef, undef, undef, undef, undef], defers := dfs } ∧ Marks w.heap.size wr.heap.size dfs wr ∧ MapI Try.prog 3 3 wr (w.heap.size + 1) (k * 100000) (Fk zs a b c d k) ∧ wr.heap[w.heap.size + 1 + 1]? = some (.cells #[.map (some (w.heap.size + 1))] 44 (0, 0)) ∧ wr.heap[w.heap.size + 1 + 1 + 1 + 1]? = some (.cells (pcells a b c d) 51 (0, 0)) ∧ Below w.heap.size w wr) 4 ?_ ?_
  · exact ⟨0, [], _, _, _, _, _, _, _, _, _, _, _, _, _, _, _, _, _, _, _, _, _, _, _, _, _, _, _, _, _, _, _, rfl, rfl, Marks.nil _ _ _, by rw [Nat.zero_mul]; exact HM0.out, HW0.out, HP0.out, HB0.out⟩
  · clear HM0 HW0 HP0 HB0 W0
    rintro gk act wr ⟨k, dfs, u9, u10, u11, u13, u14, u25, u26, u27, u28, u29, u30, u31, u34, u35, u36, u37, u38, u39, u40, u41, u42, u43, u44, u45, u46, u47, u48, u49, u50, u51, u52, hk, rfl, hMK, hM, hW, hP, hB⟩
    have HMK := Lib.hid hMK
    have HM := Lib.hid hM
    have HW := Lib.hid hW
    have HP := Lib.hid hP
    have HB := Lib.hid hB
    clear hMK hM hW hP hB
    have hsz : w.heap.size + 1 + 1 + 1 + 1 < wr.heap.size := lt_of_block HP.out
    by_cases hlt : k < 4
    · obtain ⟨p0, p1, p2⟩ := pcells_at (a : Int) b c d hlt
      obtain ⟨f, hf⟩ : ∃ f, fidOf k = f := ⟨_, rfl⟩
      obtain ⟨r, hr⟩ : ∃ r, rOf k = r := ⟨_, rfl⟩
      obtain ⟨m, hm⟩ : ∃ m : Nat, nOf (a : Int) b c d k = m := by
        unfold nOf
        split
        · exact ⟨a, rfl⟩
        · split
          · exact ⟨b, rfl⟩
          · split
            · exact ⟨c, rfl⟩
            · exact ⟨d, rfl⟩
      rw [hf] at p0
      rw [hm] at p1
      rw [hr] at p2
      have HFI : Hid (∀ (x : Day) (W : World), Calls Try.prog f #[.int .i64 x.1] W (IntB (per k x.1) W)) := fun x W => by
        rw [← hf]; exact per_any k hlt x.1 W x.2
      have hcf : ∀ args w, (callFunc f args).run Try.prog w = .ok (.enter f args) w := by rw [← hf]; exact callFunc_fid hlt
      have hmle : m ≤ 1000 := by
        have : nOf (a : Int) b c d k ≤ 1000 := by
          unfold nOf
          split
          · omega
          · split
            · omega
            · split <;> omega
        omega
      have HMLE := Lib.hid hmle
      clear hmle
      have HR := Lib.hid hr
      have HMM := Lib.hid hm
      clear hf hr hm
      have c0 : wr.cell? ⟨w.heap.size + 1 + 1 + 1 + 1, k * 3, none⟩ = some (fF f) := (cell_of_row _ _ _ _ _ _ HP.out).trans p0
      have c1 : wr.cell? ⟨w.heap.size + 1 + 1 + 1 + 1, k * 3 + 1, none⟩ = some (.int .i64 m) := (cell_of_row _ _ _ _ _ _ HP.out).trans p1
      have c2 : wr.cell? ⟨w.heap.size + 1 + 1 + 1 + 1, k * 3 + 2, none⟩ = some (.int .i64 r) := (cell_of_row _ _ _ _ _ _ HP.out).trans p2
      clear p0 p1 p2
      gi_wp2_with (refine ⟨trivial, ?_⟩; gi_at_call 45; refine (callsIn_wide.2 (back_any _ _ _ _)).mono ?_; rintro e w1 ⟨rfl, rfl⟩)
      obtain ⟨W1, hW1⟩ : ∃ W1 : World, W1 = (((wr.alloc (.cells #[fF f, .int .i64 (m : Int), .int .i64 r] 51)).alloc (.cells #[.int .i64 (m : Int)] 3)).alloc (.cells #[.int .i64 (-1)] 3)).alloc (.cells #[.slice A zs.length cp] 26) := ⟨_, rfl⟩
      have hold : ∀ g, g < wr.heap.size → W1.heap[g]? = wr.heap[g]? := fun g hg => by
        rw [hW1, Below.heap_alloc _ _ _ (by simp; omega), Below.heap_alloc _ _ _ (by simp; omega), Below.heap_alloc _ _ _ (by simp; omega), Below.heap_alloc _ _ _ hg]
      have F0 : W1.heap[wr.heap.size]? = some (.cells #[fF f, .int .i64 (m : Int), .int .i64 r] 51 (0, 0)) := by
        rw [hW1, Below.heap_alloc _ _ _ (by simp; omega), Below.heap_alloc _ _ _ (by simp; omega), Below.heap_alloc _ _ _ (by simp)]
        exact heap_alloc_new _ _
      have F1 : W1.heap[wr.heap.size + 1]? = some (.cells #[.int .i64 (m : Int)] 3 (0, 0)) := by
        rw [hW1, Below.heap_alloc _ _ _ (by simp), Below.heap_alloc _ _ _ (by simp)]
        have := heap_alloc_new (wr.alloc (.cells #[fF f, .int .i64 (m : Int), .int .i64 r] 51)) (.cells #[.int .i64 (m : Int)] 3)
        simpa using this
      have F2 : W1.heap[wr.heap.size + 1 + 1]? = some (.cells #[.int .i64 (-1)] 3 (0, 0)) := by
        rw [hW1, Below.heap_alloc _ _ _ (by simp)]
        have := heap_alloc_new ((wr.alloc (.cells #[fF f, .int .i64 (m : Int), .int .i64 r] 51)).alloc (.cells #[.int .i64 (m : Int)] 3)) (.cells #[.int .i64 (-1)] 3)
        simpa using this
      have F3 : W1.heap[wr.heap.size + 1 + 1 + 1]? = some (.cells #[.slice A zs.length cp] 26 (0, 0)) := by
        rw [hW1]
        have := heap_alloc_new (((wr.alloc (.cells #[fF f, .int .i64 (m : Int), .int .i64 r] 51)).alloc (.cells #[.int .i64 (m : Int)] 3)).alloc (.cells #[.int .i64 (-1)] 3)) (.cells #[.slice A zs.length cp] 26)
        simpa using this
      have hs1 : W1.heap.size = wr.heap.size + 1 + 1 + 1 + 1 := by rw [hW1]; simp
      have hB1 : Below w.heap.size w W1 := by
        rw [hW1]
        have := HB.out.size
        exact ((((HB.out.alloc this _).alloc (by simp; omega) _).alloc (by simp; omega) _).alloc (by simp; omega) _)
      have hm1 := HM.out.block (w' := W1) (hold (w.heap.size + 1) (by omega))
      have hI0 : RI w.heap.size wr.heap.size k m f r (Fk zs a b c d k) (pcells a b c d) dfs w [] W1 :=
        ⟨⟨[], m, -1, Kst.nil k m, Nat.le_refl _, F1, F2, by rw [addR_nil]; exact hm1.mono (Nat.le_add_right _ _)⟩, F0, (hold _ (by omega)).trans HW.out, (hold _ hsz).trans HP.out, HMK.out.kept (Nat.le_refl _) (fun D _ h => (hold D (lt_of_block h)).trans h), by omega, hB1⟩
      have HI0 := Lib.hid hI0
      have HS1 : Hid (Sl I W1 w.heap.size A zs.length (dys zs)) := hx.up hB1 (Nat.le_refl _)
      have HF3 := Lib.hid F3
      have hbs1 := hB1.size
      rw [← hW1]
      clear hW1 hold F0 F1 F2 F3 hB1 hI0 c0 c1 c2
      refine wpIn_rangeFunc_ownG rfl (by omega) (gf := 59) (lb := #[.pointer (some ⟨wr.heap.size + 1 + 1 + 1, 0, none⟩)]) rfl trivial (enters_of Try.func59 (by kernel_rfl) rfl)
        (back_stops Fence.wide (8 - 1) trivial rfl (by omega) (wr.heap.size + 1 + 1 + 1) w.heap.size A cp zs (by omega) W1 hbs1 HF3.out HS1.out) (fun h h' => h.trans h') (KeepB.putObj hbs1 (by omega)) (Below.refl _ _) (fun _ => rfl)
        (RI w.heap.size wr.heap.size k m f r (Fk zs a b c d k) (pcells a b c d) dfs w) (fun cc pre W => cc = .exit 2 ∧ RX w.heap.size wr.heap.size k m r (Fk zs a b c d k) (pcells a b c d) dfs w pre W)
        (RI_own (by omega) (by omega)) (fun c => RX_own' (by omega) (by omega) _) HI0.out
        (fun x => { tmps := #[fR a b c d, .slice A zs.length cp, .slice A' hs.length cp', .pointer (some ⟨w.heap.size, 0, none⟩), undef, undef, .map none, .pointer (some ⟨w.heap.size + 1 + 1, 0, none⟩), undef, .pointer (some ⟨wr.heap.size, 0, none⟩), .pointer (some ⟨wr.heap.size + 1, 0, none⟩), .pointer (some ⟨wr.heap.size + 1 + 1, 0, none⟩), undef, .int .i64 x.2.1, u14, undef, undef, undef, undef, undef, .map (some (w.heap.size + 1)), .agg #[.int .i64 a, .int .i64 b, .int .i64 c, .int .i64 d], .slice (some ⟨w.heap.size + 1 + 1 + 1 + 1, 0, none⟩) 4 4, .int .i64 4, .int .i64 (k : Int), .bool true, .pointer (some ⟨w.heap.size + 1 + 1 + 1 + 1, k * 3, none⟩), .agg #[fF f, .int .i64 (m : Int), .int .i64 r], .pointer (some ⟨wr.heap.size, 1, none⟩), .int .i64 (m : Int), .slice A zs.length cp, .func (.func 59) #[] #[.pointer (some ⟨wr.heap.size + 1 + 1 + 1, 0, none⟩)], .int .i64 (x.1 : Int), .int .i64 x.2.1, u34, u35, u36, u37, u38, u39, u40, u41, u42, u43, u44, u45, u46, u47, u48, u49, u50, u51, u52, undef, undef, undef, undef, undef, undef, undef, undef, undef, undef, undef, undef, undef, undef, undef, undef, undef, undef, undef, undef, undef, undef, undef, undef, undef], defers := [] }) ?assign ?body ?done ?stop
      case assign =>
        intro l x W K hK
        gi_wp2
        exact hK
      case body =>
        rintro l pre x W ⟨⟨K, left, last, hst, hlm, hc1, hc2, hmp⟩, hc0, hcw, hcp, hmk, hss, hbw⟩ hlt2
        have HST := Lib.hid hst
        have HC1 := Lib.hid hc1
        have HC2 := Lib.hid hc2
        have HMP := Lib.hid hmp
        have HC0 := Lib.hid hc0
        have HCW := Lib.hid hcw
        have HCP := Lib.hid hcp
        have HMK2 := Lib.hid hmk
        have HBW := Lib.hid hbw
        clear hst hc1 hc2 hmp hc0 hcw hcp hmk hbw
        have c0 := cell_of_row W wr.heap.size 0 _ _ _ HC0.out
        simp at c0
        have hpd : preD (pre ++ [x]) = preD pre ++ [x.2.1] := by simp [preD]
        have HPD := Lib.hid hpd
        clear hpd
        obtain ⟨q, hq⟩ : ∃ q, per k x.2.1 = q := ⟨_, rfl⟩
        have HQ := Lib.hid hq
        have HFX : Hid (∀ W, Calls Try.prog f #[.int .i64 x.2.1] W (IntB q W)) := fun W => by rw [← hq]; exact HFI.out x.2 W
        clear hq
        by_cases he : q = last
        · have heb : (q == last) = true := by simp [he]
          have HST2 : Hid (Kst k m (preD (pre ++ [x])) K left last) := by
            show Kst _ _ _ _ _ _
            rw [HPD.out]
            exact HST.out.skip (by rw [HQ.out]; exact he)
          clear he
          gi_wp2_with (refine ⟨trivial, ?_⟩; refine (CallsIn.inRound l (callsIn_wide.2 (HFX.out W))).mono ?_; rintro e w2 ⟨rfl, hb2⟩; have HB2 := Lib.hid hb2; have G1 := (hb2.block _ (lt_of_block HC1.out)).trans HC1.out; have G2 := (hb2.block _ (lt_of_block HC2.out)).trans HC2.out; have G0 := (hb2.block _ (lt_of_block HC0.out)).trans HC0.out; have GW := (hb2.block _ (lt_of_block HCW.out)).trans HCW.out; have GP := (hb2.block _ (lt_of_block HCP.out)).trans HCP.out; have GM := HMP.out.block (hb2.block _ HMP.out.lt); have l1 := cell_of_row w2 (wr.heap.size + 1) 0 _ _ _ G1; have l2 := cell_of_row w2 (wr.heap.size + 1 + 1) 0 _ _ _ G2; simp at l1 l2; have H1 := Lib.hid G1; have H2 := Lib.hid G2; have H0 := Lib.hid G0; have HWW := Lib.hid GW; have HPP := Lib.hid GP; have HMMP := Lib.hid GM; clear hb2 G1 G2 G0 GW GP GM)
          exact ⟨keeps_of HB2.out.size (fun g o h _ _ => (HB2.out.block g (lt_of_block h)).trans h), ⟨HB2.out.mono HBW.out.size, HB2.out.block _ hss⟩, ⟨⟨K, left, last, HST2.out, hlm, H1.out, H2.out, HMMP.out.mono (by simp)⟩, H0.out, HWW.out, HPP.out, HMK2.out.kept (Nat.le_refl _) (fun D _ h => (HB2.out.block D (lt_of_block h)).trans h), by have := HB2.out.size; omega, HBW.out.trans (HB2.out.mono HBW.out.size)⟩⟩
        · have heb : (q == last) = false := by simp [he]
          rcases left with _ | left
          · have HST2 : Hid (Kend k m (preD (pre ++ [x])) K) := by
              show Kend _ _ _ _
              rw [HPD.out]
              exact HST.out.stop (by rw [HQ.out]; exact he)
            clear he
            gi_wp2_with (refine ⟨trivial, ?_⟩; refine (CallsIn.inRound l (callsIn_wide.2 (HFX.out W))).mono ?_; rintro e w2 ⟨rfl, hb2⟩; have HB2 := Lib.hid hb2; have G1 := (hb2.block _ (lt_of_block HC1.out)).trans HC1.out; have G2 := (hb2.block _ (lt_of_block HC2.out)).trans HC2.out; have G0 := (hb2.block _ (lt_of_block HC0.out)).trans HC0.out; have GW := (hb2.block _ (lt_of_block HCW.out)).trans HCW.out; have GP := (hb2.block _ (lt_of_block HCP.out)).trans HCP.out; have GM := HMP.out.block (hb2.block _ HMP.out.lt); have l1 := cell_of_row w2 (wr.heap.size + 1) 0 _ _ _ G1; have l2 := cell_of_row w2 (wr.heap.size + 1 + 1) 0 _ _ _ G2; simp at l1 l2; have H1 := Lib.hid G1; have H2 := Lib.hid G2; have H0 := Lib.hid G0; have HWW := Lib.hid GW; have HPP := Lib.hid GP; have HMMP := Lib.hid GM; clear hb2 G1 G2 G0 GW GP GM)
            exact ⟨keeps_of HB2.out.size (fun g o h _ _ => (HB2.out.block g (lt_of_block h)).trans h), rfl, ⟨K, HST2.out, HMMP.out.mono (by simp)⟩, HWW.out, HPP.out, HMK2.out.kept (Nat.le_refl _) (fun D _ h => (HB2.out.block D (lt_of_block h)).trans h), HBW.out.trans (HB2.out.mono HBW.out.size)⟩
          · have HST2 : Hid (Kst k m (preD (pre ++ [x])) (K ++ [x.2.1]) left q) := by
              show Kst _ _ _ _ _ _
              rw [HPD.out]
              have := HST.out.take (d := x.2.1) (by rw [HQ.out]; exact he)
              rwa [HQ.out] at this
            have hlb : ((left + 1 : Nat) : Int) ≤ 1000 := by have := HMLE.out; omega
            have hl0 : (((left + 1 : Nat) : Int) == 0) = false := by simp; omega
            have hls : ((left + 1 : Nat) : Int) - 1 = left := by omega
            have HLS := Lib.hid hls
            clear he hls
            have hkl := HST.out.len
            have hpl : K.length ≤ 100000 := by simp [preD] at hkl; omega
            have hval := addR_bd zs a b c d k r K x.2.1 hlt (by rw [← HR.out]; exact rOf_bd k) hpl hn
            obtain ⟨v, hv⟩ : ∃ v, addR (Fk zs a b c d k) r K x.2.1 = v := ⟨_, rfl⟩
            rw [hv] at hval
            have HVV := Lib.hid hv
            have hrb : 1 ≤ r ∧ r ≤ 8 := by rw [← HR.out]; exact rOf_bd k
            clear hv hkl
            have c2 := cell_of_row W wr.heap.size 2 _ _ _ HC0.out
            simp at c2
            have hwf := int_wf (d := x.2.1) (by have := x.2.2; unfold okD at this; omega)
            have hwf2 := int_wf (d := v + r) (by omega)
            have HWF := Lib.hid hwf
            have HWF2 := Lib.hid hwf2
            have HNM : Hid (k * 100000 + pre.length < maxLen) := by show _ < _; unfold maxLen; omega
            clear hwf hwf2
            gi_wp2_with (first | (gi_at_mapUpdate; refine wpListIn_updI rfl (.tmp 46) (.tmp 47) (.tmp 51) rfl Try.underlying3 Try.underlying44 Try.underlying3 rfl HM3.out HNM.out x.2.1 (v + r) rfl rfl HWF.out HWF2.out ?_; intro w6 HM6 HG6) | (refine ⟨trivial, ?_⟩; refine (CallsIn.inRound l (callsIn_wide.2 (HFX.out W))).mono ?_; rintro e w2 ⟨rfl, hb2⟩; have HB2 := Lib.hid hb2; have G1 := (hb2.block _ (lt_of_block HC1.out)).trans HC1.out; have G2 := (hb2.block _ (lt_of_block HC2.out)).trans HC2.out; have G0 := (hb2.block _ (lt_of_block HC0.out)).trans HC0.out; have GW := (hb2.block _ (lt_of_block HCW.out)).trans HCW.out; have GP := (hb2.block _ (lt_of_block HCP.out)).trans HCP.out; have GM := HMP.out.block (hb2.block _ HMP.out.lt); have l1 := cell_of_row w2 (wr.heap.size + 1) 0 _ _ _ G1; have l2 := cell_of_row w2 (wr.heap.size + 1 + 1) 0 _ _ _ G2; simp at l1 l2; have f1 := frozen_of_row w2 (wr.heap.size + 1) 0 _ _ G1; have f2 := frozen_of_row w2 (wr.heap.size + 1 + 1) 0 _ _ G2; have lw := cell_of_row w2 (w.heap.size + 1 + 1) 0 _ _ _ GW; have lp := cell_of_row w2 wr.heap.size 2 _ _ _ G0; simp at lw lp; have H1 := Lib.hid G1; have H2 := Lib.hid G2; have H0 := Lib.hid G0; have HWW := Lib.hid GW; have HPP := Lib.hid GP; have HMMP := Lib.hid GM; have GM3 : MapI Try.prog 3 3 ((w2.setCell ⟨wr.heap.size + 1, 0, none⟩ (.int .i64 (left : Int))).setCell ⟨wr.heap.size + 1 + 1, 0, none⟩ (.int .i64 q)) (w.heap.size + 1) (k * 100000 + pre.length) (addR (Fk zs a b c d k) r K) := GM.block ((heap_setCell_other _ _ _ _ (by show w.heap.size + 1 ≠ wr.heap.size + 1 + 1; omega)).trans (heap_setCell_other _ _ _ _ (by show w.heap.size + 1 ≠ wr.heap.size + 1; omega))); have hlook := GM3.look (mt := 44) Try.underlying3 Try.underlying44 Try.underlying3 zeroI x.2.1 HWF.out; rw [HVV.out] at hlook; have HM3 := Lib.hid GM3; clear hb2 G1 G2 G0 GW GP GM GM3))
            have hgt : ∀ g o, W.heap[g]? = some o → g ≠ wr.heap.size + 1 → g ≠ wr.heap.size + 1 + 1 → g ≠ w.heap.size + 1 → w6.heap[g]? = some o := fun g o h n1 n2 n3 => by
              have h2 := (HB2.out.block g (lt_of_block h)).trans h
              have h3 : (w2.setCell ⟨wr.heap.size + 1, 0, none⟩ (.int .i64 (left : Int))).heap[g]? = some o := (heap_setCell_other _ _ _ _ (by exact n1)).trans h2
              have h4 : ((w2.setCell ⟨wr.heap.size + 1, 0, none⟩ (.int .i64 (left : Int))).setCell ⟨wr.heap.size + 1 + 1, 0, none⟩ (.int .i64 q)).heap[g]? = some o := (heap_setCell_other _ _ _ _ (by exact n2)).trans h3
              exact (HG6.out.block g (lt_of_block h4) (fun e => n3 (Option.some.inj e))).trans h4
            have hle6 : W.heap.size ≤ w6.heap.size := by
              have h1 := HB2.out.size
              have h2 := HG6.out.size
              simp [World.setCell] at h2
              omega
            have hbase : w.heap.size ≤ wr.heap.size := by omega
            have hB6 : Below w.heap.size W w6 := by
              have h1 := ((HB2.out.mono HBW.out.size).setCell (p := ⟨wr.heap.size + 1, 0, none⟩) (by show w.heap.size ≤ wr.heap.size + 1; omega) (.int .i64 (left : Int))).setCell (p := ⟨wr.heap.size + 1 + 1, 0, none⟩) (by show w.heap.size ≤ wr.heap.size + 1 + 1; omega) (.int .i64 q)
              exact h1.grown HG6.out (by have := h1.size; have := HBW.out.size; omega) (fun j e => by injection e with e; omega)
            have g1 : w6.heap[wr.heap.size + 1]? = some (.cells #[.int .i64 (left : Int)] 3 (0, 0)) := by
              have h2 := heap_setCell_same w2 (wr.heap.size + 1) 0 _ _ (.int .i64 (left : Int)) H1.out
              have h4 : ((w2.setCell ⟨wr.heap.size + 1, 0, none⟩ (.int .i64 (left : Int))).setCell ⟨wr.heap.size + 1 + 1, 0, none⟩ (.int .i64 q)).heap[wr.heap.size + 1]? = some (.cells #[.int .i64 (left : Int)] 3 (0, 0)) := (heap_setCell_other _ _ _ _ (by show wr.heap.size + 1 ≠ wr.heap.size + 1 + 1; omega)).trans h2
              exact (HG6.out.block _ (lt_of_block h4) (fun e => by injection e with e; omega)).trans h4
            have g2 : w6.heap[wr.heap.size + 1 + 1]? = some (.cells #[.int .i64 q] 3 (0, 0)) := by
              have h3 : (w2.setCell ⟨wr.heap.size + 1, 0, none⟩ (.int .i64 (left : Int))).heap[wr.heap.size + 1 + 1]? = some (.cells #[.int .i64 last] 3 (0, 0)) := (heap_setCell_other _ _ _ _ (by show wr.heap.size + 1 + 1 ≠ wr.heap.size + 1; omega)).trans H2.out
              have h4 := heap_setCell_same (w2.setCell ⟨wr.heap.size + 1, 0, none⟩ (.int .i64 (left : Int))) (wr.heap.size + 1 + 1) 0 _ _ (.int .i64 q) h3
              exact (HG6.out.block _ (lt_of_block h4) (fun e => by injection e with e; omega)).trans h4
            have hm6 : MapI Try.prog 3 3 w6 (w.heap.size + 1) (k * 100000 + (pre ++ [x]).length) (addR (Fk zs a b c d k) r (K ++ [x.2.1])) := by
              have h6 := HM6.out.mono (n' := k * 100000 + (pre ++ [x]).length) (by rw [List.length_append]; simp only [List.length_cons, List.length_nil]; omega)
              refine MapI.congr h6 (fun y => ?_)
              have := congrFun (addR_snoc (Fk zs a b c d k) r K x.2.1) y
              rw [← this, HVV.out]
            have hwp : ∀ g o, W.heap[g]? = some o → g < wr.heap.size → g ≠ w.heap.size + 1 → w6.heap[g]? = some o := fun g o h n1 n2 => hgt g o h (by omega) (by omega) n2
            exact ⟨keeps_of hle6 (fun g o h ho hg => hgt g o h (by omega) (by omega) (by omega)), ⟨hB6, by
                obtain ⟨o, ho⟩ := getEx_of_lt hss
                rw [ho]
                exact hgt _ o ho (by omega) (by omega) (by omega)⟩,
              ⟨⟨K ++ [x.2.1], left, q, HST2.out, by omega, g1, g2, hm6⟩, hgt _ _ HC0.out (by omega) (by omega) (by omega), hwp _ _ HCW.out (by omega) (by omega), hwp _ _ HCP.out hsz (by omega),
                HMK2.out.kept (Nat.le_refl _) (fun D hD h => hgt D _ h (by omega) (by omega) (fun e => by
                  obtain ⟨o, ho, hno⟩ := HMP.out.is_map
                  rw [e] at h
                  rw [h] at ho
                  injection ho with ho
                  subst ho
                  exact hno rfl)), by omega, HBW.out.trans hB6⟩⟩
      case done =>
        rintro D ys W hD rfl ⟨⟨K, left, last, hst, hlm, hc1, hc2, hmp⟩, hc0, hcw, hcp, hmk, hss, hbw⟩ hK
        have hrev : preD (bk zs 0) = (dys zs).reverse := bk_rev zs
        have hkd : kd zs a b c d k = K := by
          have := hst.done
          rw [hrev] at this
          unfold kd
          rw [HMM.out]
          simpa using this
        have HM6 : Hid (MapI Try.prog 3 3 W (w.heap.size + 1) ((k + 1) * 100000) (Fk zs a b c d (k + 1))) := by
          show MapI _ _ _ _ _ _ _
          have h := hmp.mono (n' := (k + 1) * 100000) (by rw [bk_len]; omega)
          rw [← hkd, ← HR.out] at h
          exact h
        have HMK6 : Hid (Marks w.heap.size W.heap.size ({ target := .collected D, args := #[] } :: dfs) W) := hmk.cons (by omega) (by omega) hK
        have HCW := Lib.hid hcw
        have HCP := Lib.hid hcp
        have HBW := Lib.hid hbw
        clear hst hc1 hc2 hmp hc0 hcw hcp hmk hbw hK hrev hkd
        gi_wp2
        exact ⟨gk - 1, by omega, k + 1, _, _, _, _, _, _, _, _, _, _, _, _, _, _, _, _, _, _, _, _, _, _, _, _, _, _, _, _, _, _, _, _, by omega, rfl, HMK6.out, HM6.out, HCW.out, HCP.out, HBW.out⟩
      case stop =>
        rintro D cc pre W hD hpre ⟨rfl, ⟨K, hend, hmp⟩, hcw, hcp, hmk, hbw⟩ hK
        have hrev : preD (bk zs 0) = (dys zs).reverse := bk_rev zs
        have hkd : kd zs a b c d k = K := by
          obtain ⟨rest, hrest⟩ := hpre
          have := hend (preD rest)
          rw [← preD_app, hrest, hrev] at this
          unfold kd
          rw [HMM.out]
          simpa using this
        have hlen : pre.length ≤ 100000 := by
          have := hpre.length_le
          rw [bk_len] at this
          omega
        have HM6 : Hid (MapI Try.prog 3 3 W (w.heap.size + 1) ((k + 1) * 100000) (Fk zs a b c d (k + 1))) := by
          show MapI _ _ _ _ _ _ _
          have h := hmp.mono (n' := (k + 1) * 100000) (by omega)
          rw [← hkd, ← HR.out] at h
          exact h
        have HMK6 : Hid (Marks w.heap.size W.heap.size ({ target := .collected D, args := #[] } :: dfs) W) := hmk.cons (by omega) (by omega) hK
        have HCW := Lib.hid hcw
        have HCP := Lib.hid hcp
        have HBW := Lib.hid hbw
        clear hend hmp hcw hcp hmk hbw hK hrev hkd
        gi_wp2
        exact ⟨gk - 1, by omega, k + 1, _, _, _, _, _, _, _, _, _, _, _, _, _, _, _, _, _, _, _, _, _, _, _, _, _, _, _, _, _, _, _, _, by omega, rfl, HMK6.out, HM6.out, HCW.out, HCP.out, HBW.out⟩
    · obtain rfl : k = 4 := by omega
      have hsl : Sl I wr w.heap.size A' hs.length (dys hs) := hy.up HB.out (Nat.le_refl _)
      have hsx : Sl I wr w.heap.size A zs.length (dys zs) := hx.up HB.out (Nat.le_refl _)
      have HSH := Lib.hid hsl
      have HSX := Lib.hid hsx
      have hbw := HB.out.size
      clear hsl hsx
      gi_wp2
      obtain ⟨W2, hW2⟩ : ∃ W2 : World, W2 = wr.alloc (.map #[] 0) := ⟨_, rfl⟩
      have hold : ∀ g, g < wr.heap.size → W2.heap[g]? = wr.heap[g]? := fun g hg => by rw [hW2, Below.heap_alloc _ _ _ hg]
      have HMB : Hid (MapB Try.prog 3 4 W2 wr.heap.size 0 (fun y => decide (y ∈ (dys hs).take 0))) := by
        show MapB _ _ _ _ _ _ _
        rw [hW2]
        have h := MapB.made (P := Try.prog) (kt := 3) (et := 4) wr
        simpa using h
      have HM2 : Hid (MapI Try.prog 3 3 W2 (w.heap.size + 1) 400000 (Fk zs a b c d 4)) := (HM.out.block (hold _ (by omega))).mono (by omega)
      have HW2 := Lib.hid ((hold _ (by omega)).trans HW.out)
      have HMK2 : Hid (Marks w.heap.size wr.heap.size dfs W2) := HMK.out.kept (Nat.le_refl _) (fun D _ h => (hold D (lt_of_block h)).trans h)
      have HB2 : Hid (Below w.heap.size w W2) := by show Below _ _ _; rw [hW2]; exact HB.out.alloc hbw _
      have HSH2 : Hid (Sl I W2 w.heap.size A' hs.length (dys hs)) := hy.up HB2.out (Nat.le_refl _)
      have HSX2 : Hid (Sl I W2 w.heap.size A zs.length (dys zs)) := hx.up HB2.out (Nat.le_refl _)
      rw [← hW2]
      clear hW2 hold HM HW HP HMK HB HSH HSX
      obtain ⟨B5, hB5⟩ : ∃ B5, wr.heap.size = B5 := ⟨_, rfl⟩
      rw [hB5] at HMB HMK2 hbw hsz ⊢
      clear hB5 wr
      gi_loopw [56] (fun i W => ∃ j : Nat, j ≤ hs.length ∧ i = .int .i64 j ∧ Hid (MapB Try.prog 3 4 W B5 j (fun y => decide (y ∈ (dys hs).take j))) ∧ Hid (MapI Try.prog 3 3 W (w.heap.size + 1) 400000 (Fk zs a b c d 4)) ∧ Hid (W.heap[w.heap.size + 1 + 1]? = some (.cells #[.map (some (w.heap.size + 1))] 44 (0, 0))) ∧ Hid (Marks w.heap.size B5 dfs W) ∧ Hid (Below w.heap.size w W)) (fun i _ => hs.length - (intOf i).toNat)
      case atStart => exact ⟨0, Nat.zero_le _, rfl, HMB, HM2, HW2, HMK2, HB2⟩
      case round =>
        clear HMB HM2 HW2 HMK2 HB2 HSH2 HSX2
        obtain ⟨j, hj, rfl, HMB, HM2, HW2, HMK2, HB2⟩ := hrel
        by_cases hlt2 : j < hs.length
        · have hsl : Sl I wr w.heap.size A' hs.length (dys hs) := hy.up HB2.out (Nat.le_refl _)
          obtain ⟨bb, off, y, rfl, hbb, hyk, hcy⟩ := hsl.2.at_ (k := j) (by rw [List.length_map]; omega)
          have HYK := Lib.hid hyk
          have hyd : okD y := by
            obtain ⟨z, hz, rfl⟩ := List.mem_map.1 (List.mem_of_getElem? hyk)
            exact z.2
          have HWF : Hid ((Lit.int .i64 y).wf = true) := int_wf (by unfold okD at hyd; omega)
          have HNM : Hid (j < maxLen) := by show _ < _; unfold maxLen; omega
          clear hsl hyk hyd
          gi_wp2_with (gi_at_mapUpdate; refine wpListIn_updB rfl (.tmp 60) (.tmp 61) (.const (.bool true)) rfl Try.underlying3 Try.underlying66 Try.underlying4 rfl HMB.out HNM.out y true rfl rfl HWF.out ?_; intro w6 HM6 HG6)
          go_roundw
          case rel =>
            have hne : ∀ g, g ≠ B5 → g < wr.heap.size → w6.heap[g]? = wr.heap[g]? := fun g hg hl => HG6.out.block g hl (fun e => hg (Option.some.inj e))
            exact ⟨j + 1, by omega, by go_num, MapB.congr HM6.out (fun z => by
                rw [take_snoc HYK.out]
                by_cases hz : z = y
                · simp [hz]
                · simp [hz]), HM2.out.block (hne _ (by omega) HM2.out.lt), (hne _ (by omega) (lt_of_block HW2.out)).trans HW2.out,
              HMK2.out.kept (Nat.le_refl _) (fun D hD h => (hne D (by omega) (lt_of_block h)).trans h), HB2.out.grown HG6.out HB2.out.size (fun g e => by have := Option.some.inj e; omega)⟩
          case measure => simp [intOf]; omega
        · obtain rfl : j = hs.length := by omega
          have HMB2 : Hid (MapB Try.prog 3 4 wr B5 hs.length (fun y => decide (y ∈ dys hs))) := by
            have := HMB.out
            rw [List.take_of_length_le (by simp)] at this
            exact this
          gi_wp2
          obtain ⟨W9, hW9⟩ : ∃ W9 : World, W9 = wr := ⟨_, rfl⟩
          rw [← hW9] at HMB2 HM2 HW2 HMK2 HB2 ⊢
          clear hW9 HMB wr
          gi_loopw [65] (fun i W => ∃ j : Nat, j ≤ zs.length ∧ i = .int .i64 j ∧ Hid (MapB Try.prog 3 4 W B5 hs.length (fun y => decide (y ∈ dys hs))) ∧ Hid (MapI Try.prog 3 3 W (w.heap.size + 1) (400000 + j) (addR (Fk zs a b c d 4) 16 (((dys zs).take j).filter fun y => decide (y ∈ dys hs)))) ∧ Hid (W.heap[w.heap.size + 1 + 1]? = some (.cells #[.map (some (w.heap.size + 1))] 44 (0, 0))) ∧ Hid (Marks w.heap.size B5 dfs W) ∧ Hid (Below w.heap.size w W)) (fun i _ => zs.length - (intOf i).toNat)
          case atStart => exact ⟨0, Nat.zero_le _, rfl, HMB2, by show MapI _ _ _ _ _ _ _; rw [List.take_zero, List.filter_nil, addR_nil]; exact HM2.out, HW2, HMK2, HB2⟩
          case round =>
            clear HMB2 HM2 HW2 HMK2 HB2 W9
            obtain ⟨j, hj, rfl, HMB, HM2, HW2, HMK2, HB2⟩ := hrel
            by_cases hlt3 : j < zs.length
            · have hsl : Sl I wr w.heap.size A zs.length (dys zs) := hx.up HB2.out (Nat.le_refl _)
              obtain ⟨bb, off, y, rfl, hbb, hyk, hcy⟩ := hsl.2.at_ (k := j) (by rw [List.length_map]; omega)
              have HYK := Lib.hid hyk
              have hyd : okD y := by
                obtain ⟨z, hz, rfl⟩ := List.mem_map.1 (List.mem_of_getElem? hyk)
                exact z.2
              have HWF : Hid ((Lit.int .i64 y).wf = true) := int_wf (by unfold okD at hyd; omega)
              have HNM : Hid (400000 + j < maxLen) := by show _ < _; unfold maxLen; omega
              have lw := cell_of_row wr (w.heap.size + 1 + 1) 0 _ _ _ HW2.out
              simp at lw
              have hl1 := HMB.out.look (mt := 66) Try.underlying3 Try.underlying66 Try.underlying4 zeroB y HWF.out
              have hl2 := HM2.out.look (mt := 44) Try.underlying3 Try.underlying44 Try.underlying3 zeroI y HWF.out
              have hval := addH_bd zs a b c d (((dys zs).take j).filter fun y => decide (y ∈ dys hs)) y (by
                have h1 := List.length_filter_le (fun y => decide (y ∈ dys hs)) ((dys zs).take j)
                rw [List.length_take] at h1
                omega) hn
              obtain ⟨v, hv⟩ : ∃ v, addR (Fk zs a b c d 4) 16 (((dys zs).take j).filter fun y => decide (y ∈ dys hs)) y = v := ⟨_, rfl⟩
              rw [hv] at hval hl2
              have HVV := Lib.hid hv
              have HWF2 : Hid ((Lit.int .i64 (v + 16)).wf = true) := int_wf (by omega)
              clear hsl hyk hyd hv
              by_cases hm : y ∈ dys hs
              · have hl1' : (Instr.lookup 66 (.map (some B5)) (.int .i64 y) false).run Try.prog wr = .ok (.bool true) wr := by rw [hl1, decide_eq_true hm]
                have HF : Hid (((dys zs).take (j + 1)).filter (fun y => decide (y ∈ dys hs)) = ((dys zs).take j).filter (fun y => decide (y ∈ dys hs)) ++ [y]) := by
                  show _ = _
                  rw [take_snoc HYK.out, List.filter_append]
                  simp only [List.filter_cons, decide_eq_true hm, if_true, List.filter_nil]
                clear hl1 hm
                gi_wp2_with (gi_at_mapUpdate; refine wpListIn_updI rfl (.tmp 72) (.tmp 73) (.tmp 75) rfl Try.underlying3 Try.underlying44 Try.underlying3 rfl HM2.out HNM.out y (v + 16) rfl rfl HWF.out HWF2.out ?_; intro w6 HM6 HG6)
                go_roundw
                case rel =>
                  have hne : ∀ g, g ≠ w.heap.size + 1 → g < wr.heap.size → w6.heap[g]? = wr.heap[g]? := fun g hg hl => HG6.out.block g hl (fun e => hg (Option.some.inj e))
                  refine ⟨j + 1, by omega, by go_num, HMB.out.block (hne _ (by omega) HMB.out.lt), ?_, (hne _ (by omega) (lt_of_block HW2.out)).trans HW2.out,
                    HMK2.out.kept (Nat.le_refl _) (fun D hD h => (hne D (fun e => by
                      obtain ⟨o, ho, hno⟩ := HM2.out.is_map
                      rw [e] at h
                      rw [h] at ho
                      injection ho with ho
                      subst ho
                      exact hno rfl) (lt_of_block h)).trans h), HB2.out.grown HG6.out HB2.out.size (fun g e => by have := Option.some.inj e; omega)⟩
                  show MapI _ _ _ _ _ _ _
                  rw [HF.out]
                  refine MapI.congr (HM6.out.mono (n' := 400000 + (j + 1)) (by omega)) (fun z => ?_)
                  have := congrFun (addR_snoc (Fk zs a b c d 4) 16 (((dys zs).take j).filter fun y => decide (y ∈ dys hs)) y) z
                  rw [← this, HVV.out]
                case measure => simp [intOf]; omega
              · have hl1' : (Instr.lookup 66 (.map (some B5)) (.int .i64 y) false).run Try.prog wr = .ok (.bool false) wr := by rw [hl1, decide_eq_false hm]
                have HF : Hid (((dys zs).take (j + 1)).filter (fun y => decide (y ∈ dys hs)) = ((dys zs).take j).filter (fun y => decide (y ∈ dys hs))) := by
                  show _ = _
                  rw [take_snoc HYK.out, List.filter_append]
                  simp only [List.filter_cons, decide_eq_false hm, List.filter_nil]
                  simp
                clear hl1 hm hl2
                gi_wp2
                go_roundw
                case rel =>
                  exact ⟨j + 1, by omega, by go_num, HMB, by show MapI _ _ _ _ _ _ _; rw [HF.out]; exact HM2.out.mono (by omega), HW2, HMK2, HB2⟩
                case measure => simp [intOf]; omega
            · obtain rfl : j = zs.length := by omega
              have lw := cell_of_row wr (w.heap.size + 1 + 1) 0 _ _ _ HW2.out
              simp at lw
              gi_wp2
              refine leaves_marks HMK2.out (fun W' hk1 hk2 => ?_)
              refine ⟨_, results_tmp rfl _ _ _, w.heap.size + 1, 400000 + zs.length, rfl, ?_, HB2.out.trans hk2⟩
              have hmb := HM2.out.block (hk1 (w.heap.size + 1) (fun e => by
                obtain ⟨o, ho, hno⟩ := HM2.out.is_map
                rw [e] at ho
                injection ho with ho
                exact hno ho.symm))
              rw [List.take_of_length_le (by simp)] at hmb
              exact hmb
end Go.Proofs.Ytfffhdclbdmfnaa
