/- The reference's read: a value of kind 1, 4, 6 or 7. -/
import Derived.Test.YtnfkjnmdfijhnaaGreatDoorT1
import Derived.Test.YtnfkjnmdfijhnaaGreatDoorS4
namespace Go.Proofs.YtnfkjnmdfijhnaaGreatDoor
open Go.RowKit Go.Lib
set_option linter.unusedVariables false
set_option linter.unusedSimpArgs false

theorem run_storeVar_at1 {P : Program} (w : World) (b o : Nat) (ty : TypeId) (v : Value) (ht : w.there b o 1) (hi : (P.info? ty).map (·.size) = some 1) (h1 : v.oneCell' = true) :
    (storeVar ty ⟨b, o, none⟩ v).run P w = .ok () (w.setCells b o [v]) := by
  have hc : v.cells = #[v] := by cases v <;> first | rfl | cases h1
  have := run_storeCells_cells (P := P) b o [v] 0 w (fun j hj => by simpa using (ht j (by simpa using hj)).1) (fun j hj => by simpa using (ht j (by simpa using hj)).2) (fun x hx => by simp at hx; subst hx; exact h1)
  cases hq : P.info? ty with
  | none => simp [hq] at hi
  | some i =>
    have hs : i.size = 1 := by simpa [hq] using hi
    simp only [Nat.add_zero] at this
    simp [storeVar, sizeOf, typeInfo, hq, hc, hs, this]
/-- One cell is stored into a block whose cells are known. -/
theorem wpList_store_at1 {P : Program} {w : World} {ops : Array Oper} {rest : List Oper} {o : Oper} {a : Act} {Q : Exit → Act → World → Prop} (hgd : o.guard = none) (ty : TypeId) (x y : Operand) (ho : o.op = .store ty x y)
    (b : Nat) (t : TypeId) (k : Nat) (cs : Array Value) (v : Value) (hx : a.eval x = .pointer (some ⟨b, k, none⟩)) (hy : a.eval y = v) (hg : w.heap[b]? = some (.cells cs t (0, 0))) (hk : k < cs.size) (hi : (P.info? ty).map (·.size) = some 1)
    (h1 : v.oneCell' = true)
    (h : ∀ w', Hid (w'.heap[b]? = some (.cells (cs.setIfInBounds k v) t (0, 0))) → Hid (But (fun k => k = b) w w') → wpList P ops Q rest (a.put o.dst undef) w') : wpList P ops Q (o :: rest) a w := by
  have ht : w.there b k 1 := by
    intro j hj
    obtain rfl : j = 0 := by omega
    refine ⟨?_, frozen_of_row w b _ _ _ hg⟩
    rw [cell_of_row w b _ _ _ _ hg, Nat.add_zero, Array.getElem?_eq_getElem hk]; rfl
  refine wpList_plain hgd fun _ hK => ?_
  unfold Oper.wp execOp
  simp only [ho, hx, hy, Instr.storeAt, Instr.sureAddr, Sem.run_bind, Sem.run_pure, Result.andThen_ok, run_storeVar_at1 w b k ty v ht hi h1]
  refine hK _ _ (h _ (heap_setCell_same w b k _ _ v hg) (But.setCell (p := fun k => k = b) (x := ⟨b, k, none⟩) (But.refl _ _) (.inl rfl) _))
theorem results_ctt {P : Program} {fn : Func} {p d f : Tmp} {ty : TypeId} (h : fn.results = #[.cell p ty, .tmp d, .tmp f]) (tmps : Array Value) (w : World) (g : Nat) (t : TypeId) (cs : Array Value) (fr : Nat × Nat) (dd : TypeDesc)
    (hp : tmps.getD p undef = .pointer (some ⟨g, 0, none⟩)) (hg : w.heap[g]? = some (.cells cs t fr))
    (hu : P.underlying ty = some dd) (hd : (match dd with | .struct _ | .array _ _ => true | _ => false) = true) (hi : (P.info? ty).map (·.size) = some cs.size) :
    (results fn tmps).run P w = .ok (.tuple #[.agg cs, tmps.getD d undef, tmps.getD f undef]) w := by
  have hp' : tmps[p]?.getD undef = .pointer (some ⟨g, 0, none⟩) := by simpa using hp
  simp [results, h, hp', asAddr, run_loadVar_row w g t ty cs fr dd hg hu hd hi]
/-- A value of the reference's wire. -/
abbrev rv (k u n : Int) (s : ByteArray) (m : Int) : Array Value := #[.int .i64 k, .int .u64 u, .int .i64 n, .bool false, .string s, .int .i64 m]
theorem Tryz.sizeRv : (Tryz.prog.info? 90).map (·.size) = some 6 := by kernel_rfl
theorem rv_size (k u n : Int) (s : ByteArray) (m : Int) : (Tryz.prog.info? 90).map (·.size) = some (rv k u n s m).size := Tryz.sizeRv
theorem rv_lt {k u n m : Int} {s : ByteArray} {i : Nat} (h : i < 6) : i < (rv k u n s m).size := h
theorem rv_one (k u n : Int) (s : ByteArray) (m : Int) : (rv k u n s m).all (·.oneCell') = true := by
  rw [Array.all_eq_true']
  intro x hx
  simp only [rv, List.mem_toArray, List.mem_cons, List.not_mem_nil, or_false] at hx
  rcases hx with rfl | rfl | rfl | rfl | rfl | rfl <;> rfl
theorem Tryz.size64u : (Tryz.prog.info? 74).map (·.size) = some 1 := by kernel_rfl
theorem Tryz.sizeI : (Tryz.prog.info? 3).map (·.size) = some 1 := by kernel_rfl
theorem Tryz.sizeStr : (Tryz.prog.info? 9).map (·.size) = some 1 := by kernel_rfl
def rvP17 : Array (Nat × Operand) := #[(0, .tmp 15), (5, .tmp 16)]
set_option maxRecDepth 100000 in
theorem rvB17 (a : Act) (k m : Int) (h0 : a.eval (.tmp 15) = .int .i64 k) (h1 : a.eval (.tmp 16) = .int .i64 m) : Tryz.prog.built 90 (rvP17.map fun (i, x) => (i, a.eval x)).toList = some (rv k 0 0 ⟨#[]⟩ m) := by
  rw [Array.toList_map]
  show Tryz.prog.built 90 [(0, a.eval (.tmp 15)), (5, a.eval (.tmp 16))] = _
  rw [h0, h1]
  kernel_rfl
/-- What read yields: the value, the place behind, the error. -/
def RdP (k u n : Int) (s : ByteArray) (m : Int) (q : Nat) (er : Int) (w : World) (e : Ending) (w' : World) : Prop :=
  e = .returned (.tuple #[.agg (rv k u n s m), .int .i64 q, .int .i64 er]) ∧ Below w.heap.size w w'
/-- The world behind the two boxes. -/
def bxW (w : World) (k m : Int) : World := (w.alloc (.cells (rv 0 0 0 ⟨#[]⟩ 0) 90)).alloc (.cells (rv k 0 0 ⟨#[]⟩ m) 90)
theorem bxW_facts (w : World) (k m : Int) : Below w.heap.size w (bxW w k m) ∧ (bxW w k m).heap[w.heap.size]? = some (.cells (rv 0 0 0 ⟨#[]⟩ 0) 90 (0, 0)) ∧ (bxW w k m).heap[w.heap.size + 1]? = some (.cells (rv k 0 0 ⟨#[]⟩ m) 90 (0, 0)) ∧ (bxW w k m).heap.size = w.heap.size + 1 + 1 := by
  unfold bxW
  refine ⟨((Below.refl _ _).alloc (Nat.le_refl _) _).alloc (by simp) _, ?_, ?_, by simp⟩
  · rw [Below.heap_alloc _ _ _ (by simp)]; exact heap_alloc_new w _
  · have := heap_alloc_new (w.alloc (.cells (rv 0 0 0 ⟨#[]⟩ 0) 90)) (.cells (rv k 0 0 ⟨#[]⟩ m) 90)
    simpa using this
set_option maxRecDepth 100000 in
set_option maxHeartbeats 4000000 in
theorem rd1_no (A : Option Addr) (n c p B : Nat) (m : Int) (bs : List Int) (w : World) (hx : Sl fB w B A n bs) (hb : ∀ b ∈ bs, 0 ≤ b ∧ b < 256) (hB : B ≤ w.heap.size) (hp : p ≤ n) (hn : n ≤ 1000000) (hnc : n ≤ c) (hq : nmF bs p = (0, 0, false)) :
    Calls Tryz.prog 94 #[.slice A n c, .int .i64 p, .int .i64 1, .int .i64 m] w (RdP 1 0 0 ⟨#[]⟩ m p 3 w) := by
  have HX := Lib.hid hx
  have HBY := Lib.hid hb
  have HLN : Hid (bs.length = n) := hx.1
  obtain ⟨hb1, hg8, hg11, hs1⟩ := bxW_facts w 1 m
  obtain ⟨W1, hW1⟩ : ∃ W1, bxW w 1 m = W1 := ⟨_, rfl⟩
  rw [hW1] at hb1 hg8 hg11 hs1
  have HB1 := Lib.hid hb1
  have HG8 := Lib.hid hg8
  have HG11 := Lib.hid hg11
  have HS1 := Lib.hid hs1
  have HWE : Hid (W1 = (w.alloc (.cells (rv 0 0 0 ⟨#[]⟩ 0) 90)).alloc (.cells (rv 1 0 0 ⟨#[]⟩ m) 90)) := hW1.symm
  have HBW : Hid (B ≤ W1.heap.size) := Nat.le_trans hB hb1.size
  have HX1 := Lib.hid (hx.up hb1 hB)
  clear hb1 hg8 hg11 hs1 hW1
  have HNM : Hid (nmF bs p = (0, 0, false)) := hq
  clear hx hb hB hq
  go_enter Tryz.func94, Tryz.ntmps94
  go_upto_region 2 with (with_reducible refine wpList_built (o := ⟨some 17, _, _, _, _, _⟩) rfl 90 rvP17 (by kernel_rfl) (rv 1 0 0 ⟨#[]⟩ m) (rvB17 _ 1 m rfl rfl) ?_)
  rw [← HWE.out]
  go_wp2_with (first
    | (go_at_call 123; (with_reducible refine (nm_any A n c p B bs _ HX1.out HBY.out HBW.out hp hn).mono ?_); rintro e W2 ⟨rfl, b⟩; (rw [HNM.out]); have B2 := Lib.hid b; have HG8b := Lib.hid ((b.block _ (lt_of_block HG8.out)).trans HG8.out); have HG11b := Lib.hid ((b.block _ (lt_of_block HG11.out)).trans HG11.out); clear HG8 HG11 b; have HG8 := HG8b; have HG11 := HG11b; clear HG8b HG11b)
    | (with_reducible refine wpList_load_row (o := ⟨some 70, _, _, _, _, _⟩) rfl 90 (.tmp 11) rfl (w.heap.size + 1) rfl 90 (rv 1 0 0 ⟨#[]⟩ m) _ _ HG11.out Tryz.underlying90 rfl (rv_size _ _ _ _ _) ?_)
    | ((with_reducible refine wpList_store_but (o := ⟨none, _, _, _, _, _⟩) rfl 90 (.tmp 8) (.tmp 70) rfl w.heap.size 90 (rv 0 0 0 ⟨#[]⟩ 0) (rv 1 0 0 ⟨#[]⟩ m) rfl rfl HG8.out (rv_size _ _ _ _ _) rfl (rv_one _ _ _ _ _) ?_); intro W7 HG7 HB7))
  refine bodyPost_ret (results_ctt rfl _ _ _ _ _ _ _ rfl HG7.out Tryz.underlying90 rfl (rv_size _ _ _ _ _)) rfl ⟨rfl, (HB1.out.trans (B2.out.mono HB1.out.size)).trans (HB7.out.below (Nat.le_trans HB1.out.size B2.out.size) (fun i hi => by subst hi; exact Nat.le_refl _))⟩
set_option maxRecDepth 100000 in
set_option maxHeartbeats 4000000 in
theorem rd1_ok (A : Option Addr) (n c p B : Nat) (m : Int) (bs : List Int) (w : World) (hx : Sl fB w B A n bs) (hb : ∀ b ∈ bs, 0 ≤ b ∧ b < 256) (hB : B ≤ w.heap.size) (hp : p ≤ n) (hn : n ≤ 1000000) (hnc : n ≤ c) (v : Int) (q : Nat) (hq : nmF bs p = (v, q, true)) :
    Calls Tryz.prog 94 #[.slice A n c, .int .i64 p, .int .i64 1, .int .i64 m] w (RdP 1 v 0 ⟨#[]⟩ m q 0 w) := by
  have HX := Lib.hid hx
  have HBY := Lib.hid hb
  have HLN : Hid (bs.length = n) := hx.1
  obtain ⟨hb1, hg8, hg11, hs1⟩ := bxW_facts w 1 m
  obtain ⟨W1, hW1⟩ : ∃ W1, bxW w 1 m = W1 := ⟨_, rfl⟩
  rw [hW1] at hb1 hg8 hg11 hs1
  have HB1 := Lib.hid hb1
  have HG8 := Lib.hid hg8
  have HG11 := Lib.hid hg11
  have HS1 := Lib.hid hs1
  have HWE : Hid (W1 = (w.alloc (.cells (rv 0 0 0 ⟨#[]⟩ 0) 90)).alloc (.cells (rv 1 0 0 ⟨#[]⟩ m) 90)) := hW1.symm
  have HBW : Hid (B ≤ W1.heap.size) := Nat.le_trans hB hb1.size
  have HX1 := Lib.hid (hx.up hb1 hB)
  clear hb1 hg8 hg11 hs1 hW1
  have HNM : Hid (nmF bs p = (v, q, true)) := hq
  clear hx hb hB hq
  go_enter Tryz.func94, Tryz.ntmps94
  go_upto_region 2 with (with_reducible refine wpList_built (o := ⟨some 17, _, _, _, _, _⟩) rfl 90 rvP17 (by kernel_rfl) (rv 1 0 0 ⟨#[]⟩ m) (rvB17 _ 1 m rfl rfl) ?_)
  rw [← HWE.out]
  go_wp2_with (first
    | (go_at_call 123; (with_reducible refine (nm_any A n c p B bs _ HX1.out HBY.out HBW.out hp hn).mono ?_); rintro e W2 ⟨rfl, b⟩; (rw [HNM.out]); have B2 := Lib.hid b; have HG8b := Lib.hid ((b.block _ (lt_of_block HG8.out)).trans HG8.out); have HG11b := Lib.hid ((b.block _ (lt_of_block HG11.out)).trans HG11.out); clear HG8 HG11 b; have HG8 := HG8b; have HG11 := HG11b; clear HG8b HG11b)
    | ((with_reducible refine wpList_store_at1 (o := ⟨none, _, _, _, _, _⟩) rfl 74 (.tmp 76) (.tmp 75) rfl (w.heap.size + 1) 90 1 (rv 1 0 0 ⟨#[]⟩ m) (.int .u64 v) (by kernel_rfl) rfl HG11.out (rv_lt (by decide)) Tryz.size64u (by kernel_rfl) ?_); intro W5 HG5a HB5; have HG5 : Hid (W5.heap[w.heap.size + 1]? = some (.cells (rv 1 v 0 ⟨#[]⟩ m) 90 (0, 0))) := HG5a.out; have HG8n : Hid (W5.heap[w.heap.size]? = some (.cells (rv 0 0 0 ⟨#[]⟩ 0) 90 (0, 0))) := (HB5.out.block _ (lt_of_block HG8.out) (by omega)).trans HG8.out)
    | (with_reducible refine wpList_load_row (o := ⟨some 77, _, _, _, _, _⟩) rfl 90 (.tmp 11) rfl (w.heap.size + 1) rfl 90 (rv 1 v 0 ⟨#[]⟩ m) _ _ HG5.out Tryz.underlying90 rfl (rv_size _ _ _ _ _) ?_)
    | ((with_reducible refine wpList_store_but (o := ⟨none, _, _, _, _, _⟩) rfl 90 (.tmp 8) (.tmp 77) rfl w.heap.size 90 (rv 0 0 0 ⟨#[]⟩ 0) (rv 1 v 0 ⟨#[]⟩ m) rfl rfl HG8n.out (rv_size _ _ _ _ _) rfl (rv_one _ _ _ _ _) ?_); intro W7 HG7 HB7))
  refine bodyPost_ret (results_ctt rfl _ _ _ _ _ _ _ rfl HG7.out Tryz.underlying90 rfl (rv_size _ _ _ _ _)) rfl ⟨rfl, ((HB1.out.trans (B2.out.mono HB1.out.size)).trans (HB5.out.below (Nat.le_trans HB1.out.size B2.out.size) (fun i hi => by subst hi; omega))).trans (HB7.out.below (Nat.le_trans (Nat.le_trans HB1.out.size B2.out.size) HB5.out.size) (fun i hi => by subst hi; exact Nat.le_refl _))⟩
set_option maxRecDepth 100000 in
set_option maxHeartbeats 4000000 in
theorem rd6_no (A : Option Addr) (n c p B : Nat) (m : Int) (bs : List Int) (w : World) (hx : Sl fB w B A n bs) (hb : ∀ b ∈ bs, 0 ≤ b ∧ b < 256) (hB : B ≤ w.heap.size) (hp : p ≤ n) (hn : n ≤ 1000000) (hnc : n ≤ c) (hq : n < p + 32) :
    Calls Tryz.prog 94 #[.slice A n c, .int .i64 p, .int .i64 6, .int .i64 m] w (RdP 6 0 0 ⟨#[]⟩ m p 3 w) := by
  have HX := Lib.hid hx
  have HBY := Lib.hid hb
  have HLN : Hid (bs.length = n) := hx.1
  obtain ⟨hb1, hg8, hg11, hs1⟩ := bxW_facts w 6 m
  obtain ⟨W1, hW1⟩ : ∃ W1, bxW w 6 m = W1 := ⟨_, rfl⟩
  rw [hW1] at hb1 hg8 hg11 hs1
  have HB1 := Lib.hid hb1
  have HG8 := Lib.hid hg8
  have HG11 := Lib.hid hg11
  have HS1 := Lib.hid hs1
  have HWE : Hid (W1 = (w.alloc (.cells (rv 0 0 0 ⟨#[]⟩ 0) 90)).alloc (.cells (rv 6 0 0 ⟨#[]⟩ m) 90)) := hW1.symm
  have HBW : Hid (B ≤ W1.heap.size) := Nat.le_trans hB hb1.size
  have HX1 := Lib.hid (hx.up hb1 hB)
  clear hb1 hg8 hg11 hs1 hW1
  have hlt : (n : Int) - (p : Int) < 32 := by omega
  clear hx hb hB hq
  go_enter Tryz.func94, Tryz.ntmps94
  go_upto_region 2 with (with_reducible refine wpList_built (o := ⟨some 17, _, _, _, _, _⟩) rfl 90 rvP17 (by kernel_rfl) (rv 6 0 0 ⟨#[]⟩ m) (rvB17 _ 6 m rfl rfl) ?_)
  rw [← HWE.out]
  go_wp2_with (first
    | (with_reducible refine wpList_load_row (o := ⟨some 25, _, _, _, _, _⟩) rfl 90 (.tmp 11) rfl (w.heap.size + 1) rfl 90 (rv 6 0 0 ⟨#[]⟩ m) _ _ HG11.out Tryz.underlying90 rfl (rv_size _ _ _ _ _) ?_)
    | ((with_reducible refine wpList_store_but (o := ⟨none, _, _, _, _, _⟩) rfl 90 (.tmp 8) (.tmp 25) rfl w.heap.size 90 (rv 0 0 0 ⟨#[]⟩ 0) (rv 6 0 0 ⟨#[]⟩ m) rfl rfl HG8.out (rv_size _ _ _ _ _) rfl (rv_one _ _ _ _ _) ?_); intro W7 HG7 HB7))
  refine bodyPost_ret (results_ctt rfl _ _ _ _ _ _ _ rfl HG7.out Tryz.underlying90 rfl (rv_size _ _ _ _ _)) rfl ⟨rfl, HB1.out.trans (HB7.out.below HB1.out.size (fun i hi => by subst hi; exact Nat.le_refl _))⟩
set_option maxRecDepth 100000 in
set_option maxHeartbeats 4000000 in
theorem rd6_ok (A : Option Addr) (n c p B : Nat) (m : Int) (bs : List Int) (w : World) (hx : Sl fB w B A n bs) (hb : ∀ b ∈ bs, 0 ≤ b ∧ b < 256) (hB : B ≤ w.heap.size) (hp : p ≤ n) (hn : n ≤ 1000000) (hnc : n ≤ c) (hq : p + 32 ≤ n) :
    Calls Tryz.prog 94 #[.slice A n c, .int .i64 p, .int .i64 6, .int .i64 m] w (RdP 6 0 0 (baOf ((bs.drop p).take 32)) m (p + 32) 0 w) := by
  have HX := Lib.hid hx
  have HBY := Lib.hid hb
  have HLN : Hid (bs.length = n) := hx.1
  obtain ⟨hb1, hg8, hg11, hs1⟩ := bxW_facts w 6 m
  obtain ⟨W1, hW1⟩ : ∃ W1, bxW w 6 m = W1 := ⟨_, rfl⟩
  rw [hW1] at hb1 hg8 hg11 hs1
  have HB1 := Lib.hid hb1
  have HG8 := Lib.hid hg8
  have HG11 := Lib.hid hg11
  have HS1 := Lib.hid hs1
  have HWE : Hid (W1 = (w.alloc (.cells (rv 0 0 0 ⟨#[]⟩ 0) 90)).alloc (.cells (rv 6 0 0 ⟨#[]⟩ m) 90)) := hW1.symm
  have HBW : Hid (B ≤ W1.heap.size) := Nat.le_trans hB hb1.size
  have HX1 := Lib.hid (hx.up hb1 hB)
  clear hb1 hg8 hg11 hs1 hW1
  have hlt : ¬ (n : Int) - (p : Int) < 32 := by omega
  obtain ⟨i0, hi0, _, hz1, _⟩ := info_parts Tryz.infoB
  have hsl := run_slice_lh (P := Tryz.prog) 24 5 i0 Tryz.underlying24 hi0 hz1 A n c p (p + 32) (by omega) (by omega)
  rw [show ((p + 32 : Nat) : Int) = (p : Int) + 32 by omega, show p + 32 - p = 32 by omega] at hsl
  obtain ⟨A', hA'⟩ : ∃ A', (if c = p then A else A.map (·.add p)) = A' := ⟨_, rfl⟩
  obtain ⟨z0, hz0⟩ : ∃ s, s = baOf ((bs.drop p).take 32) := ⟨_, rfl⟩
  have HZ0 := Lib.hid hz0
  have HP : Hid (∀ V, Sl fB V B A n bs → (convert 24 9 (.slice A' 32 (c - p))).run Tryz.prog V = .ok (.string z0) V) := fun V hV => by
    rw [hz0, ← hA']; exact run_conv_sl (P := Tryz.prog) 24 5 9 Tryz.underlying24 Tryz.underlying5 Tryz.underlying9 V _ _ _ _ _ (hV.part p 32 (by omega) hnc)
  rw [hA'] at hsl
  have hcv := HP.out W1 HX1.out
  rw [← hz0]
  clear hx hb hB hq hz0 hA'
  go_enter Tryz.func94, Tryz.ntmps94
  go_upto_region 2 with (with_reducible refine wpList_built (o := ⟨some 17, _, _, _, _, _⟩) rfl 90 rvP17 (by kernel_rfl) (rv 6 0 0 ⟨#[]⟩ m) (rvB17 _ 6 m rfl rfl) ?_)
  rw [← HWE.out]
  go_wp2_with (first
    | ((with_reducible refine wpList_store_at1 (o := ⟨none, _, _, _, _, _⟩) rfl 9 (.tmp 33) (.tmp 32) rfl (w.heap.size + 1) 90 4 (rv 6 0 0 ⟨#[]⟩ m) (.string z0) (by kernel_rfl) rfl HG11.out (rv_lt (by decide)) Tryz.sizeStr (by kernel_rfl) ?_); intro W5 HG5a HB5; have HG5 : Hid (W5.heap[w.heap.size + 1]? = some (.cells (rv 6 0 0 z0 m) 90 (0, 0))) := HG5a.out; have HG8n : Hid (W5.heap[w.heap.size]? = some (.cells (rv 0 0 0 ⟨#[]⟩ 0) 90 (0, 0))) := (HB5.out.block _ (lt_of_block HG8.out) (by omega)).trans HG8.out)
    | (with_reducible refine wpList_load_row (o := ⟨some 34, _, _, _, _, _⟩) rfl 90 (.tmp 11) rfl (w.heap.size + 1) rfl 90 (rv 6 0 0 z0 m) _ _ HG5.out Tryz.underlying90 rfl (rv_size _ _ _ _ _) ?_)
    | ((with_reducible refine wpList_store_but (o := ⟨none, _, _, _, _, _⟩) rfl 90 (.tmp 8) (.tmp 34) rfl w.heap.size 90 (rv 0 0 0 ⟨#[]⟩ 0) (rv 6 0 0 z0 m) rfl rfl HG8n.out (rv_size _ _ _ _ _) rfl (rv_one _ _ _ _ _) ?_); intro W7 HG7 HB7))
  refine bodyPost_ret (results_ctt rfl _ _ _ _ _ _ _ rfl HG7.out Tryz.underlying90 rfl (rv_size _ _ _ _ _)) rfl ⟨(by first | rfl | (simp; done) | (congr; omega)), HB1.out.trans ((HB5.out.below HB1.out.size (fun i hi => by subst hi; omega)).trans (HB7.out.below (Nat.le_trans HB1.out.size HB5.out.size) (fun i hi => by subst hi; exact Nat.le_refl _)))⟩
set_option maxRecDepth 100000 in
set_option maxHeartbeats 4000000 in
theorem rd7_no (A : Option Addr) (n c p B : Nat) (m : Int) (bs : List Int) (w : World) (hx : Sl fB w B A n bs) (hb : ∀ b ∈ bs, 0 ≤ b ∧ b < 256) (hB : B ≤ w.heap.size) (hp : p ≤ n) (hn : n ≤ 1000000) (hnc : n ≤ c) (hm : 0 ≤ m ∧ m ≤ 1000000) (hq : nmF bs p = (0, 0, false)) :
    Calls Tryz.prog 94 #[.slice A n c, .int .i64 p, .int .i64 7, .int .i64 m] w (RdP 7 0 0 ⟨#[]⟩ m p 3 w) := by
  have HX := Lib.hid hx
  have HBY := Lib.hid hb
  have HLN : Hid (bs.length = n) := hx.1
  obtain ⟨hb1, hg8, hg11, hs1⟩ := bxW_facts w 7 m
  obtain ⟨W1, hW1⟩ : ∃ W1, bxW w 7 m = W1 := ⟨_, rfl⟩
  rw [hW1] at hb1 hg8 hg11 hs1
  have HB1 := Lib.hid hb1
  have HG8 := Lib.hid hg8
  have HG11 := Lib.hid hg11
  have HS1 := Lib.hid hs1
  have HWE : Hid (W1 = (w.alloc (.cells (rv 0 0 0 ⟨#[]⟩ 0) 90)).alloc (.cells (rv 7 0 0 ⟨#[]⟩ m) 90)) := hW1.symm
  have HBW : Hid (B ≤ W1.heap.size) := Nat.le_trans hB hb1.size
  have HX1 := Lib.hid (hx.up hb1 hB)
  clear hb1 hg8 hg11 hs1 hW1
  have HNM : Hid (nmF bs p = (0, 0, false)) := hq
  clear hx hb hB hq
  go_enter Tryz.func94, Tryz.ntmps94
  go_upto_region 2 with (with_reducible refine wpList_built (o := ⟨some 17, _, _, _, _, _⟩) rfl 90 rvP17 (by kernel_rfl) (rv 7 0 0 ⟨#[]⟩ m) (rvB17 _ 7 m rfl rfl) ?_)
  rw [← HWE.out]
  go_wp2_with (first
    | (go_at_call 123; (with_reducible refine (nm_any A n c p B bs _ HX1.out HBY.out HBW.out hp hn).mono ?_); rintro e W2 ⟨rfl, b⟩; (rw [HNM.out]); have B2 := Lib.hid b; have HG8b := Lib.hid ((b.block _ (lt_of_block HG8.out)).trans HG8.out); have HG11b := Lib.hid ((b.block _ (lt_of_block HG11.out)).trans HG11.out); clear HG8 HG11 b; have HG8 := HG8b; have HG11 := HG11b; clear HG8b HG11b)
    | (with_reducible refine wpList_load_row (o := ⟨some 70, _, _, _, _, _⟩) rfl 90 (.tmp 11) rfl (w.heap.size + 1) rfl 90 (rv 7 0 0 ⟨#[]⟩ m) _ _ HG11.out Tryz.underlying90 rfl (rv_size _ _ _ _ _) ?_)
    | ((with_reducible refine wpList_store_but (o := ⟨none, _, _, _, _, _⟩) rfl 90 (.tmp 8) (.tmp 70) rfl w.heap.size 90 (rv 0 0 0 ⟨#[]⟩ 0) (rv 7 0 0 ⟨#[]⟩ m) rfl rfl HG8.out (rv_size _ _ _ _ _) rfl (rv_one _ _ _ _ _) ?_); intro W7 HG7 HB7))
  refine bodyPost_ret (results_ctt rfl _ _ _ _ _ _ _ rfl HG7.out Tryz.underlying90 rfl (rv_size _ _ _ _ _)) rfl ⟨rfl, (HB1.out.trans (B2.out.mono HB1.out.size)).trans (HB7.out.below (Nat.le_trans HB1.out.size B2.out.size) (fun i hi => by subst hi; exact Nat.le_refl _))⟩
set_option maxRecDepth 100000 in
set_option maxHeartbeats 4000000 in
theorem rd7_big (A : Option Addr) (n c p B : Nat) (m : Int) (bs : List Int) (w : World) (hx : Sl fB w B A n bs) (hb : ∀ b ∈ bs, 0 ≤ b ∧ b < 256) (hB : B ≤ w.heap.size) (hp : p ≤ n) (hn : n ≤ 1000000) (hnc : n ≤ c) (hm : 0 ≤ m ∧ m ≤ 1000000) (v q : Nat) (hq : nmF bs p = ((v : Int), q, true)) (hv : m < v) :
    Calls Tryz.prog 94 #[.slice A n c, .int .i64 p, .int .i64 7, .int .i64 m] w (RdP 7 0 0 ⟨#[]⟩ m p 2 w) := by
  have HX := Lib.hid hx
  have HBY := Lib.hid hb
  have HLN : Hid (bs.length = n) := hx.1
  obtain ⟨hb1, hg8, hg11, hs1⟩ := bxW_facts w 7 m
  obtain ⟨W1, hW1⟩ : ∃ W1, bxW w 7 m = W1 := ⟨_, rfl⟩
  rw [hW1] at hb1 hg8 hg11 hs1
  have HB1 := Lib.hid hb1
  have HG8 := Lib.hid hg8
  have HG11 := Lib.hid hg11
  have HS1 := Lib.hid hs1
  have HWE : Hid (W1 = (w.alloc (.cells (rv 0 0 0 ⟨#[]⟩ 0) 90)).alloc (.cells (rv 7 0 0 ⟨#[]⟩ m) 90)) := hW1.symm
  have HBW : Hid (B ≤ W1.heap.size) := Nat.le_trans hB hb1.size
  have HX1 := Lib.hid (hx.up hb1 hB)
  clear hb1 hg8 hg11 hs1 hW1
  have HNM : Hid (nmF bs p = ((v : Int), q, true)) := hq
  have hmx : max m 0 = m := by omega
  have hmw : IntKind.u64.wrap m = m := by rw [IntKind.wrap_u64]; omega
  clear hx hb hB hq
  go_enter Tryz.func94, Tryz.ntmps94
  go_upto_region 2 with (with_reducible refine wpList_built (o := ⟨some 17, _, _, _, _, _⟩) rfl 90 rvP17 (by kernel_rfl) (rv 7 0 0 ⟨#[]⟩ m) (rvB17 _ 7 m rfl rfl) ?_)
  rw [← HWE.out]
  go_wp2_with (first
    | (go_at_call 123; (with_reducible refine (nm_any A n c p B bs _ HX1.out HBY.out HBW.out hp hn).mono ?_); rintro e W2 ⟨rfl, b⟩; (rw [HNM.out]); have B2 := Lib.hid b; have HG8b := Lib.hid ((b.block _ (lt_of_block HG8.out)).trans HG8.out); have HG11b := Lib.hid ((b.block _ (lt_of_block HG11.out)).trans HG11.out); clear HG8 HG11 b; have HG8 := HG8b; have HG11 := HG11b; clear HG8b HG11b)
    | (with_reducible refine wpList_load_row (o := ⟨some 91, _, _, _, _, _⟩) rfl 90 (.tmp 11) rfl (w.heap.size + 1) rfl 90 (rv 7 0 0 ⟨#[]⟩ m) _ _ HG11.out Tryz.underlying90 rfl (rv_size _ _ _ _ _) ?_)
    | ((with_reducible refine wpList_store_but (o := ⟨none, _, _, _, _, _⟩) rfl 90 (.tmp 8) (.tmp 91) rfl w.heap.size 90 (rv 0 0 0 ⟨#[]⟩ 0) (rv 7 0 0 ⟨#[]⟩ m) rfl rfl HG8.out (rv_size _ _ _ _ _) rfl (rv_one _ _ _ _ _) ?_); intro W7 HG7 HB7))
  refine bodyPost_ret (results_ctt rfl _ _ _ _ _ _ _ rfl HG7.out Tryz.underlying90 rfl (rv_size _ _ _ _ _)) rfl ⟨rfl, (HB1.out.trans (B2.out.mono HB1.out.size)).trans (HB7.out.below (Nat.le_trans HB1.out.size B2.out.size) (fun i hi => by subst hi; exact Nat.le_refl _))⟩
set_option maxRecDepth 100000 in
set_option maxHeartbeats 4000000 in
theorem rd7_ok (A : Option Addr) (n c p B : Nat) (m : Int) (bs : List Int) (w : World) (hx : Sl fB w B A n bs) (hb : ∀ b ∈ bs, 0 ≤ b ∧ b < 256) (hB : B ≤ w.heap.size) (hp : p ≤ n) (hn : n ≤ 1000000) (hnc : n ≤ c) (hm : 0 ≤ m ∧ m ≤ 1000000) (v q : Nat) (hq : nmF bs p = ((v : Int), q, true)) (hv : (v : Int) ≤ m) :
    Calls Tryz.prog 94 #[.slice A n c, .int .i64 p, .int .i64 7, .int .i64 m] w (RdP 7 0 v ⟨#[]⟩ m q 0 w) := by
  have HX := Lib.hid hx
  have HBY := Lib.hid hb
  have HLN : Hid (bs.length = n) := hx.1
  obtain ⟨hb1, hg8, hg11, hs1⟩ := bxW_facts w 7 m
  obtain ⟨W1, hW1⟩ : ∃ W1, bxW w 7 m = W1 := ⟨_, rfl⟩
  rw [hW1] at hb1 hg8 hg11 hs1
  have HB1 := Lib.hid hb1
  have HG8 := Lib.hid hg8
  have HG11 := Lib.hid hg11
  have HS1 := Lib.hid hs1
  have HWE : Hid (W1 = (w.alloc (.cells (rv 0 0 0 ⟨#[]⟩ 0) 90)).alloc (.cells (rv 7 0 0 ⟨#[]⟩ m) 90)) := hW1.symm
  have HBW : Hid (B ≤ W1.heap.size) := Nat.le_trans hB hb1.size
  have HX1 := Lib.hid (hx.up hb1 hB)
  clear hb1 hg8 hg11 hs1 hW1
  have HNM : Hid (nmF bs p = ((v : Int), q, true)) := hq
  have hmx : max m 0 = m := by omega
  have hmw : IntKind.u64.wrap m = m := by rw [IntKind.wrap_u64]; omega
  have hvw : IntKind.i64.wrap (v : Int) = v := by unfold IntKind.wrap; simp [IntKind.bits, IntKind.signed]; omega
  have hv2 : ¬ m < (v : Int) := by omega
  clear hx hb hB hq
  go_enter Tryz.func94, Tryz.ntmps94
  go_upto_region 2 with (with_reducible refine wpList_built (o := ⟨some 17, _, _, _, _, _⟩) rfl 90 rvP17 (by kernel_rfl) (rv 7 0 0 ⟨#[]⟩ m) (rvB17 _ 7 m rfl rfl) ?_)
  rw [← HWE.out]
  go_wp2_with (first
    | (go_at_call 123; (with_reducible refine (nm_any A n c p B bs _ HX1.out HBY.out HBW.out hp hn).mono ?_); rintro e W2 ⟨rfl, b⟩; (rw [HNM.out]); have B2 := Lib.hid b; have HG8b := Lib.hid ((b.block _ (lt_of_block HG8.out)).trans HG8.out); have HG11b := Lib.hid ((b.block _ (lt_of_block HG11.out)).trans HG11.out); clear HG8 HG11 b; have HG8 := HG8b; have HG11 := HG11b; clear HG8b HG11b)
    | ((with_reducible refine wpList_store_at1 (o := ⟨none, _, _, _, _, _⟩) rfl 3 (.tmp 97) (.tmp 96) rfl (w.heap.size + 1) 90 2 (rv 7 0 0 ⟨#[]⟩ m) (.int .i64 v) (by kernel_rfl) rfl HG11.out (rv_lt (by decide)) Tryz.sizeI (by kernel_rfl) ?_); intro W5 HG5a HB5; have HG5 : Hid (W5.heap[w.heap.size + 1]? = some (.cells (rv 7 0 v ⟨#[]⟩ m) 90 (0, 0))) := HG5a.out; have HG8n : Hid (W5.heap[w.heap.size]? = some (.cells (rv 0 0 0 ⟨#[]⟩ 0) 90 (0, 0))) := (HB5.out.block _ (lt_of_block HG8.out) (by omega)).trans HG8.out)
    | (with_reducible refine wpList_load_row (o := ⟨some 98, _, _, _, _, _⟩) rfl 90 (.tmp 11) rfl (w.heap.size + 1) rfl 90 (rv 7 0 v ⟨#[]⟩ m) _ _ HG5.out Tryz.underlying90 rfl (rv_size _ _ _ _ _) ?_)
    | ((with_reducible refine wpList_store_but (o := ⟨none, _, _, _, _, _⟩) rfl 90 (.tmp 8) (.tmp 98) rfl w.heap.size 90 (rv 0 0 0 ⟨#[]⟩ 0) (rv 7 0 v ⟨#[]⟩ m) rfl rfl HG8n.out (rv_size _ _ _ _ _) rfl (rv_one _ _ _ _ _) ?_); intro W7 HG7 HB7))
  refine bodyPost_ret (results_ctt rfl _ _ _ _ _ _ _ rfl HG7.out Tryz.underlying90 rfl (rv_size _ _ _ _ _)) rfl ⟨rfl, ((HB1.out.trans (B2.out.mono HB1.out.size)).trans (HB5.out.below (Nat.le_trans HB1.out.size B2.out.size) (fun i hi => by subst hi; omega))).trans (HB7.out.below (Nat.le_trans (Nat.le_trans HB1.out.size B2.out.size) HB5.out.size) (fun i hi => by subst hi; exact Nat.le_refl _))⟩
set_option maxRecDepth 100000 in
set_option maxHeartbeats 4000000 in
theorem rd4_no (A : Option Addr) (n c p B : Nat) (m : Int) (bs : List Int) (w : World) (hx : Sl fB w B A n bs) (hb : ∀ b ∈ bs, 0 ≤ b ∧ b < 256) (hB : B ≤ w.heap.size) (hp : p ≤ n) (hn : n ≤ 1000000) (hnc : n ≤ c) (hm : 0 ≤ m ∧ m ≤ 1000000) (hq : nmF bs p = (0, 0, false)) :
    Calls Tryz.prog 94 #[.slice A n c, .int .i64 p, .int .i64 4, .int .i64 m] w (RdP 4 0 0 ⟨#[]⟩ m p 3 w) := by
  have HX := Lib.hid hx
  have HBY := Lib.hid hb
  have HLN : Hid (bs.length = n) := hx.1
  obtain ⟨hb1, hg8, hg11, hs1⟩ := bxW_facts w 4 m
  obtain ⟨W1, hW1⟩ : ∃ W1, bxW w 4 m = W1 := ⟨_, rfl⟩
  rw [hW1] at hb1 hg8 hg11 hs1
  have HB1 := Lib.hid hb1
  have HG8 := Lib.hid hg8
  have HG11 := Lib.hid hg11
  have HS1 := Lib.hid hs1
  have HWE : Hid (W1 = (w.alloc (.cells (rv 0 0 0 ⟨#[]⟩ 0) 90)).alloc (.cells (rv 4 0 0 ⟨#[]⟩ m) 90)) := hW1.symm
  have HBW : Hid (B ≤ W1.heap.size) := Nat.le_trans hB hb1.size
  have HX1 := Lib.hid (hx.up hb1 hB)
  clear hb1 hg8 hg11 hs1 hW1
  have HNM : Hid (nmF bs p = (0, 0, false)) := hq
  clear hx hb hB hq
  go_enter Tryz.func94, Tryz.ntmps94
  go_upto_region 2 with (with_reducible refine wpList_built (o := ⟨some 17, _, _, _, _, _⟩) rfl 90 rvP17 (by kernel_rfl) (rv 4 0 0 ⟨#[]⟩ m) (rvB17 _ 4 m rfl rfl) ?_)
  rw [← HWE.out]
  go_wp2_with (first
    | (go_at_call 123; (with_reducible refine (nm_any A n c p B bs _ HX1.out HBY.out HBW.out hp hn).mono ?_); rintro e W2 ⟨rfl, b⟩; (rw [HNM.out]); have B2 := Lib.hid b; have HG8b := Lib.hid ((b.block _ (lt_of_block HG8.out)).trans HG8.out); have HG11b := Lib.hid ((b.block _ (lt_of_block HG11.out)).trans HG11.out); clear HG8 HG11 b; have HG8 := HG8b; have HG11 := HG11b; clear HG8b HG11b)
    | (with_reducible refine wpList_load_row (o := ⟨some 70, _, _, _, _, _⟩) rfl 90 (.tmp 11) rfl (w.heap.size + 1) rfl 90 (rv 4 0 0 ⟨#[]⟩ m) _ _ HG11.out Tryz.underlying90 rfl (rv_size _ _ _ _ _) ?_)
    | ((with_reducible refine wpList_store_but (o := ⟨none, _, _, _, _, _⟩) rfl 90 (.tmp 8) (.tmp 70) rfl w.heap.size 90 (rv 0 0 0 ⟨#[]⟩ 0) (rv 4 0 0 ⟨#[]⟩ m) rfl rfl HG8.out (rv_size _ _ _ _ _) rfl (rv_one _ _ _ _ _) ?_); intro W7 HG7 HB7))
  refine bodyPost_ret (results_ctt rfl _ _ _ _ _ _ _ rfl HG7.out Tryz.underlying90 rfl (rv_size _ _ _ _ _)) rfl ⟨rfl, (HB1.out.trans (B2.out.mono HB1.out.size)).trans (HB7.out.below (Nat.le_trans HB1.out.size B2.out.size) (fun i hi => by subst hi; exact Nat.le_refl _))⟩
set_option maxRecDepth 100000 in
set_option maxHeartbeats 4000000 in
theorem rd4_big (A : Option Addr) (n c p B : Nat) (m : Int) (bs : List Int) (w : World) (hx : Sl fB w B A n bs) (hb : ∀ b ∈ bs, 0 ≤ b ∧ b < 256) (hB : B ≤ w.heap.size) (hp : p ≤ n) (hn : n ≤ 1000000) (hnc : n ≤ c) (hm : 0 ≤ m ∧ m ≤ 1000000) (v q : Nat) (hq : nmF bs p = ((v : Int), q, true)) (hv : m < v) :
    Calls Tryz.prog 94 #[.slice A n c, .int .i64 p, .int .i64 4, .int .i64 m] w (RdP 4 0 0 ⟨#[]⟩ m p 2 w) := by
  have HX := Lib.hid hx
  have HBY := Lib.hid hb
  have HLN : Hid (bs.length = n) := hx.1
  obtain ⟨hb1, hg8, hg11, hs1⟩ := bxW_facts w 4 m
  obtain ⟨W1, hW1⟩ : ∃ W1, bxW w 4 m = W1 := ⟨_, rfl⟩
  rw [hW1] at hb1 hg8 hg11 hs1
  have HB1 := Lib.hid hb1
  have HG8 := Lib.hid hg8
  have HG11 := Lib.hid hg11
  have HS1 := Lib.hid hs1
  have HWE : Hid (W1 = (w.alloc (.cells (rv 0 0 0 ⟨#[]⟩ 0) 90)).alloc (.cells (rv 4 0 0 ⟨#[]⟩ m) 90)) := hW1.symm
  have HBW : Hid (B ≤ W1.heap.size) := Nat.le_trans hB hb1.size
  have HX1 := Lib.hid (hx.up hb1 hB)
  clear hb1 hg8 hg11 hs1 hW1
  have HNM : Hid (nmF bs p = ((v : Int), q, true)) := hq
  have hmx : max m 0 = m := by omega
  have hmw : IntKind.u64.wrap m = m := by rw [IntKind.wrap_u64]; omega
  clear hx hb hB hq
  go_enter Tryz.func94, Tryz.ntmps94
  go_upto_region 2 with (with_reducible refine wpList_built (o := ⟨some 17, _, _, _, _, _⟩) rfl 90 rvP17 (by kernel_rfl) (rv 4 0 0 ⟨#[]⟩ m) (rvB17 _ 4 m rfl rfl) ?_)
  rw [← HWE.out]
  go_wp2_with (first
    | (go_at_call 123; (with_reducible refine (nm_any A n c p B bs _ HX1.out HBY.out HBW.out hp hn).mono ?_); rintro e W2 ⟨rfl, b⟩; (rw [HNM.out]); have B2 := Lib.hid b; have HG8b := Lib.hid ((b.block _ (lt_of_block HG8.out)).trans HG8.out); have HG11b := Lib.hid ((b.block _ (lt_of_block HG11.out)).trans HG11.out); clear HG8 HG11 b; have HG8 := HG8b; have HG11 := HG11b; clear HG8b HG11b)
    | (with_reducible refine wpList_load_row (o := ⟨some 91, _, _, _, _, _⟩) rfl 90 (.tmp 11) rfl (w.heap.size + 1) rfl 90 (rv 4 0 0 ⟨#[]⟩ m) _ _ HG11.out Tryz.underlying90 rfl (rv_size _ _ _ _ _) ?_)
    | ((with_reducible refine wpList_store_but (o := ⟨none, _, _, _, _, _⟩) rfl 90 (.tmp 8) (.tmp 91) rfl w.heap.size 90 (rv 0 0 0 ⟨#[]⟩ 0) (rv 4 0 0 ⟨#[]⟩ m) rfl rfl HG8.out (rv_size _ _ _ _ _) rfl (rv_one _ _ _ _ _) ?_); intro W7 HG7 HB7))
  refine bodyPost_ret (results_ctt rfl _ _ _ _ _ _ _ rfl HG7.out Tryz.underlying90 rfl (rv_size _ _ _ _ _)) rfl ⟨rfl, (HB1.out.trans (B2.out.mono HB1.out.size)).trans (HB7.out.below (Nat.le_trans HB1.out.size B2.out.size) (fun i hi => by subst hi; exact Nat.le_refl _))⟩
set_option maxRecDepth 100000 in
set_option maxHeartbeats 4000000 in
theorem rd4_short (A : Option Addr) (n c p B : Nat) (m : Int) (bs : List Int) (w : World) (hx : Sl fB w B A n bs) (hb : ∀ b ∈ bs, 0 ≤ b ∧ b < 256) (hB : B ≤ w.heap.size) (hp : p ≤ n) (hn : n ≤ 1000000) (hnc : n ≤ c) (hm : 0 ≤ m ∧ m ≤ 1000000) (v q : Nat) (hq : nmF bs p = ((v : Int), q, true)) (hv : (v : Int) ≤ m) (hqn : q ≤ n) (hs : n < q + v) :
    Calls Tryz.prog 94 #[.slice A n c, .int .i64 p, .int .i64 4, .int .i64 m] w (RdP 4 0 0 ⟨#[]⟩ m p 3 w) := by
  have HX := Lib.hid hx
  have HBY := Lib.hid hb
  have HLN : Hid (bs.length = n) := hx.1
  obtain ⟨hb1, hg8, hg11, hs1⟩ := bxW_facts w 4 m
  obtain ⟨W1, hW1⟩ : ∃ W1, bxW w 4 m = W1 := ⟨_, rfl⟩
  rw [hW1] at hb1 hg8 hg11 hs1
  have HB1 := Lib.hid hb1
  have HG8 := Lib.hid hg8
  have HG11 := Lib.hid hg11
  have HS1 := Lib.hid hs1
  have HWE : Hid (W1 = (w.alloc (.cells (rv 0 0 0 ⟨#[]⟩ 0) 90)).alloc (.cells (rv 4 0 0 ⟨#[]⟩ m) 90)) := hW1.symm
  have HBW : Hid (B ≤ W1.heap.size) := Nat.le_trans hB hb1.size
  have HX1 := Lib.hid (hx.up hb1 hB)
  clear hb1 hg8 hg11 hs1 hW1
  have HNM : Hid (nmF bs p = ((v : Int), q, true)) := hq
  have hmx : max m 0 = m := by omega
  have hmw : IntKind.u64.wrap m = m := by rw [IntKind.wrap_u64]; omega
  have hvw : IntKind.i64.wrap (v : Int) = v := by unfold IntKind.wrap; simp [IntKind.bits, IntKind.signed]; omega
  have hv2 : ¬ m < (v : Int) := by omega
  have hqn : q ≤ n := hqn
  have hw2 : IntKind.u64.wrap ((n : Int) - (q : Int)) = (n : Int) - (q : Int) := by rw [IntKind.wrap_u64]; omega
  have hs2 : (n : Int) - (q : Int) < v := by omega
  clear hx hb hB hq
  go_enter Tryz.func94, Tryz.ntmps94
  go_upto_region 2 with (with_reducible refine wpList_built (o := ⟨some 17, _, _, _, _, _⟩) rfl 90 rvP17 (by kernel_rfl) (rv 4 0 0 ⟨#[]⟩ m) (rvB17 _ 4 m rfl rfl) ?_)
  rw [← HWE.out]
  go_wp2_with (first
    | (go_at_call 123; (with_reducible refine (nm_any A n c p B bs _ HX1.out HBY.out HBW.out hp hn).mono ?_); rintro e W2 ⟨rfl, b⟩; (rw [HNM.out]); have B2 := Lib.hid b; have HG8b := Lib.hid ((b.block _ (lt_of_block HG8.out)).trans HG8.out); have HG11b := Lib.hid ((b.block _ (lt_of_block HG11.out)).trans HG11.out); clear HG8 HG11 b; have HG8 := HG8b; have HG11 := HG11b; clear HG8b HG11b)
    | (with_reducible refine wpList_load_row (o := ⟨some 107, _, _, _, _, _⟩) rfl 90 (.tmp 11) rfl (w.heap.size + 1) rfl 90 (rv 4 0 0 ⟨#[]⟩ m) _ _ HG11.out Tryz.underlying90 rfl (rv_size _ _ _ _ _) ?_)
    | ((with_reducible refine wpList_store_but (o := ⟨none, _, _, _, _, _⟩) rfl 90 (.tmp 8) (.tmp 107) rfl w.heap.size 90 (rv 0 0 0 ⟨#[]⟩ 0) (rv 4 0 0 ⟨#[]⟩ m) rfl rfl HG8.out (rv_size _ _ _ _ _) rfl (rv_one _ _ _ _ _) ?_); intro W7 HG7 HB7))
  refine bodyPost_ret (results_ctt rfl _ _ _ _ _ _ _ rfl HG7.out Tryz.underlying90 rfl (rv_size _ _ _ _ _)) rfl ⟨rfl, (HB1.out.trans (B2.out.mono HB1.out.size)).trans (HB7.out.below (Nat.le_trans HB1.out.size B2.out.size) (fun i hi => by subst hi; exact Nat.le_refl _))⟩
set_option maxRecDepth 100000 in
set_option maxHeartbeats 4000000 in
theorem rd4_ok (A : Option Addr) (n c p B : Nat) (m : Int) (bs : List Int) (w : World) (hx : Sl fB w B A n bs) (hb : ∀ b ∈ bs, 0 ≤ b ∧ b < 256) (hB : B ≤ w.heap.size) (hp : p ≤ n) (hn : n ≤ 1000000) (hnc : n ≤ c) (hm : 0 ≤ m ∧ m ≤ 1000000) (v q : Nat) (hq : nmF bs p = ((v : Int), q, true)) (hv : (v : Int) ≤ m) (hqn : q ≤ n) (hs : q + v ≤ n) :
    Calls Tryz.prog 94 #[.slice A n c, .int .i64 p, .int .i64 4, .int .i64 m] w (RdP 4 0 0 (baOf ((bs.drop q).take v)) m (q + v) 0 w) := by
  have HX := Lib.hid hx
  have HBY := Lib.hid hb
  have HLN : Hid (bs.length = n) := hx.1
  obtain ⟨hb1, hg8, hg11, hs1⟩ := bxW_facts w 4 m
  obtain ⟨W1, hW1⟩ : ∃ W1, bxW w 4 m = W1 := ⟨_, rfl⟩
  rw [hW1] at hb1 hg8 hg11 hs1
  have HB1 := Lib.hid hb1
  have HG8 := Lib.hid hg8
  have HG11 := Lib.hid hg11
  have HS1 := Lib.hid hs1
  have HWE : Hid (W1 = (w.alloc (.cells (rv 0 0 0 ⟨#[]⟩ 0) 90)).alloc (.cells (rv 4 0 0 ⟨#[]⟩ m) 90)) := hW1.symm
  have HBW : Hid (B ≤ W1.heap.size) := Nat.le_trans hB hb1.size
  have HX1 := Lib.hid (hx.up hb1 hB)
  clear hb1 hg8 hg11 hs1 hW1
  have HNM : Hid (nmF bs p = ((v : Int), q, true)) := hq
  have hmx : max m 0 = m := by omega
  have hmw : IntKind.u64.wrap m = m := by rw [IntKind.wrap_u64]; omega
  have hvw : IntKind.i64.wrap (v : Int) = v := by unfold IntKind.wrap; simp [IntKind.bits, IntKind.signed]; omega
  have hv2 : ¬ m < (v : Int) := by omega
  have hqn : q ≤ n := hqn
  have hw2 : IntKind.u64.wrap ((n : Int) - (q : Int)) = (n : Int) - (q : Int) := by rw [IntKind.wrap_u64]; omega
  have hs2 : ¬ (n : Int) - (q : Int) < v := by omega
  obtain ⟨i0, hi0, _, hz1, _⟩ := info_parts Tryz.infoB
  have hsl := run_slice_lh (P := Tryz.prog) 24 5 i0 Tryz.underlying24 hi0 hz1 A n c q (q + v) (by omega) (by omega)
  rw [show ((q + v : Nat) : Int) = (q : Int) + (v : Int) by omega, show q + v - q = v by omega] at hsl
  obtain ⟨A', hA'⟩ : ∃ A', (if c = q then A else A.map (·.add q)) = A' := ⟨_, rfl⟩
  obtain ⟨z0, hz0⟩ : ∃ s, s = baOf ((bs.drop q).take v) := ⟨_, rfl⟩
  have HZ0 := Lib.hid hz0
  have HP : Hid (∀ V, Sl fB V B A n bs → (convert 24 9 (.slice A' v (c - q))).run Tryz.prog V = .ok (.string z0) V) := fun V hV => by
    rw [hz0, ← hA']; exact run_conv_sl (P := Tryz.prog) 24 5 9 Tryz.underlying24 Tryz.underlying5 Tryz.underlying9 V _ _ _ _ _ (hV.part q v (by omega) hnc)
  rw [hA'] at hsl
  rw [← hz0]
  clear hx hb hB hq hz0 hA'
  go_enter Tryz.func94, Tryz.ntmps94
  go_upto_region 2 with (with_reducible refine wpList_built (o := ⟨some 17, _, _, _, _, _⟩) rfl 90 rvP17 (by kernel_rfl) (rv 4 0 0 ⟨#[]⟩ m) (rvB17 _ 4 m rfl rfl) ?_)
  rw [← HWE.out]
  go_wp2_with (first
    | (go_at_call 123; (with_reducible refine (nm_any A n c p B bs _ HX1.out HBY.out HBW.out hp hn).mono ?_); rintro e W2 ⟨rfl, b⟩; (rw [HNM.out]); have B2 := Lib.hid b; have HG8b := Lib.hid ((b.block _ (lt_of_block HG8.out)).trans HG8.out); have HG11b := Lib.hid ((b.block _ (lt_of_block HG11.out)).trans HG11.out); clear HG8 HG11 b; have HG8 := HG8b; have HG11 := HG11b; clear HG8b HG11b; have HX2 := Lib.hid (HX1.out.up B2.out HBW.out); have hcv := HP.out W2 HX2.out)
    | ((with_reducible refine wpList_store_at1 (o := ⟨none, _, _, _, _, _⟩) rfl 9 (.tmp 117) (.tmp 116) rfl (w.heap.size + 1) 90 4 (rv 4 0 0 ⟨#[]⟩ m) (.string z0) (by kernel_rfl) rfl HG11.out (rv_lt (by decide)) Tryz.sizeStr (by kernel_rfl) ?_); intro W5 HG5a HB5; have HG5 : Hid (W5.heap[w.heap.size + 1]? = some (.cells (rv 4 0 0 z0 m) 90 (0, 0))) := HG5a.out; have HG8n : Hid (W5.heap[w.heap.size]? = some (.cells (rv 0 0 0 ⟨#[]⟩ 0) 90 (0, 0))) := (HB5.out.block _ (lt_of_block HG8.out) (by omega)).trans HG8.out)
    | (with_reducible refine wpList_load_row (o := ⟨some 118, _, _, _, _, _⟩) rfl 90 (.tmp 11) rfl (w.heap.size + 1) rfl 90 (rv 4 0 0 z0 m) _ _ HG5.out Tryz.underlying90 rfl (rv_size _ _ _ _ _) ?_)
    | ((with_reducible refine wpList_store_but (o := ⟨none, _, _, _, _, _⟩) rfl 90 (.tmp 8) (.tmp 118) rfl w.heap.size 90 (rv 0 0 0 ⟨#[]⟩ 0) (rv 4 0 0 z0 m) rfl rfl HG8n.out (rv_size _ _ _ _ _) rfl (rv_one _ _ _ _ _) ?_); intro W7 HG7 HB7))
  refine bodyPost_ret (results_ctt rfl _ _ _ _ _ _ _ rfl HG7.out Tryz.underlying90 rfl (rv_size _ _ _ _ _)) rfl ⟨(by first | rfl | (simp; done) | (congr; omega)), ((HB1.out.trans (B2.out.mono HB1.out.size)).trans (HB5.out.below (Nat.le_trans HB1.out.size B2.out.size) (fun i hi => by subst hi; omega))).trans (HB7.out.below (Nat.le_trans (Nat.le_trans HB1.out.size B2.out.size) HB5.out.size) (fun i hi => by subst hi; exact Nat.le_refl _))⟩
end Go.Proofs.YtnfkjnmdfijhnaaGreatDoor
