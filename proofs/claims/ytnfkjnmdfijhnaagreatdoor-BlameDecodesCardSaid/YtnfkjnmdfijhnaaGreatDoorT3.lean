/- The reference's Reader: Read, over what read yields. -/
import Derived.Test.YtnfkjnmdfijhnaaGreatDoorT2
namespace Go.Proofs.YtnfkjnmdfijhnaaGreatDoor
open Go.RowKit Go.Lib
set_option linter.unusedVariables false
set_option linter.unusedSimpArgs false

/-- A reader of the reference: its place and its error are those of s. -/
def RfS (g : Nat) (A : Option Addr) (n c : Nat) (bs : List Int) (s : RS) (w : World) : Prop := (∃ pv : Int, w.heap[g]? = some (.cells #[.slice A n c, .int .i64 s.1, .int .i64 pv, .int .i64 s.2] 101 (0, 0))) ∧ Sl fB w g A n bs
def RfPost (g : Nat) (A : Option Addr) (n c : Nat) (bs : List Int) (v : Value) (s : RS) (w : World) (e : Ending) (w' : World) : Prop := e = .returned v ∧ RfS g A n c bs s w' ∧ But (fun k => k = g) w w'
theorem RfS.lt {g : Nat} {A : Option Addr} {n c : Nat} {bs : List Int} {s : RS} {w : World} (h : RfS g A n c bs s w) : g < w.heap.size := by
  obtain ⟨⟨pv, h1⟩, _⟩ := h
  exact lt_of_block h1
theorem RfS.on {g : Nat} {A : Option Addr} {n c : Nat} {bs : List Int} {s : RS} {w w' : World} (h : RfS g A n c bs s w) (hb : Below w.heap.size w w') : RfS g A n c bs s w' := by
  have hg := h.lt
  obtain ⟨⟨pv, h1⟩, h2⟩ := h
  exact ⟨⟨pv, (hb.block _ hg).trans h1⟩, h2.up hb (Nat.le_of_lt hg)⟩
theorem RfS.but2 {g : Nat} {A : Option Addr} {n c : Nat} {bs : List Int} {s : RS} {w w' : World} {p : Nat → Prop} (h : RfS g A n c bs s w) (hb : But p w w') (hg : ¬ p g) (hA : ∀ a, A = some a → ¬ p a.block) : RfS g A n c bs s w' := by
  have hl := h.lt
  obtain ⟨⟨pv, h1⟩, h2⟩ := h
  exact ⟨⟨pv, (hb.block _ hl hg).trans h1⟩, h2.1, h2.2.but hb (Nat.le_of_lt hl) hA⟩
theorem lt_rf {a b c d : Value} {k : Nat} (h : k < 4) : k < (#[a, b, c, d] : Array Value).size := h
theorem Tryz.sizeEr : (Tryz.prog.info? 29).map (·.size) = some 1 := by kernel_rfl
def rvP13 : Array (Nat × Operand) := #[(0, .tmp 11), (5, .tmp 12)]
set_option maxRecDepth 100000 in
theorem rvB13 (a : Act) (k m : Int) (h0 : a.eval (.tmp 11) = .int .i64 k) (h1 : a.eval (.tmp 12) = .int .i64 m) : Tryz.prog.built 90 (rvP13.map fun (i, x) => (i, a.eval x)).toList = some (rv k 0 0 ⟨#[]⟩ m) := by
  rw [Array.toList_map]
  show Tryz.prog.built 90 [(0, a.eval (.tmp 11)), (5, a.eval (.tmp 12))] = _
  rw [h0, h1]
  kernel_rfl
set_option maxRecDepth 100000 in
set_option maxHeartbeats 8000000 in
theorem rd52_err (k m : Int) (hk : k ≠ 0) (g : Nat) (A : Option Addr) (n c : Nat) (bs : List Int) (s : RS) (w : World) (hr : RfS g A n c bs s w) (he : s.2 ≠ 0) :
    Calls Tryz.prog 52 #[.pointer (some ⟨g, 0, none⟩), .int .i64 k, .int .i64 m] w (RfPost g A n c bs (.agg (rv k 0 0 ⟨#[]⟩ m)) s w) := by
  obtain ⟨⟨pv, hg0⟩, hx⟩ := hr
  have hgl := lt_of_block hg0
  obtain ⟨hb1, hg6, hg7, hs1⟩ := bxW_facts w k m
  obtain ⟨W1, hW1⟩ : ∃ W1, bxW w k m = W1 := ⟨_, rfl⟩
  rw [hW1] at hb1 hg6 hg7 hs1
  have hgR := (hb1.block _ hgl).trans hg0
  have HGL := Lib.hid hgl
  have HB1 := Lib.hid hb1
  have HG6 := Lib.hid hg6
  have HG7 := Lib.hid hg7
  have HGR := Lib.hid hgR
  have HS1 := Lib.hid hs1
  have HWE : Hid (W1 = (w.alloc (.cells (rv 0 0 0 ⟨#[]⟩ 0) 90)).alloc (.cells (rv k 0 0 ⟨#[]⟩ m) 90)) := hW1.symm
  have HX1 := Lib.hid (hx.up hb1 (Nat.le_of_lt hgl))
  have HX := Lib.hid hx
  have HCg : Hid (∀ V, Below W1.heap.size W1 V → V.cell? ⟨g, 0, none⟩ = some (.slice A n c) ∧ V.cell? ⟨g, 1, none⟩ = some (.int .i64 s.1) ∧ V.cell? ⟨g, 2, none⟩ = some (.int .i64 pv) ∧ V.cell? ⟨g, 3, none⟩ = some (.int .i64 s.2)) := fun V hb => by
    have q := (hb.block g (by omega)).trans hgR
    refine ⟨?_, ?_, ?_, ?_⟩ <;> (rw [cell_of_row V _ _ _ _ _ q]; rfl)
  have HHg : Hid (∀ V, Below W1.heap.size W1 V → V.heap[g]? = some (.cells #[.slice A n c, .int .i64 s.1, .int .i64 pv, .int .i64 s.2] 101 (0, 0)) ∧ V.heap[w.heap.size]? = some (.cells (rv 0 0 0 ⟨#[]⟩ 0) 90 (0, 0)) ∧ V.heap[w.heap.size + 1]? = some (.cells (rv k 0 0 ⟨#[]⟩ m) 90 (0, 0))) := fun V hb =>
    ⟨(hb.block g (by omega)).trans hgR, (hb.block _ (by omega)).trans hg6, (hb.block _ (by omega)).trans hg7⟩
  have heb : (s.2 != 0) = true := by simp [he]
  obtain ⟨c0, c1, c2, c3⟩ := HCg.out W1 (Below.refl _ _)
  clear hx hg0 hb1 hg6 hg7 hs1 hgR hW1
  go_enter Tryz.func52, Tryz.ntmps52
  go_upto_region 2 with (with_reducible refine wpList_built (o := ⟨some 13, _, _, _, _, _⟩) rfl 90 rvP13 (by kernel_rfl) (rv k 0 0 ⟨#[]⟩ m) (rvB13 _ k m rfl rfl) ?_)
  rw [← HWE.out]
  go_wp2_with (first
    | (with_reducible refine wpList_load_row (o := ⟨some 19, _, _, _, _, _⟩) rfl 90 (.tmp 7) rfl (w.heap.size + 1) rfl 90 (rv k 0 0 ⟨#[]⟩ m) _ _ HG7.out Tryz.underlying90 rfl (rv_size _ _ _ _ _) ?_)
    | ((with_reducible refine wpList_store_but (o := ⟨none, _, _, _, _, _⟩) rfl 90 (.tmp 6) (.tmp 19) rfl w.heap.size 90 (rv 0 0 0 ⟨#[]⟩ 0) (rv k 0 0 ⟨#[]⟩ m) rfl rfl HG6.out (rv_size _ _ _ _ _) rfl (rv_one _ _ _ _ _) ?_); intro W7 HG7z HB7))
  have hb7 : Below w.heap.size w W7 := HB1.out.trans (HB7.out.below HB1.out.size (fun i hi => by subst hi; exact Nat.le_refl _))
  refine bodyPost_ret (results_cell_row rfl _ _ _ _ _ _ _ rfl HG7z.out Tryz.underlying90 rfl (rv_size _ _ _ _ _)) rfl ⟨rfl, ⟨⟨pv, (HB7.out.block g (by have := HGL.out; have := HS1.out; omega) (by have := HGL.out; omega)).trans HGR.out⟩, HX.out.up hb7 (Nat.le_of_lt HGL.out)⟩, But.of_below hb7⟩
set_option maxRecDepth 100000 in
set_option maxHeartbeats 8000000 in
theorem rd52_bad (u nn : Int) (sv : ByteArray) (q : Nat) (er : Int) (k m : Int) (hk : k ≠ 0) (g : Nat) (A : Option Addr) (n c : Nat) (bs : List Int) (s : RS) (w : World) (hr : RfS g A n c bs s w) (he : s.2 = 0) (her : er ≠ 0) (HC : ∀ V, Sl fB V g A n bs → g ≤ V.heap.size → Calls Tryz.prog 94 #[.slice A n c, .int .i64 s.1, .int .i64 k, .int .i64 m] V (RdP k u nn sv m q er V)) :
    Calls Tryz.prog 52 #[.pointer (some ⟨g, 0, none⟩), .int .i64 k, .int .i64 m] w (RfPost g A n c bs (.agg (rv k 0 0 ⟨#[]⟩ m)) (s.1, er) w) := by
  obtain ⟨⟨pv, hg0⟩, hx⟩ := hr
  have hgl := lt_of_block hg0
  obtain ⟨hb1, hg6, hg7, hs1⟩ := bxW_facts w k m
  obtain ⟨W1, hW1⟩ : ∃ W1, bxW w k m = W1 := ⟨_, rfl⟩
  rw [hW1] at hb1 hg6 hg7 hs1
  have hgR := (hb1.block _ hgl).trans hg0
  have HGL := Lib.hid hgl
  have HB1 := Lib.hid hb1
  have HG6 := Lib.hid hg6
  have HG7 := Lib.hid hg7
  have HGR := Lib.hid hgR
  have HS1 := Lib.hid hs1
  have HWE : Hid (W1 = (w.alloc (.cells (rv 0 0 0 ⟨#[]⟩ 0) 90)).alloc (.cells (rv k 0 0 ⟨#[]⟩ m) 90)) := hW1.symm
  have HX1 := Lib.hid (hx.up hb1 (Nat.le_of_lt hgl))
  have HX := Lib.hid hx
  have HCg : Hid (∀ V, Below W1.heap.size W1 V → V.cell? ⟨g, 0, none⟩ = some (.slice A n c) ∧ V.cell? ⟨g, 1, none⟩ = some (.int .i64 s.1) ∧ V.cell? ⟨g, 2, none⟩ = some (.int .i64 pv) ∧ V.cell? ⟨g, 3, none⟩ = some (.int .i64 s.2)) := fun V hb => by
    have q := (hb.block g (by omega)).trans hgR
    refine ⟨?_, ?_, ?_, ?_⟩ <;> (rw [cell_of_row V _ _ _ _ _ q]; rfl)
  have HHg : Hid (∀ V, Below W1.heap.size W1 V → V.heap[g]? = some (.cells #[.slice A n c, .int .i64 s.1, .int .i64 pv, .int .i64 s.2] 101 (0, 0)) ∧ V.heap[w.heap.size]? = some (.cells (rv 0 0 0 ⟨#[]⟩ 0) 90 (0, 0)) ∧ V.heap[w.heap.size + 1]? = some (.cells (rv k 0 0 ⟨#[]⟩ m) 90 (0, 0))) := fun V hb =>
    ⟨(hb.block g (by omega)).trans hgR, (hb.block _ (by omega)).trans hg6, (hb.block _ (by omega)).trans hg7⟩
  have heb : (s.2 != 0) = false := by simp [he]
  have hkb : (k == 0) = false := by simp [hk]
  have herb : (er != 0) = true := by simp [her]
  have HCX : Hid (∀ V, Below W1.heap.size W1 V → Calls Tryz.prog 94 #[.slice A n c, .int .i64 s.1, .int .i64 k, .int .i64 m] V (RdP k u nn sv m q er V)) := fun V hb => HC V (HX1.out.up hb (by omega)) (by have := hb.size; omega)
  obtain ⟨c0, c1, c2, c3⟩ := HCg.out W1 (Below.refl _ _)
  have HB : Hid (Below W1.heap.size W1 W1) := Below.refl _ _
  clear HC hx hg0 hb1 hg6 hg7 hs1 hgR hW1 hgl
  go_enter Tryz.func52, Tryz.ntmps52
  go_upto_region 2 with (with_reducible refine wpList_built (o := ⟨some 13, _, _, _, _, _⟩) rfl 90 rvP13 (by kernel_rfl) (rv k 0 0 ⟨#[]⟩ m) (rvB13 _ k m rfl rfl) ?_)
  rw [← HWE.out]
  go_upto_region 7 with fail
  refine wp_region_held_drew (S := (fun w' => w'.cell? ⟨g, 0, none⟩ = some (.slice A n c) ∧ w'.cell? ⟨g, 1, none⟩ = some (.int .i64 s.1))) (by kernel_rfl) (by exact ⟨(HCg.out _ (by (repeat (first | exact HB.out | exact Below.refl _ _ | refine Below.drew ?_ | refine below_dN' ?_ _ | refine below_drewN' ?_ _ | refine Below.alloc ?_ (by first | exact HB.out.size | simp) _)))).1, (HCg.out _ (by (repeat (first | exact HB.out | exact Below.refl _ _ | refine Below.drew ?_ | refine below_dN' ?_ _ | refine below_drewN' ?_ _ | refine Below.alloc ?_ (by first | exact HB.out.size | simp) _)))).2.1⟩) (fun hHeld => ?_)
  refine wpAnyH_take (i := 0) (v := ?z1v) (by simp only [List.getElem?_toArray, List.getElem?_cons_zero]; rfl) (by kernel_rfl) (by kernel_rfl) (by kernel_rfl) (by exact fun _ _ _ h => h) (Or.inl ⟨by rfl, ?z1y⟩) (by assumption) ?z1r
  case z1y => (intro w hSw; (try dsimp only at hSw); go_simp; try (with_reducible rfl))
  try simp only [Act.put, List.setIfInBounds_toArray, List.set_cons_zero, List.set_cons_succ]
  refine wpAnyH_take (i := 1) (v := ?z2v) (by simp only [List.getElem?_toArray, List.getElem?_cons_succ, List.getElem?_cons_zero]; rfl) (by kernel_rfl) (by kernel_rfl) (by kernel_rfl) (by exact fun _ _ _ h => h) (Or.inl ⟨by rfl, ?z2y⟩) (by assumption) ?z2r
  case z2y => (intro w hSw; (try dsimp only at hSw); go_simp; try (with_reducible rfl))
  try simp only [Act.put, List.setIfInBounds_toArray, List.set_cons_zero, List.set_cons_succ]
  refine wpAnyH_take (i := 2) (v := ?z3v) (by simp only [List.getElem?_toArray, List.getElem?_cons_succ, List.getElem?_cons_zero]; rfl) (by kernel_rfl) (by kernel_rfl) (by kernel_rfl) (by exact fun _ _ _ h => h) (Or.inl ⟨by rfl, ?z3y⟩) (by assumption) ?z3r
  case z3y => (intro w hSw; (try dsimp only at hSw); go_simp; try (with_reducible rfl))
  try simp only [Act.put, List.setIfInBounds_toArray, List.set_cons_zero, List.set_cons_succ]
  refine wpAnyH_take (i := 3) (v := ?z4v) (by simp only [List.getElem?_toArray, List.getElem?_cons_succ, List.getElem?_cons_zero]; rfl) (by kernel_rfl) (by kernel_rfl) (by kernel_rfl) (by exact fun _ _ _ h => h) (Or.inl ⟨by rfl, ?z4y⟩) (by assumption) ?z4r
  case z4y => (intro w hSw; (try dsimp only at hSw); go_simp; try (with_reducible rfl))
  try simp only [Act.put, List.setIfInBounds_toArray, List.set_cons_zero, List.set_cons_succ]
  refine wpAnyH_take (i := 4) (v := ?z5v) (by simp only [List.getElem?_toArray, List.getElem?_cons_succ, List.getElem?_cons_zero]; rfl) (by kernel_rfl) (by kernel_rfl) (by kernel_rfl) (by exact fun _ _ _ h => h) (Or.inl ⟨by rfl, ?z5y⟩) (by assumption) ?z5r
  case z5y => (intro w hSw; (try dsimp only at hSw); go_simp; try (with_reducible rfl))
  try simp only [Act.put, List.setIfInBounds_toArray, List.set_cons_zero, List.set_cons_succ]
  refine wpAnyH_take (i := 5) (v := ?z6v) (by simp only [List.getElem?_toArray, List.getElem?_cons_succ, List.getElem?_cons_zero]; rfl) (by kernel_rfl) (by kernel_rfl) (by kernel_rfl) (by exact fun _ _ _ h => h) (Or.inl ⟨by rfl, ?z6y⟩) (by assumption) ?z6r
  case z6y => (intro w hSw; (try dsimp only at hSw); go_simp; try (with_reducible rfl))
  try simp only [Act.put, List.setIfInBounds_toArray, List.set_cons_zero, List.set_cons_succ]
  refine wpAnyH_take (i := 6) (v := ?z7v) (by simp only [List.getElem?_toArray, List.getElem?_cons_succ, List.getElem?_cons_zero]; rfl) (by kernel_rfl) (by kernel_rfl) (by kernel_rfl) (by exact fun _ _ _ h => h) (Or.inl ⟨by rfl, ?z7y⟩) (by assumption) ?z7r
  case z7y => (intro w hSw; (try dsimp only at hSw); go_simp; try (with_reducible rfl))
  try simp only [Act.put, List.setIfInBounds_toArray, List.set_cons_zero, List.set_cons_succ]
  refine wpAnyH_take (i := 7) (v := ?z8v) (by simp only [List.getElem?_toArray, List.getElem?_cons_succ, List.getElem?_cons_zero]; rfl) (by kernel_rfl) (by kernel_rfl) (by kernel_rfl) (by exact fun _ _ _ h => h) (Or.inl ⟨by rfl, ?z8y⟩) (by assumption) ?z8r
  case z8y => (intro w hSw; (try dsimp only at hSw); go_simp; try (with_reducible rfl))
  try simp only [Act.put, List.setIfInBounds_toArray, List.set_cons_zero, List.set_cons_succ]
  refine wpAnyH_take (i := 8) (v := ?z9v) (by simp only [List.getElem?_toArray, List.getElem?_cons_succ, List.getElem?_cons_zero]; rfl) (by kernel_rfl) (by kernel_rfl) (by kernel_rfl) (by exact fun _ _ _ h => h) (Or.inl ⟨by rfl, ?z9y⟩) (by assumption) ?z9r
  case z9y => (intro w hSw; (try dsimp only at hSw); go_simp; try (with_reducible rfl))
  try simp only [Act.put, List.setIfInBounds_toArray, List.set_cons_zero, List.set_cons_succ]
  refine wpAnyH_take (i := 9) (v := ?z10v) (by simp only [List.getElem?_toArray, List.getElem?_cons_succ, List.getElem?_cons_zero]; rfl) (by kernel_rfl) (by kernel_rfl) (by kernel_rfl) (by exact fun _ _ _ h => h) (Or.inl ⟨by rfl, ?z10y⟩) (by assumption) ?z10r
  case z10y => (intro w hSw; (try dsimp only at hSw); go_simp; try (with_reducible rfl))
  try simp only [Act.put, List.setIfInBounds_toArray, List.set_cons_zero, List.set_cons_succ]
  refine wpAnyH_ready (rs := [10, 15]) (by kernel_rfl) (by simp) ?_
  refine AllReadyH.cons (by simp only [List.getElem?_toArray, List.getElem?_cons_succ, List.getElem?_cons_zero]; rfl) (fun K hK => ?_) (AllReadyH.cons (by simp only [List.getElem?_toArray, List.getElem?_cons_succ, List.getElem?_cons_zero]; rfl) (fun K hK => ?_) (AllReadyH.nil))
  · (go_simp; go_at_call 94; (with_reducible refine (HCX.out _ (by (repeat (first | exact HB.out | exact Below.refl _ _ | refine Below.drew ?_ | refine below_dN' ?_ _ | refine below_drewN' ?_ _ | refine Below.alloc ?_ (by first | exact HB.out.size | simp) _)))).mono ?_); rintro e W6 ⟨rfl, b6⟩; (have HBB : Hid (Below W1.heap.size W1 W6) := Below.trans (by (repeat (first | exact HB.out | exact Below.refl _ _ | refine Below.drew ?_ | refine below_dN' ?_ _ | refine below_drewN' ?_ _ | refine Below.alloc ?_ (by first | exact HB.out.size | simp) _))) (b6.mono (by first | exact Nat.le_refl _ | (simp <;> omega)))); (first | (have HZ6 : Hid (W6.heap[W1.heap.size]? = some (.cells (rv 0 0 0 ⟨#[]⟩ 0) 90 (0, 0))) := (b6.block _ (by simp)).trans (by first | exact heap_alloc_new _ _)) | skip); (have HBW : Hid (W1.heap.size ≤ W6.heap.size) := HBB.out.size); clear b6 HB; have HB := HBB; clear HBB; go_wp2_with fail)
    refine hK.out _ _ (by exact ⟨(HCg.out _ (by (repeat (first | exact HB.out | exact Below.refl _ _ | refine Below.drew ?_ | refine below_dN' ?_ _ | refine below_drewN' ?_ _ | refine Below.alloc ?_ (by first | exact HB.out.size | simp) _)))).1, (HCg.out _ (by (repeat (first | exact HB.out | exact Below.refl _ _ | refine Below.drew ?_ | refine below_dN' ?_ _ | refine below_drewN' ?_ _ | refine Below.alloc ?_ (by first | exact HB.out.size | simp) _)))).2.1⟩) (fun hHeldz11 => ?_)
    clear hK K hHeld
    try simp only [Act.put, List.setIfInBounds_toArray, List.set_cons_zero, List.set_cons_succ]
    refine wpAnyH_take (i := 11) (v := ?z12v) (by simp only [List.getElem?_toArray, List.getElem?_cons_succ, List.getElem?_cons_zero]; rfl) (by kernel_rfl) (by kernel_rfl) (by kernel_rfl) (by exact fun _ _ _ h => h) (Or.inl ⟨by rfl, ?z12y⟩) (by assumption) ?z12r
    case z12y => (intro w hSw; (try dsimp only at hSw); go_simp; try (with_reducible rfl))
    try simp only [Act.put, List.setIfInBounds_toArray, List.set_cons_zero, List.set_cons_succ]
    refine wpAnyH_take (i := 12) (v := ?z13v) (by simp only [List.getElem?_toArray, List.getElem?_cons_succ, List.getElem?_cons_zero]; rfl) (by kernel_rfl) (by kernel_rfl) (by kernel_rfl) (by exact fun _ _ _ h => h) (Or.inl ⟨by rfl, ?z13y⟩) (by assumption) ?z13r
    case z13y => (intro w hSw; (try dsimp only at hSw); go_simp; try (with_reducible rfl))
    try simp only [Act.put, List.setIfInBounds_toArray, List.set_cons_zero, List.set_cons_succ]
    refine wpAnyH_take (i := 13) (v := ?z14v) (by simp only [List.getElem?_toArray, List.getElem?_cons_succ, List.getElem?_cons_zero]; rfl) (by kernel_rfl) (by kernel_rfl) (by kernel_rfl) (by exact fun _ _ _ h => h) (Or.inl ⟨by rfl, ?z14y⟩) (by assumption) ?z14r
    case z14y => (intro w hSw; (try dsimp only at hSw); go_simp; try (with_reducible rfl))
    try simp only [Act.put, List.setIfInBounds_toArray, List.set_cons_zero, List.set_cons_succ]
    refine wpAnyH_take (i := 14) (v := ?z15v) (by simp only [List.getElem?_toArray, List.getElem?_cons_succ, List.getElem?_cons_zero]; rfl) (by kernel_rfl) (by kernel_rfl) (by kernel_rfl) (by exact fun _ _ _ h => h) (Or.inl ⟨by rfl, ?z15y⟩) (by assumption) ?z15r
    case z15y => (intro w hSw; (try dsimp only at hSw); go_simp; try (with_reducible rfl))
    try simp only [Act.put, List.setIfInBounds_toArray, List.set_cons_zero, List.set_cons_succ]
    refine wpAnyH_ready (rs := [15]) (by kernel_rfl) (by simp) ?_
    refine AllReadyH.cons (by simp only [List.getElem?_toArray, List.getElem?_cons_succ, List.getElem?_cons_zero]; rfl) (fun K hK => ?_) (AllReadyH.nil)
    go_simp
    refine hK.out _ _ (by exact ⟨(HCg.out _ (by (repeat (first | exact HB.out | exact Below.refl _ _ | refine Below.drew ?_ | refine below_dN' ?_ _ | refine below_drewN' ?_ _ | refine Below.alloc ?_ (by first | exact HB.out.size | simp) _)))).1, (HCg.out _ (by (repeat (first | exact HB.out | exact Below.refl _ _ | refine Below.drew ?_ | refine below_dN' ?_ _ | refine below_drewN' ?_ _ | refine Below.alloc ?_ (by first | exact HB.out.size | simp) _)))).2.1⟩) (fun hHeldz16 => ?_)
    clear hK K hHeldz11
    try simp only [Act.put, List.setIfInBounds_toArray, List.set_cons_zero, List.set_cons_succ]
    refine wpAnyH_ready (rs := [16]) (by kernel_rfl) (by simp) ?_
    refine AllReadyH.cons (by simp only [List.getElem?_toArray, List.getElem?_cons_succ, List.getElem?_cons_zero]; rfl) (fun K hK => ?_) (AllReadyH.nil)
    ((first | (refine step_store_but (o := ⟨none, _, _, _, _, _⟩) rfl 90 (.tmp 8) (.tmp 45) rfl W6.heap.size 90 (rv 0 0 0 ⟨#[]⟩ 0) (rv k u nn sv m) (by kernel_rfl) (by kernel_rfl) (heap_alloc_new W6 _) (rv_size _ _ _ _ _) rfl (rv_one _ _ _ _ _) ?_) | (refine step_store_but (o := ⟨none, _, _, _, _, _⟩) rfl 90 (.tmp 8) (.tmp 45) rfl W1.heap.size 90 (rv 0 0 0 ⟨#[]⟩ 0) (rv k u nn sv m) (by kernel_rfl) (by kernel_rfl) HZ6.out (rv_size _ _ _ _ _) rfl (rv_one _ _ _ _ _) ?_)); intro W8 HG8 HB8; (have HBB : Hid (Below W1.heap.size W1 W8) := Below.trans (B := W1.heap.size) (by (repeat (first | exact HB.out | exact Below.refl _ _ | refine Below.drew ?_ | refine below_dN' ?_ _ | refine below_drewN' ?_ _ | refine Below.alloc ?_ (by first | exact HB.out.size | simp) _))) (HB8.out.below (by first | exact Nat.le_refl _ | exact HB.out.size | (simp; exact Nat.le_succ_of_le HB.out.size)) (fun i hi => by subst hi; first | exact Nat.le_refl _ | exact HB.out.size)))); clear HB; have HB := HBB; clear HBB
    refine hK.out _ _ (by exact ⟨(HCg.out _ (by (repeat (first | exact HB.out | exact Below.refl _ _ | refine Below.drew ?_ | refine below_dN' ?_ _ | refine below_drewN' ?_ _ | refine Below.alloc ?_ (by first | exact HB.out.size | simp) _)))).1, (HCg.out _ (by (repeat (first | exact HB.out | exact Below.refl _ _ | refine Below.drew ?_ | refine below_dN' ?_ _ | refine below_drewN' ?_ _ | refine Below.alloc ?_ (by first | exact HB.out.size | simp) _)))).2.1⟩) (fun hHeldz17 => ?_)
    clear hK K hHeldz16
    try simp only [Act.put, List.setIfInBounds_toArray, List.set_cons_zero, List.set_cons_succ]
    refine wpAnyH_take (i := 17) (v := ?z18v) (by simp only [List.getElem?_toArray, List.getElem?_cons_succ, List.getElem?_cons_zero]; rfl) (by kernel_rfl) (by kernel_rfl) (by kernel_rfl) (by exact fun _ _ _ h => h) (Or.inl ⟨by rfl, ?z18y⟩) (by assumption) ?z18r
    case z18y => (intro w hSw; (try dsimp only at hSw); go_simp; try (with_reducible rfl))
    try simp only [Act.put, List.setIfInBounds_toArray, List.set_cons_zero, List.set_cons_succ]
    refine wpAnyH_take (i := 18) (v := ?z19v) (by simp only [List.getElem?_toArray, List.getElem?_cons_succ, List.getElem?_cons_zero]; rfl) (by kernel_rfl) (by kernel_rfl) (by kernel_rfl) (by exact fun _ _ _ h => h) (Or.inl ⟨by rfl, ?z19y⟩) (by assumption) ?z19r
    case z19y => (intro w hSw; (try dsimp only at hSw); go_simp; try (with_reducible rfl))
    try simp only [Act.put, List.setIfInBounds_toArray, List.set_cons_zero, List.set_cons_succ]
    refine wpAnyH_done (by kernel_rfl) ?_ _
    clear c0 c1 c2 c3
    obtain ⟨c0, c1, c2, c3⟩ := HCg.out W8 HB.out
    obtain ⟨H1, H2, H3⟩ := HHg.out W8 HB.out
    have HH1 := Lib.hid H1
    have HH2 := Lib.hid H2
    have HH3 := Lib.hid H3
    clear H1 H2 H3
    go_wp2_with (first | ((with_reducible refine wpList_store_at1 (o := ⟨none, _, _, _, _, _⟩) rfl 29 (.tmp 53) (.tmp 51) rfl g 101 3 (#[.slice A n c, .int .i64 s.1, .int .i64 pv, .int .i64 s.2]) (.int .i64 er) (by kernel_rfl) rfl HH1.out (lt_rf (by decide)) Tryz.sizeEr (by kernel_rfl) ?_); intro W5 HG5 HB5; (have HK7 := Lib.hid ((HB5.out.block (w.heap.size + 1) (lt_of_block HH3.out) (by have := HGL.out; omega)).trans HH3.out)); (have HK6 := Lib.hid ((HB5.out.block w.heap.size (lt_of_block HH2.out) (by have := HGL.out; omega)).trans HH2.out)); clear c0 c1 c2 c3) | (with_reducible refine wpList_load_row (o := ⟨some 54, _, _, _, _, _⟩) rfl 90 (.tmp 7) rfl (w.heap.size + 1) rfl 90 (rv k 0 0 ⟨#[]⟩ m) _ _ HK7.out Tryz.underlying90 rfl (rv_size _ _ _ _ _) ?_) | ((with_reducible refine wpList_store_but (o := ⟨none, _, _, _, _, _⟩) rfl 90 (.tmp 6) (.tmp 54) rfl w.heap.size 90 (rv 0 0 0 ⟨#[]⟩ 0) (rv k 0 0 ⟨#[]⟩ m) rfl rfl HK6.out (rv_size _ _ _ _ _) rfl (rv_one _ _ _ _ _) ?_); intro W7 HG7z HB7))
    have hA : Below w.heap.size w W8 := HB1.out.trans (HB.out.mono HB1.out.size)
    have hC : But (fun k => k = g) w W7 := ((But.of_below (p := fun k => k = g) hA).trans HB5.out (fun i hi => .inl hi)).trans HB7.out (fun i hi => .inr (by subst hi; exact Nat.le_refl _))
    refine bodyPost_ret (results_cell_row rfl _ _ _ _ _ _ _ rfl HG7z.out Tryz.underlying90 rfl (rv_size _ _ _ _ _)) rfl ⟨rfl, ⟨⟨pv, (HB7.out.block g (lt_of_block HG5.out) (by have := HGL.out; omega)).trans HG5.out⟩, HX.out.butg hC (Nat.le_of_lt HGL.out)⟩, hC⟩
  · go_simp
    refine hK.out _ _ (by exact ⟨(HCg.out _ (by (repeat (first | exact HB.out | exact Below.refl _ _ | refine Below.drew ?_ | refine below_dN' ?_ _ | refine below_drewN' ?_ _ | refine Below.alloc ?_ (by first | exact HB.out.size | simp) _)))).1, (HCg.out _ (by (repeat (first | exact HB.out | exact Below.refl _ _ | refine Below.drew ?_ | refine below_dN' ?_ _ | refine below_drewN' ?_ _ | refine Below.alloc ?_ (by first | exact HB.out.size | simp) _)))).2.1⟩) (fun hHeldz20 => ?_)
    clear hK K hHeld
    try simp only [Act.put, List.setIfInBounds_toArray, List.set_cons_zero, List.set_cons_succ]
    refine wpAnyH_ready (rs := [10]) (by kernel_rfl) (by simp) ?_
    refine AllReadyH.cons (by simp only [List.getElem?_toArray, List.getElem?_cons_succ, List.getElem?_cons_zero]; rfl) (fun K hK => ?_) (AllReadyH.nil)
    (go_simp; go_at_call 94; (with_reducible refine (HCX.out _ (by (repeat (first | exact HB.out | exact Below.refl _ _ | refine Below.drew ?_ | refine below_dN' ?_ _ | refine below_drewN' ?_ _ | refine Below.alloc ?_ (by first | exact HB.out.size | simp) _)))).mono ?_); rintro e W6 ⟨rfl, b6⟩; (have HBB : Hid (Below W1.heap.size W1 W6) := Below.trans (by (repeat (first | exact HB.out | exact Below.refl _ _ | refine Below.drew ?_ | refine below_dN' ?_ _ | refine below_drewN' ?_ _ | refine Below.alloc ?_ (by first | exact HB.out.size | simp) _))) (b6.mono (by first | exact Nat.le_refl _ | (simp <;> omega)))); (first | (have HZ6 : Hid (W6.heap[W1.heap.size]? = some (.cells (rv 0 0 0 ⟨#[]⟩ 0) 90 (0, 0))) := (b6.block _ (by simp)).trans (by first | exact heap_alloc_new _ _)) | skip); (have HBW : Hid (W1.heap.size ≤ W6.heap.size) := HBB.out.size); clear b6 HB; have HB := HBB; clear HBB; go_wp2_with fail)
    refine hK.out _ _ (by exact ⟨(HCg.out _ (by (repeat (first | exact HB.out | exact Below.refl _ _ | refine Below.drew ?_ | refine below_dN' ?_ _ | refine below_drewN' ?_ _ | refine Below.alloc ?_ (by first | exact HB.out.size | simp) _)))).1, (HCg.out _ (by (repeat (first | exact HB.out | exact Below.refl _ _ | refine Below.drew ?_ | refine below_dN' ?_ _ | refine below_drewN' ?_ _ | refine Below.alloc ?_ (by first | exact HB.out.size | simp) _)))).2.1⟩) (fun hHeldz21 => ?_)
    clear hK K hHeldz20
    try simp only [Act.put, List.setIfInBounds_toArray, List.set_cons_zero, List.set_cons_succ]
    refine wpAnyH_take (i := 11) (v := ?z22v) (by simp only [List.getElem?_toArray, List.getElem?_cons_succ, List.getElem?_cons_zero]; rfl) (by kernel_rfl) (by kernel_rfl) (by kernel_rfl) (by exact fun _ _ _ h => h) (Or.inl ⟨by rfl, ?z22y⟩) (by assumption) ?z22r
    case z22y => (intro w hSw; (try dsimp only at hSw); go_simp; try (with_reducible rfl))
    try simp only [Act.put, List.setIfInBounds_toArray, List.set_cons_zero, List.set_cons_succ]
    refine wpAnyH_take (i := 12) (v := ?z23v) (by simp only [List.getElem?_toArray, List.getElem?_cons_succ, List.getElem?_cons_zero]; rfl) (by kernel_rfl) (by kernel_rfl) (by kernel_rfl) (by exact fun _ _ _ h => h) (Or.inl ⟨by rfl, ?z23y⟩) (by assumption) ?z23r
    case z23y => (intro w hSw; (try dsimp only at hSw); go_simp; try (with_reducible rfl))
    try simp only [Act.put, List.setIfInBounds_toArray, List.set_cons_zero, List.set_cons_succ]
    refine wpAnyH_take (i := 13) (v := ?z24v) (by simp only [List.getElem?_toArray, List.getElem?_cons_succ, List.getElem?_cons_zero]; rfl) (by kernel_rfl) (by kernel_rfl) (by kernel_rfl) (by exact fun _ _ _ h => h) (Or.inl ⟨by rfl, ?z24y⟩) (by assumption) ?z24r
    case z24y => (intro w hSw; (try dsimp only at hSw); go_simp; try (with_reducible rfl))
    try simp only [Act.put, List.setIfInBounds_toArray, List.set_cons_zero, List.set_cons_succ]
    refine wpAnyH_take (i := 14) (v := ?z25v) (by simp only [List.getElem?_toArray, List.getElem?_cons_succ, List.getElem?_cons_zero]; rfl) (by kernel_rfl) (by kernel_rfl) (by kernel_rfl) (by exact fun _ _ _ h => h) (Or.inl ⟨by rfl, ?z25y⟩) (by assumption) ?z25r
    case z25y => (intro w hSw; (try dsimp only at hSw); go_simp; try (with_reducible rfl))
    try simp only [Act.put, List.setIfInBounds_toArray, List.set_cons_zero, List.set_cons_succ]
    refine wpAnyH_ready (rs := [16]) (by kernel_rfl) (by simp) ?_
    refine AllReadyH.cons (by simp only [List.getElem?_toArray, List.getElem?_cons_succ, List.getElem?_cons_zero]; rfl) (fun K hK => ?_) (AllReadyH.nil)
    ((first | (refine step_store_but (o := ⟨none, _, _, _, _, _⟩) rfl 90 (.tmp 8) (.tmp 45) rfl W6.heap.size 90 (rv 0 0 0 ⟨#[]⟩ 0) (rv k u nn sv m) (by kernel_rfl) (by kernel_rfl) (heap_alloc_new W6 _) (rv_size _ _ _ _ _) rfl (rv_one _ _ _ _ _) ?_) | (refine step_store_but (o := ⟨none, _, _, _, _, _⟩) rfl 90 (.tmp 8) (.tmp 45) rfl W1.heap.size 90 (rv 0 0 0 ⟨#[]⟩ 0) (rv k u nn sv m) (by kernel_rfl) (by kernel_rfl) HZ6.out (rv_size _ _ _ _ _) rfl (rv_one _ _ _ _ _) ?_)); intro W8 HG8 HB8; (have HBB : Hid (Below W1.heap.size W1 W8) := Below.trans (B := W1.heap.size) (by (repeat (first | exact HB.out | exact Below.refl _ _ | refine Below.drew ?_ | refine below_dN' ?_ _ | refine below_drewN' ?_ _ | refine Below.alloc ?_ (by first | exact HB.out.size | simp) _))) (HB8.out.below (by first | exact Nat.le_refl _ | exact HB.out.size | (simp; exact Nat.le_succ_of_le HB.out.size)) (fun i hi => by subst hi; first | exact Nat.le_refl _ | exact HB.out.size)))); clear HB; have HB := HBB; clear HBB
    refine hK.out _ _ (by exact ⟨(HCg.out _ (by (repeat (first | exact HB.out | exact Below.refl _ _ | refine Below.drew ?_ | refine below_dN' ?_ _ | refine below_drewN' ?_ _ | refine Below.alloc ?_ (by first | exact HB.out.size | simp) _)))).1, (HCg.out _ (by (repeat (first | exact HB.out | exact Below.refl _ _ | refine Below.drew ?_ | refine below_dN' ?_ _ | refine below_drewN' ?_ _ | refine Below.alloc ?_ (by first | exact HB.out.size | simp) _)))).2.1⟩) (fun hHeldz26 => ?_)
    clear hK K hHeldz21
    try simp only [Act.put, List.setIfInBounds_toArray, List.set_cons_zero, List.set_cons_succ]
    refine wpAnyH_take (i := 17) (v := ?z27v) (by simp only [List.getElem?_toArray, List.getElem?_cons_succ, List.getElem?_cons_zero]; rfl) (by kernel_rfl) (by kernel_rfl) (by kernel_rfl) (by exact fun _ _ _ h => h) (Or.inl ⟨by rfl, ?z27y⟩) (by assumption) ?z27r
    case z27y => (intro w hSw; (try dsimp only at hSw); go_simp; try (with_reducible rfl))
    try simp only [Act.put, List.setIfInBounds_toArray, List.set_cons_zero, List.set_cons_succ]
    refine wpAnyH_take (i := 18) (v := ?z28v) (by simp only [List.getElem?_toArray, List.getElem?_cons_succ, List.getElem?_cons_zero]; rfl) (by kernel_rfl) (by kernel_rfl) (by kernel_rfl) (by exact fun _ _ _ h => h) (Or.inl ⟨by rfl, ?z28y⟩) (by assumption) ?z28r
    case z28y => (intro w hSw; (try dsimp only at hSw); go_simp; try (with_reducible rfl))
    try simp only [Act.put, List.setIfInBounds_toArray, List.set_cons_zero, List.set_cons_succ]
    refine wpAnyH_done (by kernel_rfl) ?_ _
    clear c0 c1 c2 c3
    obtain ⟨c0, c1, c2, c3⟩ := HCg.out W8 HB.out
    obtain ⟨H1, H2, H3⟩ := HHg.out W8 HB.out
    have HH1 := Lib.hid H1
    have HH2 := Lib.hid H2
    have HH3 := Lib.hid H3
    clear H1 H2 H3
    go_wp2_with (first | ((with_reducible refine wpList_store_at1 (o := ⟨none, _, _, _, _, _⟩) rfl 29 (.tmp 53) (.tmp 51) rfl g 101 3 (#[.slice A n c, .int .i64 s.1, .int .i64 pv, .int .i64 s.2]) (.int .i64 er) (by kernel_rfl) rfl HH1.out (lt_rf (by decide)) Tryz.sizeEr (by kernel_rfl) ?_); intro W5 HG5 HB5; (have HK7 := Lib.hid ((HB5.out.block (w.heap.size + 1) (lt_of_block HH3.out) (by have := HGL.out; omega)).trans HH3.out)); (have HK6 := Lib.hid ((HB5.out.block w.heap.size (lt_of_block HH2.out) (by have := HGL.out; omega)).trans HH2.out)); clear c0 c1 c2 c3) | (with_reducible refine wpList_load_row (o := ⟨some 54, _, _, _, _, _⟩) rfl 90 (.tmp 7) rfl (w.heap.size + 1) rfl 90 (rv k 0 0 ⟨#[]⟩ m) _ _ HK7.out Tryz.underlying90 rfl (rv_size _ _ _ _ _) ?_) | ((with_reducible refine wpList_store_but (o := ⟨none, _, _, _, _, _⟩) rfl 90 (.tmp 6) (.tmp 54) rfl w.heap.size 90 (rv 0 0 0 ⟨#[]⟩ 0) (rv k 0 0 ⟨#[]⟩ m) rfl rfl HK6.out (rv_size _ _ _ _ _) rfl (rv_one _ _ _ _ _) ?_); intro W7 HG7z HB7))
    have hA : Below w.heap.size w W8 := HB1.out.trans (HB.out.mono HB1.out.size)
    have hC : But (fun k => k = g) w W7 := ((But.of_below (p := fun k => k = g) hA).trans HB5.out (fun i hi => .inl hi)).trans HB7.out (fun i hi => .inr (by subst hi; exact Nat.le_refl _))
    refine bodyPost_ret (results_cell_row rfl _ _ _ _ _ _ _ rfl HG7z.out Tryz.underlying90 rfl (rv_size _ _ _ _ _)) rfl ⟨rfl, ⟨⟨pv, (HB7.out.block g (lt_of_block HG5.out) (by have := HGL.out; omega)).trans HG5.out⟩, HX.out.butg hC (Nat.le_of_lt HGL.out)⟩, hC⟩
set_option maxRecDepth 100000 in
set_option maxHeartbeats 8000000 in
theorem rd52_ok (u nn : Int) (sv : ByteArray) (q : Nat) (er : Int) (k m : Int) (hk : k ≠ 0) (g : Nat) (A : Option Addr) (n c : Nat) (bs : List Int) (s : RS) (w : World) (hr : RfS g A n c bs s w) (he : s.2 = 0) (her : er = 0) (HC : ∀ V, Sl fB V g A n bs → g ≤ V.heap.size → Calls Tryz.prog 94 #[.slice A n c, .int .i64 s.1, .int .i64 k, .int .i64 m] V (RdP k u nn sv m q er V)) :
    Calls Tryz.prog 52 #[.pointer (some ⟨g, 0, none⟩), .int .i64 k, .int .i64 m] w (RfPost g A n c bs (.agg (rv k u nn sv m)) (q, 0) w) := by
  obtain ⟨⟨pv, hg0⟩, hx⟩ := hr
  have hgl := lt_of_block hg0
  obtain ⟨hb1, hg6, hg7, hs1⟩ := bxW_facts w k m
  obtain ⟨W1, hW1⟩ : ∃ W1, bxW w k m = W1 := ⟨_, rfl⟩
  rw [hW1] at hb1 hg6 hg7 hs1
  have hgR := (hb1.block _ hgl).trans hg0
  have HGL := Lib.hid hgl
  have HB1 := Lib.hid hb1
  have HG6 := Lib.hid hg6
  have HG7 := Lib.hid hg7
  have HGR := Lib.hid hgR
  have HS1 := Lib.hid hs1
  have HWE : Hid (W1 = (w.alloc (.cells (rv 0 0 0 ⟨#[]⟩ 0) 90)).alloc (.cells (rv k 0 0 ⟨#[]⟩ m) 90)) := hW1.symm
  have HX1 := Lib.hid (hx.up hb1 (Nat.le_of_lt hgl))
  have HX := Lib.hid hx
  have HCg : Hid (∀ V, Below W1.heap.size W1 V → V.cell? ⟨g, 0, none⟩ = some (.slice A n c) ∧ V.cell? ⟨g, 1, none⟩ = some (.int .i64 s.1) ∧ V.cell? ⟨g, 2, none⟩ = some (.int .i64 pv) ∧ V.cell? ⟨g, 3, none⟩ = some (.int .i64 s.2)) := fun V hb => by
    have q := (hb.block g (by omega)).trans hgR
    refine ⟨?_, ?_, ?_, ?_⟩ <;> (rw [cell_of_row V _ _ _ _ _ q]; rfl)
  have HHg : Hid (∀ V, Below W1.heap.size W1 V → V.heap[g]? = some (.cells #[.slice A n c, .int .i64 s.1, .int .i64 pv, .int .i64 s.2] 101 (0, 0)) ∧ V.heap[w.heap.size]? = some (.cells (rv 0 0 0 ⟨#[]⟩ 0) 90 (0, 0)) ∧ V.heap[w.heap.size + 1]? = some (.cells (rv k 0 0 ⟨#[]⟩ m) 90 (0, 0))) := fun V hb =>
    ⟨(hb.block g (by omega)).trans hgR, (hb.block _ (by omega)).trans hg6, (hb.block _ (by omega)).trans hg7⟩
  have heb : (s.2 != 0) = false := by simp [he]
  have hkb : (k == 0) = false := by simp [hk]
  subst her
  have HCX : Hid (∀ V, Below W1.heap.size W1 V → Calls Tryz.prog 94 #[.slice A n c, .int .i64 s.1, .int .i64 k, .int .i64 m] V (RdP k u nn sv m q 0 V)) := fun V hb => HC V (HX1.out.up hb (by omega)) (by have := hb.size; omega)
  obtain ⟨c0, c1, c2, c3⟩ := HCg.out W1 (Below.refl _ _)
  have HB : Hid (Below W1.heap.size W1 W1) := Below.refl _ _
  have HE : Hid (s.2 = 0) := he
  clear HC hx hg0 hb1 hg6 hg7 hs1 hgR hW1 hgl
  go_enter Tryz.func52, Tryz.ntmps52
  go_upto_region 2 with (with_reducible refine wpList_built (o := ⟨some 13, _, _, _, _, _⟩) rfl 90 rvP13 (by kernel_rfl) (rv k 0 0 ⟨#[]⟩ m) (rvB13 _ k m rfl rfl) ?_)
  rw [← HWE.out]
  go_upto_region 7 with fail
  refine wp_region_held_drew (S := (fun w' => w'.cell? ⟨g, 0, none⟩ = some (.slice A n c) ∧ w'.cell? ⟨g, 1, none⟩ = some (.int .i64 s.1))) (by kernel_rfl) (by exact ⟨(HCg.out _ (by (repeat (first | exact HB.out | exact Below.refl _ _ | refine Below.drew ?_ | refine below_dN' ?_ _ | refine below_drewN' ?_ _ | refine Below.alloc ?_ (by first | exact HB.out.size | simp) _)))).1, (HCg.out _ (by (repeat (first | exact HB.out | exact Below.refl _ _ | refine Below.drew ?_ | refine below_dN' ?_ _ | refine below_drewN' ?_ _ | refine Below.alloc ?_ (by first | exact HB.out.size | simp) _)))).2.1⟩) (fun hHeld => ?_)
  refine wpAnyH_take (i := 0) (v := ?z1v) (by simp only [List.getElem?_toArray, List.getElem?_cons_zero]; rfl) (by kernel_rfl) (by kernel_rfl) (by kernel_rfl) (by exact fun _ _ _ h => h) (Or.inl ⟨by rfl, ?z1y⟩) (by assumption) ?z1r
  case z1y => (intro w hSw; (try dsimp only at hSw); go_simp; try (with_reducible rfl))
  try simp only [Act.put, List.setIfInBounds_toArray, List.set_cons_zero, List.set_cons_succ]
  refine wpAnyH_take (i := 1) (v := ?z2v) (by simp only [List.getElem?_toArray, List.getElem?_cons_succ, List.getElem?_cons_zero]; rfl) (by kernel_rfl) (by kernel_rfl) (by kernel_rfl) (by exact fun _ _ _ h => h) (Or.inl ⟨by rfl, ?z2y⟩) (by assumption) ?z2r
  case z2y => (intro w hSw; (try dsimp only at hSw); go_simp; try (with_reducible rfl))
  try simp only [Act.put, List.setIfInBounds_toArray, List.set_cons_zero, List.set_cons_succ]
  refine wpAnyH_take (i := 2) (v := ?z3v) (by simp only [List.getElem?_toArray, List.getElem?_cons_succ, List.getElem?_cons_zero]; rfl) (by kernel_rfl) (by kernel_rfl) (by kernel_rfl) (by exact fun _ _ _ h => h) (Or.inl ⟨by rfl, ?z3y⟩) (by assumption) ?z3r
  case z3y => (intro w hSw; (try dsimp only at hSw); go_simp; try (with_reducible rfl))
  try simp only [Act.put, List.setIfInBounds_toArray, List.set_cons_zero, List.set_cons_succ]
  refine wpAnyH_take (i := 3) (v := ?z4v) (by simp only [List.getElem?_toArray, List.getElem?_cons_succ, List.getElem?_cons_zero]; rfl) (by kernel_rfl) (by kernel_rfl) (by kernel_rfl) (by exact fun _ _ _ h => h) (Or.inl ⟨by rfl, ?z4y⟩) (by assumption) ?z4r
  case z4y => (intro w hSw; (try dsimp only at hSw); go_simp; try (with_reducible rfl))
  try simp only [Act.put, List.setIfInBounds_toArray, List.set_cons_zero, List.set_cons_succ]
  refine wpAnyH_take (i := 4) (v := ?z5v) (by simp only [List.getElem?_toArray, List.getElem?_cons_succ, List.getElem?_cons_zero]; rfl) (by kernel_rfl) (by kernel_rfl) (by kernel_rfl) (by exact fun _ _ _ h => h) (Or.inl ⟨by rfl, ?z5y⟩) (by assumption) ?z5r
  case z5y => (intro w hSw; (try dsimp only at hSw); go_simp; try (with_reducible rfl))
  try simp only [Act.put, List.setIfInBounds_toArray, List.set_cons_zero, List.set_cons_succ]
  refine wpAnyH_take (i := 5) (v := ?z6v) (by simp only [List.getElem?_toArray, List.getElem?_cons_succ, List.getElem?_cons_zero]; rfl) (by kernel_rfl) (by kernel_rfl) (by kernel_rfl) (by exact fun _ _ _ h => h) (Or.inl ⟨by rfl, ?z6y⟩) (by assumption) ?z6r
  case z6y => (intro w hSw; (try dsimp only at hSw); go_simp; try (with_reducible rfl))
  try simp only [Act.put, List.setIfInBounds_toArray, List.set_cons_zero, List.set_cons_succ]
  refine wpAnyH_take (i := 6) (v := ?z7v) (by simp only [List.getElem?_toArray, List.getElem?_cons_succ, List.getElem?_cons_zero]; rfl) (by kernel_rfl) (by kernel_rfl) (by kernel_rfl) (by exact fun _ _ _ h => h) (Or.inl ⟨by rfl, ?z7y⟩) (by assumption) ?z7r
  case z7y => (intro w hSw; (try dsimp only at hSw); go_simp; try (with_reducible rfl))
  try simp only [Act.put, List.setIfInBounds_toArray, List.set_cons_zero, List.set_cons_succ]
  refine wpAnyH_take (i := 7) (v := ?z8v) (by simp only [List.getElem?_toArray, List.getElem?_cons_succ, List.getElem?_cons_zero]; rfl) (by kernel_rfl) (by kernel_rfl) (by kernel_rfl) (by exact fun _ _ _ h => h) (Or.inl ⟨by rfl, ?z8y⟩) (by assumption) ?z8r
  case z8y => (intro w hSw; (try dsimp only at hSw); go_simp; try (with_reducible rfl))
  try simp only [Act.put, List.setIfInBounds_toArray, List.set_cons_zero, List.set_cons_succ]
  refine wpAnyH_take (i := 8) (v := ?z9v) (by simp only [List.getElem?_toArray, List.getElem?_cons_succ, List.getElem?_cons_zero]; rfl) (by kernel_rfl) (by kernel_rfl) (by kernel_rfl) (by exact fun _ _ _ h => h) (Or.inl ⟨by rfl, ?z9y⟩) (by assumption) ?z9r
  case z9y => (intro w hSw; (try dsimp only at hSw); go_simp; try (with_reducible rfl))
  try simp only [Act.put, List.setIfInBounds_toArray, List.set_cons_zero, List.set_cons_succ]
  refine wpAnyH_take (i := 9) (v := ?z10v) (by simp only [List.getElem?_toArray, List.getElem?_cons_succ, List.getElem?_cons_zero]; rfl) (by kernel_rfl) (by kernel_rfl) (by kernel_rfl) (by exact fun _ _ _ h => h) (Or.inl ⟨by rfl, ?z10y⟩) (by assumption) ?z10r
  case z10y => (intro w hSw; (try dsimp only at hSw); go_simp; try (with_reducible rfl))
  try simp only [Act.put, List.setIfInBounds_toArray, List.set_cons_zero, List.set_cons_succ]
  refine wpAnyH_ready (rs := [10, 15]) (by kernel_rfl) (by simp) ?_
  refine AllReadyH.cons (by simp only [List.getElem?_toArray, List.getElem?_cons_succ, List.getElem?_cons_zero]; rfl) (fun K hK => ?_) (AllReadyH.cons (by simp only [List.getElem?_toArray, List.getElem?_cons_succ, List.getElem?_cons_zero]; rfl) (fun K hK => ?_) (AllReadyH.nil))
  · (go_simp; go_at_call 94; (with_reducible refine (HCX.out _ (by (repeat (first | exact HB.out | exact Below.refl _ _ | refine Below.drew ?_ | refine below_dN' ?_ _ | refine below_drewN' ?_ _ | refine Below.alloc ?_ (by first | exact HB.out.size | simp) _)))).mono ?_); rintro e W6 ⟨rfl, b6⟩; (have HBB : Hid (Below W1.heap.size W1 W6) := Below.trans (by (repeat (first | exact HB.out | exact Below.refl _ _ | refine Below.drew ?_ | refine below_dN' ?_ _ | refine below_drewN' ?_ _ | refine Below.alloc ?_ (by first | exact HB.out.size | simp) _))) (b6.mono (by first | exact Nat.le_refl _ | (simp <;> omega)))); (first | (have HZ6 : Hid (W6.heap[W1.heap.size]? = some (.cells (rv 0 0 0 ⟨#[]⟩ 0) 90 (0, 0))) := (b6.block _ (by simp)).trans (by first | exact heap_alloc_new _ _)) | skip); (have HBW : Hid (W1.heap.size ≤ W6.heap.size) := HBB.out.size); clear b6 HB; have HB := HBB; clear HBB; go_wp2_with fail)
    refine hK.out _ _ (by exact ⟨(HCg.out _ (by (repeat (first | exact HB.out | exact Below.refl _ _ | refine Below.drew ?_ | refine below_dN' ?_ _ | refine below_drewN' ?_ _ | refine Below.alloc ?_ (by first | exact HB.out.size | simp) _)))).1, (HCg.out _ (by (repeat (first | exact HB.out | exact Below.refl _ _ | refine Below.drew ?_ | refine below_dN' ?_ _ | refine below_drewN' ?_ _ | refine Below.alloc ?_ (by first | exact HB.out.size | simp) _)))).2.1⟩) (fun hHeldz11 => ?_)
    clear hK K hHeld
    try simp only [Act.put, List.setIfInBounds_toArray, List.set_cons_zero, List.set_cons_succ]
    refine wpAnyH_take (i := 11) (v := ?z12v) (by simp only [List.getElem?_toArray, List.getElem?_cons_succ, List.getElem?_cons_zero]; rfl) (by kernel_rfl) (by kernel_rfl) (by kernel_rfl) (by exact fun _ _ _ h => h) (Or.inl ⟨by rfl, ?z12y⟩) (by assumption) ?z12r
    case z12y => (intro w hSw; (try dsimp only at hSw); go_simp; try (with_reducible rfl))
    try simp only [Act.put, List.setIfInBounds_toArray, List.set_cons_zero, List.set_cons_succ]
    refine wpAnyH_take (i := 12) (v := ?z13v) (by simp only [List.getElem?_toArray, List.getElem?_cons_succ, List.getElem?_cons_zero]; rfl) (by kernel_rfl) (by kernel_rfl) (by kernel_rfl) (by exact fun _ _ _ h => h) (Or.inl ⟨by rfl, ?z13y⟩) (by assumption) ?z13r
    case z13y => (intro w hSw; (try dsimp only at hSw); go_simp; try (with_reducible rfl))
    try simp only [Act.put, List.setIfInBounds_toArray, List.set_cons_zero, List.set_cons_succ]
    refine wpAnyH_take (i := 13) (v := ?z14v) (by simp only [List.getElem?_toArray, List.getElem?_cons_succ, List.getElem?_cons_zero]; rfl) (by kernel_rfl) (by kernel_rfl) (by kernel_rfl) (by exact fun _ _ _ h => h) (Or.inl ⟨by rfl, ?z14y⟩) (by assumption) ?z14r
    case z14y => (intro w hSw; (try dsimp only at hSw); go_simp; try (with_reducible rfl))
    try simp only [Act.put, List.setIfInBounds_toArray, List.set_cons_zero, List.set_cons_succ]
    refine wpAnyH_take (i := 14) (v := ?z15v) (by simp only [List.getElem?_toArray, List.getElem?_cons_succ, List.getElem?_cons_zero]; rfl) (by kernel_rfl) (by kernel_rfl) (by kernel_rfl) (by exact fun _ _ _ h => h) (Or.inl ⟨by rfl, ?z15y⟩) (by assumption) ?z15r
    case z15y => (intro w hSw; (try dsimp only at hSw); go_simp; try (with_reducible rfl))
    try simp only [Act.put, List.setIfInBounds_toArray, List.set_cons_zero, List.set_cons_succ]
    refine wpAnyH_ready (rs := [15]) (by kernel_rfl) (by simp) ?_
    refine AllReadyH.cons (by simp only [List.getElem?_toArray, List.getElem?_cons_succ, List.getElem?_cons_zero]; rfl) (fun K hK => ?_) (AllReadyH.nil)
    go_simp
    refine hK.out _ _ (by exact ⟨(HCg.out _ (by (repeat (first | exact HB.out | exact Below.refl _ _ | refine Below.drew ?_ | refine below_dN' ?_ _ | refine below_drewN' ?_ _ | refine Below.alloc ?_ (by first | exact HB.out.size | simp) _)))).1, (HCg.out _ (by (repeat (first | exact HB.out | exact Below.refl _ _ | refine Below.drew ?_ | refine below_dN' ?_ _ | refine below_drewN' ?_ _ | refine Below.alloc ?_ (by first | exact HB.out.size | simp) _)))).2.1⟩) (fun hHeldz16 => ?_)
    clear hK K hHeldz11
    try simp only [Act.put, List.setIfInBounds_toArray, List.set_cons_zero, List.set_cons_succ]
    refine wpAnyH_ready (rs := [16]) (by kernel_rfl) (by simp) ?_
    refine AllReadyH.cons (by simp only [List.getElem?_toArray, List.getElem?_cons_succ, List.getElem?_cons_zero]; rfl) (fun K hK => ?_) (AllReadyH.nil)
    ((first | (refine step_store_but (o := ⟨none, _, _, _, _, _⟩) rfl 90 (.tmp 8) (.tmp 45) rfl W6.heap.size 90 (rv 0 0 0 ⟨#[]⟩ 0) (rv k u nn sv m) (by kernel_rfl) (by kernel_rfl) (heap_alloc_new W6 _) (rv_size _ _ _ _ _) rfl (rv_one _ _ _ _ _) ?_) | (refine step_store_but (o := ⟨none, _, _, _, _, _⟩) rfl 90 (.tmp 8) (.tmp 45) rfl W1.heap.size 90 (rv 0 0 0 ⟨#[]⟩ 0) (rv k u nn sv m) (by kernel_rfl) (by kernel_rfl) HZ6.out (rv_size _ _ _ _ _) rfl (rv_one _ _ _ _ _) ?_)); intro W8 HG8 HB8; (have HBB : Hid (Below W1.heap.size W1 W8) := Below.trans (B := W1.heap.size) (by (repeat (first | exact HB.out | exact Below.refl _ _ | refine Below.drew ?_ | refine below_dN' ?_ _ | refine below_drewN' ?_ _ | refine Below.alloc ?_ (by first | exact HB.out.size | simp) _))) (HB8.out.below (by first | exact Nat.le_refl _ | exact HB.out.size | (simp; exact Nat.le_succ_of_le HB.out.size)) (fun i hi => by subst hi; first | exact Nat.le_refl _ | exact HB.out.size)))); clear HB; have HB := HBB; clear HBB
    refine hK.out _ _ (by exact ⟨(HCg.out _ (by (repeat (first | exact HB.out | exact Below.refl _ _ | refine Below.drew ?_ | refine below_dN' ?_ _ | refine below_drewN' ?_ _ | refine Below.alloc ?_ (by first | exact HB.out.size | simp) _)))).1, (HCg.out _ (by (repeat (first | exact HB.out | exact Below.refl _ _ | refine Below.drew ?_ | refine below_dN' ?_ _ | refine below_drewN' ?_ _ | refine Below.alloc ?_ (by first | exact HB.out.size | simp) _)))).2.1⟩) (fun hHeldz17 => ?_)
    clear hK K hHeldz16
    try simp only [Act.put, List.setIfInBounds_toArray, List.set_cons_zero, List.set_cons_succ]
    refine wpAnyH_take (i := 17) (v := ?z18v) (by simp only [List.getElem?_toArray, List.getElem?_cons_succ, List.getElem?_cons_zero]; rfl) (by kernel_rfl) (by kernel_rfl) (by kernel_rfl) (by exact fun _ _ _ h => h) (Or.inl ⟨by rfl, ?z18y⟩) (by assumption) ?z18r
    case z18y => (intro w hSw; (try dsimp only at hSw); go_simp; try (with_reducible rfl))
    try simp only [Act.put, List.setIfInBounds_toArray, List.set_cons_zero, List.set_cons_succ]
    refine wpAnyH_take (i := 18) (v := ?z19v) (by simp only [List.getElem?_toArray, List.getElem?_cons_succ, List.getElem?_cons_zero]; rfl) (by kernel_rfl) (by kernel_rfl) (by kernel_rfl) (by exact fun _ _ _ h => h) (Or.inl ⟨by rfl, ?z19y⟩) (by assumption) ?z19r
    case z19y => (intro w hSw; (try dsimp only at hSw); go_simp; try (with_reducible rfl))
    try simp only [Act.put, List.setIfInBounds_toArray, List.set_cons_zero, List.set_cons_succ]
    refine wpAnyH_done (by kernel_rfl) ?_ _
    clear c0 c1 c2 c3
    obtain ⟨c0, c1, c2, c3⟩ := HCg.out W8 HB.out
    obtain ⟨H1, H2, H3⟩ := HHg.out W8 HB.out
    have HH1 := Lib.hid H1
    have HH2 := Lib.hid H2
    clear H1 H2 H3
    go_wp2_with (first | ((with_reducible refine wpList_store_at1 (o := ⟨none, _, _, _, _, _⟩) rfl 3 (.tmp 63) (.tmp 60) rfl g 101 2 (#[.slice A n c, .int .i64 s.1, .int .i64 pv, .int .i64 s.2]) (.int .i64 s.1) (by kernel_rfl) rfl HH1.out (lt_rf (by decide)) Tryz.sizeI (by kernel_rfl) ?_); intro W4 HG4 HB4; (have HG4b : Hid (W4.heap[g]? = some (.cells #[.slice A n c, .int .i64 s.1, .int .i64 s.1, .int .i64 s.2] 101 (0, 0))) := HG4.out)) | ((with_reducible refine wpList_store_at1 (o := ⟨none, _, _, _, _, _⟩) rfl 3 (.tmp 65) (.tmp 61) rfl g 101 1 (#[.slice A n c, .int .i64 s.1, .int .i64 s.1, .int .i64 s.2]) (.int .i64 q) (by kernel_rfl) rfl HG4b.out (lt_rf (by decide)) Tryz.sizeI (by kernel_rfl) ?_); intro W5 HG5 HB5; (have HK6 := Lib.hid ((HB5.out.block w.heap.size (Nat.lt_of_lt_of_le (lt_of_block HH2.out) HB4.out.size) (by have := HGL.out; omega)).trans ((HB4.out.block w.heap.size (lt_of_block HH2.out) (by have := HGL.out; omega)).trans HH2.out))); (have HK8 := Lib.hid ((HB5.out.block _ (Nat.lt_of_lt_of_le (lt_of_block HG8.out) HB4.out.size) (by have := HGL.out; have := HS1.out; have := HB.out.size; have := HBW.out; omega)).trans ((HB4.out.block _ (lt_of_block HG8.out) (by have := HGL.out; have := HS1.out; have := HB.out.size; have := HBW.out; omega)).trans HG8.out))); clear c0 c1 c2 c3) | (with_reducible refine wpList_load_row (o := ⟨some 66, _, _, _, _, _⟩) rfl 90 (.tmp 8) rfl W6.heap.size rfl 90 (rv k u nn sv m) _ _ HK8.out Tryz.underlying90 rfl (rv_size _ _ _ _ _) ?_) | (with_reducible refine wpList_load_row (o := ⟨some 66, _, _, _, _, _⟩) rfl 90 (.tmp 8) rfl W1.heap.size rfl 90 (rv k u nn sv m) _ _ HK8.out Tryz.underlying90 rfl (rv_size _ _ _ _ _) ?_) | ((with_reducible refine wpList_store_but (o := ⟨none, _, _, _, _, _⟩) rfl 90 (.tmp 6) (.tmp 66) rfl w.heap.size 90 (rv 0 0 0 ⟨#[]⟩ 0) (rv k u nn sv m) rfl rfl HK6.out (rv_size _ _ _ _ _) rfl (rv_one _ _ _ _ _) ?_); intro W7 HG7z HB7))
    have hA : Below w.heap.size w W8 := HB1.out.trans (HB.out.mono HB1.out.size)
    have hC : But (fun k => k = g) w W7 := (((But.of_below (p := fun k => k = g) hA).trans HB4.out (fun i hi => .inl hi)).trans HB5.out (fun i hi => .inl hi)).trans HB7.out (fun i hi => .inr (by subst hi; exact Nat.le_refl _))
    have hG : W7.heap[g]? = some (.cells #[.slice A n c, .int .i64 q, .int .i64 s.1, .int .i64 s.2] 101 (0, 0)) := (HB7.out.block g (lt_of_block HG5.out) (by have := HGL.out; omega)).trans HG5.out
    rw [HE.out] at hG
    refine bodyPost_ret (results_cell_row rfl _ _ _ _ _ _ _ rfl HG7z.out Tryz.underlying90 rfl (rv_size _ _ _ _ _)) rfl ⟨rfl, ⟨⟨s.1, hG⟩, HX.out.butg hC (Nat.le_of_lt HGL.out)⟩, hC⟩
  · go_simp
    refine hK.out _ _ (by exact ⟨(HCg.out _ (by (repeat (first | exact HB.out | exact Below.refl _ _ | refine Below.drew ?_ | refine below_dN' ?_ _ | refine below_drewN' ?_ _ | refine Below.alloc ?_ (by first | exact HB.out.size | simp) _)))).1, (HCg.out _ (by (repeat (first | exact HB.out | exact Below.refl _ _ | refine Below.drew ?_ | refine below_dN' ?_ _ | refine below_drewN' ?_ _ | refine Below.alloc ?_ (by first | exact HB.out.size | simp) _)))).2.1⟩) (fun hHeldz20 => ?_)
    clear hK K hHeld
    try simp only [Act.put, List.setIfInBounds_toArray, List.set_cons_zero, List.set_cons_succ]
    refine wpAnyH_ready (rs := [10]) (by kernel_rfl) (by simp) ?_
    refine AllReadyH.cons (by simp only [List.getElem?_toArray, List.getElem?_cons_succ, List.getElem?_cons_zero]; rfl) (fun K hK => ?_) (AllReadyH.nil)
    (go_simp; go_at_call 94; (with_reducible refine (HCX.out _ (by (repeat (first | exact HB.out | exact Below.refl _ _ | refine Below.drew ?_ | refine below_dN' ?_ _ | refine below_drewN' ?_ _ | refine Below.alloc ?_ (by first | exact HB.out.size | simp) _)))).mono ?_); rintro e W6 ⟨rfl, b6⟩; (have HBB : Hid (Below W1.heap.size W1 W6) := Below.trans (by (repeat (first | exact HB.out | exact Below.refl _ _ | refine Below.drew ?_ | refine below_dN' ?_ _ | refine below_drewN' ?_ _ | refine Below.alloc ?_ (by first | exact HB.out.size | simp) _))) (b6.mono (by first | exact Nat.le_refl _ | (simp <;> omega)))); (first | (have HZ6 : Hid (W6.heap[W1.heap.size]? = some (.cells (rv 0 0 0 ⟨#[]⟩ 0) 90 (0, 0))) := (b6.block _ (by simp)).trans (by first | exact heap_alloc_new _ _)) | skip); (have HBW : Hid (W1.heap.size ≤ W6.heap.size) := HBB.out.size); clear b6 HB; have HB := HBB; clear HBB; go_wp2_with fail)
    refine hK.out _ _ (by exact ⟨(HCg.out _ (by (repeat (first | exact HB.out | exact Below.refl _ _ | refine Below.drew ?_ | refine below_dN' ?_ _ | refine below_drewN' ?_ _ | refine Below.alloc ?_ (by first | exact HB.out.size | simp) _)))).1, (HCg.out _ (by (repeat (first | exact HB.out | exact Below.refl _ _ | refine Below.drew ?_ | refine below_dN' ?_ _ | refine below_drewN' ?_ _ | refine Below.alloc ?_ (by first | exact HB.out.size | simp) _)))).2.1⟩) (fun hHeldz21 => ?_)
    clear hK K hHeldz20
    try simp only [Act.put, List.setIfInBounds_toArray, List.set_cons_zero, List.set_cons_succ]
    refine wpAnyH_take (i := 11) (v := ?z22v) (by simp only [List.getElem?_toArray, List.getElem?_cons_succ, List.getElem?_cons_zero]; rfl) (by kernel_rfl) (by kernel_rfl) (by kernel_rfl) (by exact fun _ _ _ h => h) (Or.inl ⟨by rfl, ?z22y⟩) (by assumption) ?z22r
    case z22y => (intro w hSw; (try dsimp only at hSw); go_simp; try (with_reducible rfl))
    try simp only [Act.put, List.setIfInBounds_toArray, List.set_cons_zero, List.set_cons_succ]
    refine wpAnyH_take (i := 12) (v := ?z23v) (by simp only [List.getElem?_toArray, List.getElem?_cons_succ, List.getElem?_cons_zero]; rfl) (by kernel_rfl) (by kernel_rfl) (by kernel_rfl) (by exact fun _ _ _ h => h) (Or.inl ⟨by rfl, ?z23y⟩) (by assumption) ?z23r
    case z23y => (intro w hSw; (try dsimp only at hSw); go_simp; try (with_reducible rfl))
    try simp only [Act.put, List.setIfInBounds_toArray, List.set_cons_zero, List.set_cons_succ]
    refine wpAnyH_take (i := 13) (v := ?z24v) (by simp only [List.getElem?_toArray, List.getElem?_cons_succ, List.getElem?_cons_zero]; rfl) (by kernel_rfl) (by kernel_rfl) (by kernel_rfl) (by exact fun _ _ _ h => h) (Or.inl ⟨by rfl, ?z24y⟩) (by assumption) ?z24r
    case z24y => (intro w hSw; (try dsimp only at hSw); go_simp; try (with_reducible rfl))
    try simp only [Act.put, List.setIfInBounds_toArray, List.set_cons_zero, List.set_cons_succ]
    refine wpAnyH_take (i := 14) (v := ?z25v) (by simp only [List.getElem?_toArray, List.getElem?_cons_succ, List.getElem?_cons_zero]; rfl) (by kernel_rfl) (by kernel_rfl) (by kernel_rfl) (by exact fun _ _ _ h => h) (Or.inl ⟨by rfl, ?z25y⟩) (by assumption) ?z25r
    case z25y => (intro w hSw; (try dsimp only at hSw); go_simp; try (with_reducible rfl))
    try simp only [Act.put, List.setIfInBounds_toArray, List.set_cons_zero, List.set_cons_succ]
    refine wpAnyH_ready (rs := [16]) (by kernel_rfl) (by simp) ?_
    refine AllReadyH.cons (by simp only [List.getElem?_toArray, List.getElem?_cons_succ, List.getElem?_cons_zero]; rfl) (fun K hK => ?_) (AllReadyH.nil)
    ((first | (refine step_store_but (o := ⟨none, _, _, _, _, _⟩) rfl 90 (.tmp 8) (.tmp 45) rfl W6.heap.size 90 (rv 0 0 0 ⟨#[]⟩ 0) (rv k u nn sv m) (by kernel_rfl) (by kernel_rfl) (heap_alloc_new W6 _) (rv_size _ _ _ _ _) rfl (rv_one _ _ _ _ _) ?_) | (refine step_store_but (o := ⟨none, _, _, _, _, _⟩) rfl 90 (.tmp 8) (.tmp 45) rfl W1.heap.size 90 (rv 0 0 0 ⟨#[]⟩ 0) (rv k u nn sv m) (by kernel_rfl) (by kernel_rfl) HZ6.out (rv_size _ _ _ _ _) rfl (rv_one _ _ _ _ _) ?_)); intro W8 HG8 HB8; (have HBB : Hid (Below W1.heap.size W1 W8) := Below.trans (B := W1.heap.size) (by (repeat (first | exact HB.out | exact Below.refl _ _ | refine Below.drew ?_ | refine below_dN' ?_ _ | refine below_drewN' ?_ _ | refine Below.alloc ?_ (by first | exact HB.out.size | simp) _))) (HB8.out.below (by first | exact Nat.le_refl _ | exact HB.out.size | (simp; exact Nat.le_succ_of_le HB.out.size)) (fun i hi => by subst hi; first | exact Nat.le_refl _ | exact HB.out.size)))); clear HB; have HB := HBB; clear HBB
    refine hK.out _ _ (by exact ⟨(HCg.out _ (by (repeat (first | exact HB.out | exact Below.refl _ _ | refine Below.drew ?_ | refine below_dN' ?_ _ | refine below_drewN' ?_ _ | refine Below.alloc ?_ (by first | exact HB.out.size | simp) _)))).1, (HCg.out _ (by (repeat (first | exact HB.out | exact Below.refl _ _ | refine Below.drew ?_ | refine below_dN' ?_ _ | refine below_drewN' ?_ _ | refine Below.alloc ?_ (by first | exact HB.out.size | simp) _)))).2.1⟩) (fun hHeldz26 => ?_)
    clear hK K hHeldz21
    try simp only [Act.put, List.setIfInBounds_toArray, List.set_cons_zero, List.set_cons_succ]
    refine wpAnyH_take (i := 17) (v := ?z27v) (by simp only [List.getElem?_toArray, List.getElem?_cons_succ, List.getElem?_cons_zero]; rfl) (by kernel_rfl) (by kernel_rfl) (by kernel_rfl) (by exact fun _ _ _ h => h) (Or.inl ⟨by rfl, ?z27y⟩) (by assumption) ?z27r
    case z27y => (intro w hSw; (try dsimp only at hSw); go_simp; try (with_reducible rfl))
    try simp only [Act.put, List.setIfInBounds_toArray, List.set_cons_zero, List.set_cons_succ]
    refine wpAnyH_take (i := 18) (v := ?z28v) (by simp only [List.getElem?_toArray, List.getElem?_cons_succ, List.getElem?_cons_zero]; rfl) (by kernel_rfl) (by kernel_rfl) (by kernel_rfl) (by exact fun _ _ _ h => h) (Or.inl ⟨by rfl, ?z28y⟩) (by assumption) ?z28r
    case z28y => (intro w hSw; (try dsimp only at hSw); go_simp; try (with_reducible rfl))
    try simp only [Act.put, List.setIfInBounds_toArray, List.set_cons_zero, List.set_cons_succ]
    refine wpAnyH_done (by kernel_rfl) ?_ _
    clear c0 c1 c2 c3
    obtain ⟨c0, c1, c2, c3⟩ := HCg.out W8 HB.out
    obtain ⟨H1, H2, H3⟩ := HHg.out W8 HB.out
    have HH1 := Lib.hid H1
    have HH2 := Lib.hid H2
    clear H1 H2 H3
    go_wp2_with (first | ((with_reducible refine wpList_store_at1 (o := ⟨none, _, _, _, _, _⟩) rfl 3 (.tmp 63) (.tmp 60) rfl g 101 2 (#[.slice A n c, .int .i64 s.1, .int .i64 pv, .int .i64 s.2]) (.int .i64 s.1) (by kernel_rfl) rfl HH1.out (lt_rf (by decide)) Tryz.sizeI (by kernel_rfl) ?_); intro W4 HG4 HB4; (have HG4b : Hid (W4.heap[g]? = some (.cells #[.slice A n c, .int .i64 s.1, .int .i64 s.1, .int .i64 s.2] 101 (0, 0))) := HG4.out)) | ((with_reducible refine wpList_store_at1 (o := ⟨none, _, _, _, _, _⟩) rfl 3 (.tmp 65) (.tmp 61) rfl g 101 1 (#[.slice A n c, .int .i64 s.1, .int .i64 s.1, .int .i64 s.2]) (.int .i64 q) (by kernel_rfl) rfl HG4b.out (lt_rf (by decide)) Tryz.sizeI (by kernel_rfl) ?_); intro W5 HG5 HB5; (have HK6 := Lib.hid ((HB5.out.block w.heap.size (Nat.lt_of_lt_of_le (lt_of_block HH2.out) HB4.out.size) (by have := HGL.out; omega)).trans ((HB4.out.block w.heap.size (lt_of_block HH2.out) (by have := HGL.out; omega)).trans HH2.out))); (have HK8 := Lib.hid ((HB5.out.block _ (Nat.lt_of_lt_of_le (lt_of_block HG8.out) HB4.out.size) (by have := HGL.out; have := HS1.out; have := HB.out.size; have := HBW.out; omega)).trans ((HB4.out.block _ (lt_of_block HG8.out) (by have := HGL.out; have := HS1.out; have := HB.out.size; have := HBW.out; omega)).trans HG8.out))); clear c0 c1 c2 c3) | (with_reducible refine wpList_load_row (o := ⟨some 66, _, _, _, _, _⟩) rfl 90 (.tmp 8) rfl W6.heap.size rfl 90 (rv k u nn sv m) _ _ HK8.out Tryz.underlying90 rfl (rv_size _ _ _ _ _) ?_) | (with_reducible refine wpList_load_row (o := ⟨some 66, _, _, _, _, _⟩) rfl 90 (.tmp 8) rfl W1.heap.size rfl 90 (rv k u nn sv m) _ _ HK8.out Tryz.underlying90 rfl (rv_size _ _ _ _ _) ?_) | ((with_reducible refine wpList_store_but (o := ⟨none, _, _, _, _, _⟩) rfl 90 (.tmp 6) (.tmp 66) rfl w.heap.size 90 (rv 0 0 0 ⟨#[]⟩ 0) (rv k u nn sv m) rfl rfl HK6.out (rv_size _ _ _ _ _) rfl (rv_one _ _ _ _ _) ?_); intro W7 HG7z HB7))
    have hA : Below w.heap.size w W8 := HB1.out.trans (HB.out.mono HB1.out.size)
    have hC : But (fun k => k = g) w W7 := (((But.of_below (p := fun k => k = g) hA).trans HB4.out (fun i hi => .inl hi)).trans HB5.out (fun i hi => .inl hi)).trans HB7.out (fun i hi => .inr (by subst hi; exact Nat.le_refl _))
    have hG : W7.heap[g]? = some (.cells #[.slice A n c, .int .i64 q, .int .i64 s.1, .int .i64 s.2] 101 (0, 0)) := (HB7.out.block g (lt_of_block HG5.out) (by have := HGL.out; omega)).trans HG5.out
    rw [HE.out] at hG
    refine bodyPost_ret (results_cell_row rfl _ _ _ _ _ _ _ rfl HG7z.out Tryz.underlying90 rfl (rv_size _ _ _ _ _)) rfl ⟨rfl, ⟨⟨s.1, hG⟩, HX.out.butg hC (Nat.le_of_lt HGL.out)⟩, hC⟩
end Go.Proofs.YtnfkjnmdfijhnaaGreatDoor
