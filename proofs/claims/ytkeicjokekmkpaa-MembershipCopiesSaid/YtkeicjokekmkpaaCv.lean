/- Copies of vaults. -/
import Derived.Test.YtkeicjokekmkpaaCl
import Derived.Laws.Rows
import Derived.Deep.Onto
namespace Go.Proofs.Ytkeicjokekmkpaa
open Go.RowKit Mb
set_option linter.unusedVariables false
set_option linter.unusedSimpArgs false

def OwnI (xs : List Int) (w : World) (e : Ending) (w' : World) : Prop := ∃ v, e = .returned v ∧ Own I 3 w' w.heap.size v xs ∧ Below w.heap.size w w'
theorem iclone_any (A : Option Addr) (n c : Nat) (xs : List Int) (w : World) (B : Nat) (hx : Sl I w B A n xs) (hn : n ≤ 1000000) :
    Calls Try.prog 58 #[.slice A n c] w (OwnI xs w) := by
  obtain ⟨rfl, hx⟩ := hx
  rcases Nat.eq_zero_or_pos xs.length with h0 | h0
  · obtain rfl := List.eq_nil_of_length_eq_zero h0
    cases A with
    | none => exact (Try.slices_Clone_int_nil 0 c w).mono fun e w' ⟨he, hw⟩ => ⟨_, he, Own.nil, by rw [hw]; exact Below.refl _ _⟩
    | some a => exact (Try.slices_Clone_int_zero a c w).mono fun e w' ⟨v, he, ho, _, hb⟩ => ⟨v, he, ho, hb⟩
  · obtain ⟨b, off, rfl, _, hc⟩ := hx h0
    refine (Try.slices_Clone_int b off xs.length c xs w (Nat.le_refl _) (by omega) (fun j hj => by
      rw [hc j _ (List.getElem?_eq_getElem hj), getD_of (List.getElem?_eq_getElem hj)])).mono fun e w' ⟨v, he, ho, _, hb⟩ => ⟨v, he, ?_, hb⟩
    rw [List.take_length] at ho
    exact ho
theorem setCell_row {w : World} {g i : Nat} {u : Value} {cs : Array Value} {t : TypeId} {fr : Nat × Nat} (hg : w.heap[g]? = some (.cells cs t fr)) : (w.setCell ⟨g, i, none⟩ u).heap[g]? = some (.cells (cs.setIfInBounds i u) t fr) := by
  obtain ⟨hl, he⟩ := Array.getElem?_eq_some_iff.1 hg
  simp [World.setCell, Array.getElem?_modify, hg]
abbrev cV (v : Vlt) (A : Option Addr) (n c : Nat) : Array Value := #[.int .i64 v.num, .slice A n c, .int .i64 v.data, .int .i64 v.total, .int .i64 v.thr, .string v.print, .int .i64 v.cmin, .int .i64 v.cmax, .int .i64 v.cwin, .int .i64 v.cbits, .int .u64 v.cseed, .int .i64 v.ra, .int .i64 v.rb, .int .i64 v.rc, .int .i64 v.rd]
theorem cV_one (v : Vlt) (A : Option Addr) (n c : Nat) : (cV v A n c).all (·.oneCell') = true := by
  rw [Array.all_eq_true']
  intro u hu
  simp only [cV, List.mem_toArray, List.mem_cons, List.not_mem_nil, or_false] at hu
  rcases hu with rfl | rfl | rfl | rfl | rfl | rfl | rfl | rfl | rfl | rfl | rfl | rfl | rfl | rfl | rfl <;> rfl
theorem Try.sizeV : (Try.prog.info? 36).map (·.size) = some 15 := by kernel_rfl
theorem heap_new_at {w : World} {o : Obj} {k : Nat} (h : w.heap.size = k) : (w.alloc o).heap[k]? = some o := h ▸ heap_alloc_new w o
/-- A copy of a vault: its writers are a row of its own. -/
def CopV (v : Vlt) (w : World) (e : Ending) (w' : World) : Prop := ∃ A n c, e = .returned (aV v A n c) ∧ Own I 3 w' w.heap.size (.slice A n c) v.ws ∧ Below w.heap.size w w'

set_option maxRecDepth 20000 in
set_option maxHeartbeats 2000000 in
theorem copyV_any (v : Vlt) (A : Option Addr) (n c : Nat) (w : World) (hx : Sl I w w.heap.size A n v.ws) (hn : n ≤ 1000000) :
    Calls Try.prog 32 #[aV v A n c] w (CopV v w) := by
  have HC : Hid (∀ W, Below w.heap.size w W → Calls Try.prog 58 #[.slice A n c] W (OwnI v.ws W)) := fun W h => iclone_any A n c v.ws W _ (hx.up h (Nat.le_refl _)) hn
  clear hx
  go_enter Try.func32, Try.ntmps32
  go_wp2_with fail
  refine (HC.out _ (((Below.refl _ _).alloc (Nat.le_refl _) _).alloc (by simp) _)).mono ?_
  rintro e w1 ⟨v1, rfl, ho, hb⟩
  have HG0 : Hid (w1.heap[w.heap.size]? = some (oV v A n c)) := (hb.block _ (by simp <;> omega)).trans ((Below.heap_alloc _ _ _ (by simp)).trans (heap_alloc_new w _))
  have hg1 := (hb.block (w.heap.size + 1) (by simp <;> omega)).trans (heap_new_at (w := w.alloc _) (by simp))
  have HG1 := Lib.hid hg1
  have HB1 : Hid (Below w.heap.size w w1) := (((Below.refl _ _).alloc (Nat.le_refl _) _).alloc (by simp) _).trans (hb.mono (by simp <;> omega))
  have HO := Lib.hid (World.ownsRow.mono (base' := w.heap.size) ho (by simp <;> omega))
  have hsz : w.heap.size + 1 < w1.heap.size := lt_of_block hg1
  obtain ⟨A1, c1, rfl, hc1, hs1, hbl⟩ := Own.shape (f := I) ho
  have hfar : ∀ k, (Value.slice A1 v.ws.length c1).ownBlock = some k → w.heap.size + 2 ≤ k := fun k hk => by
    have h5 := hbl k hk
    simp at h5
    omega
  have HO1 := Lib.hid ho
  obtain ⟨W2, hW2⟩ : ∃ W2 : World, W2 = w1.setCell ⟨w.heap.size, 1, none⟩ (.slice A1 v.ws.length c1) := ⟨_, rfl⟩
  have HG2 : Hid (W2.heap[w.heap.size]? = some (oV v A1 v.ws.length c1)) := by
    show _ = _
    rw [hW2]
    have h5 := setCell_row (i := 1) (u := .slice A1 v.ws.length c1) HG0.out
    simpa using h5
  have hg2 := hg1
  rw [← Below.heap_setCell w1 ⟨w.heap.size, 1, none⟩ (.slice A1 v.ws.length c1) (w.heap.size + 1) (by simp), ← hW2] at hg2
  have HZ2 := Lib.hid hg2
  have HB2 : Hid (Below w.heap.size w W2) := by show Below _ _ _; rw [hW2]; exact HB1.out.setCell (Nat.le_refl _) _
  have HO2 : Hid (Own I 3 W2 w.heap.size (.slice A1 v.ws.length c1) v.ws) := by
    show Own _ _ _ _ _ _
    have h6 : w1.grownBy W2 (some w.heap.size) := by rw [hW2]; exact ⟨rfl, rfl, rfl, by simp [World.setCell], fun k hk hne => Below.heap_setCell w1 _ _ k (fun e => hne (by rw [e]))⟩
    refine Own.kept (f := I) (World.ownsRow.mono ho (by simp <;> omega)) h6 ?_
    rcases hk : (Value.slice A1 v.ws.length c1).ownBlock with _ | k
    · exact .inl rfl
    · exact .inr (fun e => by have h7 := hfar k hk; injection e with e; omega)
  have HGA := HG0
  clear hg1 hg2 hb ho HG0 HG1 HO HO1 hs1 hbl hc1
  have hcell : w1.cell? ⟨w.heap.size, 1, none⟩ = some (.slice A n c) := by rw [cell_of_row w1 w.heap.size 1 _ _ _ HGA.out]; rfl
  have hfz : w1.frozen? ⟨w.heap.size, 1, none⟩ = false := frozen_of_row w1 w.heap.size 1 _ _ HGA.out
  clear HGA
  go_wp2_with (first
    | ((refine wpList_load_row (o := ⟨some 7, _, _, _, _, _⟩) rfl 36 (.tmp 1) rfl w.heap.size rfl 36 (cV v A1 v.ws.length c1) (0, 0) _ (by rw [← hW2]; exact HG2.out) Try.underlying36 rfl Try.sizeV ?_); rw [← hW2]; clear hW2)
    | ((refine wpList_store_far (o := ⟨none, .store 36 (.tmp 2) (.tmp 7), _, _, _, _⟩) rfl 36 (.tmp 2) (.tmp 7) rfl (w.heap.size + 1) 36 _ (cV v A1 v.ws.length c1) rfl rfl HZ2.out Try.sizeV rfl (cV_one _ _ _ _) w.heap.size w HB2.out (by omega) ?_); intro w3 HG3 hb3 HB3))
  refine bodyPost_ret (results_cell_row rfl _ _ _ _ _ _ _ rfl HG3.out Try.underlying36 rfl Try.sizeV) rfl ⟨A1, _, c1, rfl, ?_, hb3⟩
  refine Own.kept (f := I) HO2.out HB3.out ?_
  rcases hk : (Value.slice A1 v.ws.length c1).ownBlock with _ | k
  · exact .inl rfl
  · exact .inr (fun e => by have h7 := hfar k hk; injection e with e; omega)
end Go.Proofs.Ytkeicjokekmkpaa
