/- A circle in memory: its blocks bear roles, so that whatever bears another role is another block. -/
import Derived.Test.YtkeicjokekmkpaaDv
import Derived.Test.YtkeicjokekmkpaaMp
namespace Go.Proofs.Ytkeicjokekmkpaa
open Go.RowKit Mb
set_option linter.unusedVariables false
set_option linter.unusedSimpArgs false

/-- A change that a circle has recorded. -/
inductive Chg where
  | adm (m : Mem)
  | bal (a b : Int)
  | rep (v a b : Int)
def fC : Chg → Value
  | .adm m => .iface 82 (aM m)
  | .bal a b => .iface 84 (.agg #[.int .i64 a, .int .i64 b])
  | .rep v a b => .iface 86 (.agg #[.int .i64 v, .int .i64 a, .int .i64 b])
theorem fC_one : ∀ x, (fC x).oneCell' = true := fun x => by cases x <;> rfl
/-- A circle as its package holds it. -/
structure Cst where
  s : St
  fm : List Mem
  fv : List Vlt
  chs : List Chg
/-- The block of a slice bears the role r. -/
def Rol (lab : Nat → Nat) (v : Value) (r : Nat) : Prop := ∀ k, v.ownBlock = some k → lab k = r
theorem Rol.other {lab : Nat → Nat} {v : Value} {r b : Nat} (h : Rol lab v r) (hb : lab b ≠ r) : v.ownBlock = none ∨ v.ownBlock ≠ some b := .inr fun e => hb (h b e)
theorem Rol.ne {lab : Nat → Nat} {v u : Value} {r s : Nat} (h : Rol lab v r) (hu : Rol lab u s) (hrs : r ≠ s) : v.ownBlock = none ∨ v.ownBlock ≠ u.ownBlock := by
  rcases hk : v.ownBlock with _ | k
  · exact .inl rfl
  · exact .inr (fun e => hrs ((h k hk).symm.trans (hu k e.symm)))
/-- The parts of a circle at block g. -/
structure CirP (w : World) (lab : Nat → Nat) (g : Nat) (S : Cst) (vm vv : Value) (bm : Nat) (vfm vfv vc : Value) (ps1 ps2 : List VP) : Prop where
  cell : w.heap[g]? = some (.cells #[vm, vv, .int .i64 S.s.q, .map (some bm), vfm, vfv, vc] 72 (0, 0))
  lg : lab g = 1
  ms : OwnN fM 5 44 w 0 vm S.s.ms
  lms : Rol lab vm 3
  vs : VRow w 0 vv ps1
  evs : ps1.map Prod.fst = S.s.vs
  lvs : Rol lab vv 4
  lws : ∀ p ∈ ps1, Rol lab (fS p.2) 4
  mp : MapV w bm S.s.votes.length (fun x y => S.s.votes.contains (x, y))
  lmp : lab bm = 2
  fm : OwnN fM 5 44 w 0 vfm S.fm
  lfm : Rol lab vfm 5
  fv : VRow w 0 vfv ps2
  efv : ps2.map Prod.fst = S.fv
  lfv : Rol lab vfv 6
  lfw : ∀ p ∈ ps2, Rol lab (fS p.2) 6
  ch : Own fC 80 w 0 vc S.chs
  lch : Rol lab vc 7
  top : ∀ k, w.heap.size ≤ k → lab k = 0
def Cir (w : World) (lab : Nat → Nat) (g : Nat) (S : Cst) : Prop := ∃ vm vv bm vfm vfv vc ps1 ps2, CirP w lab g S vm vv bm vfm vfv vc ps1 ps2
/-- From one world to a later one nothing turned but what bears a role. -/
structure Fr (w : World) (lab : Nat → Nat) (w' : World) (lab' : Nat → Nat) : Prop where
  os : w'.os = w.os
  tape : w'.tape = w.tape
  output : w'.output = w.output
  size : w.heap.size ≤ w'.heap.size
  keep : ∀ k, k < w.heap.size → lab' k = lab k
  block : ∀ k, k < w.heap.size → lab k = 0 → w'.heap[k]? = w.heap[k]?
theorem Fr.refl (w : World) (lab : Nat → Nat) : Fr w lab w lab := ⟨rfl, rfl, rfl, Nat.le_refl _, fun _ _ => rfl, fun _ _ _ => rfl⟩
theorem Fr.trans {w w' w'' : World} {lab lab' lab'' : Nat → Nat} (h : Fr w lab w' lab') (h' : Fr w' lab' w'' lab'') : Fr w lab w'' lab'' :=
  ⟨h'.os.trans h.os, h'.tape.trans h.tape, h'.output.trans h.output, Nat.le_trans h.size h'.size, fun k hk => (h'.keep k (Nat.lt_of_lt_of_le hk h.size)).trans (h.keep k hk),
    fun k hk h0 => (h'.block k (Nat.lt_of_lt_of_le hk h.size) ((h.keep k hk).trans h0)).trans (h.block k hk h0)⟩
theorem Fr.of_below {w w' : World} {lab : Nat → Nat} (h : Below w.heap.size w w') : Fr w lab w' lab := ⟨h.os, h.tape, h.output, h.size, fun _ _ => rfl, fun k hk _ => h.block k hk⟩
/-- Below a bound under which nothing bears a role. -/
theorem Fr.below {w w' : World} {lab lab' : Nat → Nat} {B : Nat} (h : Fr w lab w' lab') (hB : B ≤ w.heap.size) (h0 : ∀ k, k < B → lab k = 0) : Below B w w' := ⟨h.os, h.tape, h.output, h.size, fun k hk => h.block k (Nat.lt_of_lt_of_le hk hB) (h0 k hk)⟩
theorem VRow.up {w w' : World} {base : Nat} {v : Value} {ps : List VP} (h : VRow w base v ps) (hb : ∀ k, (v.ownBlock = some k ∨ ∃ p ∈ ps, (fS p.2).ownBlock = some k) → w'.heap[k]? = w.heap[k]?) : VRow w' base v ps := by
  refine ⟨?_, fun p hp => ?_, h.far, h.apart⟩
  · refine ⟨h.row.1, ?_⟩
    rcases h.row.2 with hn | ⟨g, cap, cur, rfl, hbg, hgg, rest⟩
    · exact .inl hn
    · exact .inr ⟨g, cap, cur, rfl, hbg, (hb g (.inl rfl)).trans hgg, rest⟩
  · have h5 := h.ws p hp
    refine ⟨h5.1, ?_⟩
    rcases h5.2 with hn | ⟨g, cap, cur, he, hbg, hgg, rest⟩
    · exact .inl hn
    · exact .inr ⟨g, cap, cur, he, hbg, (hb g (.inr ⟨p, hp, by rw [he]; rfl⟩)).trans hgg, rest⟩
theorem OwnN.same {α : Type} {f : α → List Value} {s : Nat} {e : TypeId} {w w' : World} {base : Nat} {v : Value} {xs : List α} (h : OwnN f s e w base v xs) (hb : ∀ k, v.ownBlock = some k → w'.heap[k]? = w.heap[k]?) : OwnN f s e w' base v xs := by
  refine ⟨h.1, ?_⟩
  rcases h.2 with hn | ⟨g, cap, cur, rfl, hbg, hgg, rest⟩
  · exact .inl hn
  · exact .inr ⟨g, cap, cur, rfl, hbg, (hb g rfl).trans hgg, rest⟩
theorem Own.same {α : Type} {f : α → Value} {e : TypeId} {w w' : World} {base : Nat} {v : Value} {xs : List α} (h : Own f e w base v xs) (hb : ∀ k, v.ownBlock = some k → w'.heap[k]? = w.heap[k]?) : Own f e w' base v xs := by
  refine ⟨h.1, ?_⟩
  rcases h.2 with hn | ⟨g, cap, cur, rfl, hbg, hgg, rest⟩
  · exact .inl hn
  · exact .inr ⟨g, cap, cur, rfl, hbg, (hb g rfl).trans hgg, rest⟩
section
variable {w w' : World} {lab lab' : Nat → Nat} {g : Nat} {S : Cst}
/-- What bears a role lies in the world. -/
theorem CirP.lt {vm vv : Value} {bm : Nat} {vfm vfv vc : Value} {ps1 ps2 : List VP} (h : CirP w lab g S vm vv bm vfm vfv vc ps1 ps2) {k : Nat} (hk : lab k ≠ 0) : k < w.heap.size := by
  rcases Nat.lt_or_ge k w.heap.size with h1 | h1
  · exact h1
  · exact absurd (h.top k h1) hk
/-- A circle whose blocks are kept. -/
theorem CirP.same {vm vv : Value} {bm : Nat} {vfm vfv vc : Value} {ps1 ps2 : List VP} (h : CirP w lab g S vm vv bm vfm vfv vc ps1 ps2) (hb : ∀ k, lab k ≠ 0 → w'.heap[k]? = w.heap[k]?) (hs : w.heap.size ≤ w'.heap.size) : CirP w' lab g S vm vv bm vfm vfv vc ps1 ps2 :=
  { h with
    cell := (hb g (by rw [h.lg]; decide)).trans h.cell
    ms := h.ms.same fun k hk => hb k (by rw [h.lms k hk]; decide)
    vs := h.vs.up fun k hk => hb k (by
      rcases hk with hk | ⟨p, hp, hk⟩
      · rw [h.lvs k hk]; decide
      · rw [h.lws p hp k hk]; decide)
    mp := h.mp.block (hb bm (by rw [h.lmp]; decide))
    fm := h.fm.same fun k hk => hb k (by rw [h.lfm k hk]; decide)
    fv := h.fv.up fun k hk => hb k (by
      rcases hk with hk | ⟨p, hp, hk⟩
      · rw [h.lfv k hk]; decide
      · rw [h.lfw p hp k hk]; decide)
    ch := h.ch.same fun k hk => hb k (by rw [h.lch k hk]; decide)
    top := fun k hk => h.top k (Nat.le_trans hs hk) }
theorem CirP.on {vm vv : Value} {bm : Nat} {vfm vfv vc : Value} {ps1 ps2 : List VP} (h : CirP w lab g S vm vv bm vfm vfv vc ps1 ps2) (hb : Below w.heap.size w w') : CirP w' lab g S vm vv bm vfm vfv vc ps1 ps2 :=
  h.same (fun k hk => hb.block k (h.lt hk)) hb.size
theorem Cir.on (h : Cir w lab g S) (hb : Below w.heap.size w w') : Cir w' lab g S := by
  obtain ⟨vm, vv, bm, vfm, vfv, vc, ps1, ps2, h⟩ := h
  exact ⟨vm, vv, bm, vfm, vfv, vc, ps1, ps2, h.on hb⟩
theorem Cir.lt (h : Cir w lab g S) : g < w.heap.size := by
  obtain ⟨vm, vv, bm, vfm, vfv, vc, ps1, ps2, h⟩ := h
  exact h.lt (by rw [h.lg]; decide)
theorem Cir.top (h : Cir w lab g S) : ∀ k, w.heap.size ≤ k → lab k = 0 := by
  obtain ⟨vm, vv, bm, vfm, vfv, vc, ps1, ps2, h⟩ := h
  exact h.top
/-- The members of a circle. -/
theorem Cir.mem (h : Cir w lab g S) : ∃ A c, w.cell? ⟨g, 0, none⟩ = some (.slice A S.s.ms.length c) ∧ SlN fM 5 w w.heap.size A S.s.ms.length S.s.ms ∧ S.s.ms.length ≤ c := by
  obtain ⟨vm, vv, bm, vfm, vfv, vc, ps1, ps2, h⟩ := h
  obtain ⟨A, c, rfl, hc, hs, _⟩ := h.ms.shape fM_len
  exact ⟨A, c, by rw [cell_of_row w g _ _ _ _ h.cell]; rfl, hs, hc⟩
/-- The vaults of a circle. -/
theorem Cir.vlt (h : Cir w lab g S) : ∃ A c ps, w.cell? ⟨g, 1, none⟩ = some (.slice A S.s.vs.length c) ∧ VIn w w.heap.size A S.s.vs.length ps ∧ ps.map Prod.fst = S.s.vs ∧ (∀ p ∈ ps, p.2.n = p.1.ws.length) := by
  obtain ⟨vm, vv, bm, vfm, vfv, vc, ps1, ps2, h⟩ := h
  obtain ⟨A, c, rfl, hc, hv⟩ := h.vs.vin
  have hl : ps1.length = S.s.vs.length := by rw [← h.evs, List.length_map]
  rw [hl] at hv
  refine ⟨A, c, ps1, by rw [cell_of_row w g _ _ _ _ h.cell, ← hl]; rfl, hv, h.evs, fun p hp => ((hv.2 p hp).1).symm⟩
theorem Cir.quo (h : Cir w lab g S) : w.cell? ⟨g, 2, none⟩ = some (.int .i64 S.s.q) := by
  obtain ⟨vm, vv, bm, vfm, vfv, vc, ps1, ps2, h⟩ := h
  rw [cell_of_row w g _ _ _ _ h.cell]; rfl
theorem Cir.votes (h : Cir w lab g S) : ∃ bm, w.cell? ⟨g, 3, none⟩ = some (.map (some bm)) ∧ MapV w bm S.s.votes.length (fun x y => S.s.votes.contains (x, y)) := by
  obtain ⟨vm, vv, bm, vfm, vfv, vc, ps1, ps2, h⟩ := h
  exact ⟨bm, by rw [cell_of_row w g _ _ _ _ h.cell]; rfl, h.mp⟩
end
end Go.Proofs.Ytkeicjokekmkpaa
