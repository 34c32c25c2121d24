/- Admit. -/
import Derived.Test.YtkeicjokekmkpaaWr
import Derived.Deep.RegionLaw
namespace Go.Proofs.Ytkeicjokekmkpaa
open Go.RowKit Mb
set_option linter.unusedVariables false
set_option linter.unusedSimpArgs false

/-- A change of a circle. -/
def MutP (S' : Cst) (lab : Nat → Nat) (g : Nat) (v : Value) (w : World) (e : Ending) (w' : World) : Prop := e = .returned v ∧ ∃ lab', Cir w' lab' g S' ∧ Fr w lab w' lab'
theorem MutP.of_below {S : Cst} {lab : Nat → Nat} {g : Nat} {v : Value} {w w' : World} {e : Ending} (hC : Cir w lab g S) (he : e = .returned v) (hb : Below w.heap.size w w') : MutP S lab g v w e w' := ⟨he, lab, hC.on hb, Fr.of_below hb⟩
section
variable {w w2 : World} {lab lab1 : Nat → Nat} {g : Nat} {S : Cst} {vm vv : Value} {bm : Nat} {vfm vfv vc : Value} {ps1 ps2 : List VP}
/-- The parts that a change leaves alone. -/
structure Kep (w w2 : World) (lab lab1 : Nat → Nat) (r : Nat) : Prop where
  size : w.heap.size ≤ w2.heap.size
  keep : ∀ k, k < w.heap.size → lab1 k = lab k
  block : ∀ k, k < w.heap.size → lab k ≠ 0 → lab k ≠ 1 → lab k ≠ r → w2.heap[k]? = w.heap[k]?
theorem Kep.rol {v : Value} {r s : Nat} (h : Kep w w2 lab lab1 r) (hv : Rol lab v s) (hlt : ∀ k, v.ownBlock = some k → k < w.heap.size) : Rol lab1 v s := fun k hk => by rw [h.keep k (hlt k hk)]; exact hv k hk
theorem Kep.blk {v : Value} {r s : Nat} (h : Kep w w2 lab lab1 r) (hv : Rol lab v s) (hlt : ∀ k, v.ownBlock = some k → k < w.heap.size) (h0 : s ≠ 0) (h1 : s ≠ 1) (hr : s ≠ r) : ∀ k, v.ownBlock = some k → w2.heap[k]? = w.heap[k]? :=
  fun k hk => h.block k (hlt k hk) (by rw [hv k hk]; exact h0) (by rw [hv k hk]; exact h1) (by rw [hv k hk]; exact hr)
theorem CirP.lv (h : CirP w lab g S vm vv bm vfm vfv vc ps1 ps2) {v : Value} {s : Nat} (hv : Rol lab v s) (hs : s ≠ 0) : ∀ k, v.ownBlock = some k → k < w.heap.size := fun k hk => h.lt (by rw [hv k hk]; exact hs)
theorem CirP.kms {r : Nat} (h : CirP w lab g S vm vv bm vfm vfv vc ps1 ps2) (k : Kep w w2 lab lab1 r) (hr : 3 ≠ r) : OwnN fM 5 44 w2 0 vm S.s.ms ∧ Rol lab1 vm 3 :=
  ⟨h.ms.same (k.blk h.lms (h.lv h.lms (by decide)) (by decide) (by decide) hr), k.rol h.lms (h.lv h.lms (by decide))⟩
theorem CirP.kfm {r : Nat} (h : CirP w lab g S vm vv bm vfm vfv vc ps1 ps2) (k : Kep w w2 lab lab1 r) (hr : 5 ≠ r) : OwnN fM 5 44 w2 0 vfm S.fm ∧ Rol lab1 vfm 5 :=
  ⟨h.fm.same (k.blk h.lfm (h.lv h.lfm (by decide)) (by decide) (by decide) hr), k.rol h.lfm (h.lv h.lfm (by decide))⟩
theorem CirP.kch {r : Nat} (h : CirP w lab g S vm vv bm vfm vfv vc ps1 ps2) (k : Kep w w2 lab lab1 r) (hr : 7 ≠ r) : Own fC 80 w2 0 vc S.chs ∧ Rol lab1 vc 7 :=
  ⟨h.ch.same (k.blk h.lch (h.lv h.lch (by decide)) (by decide) (by decide) hr), k.rol h.lch (h.lv h.lch (by decide))⟩
theorem CirP.kmp {r : Nat} (h : CirP w lab g S vm vv bm vfm vfv vc ps1 ps2) (k : Kep w w2 lab lab1 r) (hr : 2 ≠ r) : MapV w2 bm S.s.votes.length (fun x y => S.s.votes.contains (x, y)) ∧ lab1 bm = 2 := by
  have hl : bm < w.heap.size := h.lt (by rw [h.lmp]; decide)
  exact ⟨h.mp.block (k.block bm hl (by rw [h.lmp]; decide) (by rw [h.lmp]; decide) (by rw [h.lmp]; exact hr)), by rw [k.keep bm hl, h.lmp]⟩
theorem CirP.kvs {r : Nat} (h : CirP w lab g S vm vv bm vfm vfv vc ps1 ps2) (k : Kep w w2 lab lab1 r) (hr : 4 ≠ r) : VRow w2 0 vv ps1 ∧ Rol lab1 vv 4 ∧ ∀ p ∈ ps1, Rol lab1 (fS p.2) 4 := by
  refine ⟨h.vs.up fun j hj => ?_, k.rol h.lvs (h.lv h.lvs (by decide)), fun p hp => k.rol (h.lws p hp) (h.lv (h.lws p hp) (by decide))⟩
  rcases hj with hj | ⟨p, hp, hj⟩
  · exact k.blk h.lvs (h.lv h.lvs (by decide)) (by decide) (by decide) hr j hj
  · exact k.blk (h.lws p hp) (h.lv (h.lws p hp) (by decide)) (by decide) (by decide) hr j hj
theorem CirP.kfv {r : Nat} (h : CirP w lab g S vm vv bm vfm vfv vc ps1 ps2) (k : Kep w w2 lab lab1 r) (hr : 6 ≠ r) : VRow w2 0 vfv ps2 ∧ Rol lab1 vfv 6 ∧ ∀ p ∈ ps2, Rol lab1 (fS p.2) 6 := by
  refine ⟨h.fv.up fun j hj => ?_, k.rol h.lfv (h.lv h.lfv (by decide)), fun p hp => k.rol (h.lfw p hp) (h.lv (h.lfw p hp) (by decide))⟩
  rcases hj with hj | ⟨p, hp, hj⟩
  · exact k.blk h.lfv (h.lv h.lfv (by decide)) (by decide) (by decide) hr j hj
  · exact k.blk (h.lfw p hp) (h.lv (h.lfw p hp) (by decide)) (by decide) (by decide) hr j hj
/-- The label of a new block. -/
def lbl (lab : Nat → Nat) (w : World) (v : Value) (r : Nat) : Nat → Nat := fun k => if w.heap.size ≤ k ∧ v.ownBlock = some k then r else lab k
theorem lbl_old {v : Value} {r k : Nat} (hk : k < w.heap.size) : lbl lab w v r k = lab k := by unfold lbl; rw [if_neg (by omega)]
theorem lbl_rol {v u : Value} {r : Nat} (hv : Rol lab v r) (hu : u.ownBlock = v.ownBlock ∨ ∃ k, u.ownBlock = some k ∧ w.heap.size ≤ k) : Rol (lbl lab w u r) u r := fun k hk => by
  unfold lbl
  split
  · rfl
  · next hn =>
    rcases hu with hu | ⟨j, hj, hjl⟩
    · exact hv k (hu ▸ hk)
    · rw [hk] at hj
      injection hj with hj
      exact absurd ⟨by omega, hk⟩ hn
/-- A row of a circle grows and its head is written into the circle's cell: what is kept. -/
theorem turn_kep {w1 : World} {v u : Value} {r i : Nat} (hg : w.grownBy w1 v.ownBlock) (hv : Rol lab v r) (hlg : lab g = 1) : Kep w (w1.setCell ⟨g, i, none⟩ u) lab (lbl lab w u r) r :=
  ⟨by simp [World.setCell]; exact hg.size, fun k hk => lbl_old hk, fun k hk h0 h1 hr => by
    rw [Below.heap_setCell w1 _ u k (fun e => h1 (by rw [e]; exact hlg))]
    exact hg.block k hk (fun e => hr (hv k e.symm))⟩
theorem turn_fr {w1 : World} {v u : Value} {r i : Nat} (hg : w.grownBy w1 v.ownBlock) (hv : Rol lab v r) (hr : r ≠ 0) (hlg : lab g = 1) : Fr w lab (w1.setCell ⟨g, i, none⟩ u) (lbl lab w u r) :=
  ⟨hg.os, hg.tape, hg.output, by simp [World.setCell]; exact hg.size, fun k hk => lbl_old hk, fun k hk h0 => by
    rw [Below.heap_setCell w1 _ u k (fun e => by subst e; rw [hlg] at h0; cases h0)]
    exact hg.block k hk (fun e => hr ((hv k e.symm).symm.trans h0))⟩
theorem setCell_same {w1 : World} {α : Type} {f : α → List Value} {s : Nat} {e : TypeId} {base i : Nat} {u v : Value} {xs : List α} (h : OwnN f s e w1 base v xs) (hne : ∀ k, v.ownBlock = some k → k ≠ g) : OwnN f s e (w1.setCell ⟨g, i, none⟩ u) base v xs :=
  h.same fun k hk => Below.heap_setCell w1 _ u k (hne k hk)
/-- One member more. -/
theorem CirP.addM {w1 : World} {u : Value} {m : Mem} (h : CirP w lab g S vm vv bm vfm vfv vc ps1 ps2) (hg : w.grownBy w1 vm.ownBlock) (ho : OwnN fM 5 44 w1 0 u (S.s.ms ++ [m]))
    (hu : u.ownBlock = vm.ownBlock ∨ ∃ k, u.ownBlock = some k ∧ w.heap.size ≤ k) :
    CirP (w1.setCell ⟨g, 0, none⟩ u) (lbl lab w u 3) g { S with s := { S.s with ms := S.s.ms ++ [m] } } u vv bm vfm vfv vc ps1 ps2 := by
  have hgl := h.lt (k := g) (by rw [h.lg]; decide)
  have k := turn_kep (i := 0) (u := u) hg h.lms h.lg
  have hc1 : w1.heap[g]? = some (.cells #[vm, vv, .int .i64 S.s.q, .map (some bm), vfm, vfv, vc] 72 (0, 0)) := (hg.block g hgl (fun e => by
    have := h.lms g e.symm
    rw [h.lg] at this
    cases this)).trans h.cell
  have hrol : Rol (lbl lab w u 3) u 3 := lbl_rol h.lms hu
  have hug : ∀ k, u.ownBlock = some k → k ≠ g := fun k hk e => by
    have h5 := hrol k hk
    rw [e, lbl_old hgl, h.lg] at h5
    cases h5
  obtain ⟨v1, v2, v3⟩ := h.kvs k (by decide)
  obtain ⟨f1, f2, f3⟩ := h.kfv k (by decide)
  refine ⟨?_, (lbl_old hgl).trans h.lg, setCell_same ho hug, hrol, v1, h.evs, v2, v3, (h.kmp k (by decide)).1, (h.kmp k (by decide)).2, (h.kfm k (by decide)).1, (h.kfm k (by decide)).2, f1, h.efv, f2, f3, (h.kch k (by decide)).1, (h.kch k (by decide)).2, fun j hj => ?_⟩
  · have := setCell_row (i := 0) (u := u) hc1
    simpa using this
  · have hs : w1.heap.size ≤ j := by simpa [World.setCell] using hj
    have hj2 : w.heap.size ≤ j := Nat.le_trans hg.size hs
    unfold lbl
    rw [if_neg (fun e => by have := (World.ownsRow.lt ho j e.2).2; omega)]
    exact h.top j hj2
/-- One recorded change more. -/
theorem CirP.addC {w1 : World} {u : Value} {x : Chg} (h : CirP w lab g S vm vv bm vfm vfv vc ps1 ps2) (hg : w.grownBy w1 vc.ownBlock) (ho : Own fC 80 w1 0 u (S.chs ++ [x]))
    (hu : u.ownBlock = vc.ownBlock ∨ ∃ k, u.ownBlock = some k ∧ w.heap.size ≤ k) :
    CirP (w1.setCell ⟨g, 6, none⟩ u) (lbl lab w u 7) g { S with chs := S.chs ++ [x] } vm vv bm vfm vfv u ps1 ps2 := by
  have hgl := h.lt (k := g) (by rw [h.lg]; decide)
  have k := turn_kep (i := 6) (u := u) hg h.lch h.lg
  have hc1 : w1.heap[g]? = some (.cells #[vm, vv, .int .i64 S.s.q, .map (some bm), vfm, vfv, vc] 72 (0, 0)) := (hg.block g hgl (fun e => by
    have := h.lch g e.symm
    rw [h.lg] at this
    cases this)).trans h.cell
  have hrol : Rol (lbl lab w u 7) u 7 := lbl_rol h.lch hu
  have hug : ∀ k, u.ownBlock = some k → k ≠ g := fun k hk e => by
    have h5 := hrol k hk
    rw [e, lbl_old hgl, h.lg] at h5
    cases h5
  obtain ⟨v1, v2, v3⟩ := h.kvs k (by decide)
  obtain ⟨f1, f2, f3⟩ := h.kfv k (by decide)
  refine ⟨?_, (lbl_old hgl).trans h.lg, (h.kms k (by decide)).1, (h.kms k (by decide)).2, v1, h.evs, v2, v3, (h.kmp k (by decide)).1, (h.kmp k (by decide)).2, (h.kfm k (by decide)).1, (h.kfm k (by decide)).2, f1, h.efv, f2, f3, ho.same fun k hk => Below.heap_setCell w1 _ u k (hug k hk), hrol, fun j hj => ?_⟩
  · have := setCell_row (i := 6) (u := u) hc1
    simpa using this
  · have hs : w1.heap.size ≤ j := by simpa [World.setCell] using hj
    have hj2 : w.heap.size ≤ j := Nat.le_trans hg.size hs
    unfold lbl
    rw [if_neg (fun e => by have := (World.ownsRow.lt ho j e.2).2; omega)]
    exact h.top j hj2
end
/-- 'append' of one-cell elements, at a step of a region that draws. -/
theorem step_appO {P : Program} {w : World} {α : Type} {f : α → Value} {ops : Array Oper} {o : Oper} {a : Act} {K : Act → World → Prop} {Q : Exit → Act → World → Prop} {E : Prop} (hgd : o.guard = none) (sl x : Operand) (t : TypeId)
    (ho : o.op = .call { callee := .builtin .append, args := #[sl, x], argTypes := #[t, t] })
    (e : TypeId) (i : TypeInfo) (z : Value) (bytes : Nat) (ht : P.underlying t = some (.slice e)) (hi : P.info? e = some i) (hz : i.zero = some z)
    (hsize : i.size = 1) (hby : i.bytes = bytes) (hzs : z.cells.size = 1) (v : Value) (xs : List α) (base : Nat) (hsl : a.eval sl = v) (hown : Own f e w base v xs)
    (A : Option Addr) (m c B : Nat) (ys : List α) (hx : a.eval x = .slice A m c) (hr : Sl f w B A m ys) (h1 : ∀ y, (f y).oneCell' = true) (hbytes : (xs.length + ys.length) * bytes ≤ 140737488355328) (hmax : xs.length + ys.length ≤ maxLen) (hbase : base ≤ w.heap.size)
    (h : ∀ v' w', Hid (Own f e w' base v' (xs ++ ys)) → Hid (w.grownBy w' v.ownBlock) → Hid (v'.ownBlock = v.ownBlock ∨ v'.ownBlock = some w.heap.size) → K (a.put o.dst v') w') :
    if Region.wanted o (yielded ops a.tmps) = true then Oper.wp P o a w K Q else E := by
  have hw : Region.wanted o (yielded ops a.tmps) = true := by simp [Region.wanted, hgd]
  rw [if_pos hw]
  exact wp_app sl x t ho e i z bytes ht hi hz hsize hby hzs v xs base hsl hown A m c B ys hx hr h1 hbytes hmax hbase fun v' w' h2 h3 h4 => h v' w' h2 h3 h4
theorem grown_from {w X w' : World} {row : Option Nat} (hb : Below w.heap.size w X) (hg : X.grownBy w' row) : w.grownBy w' row :=
  ⟨hg.os.trans hb.os, hg.tape.trans hb.tape, hg.output.trans hb.output, Nat.le_trans hb.size hg.size, fun k hk hne => (hg.block k (Nat.lt_of_lt_of_le hk hb.size) hne).trans (hb.block k hk)⟩
theorem own_from {w X : World} {u v : Value} (hb : Below w.heap.size w X) (h : u.ownBlock = v.ownBlock ∨ u.ownBlock = some X.heap.size) : u.ownBlock = v.ownBlock ∨ ∃ k, u.ownBlock = some k ∧ w.heap.size ≤ k := by
  rcases h with h | h
  · exact .inl h
  · exact .inr ⟨_, h, hb.size⟩
/-- A cell of the circle's block behind a growth of one of its rows. -/
theorem grown_cell {w w1 : World} {lab : Nat → Nat} {g : Nat} {S : Cst} {vm vv : Value} {bm : Nat} {vfm vfv vc : Value} {ps1 ps2 : List VP} {v : Value} {r : Nat} (h : CirP w lab g S vm vv bm vfm vfv vc ps1 ps2) (hg : w.grownBy w1 v.ownBlock) (hv : Rol lab v r) (hr : r ≠ 1) :
    w1.heap[g]? = some (.cells #[vm, vv, .int .i64 S.s.q, .map (some bm), vfm, vfv, vc] 72 (0, 0)) :=
  (hg.block g (h.lt (by rw [h.lg]; decide)) (fun e => hr (by rw [← hv g e.symm, h.lg]))).trans h.cell
end Go.Proofs.Ytkeicjokekmkpaa
