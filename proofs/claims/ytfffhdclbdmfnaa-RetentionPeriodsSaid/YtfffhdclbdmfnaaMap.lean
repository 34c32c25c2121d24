/- Maps keyed by ints that the call makes, read as functions: over whatever program. -/
import Derived.Maps.Own
import Derived.Maps.OwnIn
import Derived.Maps.OwnSet
import Derived.Maps.Views
import Derived.RangeFuncBox
import Derived.Test.YtfffhdclbdmfnaaWk
namespace Go.Proofs.Ytfffhdclbdmfnaa
open Go.RowKit
set_option linter.unusedVariables false
set_option linter.unusedSimpArgs false

theorem int_wf {d : Int} (h : -9223372036854775808 ≤ d ∧ d ≤ 9223372036854775807) : (Lit.int .i64 d).wf = true := WalkArith.wf_i64 h
/-- Block b is a map of ints that reads as F (0 where there is no entry). -/
def MapI (P : Program) (kt et : TypeId) (w : World) (b n : Nat) (F : Int → Int) : Prop :=
  ∃ D : DataW Unit, w.ownsMap P kt (plainElem P et) b n D ∧ ∀ d, D.atKey (.int .i64 d) (.lit (.int .i64 0)) = .lit (.int .i64 (F d))
/-- .. of bools. -/
def MapB (P : Program) (kt et : TypeId) (w : World) (b n : Nat) (F : Int → Bool) : Prop :=
  ∃ D : DataW Unit, w.ownsMap P kt (plainElem P et) b n D ∧ ∀ d, D.atKey (.int .i64 d) (.lit (.bool false)) = .lit (.bool (F d))
theorem atKey_empty (k : Lit) (z : DataW Unit) : (DataW.map [] : DataW Unit).atKey k z = z := by simp [DataW.atKey]

section
variable {P : Program} {kt et mt : TypeId} {w w' : World} {b n : Nat}
theorem MapI.made (w : World) : MapI P kt et (w.alloc (.map #[] 0)) w.heap.size 0 (fun _ => 0) := ⟨_, World.ownsMap_made w P kt _, fun d => atKey_empty _ _⟩
theorem MapB.made (w : World) : MapB P kt et (w.alloc (.map #[] 0)) w.heap.size 0 (fun _ => false) := ⟨_, World.ownsMap_made w P kt _, fun d => atKey_empty _ _⟩
theorem MapI.kept {F : Int → Int} {row : Option Nat} (h : MapI P kt et w b n F) (hg : w.grownBy w' row) (hne : some b ≠ row) : MapI P kt et w' b n F := by
  obtain ⟨D, h1, h2⟩ := h
  exact ⟨D, h1.kept hg hne, h2⟩
theorem MapI.block {F : Int → Int} (h : MapI P kt et w b n F) (hb : w'.heap[b]? = w.heap[b]?) : MapI P kt et w' b n F := by
  obtain ⟨D, ⟨es, ck, h1, h2⟩, h3⟩ := h
  exact ⟨D, ⟨es, ck, hb.trans h1, h2⟩, h3⟩
theorem MapB.block {F : Int → Bool} (h : MapB P kt et w b n F) (hb : w'.heap[b]? = w.heap[b]?) : MapB P kt et w' b n F := by
  obtain ⟨D, ⟨es, ck, h1, h2⟩, h3⟩ := h
  exact ⟨D, ⟨es, ck, hb.trans h1, h2⟩, h3⟩
theorem MapI.lt {F : Int → Int} (h : MapI P kt et w b n F) : b < w.heap.size := by
  obtain ⟨D, ⟨es, ck, h1, _⟩, _⟩ := h
  exact lt_of_block h1
theorem MapB.lt {F : Int → Bool} (h : MapB P kt et w b n F) : b < w.heap.size := by
  obtain ⟨D, ⟨es, ck, h1, _⟩, _⟩ := h
  exact lt_of_block h1
theorem MapI.not_cells {F : Int → Int} (h : MapI P kt et w b n F) : ∃ o : Obj, w.heap[b]? = some o ∧ o.isCells = false := by
  obtain ⟨D, ⟨es, ck, h1, _⟩, _⟩ := h
  exact ⟨_, h1, rfl⟩
theorem MapI.mono {F : Int → Int} {n' : Nat} (h : MapI P kt et w b n F) (hn : n ≤ n') : MapI P kt et w b n' F := by
  obtain ⟨D, ⟨es, ck, h1, h2, h3, h4⟩, h5⟩ := h
  exact ⟨D, ⟨es, ck, h1, h2, by omega, h4⟩, h5⟩
theorem MapI.congr {F G : Int → Int} (h : MapI P kt et w b n F) (he : ∀ d, F d = G d) : MapI P kt et w b n G := by
  obtain ⟨D, h1, h2⟩ := h
  exact ⟨D, h1, fun d => by rw [← he d]; exact h2 d⟩
theorem MapB.congr {F G : Int → Bool} (h : MapB P kt et w b n F) (he : ∀ d, F d = G d) : MapB P kt et w b n G := by
  obtain ⟨D, h1, h2⟩ := h
  exact ⟨D, h1, fun d => by rw [← he d]; exact h2 d⟩
/-- A look-up of ints, as an equation on the operation. -/
theorem MapI.look {F : Int → Int} (h : MapI P kt et w b n F) (hk : P.underlying kt = some (.int .i64)) (ht : P.underlying mt = some (.map kt et)) (he : P.underlying et = some (.int .i64)) (hz : ∀ w, (zeroValue et).run P w = .ok (.int .i64 0) w)
    (d : Int) (hd : (Lit.int .i64 d).wf = true) : (Instr.lookup mt (.map (some b)) (.int .i64 d) false).run P w = .ok (.int .i64 (F d)) w := by
  obtain ⟨D, h1, h2⟩ := h
  obtain ⟨c, hrun, hat, _⟩ := h1.lookup_int (Maps.int_keyed hk) ht he (hz w) (Maps.keyOf_int_mk hk hd)
  rw [h2 d] at hat
  injection hat with hat
  injection hat with _ hat
  rw [hrun, hat]
theorem plainElem_bool_inv {H : Type} {e : TypeId} (he : P.underlying e = some .bool) {v : Value} {r : DataW H × List MemPlace} (h : plainElem P e v = some r) : ∃ x, v = .bool x ∧ r = (.lit (.bool x), []) := by
  unfold plainElem at h
  rw [he] at h
  cases v <;> simp at h
  exact ⟨_, rfl, h.symm⟩
/-- .. of bools. -/
theorem MapB.look {F : Int → Bool} (h : MapB P kt et w b n F) (hk : P.underlying kt = some (.int .i64)) (ht : P.underlying mt = some (.map kt et)) (he : P.underlying et = some .bool) (hz : ∀ w, (zeroValue et).run P w = .ok (.bool false) w)
    (d : Int) (hd : (Lit.int .i64 d).wf = true) : (Instr.lookup mt (.map (some b)) (.int .i64 d) false).run P w = .ok (.bool (F d)) w := by
  obtain ⟨D, h1, h2⟩ := h
  obtain ⟨v, ps, hrun, hv⟩ := h1.lookup (Maps.int_keyed hk) ht (hz w) (plainElem_bool he false) (Maps.keyOf_int_mk hk hd)
  obtain ⟨x, rfl, hx⟩ := plainElem_bool_inv he hv
  rw [h2 d] at hx
  injection hx with hx _
  injection hx with hx
  injection hx with hx
  rw [hrun, ← hx]
theorem atKey_upd {D : DataW Unit} (hD : Maps.IsMap D) {d d' : Int} (x z : DataW Unit) (hd : (Lit.int .i64 d).wf = true) : (D.put (.int .i64 d) x).atKey (.int .i64 d') z = if d' = d then x else D.atKey (.int .i64 d') z := by
  by_cases he : d' = d
  · subst he
    rw [if_pos rfl]
    exact Maps.atKey_put_same hD (by first | exact hd | exact trivial | (simp [WideAt.IsKeyLit])) x z
  · rw [if_neg he]
    exact Maps.atKey_put_other (fun e => he (by injection e)) x z
theorem MapI.store {F : Int → Int} (h : MapI P kt et w b n F) (hk : P.underlying kt = some (.int .i64)) (ht : P.underlying mt = some (.map kt et)) (he : P.underlying et = some (.int .i64)) (hn : n < maxLen)
    (d c : Int) (hd : (Lit.int .i64 d).wf = true) (hc : (Lit.int .i64 c).wf = true) : ∃ w', (Instr.mapUpdate mt (.map (some b)) (.int .i64 d) (.int .i64 c)).run P w = .ok () w' ∧ MapI P kt et w' b (n + 1) (fun x => if x = d then c else F x) ∧ w.grownBy w' (some b) := by
  obtain ⟨D, h1, h2⟩ := h
  obtain ⟨w', r1, r2, r3⟩ := h1.update (Maps.int_keyed hk) ht hn (Maps.keyOf_int_mk hk hd) (plainElem_int he hc)
  refine ⟨w', r1, ⟨_, r2, fun x => ?_⟩, r3⟩
  rw [atKey_upd h1.isMap _ _ hd]
  by_cases hx : x = d
  · simp only [if_pos hx]
  · simp only [if_neg hx, h2]
theorem MapB.store {F : Int → Bool} (h : MapB P kt et w b n F) (hk : P.underlying kt = some (.int .i64)) (ht : P.underlying mt = some (.map kt et)) (he : P.underlying et = some .bool) (hn : n < maxLen)
    (d : Int) (c : Bool) (hd : (Lit.int .i64 d).wf = true) : ∃ w', (Instr.mapUpdate mt (.map (some b)) (.int .i64 d) (.bool c)).run P w = .ok () w' ∧ MapB P kt et w' b (n + 1) (fun x => if x = d then c else F x) ∧ w.grownBy w' (some b) := by
  obtain ⟨D, h1, h2⟩ := h
  obtain ⟨w', r1, r2, r3⟩ := h1.update (Maps.int_keyed hk) ht hn (Maps.keyOf_int_mk hk hd) (plainElem_bool he c)
  refine ⟨w', r1, ⟨_, r2, fun x => ?_⟩, r3⟩
  rw [atKey_upd h1.isMap _ _ hd]
  by_cases hx : x = d
  · simp only [if_pos hx]
  · simp only [if_neg hx, h2]
end

section
variable {P : Program} {kt et mt : TypeId} {w : World} {b n : Nat} {F : Fence} {nF : Nat}
theorem wpListIn_updI {ops : Array Oper} {rest : List Oper} {o : Oper} {a : Act} {Q : Exit → Act → World → Prop} (hg : o.guard = none) (m x v : Operand) (hop : o.op = Op.mapUpdate mt m x v)
    (hk : P.underlying kt = some (.int .i64)) (ht : P.underlying mt = some (.map kt et)) (he : P.underlying et = some (.int .i64)) {G : Int → Int} (hm : a.eval m = .map (some b)) (hown : MapI P kt et w b n G) (hn : n < maxLen)
    (d c : Int) (hx : a.eval x = .int .i64 d) (hv : a.eval v = .int .i64 c) (hd : (Lit.int .i64 d).wf = true) (hc : (Lit.int .i64 c).wf = true)
    (hK : ∀ w', Hid (MapI P kt et w' b (n + 1) (fun x => if x = d then c else G x)) → Hid (w.grownBy w' (some b)) → wpListIn F nF P ops Q rest (a.put o.dst undef) w') : wpListIn F nF P ops Q (o :: rest) a w := by
  refine wpListIn_plain hg fun K' hK' => ?_
  obtain ⟨w', hrun, r1, r2⟩ := hown.store hk ht he hn d c hd hc
  unfold Oper.wpIn
  refine ⟨by simp [Oper.about, hop], ?_⟩
  rw [Oper.semAt_plain F _ _ (by rw [hop]; intro c hc'; cases hc')]
  simp [execOp, hop, hm, hx, hv, hrun, Result.andThen]
  exact hK' _ _ (hK w' r1 r2)
theorem wpListIn_updB {ops : Array Oper} {rest : List Oper} {o : Oper} {a : Act} {Q : Exit → Act → World → Prop} (hg : o.guard = none) (m x v : Operand) (hop : o.op = Op.mapUpdate mt m x v)
    (hk : P.underlying kt = some (.int .i64)) (ht : P.underlying mt = some (.map kt et)) (he : P.underlying et = some .bool) {G : Int → Bool} (hm : a.eval m = .map (some b)) (hown : MapB P kt et w b n G) (hn : n < maxLen)
    (d : Int) (c : Bool) (hx : a.eval x = .int .i64 d) (hv : a.eval v = .bool c) (hd : (Lit.int .i64 d).wf = true)
    (hK : ∀ w', Hid (MapB P kt et w' b (n + 1) (fun x => if x = d then c else G x)) → Hid (w.grownBy w' (some b)) → wpListIn F nF P ops Q rest (a.put o.dst undef) w') : wpListIn F nF P ops Q (o :: rest) a w := by
  refine wpListIn_plain hg fun K' hK' => ?_
  obtain ⟨w', hrun, r1, r2⟩ := hown.store hk ht he hn d c hd
  unfold Oper.wpIn
  refine ⟨by simp [Oper.about, hop], ?_⟩
  rw [Oper.semAt_plain F _ _ (by rw [hop]; intro c hc'; cases hc')]
  simp [execOp, hop, hm, hx, hv, hrun, Result.andThen]
  exact hK' _ _ (hK w' r1 r2)
end
end Go.Proofs.Ytfffhdclbdmfnaa
