/- The set of pieces: a map from piece IDs to bools. -/
import Derived.DeepKeys4
import Derived.WideKeyArgs2
import Derived.Maps.Own
import Derived.Maps.OwnIn
import Derived.Maps.OwnSet
import Derived.Maps.Views
import Derived.Test.YtnfkjnmdfijhnaaGreatDoorZ8
namespace Go.Proofs.YtnfkjnmdfijhnaaGreatDoor
open Go.RowKit
set_option linter.unusedVariables false
set_option linter.unusedSimpArgs false

theorem Pid.laid : laidOutB Tryz.prog = true := by kernel_rfl
theorem Pid.law : Maps.Keyed Tryz.prog 23 := Maps.Keyed.of_law (deep_law_laid Pid.laid (m := 2) (by omega) (of_decide_eq_true (by kernel_rfl)) (by kernel_rfl) (by kernel_rfl))
theorem Pid.size : Tryz.prog.types.size = Tryz.prog.types.size - 2 + 1 + 1 := by
  have h : 2 ≤ Tryz.prog.types.size := of_decide_eq_true (by kernel_rfl)
  omega
theorem Pid.keyT : Tryz.prog.keyType 23 = true := by kernel_rfl
theorem Pid.cells : Tryz.prog.cellsOf 23 = 2 := by kernel_rfl
theorem Pid.icells : Tryz.prog.cellsOf 3 = 1 := by kernel_rfl
theorem Pid.scells : Tryz.prog.cellsOf 9 = 1 := by kernel_rfl
def pP (s : ByteArray) (y : Int) : Value := .agg #[.string s, .int .i64 y]
/-- The key of a piece ID, read. -/
noncomputable def kP (s : ByteArray) (y : Int) : Lit := .string (keyBytes [.string s.data.toList, .int .i64 y])
/-- Ints that Go can hold. -/
def int64 (x : Int) : Prop := -9223372036854775808 ≤ x ∧ x ≤ 9223372036854775807
theorem int64.wf {x : Int} (h : int64 x) : (Lit.int .i64 x).wf = true := WalkArith.wf_i64 h
def okP (s : ByteArray) (y : Int) : Prop := s.size ≤ maxLen ∧ int64 y
theorem kP_of {s : ByteArray} {y : Int} (h : okP s y) : keyOf Tryz.prog 23 (pP s y) = some (kP s y) := by
  have hy := h.2.wf
  have hs := h.1
  have hf : (pP s y).formed Tryz.prog 23 = true := by simp [pP, Value.formed, Tryz.underlying23, Pid.cells]
  unfold keyOf
  simp only [Tryz.underlying23]
  rw [if_pos (by simp [Pid.keyT, hf]), Pid.size]
  unfold Program.keyLits
  simp only [Tryz.underlying23, Value.cells, pP]
  rw [if_pos (by simp [Pid.cells])]
  unfold Program.keyLits
  simp [Tryz.underlying3, Tryz.underlying9, Pid.icells, Pid.scells, hy, hs, kP]
theorem kP_inj {x x' : ByteArray} {y y' : Int} (h : okP x y) (h' : okP x' y') (e : kP x y = kP x' y') : x = x' ∧ y = y' := by
  have h1 := Pid.law.inj (kP_of h) (e ▸ kP_of h')
  simp [pP] at h1
  exact h1
theorem kP_key {x : ByteArray} {y : Int} (h : okP x y) : WideAt.IsKeyLit (kP x y) := Pid.law.key (kP_of h)
theorem Pid.zero (w : World) : (zeroValue 4).run Tryz.prog w = .ok (.bool false) w := by kernel_rfl
open Classical in
/-- A piece is on the list. -/
noncomputable def pinB (L : List (ByteArray × Int)) (p : ByteArray × Int) : Bool := decide (p ∈ L)
theorem pinB_yes {L : List (ByteArray × Int)} {p : ByteArray × Int} (h : p ∈ L) : pinB L p = true := by unfold pinB; simp [h]
theorem pinB_no {L : List (ByteArray × Int)} {p : ByteArray × Int} (h : p ∉ L) : pinB L p = false := by unfold pinB; simp [h]
/-- Block b is a set of pieces. -/
def MapP (w : World) (b n : Nat) (L : List (ByteArray × Int)) : Prop :=
  ∃ D : DataW Unit, w.ownsMap Tryz.prog 23 (plainElem Tryz.prog 4) b n D ∧ ∀ x y, okP x y → D.atKey (kP x y) (.lit (.bool false)) = .lit (.bool (pinB L (x, y)))
theorem MapP.made (w : World) : MapP (w.alloc (.map #[] 0)) w.heap.size 0 [] := ⟨_, World.ownsMap_made w Tryz.prog _ _, fun x y _ => by rw [pinB_no (by simp)]; simp [DataW.atKey]⟩
section
variable {w w' : World} {b n : Nat} {L : List (ByteArray × Int)}
theorem MapP.kept {row : Option Nat} (h : MapP w b n L) (hg : w.grownBy w' row) (hne : some b ≠ row) : MapP w' b n L := by
  obtain ⟨D, h1, h2⟩ := h
  exact ⟨D, h1.kept hg hne, h2⟩
theorem MapP.block (h : MapP w b n L) (hb : w'.heap[b]? = w.heap[b]?) : MapP w' b n L := by
  obtain ⟨D, ⟨es, ck, h1, h2⟩, h3⟩ := h
  exact ⟨D, ⟨es, ck, hb.trans h1, h2⟩, h3⟩
theorem MapP.lt (h : MapP w b n L) : b < w.heap.size := by
  obtain ⟨D, h1, _⟩ := h
  exact h1.lt
theorem elem_bool_inv {H : Type} {P : Program} {e : TypeId} (he : P.underlying e = some .bool) {v : Value} {r : DataW H × List MemPlace} (h : plainElem P e v = some r) : ∃ x, v = .bool x ∧ r = (.lit (.bool x), []) := by
  unfold plainElem at h
  rw [he] at h
  cases v <;> simp at h
  exact ⟨_, rfl, h.symm⟩
theorem look_gen {P : Program} {kt et mt : TypeId} {D : DataW Unit} (h1 : w.ownsMap P kt (plainElem P et) b n D) (law : Maps.Keyed P kt) (ht : P.underlying mt = some (.map kt et)) (he : P.underlying et = some .bool)
    (hz : (zeroValue et).run P w = .ok (.bool false) w) {key : Value} {l : Lit} (hk : keyOf P kt key = some l) {x : Bool} (h2 : D.atKey l (.lit (.bool false)) = .lit (.bool x)) : (Instr.lookup mt (.map (some b)) key false).run P w = .ok (.bool x) w := by
  obtain ⟨v, ps, hrun, hv⟩ := h1.lookup law ht hz (plainElem_bool he false) hk
  obtain ⟨c, rfl, hc⟩ := elem_bool_inv he hv
  rw [h2] at hc
  injection hc with hc _
  injection hc with hc
  injection hc with hc
  rw [hrun, ← hc]
/-- A look-up, as an equation on the operation. -/
theorem MapP.look (h : MapP w b n L) (x : ByteArray) (y : Int) (hx : okP x y) : (Instr.lookup 124 (.map (some b)) (pP x y) false).run Tryz.prog w = .ok (.bool (pinB L (x, y))) w := by
  obtain ⟨D, h1, h2⟩ := h
  exact look_gen h1 Pid.law Tryz.underlying124 Tryz.underlying4 (Pid.zero w) (kP_of hx) (h2 x y hx)
theorem MapP.store (h : MapP w b n L) (hn : n < maxLen) (x : ByteArray) (y : Int) (hx : okP x y) :
    ∃ w', (Instr.mapUpdate 124 (.map (some b)) (pP x y) (.bool true)).run Tryz.prog w = .ok () w' ∧ MapP w' b (n + 1) (L ++ [(x, y)]) ∧ w.grownBy w' (some b) := by
  obtain ⟨D, h1, h2⟩ := h
  obtain ⟨w', r1, r2, r3⟩ := h1.update Pid.law Tryz.underlying124 hn (kP_of hx) (plainElem_bool Tryz.underlying4 true)
  refine ⟨w', r1, ⟨_, r2, fun u v hu => ?_⟩, r3⟩
  show _ = DataW.lit (.bool (pinB (L ++ [(x, y)]) (u, v)))
  by_cases he : u = x ∧ v = y
  · obtain ⟨rfl, rfl⟩ := he
    rw [pinB_yes (show (u, v) ∈ L ++ [(u, v)] by simp)]
    exact Maps.atKey_put_same h1.isMap (kP_key hu) _ _
  · rw [show pinB (L ++ [(x, y)]) (u, v) = pinB L (u, v) by
      by_cases hm : (u, v) ∈ L
      · rw [pinB_yes hm, pinB_yes (by simp [hm])]
      · rw [pinB_no hm, pinB_no (by simp [hm, he])], Maps.atKey_put_other (fun e => he (kP_inj hu hx e))]
    exact h2 u v hu
end
end Go.Proofs.YtnfkjnmdfijhnaaGreatDoor
