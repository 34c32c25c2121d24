/- The map of votes: who has voted to expel whom. -/
import Derived.DeepKeys4
import Derived.WideKeyArgs2
import Derived.Maps.Own
import Derived.Maps.OwnIn
import Derived.Maps.OwnSet
import Derived.Maps.Views
import Derived.Test.YtkeicjokekmkpaaWk
import Derived.Test.YtkeicjokekmkpaaLf
namespace Go.Proofs.Ytkeicjokekmkpaa
open Go.RowKit Mb
set_option linter.unusedVariables false
set_option linter.unusedSimpArgs false

theorem Vote.laid : laidOutB Try.prog = true := by kernel_rfl
theorem Vote.law : Maps.Keyed Try.prog 107 := Maps.Keyed.of_law (deep_law_laid Vote.laid (m := 2) (by omega) (of_decide_eq_true (by kernel_rfl)) (by kernel_rfl) (by kernel_rfl))
theorem Vote.size : Try.prog.types.size = Try.prog.types.size - 2 + 1 + 1 := by
  have h : 2 ≤ Try.prog.types.size := of_decide_eq_true (by kernel_rfl)
  omega
theorem Vote.keyT : Try.prog.keyType 107 = true := by kernel_rfl
theorem Vote.cells : Try.prog.cellsOf 107 = 2 := by kernel_rfl
theorem Vote.icells : Try.prog.cellsOf 3 = 1 := by kernel_rfl
/-- The key of a vote, read. -/
noncomputable def kV (x y : Int) : Lit := .string (keyBytes [.int .i64 x, .int .i64 y])
def pV (x y : Int) : Value := .agg #[.int .i64 x, .int .i64 y]
theorem kV_of {x y : Int} (hx : (Lit.int .i64 x).wf = true) (hy : (Lit.int .i64 y).wf = true) : keyOf Try.prog 107 (pV x y) = some (kV x y) := by
  have hf : (pV x y).formed Try.prog 107 = true := by simp [pV, Value.formed, Try.underlying107, Vote.cells]
  unfold keyOf
  simp only [Try.underlying107]
  rw [if_pos (by simp [Vote.keyT, hf]), Vote.size]
  unfold Program.keyLits
  simp only [Try.underlying107, Value.cells, pV]
  rw [if_pos (by simp [Vote.cells])]
  unfold Program.keyLits
  simp [Try.underlying3, Vote.icells, hx, hy, kV]
/-- Ints that Go can hold. -/
def int64 (x : Int) : Prop := -9223372036854775808 ≤ x ∧ x ≤ 9223372036854775807
theorem int64.wf {x : Int} (h : int64 x) : (Lit.int .i64 x).wf = true := WalkArith.wf_i64 h
theorem kV_inj {x y x' y' : Int} (hx : int64 x) (hy : int64 y) (hx' : int64 x') (hy' : int64 y') (h : kV x y = kV x' y') : x = x' ∧ y = y' := by
  have h1 := Vote.law.inj (kV_of hx.wf hy.wf) (h ▸ kV_of hx'.wf hy'.wf)
  simp [pV] at h1
  exact h1
theorem kV_key {x y : Int} (hx : int64 x) (hy : int64 y) : WideAt.IsKeyLit (kV x y) := Vote.law.key (kV_of hx.wf hy.wf)
theorem Vote.zero (w : World) : (zeroValue 4).run Try.prog w = .ok (.bool false) w := by kernel_rfl
/-- Block b is a map of votes that reads as F. -/
def MapV (w : World) (b n : Nat) (F : Int → Int → Bool) : Prop :=
  ∃ D : DataW Unit, w.ownsMap Try.prog 107 (plainElem Try.prog 4) b n D ∧ ∀ x y, int64 x → int64 y → D.atKey (kV x y) (.lit (.bool false)) = .lit (.bool (F x y))
theorem MapV.made (w : World) : MapV (w.alloc (.map #[] 0)) w.heap.size 0 (fun _ _ => false) := ⟨_, World.ownsMap_made w Try.prog _ _, fun x y _ _ => by simp [DataW.atKey]⟩
theorem MapV.empty {w : World} {b : Nat} (h : w.heap[b]? = some (.map #[] 0)) : MapV w b 0 (fun x y => ([] : List (Int × Int)).contains (x, y)) :=
  ⟨.map [], ⟨#[], 0, h, ⟨by simp, (by exact ⟨by simp, by simp, by simp⟩), by simp⟩, Nat.le_refl _, rfl⟩, fun x y _ _ => by simp [DataW.atKey]⟩
section
variable {w w' : World} {b n : Nat} {F G : Int → Int → Bool}
theorem MapV.kept {row : Option Nat} (h : MapV w b n F) (hg : w.grownBy w' row) (hne : some b ≠ row) : MapV w' b n F := by
  obtain ⟨D, h1, h2⟩ := h
  exact ⟨D, h1.kept hg hne, h2⟩
theorem MapV.block (h : MapV w b n F) (hb : w'.heap[b]? = w.heap[b]?) : MapV w' b n F := by
  obtain ⟨D, ⟨es, ck, h1, h2⟩, h3⟩ := h
  exact ⟨D, ⟨es, ck, hb.trans h1, h2⟩, h3⟩
theorem MapV.lt (h : MapV w b n F) : b < w.heap.size := by
  obtain ⟨D, h1, _⟩ := h
  exact h1.lt
theorem MapV.mono {n' : Nat} (h : MapV w b n F) (hn : n ≤ n') : MapV w b n' F := by
  obtain ⟨D, h1, h5⟩ := h
  exact ⟨D, h1.mono hn, h5⟩
theorem MapV.congr (h : MapV w b n F) (he : ∀ x y, F x y = G x y) : MapV w b n G := by
  obtain ⟨D, h1, h2⟩ := h
  exact ⟨D, h1, fun x y hx hy => by rw [← he]; exact h2 x y hx hy⟩
theorem elem_bool_inv {H : Type} {P : Program} {e : TypeId} (he : P.underlying e = some .bool) {v : Value} {r : DataW H × List MemPlace} (h : plainElem P e v = some r) : ∃ x, v = .bool x ∧ r = (.lit (.bool x), []) := by
  unfold plainElem at h
  rw [he] at h
  cases v <;> simp at h
  exact ⟨_, rfl, h.symm⟩
theorem look_gen {P : Program} {kt et mt : TypeId} {D : DataW Unit} (h1 : w.ownsMap P kt (plainElem P et) b n D) (law : Maps.Keyed P kt) (ht : P.underlying mt = some (.map kt et)) (he : P.underlying et = some .bool)
    (hz : (zeroValue et).run P w = .ok (.bool false) w) {key : Value} {l : Lit} (hk : keyOf P kt key = some l) {x : Bool} (h2 : D.atKey l (.lit (.bool false)) = .lit (.bool x)) : (Instr.lookup mt (.map (some b)) key false).run P w = .ok (.bool x) w := by
  obtain ⟨v, ps, hrun, hv⟩ := h1.lookup law ht hz (plainElem_bool he false) hk
  obtain ⟨c, rfl, hc⟩ := elem_bool_inv he hv
  rw [h2] at hc
  injection hc with hc _
  injection hc with hc
  injection hc with hc
  rw [hrun, ← hc]
/-- A look-up, as an equation on the operation. -/
theorem MapV.look (h : MapV w b n F) (x y : Int) (hx : int64 x) (hy : int64 y) : (Instr.lookup 67 (.map (some b)) (pV x y) false).run Try.prog w = .ok (.bool (F x y)) w := by
  obtain ⟨D, h1, h2⟩ := h
  exact look_gen h1 Vote.law Try.underlying67 Try.underlying4 (Vote.zero w) (kV_of hx.wf hy.wf) (h2 x y hx hy)
theorem MapV.store (h : MapV w b n F) (hn : n < maxLen) (x y : Int) (hx : int64 x) (hy : int64 y) (c : Bool) :
    ∃ w', (Instr.mapUpdate 67 (.map (some b)) (pV x y) (.bool c)).run Try.prog w = .ok () w' ∧ MapV w' b (n + 1) (fun u v => if u = x ∧ v = y then c else F u v) ∧ w.grownBy w' (some b) := by
  obtain ⟨D, h1, h2⟩ := h
  obtain ⟨w', r1, r2, r3⟩ := h1.update Vote.law Try.underlying67 hn (kV_of hx.wf hy.wf) (plainElem_bool Try.underlying4 c)
  refine ⟨w', r1, ⟨_, r2, fun u v hu hv => ?_⟩, r3⟩
  show _ = DataW.lit (.bool (if u = x ∧ v = y then c else F u v))
  by_cases he : u = x ∧ v = y
  · obtain ⟨rfl, rfl⟩ := he
    rw [if_pos ⟨rfl, rfl⟩]
    exact Maps.atKey_put_same h1.isMap (kV_key hu hv) _ _
  · rw [if_neg he, Maps.atKey_put_other (fun e => he (kV_inj hu hv hx hy e))]
    exact h2 u v hu hv
end
end Go.Proofs.Ytkeicjokekmkpaa
