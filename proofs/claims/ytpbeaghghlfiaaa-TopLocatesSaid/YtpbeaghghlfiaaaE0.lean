/- The arguments opened. -/
import Derived.Test.YtpbeaghghlfiaaaD4
import Derived.Test.YtpbeaghghlfiaaaWn
import Derived.Lib.SmallJoins
import Derived.Test.YtpbeaghghlfiaaaRows
import Derived.WalkKit
import Derived.ProofKit
import Derived.OpenShut
import Derived.ChangeOld
import Derived.Below
import Derived.Deep.Slices
import Derived.Deep.Fields
namespace Go.Proofs.Ytpbeaghghlfiaaa
open Go.ChangeShapes Go.WideShapes Go.ChangeAt Go.RowKit Go.Deep
set_option linter.unusedVariables false
set_option linter.unusedSimpArgs false
theorem Try.cellsI : Try.prog.cellsOf 3 = 1 := by kernel_rfl
theorem Try.cellsU8 : Try.prog.cellsOf 5 = 1 := by kernel_rfl
theorem Try.cellsRow : Try.prog.cellsOf 30 = 1 := by kernel_rfl
theorem Try.cellsWr : Try.prog.cellsOf 32 = 2 := by kernel_rfl
theorem clist2 {α : Type} {l : List α} (h : l.length = 2) : ∃ c0 c1, l = [c0, c1] := by
  match l, h with
  | [c0, c1], _ => exact ⟨c0, c1, rfl⟩
theorem SlN.one {α : Type} {f : α → Value} {w : World} {B n : Nat} {A : Option Addr} {xs : List α} (h : SlN (fun x => [f x]) 1 w B A n xs) : Sl f w B A n xs := ⟨h.1, fun hn => by
  obtain ⟨b, off, e, hlt, hc⟩ := h.2 (by simpa using hn)
  refine ⟨b, off, e, hlt, fun k x hk => ?_⟩
  have := hc k x hk 0 (f x) rfl
  simpa using this⟩
instance : Inhabited Hd := ⟨⟨none, 0, 0⟩⟩
section
variable {H : Type} {enc : TypeId × Value → H} {W : World} {d : DataW H} {p : List MemPlace}
theorem in_slice {α : Type} [Inhabited α] {f : α → List Value} {s : Nat} {t e : TypeId} (ht : Try.prog.underlying t = some (.slice e)) (hC : Try.prog.cellsOf e = s) (hs0 : 0 < s) (hf : ∀ x, (f x).length = s) {Pr : α → Prop}
    (hel : ∀ (fuel : Nat) (cs : List Value) (y : DataW H × List MemPlace), DataW.trod enc Try.prog W 0 (fun _ => true) true fuel e cs = some y → ∃ x, cs = f x ∧ Pr x) {fuel : Nat} {cs : List Value} {y : DataW H × List MemPlace}
    (h : DataW.trod enc Try.prog W 0 (fun _ => true) true fuel t cs = some y) : ∃ a n c xs, cs = [.slice a n c] ∧ n ≤ c ∧ c ≤ maxLen ∧ SlN f s W W.heap.size a n xs ∧ ∀ x ∈ xs, Pr x := by
  rcases open_slice ht h with ⟨rfl, _⟩ | ⟨x, l, c, m, nn, D, Pl, rfl, _, hl, hm, hmm, _, hi⟩
  · exact ⟨none, 0, 0, [], rfl, Nat.le_refl _, Nat.zero_le _, SlN.nil, fun x hx => by cases hx⟩
  · simp only [if_true] at hmm
    subst hmm
    have each : ∀ i, i < l → ∃ r : α, (∀ j v, (f r)[j]? = some v → W.cell? (x.add (i * s + j)) = some v) ∧ Pr r := by
      intro i hil
      obtain ⟨cs', hc, ht'⟩ := hi i (by omega)
      rw [hC] at hc
      obtain ⟨_, hcl, hat⟩ := World.cells?_some hc
      obtain ⟨r, rfl, hr⟩ := hel _ _ _ ht'
      refine ⟨r, fun j v hv => ?_, hr⟩
      have hj : j < s := by have := (List.getElem?_eq_some_iff.1 hv).1; rw [hf] at this; exact this
      rw [← Go.Deep.add_add, hat j hj]
      exact hv
    obtain ⟨R, hR⟩ := choose_lt each
    refine ⟨some x, l, _, (List.range l).map R, rfl, hl, hm, ⟨by simp, fun hn => ?_⟩, fun z hz => ?_⟩
    · simp at hn
      obtain ⟨u, hu⟩ : ∃ u, (f (R 0))[0]? = some u := ⟨_, List.getElem?_eq_getElem (by rw [hf]; exact hs0)⟩
      have h0 := (hR 0 hn).1 0 u hu
      obtain ⟨b, off, spot⟩ := x
      have hspot : spot = none := by simpa [Addr.add] using World.cell?_spot h0
      subst hspot
      refine ⟨b, off, rfl, block_lt_of_cell (a := ⟨b, off, none⟩) (by simpa [Addr.add] using h0), fun i z hz' j v hv => ?_⟩
      rw [List.getElem?_map] at hz'
      have hil : i < l := by
        rcases Nat.lt_or_ge i l with h | h
        · exact h
        · rw [List.getElem?_eq_none (by simpa using h)] at hz'; cases hz'
      rw [List.getElem?_range hil] at hz'
      cases hz'
      have := (hR i hil).1 j v hv
      rw [Addr.add_mid] at this
      exact this
    · obtain ⟨i, hi', rfl⟩ := List.mem_map.1 hz
      exact (hR i (List.mem_range.1 hi')).2
theorem in_bts {fuel : Nat} {cs : List Value} {y : DataW H × List MemPlace} (h : DataW.trod enc Try.prog W 0 (fun _ => true) true fuel 30 cs = some y) : ∃ a n c xs, cs = [.slice a n c] ∧ Sl fN W W.heap.size a n xs ∧ Bys xs := by
  obtain ⟨a, n, c, xs, e, _, _, h2, h3⟩ := in_slice (f := fun s => [fN s]) (s := 1) (Pr := fun x : Nat => x < 256) Try.underlying30 Try.cellsU8 (by decide) (fun _ => rfl) (fun _ _ _ h => by
    obtain ⟨z, e, _, hw⟩ := DataW.trod_int Try.underlying5 h
    simp [Lit.wf, IntKind.min, IntKind.max, IntKind.signed, IntKind.bits] at hw
    obtain ⟨k, rfl⟩ : ∃ k : Nat, z = (k : Int) := ⟨z.toNat, by omega⟩
    exact ⟨k, e, by omega⟩) h
  exact ⟨a, n, c, xs, e, h2.one, h3⟩
theorem choose_rows {hs : List Hd} (h : ∀ x ∈ hs, ∃ r, Sl fN W W.heap.size x.a x.n r ∧ Bys r) : ∃ bl : Mt, bl.length = hs.length ∧ (∀ (k : Nat) hd r, hs[k]? = some hd → bl[k]? = some r → Sl fN W W.heap.size hd.a hd.n r) ∧ ∀ r ∈ bl, Bys r := by
  induction hs with
  | nil => exact ⟨[], rfl, fun k hd r h => by simp at h, fun r h => by cases h⟩
  | cons x hs ih =>
    obtain ⟨r0, h1, h2⟩ := h x List.mem_cons_self
    obtain ⟨bl, e, h3, h4⟩ := ih (fun y hy => h y (List.mem_cons_of_mem _ hy))
    refine ⟨r0 :: bl, by simp [e], fun k hd r p1 p2 => ?_, fun r hr => ?_⟩
    · cases k with
      | zero => simp at p1 p2; subst p1 p2; exact h1
      | succ k => exact h3 k hd r (by simpa using p1) (by simpa using p2)
    · rcases List.mem_cons.1 hr with rfl | h
      · exact h2
      · exact h4 r h
set_option maxRecDepth 20000 in
theorem w_rows {r : Reach} {b0 : Nat} {v : Value} (hv : Value.okWide Try.prog W r b0 22 v) (h : DataW.Trod enc Try.prog W 0 (fun _ => true) true 22 v d p) : ∃ A n c bl, v = .slice A n c ∧ n ≤ maxLen ∧ SLL fN W W.heap.size A n bl ∧ ∀ r ∈ bl, Bys r := by
  obtain ⟨a, len, cap, rfl⟩ := okWide_slice Try.underlying22 hv
  obtain ⟨fuel, hf⟩ := h
  obtain ⟨A, n, c, hs, e, h1, h0, h2, h3⟩ := in_slice (f := fun x => [fS x]) (s := 1) (Pr := fun x : Hd => ∃ r, Sl fN W W.heap.size x.a x.n r ∧ Bys r) Try.underlying22 Try.cellsRow (by decide) (fun _ => rfl) (fun _ _ _ h => by
    obtain ⟨a, n, c, xs, e, p1, p2⟩ := in_bts h
    exact ⟨⟨a, n, c⟩, e, xs, p1, p2⟩) hf
  simp [Value.cells] at e
  obtain ⟨rfl, rfl, rfl⟩ := e
  obtain ⟨bl, q1, q2, q3⟩ := choose_rows h3
  have h4 := h2.one
  exact ⟨_, _, _, bl, rfl, Nat.le_trans h1 h0, ⟨hs, h4, q1.trans h4.1, q2⟩, q3⟩
abbrev fWr (x : Int × Hd) : List Value := [.int .i64 x.1, .slice x.2.a x.2.n x.2.c]
set_option maxRecDepth 20000 in
theorem w_wrong {r : Reach} {b0 : Nat} {v : Value} (hv : Value.okWide Try.prog W r b0 23 v) (h : DataW.Trod enc Try.prog W 0 (fun _ => true) true 23 v d p) : ∃ A n c, v = .slice A n c ∧ n ≤ maxLen ∧ WrO W W.heap.size A n := by
  obtain ⟨a, len, cap, rfl⟩ := okWide_slice Try.underlying23 hv
  obtain ⟨fuel, hf⟩ := h
  obtain ⟨A, n, c, hs, e, h1, h0, h2, h3⟩ := in_slice (f := fWr) (s := 2) (Pr := fun x : Int × Hd => ∃ r, Sl fN W W.heap.size x.2.a x.2.n r ∧ Bys r) Try.underlying23 Try.cellsWr (by decide) (fun _ => rfl) (fun _ cs _ h => by
    obtain ⟨ys, n, _, _, hcl, hyl, hfld⟩ := DataW.trod_struct Try.underlying32 h
    rw [Try.cellsWr] at hcl
    obtain ⟨c0, c1, rfl⟩ := clist2 hcl
    obtain ⟨y0, y1, rfl⟩ := clist2 hyl
    have f0 : DataW.trod enc Try.prog W 0 (fun _ => true) true n 3 (([c0, c1].drop 0).take (Try.prog.cellsOf 3)) = [y0, y1][0]? := hfld 0 _ rfl
    rw [Try.cellsI] at f0
    have f1 : DataW.trod enc Try.prog W 0 (fun _ => true) true n 30 (([c0, c1].drop 1).take (Try.prog.cellsOf 30)) = [y0, y1][1]? := hfld 1 _ rfl
    rw [Try.cellsRow] at f1
    obtain ⟨z, e0, _, _⟩ := DataW.trod_int Try.underlying3 f0
    obtain ⟨a, m, c, xs, e1, p1, p2⟩ := in_bts f1
    simp at e0 e1
    exact ⟨(z, ⟨a, m, c⟩), by rw [e0, e1], xs, p1, p2⟩) hf
  simp [Value.cells] at e
  obtain ⟨rfl, rfl, rfl⟩ := e
  refine ⟨_, _, _, rfl, Nat.le_trans h1 h0, fun k hk => ?_⟩
  obtain ⟨b, off, x, hA, hb, hx, hc⟩ := h2.at_ hk
  obtain ⟨r, p1, p2⟩ := h3 x (List.mem_of_getElem? hx)
  refine ⟨b, off, x.1, x.2.a, x.2.n, x.2.c, r, hA, hb, hc 0 _ rfl, ?_, p1, p2⟩
  have := hc 1 _ rfl
  rwa [← Nat.add_assoc] at this
end
end Go.Proofs.Ytpbeaghghlfiaaa
