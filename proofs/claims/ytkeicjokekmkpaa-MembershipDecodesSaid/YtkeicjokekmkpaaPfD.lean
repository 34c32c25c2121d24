/-
  The row's proof: for every input the law returns true and its arguments read as before. No condition. The shell is the guide's proof-skeleton.mjs's, turned to this law's parameters; the walk is ours.
-/
import Derived.Test.YtkeicjokekmkpaaRows
import Derived.Test.YtkeicjokekmkpaaLd
import Derived.Test.YtkeicjokekmkpaaOp
import Derived.WalkKit
import Derived.ProofKit
import Derived.OpenShut
import Derived.ShutString
import Derived.ChangeOld
import Derived.Below
namespace Go.Proofs.Ytkeicjokekmkpaa
open Go.ChangeShapes Go.WideShapes Go.ChangeAt Go.RowKit Go.Deep Mb
/-- Bytes that came in. -/
theorem in_bytes {H : Type} {enc : TypeId × Value → H} {W : World} {fuel : Nat} {A : Option Addr} {n c : Nat} {x : DataW H × List MemPlace} (h : DataW.trod enc Try.prog W 0 (fun _ => true) true fuel 41 (Value.cells (.slice A n c)).toList = some x) : ∃ bs, Sl fB W W.heap.size A n bs ∧ ∀ b ∈ bs, 0 ≤ b ∧ b < 256 := by
  rcases open_ints Try.underlying41 Try.underlying5 (by kernel_rfl) h with ⟨hcs, _⟩ | ⟨x, l, cc, zs, hcs, _, hl, hm, hz, _, hcell, hwz⟩
  · simp [Value.cells] at hcs
    obtain ⟨rfl, rfl, rfl⟩ := hcs
    exact ⟨[], ⟨rfl, SL.nil⟩, fun b hb => by cases hb⟩
  · simp [Value.cells] at hcs
    obtain ⟨rfl, rfl, rfl⟩ := hcs
    refine ⟨zs.take n, ⟨?_, fun hn => ?_⟩, fun b hb => ?_⟩
    · simp only [if_true] at hz
      rw [List.length_take]; omega
    · simp only [if_true] at hz
      rw [List.length_take] at hn
      have h0 := hcell 0 (by omega)
      obtain ⟨b, off, spot⟩ := x
      have hspot : spot = none := by simpa [Addr.add] using World.cell?_spot h0
      subst hspot
      refine ⟨b, off, rfl, block_lt_of_cell (a := ⟨b, off, none⟩) (by simpa [Addr.add] using h0), fun i z hz' => ?_⟩
      have hi : i < n := by have := (List.getElem?_eq_some_iff.1 hz').1; rw [List.length_take] at this; omega
      have := hcell i (by omega)
      rw [Addr.add_mid] at this
      rw [this]
      rw [List.getElem?_take, if_pos hi] at hz'
      rw [getD_of hz']
    · have h5 := hwz b (List.mem_of_mem_take hb)
      simp [Lit.wf, IntKind.min, IntKind.max, IntKind.signed, IntKind.bits] at h5
      omega
end Go.Proofs.Ytkeicjokekmkpaa
namespace Go.Proofs.Ytkeicjokekmkpaa.membershipDecodes
open Go.ChangeShapes Go.WideShapes Go.ChangeAt Go.RowKit
open Go.ChangeMaps (open_string shut_string)
set_option linter.unusedVariables false

theorem own : ownKnob Try.prog.godebug = none := by kernel_rfl
theorem laidOut : laidOutB Try.prog = true := by kernel_rfl

/-! The row's step. -/
set_option maxRecDepth 100000 in
theorem lifted (os : Os) (started : os.Started) (H : Type) (enc : TypeId × Value → H) :
    ReturnsInHanded {} Try.checked os 5 .any (Rows.membershipDecodesSpec.pre6 enc Try.prog Try.f5 Rows.membershipDecodesRow.domain false) (Rows.membershipDecodesSpec.post enc Try.prog Try.f5 false true false false) := by
  refine returnsInHanded_of_change (C := Try.checked) own started (by kernel_rfl) Try.func5
    (ChangeSpec.witness6 (enc := enc) (C := Try.checked) false ⟨#[], #[.slice none 0 0, .slice none 0 0], []⟩ 8 (by kernel_rfl) (by kernel_rfl) (by kernel_rfl) (by kernel_rfl)) ?_
  intro W base args ds gs before hval0 hW hcnd _
  have hval : ∀ (j : Nat) t v, Try.f5.params[j]? = some t → args[j]? = some v → Value.okWide Try.prog W .any base t v := hval0
  have hW' := hW
  obtain ⟨p, q, hA0, hV, rfl, hfz, hnd⟩ := hW
  have hA : DataW.TrodAll enc Try.prog W 0 (fun _ => true) true Try.f5.params.toList args.toList ds p := hA0
  rw [Try.params5] at hA hval
  obtain ⟨v0, vs0, d0, ds0, p0, q0, hargs, rfl, rfl, h0, r0⟩ := trodAll_cons hA
  obtain ⟨v1, vs1, d1, ds1, p1, q1, rfl, rfl, rfl, h1, r1⟩ := trodAll_cons r0
  obtain ⟨rfl, rfl, rfl⟩ := trodAll_nil r1
  obtain rfl : args = #[v0, v1] := by cases args; simp_all
  obtain ⟨rfl, rfl⟩ := trodVars_none hV
  obtain ⟨A, n, c, rfl⟩ := okWide_slice Try.underlying41 (hval 0 41 v0 rfl rfl)
  obtain ⟨A'', n'', c'', rfl⟩ := okWide_slice Try.underlying24 (hval 1 24 v1 rfl rfl)
  have k0 := h0
  have k1 := h1
  have lt0 : ∀ x ∈ p0, x.block < W.heap.size := by obtain ⟨m, hm⟩ := k0; exact DataW.trod_lt m _ _ _ hm
  have lt1 : ∀ x ∈ p1, x.block < W.heap.size := by obtain ⟨m, hm⟩ := k1; exact DataW.trod_lt m _ _ _ hm
  obtain ⟨bs, hbs, hbr⟩ : ∃ bs, Sl fB W W.heap.size A n bs ∧ ∀ b ∈ bs, 0 ≤ b ∧ b < 256 := by
    obtain ⟨fuel, hf⟩ := h0
    exact in_bytes hf
  obtain ⟨xs, hxs, hxz⟩ : ∃ xs, SlN fX 9 W W.heap.size A'' n'' xs ∧ ∀ x ∈ xs, x.m.name.size ≤ maxLen ∧ x.m.pub.size ≤ maxLen := by
    obtain ⟨fuel, hf⟩ := h1
    obtain ⟨a, m, c2, xs, e3, _, _, hxs, hxz⟩ := in_slice (f := fX) (s := 9) (Pr := fun x : Mb.Chn => x.m.name.size ≤ maxLen ∧ x.m.pub.size ≤ maxLen) Try.underlying24 Try.cellsX (by decide) fX_len (fun _ _ _ h => in_chn h) hf
    simp [Value.cells] at e3
    obtain ⟨rfl, rfl, rfl⟩ := e3
    exact ⟨xs, hxs, hxz⟩
  clear hA0 hval0
  refine (lawDecodes_any A n c A'' n'' c'' bs xs W ⟨hbs, hbr, hxs, hxz⟩).mono fun e W' ⟨he, bel⟩ => ?_
  subst he
  exact ⟨_, rfl, _, _, _, [], _, [], hW', trodAll_mk1 (shut_bool Try.underlying4 _), (trodAll_cons_mk (Below.trod laidOut (by kernel_rfl) (of_decide_eq_true (by kernel_rfl)) k0 bel lt0) (trodAll_cons_mk (Below.trod laidOut (by kernel_rfl) (of_decide_eq_true (by kernel_rfl)) k1 bel lt1) trodAll_mk0)), rfl, bel.frame _, fun h => by cases h⟩

theorem over : Rows.membershipDecodesRow.holds Try.pinned (OpenSpec.ofChange Rows.membershipDecodesSpec) :=
  OpenClaim.holds_of_wide 5 Try.f5 rfl rfl rfl rfl rfl rfl rfl ⟨rfl, rfl, rfl, rfl, rfl⟩ rfl rfl rfl rfl rfl (by kernel_rfl) Try.func5 (by kernel_rfl)
    (of_decide_eq_true (by kernel_rfl)) (by unfold Func.isWrapper; first | (rw [if_pos (by decide +kernel)]; kernel_rfl) | (rw [if_neg (by decide +kernel)]; exact ⟨rfl, rfl⟩))
    (fun os started H enc _ => lifted os started H enc)

/-- The statement. -/
theorem proved : Rows.MembershipDecodesSaid := over
#print axioms proved
end Go.Proofs.Ytkeicjokekmkpaa.membershipDecodes
