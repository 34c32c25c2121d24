/- The law New. -/
import Derived.Test.YtafhpomoobdmdaaBu
import Derived.Test.YtafhpomoobdmdaaRn
import Derived.Test.YtafhpomoobdmdaaSm
namespace Go.Proofs.Ytafhpomoobdmdaa
open Go.RowKit Mb
set_option linter.unusedVariables false
set_option linter.unusedSimpArgs false

section
variable {W V : World} {A A' A'' : Option Addr} {n c n' c' n'' c'' : Nat} {ms : List Mem} {ps : List VP} {xs : List Chn}
theorem rnew_set (q : Int) (h : InSet V A n c A' n' c' A'' n'' c'' ms ps xs) : Calls Try.prog 19 #[.slice A n c, .slice A' n' c', .int .i64 q] V (RNewP ms (ps.map Prod.fst) ps q V) := by
  cases hh : headB n n' q
  · exact rnew_head A A' n n' c c' q ms ps V hh h.fms.1 h.fvs.1
  · exact rnew_go A A' n n' c c' q ms ps V hh h.cap h.fms (fun m hm => h.sz m hm) ⟨h.fvs, fun p hp => (h.vk p hp).1⟩ (fun p hp => ⟨Nat.le_trans (h.vk p hp).2.1 (h.vk p hp).2.2.1, (h.vk p hp).2.2.2⟩)
end
set_option maxRecDepth 20000 in
set_option maxHeartbeats 8000000 in
theorem lawNew_any (A : Option Addr) (n c : Nat) (A' : Option Addr) (n' c' : Nat) (q : Int) (A'' : Option Addr) (n'' c'' : Nat) (ms : List Mem) (ps : List VP) (xs : List Chn) (w : World) (hx : InSet w A n c A' n' c' A'' n'' c'' ms ps xs) :
    Calls Try.prog 5 #[aSet A n c A' n' c' q A'' n'' c''] w (BoolB true w) := by
  obtain ⟨W, hW⟩ : ∃ W : World, W = w.alloc (oSet A n c A' n' c' q A'' n'' c'') := ⟨_, rfl⟩
  have hB : Below w.heap.size w W := by rw [hW]; exact (Below.refl _ _).alloc (Nat.le_refl _) _
  have hG : W.heap[w.heap.size]? = some (oSet A n c A' n' c' q A'' n'' c'') := by rw [hW]; exact heap_alloc_new w _
  have HX := Lib.hid (hx.on hB)
  have HB := Lib.hid hB
  have HG := Lib.hid hG
  have HW := Lib.hid hW
  have HGL := Lib.hid (lt_of_block hG)
  clear hx hB hG hW
  go_enter Try.func5, Try.ntmps5
  go_wp2_with fail
  refine (show Calls Try.prog 7 _ _ (BoolB true W) from HW.out ▸ awake_any W).mono ?_
  rintro e w1 ⟨rfl, hb⟩
  have HB1 : Hid (Below W.heap.size W w1) := hb
  obtain ⟨s0, s1, s2, s3⟩ := four_of ((hb.block _ HGL.out).trans HG.out)
  clear hb
  go_wp2_with fail
  refine (small_any A n c A' n' c' q A'' n'' c'' w1).mono ?_
  rintro e w2 ⟨rfl, hb⟩
  have HB2 : Hid (Below W.heap.size W w2) := HB1.out.trans (hb.mono HB1.out.size)
  clear hb s0 s1 s2 s3
  obtain ⟨sm, hsm⟩ : ∃ z, smallB n n' n'' = z := ⟨_, rfl⟩
  rw [hsm]
  cases sm
  · clear hsm
    go_wp2_with fail
    go_ret
    exact ⟨rfl, HB.out.trans (HB2.out.mono HB.out.size)⟩
  have hn : n ≤ 14 ∧ n' ≤ 14 ∧ n'' ≤ 40 := by unfold smallB at hsm; simpa using hsm
  obtain ⟨hn1, hn2, hn3⟩ := hn
  clear hsm
  have HX2 := Lib.hid (HX.out.on HB2.out)
  have HN := Lib.hid (new_set q HX2.out)
  obtain ⟨s0, s1, s2, s3⟩ := four_of ((HB2.out.block _ HGL.out).trans HG.out)
  go_wp2_with fail
  refine HN.out.mono ?_
  rintro e w3 h1
  clear s0 s1 s2 s3
  rcases h1 with ⟨h0, h1⟩ | ⟨h0, rfl, h2⟩
  · obtain ⟨g, lab0, rfl, hC, hl, _, hb⟩ := h1.cir
    have HI0 : Hid (Inv (S0 ms ps q).s) := newE_inv h0
    have HC3 : Hid (Cir w3 lab0 g (S0 ms ps q)) := hC
    have HB3 : Hid (Below W.heap.size W w3) := HB2.out.trans (hb.mono HB2.out.size)
    have H0 := Lib.hid h0
    have HR := Lib.hid (rnew_set q (HX.out.on HB3.out))
    obtain ⟨s0, s1, s2, s3⟩ := four_of ((HB3.out.block _ HGL.out).trans HG.out)
    clear h1 hC hl hb h0
    go_wp2_with fail
    refine HR.out.mono ?_
    rintro e w4 h1
    clear s0 s1 s2 s3
    rcases h1 with ⟨_, r, rfl, hR, hb, _⟩ | ⟨h5, _⟩
    · obtain ⟨w5, hw5⟩ : ∃ V : World, V = w4.alloc r.obj := ⟨_, rfl⟩
      have HW5 := Lib.hid hw5
      have HB5 : Hid (Below w4.heap.size w4 w5) := by show Below _ _ _; rw [hw5]; exact (Below.refl _ _).alloc (Nat.le_refl _) _
      have HBW : Hid (Below W.heap.size W w5) := HB3.out.trans ((hb.trans (HB5.out.mono hb.size)).mono HB3.out.size)
      have HSM := Lib.hid (same_any g lab0 (S0 ms ps q) r w5 ((HC3.out.on hb).on HB5.out) HI0.out (hR.on HB5.out))
      clear hR hb hw5
      go_wp2_with (refine wpList_store_new (o := ⟨none, .store 57 (.tmp 5) (.tmp 30), _, _, _, _⟩) rfl 57 (.tmp 5) (.tmp 30) rfl 57 _ r.cells rfl rfl Try.sizeR rfl (RV.one r) ?_)
      refine (show Calls Try.prog 20 _ _ (BoolB true w5) from HW5.out ▸ HSM.out).mono ?_
      rintro e w6 ⟨rfl, hb⟩
      have HB6 : Hid (Below W.heap.size W w6) := HBW.out.trans (hb.mono HBW.out.size)
      clear hb
      go_wp2_with fail
      go_ret
      exact ⟨rfl, HB.out.trans (HB6.out.mono HB.out.size)⟩
    · exact absurd H0.out h5
  · have HB3 : Hid (Below W.heap.size W w3) := HB2.out.trans (h2.mono HB2.out.size)
    obtain ⟨ne, hne⟩ : ∃ z, newE ms (ps.map Prod.fst) q = z := ⟨_, rfl⟩
    have hnz : ne ≠ 0 := hne ▸ h0
    have H0 := Lib.hid h0
    have HNE := Lib.hid hne
    rw [hne]
    have HR := Lib.hid (rnew_set q (HX.out.on HB3.out))
    obtain ⟨s0, s1, s2, s3⟩ := four_of ((HB3.out.block _ HGL.out).trans HG.out)
    clear h0 h2 hne
    go_wp2_with fail
    refine HR.out.mono ?_
    rintro e w4 h1
    clear s0 s1 s2 s3
    rcases h1 with ⟨h5, _⟩ | ⟨_, r, rfl, hb⟩
    · exact absurd h5 H0.out
    · rw [HNE.out]
      have HB4 : Hid (Below W.heap.size W w4) := HB3.out.trans (hb.mono HB3.out.size)
      have HB5 : Hid (Below W.heap.size W (w4.alloc r.obj)) := HB4.out.alloc HB4.out.size _
      clear hb
      go_wp2_with (refine wpList_store_new (o := ⟨none, .store 57 (.tmp 5) (.tmp 30), _, _, _, _⟩) rfl 57 (.tmp 5) (.tmp 30) rfl 57 _ r.cells rfl rfl Try.sizeR rfl (RV.one r) ?_)
      go_ret
      exact ⟨rfl, HB.out.trans (HB5.out.mono HB.out.size)⟩
end Go.Proofs.Ytafhpomoobdmdaa
