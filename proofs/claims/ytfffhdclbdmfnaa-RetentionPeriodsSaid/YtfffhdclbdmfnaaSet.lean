/- retention.set: the different days, ascending. -/
import Derived.Lib.OwnBridge
import Derived.Lib.AppendIntMem
import Derived.Test.YtfffhdclbdmfnaaIter
namespace Go.Proofs.Ytfffhdclbdmfnaa
open Go.RowKit Go.Shelf Ret
set_option linter.unusedVariables false
set_option linter.unusedSimpArgs false

def leB (x y : Int) : Bool := decide (x ≤ y)
/-- The sorted days. -/
def sortL (zs : List Int) : List Int := zs.mergeSort fun x y => decide (x ≤ y)
theorem sortL_mem (zs : List Int) (x : Int) : x ∈ sortL zs ↔ x ∈ zs := by unfold sortL; rw [List.mem_mergeSort]
theorem sortL_len (zs : List Int) : (sortL zs).length = zs.length := by unfold sortL; rw [List.length_mergeSort]
theorem sortL_sorted (zs : List Int) : (sortL zs).Pairwise (· ≤ ·) := by
  have h := List.pairwise_mergeSort (le := fun x y : Int => decide (x ≤ y)) (fun a b c h1 h2 => by simp at *; omega) (fun a b => by simp; omega) zs
  exact h.imp (fun h => by simpa using h)
theorem compact_spec (zs : List Int) (hs : zs.Pairwise (· ≤ ·)) : Asc (Lib.compact zs) ∧ ∀ x, x ∈ Lib.compact zs ↔ x ∈ zs := by
  have key : ∀ m, m ≤ zs.length → Asc (Lib.compactUpTo zs.toArray m) ∧ (∀ x, x ∈ Lib.compactUpTo zs.toArray m ↔ x ∈ zs.take m) := by
    intro m
    induction m with
    | zero => intro _; simp [Lib.compactUpTo, Asc]
    | succ m ih =>
      intro hm
      obtain ⟨i1, i2⟩ := ih (by omega)
      have hg : zs[m]? = some zs[m] := List.getElem?_eq_getElem (by omega)
      have hz : zs.toArray[m]! = zs[m] := by rw [getElem!_pos _ m (by simp; omega)]; simp
      rw [Lib.compactUpTo_succ, take_snoc hg, hz]
      by_cases hk : Lib.keeps zs.toArray m = true
      · rw [if_pos hk]
        refine ⟨?_, fun x => by rw [List.mem_append, i2, List.mem_append]⟩
        rw [Asc, List.pairwise_append]
        refine ⟨i1, by simp, fun a ha b hb => ?_⟩
        obtain rfl := List.mem_singleton.1 hb
        rw [i2] at ha
        have hle : ∀ j (hj : j < m), zs[j]'(by omega) ≤ zs[m] := fun j hj => (List.pairwise_iff_getElem.1 hs) j m (by omega) (by omega) hj
        obtain ⟨j, hj, rfl⟩ := List.getElem_of_mem ha
        have hjm : j < m := by simp at hj; omega
        rw [List.getElem_take]
        rcases Nat.eq_zero_or_pos m with h0 | h0
        · omega
        · have hne : zs[m] ≠ zs[m - 1]'(by omega) := by
            unfold Lib.keeps at hk
            have := of_decide_eq_true hk
            rcases this with h | h
            · omega
            · rw [hz, getElem!_pos _ (m - 1) (by simp; omega)] at h
              simpa using h
          have h1 := hle (m - 1) (by omega)
          have h2 : zs[j]'(by omega) ≤ zs[m - 1]'(by omega) := by
            rcases Nat.lt_or_ge j (m - 1) with h | h
            · exact (List.pairwise_iff_getElem.1 hs) j (m - 1) (by omega) (by omega) h
            · obtain rfl : j = m - 1 := by omega
              exact Int.le_refl _
          omega
      · rw [if_neg hk, List.append_nil]
        refine ⟨i1, fun x => ?_⟩
        rw [i2, List.mem_append, List.mem_singleton]
        constructor
        · exact .inl
        · rintro (h | rfl)
          · exact h
          · unfold Lib.keeps at hk
            have h0 : ¬ (m = 0 ∨ zs.toArray[m]! ≠ zs.toArray[m - 1]!) := fun h => hk (decide_eq_true h)
            have hm0 : m ≠ 0 := fun h => h0 (.inl h)
            have he : zs.toArray[m]! = zs.toArray[m - 1]! := Classical.byContradiction fun h => h0 (.inr h)
            rw [hz, getElem!_pos _ (m - 1) (by simp; omega)] at he
            have : zs[m] = zs[m - 1]'(by omega) := by simpa using he
            rw [this]
            exact List.mem_iff_getElem.2 ⟨m - 1, by simp; omega, by simp⟩
  obtain ⟨h1, h2⟩ := key zs.length (Nat.le_refl _)
  exact ⟨h1, fun x => by unfold Lib.compact; rw [h2, List.take_length]⟩
theorem compact_sort (zs : List Int) : Lib.compact (sortL zs) = srt zs := by
  obtain ⟨h1, h2⟩ := compact_spec (sortL zs) (sortL_sorted zs)
  exact asc_ext h1 (srt_asc zs) fun z => by rw [h2, sortL_mem, srt_mem]
theorem compact_len (zs : List Int) : (Lib.compact zs).length ≤ zs.length := by
  unfold Lib.compact Lib.compactUpTo
  rw [List.length_map]
  exact Nat.le_trans (List.length_filter_le _ _) (by simp)

theorem collect_any (Bs : Nat) (sv : Value) (zs : List Int) (hlen : zs.length ≤ 1000000) (w : World) (hBs : Bs < w.heap.size) (hc : w.cell? ⟨Bs, 0, none⟩ = some sv) (hI : IntsAt w.heap.size w sv zs) :
    Calls Try.prog 60 #[.func (.func 62) #[] #[.pointer (some ⟨Bs, 0, none⟩)]] w (OwnI zs w) := by
  have HC := Lib.hid (appseq_any Bs sv zs hlen w hBs hc hI)
  clear hc hI
  go_enter Try.func60, Try.ntmps60
  go_wp2_with fail
  refine HC.out.mono ?_
  rintro e w1 ⟨v, rfl, h1, h2⟩
  have H1 := Lib.hid h1
  have H2 := Lib.hid h2
  clear h1 h2
  go_wp2
  go_ret
  exact ⟨v, rfl, H1.out, H2.out⟩

theorem grow_zero (w : World) (os : Array Obj) : Go.Sort.grow w os = Go.Sort.grow (w.drewN 0) os := rfl
theorem sorted_any (Bs : Nat) (sv : Value) (zs : List Int) (hlen : zs.length ≤ 1000000) (w : World) (hBs : Bs < w.heap.size) (hc : w.cell? ⟨Bs, 0, none⟩ = some sv) (hI : IntsAt w.heap.size w sv zs) :
    Calls Try.prog 46 #[.func (.func 62) #[] #[.pointer (some ⟨Bs, 0, none⟩)]] w (OwnI (sortL zs) w) := by
  have HC := Lib.hid (collect_any Bs sv zs hlen w hBs hc hI)
  clear hc hI
  rcases Nat.eq_zero_or_pos zs.length with h0 | h0
  · have := List.eq_nil_of_length_eq_zero h0
    subst this
    clear h0 hlen
    go_enter Try.func46, Try.ntmps46
    go_wp2_with fail
    refine HC.out.mono ?_
    rintro e w1 ⟨v, rfl, h1, h2⟩
    have H1 := Lib.hid h1
    have H2 := Lib.hid h2
    obtain ⟨A, c, rfl, _⟩ := h1.shape
    clear h1 h2
    simp only [List.length_nil] at *
    go_wp2_with fail
    refine (Try.slices_Sort_int_none A c w1).mono ?_
    rintro e w2 ⟨rfl, rfl⟩
    go_wp2
    go_ret
    exact ⟨_, rfl, by rw [show sortL [] = [] from by simp [sortL]]; exact H1.out, H2.out⟩
  · have HL := Lib.hid h0
    clear h0
    go_enter Try.func46, Try.ntmps46
    go_wp2_with fail
    refine HC.out.mono ?_
    rintro e w1 ⟨v, rfl, h1, h2⟩
    have H2 := Lib.hid h2
    have hv : v ≠ .slice none 0 0 := by
      rintro rfl
      rcases h1.2 with ⟨_, h⟩ | ⟨g, cap, cur, hg, _⟩
      · have := HL.out; omega
      · cases hg
    obtain ⟨g, cap, rfl, hbase, hg, hncap, hcm, _, hH⟩ := Lib.holds_of_ownsRow h1 hv
    have H1 := Lib.hid h1
    have HS := Lib.hid (Try.slices_Sort_int g 0 cap zs w1 hH hg (by omega))
    clear h1 h2 hv hH
    go_wp2_with fail
    refine HS.out.mono ?_
    rintro e w2 ⟨rfl, q, os, hw2⟩
    have HO : Hid (Own I 3 w2 w.heap.size (.slice (some ⟨g, 0, none⟩) zs.length cap) (sortL zs)) := by
      show Own _ _ _ _ _ _
      have h := Lib.ownsRow_putRow (q := q) (ys := sortL zs) (k := zs.length) H1.out (sortL_len zs) (Nat.le_refl _)
      have h' := Lib.ownsRow_grow h 0 os
      rw [hw2]
      unfold Own
      rw [sortL_len]
      rw [List.take_of_length_le (by rw [sortL_len]; exact Nat.le_refl _)] at h'
      exact h'
    have HB : Hid (Below w.heap.size w w2) := by
      show Below _ _ _
      have h := Lib.below_putRow (enc := Value.int .i64) (q := q) (d := (sortL zs).toArray) H2.out hbase
      rw [hw2]
      refine h.trans ?_
      exact Lib.below_grow w.heap.size _ h.size 0 os
    clear hw2
    go_wp2
    go_ret
    exact ⟨_, rfl, HO.out, HB.out⟩

set_option maxRecDepth 20000 in
theorem set_any (A : Option Addr) (n c : Nat) (xs : List Int) (w : World) (hx : Sl I w w.heap.size A n xs) (hn : n ≤ 1000000) :
    Calls Try.prog 32 #[.slice A n c] w (OwnI (srt xs) w) := by
  have hlx : xs.length ≤ 1000000 := by rw [hx.1]; exact hn
  have hb1 : Below w.heap.size w (w.alloc (.cells #[.slice A n c] 26)) := (Below.refl _ _).alloc (Nat.le_refl _) _
  have hcell : (w.alloc (.cells #[.slice A n c] 26)).cell? ⟨w.heap.size, 0, none⟩ = some (.slice A n c) := by
    rw [cell_of_row _ _ _ _ _ _ (heap_alloc_new w _)]
    rfl
  have HB1 := Lib.hid hb1
  have HS := Lib.hid (sorted_any w.heap.size (.slice A n c) xs hlx _ (by simp) hcell (IntsAt.of_sl ((hx.up hb1 (Nat.le_refl _)).more' (by simp))))
  clear hx hb1 hcell
  go_enter Try.func32, Try.ntmps32
  go_wp2_with fail
  refine (values_any A n c w).mono ?_
  rintro e w1 ⟨rfl, rfl⟩
  go_wp2_with fail
  refine HS.out.mono ?_
  rintro e w2 ⟨v, rfl, h1, h2⟩
  have H2 : Hid (Below w.heap.size w w2) := HB1.out.trans (h2.mono (by simp))
  have HCS : Hid (Lib.compact (sortL xs) = srt xs) := compact_sort xs
  rcases Nat.eq_zero_or_pos (sortL xs).length with h0 | h0
  · have he := List.eq_nil_of_length_eq_zero h0
    rw [he] at h1 HCS
    have H1 := Lib.hid h1
    obtain ⟨A2, c2, rfl, _⟩ := h1.shape
    clear h1 h2 h0 he
    simp only [List.length_nil] at *
    go_wp2_with fail
    refine (Try.slices_Compact_int_empty A2 c2 w2).mono ?_
    rintro e w3 ⟨rfl, rfl⟩
    go_wp2
    go_ret
    refine ⟨_, rfl, ?_, H2.out⟩
    rw [← HCS.out]
    have := H1.out
    unfold Own at this ⊢
    exact ⟨this.1, by
      rcases this.2 with h | ⟨g, cap, cur, e, hbg, hg, hn, hm, hs, ht⟩
      · exact .inl h
      · exact .inr ⟨g, cap, cur, e, Nat.le_trans (by simp) hbg, hg, hn, hm, hs, ht⟩⟩
  · have hv : v ≠ .slice none 0 0 := by
      rintro rfl
      rcases h1.2 with ⟨_, h⟩ | ⟨g, cap, cur, hg, _⟩
      · omega
      · cases hg
    obtain ⟨g, cap, rfl, hbase, hg, hncap, hcm, _, hH⟩ := Lib.holds_of_ownsRow h1 hv
    have H1 := Lib.hid h1
    have HC := Lib.hid (Try.slices_Compact_int g 0 cap (sortL xs) w2 hH (by rw [sortL_len]; omega) hncap)
    have hcl := compact_len (sortL xs)
    have HCL := Lib.hid hcl
    clear h1 h2 hv hH h0 hcl
    have HLX := Lib.hid hlx
    clear hlx
    go_wp2_with fail
    refine HC.out.mono ?_
    rintro e w3 ⟨rfl, q, hw3⟩
    have HO : Hid (Own I 3 w3 w.heap.size (.slice (some ⟨g, 0, none⟩) (Lib.compact (sortL xs)).length cap) (srt xs)) := by
      show Own _ _ _ _ _ _
      have h := Lib.ownsRow_putRow (q := q) (ys := Lib.compact (sortL xs) ++ List.replicate ((sortL xs).length - (Lib.compact (sortL xs)).length) 0) (k := (Lib.compact (sortL xs)).length) H1.out (by rw [List.length_append, List.length_replicate]; have := HCL.out; omega) HCL.out
      rw [List.take_left' rfl] at h
      rw [hw3]
      unfold Own
      rw [← HCS.out]
      exact ⟨h.1, by
        rcases h.2 with ⟨e, _⟩ | ⟨g', cap', cur, e, hbg, hg', hn', hm', hs', ht'⟩
        · cases e
        · exact .inr ⟨g', cap', cur, e, Nat.le_trans (by simp) hbg, hg', hn', hm', hs', ht'⟩⟩
    have HB : Hid (Below w.heap.size w w3) := by
      show Below _ _ _
      rw [hw3]
      exact Lib.below_putRow (enc := Value.int .i64) (q := q) H2.out (Nat.le_trans (by simp) hbase)
    clear hw3
    go_wp2
    go_ret
    exact ⟨_, rfl, HO.out, HB.out⟩
end Go.Proofs.Ytfffhdclbdmfnaa
