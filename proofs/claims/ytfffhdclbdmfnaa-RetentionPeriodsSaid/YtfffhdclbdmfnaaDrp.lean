/- The closure of dropped. -/
import Derived.Test.YtfffhdclbdmfnaaRsA
import Derived.Test.YtfffhdclbdmfnaaNext
namespace Go.Proofs.Ytfffhdclbdmfnaa
open Go.RowKit Ret
set_option linter.unusedVariables false
set_option linter.unusedSimpArgs false

/-- What dropped's variables hold. -/
structure CB (W : World) (P DY O : Nat) (f : FuncId) (most reason day own : Int) (c : Cnt) : Prop where
  p : W.heap[P]? = some (.cells #[fF f, .int .i64 most, .int .i64 reason] 51 (0, 0))
  dy : W.heap[DY]? = some (.cells #[.int .i64 day] 3 (0, 0))
  o : W.heap[O]? = some (.cells #[.int .i64 own] 3 (0, 0))
  g : W.heap[O + 1]? = some (.cells #[.bool c.g] 4 (0, 0))
  lt : W.heap[O + 1 + 1]? = some (.cells #[.int .i64 (c.lt : Int)] 3 (0, 0))
  la : W.heap[O + 1 + 1 + 1]? = some (.cells #[.int .i64 c.la] 3 (0, 0))
theorem CB.on {W W' : World} {P DY O : Nat} {f : FuncId} {most reason day own : Int} {c : Cnt} (h : CB W P DY O f most reason day own c) (hb : Below W.heap.size W W') : CB W' P DY O f most reason day own c :=
  ⟨(hb.block _ (lt_of_block h.p)).trans h.p, (hb.block _ (lt_of_block h.dy)).trans h.dy, (hb.block _ (lt_of_block h.o)).trans h.o, (hb.block _ (lt_of_block h.g)).trans h.g, (hb.block _ (lt_of_block h.lt)).trans h.lt, (hb.block _ (lt_of_block h.la)).trans h.la⟩
theorem CB.setG {W : World} {P DY O : Nat} {f : FuncId} {most reason day own : Int} {c : Cnt} (h : CB W P DY O f most reason day own c) (hp : P < O) (hd : DY < O) (b : Bool) : CB (W.setCell ⟨O + 1, 0, none⟩ (.bool b)) P DY O f most reason day own ⟨b, c.lt, c.la⟩ :=
  ⟨(heap_setCell_other _ _ _ _ (by show P ≠ O + 1; omega)).trans h.p, (heap_setCell_other _ _ _ _ (by show DY ≠ O + 1; omega)).trans h.dy, (heap_setCell_other _ _ _ _ (by show O ≠ O + 1; omega)).trans h.o, heap_setCell_same _ _ 0 _ _ (.bool b) h.g, (heap_setCell_other _ _ _ _ (by show O + 1 + 1 ≠ O + 1; omega)).trans h.lt, (heap_setCell_other _ _ _ _ (by show O + 1 + 1 + 1 ≠ O + 1; omega)).trans h.la⟩
theorem CB.setLt {W : World} {P DY O : Nat} {f : FuncId} {most reason day own : Int} {c : Cnt} (h : CB W P DY O f most reason day own c) (hp : P < O) (hd : DY < O) (n : Nat) : CB (W.setCell ⟨O + 1 + 1, 0, none⟩ (.int .i64 (n : Int))) P DY O f most reason day own ⟨c.g, n, c.la⟩ :=
  ⟨(heap_setCell_other _ _ _ _ (by show P ≠ O + 1 + 1; omega)).trans h.p, (heap_setCell_other _ _ _ _ (by show DY ≠ O + 1 + 1; omega)).trans h.dy, (heap_setCell_other _ _ _ _ (by show O ≠ O + 1 + 1; omega)).trans h.o, (heap_setCell_other _ _ _ _ (by show O + 1 ≠ O + 1 + 1; omega)).trans h.g, heap_setCell_same _ _ 0 _ _ (.int .i64 (n : Int)) h.lt, (heap_setCell_other _ _ _ _ (by show O + 1 + 1 + 1 ≠ O + 1 + 1; omega)).trans h.la⟩
theorem CB.setLa {W : World} {P DY O : Nat} {f : FuncId} {most reason day own : Int} {c : Cnt} (h : CB W P DY O f most reason day own c) (hp : P < O) (hd : DY < O) (v : Int) : CB (W.setCell ⟨O + 1 + 1 + 1, 0, none⟩ (.int .i64 v)) P DY O f most reason day own ⟨c.g, c.lt, v⟩ :=
  ⟨(heap_setCell_other _ _ _ _ (by show P ≠ O + 1 + 1 + 1; omega)).trans h.p, (heap_setCell_other _ _ _ _ (by show DY ≠ O + 1 + 1 + 1; omega)).trans h.dy, (heap_setCell_other _ _ _ _ (by show O ≠ O + 1 + 1 + 1; omega)).trans h.o, (heap_setCell_other _ _ _ _ (by show O + 1 ≠ O + 1 + 1 + 1; omega)).trans h.g, (heap_setCell_other _ _ _ _ (by show O + 1 + 1 ≠ O + 1 + 1 + 1; omega)).trans h.lt, heap_setCell_same _ _ 0 _ _ (.int .i64 v) h.la⟩
def AddP (P DY O : Nat) (f : FuncId) (most reason day own : Int) (c : Cnt) (W : World) (e : Ending) (W' : World) : Prop := e = .returned (.tuple #[]) ∧ CB W' P DY O f most reason day own c ∧ Below O W W'

set_option maxRecDepth 20000 in
set_option maxHeartbeats 2000000 in
theorem add_any (k : Nat) (hk : k < 4) (P DY O : Nat) (most reason day : Int) (c : Cnt) (d : Int) (hd : okD d) (hday : okD day) (W : World) (hC : CB W P DY O (fidOf k) most reason day (per k day) c) (hP : P < O) (hD : DY < O) (hlt : c.lt ≤ 1000000) :
    Calls Try.prog 54 #[.int .i64 d, .pointer (some ⟨P, 0, none⟩), .pointer (some ⟨DY, 0, none⟩), .pointer (some ⟨O, 0, none⟩), .pointer (some ⟨O + 1, 0, none⟩), .pointer (some ⟨O + 1 + 1 + 1, 0, none⟩), .pointer (some ⟨O + 1 + 1, 0, none⟩)] W (AddP P DY O (fidOf k) most reason day (per k day) (Cnt.add k day c d) W) := by
  have hcf := callFunc_fid hk
  have HFI : Hid (∀ W, Calls Try.prog (fidOf k) #[.int .i64 d] W (IntB (per k d) W)) := fun W => per_any k hk d W hd
  obtain ⟨f, hf⟩ : ∃ f, fidOf k = f := ⟨_, rfl⟩
  rw [hf] at hC hcf HFI ⊢
  clear hf
  obtain ⟨own, hown⟩ : ∃ own, per k day = own := ⟨_, rfl⟩
  obtain ⟨q, hq⟩ : ∃ q, per k d = q := ⟨_, rfl⟩
  have HADD : Hid (Cnt.add k day c d = ⟨c.g && !(decide (day < d) && decide (q = own)), if c.la < q then c.lt + 1 else c.lt, if c.la < q then q else c.la⟩) := by show _ = _; rw [Cnt.add, hown, hq]
  rw [hown] at hC ⊢
  rw [hq] at HFI
  rw [HADD.out]
  clear hown hq HADD
  obtain ⟨g, lt, la⟩ := c
  simp only [] at hlt ⊢
  have HC := Lib.hid hC
  have c0 := cell_of_row W P 0 _ _ _ hC.p
  simp at c0
  have hszO : O + 1 + 1 + 1 < W.heap.size := lt_of_block hC.la
  clear hC
  by_cases hl : la < q
  · skip
    by_cases hdd : day < d
    · by_cases hqo : q = own
      · rw [show (⟨g && !(decide (day < d) && decide (q = own)), if la < q then lt + 1 else lt, if la < q then q else la⟩ : Cnt) = ⟨false, lt + 1, q⟩ from by rw [if_pos hl, if_pos hl]; simp [hdd, hqo]]
        have hqb : (q == own) = true := by simp [hqo]
        clear hqo
        go_enter Try.func54, Try.ntmps54
        go_wp2_with (refine (HFI.out W).mono ?_; rintro e w2 ⟨rfl, hb2⟩; have HB2 : Hid (Below O W w2) := hb2.mono (by omega); have C2 := HC.out.on hb2; have HC2 := Lib.hid C2; have l1 := cell_of_row w2 DY 0 _ _ _ C2.dy; have l2 := cell_of_row w2 O 0 _ _ _ C2.o; have l3 := cell_of_row w2 (O + 1) 0 _ _ _ C2.g; have l4 := cell_of_row w2 (O + 1 + 1) 0 _ _ _ C2.lt; have l5 := cell_of_row w2 (O + 1 + 1 + 1) 0 _ _ _ C2.la; have f3 := frozen_of_row w2 (O + 1) 0 _ _ C2.g; have f4 := frozen_of_row w2 (O + 1 + 1) 0 _ _ C2.lt; have f5 := frozen_of_row w2 (O + 1 + 1 + 1) 0 _ _ C2.la; simp at l1 l2 l3 l4 l5; clear hb2 C2)
        go_end0
        exact ⟨rfl, (((HC2.out.setG hP hD false).setLt hP hD (lt + 1)).setLa hP hD q), (((HB2.out.setCell (by show O ≤ O + 1; omega) _).setCell (by show O ≤ O + 1 + 1; omega) _).setCell (by show O ≤ O + 1 + 1 + 1; omega) _)⟩
      · rw [show (⟨g && !(decide (day < d) && decide (q = own)), if la < q then lt + 1 else lt, if la < q then q else la⟩ : Cnt) = ⟨g, lt + 1, q⟩ from by simp [hdd, hqo, hl]]
        have hqb : (q == own) = false := by simp [hqo]
        clear hqo
        go_enter Try.func54, Try.ntmps54
        go_wp2_with (refine (HFI.out W).mono ?_; rintro e w2 ⟨rfl, hb2⟩; have HB2 : Hid (Below O W w2) := hb2.mono (by omega); have C2 := HC.out.on hb2; have HC2 := Lib.hid C2; have l1 := cell_of_row w2 DY 0 _ _ _ C2.dy; have l2 := cell_of_row w2 O 0 _ _ _ C2.o; have l3 := cell_of_row w2 (O + 1) 0 _ _ _ C2.g; have l4 := cell_of_row w2 (O + 1 + 1) 0 _ _ _ C2.lt; have l5 := cell_of_row w2 (O + 1 + 1 + 1) 0 _ _ _ C2.la; have f3 := frozen_of_row w2 (O + 1) 0 _ _ C2.g; have f4 := frozen_of_row w2 (O + 1 + 1) 0 _ _ C2.lt; have f5 := frozen_of_row w2 (O + 1 + 1 + 1) 0 _ _ C2.la; simp at l1 l2 l3 l4 l5; clear hb2 C2)
        go_end0
        exact ⟨rfl, ((HC2.out.setLt hP hD (lt + 1)).setLa hP hD q), ((HB2.out.setCell (by show O ≤ O + 1 + 1; omega) _).setCell (by show O ≤ O + 1 + 1 + 1; omega) _)⟩
    · rw [show (⟨g && !(decide (day < d) && decide (q = own)), if la < q then lt + 1 else lt, if la < q then q else la⟩ : Cnt) = ⟨g, lt + 1, q⟩ from by simp [hdd, hl]]
      go_enter Try.func54, Try.ntmps54
      go_wp2_with (refine (HFI.out W).mono ?_; rintro e w2 ⟨rfl, hb2⟩; have HB2 : Hid (Below O W w2) := hb2.mono (by omega); have C2 := HC.out.on hb2; have HC2 := Lib.hid C2; have l1 := cell_of_row w2 DY 0 _ _ _ C2.dy; have l2 := cell_of_row w2 O 0 _ _ _ C2.o; have l3 := cell_of_row w2 (O + 1) 0 _ _ _ C2.g; have l4 := cell_of_row w2 (O + 1 + 1) 0 _ _ _ C2.lt; have l5 := cell_of_row w2 (O + 1 + 1 + 1) 0 _ _ _ C2.la; have f3 := frozen_of_row w2 (O + 1) 0 _ _ C2.g; have f4 := frozen_of_row w2 (O + 1 + 1) 0 _ _ C2.lt; have f5 := frozen_of_row w2 (O + 1 + 1 + 1) 0 _ _ C2.la; simp at l1 l2 l3 l4 l5; clear hb2 C2)
      go_end0
      exact ⟨rfl, ((HC2.out.setLt hP hD (lt + 1)).setLa hP hD q), ((HB2.out.setCell (by show O ≤ O + 1 + 1; omega) _).setCell (by show O ≤ O + 1 + 1 + 1; omega) _)⟩
  · skip
    by_cases hdd : day < d
    · by_cases hqo : q = own
      · rw [show (⟨g && !(decide (day < d) && decide (q = own)), if la < q then lt + 1 else lt, if la < q then q else la⟩ : Cnt) = ⟨false, lt, la⟩ from by rw [if_neg hl, if_neg hl]; simp [hdd, hqo]]
        have hqb : (q == own) = true := by simp [hqo]
        clear hqo
        go_enter Try.func54, Try.ntmps54
        go_wp2_with (refine (HFI.out W).mono ?_; rintro e w2 ⟨rfl, hb2⟩; have HB2 : Hid (Below O W w2) := hb2.mono (by omega); have C2 := HC.out.on hb2; have HC2 := Lib.hid C2; have l1 := cell_of_row w2 DY 0 _ _ _ C2.dy; have l2 := cell_of_row w2 O 0 _ _ _ C2.o; have l3 := cell_of_row w2 (O + 1) 0 _ _ _ C2.g; have l4 := cell_of_row w2 (O + 1 + 1) 0 _ _ _ C2.lt; have l5 := cell_of_row w2 (O + 1 + 1 + 1) 0 _ _ _ C2.la; have f3 := frozen_of_row w2 (O + 1) 0 _ _ C2.g; have f4 := frozen_of_row w2 (O + 1 + 1) 0 _ _ C2.lt; have f5 := frozen_of_row w2 (O + 1 + 1 + 1) 0 _ _ C2.la; simp at l1 l2 l3 l4 l5; clear hb2 C2)
        go_end0
        exact ⟨rfl, (HC2.out.setG hP hD false), (HB2.out.setCell (by show O ≤ O + 1; omega) _)⟩
      · rw [show (⟨g && !(decide (day < d) && decide (q = own)), if la < q then lt + 1 else lt, if la < q then q else la⟩ : Cnt) = ⟨g, lt, la⟩ from by simp [hdd, hqo, hl]]
        have hqb : (q == own) = false := by simp [hqo]
        clear hqo
        go_enter Try.func54, Try.ntmps54
        go_wp2_with (refine (HFI.out W).mono ?_; rintro e w2 ⟨rfl, hb2⟩; have HB2 : Hid (Below O W w2) := hb2.mono (by omega); have C2 := HC.out.on hb2; have HC2 := Lib.hid C2; have l1 := cell_of_row w2 DY 0 _ _ _ C2.dy; have l2 := cell_of_row w2 O 0 _ _ _ C2.o; have l3 := cell_of_row w2 (O + 1) 0 _ _ _ C2.g; have l4 := cell_of_row w2 (O + 1 + 1) 0 _ _ _ C2.lt; have l5 := cell_of_row w2 (O + 1 + 1 + 1) 0 _ _ _ C2.la; have f3 := frozen_of_row w2 (O + 1) 0 _ _ C2.g; have f4 := frozen_of_row w2 (O + 1 + 1) 0 _ _ C2.lt; have f5 := frozen_of_row w2 (O + 1 + 1 + 1) 0 _ _ C2.la; simp at l1 l2 l3 l4 l5; clear hb2 C2)
        go_end0
        exact ⟨rfl, HC2.out, HB2.out⟩
    · rw [show (⟨g && !(decide (day < d) && decide (q = own)), if la < q then lt + 1 else lt, if la < q then q else la⟩ : Cnt) = ⟨g, lt, la⟩ from by simp [hdd, hl]]
      go_enter Try.func54, Try.ntmps54
      go_wp2_with (refine (HFI.out W).mono ?_; rintro e w2 ⟨rfl, hb2⟩; have HB2 : Hid (Below O W w2) := hb2.mono (by omega); have C2 := HC.out.on hb2; have HC2 := Lib.hid C2; have l1 := cell_of_row w2 DY 0 _ _ _ C2.dy; have l2 := cell_of_row w2 O 0 _ _ _ C2.o; have l3 := cell_of_row w2 (O + 1) 0 _ _ _ C2.g; have l4 := cell_of_row w2 (O + 1 + 1) 0 _ _ _ C2.lt; have l5 := cell_of_row w2 (O + 1 + 1 + 1) 0 _ _ _ C2.la; have f3 := frozen_of_row w2 (O + 1) 0 _ _ C2.g; have f4 := frozen_of_row w2 (O + 1 + 1) 0 _ _ C2.lt; have f5 := frozen_of_row w2 (O + 1 + 1 + 1) 0 _ _ C2.la; simp at l1 l2 l3 l4 l5; clear hb2 C2)
      go_end0
      exact ⟨rfl, HC2.out, HB2.out⟩
end Go.Proofs.Ytfffhdclbdmfnaa
