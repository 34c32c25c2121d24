/- wire.Reader: what readValue defers. -/
import Derived.Test.YtlnaakpcnhnccaaDoorWiA
import Derived.Defers
namespace Go.Proofs.YtlnaakpcnhnccaaDoor
open Go.RowKit
set_option linter.unusedVariables false
set_option linter.unusedSimpArgs false

set_option maxRecDepth 20000 in
set_option maxHeartbeats 1000000 in
theorem closed_68 (s rb rs g : Nat) (A : Option Addr) (n c p : Nat) (st : Nat) (pv er v : Int) (w : World) (hs : w.heap[s]? = some (.cells #[.int .i64 st] 3 (0, 0))) (hrb : w.heap[rb]? = some (.cells #[.pointer (some ⟨g, 0, none⟩)] 62 (0, 0))) (hrs : w.heap[rs]? = some (.cells #[.int .i64 v] 3 (0, 0))) (hr : Rd w g A n c p pv er) (h1 : g < rb) (h2 : rb < rs) (h3 : rs < s) :
    CallsD Tryd.prog 68 #[.pointer (some ⟨s, 0, none⟩), .pointer (some ⟨rb, 0, none⟩), .pointer (some ⟨rs, 0, none⟩)] .returning w fun e u' w' => u' = .returning ∧ (e = .returned (.tuple #[]) ∧ Hid (Rd w' g A n c (if er = 0 then p else st) st er) ∧ Hid (w'.heap[rs]? = some (.cells #[.int .i64 (if er = 0 then v else 0)] 3 (0, 0))) ∧ Hid (But (fun k => k = g ∨ k = rs) w w')) := by
  have HR := Lib.hid hr
  have HS := Lib.hid hs
  have HRB := Lib.hid hrb
  have HRS := Lib.hid hrs
  have c1 := cell_of_row w g 1 _ _ _ hr
  have c2 := cell_of_row w g 2 _ _ _ hr
  have c3 := cell_of_row w g 3 _ _ _ hr
  have cs := cell_of_row w s 0 _ _ _ hs
  have cb := cell_of_row w rb 0 _ _ _ hrb
  have cr := cell_of_row w rs 0 _ _ _ hrs
  have f1 := frozen_of_row w g 1 _ _ hr
  have f2 := frozen_of_row w g 2 _ _ hr
  have fr := frozen_of_row w rs 0 _ _ hrs
  simp at c1 c2 c3 cs cb cr
  have n1 : ¬ g = rb := by omega
  have n2 : ¬ g = rs := by omega
  have n3 : ¬ g = s := by omega
  have n4 : ¬ rb = rs := by omega
  have n5 : ¬ rs = s := by omega
  have n6 : ¬ rb = s := by omega
  have HG2 : Hid (Rd (w.setCell ⟨g, 2, none⟩ (.int .i64 st)) g A n c p st er) := heap_setCell_same w _ 2 _ _ (.int .i64 st) hr
  have HG21 : Hid (Rd ((w.setCell ⟨g, 2, none⟩ (.int .i64 st)).setCell ⟨g, 1, none⟩ (.int .i64 st)) g A n c st st er) := heap_setCell_same _ _ 1 _ _ (.int .i64 st) HG2.out
  have HN2 : Hid ((w.setCell ⟨g, 2, none⟩ (.int .i64 st)).heap[rs]? = some (.cells #[.int .i64 v] 3 (0, 0))) := (heap_setCell_other w _ _ _ (fun e => n2 e.symm)).trans hrs
  have HN21 : Hid (((w.setCell ⟨g, 2, none⟩ (.int .i64 st)).setCell ⟨g, 1, none⟩ (.int .i64 st)).heap[rs]? = some (.cells #[.int .i64 v] 3 (0, 0))) := (heap_setCell_other _ _ _ _ (fun e => n2 e.symm)).trans HN2.out
  have HRR : Hid (Rd (((w.setCell ⟨g, 2, none⟩ (.int .i64 st)).setCell ⟨g, 1, none⟩ (.int .i64 st)).setCell ⟨rs, 0, none⟩ (.int .i64 0)) g A n c st st er) := (heap_setCell_other _ _ _ _ n2).trans HG21.out
  have HRV : Hid ((((w.setCell ⟨g, 2, none⟩ (.int .i64 st)).setCell ⟨g, 1, none⟩ (.int .i64 st)).setCell ⟨rs, 0, none⟩ (.int .i64 0)).heap[rs]? = some (.cells #[.int .i64 0] 3 (0, 0))) := heap_setCell_same _ _ 0 _ _ (.int .i64 0) HN21.out
  have HB : Hid (But (fun k => k = g ∨ k = rs) w (w.setCell ⟨g, 2, none⟩ (.int .i64 st))) := (But.refl _ _).setCell (.inl (.inl rfl)) _
  have HB3 : Hid (But (fun k => k = g ∨ k = rs) w (((w.setCell ⟨g, 2, none⟩ (.int .i64 st)).setCell ⟨g, 1, none⟩ (.int .i64 st)).setCell ⟨rs, 0, none⟩ (.int .i64 0))) := (HB.out.setCell (.inl (.inl rfl)) _).setCell (.inl (.inr rfl)) _
  clear hs hrb hrs hr h1 h2 h3
  by_cases he : er = 0
  · have heb : (er != 0) = false := by simp [he]
    have H1 : Hid ((if er = 0 then p else st) = p) := if_pos he
    have H2 : Hid ((if er = 0 then v else 0) = v) := if_pos he
    rw [H1.out, H2.out]
    clear he
    go_enter_d Tryd.func68, Tryd.ntmps68
    go_wp2
    go_end0
    exact ⟨rfl, HG2, HN2, HB⟩
  · have heb : (er != 0) = true := by simp [he]
    have H1 : Hid ((if er = 0 then p else st) = st) := if_neg he
    have H2 : Hid ((if er = 0 then v else 0) = 0) := if_neg he
    rw [H1.out, H2.out]
    clear he
    go_enter_d Tryd.func68, Tryd.ntmps68
    go_wp2
    go_end0
    exact ⟨rfl, HRR, HRV, HB3⟩

set_option maxRecDepth 20000 in
set_option maxHeartbeats 1000000 in
theorem closed_69 (s rb rs g : Nat) (A : Option Addr) (n c p : Nat) (st : Nat) (pv er v : Int) (w : World) (hs : w.heap[s]? = some (.cells #[.int .i64 st] 3 (0, 0))) (hrb : w.heap[rb]? = some (.cells #[.pointer (some ⟨g, 0, none⟩)] 62 (0, 0))) (hrs : w.heap[rs]? = some (.cells #[.int .u64 v] 61 (0, 0))) (hr : Rd w g A n c p pv er) (h1 : g < rb) (h2 : rb < rs) (h3 : rs < s) :
    CallsD Tryd.prog 53 #[.pointer (some ⟨s, 0, none⟩), .pointer (some ⟨rb, 0, none⟩), .pointer (some ⟨rs, 0, none⟩)] .returning w fun e u' w' => u' = .returning ∧ (e = .returned (.tuple #[]) ∧ Hid (Rd w' g A n c (if er = 0 then p else st) st er) ∧ Hid (w'.heap[rs]? = some (.cells #[.int .u64 (if er = 0 then v else 0)] 61 (0, 0))) ∧ Hid (But (fun k => k = g ∨ k = rs) w w')) := by
  have HR := Lib.hid hr
  have HS := Lib.hid hs
  have HRB := Lib.hid hrb
  have HRS := Lib.hid hrs
  have c1 := cell_of_row w g 1 _ _ _ hr
  have c2 := cell_of_row w g 2 _ _ _ hr
  have c3 := cell_of_row w g 3 _ _ _ hr
  have cs := cell_of_row w s 0 _ _ _ hs
  have cb := cell_of_row w rb 0 _ _ _ hrb
  have cr := cell_of_row w rs 0 _ _ _ hrs
  have f1 := frozen_of_row w g 1 _ _ hr
  have f2 := frozen_of_row w g 2 _ _ hr
  have fr := frozen_of_row w rs 0 _ _ hrs
  simp at c1 c2 c3 cs cb cr
  have n1 : ¬ g = rb := by omega
  have n2 : ¬ g = rs := by omega
  have n3 : ¬ g = s := by omega
  have n4 : ¬ rb = rs := by omega
  have n5 : ¬ rs = s := by omega
  have n6 : ¬ rb = s := by omega
  have HG2 : Hid (Rd (w.setCell ⟨g, 2, none⟩ (.int .i64 st)) g A n c p st er) := heap_setCell_same w _ 2 _ _ (.int .i64 st) hr
  have HG21 : Hid (Rd ((w.setCell ⟨g, 2, none⟩ (.int .i64 st)).setCell ⟨g, 1, none⟩ (.int .i64 st)) g A n c st st er) := heap_setCell_same _ _ 1 _ _ (.int .i64 st) HG2.out
  have HN2 : Hid ((w.setCell ⟨g, 2, none⟩ (.int .i64 st)).heap[rs]? = some (.cells #[.int .u64 v] 61 (0, 0))) := (heap_setCell_other w _ _ _ (fun e => n2 e.symm)).trans hrs
  have HN21 : Hid (((w.setCell ⟨g, 2, none⟩ (.int .i64 st)).setCell ⟨g, 1, none⟩ (.int .i64 st)).heap[rs]? = some (.cells #[.int .u64 v] 61 (0, 0))) := (heap_setCell_other _ _ _ _ (fun e => n2 e.symm)).trans HN2.out
  have HRR : Hid (Rd (((w.setCell ⟨g, 2, none⟩ (.int .i64 st)).setCell ⟨g, 1, none⟩ (.int .i64 st)).setCell ⟨rs, 0, none⟩ (.int .u64 0)) g A n c st st er) := (heap_setCell_other _ _ _ _ n2).trans HG21.out
  have HRV : Hid ((((w.setCell ⟨g, 2, none⟩ (.int .i64 st)).setCell ⟨g, 1, none⟩ (.int .i64 st)).setCell ⟨rs, 0, none⟩ (.int .u64 0)).heap[rs]? = some (.cells #[.int .u64 0] 61 (0, 0))) := heap_setCell_same _ _ 0 _ _ (.int .u64 0) HN21.out
  have HB : Hid (But (fun k => k = g ∨ k = rs) w (w.setCell ⟨g, 2, none⟩ (.int .i64 st))) := (But.refl _ _).setCell (.inl (.inl rfl)) _
  have HB3 : Hid (But (fun k => k = g ∨ k = rs) w (((w.setCell ⟨g, 2, none⟩ (.int .i64 st)).setCell ⟨g, 1, none⟩ (.int .i64 st)).setCell ⟨rs, 0, none⟩ (.int .u64 0))) := (HB.out.setCell (.inl (.inl rfl)) _).setCell (.inl (.inr rfl)) _
  clear hs hrb hrs hr h1 h2 h3
  by_cases he : er = 0
  · have heb : (er != 0) = false := by simp [he]
    have H1 : Hid ((if er = 0 then p else st) = p) := if_pos he
    have H2 : Hid ((if er = 0 then v else 0) = v) := if_pos he
    rw [H1.out, H2.out]
    clear he
    go_enter_d Tryd.func53, Tryd.ntmps53
    go_wp2
    go_end0
    exact ⟨rfl, HG2, HN2, HB⟩
  · have heb : (er != 0) = true := by simp [he]
    have H1 : Hid ((if er = 0 then p else st) = st) := if_neg he
    have H2 : Hid ((if er = 0 then v else 0) = 0) := if_neg he
    rw [H1.out, H2.out]
    clear he
    go_enter_d Tryd.func53, Tryd.ntmps53
    go_wp2
    go_end0
    exact ⟨rfl, HRR, HRV, HB3⟩
end Go.Proofs.YtlnaakpcnhnccaaDoor
