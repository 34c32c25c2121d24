/- wire.Reader: NewReader, End. -/
import Derived.Test.YtlnaakpcnhnccaaDoorWiE
namespace Go.Proofs.YtlnaakpcnhnccaaDoor
open Go.RowKit
theorem Sl.on {α : Type} {f : α → Value} {w w' : World} {A : Option Addr} {n : Nat} {xs : List α} (h : Sl f w w.heap.size A n xs) (hb : Below w.heap.size w w') : Sl f w' w'.heap.size A n xs := (h.up hb (Nat.le_refl _)).more' hb.size
set_option linter.unusedVariables false
set_option linter.unusedSimpArgs false

theorem rend_any (g : Nat) (A : Option Addr) (n c p : Nat) (pv er : Int) (w : World) (hr : Rd w g A n c p pv er) :
    Calls Tryd.prog 40 #[.pointer (some ⟨g, 0, none⟩)] w fun e w' => e = .returned (.tuple #[.int .i64 p, .int .i64 (if er = 0 then (if p < n then 3 else 0) else er)]) ∧ Below w.heap.size w w' := by
  have c0 := cell_of_row w g 0 _ _ _ hr
  have c1 := cell_of_row w g 1 _ _ _ hr
  have c3 := cell_of_row w g 3 _ _ _ hr
  simp at c0 c1 c3
  clear hr
  obtain ⟨z, hz⟩ : ∃ z : Int, (if er = 0 then (if p < n then 3 else 0) else er) = z := ⟨_, rfl⟩
  rw [hz]
  by_cases he : er = 0
  · have heb : (er != 0) = false := by simp [he]
    rw [if_pos he] at hz
    clear he
    by_cases hlt : p < n
    · rw [if_pos hlt] at hz
      subst hz
      go_enter Tryd.func40, Tryd.ntmps40
      go_wp2
      go_quiet (fail)
      go_wp2
      go_ret2
      exact ⟨rfl, below_drewN (Below.refl _ _) _⟩
    · rw [if_neg hlt] at hz
      subst hz
      go_enter Tryd.func40, Tryd.ntmps40
      go_wp2
      go_quiet (fail)
      go_wp2
      go_ret2
      exact ⟨rfl, below_drewN (Below.refl _ _) _⟩
  · have heb : (er != 0) = true := by simp [he]
    rw [if_neg he] at hz
    clear he
    subst hz
    go_enter Tryd.func40, Tryd.ntmps40
    go_wp2
    go_quiet (fail)
    go_wp2
    go_ret2
    exact ⟨rfl, below_drewN (Below.refl _ _) _⟩

/-- A new reader: its block, its own row of the bytes. -/
def NewRd (n : Nat) (bs : List Int) (w : World) (e : Ending) (w' : World) : Prop :=
  ∃ g A1 c1, e = .returned (.pointer (some ⟨g, 0, none⟩)) ∧ Rd w' g A1 n c1 0 0 0 ∧ Sl fB w' g A1 n bs ∧ w.heap.size ≤ g ∧ Below w.heap.size w w' ∧ n ≤ c1

set_option maxRecDepth 20000 in
theorem newReader_any (A : Option Addr) (n c : Nat) (bs : List Int) (w : World) (hx : Sl fB w w.heap.size A n bs) (hn : n ≤ 1000000) :
    Calls Tryd.prog 20 #[.slice A n c] w (NewRd n bs w) := by
  obtain ⟨i0, hi, hz0, hz1, hz2⟩ := info_parts Tryd.infoB
  have HI := Lib.hid hi
  have HZ0 := Lib.hid hz0
  have HZ1 := Lib.hid hz1
  have HZ2 := Lib.hid hz2
  clear hi hz0 hz1 hz2
  have HO0 : Hid (Own fB 5 (w.alloc (.cells #[] 5)) w.heap.size (.slice (some ⟨w.heap.size, 0, none⟩) 0 0) []) := World.ownsRow_lit w #[] 0 (Nat.le_refl _) (by unfold maxLen; omega) rfl
  have HB0 : Hid (Below w.heap.size w (w.alloc (.cells #[] 5))) := (Below.refl _ _).alloc (Nat.le_refl _) _
  have HS0 : Hid (Sl fB (w.alloc (.cells #[] 5)) (w.alloc (.cells #[] 5)).heap.size A n bs) := hx.on HB0.out
  have HL1 : Hid ((([] : List Int).length + bs.length) * 1 ≤ 140737488355328) := by show _ ≤ _; rw [hx.1]; simp; omega
  have HL3 : Hid (([] : List Int).length + bs.length ≤ maxLen) := by show _ ≤ _; rw [hx.1]; unfold maxLen; simp; omega
  have HLN : Hid (bs.length = n) := hx.1
  clear hx
  go_enter Tryd.func20, Tryd.ntmps20
  go_wp2_with (refine wpList_app (o := ⟨some 5, _, _, _, _, _⟩) rfl (.tmp 3) (.tmp 4) 24 rfl 5 i0 (.int .u8 0) 1 Tryd.underlying24 HI.out HZ0.out HZ1.out HZ2.out rfl (.slice (some ⟨w.heap.size, 0, none⟩) 0 0) ([] : List Int) w.heap.size rfl HO0.out A n c (w.alloc (.cells #[] 5)).heap.size bs rfl HS0.out fB1 HL1.out HL3.out HB0.out.size ?_; intro v6 w6 HO6 HG6 _; obtain ⟨A6, c6, hv6, hc6, hs6, _⟩ := HO6.out.shape; have HS6 : Hid (Sl fB w6 w6.heap.size A6 n bs) := ⟨HLN.out, hs6⟩; have HB6 : Hid (Below w.heap.size w w6) := HO0.out.below HB0.out (Nat.le_refl _) HB0.out.size HG6.out; rw [List.nil_append, HLN.out] at hv6; (have HC6 : Hid (n ≤ c6) := Nat.le_trans (Nat.le_of_eq HLN.out.symm) hc6); clear hc6 hs6; subst hv6)
  go_ret
  have hb7 : Below w.heap.size w (w6.alloc (.cells #[.slice A6 n c6, .int .i64 0, .int .i64 0, .int .i64 0] 85)) := HB6.out.alloc HB6.out.size _
  exact ⟨w6.heap.size, A6, c6, rfl, heap_alloc_new w6 _, HS6.out.up ((Below.refl _ _).alloc (Nat.le_refl _) _) (Nat.le_refl _), HB6.out.size, hb7, HC6.out⟩
end Go.Proofs.YtlnaakpcnhnccaaDoor
