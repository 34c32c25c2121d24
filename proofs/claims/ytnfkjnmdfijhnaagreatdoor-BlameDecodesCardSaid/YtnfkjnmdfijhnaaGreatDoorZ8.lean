/- Merkle leaves and roots of one block: the program's and the reference's. -/
import Derived.Test.YtnfkjnmdfijhnaaGreatDoorZ7
namespace Go.Proofs.YtnfkjnmdfijhnaaGreatDoor
open Go.RowKit
set_option linter.unusedVariables false
set_option linter.unusedSimpArgs false

abbrev fT : ByteArray → Value := Value.string
theorem fT1 : ∀ y, (fT y).oneCell' = true := fun _ => rfl
theorem Tryz.infoS : (Tryz.prog.info? 9).map (fun i => (i.zero, i.size, i.bytes)) = some (some (.string ⟨#[]⟩), 1, 16) := by kernel_rfl
/-- The package's tables. -/
def Glob (w : World) : Prop := KTab w ∧ (∀ (i : Nat) (x : Int), hTab.list[i]? = some x → w.cell? ⟨0, i, none⟩ = some (U32 x)) ∧ 1 < w.heap.size
theorem Glob.up {w w' : World} {B : Nat} (h : Glob w) (hb : Below B w w') (hB : 1 < B) : Glob w' :=
  ⟨fun i x hx => (hb.cell (p := ⟨1, i, none⟩) hB).trans (h.1 i x hx), fun i x hx => (hb.cell (p := ⟨0, i, none⟩) (Nat.lt_trans Nat.zero_lt_one hB)).trans (h.2.1 i x hx), Nat.lt_of_lt_of_le h.2.2 hb.size⟩
theorem Glob.on {w w' : World} (h : Glob w) (hb : Below w.heap.size w w') : Glob w' := h.up hb h.2.2
def zeros64 : List Int := List.replicate 64 0
/-- A new state. -/
def newSt : Obj := .cells (stCells hTab zeros64 0) 188
theorem newSt_St (w : World) : St (w.alloc newSt) w.heap.size [] := ⟨zeros64, rfl, fun x hx => by rw [(List.mem_replicate.1 hx).2]; omega, (fun x hx => by cases hx), heap_alloc_new w _, rfl⟩
theorem newEq : stCells hTab zeros64 0 = ((((((((Tryz.zeroCells188.setIfInBounds 0 (U32 hTab.a)).setIfInBounds 1 (U32 hTab.b)).setIfInBounds 2 (U32 hTab.c)).setIfInBounds 3 (U32 hTab.d)).setIfInBounds 4 (U32 hTab.e)).setIfInBounds 5 (U32 hTab.f)).setIfInBounds 6 (U32 hTab.g)).setIfInBounds 7 (U32 hTab.h)) := by kernel_rfl
theorem leaf_cons (xs : List Int) : [] ++ [(0 : Int)] ++ xs = 0 :: xs := rfl
set_option maxRecDepth 100000 in
theorem stNew_any (w : World) (h : Glob w) : Calls Tryz.prog 143 #[] w fun e w' => e = .returned (.pointer (some ⟨w.heap.size, 0, none⟩)) ∧ w.alloc newSt = w' := by
  have c0 := h.2.1 0 _ rfl
  have c1 := h.2.1 1 _ rfl
  have c2 := h.2.1 2 _ rfl
  have c3 := h.2.1 3 _ rfl
  have c4 := h.2.1 4 _ rfl
  have c5 := h.2.1 5 _ rfl
  have c6 := h.2.1 6 _ rfl
  have c7 := h.2.1 7 _ rfl
  clear h
  go_enter Tryz.func143, Tryz.ntmps143
  go_wp2
  go_ret
  exact ⟨rfl, congrArg (fun c => w.alloc (.cells c 188)) newEq⟩
set_option maxRecDepth 100000 in
set_option maxHeartbeats 4000000 in
theorem mleaf_any (A : Option Addr) (n c B : Nat) (xs : List Int) (w : World) (hG : Glob w) (hx : Sl fB w B A n xs) (hc : n ≤ c) (hB : B ≤ w.heap.size) (hl : n ≤ 549755813887) (hxb : Byt xs) (hA : ∀ a, A = some a → a.block < w.heap.size) :
    Calls Tryz.prog 142 #[.slice A n c] w fun e w' => e = .returned (.string (baOf (shaB (0 :: xs)))) ∧ Below w.heap.size w w' := by
  have HC0 := Lib.hid (stNew_any w hG)
  have HGl := Lib.hid hG
  have HX := Lib.hid hx
  have HXB := Lib.hid hxb
  have HA := Lib.hid hA
  have H1 : Hid (Calls Tryz.prog 144 #[.pointer (some ⟨w.heap.size, 0, none⟩), .slice (some ⟨w.heap.size + 1, 0, none⟩) 1 1] ((w.alloc newSt).alloc (.cells #[.int .u8 0] 5)) fun e w' => e = .returned (.tuple #[]) ∧ St w' w.heap.size [0] ∧ But (fun k => k = w.heap.size) ((w.alloc newSt).alloc (.cells #[.int .u8 0] 5)) w') := by
    have hb : Below w.heap.size w ((w.alloc newSt).alloc (.cells #[.int .u8 0] 5)) := ((Below.refl _ _).alloc (Nat.le_refl _) _).alloc (by simp) _
    have hs : Sl fB ((w.alloc newSt).alloc (.cells #[.int .u8 0] 5)) (w.heap.size + 2) (some ⟨w.heap.size + 1, 0, none⟩) 1 [0] := ⟨rfl, SL.of_block (t := 5) (fr := (0, 0)) (heap_alloc2_new w _ _) (by omega)⟩
    exact write_any w.heap.size [] [0] _ 1 1 (w.heap.size + 2) _ ((newSt_St w).but ((But.refl (fun _ => False) _).alloc _) (fun h => h)) hs (Nat.le_refl _) (by simp) (fun x hx => by rw [List.mem_singleton.1 hx]; omega) (fun a ha => by injection ha with ha; subst ha; exact Nat.succ_ne_self _) (by simp) (hG.on hb).1 (hG.on hb).2.2 (Nat.ne_of_gt hG.2.2)
  have H2 : Hid (∀ w1, St w1 w.heap.size [0] → Below w.heap.size w w1 → Calls Tryz.prog 144 #[.pointer (some ⟨w.heap.size, 0, none⟩), .slice A n c] w1 fun e w' => e = .returned (.tuple #[]) ∧ St w' w.heap.size (0 :: xs) ∧ But (fun k => k = w.heap.size) w1 w') := fun w1 h1 hb =>
    write_any w.heap.size [0] xs A n c B w1 h1 (hx.up hb hB) hc (Nat.le_trans hB hb.size) hxb (fun a ha => Nat.ne_of_lt (hA a ha)) (by rw [hx.1]; simp; omega) (hG.on hb).1 (hG.on hb).2.2 (Nat.ne_of_gt hG.2.2)
  have H3 : Hid (∀ w2, St w2 w.heap.size (0 :: xs) → Below w.heap.size w w2 → Calls Tryz.prog 145 #[.pointer (some ⟨w.heap.size, 0, none⟩)] w2 fun e w' => e = .returned (.string (baOf (shaB (0 :: xs)))) ∧ Below w2.heap.size w2 w') := fun w2 h2 hb =>
    sum_any w.heap.size (0 :: xs) w2 h2 (by rw [List.length_cons, hx.1]; omega) (hG.on hb).1 (hG.on hb).2.2
  clear hG hx hxb hA
  go_enter Tryz.func142, Tryz.ntmps142
  go_wp2_with (first
    | (go_at_call 143; (with_reducible refine HC0.out.mono ?_); rintro e w0 ⟨rfl, hw0⟩; subst hw0)
    | (go_at_call 144; (with_reducible refine H1.out.mono ?_); rintro e w1 ⟨rfl, hs1, hb1⟩
       have HS1 := Lib.hid hs1
       have HB1 : Hid (Below w.heap.size w w1) := (((Below.refl _ _).alloc (Nat.le_refl _) newSt).alloc (by simp) (.cells #[.int .u8 0] 5)).trans (hb1.below (by simp; omega) (fun i hi => Nat.le_of_eq hi.symm))
       clear hs1 hb1)
    | (go_at_call 144; (with_reducible refine (H2.out w1 HS1.out HB1.out).mono ?_); rintro e w2 ⟨rfl, hs2, hb2⟩
       have HS2 := Lib.hid hs2
       have HB2 : Hid (Below w.heap.size w w2) := HB1.out.trans (hb2.below HB1.out.size (fun i hi => Nat.le_of_eq hi.symm))
       clear hs2 hb2)
    | (go_at_call 145; (with_reducible refine (H3.out w2 HS2.out HB2.out).mono ?_); rintro e w3 ⟨rfl, hb3⟩
       have HB3 := Lib.hid hb3
       clear hb3))
  go_ret
  exact ⟨rfl, HB2.out.trans (HB3.out.mono HB2.out.size)⟩
set_option maxRecDepth 100000 in
theorem rleaf_any (A : Option Addr) (n c B : Nat) (xs : List Int) (w : World) (hx : Sl fB w B A n xs) (hB : B ≤ w.heap.size) (hl : n ≤ 549755813887) (hxb : Byt xs) :
    Calls Tryz.prog 139 #[.slice A n c] w fun e w' => e = .returned (.string (baOf (shaB (0 :: xs)))) ∧ Below w.heap.size w w' := by
  obtain ⟨i0, hi, hz0, hz1, hz2⟩ := info_parts Tryz.infoB
  have HI := Lib.hid hi
  have HZ0 := Lib.hid hz0
  have HZ1 := Lib.hid hz1
  have HZ2 := Lib.hid hz2
  have HO0 : Hid (Own fB 5 (w.alloc (.cells #[.int .u8 0] 5)) w.heap.size (.slice (some ⟨w.heap.size, 0, none⟩) 1 1) [0]) := World.ownsRow_lit w #[.int .u8 0] 1 (Nat.le_refl _) (by unfold maxLen; omega) rfl
  have HB0 : Hid (Below w.heap.size w (w.alloc (.cells #[.int .u8 0] 5))) := (Below.refl _ _).alloc (Nat.le_refl _) _
  have HX0 : Hid (Sl fB (w.alloc (.cells #[.int .u8 0] 5)) B A n xs) := hx.up HB0.out hB
  have HXN : Hid (xs.length = n) := hx.1
  have HL1 : Hid ((([0] : List Int).length + xs.length) * 1 ≤ 140737488355328) := by show _ ≤ _; rw [hx.1]; simp; omega
  have HL2 : Hid (([0] : List Int).length + xs.length ≤ maxLen) := by show _ ≤ _; rw [hx.1]; unfold maxLen; simp; omega
  have HSz : Hid (w.heap.size ≤ (w.alloc (.cells #[.int .u8 0] 5)).heap.size) := by show _ ≤ _; simp
  have HXB := Lib.hid hxb
  clear hi hz0 hz1 hz2 hx hxb
  go_enter Tryz.func139, Tryz.ntmps139
  go_wp2_with (first
    | (at_builtin; (with_reducible refine wpList_app (o := ⟨some 5, _, _, _, _, _⟩) rfl (.tmp 3) (.tmp 4) 24 rfl 5 i0 (.int .u8 0) 1 Tryz.underlying24 HI.out HZ0.out HZ1.out HZ2.out rfl _ [0] w.heap.size rfl HO0.out _ _ _ B xs rfl HX0.out fB1 HL1.out HL2.out HSz.out ?_); intro v1 w1 HO1 HG1 HV1
       have HB1 : Hid (Below w.heap.size w w1) := HB0.out.trans (grown_below HG1.out (fun j hj => (World.ownsRow.lt HO0.out j hj).1) HSz.out)
       obtain ⟨A1, c1, hv1, hc1, hs1, _⟩ := HO1.out.shape
       have hl1 : ([0] ++ xs : List Int).length = n + 1 := by rw [List.length_append, HXN.out]; exact Nat.add_comm ..
       rw [hl1] at hv1
       subst hv1
       have HC := Lib.hid (rsum_any A1 (n + 1) c1 w1.heap.size ([0] ++ xs) w1 ⟨hl1, hs1⟩ (Nat.le_refl _) (by omega) (Byt.app (fun x hx => by rw [List.mem_singleton.1 hx]; omega) HXB.out))
       clear hs1 hl1 hc1)
    | (go_at_call 107; (refine HC.out.mono ?_); rintro e w2 ⟨rfl, hb2⟩
       have HB2 := Lib.hid hb2
       clear hb2))
  go_ret
  exact ⟨rfl, HB1.out.trans (HB2.out.mono HB1.out.size)⟩
end Go.Proofs.YtnfkjnmdfijhnaaGreatDoor
