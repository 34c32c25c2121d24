/- Clones. -/
import Derived.Test.YtkeicjokekmkpaaVt
import Derived.Test.YtkeicjokekmkpaaShelf
import Derived.Laws.OwnMore
namespace Go.Proofs.Ytkeicjokekmkpaa
open Go.RowKit Mb
set_option linter.unusedVariables false
set_option linter.unusedSimpArgs false

theorem Try.infoM : (Try.prog.info? 44).map (fun i => (i.zero, i.size, i.bytes)) = some (some (.agg #[.int .i64 0, .string ⟨#[]⟩, .string ⟨#[]⟩, .int .i64 0, .bool false]), 5, 56) := by kernel_rfl
theorem Try.zsM : (Value.agg #[.int .i64 0, .string ⟨#[]⟩, .string ⟨#[]⟩, .int .i64 0, .bool false]).cells.size = 5 := by kernel_rfl
/-- A function that hands back a row of its own. -/
def OwnR {α : Type} (f : α → List Value) (s : Nat) (t : TypeId) (xs : List α) (w : World) (e : Ending) (w' : World) : Prop := ∃ v, e = .returned v ∧ OwnN f s t w' w.heap.size v xs ∧ Below w.heap.size w w'
theorem SlN.none_nil {α : Type} {f : α → List Value} {s : Nat} {w : World} {B n : Nat} {xs : List α} (h : SlN f s w B none n xs) : xs = [] ∧ n = 0 := by
  cases xs with
  | nil => exact ⟨rfl, h.1.symm⟩
  | cons x l => obtain ⟨_, _, e, _⟩ := h.2 (by simp); cases e

set_option maxRecDepth 20000 in
set_option maxHeartbeats 1000000 in
theorem mclone_any (A : Option Addr) (n c : Nat) (ms : List Mem) (w : World) (hx : SlN fM 5 w w.heap.size A n ms) (hn : n ≤ 1000000) :
    Calls Try.prog 24 #[.slice A n c] w (OwnR fM 5 44 ms w) := by
  cases A with
  | none =>
    obtain ⟨rfl, rfl⟩ := hx.none_nil
    clear hx
    have hq := fun w => Lib.run_eql_slice_nil (P := Try.prog) w 22 44 none 0 c 0 0 Try.underlying22
    go_enter Try.func24, Try.ntmps24
    go_wp2
    go_ret
    exact ⟨_, rfl, OwnN.nil, Below.refl _ _⟩
  | some a =>
    obtain ⟨i0, hi, hz0, hz1, hz2⟩ := info_parts Try.infoM
    have HI := Lib.hid hi
    have HZ0 := Lib.hid hz0
    have HZ1 := Lib.hid hz1
    have HZ2 := Lib.hid hz2
    have HX := Lib.hid hx
    have HLEN : Hid (ms.length = n) := hx.1
    have HB : Hid (Below w.heap.size w (w.alloc (.cells #[] 44))) := (Below.refl _ _).alloc (Nat.le_refl _) _
    have HO : Hid (OwnN fM 5 44 (w.alloc (.cells #[] 44)) w.heap.size (.slice (some ⟨w.heap.size, 0, none⟩) 0 0) []) := World.ownsRow_lit w #[] 0 (Nat.le_refl _) (by unfold maxLen; omega) rfl
    have HK1 : Hid ((([] : List Mem).length + n) * 56 ≤ 140737488355328) := by show _ ≤ _; simp; omega
    have HK2 : Hid (([] : List Mem).length + n ≤ maxLen) := by show _ ≤ _; simp [maxLen]; omega
    have hq := fun w => Lib.run_eql_slice_nil (P := Try.prog) w 22 44 (some a) n c 0 0 Try.underlying22
    clear hi hz0 hz1 hz2 hx
    go_enter Try.func24, Try.ntmps24
    go_wp2_with ((refine wpList_appN fM_len (by omega) (o := ⟨some 7, _, _, _, _, _⟩) rfl (.tmp 5) (.tmp 6) 22 rfl 44 i0 _ 56 Try.underlying22 HI.out HZ0.out HZ1.out HZ2.out Try.zsM (.slice (some ⟨w.heap.size, 0, none⟩) 0 0) [] w.heap.size (by rfl) HO.out (some a) n c w.heap.size ms (by rfl) (HX.out.up HB.out (Nat.le_refl _)) fM_one HK1.out HK2.out HB.out.size ?_); intro v1 w1 HO1 HG1 _)
    go_ret
    exact ⟨v1, rfl, HO1.out, HB.out.trans ((grown_below HG1.out (by simp [Value.ownBlock]) HB.out.size))⟩
end Go.Proofs.Ytkeicjokekmkpaa
