/- Vectors: padded, normal, Clone. -/
import Derived.Test.YtlnaakpcnhnccaaDoorYv
namespace Go.Proofs.YtlnaakpcnhnccaaDoor
open Go.RowKit
set_option linter.unusedVariables false
set_option linter.unusedSimpArgs false

theorem Tryd.size3 : (Tryd.prog.info? 3).map (·.size) = some 1 := by kernel_rfl
theorem Tryd.size57 : (Tryd.prog.info? 75).map (·.size) = some 12 := by kernel_rfl
theorem Tryd.info3 : (Tryd.prog.info? 3).map (fun i => (i.zero, i.size, i.bytes)) = some (some (.int .i64 0), 1, 8) := by kernel_rfl
abbrev Z12 : List Value := [.int .i64 0, .int .i64 0, .int .i64 0, .int .i64 0, .int .i64 0, .int .i64 0, .int .i64 0, .int .i64 0, .int .i64 0, .int .i64 0, .int .i64 0, .int .i64 0]
def pad (xs : List Int) : List Int := xs ++ List.replicate (12 - xs.length) 0
theorem pad_len {xs : List Int} (h : xs.length ≤ 12) : (pad xs).length = 12 := by simp [pad]; omega
theorem splice_pad {xs : List Int} (_h : xs.length ≤ 12) : splice Z12 0 (xs.map I) = (pad xs).map I := by
  have e : splice Z12 0 (xs.map I) = xs.map I ++ Z12.drop xs.length := by simp only [splice, List.take_zero, List.nil_append, Nat.zero_add, List.length_map]
  rw [e, show Z12 = List.replicate 12 (Value.int .i64 0) from rfl, List.drop_replicate]; simp [pad]

theorem av_one (xs : List Int) : (av xs).all (·.oneCell') = true := all_oneCell_toArray fun v hv => by obtain ⟨y, _, rfl⟩ := List.mem_map.1 hv; rfl
theorem I_one (xs : List Int) : ∀ v ∈ xs.map I, v.oneCell' = true := fun v hv => by obtain ⟨y, _, rfl⟩ := List.mem_map.1 hv; rfl

theorem padded_yes (A : Option Addr) (n : Nat) (xs : List Int) (c : Nat) (w : World) (B : Nat) (hx : Sl I w B A n xs) (hB : B ≤ w.heap.size) (hv : validB xs = true) :
    Calls Tryd.prog 30 #[.slice A n c] w fun e w' => e = .returned (.tuple #[.agg (av (pad xs)), .bool true]) ∧ Below w.heap.size w w' := by
  obtain ⟨rfl, hx⟩ := hx
  have hl : xs.length ≤ 12 := by simp [validB] at hv; exact hv.2
  have hb2 : Below w.heap.size w ((w.alloc (.cells Z12.toArray 75)).alloc (.cells Z12.toArray 75)) := ((Below.refl _ _).alloc (Nat.le_refl _) _).alloc (by simp) _
  have HX := Lib.hid (hx.up hb2 hB)
  have HB2 := Lib.hid hb2
  have HC := Lib.hid (splice_pad hl)
  have HS : Hid ((Tryd.prog.info? 75).map (·.size) = some (av (pad xs)).size) := by show _ = _; rw [av_size, pad_len hl]; exact Tryd.size57
  have HS2 : Hid (Z12.toArray.size = (av (pad xs)).size) := by show _ = _; rw [av_size, pad_len hl]; rfl
  have HM : Hid ((xs.map I).length = Nat.min xs.length 12) := by show _ = min _ _; simp; omega
  have HF : Hid (0 + (xs.map I).length ≤ Z12.length) := by show _ ≤ _; simp; omega
  have HP : Hid (0 < (xs.map I).length → ∃ ad, A = some ad ∧ ∀ j v, (xs.map I)[j]? = some v → ((w.alloc (.cells Z12.toArray 75)).alloc (.cells Z12.toArray 75)).cell? (ad.add j) = some v) :=
    fun h => (hx.up hb2 hB).cells h
  clear hb2
  go_enter Tryd.func30, Tryd.ntmps30
  go_wp2_with (first
    | (go_at_call 41; refine (vvalid_any _ _ _ _ B HX.out (by omega)).mono ?_; rintro e w' ⟨rfl, rfl⟩)
    | (with_reducible refine wpList_copy_splice (o := ⟨some 11, _, _, _, _, _⟩) rfl (.tmp 9) (.tmp 10) 22 22 rfl 3 Tryd.underlying22 Tryd.size3 _ _ _ _ _ _ rfl rfl (w.heap.size + 1) 0 Z12 75 (heap_alloc2_new _ _ _) (xs.map I) HM.out (fun h => ⟨rfl, HP.out h⟩) HF.out (I_one xs) (w.heap.size + 1) _ (Below.refl _ _) (Nat.le_refl _) ?_
       intro w1 HG hb1
       have HG1 : Hid (w1.heap[w.heap.size + 1]? = some (.cells (av (pad xs)) 75 (0, 0))) := by have h := HG.out; rw [HC.out] at h; exact h
       have HR1 : Hid (w1.heap[w.heap.size]? = some (.cells Z12.toArray 75 (0, 0))) := (hb1.block w.heap.size (by omega)).trans (heap_alloc2_old w _ _)
       have HB1 : Hid (Below w.heap.size w w1) := HB2.out.trans (hb1.mono (by omega))
       clear HG hb1)
    | (with_reducible refine wpList_load_row (o := ⟨some 12, _, _, _, _, _⟩) rfl 75 (.tmp 4) rfl (w.heap.size + 1) rfl 75 (av (pad xs)) (0, 0) _ HG1.out Tryd.underlying75 rfl HS.out ?_)
    | (with_reducible refine wpList_store_far (o := ⟨none, _, _, _, _, _⟩) rfl 75 (.tmp 2) (.tmp 12) rfl w.heap.size 75 _ (av (pad xs)) rfl rfl HR1.out HS.out HS2.out (av_one _) w.heap.size _ HB1.out (Nat.le_refl _) ?_
       intro w2 HG2 HB2 _))
  go_goals
  exact bodyPost_ret (ret_cell_tmp rfl rfl HG2.out Tryd.underlying75 HS.out) rfl ⟨rfl, HB2⟩
end Go.Proofs.YtlnaakpcnhnccaaDoor
