/- Normal forms: (vector).normal, slices.Clone, padded where it says no. -/
import Derived.Test.YtlnaakpcnhnccaaDoorYp
namespace Go.Proofs.YtlnaakpcnhnccaaDoor
open Go.RowKit
set_option linter.unusedVariables false
set_option linter.unusedSimpArgs false

theorem padded_no (A : Option Addr) (n : Nat) (xs : List Int) (c : Nat) (w : World) (B : Nat) (hx : Sl I w B A n xs) (hB : B ≤ w.heap.size) (hl : n ≤ 4611686018427387904) (hv : validB xs = false) :
    Calls Tryd.prog 30 #[.slice A n c] w fun e w' => e = .returned (.tuple #[.agg Z12.toArray, .bool false]) ∧ Below w.heap.size w w' := by
  obtain ⟨rfl, hx⟩ := hx
  have hb2 : Below w.heap.size w ((w.alloc (.cells Z12.toArray 75)).alloc (.cells Z12.toArray 75)) := ((Below.refl _ _).alloc (Nat.le_refl _) _).alloc (by simp) _
  have HX := Lib.hid (hx.up hb2 hB)
  clear hb2
  go_enter Tryd.func30, Tryd.ntmps30
  go_wp2_with (go_at_call 41; refine (vvalid_any _ _ _ _ B HX.out hl).mono ?_; rintro e w' ⟨rfl, rfl⟩)
  exact bodyPost_ret (ret_cell_tmp rfl rfl (heap_alloc2_old w _ _) Tryd.underlying75 Tryd.size57) rfl ⟨rfl, ((Below.refl _ _).alloc (Nat.le_refl _) _).alloc (by simp) _⟩

abbrev Z0 : List Int := [0, 0, 0, 0, 0, 0, 0, 0, 0, 0, 0, 0]
/-- What padded hands back. -/
def pd (xs : List Int) : List Int := if validB xs = true then pad xs else Z0
theorem pd_len (xs : List Int) : (pd xs).length = 12 := by
  unfold pd; split
  · rename_i h; exact pad_len (by simp [validB] at h; exact h.2)
  · rfl
theorem pd_size57 (xs : List Int) : (Tryd.prog.info? 75).map (·.size) = some (av (pd xs)).size := by rw [av_size, pd_len]; exact Tryd.size57
theorem pd_sizeZ (xs : List Int) : Z12.toArray.size = (av (pd xs)).size := by rw [av_size, pd_len]; rfl
theorem padded_any (A : Option Addr) (n : Nat) (xs : List Int) (c : Nat) (w : World) (B : Nat) (hx : Sl I w B A n xs) (hB : B ≤ w.heap.size) (hl : n ≤ 1000000) :
    Calls Tryd.prog 30 #[.slice A n c] w fun e w' => e = .returned (.tuple #[.agg (av (pd xs)), .bool (validB xs)]) ∧ Below w.heap.size w w' := by
  by_cases h : validB xs = true
  · rw [pd, if_pos h, h]; exact padded_yes A n xs c w B hx hB h
  · have h' : validB xs = false := by simpa using h
    rw [pd, if_neg h, h']
    exact padded_no A n xs c w B hx hB (by omega) h'

theorem clone_any (b off n : Nat) (xs : List Int) (c : Nat) (w : World) (B : Nat) (hx : Sl I w B (some ⟨b, off, none⟩) n xs) (hB : B ≤ w.heap.size) (hl : n ≤ 1000000) :
    Calls Tryd.prog 52 #[.slice (some ⟨b, off, none⟩) n c] w (Slc I xs w) := by
  obtain ⟨rfl, hx⟩ := hx
  have hb2 : Below w.heap.size w (w.alloc (.cells #[] 3)) := (Below.refl _ _).alloc (Nat.le_refl _) _
  have HX := Lib.hid (hx.up hb2 hB)
  have HO : Hid (Own I 3 (w.alloc (.cells #[] 3)) w.heap.size (.slice (some ⟨w.heap.size, 0, none⟩) 0 0) []) := World.ownsRow_lit w #[] 0 (Nat.le_refl _) (by unfold maxLen; omega) rfl
  have HB2 := Lib.hid hb2
  clear hb2
  have HL1 : Hid ((([] : List Int).length + xs.length) * 8 ≤ 140737488355328) := by show _ ≤ _; simp; omega
  have HL2 : Hid (([] : List Int).length + xs.length ≤ maxLen) := by show _ ≤ _; simp [maxLen]; omega
  have hnil := Lib.run_eql_slice_nil (P := Tryd.prog) w 22 3 (some ⟨b, off, none⟩) xs.length c 0 0 Tryd.underlying22
  obtain ⟨i0, hi, hz0, hz1, hz2⟩ := info_parts Tryd.info3
  go_enter Tryd.func52, Tryd.ntmps52
  go_wp2_with (with_reducible refine wpList_app (o := ⟨some 7, _, _, _, _, _⟩) rfl (.tmp 5) (.tmp 6) 22 rfl 3 i0 (.int .i64 0) 8 Tryd.underlying22 hi hz0 hz1 hz2 rfl (.slice (some ⟨w.heap.size, 0, none⟩) 0 0) [] w.heap.size rfl HO.out _ _ _ B xs rfl HX.out.sl I1 HL1.out HL2.out HB2.out.size ?_; intro v1 w1 HO1 HG1 _)
  have HO2 := HO1.out
  rw [List.nil_append] at HO2
  obtain ⟨A', c', rfl, hc', hs', _⟩ := HO2.shape
  go_ret
  exact ⟨A', _, c', rfl, hc', hs'.sl, HB2.out.trans (grown_below HG1.out (by simp [Value.ownBlock]) HB2.out.size)⟩

/-- The number of places up to the last one that is not 0, among the first n. -/
def nlen (x : List Int) : Nat → Nat
  | 0 => 0
  | n + 1 => if x.getD n 0 = 0 then nlen x n else n + 1
def nrm (x : List Int) : List Int := x.take (nlen x x.length)
theorem nlen_le (x : List Int) (n : Nat) : nlen x n ≤ n := by
  induction n with
  | zero => exact Nat.le_refl _
  | succ n ih => unfold nlen; split <;> omega

theorem normal_any (x : List Int) (w : World) (hx : x.length = 12) :
    Calls Tryd.prog 31 #[.agg (av x)] w (Slc I (nrm x) w) := by
  have HA : Hid (At I (w.alloc (.cells (av x) 75)) w.heap.size 0 x) := At.of_block (heap_alloc_new w _)
  have HB : Hid (Below w.heap.size w (w.alloc (.cells (av x) 75))) := (Below.refl _ _).alloc (Nat.le_refl _) _
  have HX := Lib.hid hx
  clear hx
  obtain ⟨i0, hi, hz0, hz1, hz2⟩ := info_parts Tryd.info3
  clear hz0 hz1 hz2
  go_enter Tryd.func31, Tryd.ntmps31
  go_wp2
  go_loop [3] (fun i => ∃ n : Nat, n ≤ 12 ∧ i = .int .i64 n ∧ nlen x n = nlen x 12) (fun i => (intOf i).toNat)
  case atStart => exact ⟨12, Nat.le_refl _, rfl, rfl⟩
  case round =>
    obtain ⟨n, hn, rfl, hnl⟩ := hrel
    have HN := Lib.hid hnl
    clear hnl
    by_cases hgo : 0 < n ∧ x.getD (n - 1) 0 = 0
    · obtain ⟨m, rfl⟩ : ∃ m, n = m + 1 := ⟨n - 1, by omega⟩
      have hz : x[m]? = some 0 := by
        obtain ⟨z, hz⟩ := get_ex (xs := x) (k := m) (by rw [HX.out]; omega)
        have := hgo.2
        rw [Nat.add_sub_cancel, getD_of hz] at this
        rw [hz, this]
      have hc := HA.out.zero hz
      have HN2 : Hid (nlen x m = nlen x 12) := by
        rw [← HN.out]; show _ = nlen x (m + 1); rw [nlen, getD_of hz, if_pos rfl]
      clear hgo hz
      go_wp2
      go_round
      case rel => exact ⟨m, by omega, by go_num, HN2.out⟩
      case measure => simp [intOf]
    · have HE : Hid (nrm x = x.take n) := by
        show nrm x = _
        rw [nrm, HX.out, ← HN.out]
        cases n with
        | zero => rfl
        | succ m => rw [nlen, if_neg (fun h => hgo ⟨by omega, by simpa using h⟩)]
      have HSL : Hid (Sl I (w.alloc (.cells (av x) 75)) (w.heap.size + 1) (some ⟨w.heap.size, 0, none⟩) n (x.take n)) :=
        ⟨by rw [List.length_take, HX.out]; omega, (SL.of_block (heap_alloc_new w _) (Nat.lt_succ_self _)).take_ n⟩
      by_cases h0 : n = 0
      · subst h0
        clear hgo
        have hsl := run_slice_arr (P := Tryd.prog) 75 3 12 i0 Tryd.underlying75 hi w.heap.size 0 .i64 0 0 rfl hn (w.alloc (.cells (av x) 75))
        go_wp2_with (go_at_call 52; refine (clone_any _ _ _ (x.take 0) _ _ _ HSL.out (by simp) (by omega)).mono ?_; rintro e w' ⟨A, r, c, rfl, h1, h2, h3⟩)
        go_ret
        exact ⟨A, r, c, rfl, h1, by rw [HE.out]; exact h2, HB.out.trans (h3.mono (by simp))⟩
      · obtain ⟨m, rfl⟩ : ∃ m, n = m + 1 := ⟨n - 1, by omega⟩
        obtain ⟨z, hz⟩ := get_ex (xs := x) (k := m) (by rw [HX.out]; omega)
        have hc := HA.out.zero hz
        have hz1 : (z == 0) = false := by
          have : ¬ z = 0 := fun e => hgo ⟨by omega, by rw [Nat.add_sub_cancel, getD_of hz, e]⟩
          simpa using this
        have hsl := run_slice_arr (P := Tryd.prog) 75 3 12 i0 Tryd.underlying75 hi w.heap.size 0 .i64 ((m : Int) + 1) (m + 1) (by omega) hn (w.alloc (.cells (av x) 75))
        clear hgo h0 hz
        go_wp2_with (go_at_call 52; refine (clone_any _ _ _ (x.take (m + 1)) _ _ _ HSL.out (by simp) (by omega)).mono ?_; rintro e w' ⟨A, r, c, rfl, h1, h2, h3⟩)
        go_ret
        exact ⟨A, r, c, rfl, h1, by rw [HE.out]; exact h2, HB.out.trans (h3.mono (by simp))⟩
end Go.Proofs.YtlnaakpcnhnccaaDoor