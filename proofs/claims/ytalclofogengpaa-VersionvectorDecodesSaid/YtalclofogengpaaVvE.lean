/- Missing. -/
import Derived.Test.YtalclofogengpaaVvC
import Derived.Test.YtalclofogengpaaWn
namespace Go.Proofs.Ytalclofogengpaa
open Go.RowKit

/-- A range of entries. -/
structure Rg where
  d : Int
  f : Int
  t : Int

def fR (r : Rg) : List Value := [.int .i64 r.d, .int .i64 r.f, .int .i64 r.t]
theorem fR_len : ∀ r, (fR r).length = 3 := fun _ => rfl
theorem fR_one : ∀ r, ∀ u ∈ fR r, u.oneCell' = true := fun r u hu => by
  simp only [fR, List.mem_cons, List.not_mem_nil, or_false] at hu
  rcases hu with rfl | rfl | rfl <;> rfl

/-- The ranges that y has and x does not, of the first k devices. -/
def missL (x y : List Int) : Nat → List Rg
  | 0 => []
  | k + 1 => if x.getD k 0 < y.getD k 0 then missL x y k ++ [⟨k, x.getD k 0 + 1, y.getD k 0⟩] else missL x y k
theorem missL_len (x y : List Int) (k : Nat) : (missL x y k).length ≤ k := by
  induction k with
  | zero => exact Nat.le_refl _
  | succ k ih =>
    unfold missL
    split
    all_goals first | omega | (rw [List.length_append]; simp only [List.length_cons, List.length_nil]; omega)

def MissPost (xs ys : List Int) (w : World) (e : Ending) (w' : World) : Prop :=
  ((validB xs && validB ys) = true ∧ SlcN2 fR 3 (missL xs ys 12) 0 w e w') ∨ ((validB xs && validB ys) = false ∧ SlcN2 fR 3 ([] : List Rg) 1 w e w')
theorem missL_pad (xs ys : List Int) (k : Nat) : missL (pad xs) (pad ys) k = missL xs ys k := by
  induction k with
  | zero => rfl
  | succ k ih => rw [missL, missL, pad_getD, pad_getD, ih]

set_option maxRecDepth 10000 in
set_option maxHeartbeats 1000000 in
theorem missing_any (A A' : Option Addr) (n n' : Nat) (xs ys : List Int) (c c' : Nat) (w : World) (B : Nat) (hx : Sl I w B A n xs) (hy : Sl I w B A' n' ys) (hB : B ≤ w.heap.size) (hl : n ≤ 1000000) (hl' : n' ≤ 1000000) :
    Calls Try.prog 18 #[.slice A n c, .slice A' n' c'] w (MissPost xs ys w) := by
  have HX := Lib.hid hx
  have HY := Lib.hid hy
  clear hx hy
  obtain ⟨px, hpx⟩ : ∃ p, p = pd xs := ⟨_, rfl⟩
  obtain ⟨py, hpy⟩ : ∃ p, p = pd ys := ⟨_, rfl⟩
  have c1 : Hid (∀ W, Sl I W B A n xs → B ≤ W.heap.size → Calls Try.prog 39 #[.slice A n c] W fun e w' => e = .returned (.tuple #[.agg (av px), .bool (validB xs)]) ∧ Below W.heap.size W w') := fun W h hb => by rw [hpx]; exact padded_any A n xs c W B h hb hl
  have c2 : Hid (∀ W, Sl I W B A' n' ys → B ≤ W.heap.size → Calls Try.prog 39 #[.slice A' n' c'] W fun e w' => e = .returned (.tuple #[.agg (av py), .bool (validB ys)]) ∧ Below W.heap.size W w') := fun W h hb => by rw [hpy]; exact padded_any A' n' ys c' W B h hb hl'
  have S1 : Hid ((Try.prog.info? 57).map (·.size) = some (av px).size) := hpx ▸ pd_size57 xs
  have S2 : Hid ((Try.prog.info? 57).map (·.size) = some (av py).size) := hpy ▸ pd_size57 ys
  have T1 : Hid (Z12.toArray.size = (av px).size) := hpx ▸ pd_sizeZ xs
  have T2 : Hid (Z12.toArray.size = (av py).size) := hpy ▸ pd_sizeZ ys
  have L1 : Hid (px.length = 12) := hpx ▸ pd_len xs
  have L2 : Hid (py.length = 12) := hpy ▸ pd_len ys
  have HPX := Lib.hid hpx
  have HPY := Lib.hid hpy
  clear hpx hpy
  by_cases hv : validB xs = true
  · by_cases hw : validB ys = true
    · have HT : Hid ((validB xs && validB ys) = true) := by show _ = _; rw [hv, hw]; rfl
      have HML : Hid (missL xs ys 12 = missL px py 12) := by show _ = _; rw [HPX.out, HPY.out, pd_yes hv, pd_yes hw, missL_pad]
      have HRX : Hid (px.all inR = true) := by show _ = _; rw [HPX.out, pd_yes hv]; exact pad_inR hv
      have HRY : Hid (py.all inR = true) := by show _ = _; rw [HPY.out, pd_yes hw]; exact pad_inR hw
      obtain ⟨i0, hi, hz0, hz1, hz2⟩ := info_parts Try.info34
      have HI := Lib.hid hi
      have HZ0 := Lib.hid hz0
      have HZ1 := Lib.hid hz1
      have HZ2 := Lib.hid hz2
      clear hi hz0 hz1 hz2
      go_enter Try.func18, Try.ntmps18
      go_wp2_with fail
      refine (c1.out _ HX.out hB).mono ?_; rintro e w1 ⟨rfl, hb1⟩
      have HB1 := Lib.hid hb1
      have hs1 := hb1.size
      clear hb1
      go_wp2_with (with_reducible refine wpList_store_new (o := ⟨none, .store 57 (.tmp 6) (.tmp 15), _, _, _, _⟩) rfl 57 (.tmp 6) (.tmp 15) rfl 57 Z12.toArray (av px) rfl rfl S1.out T1.out (av_one _) ?_)
      have HB2 : Hid (Below w.heap.size w (w1.alloc (.cells (av px) 57))) := HB1.out.alloc hs1 _
      refine (c2.out _ (HY.out.up HB2.out hB) (by simp; omega)).mono ?_; rintro e w3 ⟨rfl, hb3⟩
      have HB3 : Hid (Below w.heap.size w w3) := HB2.out.trans (hb3.mono (by simp; omega))
      have HG6 : Hid (w3.heap[w1.heap.size]? = some (.cells (av px) 57 (0, 0))) := (hb3.block _ (by simp)).trans (heap_alloc_new w1 _)
      have hs3 : w1.heap.size < w3.heap.size := by have := hb3.size; simp at this; omega
      clear hb3
      have HG6' : Hid ((w3.alloc (.cells (av py) 57)).heap[w1.heap.size]? = some (.cells (av px) 57 (0, 0))) := (Below.heap_alloc w3 _ _ hs3).trans HG6.out
      have HG8 : Hid ((w3.alloc (.cells (av py) 57)).heap[w3.heap.size]? = some (.cells (av py) 57 (0, 0))) := heap_alloc_new w3 _
      have HB4 : Hid (Below w.heap.size w (w3.alloc (.cells (av py) 57))) := HB3.out.alloc (by omega) _
      go_wp2_with (with_reducible refine wpList_store_new (o := ⟨none, .store 57 (.tmp 8) (.tmp 20), _, _, _, _⟩) rfl 57 (.tmp 8) (.tmp 20) rfl 57 Z12.toArray (av py) rfl rfl S2.out T2.out (av_one _) ?_)
      go_loopw [10, 28] (fun v i wr => ∃ k : Nat, k ≤ 12 ∧ i = .int .i64 k ∧ Hid (OwnN fR 3 34 wr (w3.heap.size + 1) v (missL px py k)) ∧ Hid (wr.heap[w1.heap.size]? = some (.cells (av px) 57 (0, 0))) ∧ Hid (wr.heap[w3.heap.size]? = some (.cells (av py) 57 (0, 0))) ∧ Hid (Below w.heap.size w wr) ∧ w3.heap.size < wr.heap.size) (fun _ i _ => 12 - (intOf i).toNat)
      case atStart => exact ⟨0, by omega, rfl, OwnN.nil, HG6', HG8, HB4, by simp⟩
      case round =>
        obtain ⟨k, hk, rfl, HOk, HG6k, HG8k, HBk, hsk⟩ := hrel
        clear HG6' HG8 HB4
        by_cases hlt : k < 12
        · obtain ⟨x, hxk⟩ := get_ex (xs := px) (k := k) (by rw [L1.out]; omega)
          obtain ⟨y, hyk⟩ := get_ex (xs := py) (k := k) (by rw [L2.out]; omega)
          have hcx := At.zero (f := I) (At.of_block HG6k.out) hxk
          have hcy := At.zero (f := I) (At.of_block HG8k.out) hyk
          have b1 := inR_getD HRX.out k
          have b2 := inR_getD HRY.out k
          rw [getD_of hxk] at b1
          rw [getD_of hyk] at b2
          by_cases hgt : x < y
          · have HM : Hid (missL px py (k + 1) = missL px py k ++ [⟨k, x + 1, y⟩]) := by show _ = _; rw [missL, getD_of hxk, getD_of hyk, if_pos hgt]
            have hml := missL_len px py k
            have HL1 : Hid (((missL px py k).length + 1) * 24 ≤ 140737488355328) := by show _ ≤ _; omega
            have HL2 : Hid ((missL px py k).length + 1 ≤ maxLen) := by show _ ≤ _; unfold maxLen; omega
            have hwr : IntKind.i64.wrap (x + 1) = x + 1 := IntWalk.i64_in _ (by omega)
            clear hxk hyk hml
            go_wp2
            go_quiet (fail)
            go_wp2
            go_region_held3 (fun w' => w'.cell? ⟨w1.heap.size, k, none⟩ = some (.int .i64 x) ∧ w'.cell? ⟨w3.heap.size, k, none⟩ = some (.int .i64 y)) (first | go_keep | exact ⟨(HB5.out.cell (p := ⟨w1.heap.size, k, none⟩) (by show w1.heap.size < _; omega)).trans hcx, (HB5.out.cell (p := ⟨w3.heap.size, k, none⟩) (by show w3.heap.size < _; omega)).trans hcy⟩) (go_loud (refine step_appN fR_len (by omega) rfl (.tmp 38) (.tmp 48) 29 rfl 34 i0 _ 24 Try.underlying29 HI.out HZ0.out HZ1.out HZ2.out rfl u10 (missL px py k) (w3.heap.size + 1) ?_ ?_ (some ⟨wr.heap.size, 0, none⟩) 1 1 (wr.heap.size + 1) [⟨k, x + 1, y⟩] ?_ ?_ fR_one HL1.out HL2.out ?_ ?_; (exact rfl); (exact (HOk.out.drewN _).alloc _); (exact rfl); (exact SlN.of_block (t := 34) (fr := (0, 0)) (heap_alloc_new (wr.drewN _) _) (Nat.lt_succ_self _)); (simp; omega); (intro v1 w5 HO1 HG1 _); (have HB5 : Hid (Below (w3.heap.size + 1) wr w5) := OwnN.below ((HOk.out.drewN _).alloc _) ((below_drewN (Below.refl _ _) _).alloc (by simp; omega) _) (Nat.le_refl _) (by simp; omega) HG1.out); (clear HG1)))
            go_wp2
            go_roundw
            case rel => exact ⟨k + 1, by omega, by go_num, by rw [HM.out]; exact HO1.out, (HB5.out.block _ (by omega)).trans HG6k.out, (HB5.out.block _ (by omega)).trans HG8k.out, HBk.out.trans (HB5.out.mono (by have := HB3.out.size; omega)), Nat.lt_of_lt_of_le hsk HB5.out.size⟩
            case measure => simp [intOf]; omega
          · have HM : Hid (missL px py (k + 1) = missL px py k) := by show _ = _; rw [missL, getD_of hxk, getD_of hyk, if_neg hgt]
            clear hxk hyk
            go_wp2
            go_quiet (fail)
            go_wp2
            go_roundw
            case rel => exact ⟨k + 1, by omega, by go_num, by rw [HM.out]; exact HOk.out.drewN _, HG6k, HG8k, below_drewN HBk.out _, hsk⟩
            case measure => simp [intOf]; omega
        · obtain rfl : k = 12 := by omega
          obtain ⟨A1, cc1, rfl, h1, h2, _⟩ := HOk.out.shape fR_len
          go_wp2
          go_ret2
          exact .inl ⟨HT.out, A1, _, cc1, rfl, h1, by rw [HML.out]; exact h2, HBk.out⟩
    · have hw' : validB ys = false := by simpa using hw
      have HF : Hid ((validB xs && validB ys) = false) := by show _ = _; rw [hw', Bool.and_false]
      clear hw
      go_enter Try.func18, Try.ntmps18
      go_wp2_with fail
      refine (c1.out _ HX.out hB).mono ?_; rintro e w1 ⟨rfl, hb1⟩
      have HB1 := Lib.hid hb1
      have hs1 := hb1.size
      clear hb1
      go_wp2_with (with_reducible refine wpList_store_new (o := ⟨none, .store 57 (.tmp 6) (.tmp 15), _, _, _, _⟩) rfl 57 (.tmp 6) (.tmp 15) rfl 57 Z12.toArray (av px) rfl rfl S1.out T1.out (av_one _) ?_)
      have HB2 : Hid (Below w.heap.size w (w1.alloc (.cells (av px) 57))) := HB1.out.alloc hs1 _
      refine (c2.out _ (HY.out.up HB2.out hB) (by simp; omega)).mono ?_; rintro e w3 ⟨rfl, hb3⟩
      have HB3 : Hid (Below w.heap.size w w3) := HB2.out.trans (hb3.mono (by simp; omega))
      have HG6 : Hid (w3.heap[w1.heap.size]? = some (.cells (av px) 57 (0, 0))) := (hb3.block _ (by simp)).trans (heap_alloc_new w1 _)
      have hs3 : w1.heap.size < w3.heap.size := by have := hb3.size; simp at this; omega
      clear hb3
      go_wp2_with (with_reducible refine wpList_store_new (o := ⟨none, .store 57 (.tmp 8) (.tmp 20), _, _, _, _⟩) rfl 57 (.tmp 8) (.tmp 20) rfl 57 Z12.toArray (av py) rfl rfl S2.out T2.out (av_one _) ?_)
      all_goals (go_ret2; exact .inr ⟨HF.out, none, 0, 0, rfl, Nat.le_refl _, SlN.nil, HB3.out.alloc (by omega) _⟩)
  · have hv' : validB xs = false := by simpa using hv
    have HF : Hid ((validB xs && validB ys) = false) := by show _ = _; rw [hv', Bool.false_and]
    clear hv
    go_enter Try.func18, Try.ntmps18
    go_wp2_with fail
    refine (c1.out _ HX.out hB).mono ?_; rintro e w1 ⟨rfl, hb1⟩
    have HB1 := Lib.hid hb1
    have hs1 := hb1.size
    clear hb1
    go_wp2_with (with_reducible refine wpList_store_new (o := ⟨none, .store 57 (.tmp 6) (.tmp 15), _, _, _, _⟩) rfl 57 (.tmp 6) (.tmp 15) rfl 57 Z12.toArray (av px) rfl rfl S1.out T1.out (av_one _) ?_)
    have HB2 : Hid (Below w.heap.size w (w1.alloc (.cells (av px) 57))) := HB1.out.alloc hs1 _
    refine (c2.out _ (HY.out.up HB2.out hB) (by simp; omega)).mono ?_; rintro e w3 ⟨rfl, hb3⟩
    have HB3 : Hid (Below w.heap.size w w3) := HB2.out.trans (hb3.mono (by simp; omega))
    have HG6 : Hid (w3.heap[w1.heap.size]? = some (.cells (av px) 57 (0, 0))) := (hb3.block _ (by simp)).trans (heap_alloc_new w1 _)
    have hs3 : w1.heap.size < w3.heap.size := by have := hb3.size; simp at this; omega
    clear hb3
    go_wp2_with (with_reducible refine wpList_store_new (o := ⟨none, .store 57 (.tmp 8) (.tmp 20), _, _, _, _⟩) rfl 57 (.tmp 8) (.tmp 20) rfl 57 Z12.toArray (av py) rfl rfl S2.out T2.out (av_one _) ?_)
    all_goals (go_ret2; exact .inr ⟨HF.out, none, 0, 0, rfl, Nat.le_refl _, SlN.nil, HB3.out.alloc (by omega) _⟩)
end Go.Proofs.Ytalclofogengpaa
