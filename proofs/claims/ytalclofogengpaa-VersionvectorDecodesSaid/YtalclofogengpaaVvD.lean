/- Inc; the reference's Set. -/
import Derived.Test.YtalclofogengpaaVvC
namespace Go.Proofs.Ytalclofogengpaa
open Go.RowKit

/-- What Inc hands back. -/
def IncPost (xs : List Int) (d : Int) (w : World) (e : Ending) (w' : World) : Prop :=
  ((validB xs && devB d) = false ∧ Slc2 I ([] : List Int) 1 w e w') ∨ ((validB xs && devB d) = true ∧ gv xs d = 1099511627776 ∧ Slc2 I ([] : List Int) 2 w e w') ∨
    ((validB xs && devB d) = true ∧ gv xs d ≠ 1099511627776 ∧ Slc2 I (nrm ((pad xs).set d.toNat (gv xs d + 1))) 0 w e w')

/-- versionvector.Inc. -/
theorem vinc_any (A : Option Addr) (n : Nat) (xs : List Int) (c : Nat) (w : World) (B : Nat) (hx : Sl I w B A n xs) (hB : B ≤ w.heap.size) (hl : n ≤ 1000000) (d : Int) :
    Calls Try.prog 30 #[.slice A n c, .int .i64 d] w (IncPost xs d w) := by
  have HX := Lib.hid hx
  clear hx
  obtain ⟨px, hpx⟩ : ∃ p, p = pd xs := ⟨_, rfl⟩
  have c1 : Hid (∀ W, Sl I W B A n xs → B ≤ W.heap.size → Calls Try.prog 39 #[.slice A n c] W fun e w' => e = .returned (.tuple #[.agg (av px), .bool (validB xs)]) ∧ Below W.heap.size W w') := fun W h hb => by rw [hpx]; exact padded_any A n xs c W B h hb hl
  have S1 : Hid ((Try.prog.info? 57).map (·.size) = some (av px).size) := hpx ▸ pd_size57 xs
  have T1 : Hid (Z12.toArray.size = (av px).size) := hpx ▸ pd_sizeZ xs
  have L1 : Hid (px.length = 12) := hpx ▸ pd_len xs
  have HPX := Lib.hid hpx
  clear hpx
  by_cases hv : validB xs = true
  · by_cases hd : devB d = true
    · have HT : Hid ((validB xs && devB d) = true) := by show _ = _; rw [hv, hd]; rfl
      have hd2 : 0 ≤ d ∧ d < 12 := by simpa [devB] using hd
      obtain ⟨k, rfl⟩ : ∃ k : Nat, d = k := ⟨d.toNat, by omega⟩
      obtain ⟨x, hxk⟩ := get_ex (xs := px) (k := k) (by rw [L1.out]; omega)
      have hk12 : k < 12 := by omega
      have HGV : Hid (gv xs k = x) := by show _ = _; rw [gv_nat, ← pad_getD, ← pd_yes hv, ← HPX.out, getD_of hxk]
      have hbx : 0 ≤ x ∧ x ≤ 1099511627776 := by
        have := inR_getD (x := px) (by rw [HPX.out, pd_yes hv]; exact pad_inR hv) k
        rwa [getD_of hxk] at this
      have HRS : Hid ((pad xs).set (k : Int).toNat (x + 1) = px.set k (x + 1)) := by show _ = _; rw [Int.toNat_natCast, HPX.out, pd_yes hv]
      have HL : Hid ((px.set k (x + 1)).length = 12) := by show _ = _; rw [List.length_set]; exact L1.out
      have S2 : Hid ((Try.prog.info? 57).map (·.size) = some (av (px.set k (x + 1))).size) := by show _ = _; rw [av_size, HL.out]; exact Try.size57
      by_cases hbig : x = 1099511627776
      · have HBG := Lib.hid hbig
        have hb1 : (x == 1099511627776) = true := by simpa using hbig
        clear hbig
        go_enter Try.func30, Try.ntmps30
        go_wp2_with fail
        refine (c1.out _ HX.out hB).mono ?_; rintro e w1 ⟨rfl, hb1⟩
        have HB1 := Lib.hid hb1
        have hs1 := hb1.size
        clear hb1
        have hcell := At.zero (f := I) (At.of_block (heap_alloc_new w1 (.cells (av px) 57))) hxk
        clear hxk hd2
        go_wp2_with (first
          | (with_reducible refine wpList_store_new (o := ⟨none, .store 57 (.tmp 6) (.tmp 11), _, _, _, _⟩) rfl 57 (.tmp 6) (.tmp 11) rfl 57 Z12.toArray (av px) rfl rfl S1.out T1.out (av_one _) ?_)
          | (go_at_call 45; refine (validDevice_any _ _).mono ?_; rintro e w' ⟨rfl, rfl⟩))
        go_ret2
        exact .inr (.inl ⟨HT.out, by rw [HGV.out, HBG.out], none, 0, 0, rfl, Nat.le_refl _, ⟨rfl, SL.nil⟩, HB1.out.alloc hs1 _⟩)
      · have HBG := Lib.hid hbig
        have hb1 : (x == 1099511627776) = false := by simpa using hbig
        clear hbig
        go_enter Try.func30, Try.ntmps30
        go_wp2_with fail
        refine (c1.out _ HX.out hB).mono ?_; rintro e w1 ⟨rfl, hb1⟩
        have HB1 := Lib.hid hb1
        have hs1 := hb1.size
        clear hb1
        have hcell := At.zero (f := I) (At.of_block (heap_alloc_new w1 (.cells (av px) 57))) hxk
        have hfr := frozen_of_row (w1.alloc (.cells (av px) 57)) w1.heap.size k _ _ (heap_alloc_new w1 (.cells (av px) 57))
        have hse : (av px).setIfInBounds k (Value.int .i64 (x + 1)) = av (px.set k (x + 1)) := av_set px k (x + 1)
        have HB2 : Hid (Below w.heap.size w (w1.alloc (.cells (av (px.set k (x + 1))) 57))) := HB1.out.alloc hs1 _
        clear hxk hd2
        go_wp2_with (first
          | (with_reducible refine wpList_store_new (o := ⟨none, .store 57 (.tmp 6) (.tmp 11), _, _, _, _⟩) rfl 57 (.tmp 6) (.tmp 11) rfl 57 Z12.toArray (av px) rfl rfl S1.out T1.out (av_one _) ?_)
          | (go_at_call 45; refine (validDevice_any _ _).mono ?_; rintro e w' ⟨rfl, rfl⟩)
          | (with_reducible refine wpList_load_row (o := ⟨some 29, _, _, _, _, _⟩) rfl 57 (.tmp 6) rfl w1.heap.size rfl 57 (av (px.set k (x + 1))) (0, 0) _ (heap_alloc_new w1 _) Try.underlying57 rfl S2.out ?_)
          | (go_at_call 46; refine (normal_any _ _ HL.out).mono ?_; rintro e w2 ⟨A', n', c', rfl, h1', h2', h3'⟩))
        go_ret2
        exact .inr (.inr ⟨HT.out, by rw [HGV.out]; exact HBG.out, A', n', c', rfl, h1', by rw [HGV.out, HRS.out]; exact h2', HB2.out.trans (h3'.mono HB2.out.size)⟩)
    · have hd' : devB d = false := by simpa using hd
      have HF : Hid ((validB xs && devB d) = false) := by show _ = _; rw [hd', Bool.and_false]
      clear hd
      go_enter Try.func30, Try.ntmps30
      go_wp2_with fail
      refine (c1.out _ HX.out hB).mono ?_; rintro e w1 ⟨rfl, hb1⟩
      have HB1 := Lib.hid hb1
      have hs1 := hb1.size
      clear hb1
      go_wp2_with (first
        | (with_reducible refine wpList_store_new (o := ⟨none, .store 57 (.tmp 6) (.tmp 11), _, _, _, _⟩) rfl 57 (.tmp 6) (.tmp 11) rfl 57 Z12.toArray (av px) rfl rfl S1.out T1.out (av_one _) ?_)
        | (go_at_call 45; refine (validDevice_any _ _).mono ?_; rintro e w' ⟨rfl, rfl⟩))
      all_goals (go_ret2; exact .inl ⟨HF.out, none, 0, 0, rfl, Nat.le_refl _, ⟨rfl, SL.nil⟩, HB1.out.alloc hs1 _⟩)
  · have hv' : validB xs = false := by simpa using hv
    have HF : Hid ((validB xs && devB d) = false) := by show _ = _; rw [hv', Bool.false_and]
    clear hv
    go_enter Try.func30, Try.ntmps30
    go_wp2_with fail
    refine (c1.out _ HX.out hB).mono ?_; rintro e w1 ⟨rfl, hb1⟩
    have HB1 := Lib.hid hb1
    have hs1 := hb1.size
    clear hb1
    go_wp2_with (first
      | (with_reducible refine wpList_store_new (o := ⟨none, .store 57 (.tmp 6) (.tmp 11), _, _, _, _⟩) rfl 57 (.tmp 6) (.tmp 11) rfl 57 Z12.toArray (av px) rfl rfl S1.out T1.out (av_one _) ?_)
      | (go_at_call 45; refine (validDevice_any _ _).mono ?_; rintro e w' ⟨rfl, rfl⟩))
    all_goals (go_ret2; exact .inl ⟨HF.out, none, 0, 0, rfl, Nat.le_refl _, ⟨rfl, SL.nil⟩, HB1.out.alloc hs1 _⟩)

theorem Try.make12 : ∀ w, (Instr.makeSlice 22 (.int .i64 12) (.int .i64 12)).run Try.prog w = .ok (.slice (some ⟨w.heap.size, 0, none⟩) 12 12) (w.alloc (.cells Z12.toArray 3)) := fun _ => by kernel_rfl

/-- The reference's Set. -/
theorem rset_any (A : Option Addr) (n : Nat) (xs : List Int) (c : Nat) (w : World) (B : Nat) (hx : Sl I w B A n xs) (hB : B ≤ w.heap.size) (hl : n ≤ 12) (d v : Int) (hd0 : 0 ≤ d) (hd1 : d < 12) :
    Calls Try.prog 28 #[.slice A n c, .int .i64 d, .int .i64 v] w (Slc I (nrm ((pad xs).set d.toNat v)) w) := by
  obtain ⟨rfl, hx⟩ := hx
  obtain ⟨k, rfl⟩ : ∃ k : Nat, d = k := ⟨d.toNat, by omega⟩
  have hk12 : k < 12 := by omega
  have hb2 : Below w.heap.size w (w.alloc (.cells Z12.toArray 3)) := (Below.refl _ _).alloc (Nat.le_refl _) _
  have HB2 := Lib.hid hb2
  have HC := Lib.hid (splice_pad hl)
  have HM : Hid ((xs.map I).length = Nat.min xs.length 12) := by show _ = min _ _; simp; omega
  have HF : Hid (0 + (xs.map I).length ≤ Z12.length) := by show _ ≤ _; simp; omega
  have HP : Hid (0 < (xs.map I).length → ∃ ad, A = some ad ∧ ∀ j v, (xs.map I)[j]? = some v → (w.alloc (.cells Z12.toArray 3)).cell? (ad.add j) = some v) :=
    fun h => (hx.up hb2 hB).cells h
  have HPL := Lib.hid (pad_len hl)
  have HRS : Hid ((pad xs).set (k : Int).toNat v = (pad xs).set k v) := by show _ = _; rw [Int.toNat_natCast]
  have hmk := Try.make12
  clear hb2 hx
  go_enter Try.func28, Try.ntmps28
  go_wp2_with (first
    | (with_reducible refine wpList_copy_splice (o := ⟨some 11, _, _, _, _, _⟩) rfl (.tmp 9) (.tmp 10) 22 22 rfl 3 Try.underlying22 Try.size3 _ _ _ _ _ _ rfl rfl w.heap.size 0 Z12 3 (heap_alloc_new _ _) (xs.map I) HM.out (fun h => ⟨rfl, HP.out h⟩) HF.out (I_one xs) w.heap.size w HB2.out (Nat.le_refl _) ?_
       intro w1 HG hb1
       have HG1 : Hid (w1.heap[w.heap.size]? = some (.cells (av (pad xs)) 3 (0, 0))) := by have h := HG.out; rw [HC.out] at h; exact h
       have HB1 := Lib.hid hb1
       clear HG hb1
       obtain ⟨x, hxk⟩ := get_ex (xs := pad xs) (k := k) (by rw [HPL.out]; omega)
       have hcell := At.zero (f := I) (At.of_block HG1.out) hxk
       have hfr := frozen_of_row w1 w.heap.size k _ _ HG1.out
       clear hxk))
  have HG2 : Hid ((w1.setCell ⟨w.heap.size, k, none⟩ (I v)).heap[w.heap.size]? = some (.cells (av ((pad xs).set k v)) 3 (0, 0))) := by
    show _ = _
    rw [← av_set]; exact heap_setCell_same _ _ _ _ _ _ HG1.out
  have HB3 : Hid (Below w.heap.size w (w1.setCell ⟨w.heap.size, k, none⟩ (I v))) := HB1.out.setCell (Nat.le_refl _) _
  have HS : Hid (Sl I (w1.setCell ⟨w.heap.size, k, none⟩ (I v)) (w.heap.size + 1) (some ⟨w.heap.size, 0, none⟩) 12 ((pad xs).set k v)) :=
    ⟨by rw [List.length_set]; exact HPL.out, SL.of_block HG2.out (Nat.lt_succ_self _)⟩
  have hsz : w.heap.size < (w1.setCell ⟨w.heap.size, k, none⟩ (I v)).heap.size := lt_of_block HG2.out
  refine (rnormal_any _ _ ((pad xs).set k v) _ _ _ HS.out hsz (by omega) (by omega)).mono ?_; rintro e w3 ⟨A', n', c', rfl, h1', h2', h3'⟩
  go_wp2
  go_ret
  exact ⟨A', n', c', rfl, h1', by rw [HRS.out]; exact h2', HB3.out.trans (h3'.mono HB3.out.size)⟩
end Go.Proofs.Ytalclofogengpaa
