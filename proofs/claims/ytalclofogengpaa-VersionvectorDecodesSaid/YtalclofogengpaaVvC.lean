/- Set, Inc, Total; the reference's Set. -/
import Derived.Test.YtalclofogengpaaVvB
namespace Go.Proofs.Ytalclofogengpaa
open Go.RowKit

theorem run_index_arr {P : Program} (t e n : Nat) (i : TypeInfo) (d : TypeDesc) (ht : P.underlying t = some (.array n e)) (he : P.underlying e = some d) (hd : (match d with | .struct _ | .array _ _ => true | _ => false) = false) (hi : P.info? e = some i) (hs : i.size = 1)
    (cs : Array Value) (k : IntKind) (j : Nat) (v : Value) (hj : j < n) (hv : cs[j]? = some v) (w : World) : (Instr.index t (.agg cs) (.int k (j : Int))).run P w = .ok v w := by
  have hagg : (isAgg e).run P w = .ok false w := by
    unfold isAgg
    rw [Sem.run_bind, run_underlying he w]
    cases d <;> simp_all
  simp [Instr.index, asIntOf, run_underlying ht, part, Sem.run_bind, hagg, sizeOf, typeInfo, hi, hs, hj, hv, Result.andThen]

/-- The sum of the first k numbers. -/
def sm (x : List Int) : Nat → Int
  | 0 => 0
  | k + 1 => sm x k + x.getD k 0
theorem inR_getD {x : List Int} (h : x.all inR = true) (k : Nat) : 0 ≤ x.getD k 0 ∧ x.getD k 0 ≤ 1099511627776 := by
  rcases Nat.lt_or_ge k x.length with hk | hk
  · obtain ⟨z, hz⟩ := get_ex hk
    rw [getD_of hz]
    have := List.all_eq_true.1 h z (List.mem_of_getElem? hz)
    simpa [inR] using this
  · rw [List.getD_eq_getElem?_getD, List.getElem?_eq_none hk]; decide
theorem sm_bd {x : List Int} (h : x.all inR = true) (k : Nat) : 0 ≤ sm x k ∧ sm x k ≤ k * 1099511627776 := by
  induction k with
  | zero => exact ⟨Int.le_refl _, by simp [sm]⟩
  | succ k ih => have := inR_getD h k; simp only [sm]; omega
theorem pad_inR {xs : List Int} (h : validB xs = true) : (pad xs).all inR = true := by
  simp only [validB, Bool.and_eq_true] at h
  rw [pad, List.all_append, h.1, Bool.true_and, List.all_eq_true]
  intro z hz
  rw [List.eq_of_mem_replicate hz]; rfl

/-- versionvector.Total. -/
theorem vtotal_any (A : Option Addr) (n : Nat) (xs : List Int) (c : Nat) (w : World) (B : Nat) (hx : Sl I w B A n xs) (hB : B ≤ w.heap.size) (hl : n ≤ 1000000) :
    Calls Try.prog 34 #[.slice A n c] w fun e w' => e = .returned (.int .i64 (if validB xs then min (sm (pad xs) 12) 1099511627776 else 0)) ∧ Below w.heap.size w w' := by
  have HX := Lib.hid hx
  clear hx
  obtain ⟨px, hpx⟩ : ∃ p, p = pd xs := ⟨_, rfl⟩
  have c1 : Hid (∀ W, Sl I W B A n xs → B ≤ W.heap.size → Calls Try.prog 39 #[.slice A n c] W fun e w' => e = .returned (.tuple #[.agg (av px), .bool (validB xs)]) ∧ Below W.heap.size W w') := fun W h hb => by rw [hpx]; exact padded_any A n xs c W B h hb hl
  have S1 : Hid ((Try.prog.info? 57).map (·.size) = some (av px).size) := hpx ▸ pd_size57 xs
  have T1 : Hid (Z12.toArray.size = (av px).size) := hpx ▸ pd_sizeZ xs
  have L1 : Hid (px.length = 12) := hpx ▸ pd_len xs
  have HPX := Lib.hid hpx
  clear hpx
  by_cases hv : validB xs = true
  · have HR : Hid (px.all inR = true) := by show _ = _; rw [HPX.out, pd_yes hv]; exact pad_inR hv
    obtain ⟨r, hr⟩ : ∃ r, r = min (sm (pad xs) 12) 1099511627776 := ⟨_, rfl⟩
    have HRR : Hid (r = min (sm px 12) 1099511627776) := by show _ = _; rw [hr, HPX.out, pd_yes hv]
    rw [if_pos hv, ← hr]
    clear hr
    obtain ⟨i0, hi, hz0, hz1, hz2⟩ := info_parts Try.info3
    have HI := Lib.hid hi
    have HZ1 := Lib.hid hz1
    clear hi hz0 hz1 hz2
    go_enter Try.func34, Try.ntmps34
    go_wp2_with fail
    refine (c1.out _ HX.out hB).mono ?_; rintro e w1 ⟨rfl, hb1⟩
    have HB1 := Lib.hid hb1
    have hs1 := hb1.size
    clear hb1
    go_wp2_with (first
      | (with_reducible refine wpList_store_new (o := ⟨none, .store 57 (.tmp 3) (.tmp 11), _, _, _, _⟩) rfl 57 (.tmp 3) (.tmp 11) rfl 57 Z12.toArray (av px) rfl rfl S1.out T1.out (av_one _) ?_)
      | (with_reducible refine wpList_load_row (o := ⟨some 15, _, _, _, _, _⟩) rfl 57 (.tmp 3) rfl w1.heap.size rfl 57 (av px) (0, 0) _ (heap_alloc_new w1 _) Try.underlying57 rfl S1.out ?_))
    go_loop [5, 16] (fun s i => ∃ k : Nat, k ≤ 12 ∧ i = .int .i64 k ∧ s = .int .i64 (sm px k)) (fun _ i => 12 - (intOf i).toNat)
    case atStart => exact ⟨0, by omega, rfl, rfl⟩
    case round =>
      obtain ⟨k, hk, rfl, rfl⟩ := hrel
      have b1 := sm_bd HR.out k
      by_cases hlt : k < 12
      · obtain ⟨x, hxk⟩ := get_ex (xs := px) (k := k) (by rw [L1.out]; omega)
        have b2 := inR_getD HR.out k
        rw [getD_of hxk] at b2
        have hix := fun W => run_index_arr (P := Try.prog) 57 3 12 i0 _ Try.underlying57 Try.underlying3 rfl HI.out HZ1.out (av px) .i64 k (I x) hlt (by rw [av, List.getElem?_toArray, List.getElem?_map, hxk]; rfl) W
        have HS : Hid (sm px (k + 1) = sm px k + x) := by show _ = _; rw [sm, getD_of hxk]
        clear hxk
        go_wp2
        go_round
        case rel => exact ⟨k + 1, by omega, by go_num, by rw [HS.out]⟩
        case measure => simp [intOf]; omega
      · obtain rfl : k = 12 := by omega
        have HRR2 : Hid ((if 1099511627776 < sm px 12 then (1099511627776 : Int) else sm px 12) = r) := by show _ = _; rw [HRR.out]; split <;> omega
        go_wp2
        all_goals (go_ret; exact ⟨ret_int (by have := HRR.out; omega), HB1.out.alloc hs1 _⟩)
  · have hv' : validB xs = false := by simpa using hv
    clear hv
    go_enter Try.func34, Try.ntmps34
    go_wp2_with fail
    refine (c1.out _ HX.out hB).mono ?_; rintro e w1 ⟨rfl, hb1⟩
    have HB1 := Lib.hid hb1
    have hs1 := hb1.size
    clear hb1
    go_wp2_with (first
      | (with_reducible refine wpList_store_new (o := ⟨none, .store 57 (.tmp 3) (.tmp 11), _, _, _, _⟩) rfl 57 (.tmp 3) (.tmp 11) rfl 57 Z12.toArray (av px) rfl rfl S1.out T1.out (av_one _) ?_))
    all_goals (go_ret; exact ⟨rfl, HB1.out.alloc hs1 _⟩)

/-- What Set hands back. -/
def SetPost (xs : List Int) (d v : Int) (w : World) (e : Ending) (w' : World) : Prop :=
  ((validB xs && devB d && inR v) = true ∧ Slc2 I (nrm ((pad xs).set d.toNat v)) 0 w e w') ∨ ((validB xs && devB d && inR v) = false ∧ Slc2 I ([] : List Int) 1 w e w')

/-- versionvector.Set. -/
theorem vset_any (A : Option Addr) (n : Nat) (xs : List Int) (c : Nat) (w : World) (B : Nat) (hx : Sl I w B A n xs) (hB : B ≤ w.heap.size) (hl : n ≤ 1000000) (d v : Int) :
    Calls Try.prog 29 #[.slice A n c, .int .i64 d, .int .i64 v] w (SetPost xs d v w) := by
  have HX := Lib.hid hx
  clear hx
  obtain ⟨px, hpx⟩ : ∃ p, p = pd xs := ⟨_, rfl⟩
  have c1 : Hid (∀ W, Sl I W B A n xs → B ≤ W.heap.size → Calls Try.prog 39 #[.slice A n c] W fun e w' => e = .returned (.tuple #[.agg (av px), .bool (validB xs)]) ∧ Below W.heap.size W w') := fun W h hb => by rw [hpx]; exact padded_any A n xs c W B h hb hl
  have S1 : Hid ((Try.prog.info? 57).map (·.size) = some (av px).size) := hpx ▸ pd_size57 xs
  have T1 : Hid (Z12.toArray.size = (av px).size) := hpx ▸ pd_sizeZ xs
  have L1 : Hid (px.length = 12) := hpx ▸ pd_len xs
  have HPX := Lib.hid hpx
  clear hpx
  by_cases hv : validB xs = true
  · by_cases hd : devB d = true
    · by_cases h0 : v < 0
      · have HF : Hid ((validB xs && devB d && inR v) = false) := by show _ = _; rw [inR_neg h0, Bool.and_false]
        go_enter Try.func29, Try.ntmps29
        go_wp2_with fail
        refine (c1.out _ HX.out hB).mono ?_; rintro e w1 ⟨rfl, hb1⟩
        have HB1 := Lib.hid hb1
        have hs1 := hb1.size
        clear hb1
        go_wp2_with (first
          | (with_reducible refine wpList_store_new (o := ⟨none, .store 57 (.tmp 8) (.tmp 13), _, _, _, _⟩) rfl 57 (.tmp 8) (.tmp 13) rfl 57 Z12.toArray (av px) rfl rfl S1.out T1.out (av_one _) ?_)
          | (go_at_call 45; refine (validDevice_any _ _).mono ?_; rintro e w' ⟨rfl, rfl⟩))
        all_goals (go_ret2; exact .inr ⟨HF.out, none, 0, 0, rfl, Nat.le_refl _, ⟨rfl, SL.nil⟩, HB1.out.alloc hs1 _⟩)
      · by_cases h1 : (1099511627776 : Int) < v
        · have HF : Hid ((validB xs && devB d && inR v) = false) := by show _ = _; rw [inR_big h1, Bool.and_false]
          go_enter Try.func29, Try.ntmps29
          go_wp2_with fail
          refine (c1.out _ HX.out hB).mono ?_; rintro e w1 ⟨rfl, hb1⟩
          have HB1 := Lib.hid hb1
          have hs1 := hb1.size
          clear hb1
          go_wp2_with (first
            | (with_reducible refine wpList_store_new (o := ⟨none, .store 57 (.tmp 8) (.tmp 13), _, _, _, _⟩) rfl 57 (.tmp 8) (.tmp 13) rfl 57 Z12.toArray (av px) rfl rfl S1.out T1.out (av_one _) ?_)
            | (go_at_call 45; refine (validDevice_any _ _).mono ?_; rintro e w' ⟨rfl, rfl⟩))
          all_goals (go_ret2; exact .inr ⟨HF.out, none, 0, 0, rfl, Nat.le_refl _, ⟨rfl, SL.nil⟩, HB1.out.alloc hs1 _⟩)
        · have HT : Hid ((validB xs && devB d && inR v) = true) := by show _ = _; rw [hv, hd, inR_ok (by omega) (by omega)]; rfl
          have hd2 : 0 ≤ d ∧ d < 12 := by simpa [devB] using hd
          obtain ⟨k, rfl⟩ : ∃ k : Nat, d = k := ⟨d.toNat, by omega⟩
          obtain ⟨x, hxk⟩ := get_ex (xs := px) (k := k) (by rw [L1.out]; omega)
          have hk12 : k < 12 := by omega
          have HRS : Hid ((pad xs).set (k : Int).toNat v = px.set k v) := by show _ = _; rw [Int.toNat_natCast, HPX.out, pd_yes hv]
          have HL : Hid ((px.set k v).length = 12) := by show _ = _; rw [List.length_set]; exact L1.out
          have S2 : Hid ((Try.prog.info? 57).map (·.size) = some (av (px.set k v)).size) := by show _ = _; rw [av_size, HL.out]; exact Try.size57
          go_enter Try.func29, Try.ntmps29
          go_wp2_with fail
          refine (c1.out _ HX.out hB).mono ?_; rintro e w1 ⟨rfl, hb1⟩
          have HB1 := Lib.hid hb1
          have hs1 := hb1.size
          clear hb1
          have hcell := At.zero (f := I) (At.of_block (heap_alloc_new w1 (.cells (av px) 57))) hxk
          have hfr := frozen_of_row (w1.alloc (.cells (av px) 57)) w1.heap.size k _ _ (heap_alloc_new w1 (.cells (av px) 57))
          have hse : (av px).setIfInBounds k (Value.int .i64 v) = av (px.set k v) := av_set px k v
          have HB2 : Hid (Below w.heap.size w (w1.alloc (.cells (av (px.set k v)) 57))) := HB1.out.alloc hs1 _
          clear hxk hd2
          go_wp2_with (first
            | (with_reducible refine wpList_store_new (o := ⟨none, .store 57 (.tmp 8) (.tmp 13), _, _, _, _⟩) rfl 57 (.tmp 8) (.tmp 13) rfl 57 Z12.toArray (av px) rfl rfl S1.out T1.out (av_one _) ?_)
            | (go_at_call 45; refine (validDevice_any _ _).mono ?_; rintro e w' ⟨rfl, rfl⟩)
            | (with_reducible refine wpList_load_row (o := ⟨some 33, _, _, _, _, _⟩) rfl 57 (.tmp 8) rfl w1.heap.size rfl 57 (av (px.set k v)) (0, 0) _ (heap_alloc_new w1 _) Try.underlying57 rfl S2.out ?_)
            | (go_at_call 46; refine (normal_any _ _ HL.out).mono ?_; rintro e w2 ⟨A', n', c', rfl, h1', h2', h3'⟩))
          go_ret2
          exact .inl ⟨HT.out, A', n', c', rfl, h1', by rw [HRS.out]; exact h2', HB2.out.trans (h3'.mono HB2.out.size)⟩
    · have hd' : devB d = false := by simpa using hd
      have HF : Hid ((validB xs && devB d && inR v) = false) := by show _ = _; rw [hd', Bool.and_false, Bool.false_and]
      clear hd
      go_enter Try.func29, Try.ntmps29
      go_wp2_with fail
      refine (c1.out _ HX.out hB).mono ?_; rintro e w1 ⟨rfl, hb1⟩
      have HB1 := Lib.hid hb1
      have hs1 := hb1.size
      clear hb1
      go_wp2_with (first
        | (with_reducible refine wpList_store_new (o := ⟨none, .store 57 (.tmp 8) (.tmp 13), _, _, _, _⟩) rfl 57 (.tmp 8) (.tmp 13) rfl 57 Z12.toArray (av px) rfl rfl S1.out T1.out (av_one _) ?_)
        | (go_at_call 45; refine (validDevice_any _ _).mono ?_; rintro e w' ⟨rfl, rfl⟩))
      all_goals (go_ret2; exact .inr ⟨HF.out, none, 0, 0, rfl, Nat.le_refl _, ⟨rfl, SL.nil⟩, HB1.out.alloc hs1 _⟩)
  · have hv' : validB xs = false := by simpa using hv
    have HF : Hid ((validB xs && devB d && inR v) = false) := by show _ = _; rw [hv', Bool.false_and, Bool.false_and]
    clear hv
    go_enter Try.func29, Try.ntmps29
    go_wp2_with fail
    refine (c1.out _ HX.out hB).mono ?_; rintro e w1 ⟨rfl, hb1⟩
    have HB1 := Lib.hid hb1
    have hs1 := hb1.size
    clear hb1
    go_wp2_with (first
      | (with_reducible refine wpList_store_new (o := ⟨none, .store 57 (.tmp 8) (.tmp 13), _, _, _, _⟩) rfl 57 (.tmp 8) (.tmp 13) rfl 57 Z12.toArray (av px) rfl rfl S1.out T1.out (av_one _) ?_)
      | (go_at_call 45; refine (validDevice_any _ _).mono ?_; rintro e w' ⟨rfl, rfl⟩))
    all_goals (go_ret2; exact .inr ⟨HF.out, none, 0, 0, rfl, Nat.le_refl _, ⟨rfl, SL.nil⟩, HB1.out.alloc hs1 _⟩)
end Go.Proofs.Ytalclofogengpaa
