/- Normal, Get, Covers, Merge, Meet. -/
import Derived.Test.YtalclofogengpaaComb
import Derived.Test.YtalclofogengpaaComb2
import Derived.Test.YtalclofogengpaaRef2
namespace Go.Proofs.Ytalclofogengpaa
open Go.RowKit

theorem nlen_pad (xs : List Int) : ∀ m, xs.length + m ≤ (pad xs).length → nlen (pad xs) (xs.length + m) = nlen xs xs.length := by
  have hg : ∀ k, (pad xs).getD k 0 = xs.getD k 0 := by
    intro k
    simp only [pad, List.getD_eq_getElem?_getD, List.getElem?_append]
    split
    · rfl
    · rename_i h
      rw [List.getElem?_eq_none (l := xs) (by omega)]
      simp only [List.getElem?_replicate]
      split <;> rfl
  have hn : ∀ k, nlen (pad xs) k = nlen xs k := by
    intro k
    induction k with
    | zero => rfl
    | succ k ih => rw [nlen, nlen, hg, ih]
  intro m
  induction m with
  | zero => intro _; rw [Nat.add_zero, hn]
  | succ m ih =>
    intro h
    rw [← Nat.add_assoc, nlen, if_pos, ih (by omega)]
    rw [hg, List.getD_eq_getElem?_getD, List.getElem?_eq_none (by omega)]; rfl
theorem nrm_pad {xs : List Int} (h : xs.length ≤ 12) : nrm (pad xs) = nrm xs := by
  have h1 := nlen_pad xs (12 - xs.length) (by rw [pad_len h]; omega)
  have h2 : xs.length + (12 - xs.length) = 12 := by omega
  rw [h2] at h1
  rw [nrm, nrm, pad_len h, h1, pad, List.take_append_of_le_length (nlen_le _ _)]
theorem pad_getD (xs : List Int) (k : Nat) : (pad xs).getD k 0 = xs.getD k 0 := by
  simp only [pad, List.getD_eq_getElem?_getD, List.getElem?_append]
  split
  · rfl
  · rename_i h
    rw [List.getElem?_eq_none (l := xs) (by omega)]
    simp only [List.getElem?_replicate]
    split <;> rfl
theorem pd_yes {xs : List Int} (h : validB xs = true) : pd xs = pad xs := if_pos h
theorem valid_len {xs : List Int} (h : validB xs = true) : xs.length ≤ 12 := by simp [validB] at h; exact h.2

/-- versionvector.Normal. -/
theorem vnormal_any (A : Option Addr) (n : Nat) (xs : List Int) (c : Nat) (w : World) (B : Nat) (hx : Sl I w B A n xs) (hB : B ≤ w.heap.size) (hl : n ≤ 1000000) :
    Calls Try.prog 31 #[.slice A n c] w (Slc I (if validB xs then nrm xs else []) w) := by
  have HX := Lib.hid hx
  clear hx
  obtain ⟨px, hpx⟩ : ∃ p, p = pd xs := ⟨_, rfl⟩
  have c1 : Hid (∀ W, Sl I W B A n xs → B ≤ W.heap.size → Calls Try.prog 39 #[.slice A n c] W fun e w' => e = .returned (.tuple #[.agg (av px), .bool (validB xs)]) ∧ Below W.heap.size W w') := fun W h hb => by rw [hpx]; exact padded_any A n xs c W B h hb hl
  have S1 : Hid ((Try.prog.info? 57).map (·.size) = some (av px).size) := hpx ▸ pd_size57 xs
  have T1 : Hid (Z12.toArray.size = (av px).size) := hpx ▸ pd_sizeZ xs
  have L1 : Hid (px.length = 12) := hpx ▸ pd_len xs
  have HPX := Lib.hid hpx
  clear hpx
  by_cases hv : validB xs = true
  · have HR : Hid (nrm px = if validB xs then nrm xs else []) := by show _ = _; rw [HPX.out, if_pos hv, pd_yes hv, nrm_pad (valid_len hv)]
    rw [← HR.out]
    go_enter Try.func31, Try.ntmps31
    go_wp2_with fail
    refine (c1.out _ HX.out hB).mono ?_; rintro e w1 ⟨rfl, hb1⟩
    have HB1 := Lib.hid hb1
    have hs1 := hb1.size
    clear hb1
    go_wp2_with (first
      | (with_reducible refine wpList_store_new (o := ⟨none, .store 57 (.tmp 3) (.tmp 8), _, _, _, _⟩) rfl 57 (.tmp 3) (.tmp 8) rfl 57 Z12.toArray (av px) rfl rfl S1.out T1.out (av_one _) ?_)
      | (with_reducible refine wpList_load_row (o := ⟨some 12, _, _, _, _, _⟩) rfl 57 (.tmp 3) rfl w1.heap.size rfl 57 (av px) (0, 0) _ (heap_alloc_new w1 _) Try.underlying57 rfl S1.out ?_)
      | (go_at_call 46; refine (normal_any _ _ L1.out).mono ?_; rintro e w2 ⟨A', n', c', rfl, h1, h2, h3⟩))
    go_ret
    exact ⟨A', n', c', rfl, h1, h2, (HB1.out.alloc hs1 _).trans (h3.mono (by simp; omega))⟩
  · have hv' : validB xs = false := by simpa using hv
    clear hv
    go_enter Try.func31, Try.ntmps31
    go_wp2_with fail
    refine (c1.out _ HX.out hB).mono ?_; rintro e w1 ⟨rfl, hb1⟩
    have HB1 := Lib.hid hb1
    have hs1 := hb1.size
    clear hb1
    go_wp2_with (first
      | (with_reducible refine wpList_store_new (o := ⟨none, .store 57 (.tmp 3) (.tmp 8), _, _, _, _⟩) rfl 57 (.tmp 3) (.tmp 8) rfl 57 Z12.toArray (av px) rfl rfl S1.out T1.out (av_one _) ?_))
    all_goals (go_ret; exact ⟨none, 0, 0, rfl, Nat.le_refl _, ⟨rfl, SL.nil⟩, HB1.out.alloc hs1 _⟩)

/-- versionvector.Get. -/
theorem vget_any (A : Option Addr) (n : Nat) (xs : List Int) (c : Nat) (w : World) (B : Nat) (hx : Sl I w B A n xs) (hB : B ≤ w.heap.size) (hl : n ≤ 1000000) (d : Int) :
    Calls Try.prog 33 #[.slice A n c, .int .i64 d] w fun e w' => e = .returned (.int .i64 (if validB xs && devB d then gv xs d else 0)) ∧ Below w.heap.size w w' := by
  have HX := Lib.hid hx
  clear hx
  obtain ⟨px, hpx⟩ : ∃ p, p = pd xs := ⟨_, rfl⟩
  have c1 : Hid (∀ W, Sl I W B A n xs → B ≤ W.heap.size → Calls Try.prog 39 #[.slice A n c] W fun e w' => e = .returned (.tuple #[.agg (av px), .bool (validB xs)]) ∧ Below W.heap.size W w') := fun W h hb => by rw [hpx]; exact padded_any A n xs c W B h hb hl
  have S1 : Hid ((Try.prog.info? 57).map (·.size) = some (av px).size) := hpx ▸ pd_size57 xs
  have T1 : Hid (Z12.toArray.size = (av px).size) := hpx ▸ pd_sizeZ xs
  have L1 : Hid (px.length = 12) := hpx ▸ pd_len xs
  have HPX := Lib.hid hpx
  clear hpx
  by_cases hv : validB xs = true
  · by_cases hd : devB d = true
    · have hd2 : 0 ≤ d ∧ d < 12 := by simpa [devB] using hd
      obtain ⟨k, rfl⟩ : ∃ k : Nat, d = k := ⟨d.toNat, by omega⟩
      obtain ⟨x, hxk⟩ := get_ex (xs := px) (k := k) (by rw [L1.out]; omega)
      have HR : Hid ((if validB xs && devB (k : Int) then gv xs k else 0) = x) := by show _ = _; rw [hv, hd]; simp only [Bool.and_self, if_true]; rw [gv_nat, ← pad_getD, ← pd_yes hv, ← HPX.out, getD_of hxk]
      have hc : ∀ W : World, W.heap[W.heap.size]? = none := fun W => by simp
      have hk12 : k < 12 := by omega
      rw [HR.out]
      go_enter Try.func33, Try.ntmps33
      go_wp2_with fail
      refine (c1.out _ HX.out hB).mono ?_; rintro e w1 ⟨rfl, hb1⟩
      have HB1 := Lib.hid hb1
      have hs1 := hb1.size
      clear hb1
      have hcell := At.zero (f := I) (At.of_block (heap_alloc_new w1 (.cells (av px) 57))) hxk
      clear hxk hc hd2
      go_wp2_with (first
        | (with_reducible refine wpList_store_new (o := ⟨none, .store 57 (.tmp 5) (.tmp 10), _, _, _, _⟩) rfl 57 (.tmp 5) (.tmp 10) rfl 57 Z12.toArray (av px) rfl rfl S1.out T1.out (av_one _) ?_)
        | (go_at_call 45; refine (validDevice_any _ _).mono ?_; rintro e w' ⟨rfl, rfl⟩))
      go_ret
      exact ⟨rfl, HB1.out.alloc hs1 _⟩
    · have hd' : devB d = false := by simpa using hd
      clear hd
      go_enter Try.func33, Try.ntmps33
      go_wp2_with fail
      refine (c1.out _ HX.out hB).mono ?_; rintro e w1 ⟨rfl, hb1⟩
      have HB1 := Lib.hid hb1
      have hs1 := hb1.size
      clear hb1
      go_wp2_with (first
        | (with_reducible refine wpList_store_new (o := ⟨none, .store 57 (.tmp 5) (.tmp 10), _, _, _, _⟩) rfl 57 (.tmp 5) (.tmp 10) rfl 57 Z12.toArray (av px) rfl rfl S1.out T1.out (av_one _) ?_)
        | (go_at_call 45; refine (validDevice_any _ _).mono ?_; rintro e w' ⟨rfl, rfl⟩))
      all_goals (go_ret; exact ⟨rfl, HB1.out.alloc hs1 _⟩)
  · have hv' : validB xs = false := by simpa using hv
    clear hv
    go_enter Try.func33, Try.ntmps33
    go_wp2_with fail
    refine (c1.out _ HX.out hB).mono ?_; rintro e w1 ⟨rfl, hb1⟩
    have HB1 := Lib.hid hb1
    have hs1 := hb1.size
    clear hb1
    go_wp2_with (first
      | (with_reducible refine wpList_store_new (o := ⟨none, .store 57 (.tmp 5) (.tmp 10), _, _, _, _⟩) rfl 57 (.tmp 5) (.tmp 10) rfl 57 Z12.toArray (av px) rfl rfl S1.out T1.out (av_one _) ?_))
    all_goals (go_ret; exact ⟨rfl, HB1.out.alloc hs1 _⟩)

/-- versionvector.Covers. -/
theorem vcovers_any (A : Option Addr) (n : Nat) (xs : List Int) (c : Nat) (w : World) (B : Nat) (hx : Sl I w B A n xs) (hB : B ≤ w.heap.size) (hl : n ≤ 1000000) (d s : Int) :
    Calls Try.prog 35 #[.slice A n c, .int .i64 d, .int .i64 s] w fun e w' => e = .returned (.bool (decide (1 ≤ s) && decide (s ≤ if validB xs && devB d then gv xs d else 0))) ∧ Below w.heap.size w w' := by
  obtain ⟨r, hr⟩ : ∃ r, r = if validB xs && devB d then gv xs d else 0 := ⟨_, rfl⟩
  have c1 : Hid (Calls Try.prog 33 #[.slice A n c, .int .i64 d] w fun e w' => e = .returned (.int .i64 r) ∧ Below w.heap.size w w') := by rw [hr]; exact vget_any A n xs c w B hx hB hl d
  rw [← hr]
  clear hr
  by_cases h1 : 1 ≤ s
  · go_enter Try.func35, Try.ntmps35
    go_wp2_with (go_at_call 33; refine c1.out.mono ?_; rintro e w' ⟨rfl, hb⟩)
    go_ret
    exact ⟨ret_bool (by simp [h1]), hb⟩
  · go_enter Try.func35, Try.ntmps35
    go_wp2_with fail
    go_ret
    exact ⟨ret_bool (by simp; omega), Below.refl _ _⟩

theorem vmerge_any (A : Option Addr) (n : Nat) (vs : List (List Int)) (c : Nat) (w : World) (B : Nat) (hx : SLL I w B A n vs) (hB : B ≤ w.heap.size) (hn : n ≤ 1000000) (hlen : ∀ v ∈ vs, v.length ≤ 1000000) :
    Calls Try.prog 20 #[.slice A n c] w (CombPost max vs w) := by
  have HC := Lib.hid (comb_max A n vs c w B hx hB hn hlen)
  clear hx hlen
  go_enter Try.func20, Try.ntmps20
  go_wp2_with fail
  refine HC.out.mono ?_
  rintro e w1 (⟨h0, A', n', c', rfl, h1, h2, h3⟩ | ⟨h0, A', n', c', rfl, h1, h2, h3⟩)
  · go_wp2
    go_ret2
    exact .inl ⟨h0, A', n', c', rfl, h1, h2, h3⟩
  · go_wp2
    go_ret2
    exact .inr ⟨h0, A', n', c', rfl, h1, h2, h3⟩

theorem vmeet_any (A : Option Addr) (n : Nat) (vs : List (List Int)) (c : Nat) (w : World) (B : Nat) (hx : SLL I w B A n vs) (hB : B ≤ w.heap.size) (hn : n ≤ 1000000) (hlen : ∀ v ∈ vs, v.length ≤ 1000000) :
    Calls Try.prog 21 #[.slice A n c] w (CombPost min vs w) := by
  have HC := Lib.hid (comb_min A n vs c w B hx hB hn hlen)
  clear hx hlen
  go_enter Try.func21, Try.ntmps21
  go_wp2_with fail
  refine HC.out.mono ?_
  rintro e w1 (⟨h0, A', n', c', rfl, h1, h2, h3⟩ | ⟨h0, A', n', c', rfl, h1, h2, h3⟩)
  · go_wp2
    go_ret2
    exact .inl ⟨h0, A', n', c', rfl, h1, h2, h3⟩
  · go_wp2
    go_ret2
    exact .inr ⟨h0, A', n', c', rfl, h1, h2, h3⟩
end Go.Proofs.Ytalclofogengpaa
