/- Extend. -/
import Derived.Test.YtalclofogengpaaVvE
namespace Go.Proofs.Ytalclofogengpaa
open Go.RowKit

def rgB (r : Rg) : Bool := devB r.d && (decide (1 ≤ r.f) && (decide (r.f ≤ r.t) && decide (r.t ≤ 1099511627776)))
def extS (x : List Int) (r : Rg) : Option (List Int) := if x.getD r.d.toNat 0 + 1 < r.f then none else some (x.set r.d.toNat (max (x.getD r.d.toNat 0) r.t))
def extT (x : List Int) (rs : List Rg) : Nat → Option (List Int)
  | 0 => some x
  | k + 1 => (extT x rs k).bind fun y => (rs[k]?).bind fun r => extS y r
theorem extT_none {x : List Int} {rs : List Rg} {k : Nat} (h : extT x rs k = none) : ∀ m, extT x rs (k + m) = none
  | 0 => h
  | m + 1 => by rw [← Nat.add_assoc, extT, extT_none h m]; rfl
theorem set_inR {x : List Int} (h : x.all inR = true) (k : Nat) {v : Int} (hv : inR v = true) : (x.set k v).all inR = true := by
  rw [List.all_eq_true] at h ⊢
  intro z hz
  rcases List.mem_or_eq_of_mem_set hz with h' | rfl
  · exact h z h'
  · exact hv

def ExtPost (xs : List Int) (rs : List Rg) (w : World) (e : Ending) (w' : World) : Prop :=
  ((validB xs && rs.all rgB) = false ∧ Slc2 I ([] : List Int) 1 w e w') ∨
  ((validB xs && rs.all rgB) = true ∧ extT (pad xs) rs rs.length = none ∧ Slc2 I ([] : List Int) 6 w e w') ∨
  ((validB xs && rs.all rgB) = true ∧ ∃ y, extT (pad xs) rs rs.length = some y ∧ Slc2 I (nrm y) 0 w e w')

set_option maxRecDepth 10000 in
set_option maxHeartbeats 1000000 in
theorem vextend_any (A : Option Addr) (n : Nat) (xs : List Int) (c : Nat) (A' : Option Addr) (n' : Nat) (rs : List Rg) (c' : Nat) (w : World) (B : Nat) (hx : Sl I w B A n xs) (hr : SlN fR 3 w B A' n' rs) (hB : B ≤ w.heap.size) (hl : n ≤ 1000000) (hl' : n' ≤ 1000000) :
    Calls Try.prog 26 #[.slice A n c, .slice A' n' c'] w (ExtPost xs rs w) := by
  have HX := Lib.hid hx
  clear hx
  obtain ⟨px, hpx⟩ : ∃ p, p = pd xs := ⟨_, rfl⟩
  have c1 : Hid (∀ W, Sl I W B A n xs → B ≤ W.heap.size → Calls Try.prog 39 #[.slice A n c] W fun e w' => e = .returned (.tuple #[.agg (av px), .bool (validB xs)]) ∧ Below W.heap.size W w') := fun W h hb => by rw [hpx]; exact padded_any A n xs c W B h hb hl
  have S1 : Hid ((Try.prog.info? 57).map (·.size) = some (av px).size) := hpx ▸ pd_size57 xs
  have T1 : Hid (Z12.toArray.size = (av px).size) := hpx ▸ pd_sizeZ xs
  have L1 : Hid (px.length = 12) := hpx ▸ pd_len xs
  have HPX := Lib.hid hpx
  clear hpx
  have HR := Lib.hid hr
  clear hr
  by_cases hv : validB xs = true
  · have HRX : Hid (px.all inR = true) := by show _ = _; rw [HPX.out, pd_yes hv]; exact pad_inR hv
    go_enter Try.func26, Try.ntmps26
    go_wp2_with fail
    refine (c1.out _ HX.out hB).mono ?_; rintro e w1 ⟨rfl, hb1⟩
    have HB1 := Lib.hid hb1
    have hs1 := hb1.size
    clear hb1
    have HG0 : Hid ((w1.alloc (.cells (av px) 57)).heap[w1.heap.size]? = some (.cells (av px) 57 (0, 0))) := heap_alloc_new w1 _
    have HB2 : Hid (Below w.heap.size w (w1.alloc (.cells (av px) 57))) := HB1.out.alloc hs1 _
    go_wp2_with (with_reducible refine wpList_store_new (o := ⟨none, .store 57 (.tmp 6) (.tmp 15), _, _, _, _⟩) rfl 57 (.tmp 6) (.tmp 15) rfl 57 Z12.toArray (av px) rfl rfl S1.out T1.out (av_one _) ?_)
    go_loopw [21] (fun i wr => ∃ k : Nat, k ≤ n' ∧ i = .int .i64 k ∧ Hid ((rs.take k).all rgB = true) ∧ Hid (wr.heap[w1.heap.size]? = some (.cells (av px) 57 (0, 0))) ∧ Hid (Below w.heap.size w wr) ∧ w1.heap.size < wr.heap.size) (fun i _ => n' - (intOf i).toNat)
    case atStart => exact ⟨0, by omega, rfl, by show _ = _; simp, HG0, HB2, by simp⟩
    case round =>
      obtain ⟨wo, rfl⟩ : ∃ wo : World, wo = wr := ⟨_, rfl⟩
      obtain ⟨k, hk, rfl, HVk, HGk, HBk, hsk⟩ := hrel
      clear HG0 HB2
      by_cases hlt : k < n'
      · obtain ⟨b, off, r, rfl, hbB, hrk, hc⟩ := (HR.out.up HBk.out hB).at_ hlt
        obtain ⟨d, f, t⟩ := r
        have hc0 := hc 0 _ rfl
        have hc1 := hc 1 _ rfl
        have hc2 := hc 2 _ rfl
        simp only [Nat.add_zero] at hc0
        rw [← Nat.add_assoc] at hc1 hc2
        have HRk := Lib.hid hrk
        clear hc hrk
        have HBA : Hid (Below w.heap.size w (wo.alloc (.cells #[.int .i64 d, .int .i64 f, .int .i64 t] 34))) := HBk.out.alloc (by omega) _
        by_cases hd : devB d = true
        · by_cases h1 : 1 ≤ f
          · by_cases h2 : f ≤ t
            · by_cases h3 : t ≤ 1099511627776
              · have HT : Hid (rgB ⟨d, f, t⟩ = true) := by show _ = _; simp [rgB, hd, h1, h2, h3]
                go_wp2_with (go_at_call 45; refine (validDevice_any _ _).mono ?_; rintro e w' ⟨rfl, rfl⟩)
                go_roundw
                case rel => exact ⟨k + 1, by omega, by go_num, by show _ = _; rw [take_snoc HRk.out, List.all_append, HVk.out]; simp [HT.out], (Below.heap_alloc _ _ _ hsk).trans HGk.out, HBA, by simp; omega⟩
                case measure => simp [intOf]; omega
              · have HF : Hid ((validB xs && rs.all rgB) = false) := by show _ = _; rw [all_false_of HRk.out (by simp [rgB, hd, h1, h2, h3]), Bool.and_false]
                go_wp2_with (go_at_call 45; refine (validDevice_any _ _).mono ?_; rintro e w' ⟨rfl, rfl⟩)
                go_ret2
                exact .inl ⟨HF.out, none, 0, 0, rfl, Nat.le_refl _, ⟨rfl, SL.nil⟩, HBA.out⟩
            · have HF : Hid ((validB xs && rs.all rgB) = false) := by show _ = _; rw [all_false_of HRk.out (by simp [rgB, hd, h1, h2]), Bool.and_false]
              go_wp2_with (go_at_call 45; refine (validDevice_any _ _).mono ?_; rintro e w' ⟨rfl, rfl⟩)
              go_ret2
              exact .inl ⟨HF.out, none, 0, 0, rfl, Nat.le_refl _, ⟨rfl, SL.nil⟩, HBA.out⟩
          · have HF : Hid ((validB xs && rs.all rgB) = false) := by show _ = _; rw [all_false_of HRk.out (by simp [rgB, hd, h1]), Bool.and_false]
            go_wp2_with (go_at_call 45; refine (validDevice_any _ _).mono ?_; rintro e w' ⟨rfl, rfl⟩)
            go_ret2
            exact .inl ⟨HF.out, none, 0, 0, rfl, Nat.le_refl _, ⟨rfl, SL.nil⟩, HBA.out⟩
        · have hd' : devB d = false := by simpa using hd
          have HF : Hid ((validB xs && rs.all rgB) = false) := by show _ = _; rw [all_false_of HRk.out (by simp [rgB, hd']), Bool.and_false]
          clear hd
          go_wp2_with (go_at_call 45; refine (validDevice_any _ _).mono ?_; rintro e w' ⟨rfl, rfl⟩)
          go_ret2
          exact .inl ⟨HF.out, none, 0, 0, rfl, Nat.le_refl _, ⟨rfl, SL.nil⟩, HBA.out⟩
      · obtain rfl : k = n' := by omega
        have HLN : Hid (rs.length = k) := HR.out.1
        have HAll : Hid (rs.all rgB = true) := by show _ = _; have h := HVk.out; rwa [List.take_of_length_le (by have := HLN.out; omega)] at h
        have HTT : Hid ((validB xs && rs.all rgB) = true) := by show _ = _; rw [hv, HAll.out]; rfl
        have HE0 : Hid (extT (pad xs) rs 0 = some px) := by show _ = _; rw [HPX.out, pd_yes hv]; rfl
        clear hlt hk
        go_wp2
        go_loopw [49] (fun i wr => ∃ (m : Nat) (x : List Int), m ≤ k ∧ i = .int .i64 m ∧ Hid (extT (pad xs) rs m = some x) ∧ Hid (x.length = 12) ∧ Hid (x.all inR = true) ∧ Hid (wr.heap[w1.heap.size]? = some (.cells (av x) 57 (0, 0))) ∧ Hid (Below w.heap.size w wr) ∧ w1.heap.size < wr.heap.size) (fun i _ => k - (intOf i).toNat)
        case atStart => exact ⟨0, px, by omega, rfl, HE0, L1, HRX, HGk, HBk, hsk⟩
        case round =>
          obtain ⟨m, x, hm, rfl, HE, HXL, HXR, HGm, HBm, hsm⟩ := hrel
          clear HE0 HGk HBk HVk
          by_cases hlt : m < k
          · obtain ⟨b, off, r, rfl, hbB, hrk, hc⟩ := (HR.out.up HBm.out hB).at_ hlt
            have hrr := List.all_eq_true.1 HAll.out _ (List.mem_of_getElem? hrk)
            obtain ⟨d, f, t⟩ := r
            simp only [rgB, devB, Bool.and_eq_true, decide_eq_true_eq] at hrr
            obtain ⟨⟨hd0, hd1⟩, hf1, hft, ht⟩ := hrr
            obtain ⟨q, rfl⟩ : ∃ q : Nat, d = q := ⟨d.toNat, by omega⟩
            have hq : q < 12 := by omega
            have hc0 := hc 0 _ rfl
            have hc1 := hc 1 _ rfl
            have hc2 := hc 2 _ rfl
            simp only [Nat.add_zero] at hc0
            rw [← Nat.add_assoc] at hc1 hc2
            obtain ⟨z, hz⟩ := get_ex (xs := x) (k := q) (by rw [HXL.out]; omega)
            have hzb := inR_getD HXR.out q
            rw [getD_of hz] at hzb
            have HES : Hid (extT (pad xs) rs (m + 1) = extS x ⟨q, f, t⟩) := by show _ = _; rw [extT, HE.out, Option.bind_some, hrk, Option.bind_some]
            have HES2 : Hid (extS x ⟨q, f, t⟩ = if z + 1 < f then none else some (x.set q (max z t))) := by show _ = _; simp only [extS, Int.toNat_natCast, getD_of hz]
            have HBA : Hid (Below w.heap.size w (wr.alloc (.cells #[.int .i64 q, .int .i64 f, .int .i64 t] 34))) := HBm.out.alloc (by omega) _
            have HGA : Hid ((wr.alloc (.cells #[.int .i64 q, .int .i64 f, .int .i64 t] 34)).heap[w1.heap.size]? = some (.cells (av x) 57 (0, 0))) := (Below.heap_alloc _ _ _ hsm).trans HGm.out
            have hcx := At.zero (f := I) (At.of_block HGA.out) hz
            have hwr : IntKind.i64.wrap (z + 1) = z + 1 := IntWalk.i64_in _ (by omega)
            clear hc hrk hz
            by_cases hgap : z + 1 < f
            · have HN : Hid (extT (pad xs) rs rs.length = none) := by
                have h1 : extT (pad xs) rs (m + 1) = none := by rw [HES.out, HES2.out, if_pos hgap]
                have h2 := extT_none h1 (k - (m + 1))
                show _ = _
                rw [HLN.out]
                rwa [show m + 1 + (k - (m + 1)) = k by omega] at h2
              go_wp2
              go_quiet (fail)
              go_wp2
              go_ret2
              exact .inr (.inl ⟨HTT.out, HN.out, none, 0, 0, rfl, Nat.le_refl _, ⟨rfl, SL.nil⟩, below_drewN HBA.out _⟩)
            · obtain ⟨u, hu⟩ : ∃ u, (if z < t then t else z) = u := ⟨_, rfl⟩
              have HU : Hid (max z t = u) := by show _ = _; rw [← hu]; split <;> omega
              have hur : inR u = true := by rw [← HU.out]; simp [inR]; omega
              have HUR := Lib.hid hur
              have HES3 : Hid (extT (pad xs) rs (m + 1) = some (x.set q u)) := by show _ = _; rw [HES.out, HES2.out, if_neg hgap, HU.out]
              clear hur
              go_wp2
              go_quiet (fail)
              go_wp2
              obtain ⟨W, hW⟩ : ∃ W : World, W = (wr.alloc (.cells #[.int .i64 q, .int .i64 f, .int .i64 t] 34)).drewN nq := ⟨_, rfl⟩
              have e0 : W.cell? ⟨wr.heap.size, 0, none⟩ = some (.int .i64 q) := by rw [hW]; exact cell_of_row _ _ 0 _ _ _ (heap_alloc_new wr _)
              have e2 : W.cell? ⟨wr.heap.size, 2, none⟩ = some (.int .i64 t) := by rw [hW]; exact cell_of_row _ _ 2 _ _ _ (heap_alloc_new wr _)
              have ex : W.cell? ⟨w1.heap.size, q, none⟩ = some (.int .i64 z) := by rw [hW]; exact hcx
              have HGW : Hid (W.heap[w1.heap.size]? = some (.cells (av x) 57 (0, 0))) := by rw [hW]; exact HGA.out
              have hfr := frozen_of_row W w1.heap.size q _ _ HGW.out
              have HBW : Hid (Below w.heap.size w W) := by rw [hW]; exact below_drewN HBA.out _
              have hsW : w1.heap.size < W.heap.size := lt_of_block HGW.out
              rw [← hW]
              clear hW HBA HGA hcx
              go_still_tail 10, (by kernel_rfl)
              change wpList _ _ _ _ _ W.drew
              go_wp2
              go_roundw
              case rel => exact ⟨m + 1, x.set q u, by omega, by go_num, HES3, by show _ = _; rw [List.length_set]; exact HXL.out, set_inR HXR.out q HUR.out, by
                show _ = _
                rw [← av_set]; exact heap_setCell_same W.drew _ _ _ _ _ HGW.out, (HBW.out.drew).setCell (by show _ ≤ w1.heap.size; omega) _, by simpa using hsW⟩
              case measure => simp [intOf]; omega
          · obtain rfl : m = k := by omega
            have HS : Hid ((Try.prog.info? 57).map (·.size) = some (av x).size) := by show _ = _; rw [av_size, HXL.out]; exact Try.size57
            go_wp2_with (first
              | (with_reducible refine wpList_load_row (o := ⟨some 72, _, _, _, _, _⟩) rfl 57 (.tmp 6) rfl w1.heap.size rfl 57 (av x) (0, 0) _ HGm.out Try.underlying57 rfl HS.out ?_)
              | (go_at_call 46; refine (normal_any _ _ HXL.out).mono ?_; rintro e w2 ⟨A', n', c', rfl, h1', h2', h3'⟩))
            go_ret2
            exact .inr (.inr ⟨HTT.out, x, by rw [HLN.out]; exact HE.out, A', n', c', rfl, h1', h2', HBm.out.trans (h3'.mono HBm.out.size)⟩)
  · have hv' : validB xs = false := by simpa using hv
    have HF : Hid ((validB xs && rs.all rgB) = false) := by show _ = _; rw [hv', Bool.false_and]
    clear hv
    go_enter Try.func26, Try.ntmps26
    go_wp2_with fail
    refine (c1.out _ HX.out hB).mono ?_; rintro e w1 ⟨rfl, hb1⟩
    have HB1 := Lib.hid hb1
    have hs1 := hb1.size
    clear hb1
    go_wp2_with (with_reducible refine wpList_store_new (o := ⟨none, .store 57 (.tmp 6) (.tmp 15), _, _, _, _⟩) rfl 57 (.tmp 6) (.tmp 15) rfl 57 Z12.toArray (av px) rfl rfl S1.out T1.out (av_one _) ?_)
    all_goals (go_ret2; exact .inl ⟨HF.out, none, 0, 0, rfl, Nat.le_refl _, ⟨rfl, SL.nil⟩, HB1.out.alloc hs1 _⟩)
end Go.Proofs.Ytalclofogengpaa
