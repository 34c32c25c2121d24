/- Encode. -/
import Derived.Test.YtlnaakpcnhnccaaDoorYl
import Derived.Test.YtlnaakpcnhnccaaDoorWi
import Derived.Test.YtlnaakpcnhnccaaDoorZ2
namespace Go.Proofs.YtlnaakpcnhnccaaDoor
open Go.RowKit
set_option linter.unusedVariables false
set_option linter.unusedSimpArgs false

def encL (xs : List Int) : List Int := xs.flatMap fun x => enc x.toNat
def encV (xs : List Int) : List Int := enc (nrm xs).length ++ encL (nrm xs)
theorem encL_len (xs : List Int) : (encL xs).length ≤ 10 * xs.length := by
  induction xs with
  | nil => simp [encL]
  | cons x xs ih =>
    have := enc_len x.toNat
    simp only [encL, List.flatMap_cons, List.length_append, List.length_cons] at ih ⊢
    omega
theorem encL_snoc (xs : List Int) (x : Int) : encL (xs ++ [x]) = encL xs ++ enc x.toNat := by simp [encL]
theorem nrm_inR {xs : List Int} (h : xs.all inR = true) : (nrm xs).all inR = true := by
  rw [List.all_eq_true] at h ⊢
  exact fun z hz => h z (List.mem_of_mem_take hz)
theorem nrm_len (xs : List Int) : (nrm xs).length ≤ xs.length := by rw [nrm, List.length_take]; omega

def EncPost (xs : List Int) (w : World) (e : Ending) (w' : World) : Prop :=
  (validB xs = true ∧ Slc2 fB (encV xs) 0 w e w') ∨ (validB xs = false ∧ Slc2 fB ([] : List Int) 1 w e w')

set_option maxRecDepth 20000 in
set_option maxHeartbeats 1000000 in
theorem encode_any (A : Option Addr) (n : Nat) (xs : List Int) (c : Nat) (w : World) (B : Nat) (hx : Sl I w B A n xs) (hB : B ≤ w.heap.size) (hl : n ≤ 1000000) :
    Calls Tryd.prog 18 #[.slice A n c] w (EncPost xs w) := by
  have HX := Lib.hid hx
  clear hx
  obtain ⟨px, hpx⟩ : ∃ p, p = pd xs := ⟨_, rfl⟩
  have c1 : Hid (∀ W, Sl I W B A n xs → B ≤ W.heap.size → Calls Tryd.prog 30 #[.slice A n c] W fun e w' => e = .returned (.tuple #[.agg (av px), .bool (validB xs)]) ∧ Below W.heap.size W w') := fun W h hb => by rw [hpx]; exact padded_any A n xs c W B h hb hl
  have S1 : Hid ((Tryd.prog.info? 75).map (·.size) = some (av px).size) := hpx ▸ pd_size57 xs
  have T1 : Hid (Z12.toArray.size = (av px).size) := hpx ▸ pd_sizeZ xs
  have L1 : Hid (px.length = 12) := hpx ▸ pd_len xs
  have HPX := Lib.hid hpx
  clear hpx
  by_cases hv : validB xs = true
  · have HN : Hid (nrm px = nrm xs) := by show _ = _; rw [HPX.out, pd_yes hv, nrm_pad (valid_len hv)]
    have HNR : Hid ((nrm px).all inR = true) := nrm_inR (by rw [HPX.out, pd_yes hv]; exact pad_inR hv)
    have HNL : Hid ((nrm px).length ≤ 12) := by show _ ≤ _; have := nrm_len px; have := L1.out; omega
    have HV := Lib.hid hv
    go_enter Tryd.func18, Tryd.ntmps18
    go_wp2_with fail
    refine (c1.out _ HX.out hB).mono ?_; rintro e w1 ⟨rfl, hb1⟩
    have HB1 := Lib.hid hb1
    have hs1 := hb1.size
    clear hb1
    go_wp2_with (first
      | (with_reducible refine wpList_store_new (o := ⟨none, .store 75 (.tmp 4) (.tmp 13), _, _, _, _⟩) rfl 75 (.tmp 4) (.tmp 13) rfl 75 Z12.toArray (av px) rfl rfl S1.out T1.out (av_one _) ?_)
      | (with_reducible refine wpList_load_row (o := ⟨some 17, _, _, _, _, _⟩) rfl 75 (.tmp 4) rfl w1.heap.size rfl 75 (av px) (0, 0) _ (heap_alloc_new w1 _) Tryd.underlying75 rfl S1.out ?_)
      | (go_at_call 31; refine (normal_any _ _ L1.out).mono ?_; rintro e w2 ⟨A2, n2, c2, rfl, h1, h2, h3⟩
         have H2 := Lib.hid h2
         have HB2 : Hid (Below w.heap.size w w2) := (HB1.out.alloc hs1 _).trans (h3.mono (by simp; omega))
         have hs2 := HB2.out.size
         have hn2 : n2 ≤ 12 := by rw [← h2.1]; exact HNL.out
         have HL2 : Hid ((nrm px).length = n2) := h2.1
         clear h2 h3)
      | (go_at_call 32; refine (newWriter_any _).mono ?_; rintro e w3 ⟨rfl, rfl⟩)
      | (go_at_call 33; refine (wcount_any w2.heap.size (w2.heap.size + 1) _ [] n2 _ (Wr.new w2) (by omega) (by simp)).mono ?_; rintro e w4 ⟨v4, rfl, hwr4, hb4, hn4⟩
         have HW4 : Hid (Wr w4 w2.heap.size (w2.heap.size + 1) v4 (enc n2)) := by have h := hwr4; rw [List.nil_append] at h; exact h
         have HB4 : Hid (Below w2.heap.size w2 w4) := ((Below.refl _ _).alloc (Nat.le_refl _) _).trans (hb4.below (by simp) fun i hi => by
           rcases hi with rfl | hi
           · exact Nat.le_refl _
           · simp [Value.ownBlock] at hi)
         clear hwr4 hb4 hn4))
    go_loopw [26] (fun i wr => ∃ (k : Nat) (v : Value), k ≤ n2 ∧ i = .int .i64 k ∧ Hid (Wr wr w2.heap.size (w2.heap.size + 1) v (enc n2 ++ encL ((nrm px).take k))) ∧ Hid (Below w2.heap.size w2 wr)) (fun i _ => n2 - (intOf i).toNat)
    case atStart => exact ⟨0, v4, by omega, rfl, by show Wr _ _ _ _ _; rw [List.take_zero]; simp only [encL, List.flatMap_nil, List.append_nil]; exact HW4.out, HB4⟩
    case round =>
      obtain ⟨k, v, hk, rfl, HW, HBk⟩ := hrel
      clear HW4 HB4
      have hbl : (enc n2 ++ encL ((nrm px).take k)).length ≤ 130 := by
        have h1 := enc_len n2
        have h2 := encL_len ((nrm px).take k)
        rw [List.length_append]
        rw [List.length_take] at h2
        omega
      by_cases hlt : k < n2
      · obtain ⟨b, off, x, rfl, _, hxk, hc⟩ := SL.at_ (H2.out.up HBk.out (Nat.le_refl _)).2 (k := k) (by rw [HL2.out]; exact hlt)
        have hxr := List.all_eq_true.1 HNR.out x (List.mem_of_getElem? hxk)
        simp only [inR, Bool.and_eq_true, decide_eq_true_eq] at hxr
        obtain ⟨m, rfl⟩ : ∃ m : Nat, x = m := ⟨x.toNat, by omega⟩
        have hm : m ≤ 1099511627776 := by omega
        have HT : Hid (enc n2 ++ encL ((nrm px).take (k + 1)) = (enc n2 ++ encL ((nrm px).take k)) ++ enc m) := by
          show _ = _
          rw [take_snoc hxk, encL_snoc, Int.toNat_natCast, List.append_assoc]
        have HC := Lib.hid (wuint_any w2.heap.size (w2.heap.size + 1) v _ m wr HW.out (by omega) (by omega))
        have HWN := HW
        clear hxk hxr
        go_wp2_with (first
          | (go_at_call 34; refine HC.out.mono ?_; rintro e w5 ⟨v5, rfl, hwr5, hb5, hn5⟩
             have HW5 := Lib.hid hwr5
             have HB5 : Hid (Below w2.heap.size wr w5) := hb5.below HBk.out.size fun i hi => by
               rcases hi with rfl | hi
               · exact Nat.le_refl _
               · have := (World.ownsRow.lt HWN.out.2.1 i hi).1; omega
             clear hwr5 hb5 hn5))
        go_roundw
        case rel => exact ⟨k + 1, v5, by omega, by go_num, by show Wr _ _ _ _ _; rw [HT.out]; exact HW5.out, HBk.out.trans HB5.out⟩
        case measure => simp [intOf]; omega
      · obtain rfl : k = n2 := by omega
        have HD := Lib.hid (wdone_any w2.heap.size (w2.heap.size + 1) v _ wr HW.out (by omega))
        have HTT : Hid (enc k ++ encL ((nrm px).take k) = encV xs) := by
          show _ = _
          rw [List.take_of_length_le (by have := HL2.out; omega), encV, ← HN.out, HL2.out]
        go_wp2_with (go_at_call 35; refine HD.out.mono ?_; rintro e w6 ⟨A6, n6, c6, rfl, h1, h2, h3⟩)
        go_ret2
        exact .inl ⟨HV.out, A6, n6, c6, rfl, h1, by rw [← HTT.out]; exact h2, HB2.out.trans ((HBk.out.mono hs2).trans (h3.mono (by have := HBk.out.size; omega)))⟩
  · have hv' : validB xs = false := by simpa using hv
    have HF := Lib.hid hv'
    clear hv
    go_enter Tryd.func18, Tryd.ntmps18
    go_wp2_with fail
    refine (c1.out _ HX.out hB).mono ?_; rintro e w1 ⟨rfl, hb1⟩
    have HB1 := Lib.hid hb1
    have hs1 := hb1.size
    clear hb1
    go_wp2_with (with_reducible refine wpList_store_new (o := ⟨none, .store 75 (.tmp 4) (.tmp 13), _, _, _, _⟩) rfl 75 (.tmp 4) (.tmp 13) rfl 75 Z12.toArray (av px) rfl rfl S1.out T1.out (av_one _) ?_)
    all_goals (go_ret2; exact .inr ⟨HF.out, none, 0, 0, rfl, Nat.le_refl _, ⟨rfl, SL.nil⟩, HB1.out.alloc hs1 _⟩)
end Go.Proofs.YtlnaakpcnhnccaaDoor
