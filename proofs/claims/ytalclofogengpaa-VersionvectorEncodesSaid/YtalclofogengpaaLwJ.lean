/- The law VersionvectorEncodes, walked. -/
import Derived.Test.YtalclofogengpaaRdI
import Derived.Test.YtalclofogengpaaLwG
import Derived.Test.YtalclofogengpaaRef3
import Derived.Deep.RegionWith
namespace Go.Proofs.Ytalclofogengpaa
open Go.RowKit

theorem enc_bytes (k n : Nat) : ∀ b ∈ encF k n, 0 ≤ b ∧ b < 256 := by
  induction k generalizing n with
  | zero => intro b hb; cases hb
  | succ k ih =>
    intro b hb
    rw [encF] at hb
    split at hb
    · simp at hb; omega
    · rcases List.mem_cons.1 hb with rfl | hb
      · omega
      · exact ih _ b hb
theorem encV_bytes (xs : List Int) : ∀ b ∈ encV xs, 0 ≤ b ∧ b < 256 := by
  intro b hb
  rw [encV] at hb
  rcases List.mem_append.1 hb with hb | hb
  · exact enc_bytes _ _ b hb
  · rw [encL] at hb
    obtain ⟨x, _, hx⟩ := List.mem_flatMap.1 hb
    exact enc_bytes _ _ b hx
theorem encV_len {xs : List Int} (h : validB xs = true) : (encV xs).length ≤ 130 := by
  rw [encV, List.length_append]
  have h1 := enc_len (nrm xs).length
  have h2 := encL_len (nrm xs)
  have h3 := nrm_len xs
  have h4 := valid_len h
  omega

set_option maxRecDepth 20000 in
set_option maxHeartbeats 2000000 in
theorem law_encodes_yes (A : Option Addr) (n c : Nat) (xs : List Int) (w : World) (hx : Sl I w w.heap.size A n xs) (hcap : n ≤ c) (h1 : n ≤ 20) (hv : validB xs = true) :
    Calls Try.prog 11 #[.slice A n c] w (Law w) := by
  have HX := Lib.hid hx
  have HV := Lib.hid hv
  have HF : Hid (decide (n ≤ 20) = true) := by show decide _ = true; simp [h1]
  have cF : Hid (∀ W, Calls Try.prog 13 #[.slice A n c] W fun e w' => e = .returned (.bool true) ∧ W = w') := fun W => by rw [← HF.out]; exact few_n A n c W
  have cRV : Hid (∀ W, Sl I W w.heap.size A n xs → Calls Try.prog 16 #[.slice A n c] W fun e w' => e = .returned (.bool true) ∧ W = w') := fun W h => by rw [← HV.out]; exact rvalid_n A n xs c W _ h (by omega)
  have HDV : Hid (decV (encV xs) = some (nrm xs)) := decV_enc xs hv
  have HLE : Hid ((encV xs).length ≤ 130) := encV_len hv
  have HNL : Hid ((nrm xs).length ≤ 12) := by show _ ≤ _; have := nrm_len xs; have := valid_len hv; omega
  have cE := Lib.hid (encode_any A n xs c w w.heap.size hx (Nat.le_refl _) (by omega))
  clear hx hv
  go_enter Try.func11, Try.ntmps11
  go_wp2_with fail
  refine (cF.out _).mono ?_; rintro e w' ⟨rfl, rfl⟩
  go_wp2_with fail
  refine cE.out.mono ?_
  rintro e w1 hE
  rcases hE with ⟨_, A1, n1, c1, rfl, hc1, hs1, hb1⟩ | ⟨h0, _⟩
  rotate_left
  · rw [HV.out] at h0; cases h0
  have HB1 := Lib.hid hb1
  have HX1 := Lib.hid (HX.out.up hb1 (Nat.le_refl _))
  have HS1 := Lib.hid hs1
  have hn1 : n1 ≤ 130 := by rw [← hs1.1]; exact HLE.out
  clear hb1 hs1 hc1
  go_wp2_with fail
  refine (cRV.out _ HX1.out).mono ?_; rintro e w' ⟨rfl, rfl⟩
  go_wp2_with fail
  refine (decode_any A1 n1 c1 (encV xs) w1 HS1.out (by omega) (encV_bytes xs)).mono ?_
  rintro e w2 hD
  unfold DecPost at hD
  rw [HDV.out] at hD
  obtain ⟨A2, n2, c2, rfl, hc2, hs2, hb2⟩ := hD
  have HB2 : Hid (Below w.heap.size w w2) := HB1.out.trans (hb2.mono HB1.out.size)
  have HX2 := Lib.hid (HX1.out.up hb2 HB1.out.size)
  have HS2 := Lib.hid (HS1.out.up hb2 (Nat.le_refl _))
  have HD2 := Lib.hid hs2
  have hn2 : n2 ≤ 12 := by rw [← hs2.1]; exact HNL.out
  have hs12 := hb2.size
  clear hb2 hs2 hc2
  go_wp2_with fail
  obtain ⟨s, hs⟩ : ∃ s, s = strOfNums (encV xs) := ⟨_, rfl⟩
  have HCV : Hid (∀ W B A' n' c', Sl fB W B A' n' (encV xs) → (convert 50 9 (.slice A' n' c')).run Try.prog W = .ok (.string s) W) := fun W B A' n' c' h => by
    rw [hs]; exact run_conv_sl (P := Try.prog) 50 5 9 Try.underlying50 Try.underlying5 Try.underlying9 W B A' n' c' _ h
  clear hs
  have w2b : Below w2.heap.size w2 w2.drew := (Below.refl _ _).drew
  refine wp_region_noPanic ?_
  refine wp_region_held_drew (S := fun w' => (convert 50 9 (.slice A1 n1 c1)).run Try.prog w' = .ok (.string s) w') (by kernel_rfl) (HCV.out _ _ A1 n1 c1 HS2.out) (fun hHeld => ?_)
  refine wpAnyH_ready (rs := [0]) (by kernel_rfl) (by simp) ?_
  refine AllReadyH.cons (by simp only [List.getElem?_toArray, List.getElem?_cons_zero]; rfl) (fun K hK => ?_) AllReadyH.nil
  go_simp
  refine (awake_any _).mono ?_; rintro e w3 ⟨rfl, hb3⟩
  have HB3 : Hid (Below w.heap.size w w3) := HB2.out.trans ((w2b.trans hb3).mono HB2.out.size)
  have HX3 := Lib.hid (HX2.out.up (w2b.trans hb3) HB2.out.size)
  have HS3 := Lib.hid (HS2.out.up (w2b.trans hb3) hs12)
  have HD3 := Lib.hid (HD2.out.up (w2b.trans hb3) (Nat.le_refl _))
  have hs23 := (w2b.trans hb3).size
  clear hb3
  go_wp2_with fail
  refine hK.out _ _ (HCV.out _ _ A1 n1 c1 HS3.out) (fun hHeld1 => ?_)
  clear hK K hHeld
  try simp only [Act.put, List.setIfInBounds_toArray, List.set_cons_zero, List.set_cons_succ]
  refine wpAnyH_take (i := 1) (v := ?zv1) (by simp only [List.getElem?_toArray, List.getElem?_cons_succ, List.getElem?_cons_zero]; rfl) (by kernel_rfl) (by kernel_rfl) (by kernel_rfl) (by exact fun _ _ _ h => h) (Or.inl ⟨by rfl, ?zy1⟩) (by assumption) ?zr1
  case zy1 => (intro w hSw; (try dsimp only at hSw); go_simp; try (with_reducible rfl))
  try simp only [Act.put, List.setIfInBounds_toArray, List.set_cons_zero, List.set_cons_succ]
  refine wpAnyH_take (i := 2) (v := ?zv2) (by simp only [List.getElem?_toArray, List.getElem?_cons_succ, List.getElem?_cons_zero]; rfl) (by kernel_rfl) (by kernel_rfl) (by kernel_rfl) (by exact fun _ _ _ h => h) (Or.inl ⟨by rfl, ?zy2⟩) (by assumption) ?zr2
  case zy2 => (intro w hSw; (try dsimp only at hSw); go_simp; try (with_reducible rfl))
  try simp only [Act.put, List.setIfInBounds_toArray, List.set_cons_zero, List.set_cons_succ]
  refine wpAnyH_take (i := 3) (v := ?zv3) (by simp only [List.getElem?_toArray, List.getElem?_cons_succ, List.getElem?_cons_zero]; rfl) (by kernel_rfl) (by kernel_rfl) (by kernel_rfl) (by exact fun _ _ _ h => h) (Or.inl ⟨by rfl, ?zy3⟩) (by assumption) ?zr3
  case zy3 => (intro w hSw; (try dsimp only at hSw); go_simp; try (with_reducible rfl))
  try simp only [Act.put, List.setIfInBounds_toArray, List.set_cons_zero, List.set_cons_succ]
  refine wpAnyH_take (i := 4) (v := ?zv4) (by simp only [List.getElem?_toArray, List.getElem?_cons_succ, List.getElem?_cons_zero]; rfl) (by kernel_rfl) (by kernel_rfl) (by kernel_rfl) (by exact fun _ _ _ h => h) (Or.inl ⟨by rfl, ?zy4⟩) (by assumption) ?zr4
  case zy4 => (intro w hSw; (try dsimp only at hSw); go_simp; try (with_reducible rfl))
  try simp only [Act.put, List.setIfInBounds_toArray, List.set_cons_zero, List.set_cons_succ]
  refine wpAnyH_take (i := 5) (v := ?zv5) (by simp only [List.getElem?_toArray, List.getElem?_cons_succ, List.getElem?_cons_zero]; rfl) (by kernel_rfl) (by kernel_rfl) (by kernel_rfl) (by exact fun _ _ _ h => h) (Or.inl ⟨by rfl, ?zy5⟩) (by assumption) ?zr5
  case zy5 => (intro w hSw; (try dsimp only at hSw); go_simp; try (with_reducible rfl))
  try simp only [Act.put, List.setIfInBounds_toArray, List.set_cons_zero, List.set_cons_succ]
  refine wpAnyH_take (i := 6) (v := ?zv6) (by simp only [List.getElem?_toArray, List.getElem?_cons_succ, List.getElem?_cons_zero]; rfl) (by kernel_rfl) (by kernel_rfl) (by kernel_rfl) (by exact fun _ _ _ h => h) (Or.inl ⟨by rfl, ?zy6⟩) (by assumption) ?zr6
  case zy6 => (intro w hSw; (try dsimp only at hSw); go_simp; try (with_reducible rfl))
  try simp only [Act.put, List.setIfInBounds_toArray, List.set_cons_zero, List.set_cons_succ]
  refine wpAnyH_take (i := 7) (v := ?zv7) (by simp only [List.getElem?_toArray, List.getElem?_cons_succ, List.getElem?_cons_zero]; rfl) (by kernel_rfl) (by kernel_rfl) (by kernel_rfl) (by exact fun _ _ _ h => h) (Or.inl ⟨by rfl, ?zy7⟩) (by assumption) ?zr7
  case zy7 => (intro w hSw; (try dsimp only at hSw); go_simp; try (with_reducible rfl))
  try simp only [Act.put, List.setIfInBounds_toArray, List.set_cons_zero, List.set_cons_succ]
  refine wpAnyH_take (i := 8) (v := ?zv8) (by simp only [List.getElem?_toArray, List.getElem?_cons_succ, List.getElem?_cons_zero]; rfl) (by kernel_rfl) (by kernel_rfl) (by kernel_rfl) (by exact fun _ _ _ h => h) (Or.inl ⟨by rfl, ?zy8⟩) (by assumption) ?zr8
  case zy8 => (intro w hSw; (try dsimp only at hSw); go_simp; try (with_reducible rfl))
  try simp only [Act.put, List.setIfInBounds_toArray, List.set_cons_zero, List.set_cons_succ]
  refine wpAnyH_ready (rs := [9]) (by kernel_rfl) (by simp) ?_
  refine AllReadyH.cons (by simp only [List.getElem?_toArray, List.getElem?_cons_succ, List.getElem?_cons_zero]; rfl) (fun K hK => ?_) AllReadyH.nil
  go_simp
  refine (rencode_any A n xs c _ w.heap.size HX3.out HB3.out.size (by omega) hcap HV.out).mono ?_; rintro e w4 ⟨A4, n4, c4, rfl, hc4, hs4, hb4⟩
  have HB4 : Hid (Below w.heap.size w w4) := HB3.out.trans (hb4.mono HB3.out.size)
  have HX4 := Lib.hid (HX3.out.up hb4 HB3.out.size)
  have HS4 := Lib.hid (HS3.out.up hb4 (by omega))
  have HD4 := Lib.hid (HD3.out.up hb4 hs23)
  have hcv4b := HCV.out w4 _ A4 n4 c4 hs4
  have hs34 := hb4.size
  clear hb4 hs4 hc4
  go_wp2_with fail
  refine hK.out _ _ (HCV.out _ _ A1 n1 c1 HS4.out) (fun hHeld2 => ?_)
  clear hK K hHeld1
  try simp only [Act.put, List.setIfInBounds_toArray, List.set_cons_zero, List.set_cons_succ]
  refine wpAnyH_ready (rs := [10]) (by kernel_rfl) (by simp) ?_
  refine AllReadyH.cons (by simp only [List.getElem?_toArray, List.getElem?_cons_succ, List.getElem?_cons_zero]; rfl) (fun K hK => ?_) AllReadyH.nil
  go_simp
  refine hK.out _ _ (HCV.out _ _ A1 n1 c1 HS4.out) (fun hHeld3 => ?_)
  clear hK K hHeld2
  try simp only [Act.put, List.setIfInBounds_toArray, List.set_cons_zero, List.set_cons_succ]
  refine wpAnyH_take (i := 11) (v := ?zv11) (by simp only [List.getElem?_toArray, List.getElem?_cons_succ, List.getElem?_cons_zero]; rfl) (by kernel_rfl) (by kernel_rfl) (by kernel_rfl) (by exact fun _ _ _ h => h) (Or.inl ⟨by rfl, ?zy11⟩) (by assumption) ?zr11
  case zy11 => (intro w hSw; (try dsimp only at hSw); go_simp; try (with_reducible rfl))
  try simp only [Act.put, List.setIfInBounds_toArray, List.set_cons_zero, List.set_cons_succ]
  refine wpAnyH_take (i := 12) (v := ?zv12) (by simp only [List.getElem?_toArray, List.getElem?_cons_succ, List.getElem?_cons_zero]; rfl) (by kernel_rfl) (by kernel_rfl) (by kernel_rfl) (by exact fun _ _ _ h => h) (Or.inl ⟨by rfl, ?zy12⟩) (by assumption) ?zr12
  case zy12 => (intro w hSw; (try dsimp only at hSw); go_simp; try (with_reducible rfl))
  try simp only [Act.put, List.setIfInBounds_toArray, List.set_cons_zero, List.set_cons_succ]
  refine wpAnyH_take (i := 13) (v := ?zv13) (by simp only [List.getElem?_toArray, List.getElem?_cons_succ, List.getElem?_cons_zero]; rfl) (by kernel_rfl) (by kernel_rfl) (by kernel_rfl) (by exact fun _ _ _ h => h) (Or.inl ⟨by rfl, ?zy13⟩) (by assumption) ?zr13
  case zy13 => (intro w hSw; (try dsimp only at hSw); go_simp; try (with_reducible rfl))
  try simp only [Act.put, List.setIfInBounds_toArray, List.set_cons_zero, List.set_cons_succ]
  refine wpAnyH_take (i := 14) (v := ?zv14) (by simp only [List.getElem?_toArray, List.getElem?_cons_succ, List.getElem?_cons_zero]; rfl) (by kernel_rfl) (by kernel_rfl) (by kernel_rfl) (by exact fun _ _ _ h => h) (Or.inl ⟨by rfl, ?zy14⟩) (by assumption) ?zr14
  case zy14 => (intro w hSw; (try dsimp only at hSw); go_simp; try (with_reducible rfl))
  try simp only [Act.put, List.setIfInBounds_toArray, List.set_cons_zero, List.set_cons_succ]
  refine wpAnyH_take (i := 15) (v := ?zv15) (by simp only [List.getElem?_toArray, List.getElem?_cons_succ, List.getElem?_cons_zero]; rfl) (by kernel_rfl) (by kernel_rfl) (by kernel_rfl) (by exact fun _ _ _ h => h) (Or.inl ⟨by rfl, ?zy15⟩) (by assumption) ?zr15
  case zy15 => (intro w hSw; (try dsimp only at hSw); go_simp; try (with_reducible rfl))
  try simp only [Act.put, List.setIfInBounds_toArray, List.set_cons_zero, List.set_cons_succ]
  refine wpAnyH_take (i := 16) (v := ?zv16) (by simp only [List.getElem?_toArray, List.getElem?_cons_succ, List.getElem?_cons_zero]; rfl) (by kernel_rfl) (by kernel_rfl) (by kernel_rfl) (by exact fun _ _ _ h => h) (Or.inl ⟨by rfl, ?zy16⟩) (by assumption) ?zr16
  case zy16 => (intro w hSw; (try dsimp only at hSw); go_simp; try (with_reducible rfl))
  try simp only [Act.put, List.setIfInBounds_toArray, List.set_cons_zero, List.set_cons_succ]
  refine wpAnyH_take (i := 17) (v := ?zv17) (by simp only [List.getElem?_toArray, List.getElem?_cons_succ, List.getElem?_cons_zero]; rfl) (by kernel_rfl) (by kernel_rfl) (by kernel_rfl) (by exact fun _ _ _ h => h) (Or.inl ⟨by rfl, ?zy17⟩) (by assumption) ?zr17
  case zy17 => (intro w hSw; (try dsimp only at hSw); go_simp; try (with_reducible rfl))
  try simp only [Act.put, List.setIfInBounds_toArray, List.set_cons_zero, List.set_cons_succ]
  refine wpAnyH_take (i := 18) (v := ?zv18) (by simp only [List.getElem?_toArray, List.getElem?_cons_succ, List.getElem?_cons_zero]; rfl) (by kernel_rfl) (by kernel_rfl) (by kernel_rfl) (by exact fun _ _ _ h => h) (Or.inl ⟨by rfl, ?zy18⟩) (by assumption) ?zr18
  case zy18 => (intro w hSw; (try dsimp only at hSw); go_simp; try (with_reducible rfl))
  try simp only [Act.put, List.setIfInBounds_toArray, List.set_cons_zero, List.set_cons_succ]
  refine wpAnyH_take (i := 19) (v := ?zv19) (by simp only [List.getElem?_toArray, List.getElem?_cons_succ, List.getElem?_cons_zero]; rfl) (by kernel_rfl) (by kernel_rfl) (by kernel_rfl) (by exact fun _ _ _ h => h) (Or.inl ⟨by rfl, ?zy19⟩) (by assumption) ?zr19
  case zy19 => (intro w hSw; (try dsimp only at hSw); go_simp; try (with_reducible rfl))
  try simp only [Act.put, List.setIfInBounds_toArray, List.set_cons_zero, List.set_cons_succ]
  refine wpAnyH_ready (rs := [20]) (by kernel_rfl) (by simp) ?_
  refine AllReadyH.cons (by simp only [List.getElem?_toArray, List.getElem?_cons_succ, List.getElem?_cons_zero]; rfl) (fun K hK => ?_) AllReadyH.nil
  go_simp
  refine (rnormal_any A n xs c _ w.heap.size HX4.out HB4.out.size (by omega) hcap).mono ?_; rintro e w5 ⟨A5, n5, c5, rfl, hc5, hs5, hb5⟩
  have HB5 : Hid (Below w.heap.size w w5) := HB4.out.trans (hb5.mono HB4.out.size)
  have HD5 := Lib.hid (HD4.out.up hb5 (by omega))
  have HS5 := Lib.hid (HS4.out.up hb5 (by omega))
  have hs45 := hb5.size
  have HR5 := Lib.hid hs5
  have hn5 : n5 ≤ 12 := by rw [← hs5.1]; exact HNL.out
  clear hb5 hs5 hc5
  go_wp2_with fail
  refine hK.out _ _ (HCV.out _ _ A1 n1 c1 HS5.out) (fun hHeld4 => ?_)
  clear hK K hHeld3
  try simp only [Act.put, List.setIfInBounds_toArray, List.set_cons_zero, List.set_cons_succ]
  refine wpAnyH_ready (rs := [21]) (by kernel_rfl) (by simp) ?_
  refine AllReadyH.cons (by simp only [List.getElem?_toArray, List.getElem?_cons_succ, List.getElem?_cons_zero]; rfl) (fun K hK => ?_) AllReadyH.nil
  go_simp
  refine (ints_eq _ _ _ _ (nrm xs) (nrm xs) _ _ _ (HD5.out.more' (by omega)) HR5.out (by omega) (by omega) rfl).mono ?_; rintro e w6 ⟨rfl, hb6⟩
  have HB6 : Hid (Below w.heap.size w w6) := HB5.out.trans (hb6.mono HB5.out.size)
  have HS6 := Lib.hid (HS5.out.up hb6 (by omega))
  clear hb6
  go_wp2_with fail
  refine hK.out _ _ (HCV.out _ _ A1 n1 c1 HS6.out) (fun hHeld5 => ?_)
  clear hK K hHeld4
  try simp only [Act.put, List.setIfInBounds_toArray, List.set_cons_zero, List.set_cons_succ]
  refine wpAnyH_take (i := 22) (v := ?zv22) (by simp only [List.getElem?_toArray, List.getElem?_cons_succ, List.getElem?_cons_zero]; rfl) (by kernel_rfl) (by kernel_rfl) (by kernel_rfl) (by exact fun _ _ _ h => h) (Or.inl ⟨by rfl, ?zy22⟩) (by assumption) ?zr22
  case zy22 => (intro w hSw; (try dsimp only at hSw); go_simp; try (with_reducible rfl))
  try simp only [Act.put, List.setIfInBounds_toArray, List.set_cons_zero, List.set_cons_succ]
  refine wpAnyH_take (i := 23) (v := ?zv23) (by simp only [List.getElem?_toArray, List.getElem?_cons_succ, List.getElem?_cons_zero]; rfl) (by kernel_rfl) (by kernel_rfl) (by kernel_rfl) (by exact fun _ _ _ h => h) (Or.inl ⟨by rfl, ?zy23⟩) (by assumption) ?zr23
  case zy23 => (intro w hSw; (try dsimp only at hSw); go_simp; try (with_reducible rfl))
  try simp only [Act.put, List.setIfInBounds_toArray, List.set_cons_zero, List.set_cons_succ]
  refine wpAnyH_done (by kernel_rfl) ?_ _
  refine NoPanic.normal ?_
  go_wp2
  go_ret
  exact ⟨ret_bool (by simp), HB6.out⟩

set_option maxRecDepth 20000 in
theorem law_encodes (A : Option Addr) (n c : Nat) (xs : List Int) (w : World) (hx : Sl I w w.heap.size A n xs) (hcap : n ≤ c) :
    Calls Try.prog 11 #[.slice A n c] w (Law w) := by
  by_cases h1 : n ≤ 20
  · by_cases hv : validB xs = true
    · exact law_encodes_yes A n c xs w hx hcap h1 hv
    · have HX := Lib.hid hx
      have HF : Hid (decide (n ≤ 20) = true) := by show decide _ = true; simp [h1]
      have HV : Hid (validB xs = false) := by show _ = _; simpa using hv
      have cF : Hid (∀ W, Calls Try.prog 13 #[.slice A n c] W fun e w' => e = .returned (.bool true) ∧ W = w') := fun W => by rw [← HF.out]; exact few_n A n c W
      have cRV : Hid (∀ W, Sl I W w.heap.size A n xs → Calls Try.prog 16 #[.slice A n c] W fun e w' => e = .returned (.bool false) ∧ W = w') := fun W h => by rw [← HV.out]; exact rvalid_n A n xs c W _ h (by omega)
      have cE := Lib.hid (encode_any A n xs c w w.heap.size hx (Nat.le_refl _) (by omega))
      clear hx hv
      go_enter Try.func11, Try.ntmps11
      go_wp2_with fail
      refine (cF.out _).mono ?_; rintro e w' ⟨rfl, rfl⟩
      go_wp2_with fail
      refine cE.out.mono ?_
      rintro e w1 hE
      rcases hE with ⟨h0, _⟩ | ⟨_, A1, n1, c1, rfl, hc1, hs1, hb1⟩
      · rw [HV.out] at h0; cases h0
      have HB1 := Lib.hid hb1
      have HX1 := Lib.hid (HX.out.up hb1 (Nat.le_refl _))
      obtain rfl : n1 = 0 := by have := hs1.1; simpa using this.symm
      clear hb1 hs1 hc1
      go_wp2_with fail
      refine (cRV.out _ HX1.out).mono ?_; rintro e w' ⟨rfl, rfl⟩
      go_wp2_with fail
      refine (awake_any _).mono ?_; rintro e w3 ⟨rfl, hb3⟩
      have HB3 : Hid (Below w.heap.size w w3) := HB1.out.trans (hb3.mono HB1.out.size)
      clear hb3
      go_wp2_with fail
      go_ret
      exact ⟨rfl, HB3.out⟩
  · have HF : Hid (decide (n ≤ 20) = false) := by show decide _ = false; simp [h1]
    have cF : Hid (∀ W, Calls Try.prog 13 #[.slice A n c] W fun e w' => e = .returned (.bool false) ∧ W = w') := fun W => by rw [← HF.out]; exact few_n A n c W
    go_enter Try.func11, Try.ntmps11
    go_wp2_with fail
    refine (cF.out _).mono ?_; rintro e w' ⟨rfl, rfl⟩
    go_wp2_with fail
    refine (law_awake w w (Below.refl _ _)).mono ?_; rintro e w2 ⟨rfl, hb2⟩
    have HB2 := Lib.hid hb2
    clear hb2
    go_wp2_with fail
    go_ret
    exact ⟨rfl, HB2.out⟩
end Go.Proofs.Ytalclofogengpaa
