/- reedsolomon: what is given is checked; Check, Reconstruct. -/
import Derived.Test.YtpbeaghghlfiaaaC4
namespace Go.Proofs.Ytpbeaghghlfiaaa
open Go.RowKit Go.Lib
set_option linter.unusedVariables false
set_option linter.unusedSimpArgs false
/-- The indices that were seen. -/
def snA (s : List Nat) : Array Value := ((List.range 16).map fun j => Value.bool (s.contains j)).toArray
theorem snA_size (s : List Nat) : (snA s).size = 16 := by simp [snA]
theorem snA_get (s : List Nat) {i : Nat} (h : i < 16) : (snA s)[i]? = some (.bool (s.contains i)) := by
  unfold snA
  rw [List.getElem?_toArray, List.getElem?_map, List.getElem?_range h]
  rfl
theorem snA_step (s : List Nat) {i : Nat} (h : i < 16) : (snA s).setIfInBounds i (.bool true) = snA (s ++ [i]) := by
  refine Array.ext_getElem? (fun j => ?_)
  rw [Array.getElem?_setIfInBounds, snA_size]
  by_cases hj : j < 16
  · by_cases e : i = j
    · subst e
      rw [if_pos rfl, if_pos h, snA_get _ h]
      simp
    · rw [if_neg e, snA_get _ hj, snA_get _ hj]
      simp [Ne.symm e]
  · rw [if_neg (by omega), Array.getElem?_eq_none (by rw [snA_size]; omega), Array.getElem?_eq_none (by rw [snA_size]; omega)]
abbrev T16B : TypeId := 84
theorem Try.sizeBool : (Try.prog.info? 4).map (·.size) = some 1 := by kernel_rfl
theorem rsB_nat {d t : Nat} (h1 : 1 ≤ d) (h8 : d ≤ 8) (hdt : d ≤ t) (ht : t ≤ 16) : rsB d t = true := decide_eq_true ⟨by omega, by omega, by omega, by omega⟩
set_option maxRecDepth 100000 in
set_option maxHeartbeats 4000000 in
theorem checkIndices_any (d t n c B : Nat) (A : Option Addr) (l : List Nat) (w : World) (h1 : 1 ≤ d) (h8 : d ≤ 8) (hdt : d ≤ t) (ht : t ≤ 16) (hl : Sl fI w B A n l) (hB : B ≤ w.heap.size) (hnd : Asc l) (hlt : ∀ i ∈ l, i < t) (hn : n ≤ 64) :
    Calls Try.prog 36 #[.int .i64 d, .int .i64 t, .slice A n c] w fun e w' => e = .returned (.int .i64 0) ∧ Below w.heap.size w w' := by
  have HV : Hid (Calls Try.prog 5 #[.int .i64 d, .int .i64 t] w fun e w' => e = .returned (.bool true) ∧ w = w') := by
    have q := rsvalid_any d t w
    rwa [rsB_nat h1 h8 hdt ht] at q
  have HL := Lib.hid hl
  have HBB := Lib.hid hB
  have HND := Lib.hid hnd
  have HLT := Lib.hid hlt
  have HT := Lib.hid ht
  have hnI : (n : Int) ≤ 64 := by omega
  clear h1 h8 hdt ht hl hB hnd hlt hn
  go_enter Try.func36, Try.ntmps36
  go_upto_region 4 with (go_at_call 5; (with_reducible refine HV.out.mono ?_); rintro e w' ⟨rfl, rfl⟩)
  generalize hW1 : World.alloc w _ = W1
  have HB1 : Hid (Below w.heap.size w W1) := by show Below ..; rw [← hW1]; exact (Below.refl _ _).alloc (Nat.le_refl _) _
  have HG1 : Hid (W1.heap[w.heap.size]? = some (.cells (snA (l.take 0)) T16B (0, 0))) := by show _ = _; rw [← hW1]; exact heap_alloc_new w _
  clear hW1
  go_wp2_with fail
  go_loopw [16] (fun i wr => ∃ k : Nat, k ≤ n ∧ i = .int .i64 k ∧ Hid (Below w.heap.size w wr) ∧ Hid (wr.heap[w.heap.size]? = some (.cells (snA (l.take k)) T16B (0, 0)))) (fun i _ => n - (intOf i).toNat)
  case atStart => exact ⟨0, Nat.zero_le _, rfl, HB1, HG1⟩
  case round =>
    clear HB1 HG1
    obtain ⟨k, hk, rfl, HB, HG⟩ := hrel
    by_cases hkn : k < n
    · have hkI : (k : Int) < (n : Int) := by omega
      obtain ⟨b, off, i, rfl, hbB, hik, hck⟩ := (SL.up HL.out.2 HB.out HBB.out).at_ (k := k) (by rw [HL.out.1]; exact hkn)
      have hit := HLT.out i (List.mem_of_getElem? hik)
      have hi16 : i < 16 := by have := HT.out; omega
      have hiI : (i : Int) < (t : Int) := by omega
      have hi16I : (i : Int) < 16 := by omega
      have hi0 : ¬ (i : Int) < 0 := by omega
      have hi0d : decide ((i : Int) < 0) = false := decide_eq_false hi0
      have hitN : decide (t ≤ i) = false := by simp; omega
      have hnc : (l.take k).contains i = false := by
        refine Bool.eq_false_iff.2 (fun g => ?_)
        obtain ⟨j, hj⟩ := List.getElem?_of_mem (List.contains_iff_mem.1 g)
        have hjk : j < k := by have := (List.getElem?_eq_some_iff.1 hj).1; rw [List.length_take] at this; omega
        rw [List.getElem?_take_of_lt hjk] at hj
        obtain ⟨p1, p2⟩ := List.getElem?_eq_some_iff.1 hj
        obtain ⟨q1, q2⟩ := List.getElem?_eq_some_iff.1 hik
        have := List.pairwise_iff_getElem.1 HND.out j k p1 q1 hjk
        omega
      have hcs : wr.cell? ⟨w.heap.size, i, none⟩ = some (.bool false) := by rw [cell_of_row wr _ _ _ _ _ HG.out, snA_get _ hi16, hnc]
      have hst := snA_step (l.take k) hi16
      rw [← take_snoc hik] at hst
      have HST := Lib.hid hst
      have hsz : i < (snA (l.take k)).size := by rw [snA_size]; exact hi16
      clear hik hnc hst hit hi16
      go_wp2_with ((with_reducible refine wpList_store_at1 rfl 4 (.tmp 33) _ rfl w.heap.size T16B i (snA (l.take k)) (.bool true) rfl rfl HG.out hsz Try.sizeBool rfl ?_); intro W5 HG5 HB5)
      rw [HST.out] at HG5
      go_roundw
      case rel => exact ⟨k + 1, by omega, by go_num, HB5.out.below HB.out HB.out.size (fun q hq => by subst hq; exact Nat.le_refl _), HG5⟩
      case measure => simp [intOf]; omega
    · obtain rfl : k = n := by omega
      go_wp2_with fail
      go_ret
      exact ⟨rfl, HB.out⟩
theorem checkGiven_any (d t n c c2 B len : Nat) (A A2 : Option Addr) (l : List Nat) (P : Mt) (w : World) (h1 : 1 ≤ d) (h8 : d ≤ 8) (hdt : d ≤ t) (ht : t ≤ 16) (hl : Sl fI w B A n l) (hP : SLL fN w B A2 n P) (hB : B ≤ w.heap.size) (hnd : Asc l) (hlt : ∀ i ∈ l, i < t) (hn : n ≤ 64) (hdn : d ≤ n) (hpl : ∀ r ∈ P, r.length = len) (h0 : 0 < len) (hle : len ≤ 65536) :
    Calls Try.prog 21 #[.int .i64 d, .int .i64 t, .slice A n c, .slice A2 n c2] w fun e w' => e = .returned (.int .i64 0) ∧ Below w.heap.size w w' := by
  have HC := Lib.hid (checkIndices_any d t n c B A l w h1 h8 hdt ht hl hB hnd hlt hn)
  have HO : Hid (∀ V, Below w.heap.size w V → Calls Try.prog 16 #[.slice A2 n c2] V fun e w' => e = .returned (.bool true) ∧ V = w') := fun V hv => oneLength_yes A2 n c2 B len P V (hP.up hv hB) hpl h0 hle (by omega)
  have hdI : ¬ (n : Int) < (d : Int) := by omega
  have hdN : decide (n < d) = false := by simp; omega
  clear h1 h8 hdt ht hl hP hB hnd hlt hn hdn hpl h0 hle
  go_enter Try.func21, Try.ntmps21
  go_wp2_with (first
    | (go_at_call 36; (with_reducible refine HC.out.mono ?_); rintro e w1 ⟨rfl, hb1⟩; (have HB1 := Lib.hid hb1); clear hb1)
    | (go_at_call 16; (with_reducible refine (HO.out _ HB1.out).mono ?_); rintro e w' ⟨rfl, rfl⟩))
  go_ret
  exact ⟨rfl, HB1.out⟩
theorem run_slice_cut {P : Program} (t e : Nat) (i : TypeInfo) (ht : P.underlying t = some (.slice e)) (hi : P.info? e = some i) (hs : i.size = 1) (A : Option Addr) (n c : Nat) (m : Nat) (h2 : m ≤ n) (h3 : n ≤ c) (w : World) :
    (Instr.slice t (.slice A n c) (some (.int .i64 (m : Int))) none none).run P w = .ok (.slice (if c = m then A else A.map (·.add m)) (n - m) (c - m)) w := by
  simp [Instr.slice, run_underlying ht, Instr.sliceBounds, run_sliceBound w .i64 (m : Int) n _ (by omega) (by omega), sizeOf, typeInfo, hi, hs]
def ChP (ok : Prop) (w : World) (e : Ending) (w' : World) : Prop := ∃ b, e = .returned (.tuple #[.bool b, .int .i64 0]) ∧ (b = true ↔ ok) ∧ Below w.heap.size w w'
set_option maxRecDepth 100000 in
set_option maxHeartbeats 4000000 in
theorem check_any (d t n c c2 B len : Nat) (A A2 : Option Addr) (l : List Nat) (P : Mt) (w : World) (h1 : 1 ≤ d) (h8 : d ≤ 8) (hdt : d ≤ t) (ht : t ≤ 16) (hl : Sl fI w B A n l) (hP : SLL fN w B A2 n P) (hB : B ≤ w.heap.size) (hnd : Asc l) (hlt : ∀ i ∈ l, i < t) (hl8 : ∀ i ∈ l, i < 8) (hn : n ≤ 64) (hdn : d ≤ n) (hnc : n ≤ c) (hnc2 : n ≤ c2) (hok : MtOk len P) (h0 : 0 < len) (hle : len ≤ 65536) :
    Calls Try.prog 9 #[.int .i64 d, .int .i64 t, .slice A n c, .slice A2 n c2] w (ChP (okP len d P (factP d l (l.drop d))) w) := by
  have hlen : (l.take d).length = d := by rw [List.length_take, hl.1]; omega
  have hI : InvOk (l.take d) := invOk (hnd.sublist (List.take_sublist d l)) (fun i hi => hl8 i (List.mem_of_mem_take hi)) (fun q => by rw [q] at hlen; simp at hlen; omega)
  have HCG := Lib.hid (checkGiven_any d t n c c2 B len A A2 l P w h1 h8 hdt ht hl hP hB hnd hlt hn hdn (fun r hr => (hok r hr).1) h0 hle)
  have HNT : Hid (∀ V, Calls Try.prog 19 #[.int .i64 d] V (NtP d V)) := fun V => newTable_any d h1 h8 V
  obtain ⟨i0, hi, hi1, hi2, hi3⟩ := info_parts Try.infoI8
  have hsl' : ∀ w, (Instr.slice 33 (.slice A n c) (some (.int .i64 (d : Int))) none none).run Try.prog w = .ok (.slice (if c = d then A else A.map (·.add d)) (n - d) (c - d)) w := fun w => run_slice_cut 33 TI i0 Try.underlying33 hi hi2 A n c d hdn hnc w
  have hcut := SL.cut hl.2 (n := d) (cap := c) (by rw [hl.1]; exact hnc)
  obtain ⟨AD, hAD⟩ : ∃ AD, (if c = d then A else A.map (·.add d)) = AD := ⟨_, rfl⟩
  rw [hAD] at hcut
  have hsl : ∀ w, (Instr.slice 33 (.slice A n c) (some (.int .i64 (d : Int))) none none).run Try.prog w = .ok (.slice AD (n - d) (c - d)) w := fun w => by rw [hsl' w, hAD]
  have hdl : (l.drop d).length = n - d := by rw [List.length_drop, hl.1]
  have HFA : Hid (∀ V (W : World), Below w.heap.size w V → V.heap[W.heap.size]? = some (.cells (tFull d) TT (0, 0)) → Calls Try.prog 23 #[.pointer (some ⟨W.heap.size, 0, none⟩), .slice A n c, .slice AD (n - d) (c - d)] V (SlP (factP d l (l.drop d)) (n - d) V)) := fun V W hv hg =>
    factors_any W.heap.size d n c (n - d) (c - d) B A AD l (l.drop d) V hg h1 h8 (hl.up hv hB) ⟨hdl, SL.up hcut hv hB⟩ (Nat.le_trans hB hv.size) (fun i hi => by have := hl8 i hi; omega) (fun i hi => by have := hl8 i (List.mem_of_mem_drop hi); omega) (fun i hi => hl8 i (List.mem_of_mem_drop hi)) hn (by omega) hdn hnc hI
  have hFok : MtOk d (factP d l (l.drop d)) := fun r hr => by
    have hI3 := hI.bys
    rw [hlen] at hI3
    obtain ⟨x, hx, rfl⟩ := List.mem_map.1 hr
    obtain ⟨i, hi, rfl⟩ := List.mem_map.1 hx
    have hr8 := rowP_bys h8 (hl8 i (List.mem_of_mem_drop hi))
    exact ⟨comb_len _ (fun b hb => (hI3 b hb).1), comb_bys hr8.2⟩
  have HCF : Hid (∀ V F fc, Below w.heap.size w V → SLL fN V V.heap.size F (n - d) (factP d l (l.drop d)) → Calls Try.prog 25 #[.slice A2 n c2, .slice F (n - d) fc] V (CfP len (okP len d P (factP d l (l.drop d))) V)) := fun V F fc hv hF =>
    conflict_any A2 F n c2 (n - d) fc d len V.heap.size P _ V ((hP.up hv hB).more (Nat.le_trans hB hv.size)) hF (Nat.le_refl _) hok hFok (by omega) (by omega) hnc2 hn hle
  have hdI : (d : Int) ≤ (n : Int) := by omega
  clear h1 h8 hdt ht hl hP hB hnd hlt hl8 hn hdn hnc hnc2 hok h0 hle hlen hI hi hi1 hi2 hi3 hsl' hcut hAD hdl hFok
  go_enter Try.func9, Try.ntmps9
  go_upto_region 4 with (go_at_call 21; (with_reducible refine HCG.out.mono ?_); rintro e w2 ⟨rfl, hb2⟩; (have HB2 := Lib.hid hb2); clear hb2)
  go_wp2_with fail
  refine wp_region_held_drew (S := (fun _ : World => True)) (by kernel_rfl) (by exact trivial) (fun hHeld => ?_)
  refine wpAnyH_take (i := 0) (v := _) (by simp only [List.getElem?_toArray, List.getElem?_cons_zero]; rfl) (by kernel_rfl) (by kernel_rfl) (by kernel_rfl) (by exact fun _ _ _ h => h) (Or.inl ⟨by rfl, by (intro w hSw; (try dsimp only at hSw); go_simp; try (with_reducible rfl))⟩) (by assumption) ?_
  try simp only [Act.put, List.setIfInBounds_toArray, List.set_cons_zero, List.set_cons_succ]
  refine wpAnyH_take (i := 1) (v := _) (by simp only [List.getElem?_toArray, List.getElem?_cons_succ, List.getElem?_cons_zero]; rfl) (by kernel_rfl) (by kernel_rfl) (by kernel_rfl) (by exact fun _ _ _ h => h) (Or.inl ⟨by rfl, by (intro w hSw; (try dsimp only at hSw); go_simp; try (with_reducible rfl))⟩) (by assumption) ?_
  try simp only [Act.put, List.setIfInBounds_toArray, List.set_cons_zero, List.set_cons_succ]
  refine wpAnyH_take (i := 3) (v := _) (by simp only [List.getElem?_toArray, List.getElem?_cons_succ, List.getElem?_cons_zero]; rfl) (by kernel_rfl) (by kernel_rfl) (by kernel_rfl) (by exact fun _ _ _ h => h) (Or.inl ⟨by rfl, by (intro w hSw; (try dsimp only at hSw); go_simp; try (with_reducible rfl))⟩) (by assumption) ?_
  try simp only [Act.put, List.setIfInBounds_toArray, List.set_cons_zero, List.set_cons_succ]
  refine wpAnyH_take (i := 4) (v := _) (by simp only [List.getElem?_toArray, List.getElem?_cons_succ, List.getElem?_cons_zero]; rfl) (by kernel_rfl) (by kernel_rfl) (by kernel_rfl) (by exact fun _ _ _ h => h) (Or.inl ⟨by rfl, by (intro w hSw; (try dsimp only at hSw); go_simp; try (with_reducible rfl))⟩) (by assumption) ?_
  try simp only [Act.put, List.setIfInBounds_toArray, List.set_cons_zero, List.set_cons_succ]
  refine wpAnyH_take (i := 5) (v := _) (by simp only [List.getElem?_toArray, List.getElem?_cons_succ, List.getElem?_cons_zero]; rfl) (by kernel_rfl) (by kernel_rfl) (by kernel_rfl) (by exact fun _ _ _ h => h) (Or.inl ⟨by rfl, by (intro w hSw; (try dsimp only at hSw); go_simp; try (with_reducible rfl))⟩) (by assumption) ?_
  try simp only [Act.put, List.setIfInBounds_toArray, List.set_cons_zero, List.set_cons_succ]
  refine wpAnyH_take (i := 6) (v := _) (by simp only [List.getElem?_toArray, List.getElem?_cons_succ, List.getElem?_cons_zero]; rfl) (by kernel_rfl) (by kernel_rfl) (by kernel_rfl) (by exact fun _ _ _ h => h) (Or.inl ⟨by rfl, by (intro w hSw; (try dsimp only at hSw); go_simp; try (with_reducible rfl))⟩) (by assumption) ?_
  try simp only [Act.put, List.setIfInBounds_toArray, List.set_cons_zero, List.set_cons_succ]
  refine wpAnyH_ready (rs := [2]) (by kernel_rfl) (by simp) ?_
  refine AllReadyH.cons (by simp only [List.getElem?_toArray, List.getElem?_cons_succ, List.getElem?_cons_zero]; rfl) (fun K hK => ?_) (AllReadyH.nil)
  (go_simp; go_at_call 19; (with_reducible refine (HNT.out _).mono ?_); rintro e w3 ⟨rfl, hg3, hb3⟩; (have HG3 : Hid (w3.heap[w2.heap.size]? = some (.cells (tFull d) TT (0, 0))) := hg3); (have HB3 : Hid (Below w.heap.size w w3) := HB2.out.trans (((Below.refl _ w2).drew.trans hb3).mono HB2.out.size)); clear hg3 hb3; go_wp2_with fail)
  refine hK.out _ _ (by exact trivial) (fun hHeldz7 => ?_)
  clear hK K hHeld
  try simp only [Act.put, List.setIfInBounds_toArray, List.set_cons_zero, List.set_cons_succ]
  refine wpAnyH_ready (rs := [7]) (by kernel_rfl) (by simp) ?_
  refine AllReadyH.cons (by simp only [List.getElem?_toArray, List.getElem?_cons_succ, List.getElem?_cons_zero]; rfl) (fun K hK => ?_) (AllReadyH.nil)
  (go_simp; go_at_call 23; (with_reducible refine (HFA.out _ w2 HB3.out HG3.out).mono ?_); rintro e w4 ⟨FA, fc, rfl, hfc, hs4, hb4⟩; (have HS4 := Lib.hid hs4); (have HB4 : Hid (Below w.heap.size w w4) := HB3.out.trans (hb4.mono HB3.out.size)); clear hfc hs4 hb4; go_wp2_with fail)
  refine hK.out _ _ (by exact trivial) (fun hHeldz8 => ?_)
  clear hK K hHeldz7
  try simp only [Act.put, List.setIfInBounds_toArray, List.set_cons_zero, List.set_cons_succ]
  refine wpAnyH_ready (rs := [8]) (by kernel_rfl) (by simp) ?_
  refine AllReadyH.cons (by simp only [List.getElem?_toArray, List.getElem?_cons_succ, List.getElem?_cons_zero]; rfl) (fun K hK => ?_) (AllReadyH.nil)
  (go_simp; go_at_call 25; (with_reducible refine (HCF.out _ _ _ HB4.out HS4.out).mono ?_); rintro e w5 ⟨r, rfl, hr, hb5⟩; (have HR := Lib.hid hr); (have HB5 : Hid (Below w.heap.size w w5) := HB4.out.trans (hb5.mono HB4.out.size)); clear hr hb5; go_wp2_with fail)
  refine hK.out _ _ (by exact trivial) (fun hHeldz9 => ?_)
  clear hK K hHeldz8
  try simp only [Act.put, List.setIfInBounds_toArray, List.set_cons_zero, List.set_cons_succ]
  refine wpAnyH_take (i := 9) (v := _) (by simp only [List.getElem?_toArray, List.getElem?_cons_succ, List.getElem?_cons_zero]; rfl) (by kernel_rfl) (by kernel_rfl) (by kernel_rfl) (by exact fun _ _ _ h => h) (Or.inl ⟨by rfl, by (intro w hSw; (try dsimp only at hSw); go_simp; try (with_reducible rfl))⟩) (by assumption) ?_
  try simp only [Act.put, List.setIfInBounds_toArray, List.set_cons_zero, List.set_cons_succ]
  refine wpAnyH_take (i := 10) (v := _) (by simp only [List.getElem?_toArray, List.getElem?_cons_succ, List.getElem?_cons_zero]; rfl) (by kernel_rfl) (by kernel_rfl) (by kernel_rfl) (by exact fun _ _ _ h => h) (Or.inl ⟨by rfl, by (intro w hSw; (try dsimp only at hSw); go_simp; try (with_reducible rfl))⟩) (by assumption) ?_
  try simp only [Act.put, List.setIfInBounds_toArray, List.set_cons_zero, List.set_cons_succ]
  refine wpAnyH_take (i := 11) (v := _) (by simp only [List.getElem?_toArray, List.getElem?_cons_succ, List.getElem?_cons_zero]; rfl) (by kernel_rfl) (by kernel_rfl) (by kernel_rfl) (by exact fun _ _ _ h => h) (Or.inl ⟨by rfl, by (intro w hSw; (try dsimp only at hSw); go_simp; try (with_reducible rfl))⟩) (by assumption) ?_
  try simp only [Act.put, List.setIfInBounds_toArray, List.set_cons_zero, List.set_cons_succ]
  refine wpAnyH_done (by kernel_rfl) ?_ _
  skip
  have hok : decide (r < 0) = true ↔ okP len d P (factP d l (l.drop d)) := by
    rcases HR.out with ⟨q1, q2⟩ | ⟨q1, _, q2⟩
    · exact ⟨fun _ => q2, fun _ => decide_eq_true q1⟩
    · exact ⟨fun g => absurd (of_decide_eq_true g) (by omega), fun g => absurd g q2⟩
  have HOK := Lib.hid hok
  clear hok
  go_wp2_with fail
  go_ret2
  exact ⟨_, rfl, HOK.out, HB5.out⟩
set_option maxRecDepth 100000 in
set_option maxHeartbeats 4000000 in
theorem reconstruct_any (d t n c c2 B len : Nat) (A A2 : Option Addr) (l : List Nat) (P : Mt) (w : World) (h1 : 1 ≤ d) (h8 : d ≤ 8) (hdt : d ≤ t) (ht : t ≤ 16) (hl : Sl fI w B A n l) (hP : SLL fN w B A2 n P) (hB : B ≤ w.heap.size) (hnd : Asc l) (hlt : ∀ i ∈ l, i < t) (hl8 : ∀ i ∈ l, i < 8) (hn : n ≤ 64) (hdn : d ≤ n) (hnc : n ≤ c) (hnc2 : n ≤ c2) (hok : MtOk len P) (h0 : 0 < len) (hle : len ≤ 65536) :
    Calls Try.prog 10 #[.int .i64 d, .int .i64 t, .slice A n c, .slice A2 n c2] w (MaP2 (mulP len (invP (ofP d (l.take d))) (P.take d)) w) := by
  have hlen : (l.take d).length = d := by rw [List.length_take, hl.1]; omega
  have hI : InvOk (l.take d) := invOk (hnd.sublist (List.take_sublist d l)) (fun i hi => hl8 i (List.mem_of_mem_take hi)) (fun q => by rw [q] at hlen; simp at hlen; omega)
  have hI3 := hI.bys
  have hI4 := hI.len
  rw [hlen] at hI3 hI4
  have HCG := Lib.hid (checkGiven_any d t n c c2 B len A A2 l P w h1 h8 hdt ht hl hP hB hnd hlt hn hdn (fun r hr => (hok r hr).1) h0 hle)
  have HNT : Hid (∀ V, Calls Try.prog 19 #[.int .i64 d] V (NtP d V)) := fun V => newTable_any d h1 h8 V
  obtain ⟨j0, hj, _, _, _⟩ := info_parts Try.infoBR
  have hsl : ∀ w, (Instr.slice 22 (.slice A2 n c2) none (some (.int .i64 (d : Int))) none).run Try.prog w = .ok (.slice A2 d c2) w := fun w => run_slice_to 22 TR j0 Try.underlying22 hj A2 n c2 .i64 (d : Int) d rfl (by omega) w
  have HIV : Hid (∀ V (W : World), Below w.heap.size w V → V.heap[W.heap.size]? = some (.cells (tFull d) TT (0, 0)) → Calls Try.prog 27 #[.pointer (some ⟨W.heap.size, 0, none⟩), .slice A n c] V (MaP1 (invP (ofP d (l.take d))) V)) := fun V W hv hg =>
    tinverse_any W.heap.size d n c B A l V hg h1 h8 (hl.up hv hB) (Nat.le_trans hB hv.size) (fun i hi => by have := hl8 i hi; omega) hn hdn hnc hI
  have HAP : Hid (∀ V g, Below w.heap.size w V → SLL fN V V.heap.size (some ⟨g, 0, none⟩) d (invP (ofP d (l.take d))) → Calls Try.prog 18 #[.slice (some ⟨g, 0, none⟩) d d, .slice A2 d c2] V (MaP2 (mulP len (invP (ofP d (l.take d))) (P.take d)) V)) := fun V g hv hF =>
    apply_any (some ⟨g, 0, none⟩) A2 d d d c2 len V.heap.size _ (P.take d) V hF (((hP.up hv hB).more (Nat.le_trans hB hv.size)).take_ hdn) (Nat.le_refl _) hI3 (fun r hr => hok r (List.mem_of_mem_take hr)) (by omega) (by omega) (by omega) (by omega) hle
  have HIL := Lib.hid hI4
  have HRL : Hid ((mulP len (invP (ofP d (l.take d))) (P.take d)).length = d) := by show _ = _; unfold mulP; rw [List.length_map]; exact hI4
  obtain ⟨IM, hIM⟩ : ∃ IM, invP (ofP d (l.take d)) = IM := ⟨_, rfl⟩
  rw [hIM] at HIV HAP HIL HRL ⊢
  obtain ⟨RM, hRM⟩ : ∃ RM, mulP len IM (P.take d) = RM := ⟨_, rfl⟩
  rw [hRM] at HAP HRL ⊢
  have hdI : (d : Int) ≤ (n : Int) := by omega
  clear h1 h8 hdt ht hl hP hB hnd hlt hl8 hn hdn hnc hnc2 hok h0 hle hlen hI hI3 hI4 hj hIM hRM
  go_enter Try.func10, Try.ntmps10
  go_upto_region 4 with (go_at_call 21; (with_reducible refine HCG.out.mono ?_); rintro e w2 ⟨rfl, hb2⟩; (have HB2 := Lib.hid hb2); clear hb2)
  go_wp2_with fail
  refine wp_region_held_drew (S := (fun _ : World => True)) (by kernel_rfl) (by exact trivial) (fun hHeld => ?_)
  refine wpAnyH_take (i := 0) (v := _) (by simp only [List.getElem?_toArray, List.getElem?_cons_zero]; rfl) (by kernel_rfl) (by kernel_rfl) (by kernel_rfl) (by exact fun _ _ _ h => h) (Or.inl ⟨by rfl, by (intro w hSw; (try dsimp only at hSw); go_simp; try (with_reducible rfl))⟩) (by assumption) ?_
  try simp only [Act.put, List.setIfInBounds_toArray, List.set_cons_zero, List.set_cons_succ]
  refine wpAnyH_take (i := 2) (v := _) (by simp only [List.getElem?_toArray, List.getElem?_cons_succ, List.getElem?_cons_zero]; rfl) (by kernel_rfl) (by kernel_rfl) (by kernel_rfl) (by exact fun _ _ _ h => h) (Or.inl ⟨by rfl, by (intro w hSw; (try dsimp only at hSw); go_simp; try (with_reducible rfl))⟩) (by assumption) ?_
  try simp only [Act.put, List.setIfInBounds_toArray, List.set_cons_zero, List.set_cons_succ]
  refine wpAnyH_take (i := 4) (v := _) (by simp only [List.getElem?_toArray, List.getElem?_cons_succ, List.getElem?_cons_zero]; rfl) (by kernel_rfl) (by kernel_rfl) (by kernel_rfl) (by exact fun _ _ _ h => h) (Or.inl ⟨by rfl, by (intro w hSw; (try dsimp only at hSw); go_simp; try (with_reducible rfl))⟩) (by assumption) ?_
  try simp only [Act.put, List.setIfInBounds_toArray, List.set_cons_zero, List.set_cons_succ]
  refine wpAnyH_take (i := 5) (v := _) (by simp only [List.getElem?_toArray, List.getElem?_cons_succ, List.getElem?_cons_zero]; rfl) (by kernel_rfl) (by kernel_rfl) (by kernel_rfl) (by exact fun _ _ _ h => h) (Or.inl ⟨by rfl, by (intro w hSw; (try dsimp only at hSw); go_simp; try (with_reducible rfl))⟩) (by assumption) ?_
  try simp only [Act.put, List.setIfInBounds_toArray, List.set_cons_zero, List.set_cons_succ]
  refine wpAnyH_take (i := 6) (v := _) (by simp only [List.getElem?_toArray, List.getElem?_cons_succ, List.getElem?_cons_zero]; rfl) (by kernel_rfl) (by kernel_rfl) (by kernel_rfl) (by exact fun _ _ _ h => h) (Or.inl ⟨by rfl, by (intro w hSw; (try dsimp only at hSw); go_simp; try (with_reducible rfl))⟩) (by assumption) ?_
  try simp only [Act.put, List.setIfInBounds_toArray, List.set_cons_zero, List.set_cons_succ]
  refine wpAnyH_ready (rs := [1]) (by kernel_rfl) (by simp) ?_
  refine AllReadyH.cons (by simp only [List.getElem?_toArray, List.getElem?_cons_succ, List.getElem?_cons_zero]; rfl) (fun K hK => ?_) (AllReadyH.nil)
  (go_simp; go_at_call 19; (with_reducible refine (HNT.out _).mono ?_); rintro e w3 ⟨rfl, hg3, hb3⟩; (have HG3 : Hid (w3.heap[w2.heap.size]? = some (.cells (tFull d) TT (0, 0))) := hg3); (have HB3 : Hid (Below w.heap.size w w3) := HB2.out.trans (((Below.refl _ w2).drew.trans hb3).mono HB2.out.size)); clear hg3 hb3; go_wp2_with fail)
  refine hK.out _ _ (by exact trivial) (fun hHeldz6 => ?_)
  clear hK K hHeld
  try simp only [Act.put, List.setIfInBounds_toArray, List.set_cons_zero, List.set_cons_succ]
  refine wpAnyH_ready (rs := [3]) (by kernel_rfl) (by simp) ?_
  refine AllReadyH.cons (by simp only [List.getElem?_toArray, List.getElem?_cons_succ, List.getElem?_cons_zero]; rfl) (fun K hK => ?_) (AllReadyH.nil)
  (go_simp; go_at_call 27; (with_reducible refine (HIV.out _ w2 HB3.out HG3.out).mono ?_); rintro e w4 ⟨g4, hs4, he4, hg4, hm4, hb4⟩; rw [HIL.out] at he4; subst he4; (have HM4 := Lib.hid hm4); (have HB4 : Hid (Below w.heap.size w w4) := HB3.out.trans (hb4.mono HB3.out.size)); clear hg4 hm4 hb4; go_wp2_with fail)
  refine hK.out _ _ (by exact trivial) (fun hHeldz7 => ?_)
  clear hK K hHeldz6
  try simp only [Act.put, List.setIfInBounds_toArray, List.set_cons_zero, List.set_cons_succ]
  refine wpAnyH_ready (rs := [7]) (by kernel_rfl) (by simp) ?_
  refine AllReadyH.cons (by simp only [List.getElem?_toArray, List.getElem?_cons_succ, List.getElem?_cons_zero]; rfl) (fun K hK => ?_) (AllReadyH.nil)
  (go_simp; go_at_call 18; (with_reducible refine (HAP.out _ _ HB4.out (by have q := HM4.out.sll; rw [HIL.out] at q; exact q)).mono ?_); rintro e w5 ⟨g5, hs5, he5, hg5, hm5, hb5⟩; rw [HRL.out] at he5; subst he5; (have HM5 := Lib.hid hm5); (have HG5 := Lib.hid hg5); (have HB5 : Hid (Below w.heap.size w w5) := HB4.out.trans (hb5.mono HB4.out.size)); clear hg5 hm5 hb5; go_wp2_with fail)
  refine hK.out _ _ (by exact trivial) (fun hHeldz8 => ?_)
  clear hK K hHeldz7
  try simp only [Act.put, List.setIfInBounds_toArray, List.set_cons_zero, List.set_cons_succ]
  refine wpAnyH_take (i := 8) (v := _) (by simp only [List.getElem?_toArray, List.getElem?_cons_succ, List.getElem?_cons_zero]; rfl) (by kernel_rfl) (by kernel_rfl) (by kernel_rfl) (by exact fun _ _ _ h => h) (Or.inl ⟨by rfl, by (intro w hSw; (try dsimp only at hSw); go_simp; try (with_reducible rfl))⟩) (by assumption) ?_
  try simp only [Act.put, List.setIfInBounds_toArray, List.set_cons_zero, List.set_cons_succ]
  refine wpAnyH_take (i := 9) (v := _) (by simp only [List.getElem?_toArray, List.getElem?_cons_succ, List.getElem?_cons_zero]; rfl) (by kernel_rfl) (by kernel_rfl) (by kernel_rfl) (by exact fun _ _ _ h => h) (Or.inl ⟨by rfl, by (intro w hSw; (try dsimp only at hSw); go_simp; try (with_reducible rfl))⟩) (by assumption) ?_
  try simp only [Act.put, List.setIfInBounds_toArray, List.set_cons_zero, List.set_cons_succ]
  refine wpAnyH_take (i := 10) (v := _) (by simp only [List.getElem?_toArray, List.getElem?_cons_succ, List.getElem?_cons_zero]; rfl) (by kernel_rfl) (by kernel_rfl) (by kernel_rfl) (by exact fun _ _ _ h => h) (Or.inl ⟨by rfl, by (intro w hSw; (try dsimp only at hSw); go_simp; try (with_reducible rfl))⟩) (by assumption) ?_
  try simp only [Act.put, List.setIfInBounds_toArray, List.set_cons_zero, List.set_cons_succ]
  refine wpAnyH_take (i := 11) (v := _) (by simp only [List.getElem?_toArray, List.getElem?_cons_succ, List.getElem?_cons_zero]; rfl) (by kernel_rfl) (by kernel_rfl) (by kernel_rfl) (by exact fun _ _ _ h => h) (Or.inl ⟨by rfl, by (intro w hSw; (try dsimp only at hSw); go_simp; try (with_reducible rfl))⟩) (by assumption) ?_
  try simp only [Act.put, List.setIfInBounds_toArray, List.set_cons_zero, List.set_cons_succ]
  refine wpAnyH_done (by kernel_rfl) ?_ _
  skip
  go_wp2_with fail
  go_ret2
  exact ⟨g5, hs5, by rw [HRL.out]; rfl, Nat.le_trans HB4.out.size HG5.out, HM5.out, HB5.out⟩
end Go.Proofs.Ytpbeaghghlfiaaa
