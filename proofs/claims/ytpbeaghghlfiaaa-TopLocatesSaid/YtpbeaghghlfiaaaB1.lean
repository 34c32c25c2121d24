/- matrix: Identity, Valid. -/
import Derived.Test.YtpbeaghghlfiaaaB0
namespace Go.Proofs.Ytpbeaghghlfiaaa
open Go.RowKit Go.Lib
set_option linter.unusedVariables false
set_option linter.unusedSimpArgs false
theorem Zer.on {w w' : World} {g cols : Nat} {m : Mt} (h : Zer w g cols m) (hb : Below w.heap.size w w') : Zer w' g cols m where
  outer := (hb.block _ (lt_block h.outer)).trans h.outer
  row := fun k r hk => ⟨(h.row k r hk).1, (hb.block _ (lt_block (h.row k r hk).2)).trans (h.row k r hk).2⟩
set_option maxRecDepth 20000 in
theorem identity_any (n : Nat) (hn : n ≤ 64) (w : World) : Calls Try.prog 14 #[.int .i64 n] w (ZeP (idP n) n w) := by
  have HIR := Lib.hid (inRange_any n hn w)
  have HZ := Lib.hid (zeros_any n n hn (by omega) w)
  have HLN : Hid ((idP n).length = n) := by show _ = _; simp [idP]
  have hnI : (n : Int) ≤ 64 := by omega
  clear hn
  go_enter Try.func14, Try.ntmps14
  go_wp2_with (first
    | (go_at_call 30; (with_reducible refine HIR.out.mono ?_); rintro e w' ⟨rfl, rfl⟩)
    | (go_at_call 31; (with_reducible refine HZ.out.mono ?_); rintro e w1 ⟨he, hz, hb1⟩; rw [List.length_replicate] at he; subst he; (have HZ1 := Lib.hid hz); (have HB1 := Lib.hid hb1); clear hz hb1))
  have HZ2 : Hid (Zer w1 w.heap.size n (fill (unitv n) (List.replicate n 0) (List.range n) 0)) := by show Zer ..; rw [fill_zero, List.length_range]; exact HZ1.out
  clear HZ HZ1 HIR
  go_loopw [13] (fun i wr => ∃ k : Nat, k ≤ n ∧ i = .int .i64 k ∧ Hid (Below w.heap.size w wr) ∧ Hid (Zer wr w.heap.size n (fill (unitv n) (List.replicate n 0) (List.range n) k))) (fun i _ => n - (intOf i).toNat)
  case atStart => exact ⟨0, Nat.zero_le _, rfl, HB1, HZ2⟩
  case round =>
    clear HB1 HZ2
    obtain ⟨k, hk, rfl, HB, HZ⟩ := hrel
    have HFL : Hid ((fill (unitv n) (List.replicate n 0) (List.range n) k).length = n) := by show _ = _; rw [fill_len _ _ _ (by simpa using hk), List.length_range]
    by_cases hlt : k < n
    · have hkI : (k : Int) < (n : Int) := by omega
      have hget := fill_get (unitv n) (List.replicate n 0) (l := List.range n) (i := k) (by simpa using hlt)
      have hc : wr.cell? ⟨w.heap.size, k, none⟩ = some (.slice (some ⟨w.heap.size + 1 + k, 0, none⟩) n n) := by
        have h := HZ.out.outer
        rw [HFL.out] at h
        rw [cell_of_row wr _ _ _ _ _ h, List.getElem?_toArray, List.getElem?_map, List.getElem?_map, List.getElem?_range hlt]
        rfl
      have hrow := (HZ.out.row k _ hget).2
      have HR := Lib.hid hrow
      have HST := Lib.hid (fill_step (unitv n) (List.replicate n 0) (List.getElem?_range hlt))
      have hsz : k < (rowA fN (List.replicate n 0)).size := by rw [rowA_size]; simpa using hlt
      have HU : Hid ((rowA fN (List.replicate n 0)).setIfInBounds k (fN 1) = rowA fN (unitv n k)) := rowA_set fN _ k 1
      clear hget hrow
      go_wp2_with ((with_reducible refine wpList_store_at1 rfl 5 (.tmp 21) _ rfl (w.heap.size + 1 + k) T8 k (rowA fN (List.replicate n 0)) (fN 1) rfl rfl HR.out hsz Try.sizeB rfl ?_); intro W5 HG5 HB5)
      rw [HU.out] at HG5
      go_roundw
      case rel =>
        refine ⟨k + 1, by omega, by go_num, HB5.out.below HB.out HB.out.size (fun i hi => by subst hi; omega), ?_⟩
        have hl2 : (fill (unitv n) (List.replicate n 0) (List.range n) (k + 1)).length = n := by rw [fill_len _ _ _ (by rw [List.length_range]; exact hlt), List.length_range]
        refine ⟨?_, fun j r hj => ?_⟩
        · have h := HZ.out.outer
          rw [HFL.out] at h
          rw [hl2]
          exact (HB5.out.block _ (lt_block h) (by omega)).trans h
        · rw [← HST.out, List.getElem?_set] at hj
          by_cases e : k = j
          · subst e
            rw [if_pos rfl, HFL.out, if_pos hlt] at hj
            injection hj with hj
            subst hj
            exact ⟨by simp [unitv], HG5.out⟩
          · rw [if_neg e] at hj
            obtain ⟨h1, h2⟩ := HZ.out.row j r hj
            exact ⟨h1, (HB5.out.block _ (lt_block h2) (by omega)).trans h2⟩
      case measure => simp [intOf]; omega
    · obtain rfl : k = n := by omega
      have HE : Hid (fill (unitv k) (List.replicate k 0) (List.range k) k = idP k) := by
        have h2 := fill_all (unitv k) (List.replicate k 0) (List.range k)
        rw [List.length_range] at h2
        exact h2
      rw [HE.out] at HZ
      go_wp2_with fail
      go_ret
      exact ⟨by rw [HLN.out]; rfl, HZ.out, HB.out⟩
/-- A matrix of the arguments' kind, all of whose rows have one length. -/
theorem SLL.cell {w : World} {B n : Nat} {A : Option Addr} {m : Mt} (h : SLL fN w B A n m) {k : Nat} (hk : k < n) : ∃ b off a c r, A = some ⟨b, off, none⟩ ∧ m[k]? = some r ∧ w.cell? ⟨b, off + k, none⟩ = some (.slice a r.length c) ∧ Sl fN w B a r.length r := by
  have hl : m.length = n := h.choose_spec.2.1
  obtain ⟨r, hr⟩ := get_ex (xs := m) (k := k) (by omega)
  obtain ⟨b, off, a, c, h1, _, h3, h4⟩ := h.row hr
  exact ⟨b, off, a, c, r, h1, hr, h3, h4⟩
theorem valid_yes (A : Option Addr) (n c B cc : Nat) (m : Mt) (w : World) (hm : SLL fN w B A n m) (hr : ∀ r ∈ m, r.length = cc) (hn : n ≤ 64) (hc : cc ≤ 64) : Calls Try.prog 28 #[.slice A n c] w fun e w' => e = .returned (.bool true) ∧ w = w' := by
  have hq : colsN m ≤ 64 := by
    cases m with
    | nil => exact Nat.zero_le _
    | cons r m => rw [show colsN (r :: m) = r.length from rfl, hr r (List.mem_cons_self ..)]; exact hc
  have HC := Lib.hid (columns_any A n c B m w hm)
  obtain ⟨q, hqe⟩ : ∃ q, colsN m = q := ⟨_, rfl⟩
  rw [hqe] at HC hq
  have hqI : (q : Int) ≤ 64 := by omega
  have hnI : (n : Int) ≤ 64 := by omega
  have h1 : ¬ (64 : Int) < (n : Int) := by omega
  have h2 : ¬ (64 : Int) < (q : Int) := by omega
  have HM := Lib.hid hm
  have HR := Lib.hid hr
  clear hm hr hqe hq
  go_enter Try.func28, Try.ntmps28
  go_wp2_with (go_at_call 33; (with_reducible refine HC.out.mono ?_); rintro e w' ⟨rfl, rfl⟩)
  go_loop [15] (fun i => ∃ k : Nat, k ≤ n ∧ i = .int .i64 k) (fun i => n - (intOf i).toNat)
  case atStart => exact ⟨0, Nat.zero_le _, rfl⟩
  case round =>
    obtain ⟨k, hk, rfl⟩ := hrel
    by_cases hlt : k < n
    · have hkI : (k : Int) < (n : Int) := by omega
      obtain ⟨b, off, a, c1, r, rfl, hrk, hck, _⟩ := HM.out.cell hlt
      obtain ⟨b', off', a0, c0, r0, hA, hr0, hc0, _⟩ := HM.out.cell (k := 0) (by omega)
      injection hA with hA
      injection hA with e1 e2 _
      subst e1 e2
      rw [HR.out r (List.mem_of_getElem? hrk)] at hck
      rw [HR.out r0 (List.mem_of_getElem? hr0)] at hc0
      simp only [Nat.add_zero] at hc0
      have hn0 : (0 : Int) < (n : Int) := by omega
      clear hrk hr0
      go_wp2_with fail
      go_round
      case rel => exact ⟨k + 1, by omega, by go_num⟩
      case measure => simp [intOf]; omega
    · obtain rfl : k = n := by omega
      go_wp2_with fail
      go_ret
      exact ⟨rfl, rfl⟩
end Go.Proofs.Ytpbeaghghlfiaaa
