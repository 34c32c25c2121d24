/- matrix: the small functions; a new matrix. -/
import Derived.Test.YtpbeaghghlfiaaaA5
import Derived.Test.YtpbeaghghlfiaaaP8
import Derived.Test.YtpbeaghghlfiaaaZr
namespace Go.Proofs.Ytpbeaghghlfiaaa
open Go.RowKit Go.Lib
set_option linter.unusedVariables false
set_option linter.unusedSimpArgs false
theorem Try.sizeR : (Try.prog.info? 30).map (·.size) = some 1 := by kernel_rfl
theorem inRange_any (n : Nat) (hn : n ≤ 64) (w : World) : Calls Try.prog 30 #[.int .i64 n] w fun e w' => e = .returned (.bool true) ∧ w = w' := by
  have h : (n : Int) ≤ 64 := by omega
  go_enter Try.func30, Try.ntmps30
  go_wp2
  go_ret
  exact ⟨rfl, rfl⟩
/-- The number of columns. -/
def colsN (m : Mt) : Nat := match m with | [] => 0 | r :: _ => r.length
theorem columns_any (A : Option Addr) (n c B : Nat) (m : Mt) (w : World) (hm : SLL fN w B A n m) : Calls Try.prog 33 #[.slice A n c] w fun e w' => e = .returned (.int .i64 (colsN m)) ∧ w = w' := by
  have hl : m.length = n := hm.choose_spec.2.1
  cases m with
  | nil =>
    obtain rfl : n = 0 := hl.symm
    go_enter Try.func33, Try.ntmps33
    go_wp2
    go_ret
    exact ⟨rfl, rfl⟩
  | cons r m =>
    obtain ⟨b, off, a, cc, rfl, _, hc, _⟩ := hm.row (k := 0) (r := r) rfl
    obtain ⟨k, rfl⟩ : ∃ k, n = k + 1 := ⟨m.length, hl.symm⟩
    have h0 : ((k + 1 : Nat) : Int) ≠ 0 := by omega
    have h1 : (((k + 1 : Nat) : Int) == 0) = false := by simp; omega
    have h2 : (0 : Int) < ((k + 1 : Nat) : Int) := by omega
    simp only [Nat.add_zero] at hc
    clear hm hl
    go_enter Try.func33, Try.ntmps33
    go_wp2
    go_ret
    exact ⟨rfl, rfl⟩
/-- The heads of a new matrix. -/
def zHd (g cols k : Nat) : Hd := ⟨some ⟨g + 1 + k, 0, none⟩, cols, cols⟩
/-- A new matrix: its rows lie in the blocks behind. -/
structure Zer (w : World) (g cols : Nat) (m : Mt) : Prop where
  outer : w.heap[g]? = some (.cells (rowA fS ((List.range m.length).map (zHd g cols))) TR (0, 0))
  row : ∀ (k : Nat) r, m[k]? = some r → r.length = cols ∧ w.heap[g + 1 + k]? = some (.cells (rowA fN r) T8 (0, 0))
theorem Zer.mat {w : World} {g cols : Nat} {m : Mt} (h : Zer w g cols m) : Mat w g ((List.range m.length).map (zHd g cols)) m where
  cells := ⟨_, h.outer, fun k hd hk => by rw [List.getElem?_toArray, List.getElem?_map, hk]; rfl⟩
  len := by simp
  rows := fun k hd r h1 h2 => by
    have hk := (List.getElem?_eq_some_iff.1 h2).1
    rw [List.getElem?_map, List.getElem?_range hk] at h1
    injection h1 with h1
    subst h1
    obtain ⟨h3, h4⟩ := h.row k r h2
    exact ⟨Nat.le_refl _, h3, fun _ => ⟨g + 1 + k, 0, _, _, rfl, h4, At.of_block h4⟩⟩
def ZeP (m : Mt) (cols : Nat) (w : World) (e : Ending) (w' : World) : Prop := e = .returned (.slice (some ⟨w.heap.size, 0, none⟩) m.length m.length) ∧ Zer w' w.heap.size cols m ∧ Below w.heap.size w w'
theorem replicate_hd (n : Nat) : Array.replicate n (Value.slice none 0 0) = rowA fS (List.replicate n ⟨none, 0, 0⟩) := by simp [rowA, fS]
set_option maxRecDepth 20000 in
theorem zeros_any (n cols : Nat) (hn : n ≤ 64) (hc : cols ≤ 65536) (w : World) : Calls Try.prog 31 #[.int .i64 n, .int .i64 cols] w (ZeP (List.replicate n (List.replicate cols 0)) cols w) := by
  have hmk := run_makeR n (by omega) w
  have HMB : Hid (∀ w, (Instr.makeSlice 30 (.int .i64 (cols : Int)) (.int .i64 (cols : Int))).run Try.prog w = .ok (.slice (some ⟨w.heap.size, 0, none⟩) cols cols) (w.alloc (.cells (Array.replicate cols (.int .u8 0)) T8))) := fun w => run_makeB cols (by omega) w
  have hnI : (n : Int) ≤ 64 := by omega
  have hcI : (cols : Int) ≤ 65536 := by omega
  obtain ⟨W1, hW1⟩ : ∃ W, W = w.alloc (.cells (Array.replicate n (Value.slice none 0 0)) TR) := ⟨_, rfl⟩
  have hg1 : W1.heap[w.heap.size]? = some (.cells (rowA fS (fill (zHd w.heap.size cols) ⟨none, 0, 0⟩ (List.range n) 0)) TR (0, 0)) := by
    rw [hW1, fill_zero, List.length_range, ← replicate_hd]; exact heap_alloc_new w _
  have HG1 := Lib.hid hg1
  have HB1 : Hid (Below w.heap.size w W1) := by show Below ..; rw [hW1]; exact (Below.refl _ _).alloc (Nat.le_refl _) _
  have HS1 : Hid (W1.heap.size = w.heap.size + 1 + 0) := by show _ = _; rw [hW1]; simp
  have HR1 : Hid (∀ k, k < 0 → W1.heap[w.heap.size + 1 + k]? = some (.cells (rowA fN (List.replicate cols 0)) T8 (0, 0))) := fun k hk => absurd hk (by omega)
  have HWE := Lib.hid hW1
  clear hg1 hW1
  go_enter Try.func31, Try.ntmps31
  go_upto_region 2 with fail
  rw [← HWE.out]
  clear hmk HWE
  go_wp2_with fail
  go_loopw [11] (fun i wr => ∃ k : Nat, k ≤ n ∧ i = .int .i64 k ∧ Hid (Below w.heap.size w wr) ∧ Hid (wr.heap.size = w.heap.size + 1 + k) ∧ Hid (wr.heap[w.heap.size]? = some (.cells (rowA fS (fill (zHd w.heap.size cols) ⟨none, 0, 0⟩ (List.range n) k)) TR (0, 0))) ∧ Hid (∀ j, j < k → wr.heap[w.heap.size + 1 + j]? = some (.cells (rowA fN (List.replicate cols 0)) T8 (0, 0)))) (fun i _ => n - (intOf i).toNat)
  case atStart => exact ⟨0, Nat.zero_le _, rfl, HB1, HS1, HG1, HR1⟩
  case round =>
    clear HB1 HS1 HG1 HR1
    obtain ⟨k, hk, rfl, HB, HS, HG, HR⟩ := hrel
    by_cases hlt : k < n
    · have hkI : (k : Int) < (n : Int) := by omega
      have hmb := HMB.out wr
      obtain ⟨W2, hW2⟩ : ∃ W, W = wr.alloc (.cells (Array.replicate cols (Value.int .u8 0)) T8) := ⟨_, rfl⟩
      have hg2 : W2.heap[wr.heap.size]? = some (.cells (rowA fN (List.replicate cols 0)) T8 (0, 0)) := by rw [hW2, ← rowA_zero]; exact heap_alloc_new wr _
      have hb2 : Below wr.heap.size wr W2 := by rw [hW2]; exact (Below.refl _ _).alloc (Nat.le_refl _) _
      have hs2 : W2.heap.size = wr.heap.size + 1 := by rw [hW2]; simp
      rw [← hW2] at hmb
      rw [HS.out] at hmb hg2 hs2
      have HGk : Hid (W2.heap[w.heap.size]? = some (.cells (rowA fS (fill (zHd w.heap.size cols) ⟨none, 0, 0⟩ (List.range n) k)) TR (0, 0))) := (hb2.block _ (lt_block HG.out)).trans HG.out
      have hsz : k < (rowA fS (fill (zHd w.heap.size cols) ⟨none, 0, 0⟩ (List.range n) k)).size := by rw [rowA_size, fill_len _ _ _ (by simpa using hk)]; simpa using hlt
      have HST := Lib.hid (fill_step (zHd w.heap.size cols) ⟨none, 0, 0⟩ (List.getElem?_range hlt))
      have HG2 := Lib.hid hg2
      have HB2 := Lib.hid hb2
      have HS2 := Lib.hid hs2
      clear hg2 hb2 hs2 hW2
      go_wp2_with ((with_reducible refine wpList_store_at1s rfl 30 (.tmp 18) (.tmp 17) rfl w.heap.size TR k (rowA fS (fill (zHd w.heap.size cols) ⟨none, 0, 0⟩ (List.range n) k)) (fS (zHd w.heap.size cols k)) rfl rfl HGk.out hsz Try.sizeR rfl ?_); intro W5 HG5 HB5 HS5)
      rw [rowA_set, HST.out] at HG5
      have HB2w : Hid (Below w.heap.size w W2) := HB.out.trans (HB2.out.mono HB.out.size)
      go_roundw
      case rel =>
        refine ⟨k + 1, by omega, by go_num, HB5.out.below HB2w.out HB2w.out.size (fun i hi => by subst hi; exact Nat.le_refl _), ?_, HG5, ?_⟩
        · show W5.heap.size = _
          rw [HS5.out, HS2.out]; omega
        · intro j hj
          have hne : w.heap.size + 1 + j ≠ w.heap.size := by omega
          refine (HB5.out.block _ (by rw [HS2.out]; omega) hne).trans ?_
          by_cases e : j = k
          · subst e; exact HG2.out
          · exact (HB2.out.block _ (by rw [HS.out]; omega)).trans (HR.out j (by omega))
      case measure => simp [intOf]; omega
    · obtain rfl : k = n := by omega
      go_wp2_with fail
      go_ret
      refine ⟨by rw [List.length_replicate]; rfl, ⟨?_, fun j r hj => ?_⟩, HB.out⟩
      · have h := HG.out
        have h2 := fill_all (zHd w.heap.size cols) ⟨none, 0, 0⟩ (List.range k)
        rw [List.length_range] at h2
        rw [h2] at h
        rw [List.length_replicate]
        exact h
      · obtain ⟨h1, h2⟩ := List.getElem?_eq_some_iff.1 hj
        rw [List.getElem_replicate] at h2
        subst h2
        exact ⟨by simp, HR.out j (by simpa using h1)⟩
end Go.Proofs.Ytpbeaghghlfiaaa
