/- Bytes as strings, compared; predict. -/
import Derived.Test.YtpbeaghghlfiaaaC2
import Derived.Laws.BytesArg
namespace Go.Proofs.Ytpbeaghghlfiaaa
open Go.RowKit Go.Lib
set_option linter.unusedVariables false
set_option linter.unusedSimpArgs false
/-- The string of a row. -/
def bsN (xs : List Nat) : ByteArray := strOfNums (xs.map fun x : Nat => (x : Int))
theorem bsN_inj {xs ys : List Nat} (hx : Bys xs) (hy : Bys ys) (h : bsN xs = bsN ys) : xs = ys := by
  have h1 : (bsN xs).data.toList = (bsN ys).data.toList := by rw [h]
  have h2 : ∀ {zs : List Nat}, Bys zs → (bsN zs).data.toList.map (fun b => b.toNat) = zs := fun {zs} hz => by
    unfold bsN
    rw [strOfNums_data, List.map_map, List.map_map]
    conv => rhs; rw [← List.map_id zs]
    refine List.map_congr_left fun z hzz => ?_
    have := hz z hzz
    show (UInt8.ofNat ((z : Int)).toNat).toNat = z
    rw [UInt8.toNat_ofNat', Int.toNat_natCast]
    omega
  rw [← h2 hx, ← h2 hy, h1]
theorem run_convN {w : World} {B : Nat} {A : Option Addr} {n c : Nat} {xs : List Nat} (h : Sl fN w B A n xs) : (convert 30 9 (.slice A n c)).run Try.prog w = .ok (.string (bsN xs)) w := by
  obtain ⟨rfl, h⟩ := h
  have hl : (xs.map fun x : Nat => (x : Int)).length = xs.length := List.length_map ..
  cases xs with
  | nil =>
    cases A with
    | none => exact run_convert_bytes_nil w 30 T8 Try.underlying30 Try.underlying5 _ c 9 Try.underlying9
    | some ad =>
      rw [run_convert_bytes_string w 30 9 T8 _ _ c Try.underlying30 Try.underlying5 Try.underlying9]
      simp [Conv.bytesToString, strOfNums, loadCells, loadCellsFrom]
      rfl
  | cons x l =>
    obtain ⟨b, off, rfl, _, hc⟩ := h (by simp)
    exact run_convert_bytes_arg w 30 T8 Try.underlying30 Try.underlying5 b off _ c ((x :: l).map fun x : Nat => (x : Int)) hl (fun i hi => by
      obtain ⟨z, hz⟩ := get_ex (xs := x :: l) (k := i) hi
      rw [hc i z hz, getD_of (by rw [List.getElem?_map, hz]; rfl)]) 9 Try.underlying9
theorem equal_any (A1 A2 : Option Addr) (n1 n2 c1 c2 B : Nat) (xs ys : List Nat) (w : World) (h1 : Sl fN w B A1 n1 xs) (h2 : Sl fN w B A2 n2 ys) (hx : Bys xs) (hy : Bys ys) :
    Calls Try.prog 42 #[.slice A1 n1 c1, .slice A2 n2 c2] w fun e w' => e = .returned (.bool (decide (xs = ys))) ∧ w = w' := by
  have k1 := run_convN (c := c1) h1
  have k2 := run_convN (c := c2) h2
  by_cases h : xs = ys
  · subst h
    have H : Hid (decide (xs = xs) = true) := decide_eq_true rfl
    clear h1 h2 hx hy
    obtain ⟨s, hs⟩ : ∃ s, bsN xs = s := ⟨_, rfl⟩
    rw [hs] at k1 k2
    clear hs
    rw [H.out]
    clear H
    go_enter Try.func42, Try.ntmps42
    go_wp2_with fail
    go_ret
    exact ⟨rfl, rfl⟩
  · have hne : bsN xs ≠ bsN ys := fun e => h (bsN_inj hx hy e)
    obtain ⟨s, hs⟩ : ∃ s, bsN xs = s := ⟨_, rfl⟩
    obtain ⟨t, ht⟩ : ∃ t, bsN ys = t := ⟨_, rfl⟩
    rw [hs] at k1
    rw [ht] at k2
    rw [hs, ht] at hne
    have q1 : ¬ s.toList = t.toList := fun e => hne (by rw [ByteArray.toList_eq, ByteArray.toList_eq] at e; exact ByteArray.ext (Array.toList_inj.1 e))
    have q2 : (s.toList == t.toList) = false := by simpa using q1
    have q3 : decide (s.toList = t.toList) = false := by simpa using q1
    rw [show decide (xs = ys) = false from decide_eq_false h]
    clear h1 h2 hx hy h hs ht hne
    go_enter Try.func42, Try.ntmps42
    go_wp2_with fail
    go_ret
    exact ⟨rfl, rfl⟩
/-- One row is handed back. -/
def RwP (r : List Nat) (n : Nat) (w : World) (e : Ending) (w' : World) : Prop := ∃ A c, e = .returned (.slice A n c) ∧ Sl fN w' w'.heap.size A n r ∧ Below w.heap.size w w'
set_option maxRecDepth 100000 in
set_option maxHeartbeats 4000000 in
theorem predict_any (A1 A2 : Option Addr) (n c d c2 len B : Nat) (m : Mt) (f : List Nat) (w : World) (hm : SLL fN w B A1 n m) (hf : Sl fN w B A2 d f) (hB : B ≤ w.heap.size) (hok : MtOk len m) (hfb : Bys f) (hd0 : 0 < d) (hdn : d ≤ n) (hnc : n ≤ c) (hn : n ≤ 64) (hl : len ≤ 65536) :
    Calls Try.prog 41 #[.slice A1 n c, .slice A2 d c2] w (RwP (predP len m f) len w) := by
  have hfl := hf.1
  have hpe : predP len m f = comb len f (m.take d) := by unfold predP; rw [hfl]
  obtain ⟨W1, hW1⟩ : ∃ W, W = w.alloc (.cells #[.slice A2 d c2] TR) := ⟨_, rfl⟩
  have hb1 : Below w.heap.size w W1 := by rw [hW1]; exact (Below.refl _ _).alloc (Nat.le_refl _) _
  have hg1 : W1.heap[w.heap.size]? = some (.cells (rowA fS [⟨A2, d, c2⟩]) TR (0, 0)) := by rw [hW1]; exact heap_alloc_new w _
  have hs1 : SLL fN W1 W1.heap.size (some ⟨w.heap.size, 0, none⟩) 1 [f] := by
    refine ⟨[⟨A2, d, c2⟩], ⟨rfl, SL.of_block hg1 (lt_block hg1)⟩, rfl, fun k hd r q1 q2 => ?_⟩
    have hk : k = 0 := by have := (List.getElem?_eq_some_iff.1 q1).1; simpa using this
    subst hk
    obtain rfl : (⟨A2, d, c2⟩ : Hd) = hd := by simpa using q1
    obtain rfl : f = r := by simpa using q2
    exact (hf.up hb1 hB).more' (Nat.le_trans hB hb1.size)
  have hmt : MtOk len (m.take d) := fun r hr => hok r (List.mem_of_mem_take hr)
  have HAP := Lib.hid (apply_any (some ⟨w.heap.size, 0, none⟩) A1 1 1 d c len W1.heap.size [f] (m.take d) W1 hs1 (((hm.up hb1 hB).more (Nat.le_trans hB hb1.size)).take_ hdn) (Nat.le_refl _) (fun r hr => by obtain rfl : r = f := (by simpa using hr); exact ⟨hfl, hfb⟩) hmt (by omega) (by omega) hd0 (by omega) hl)
  have HML : Hid ((mulP len [f] (m.take d)).length = 1) := rfl
  have HM0 : Hid ((mulP len [f] (m.take d))[0]? = some (comb len f (m.take d))) := rfl
  have HCL : Hid ((comb len f (m.take d)).length = len) := comb_len _ (fun b hb => (hmt b hb).1)
  have HWE := Lib.hid hW1
  have HB1 := Lib.hid hb1
  have hd0I : (0 : Int) ≤ (d : Int) := by omega
  have hdcI : (d : Int) ≤ (c : Int) := by omega
  obtain ⟨j0, hj, _, _, _⟩ := info_parts Try.infoBR
  have hsl : ∀ w, (Instr.slice 22 (.slice A1 n c) none (some (.int .i64 (d : Int))) none).run Try.prog w = .ok (.slice A1 d c) w := fun w => run_slice_to 22 TR j0 Try.underlying22 hj A1 n c .i64 (d : Int) d rfl (by omega) w
  rw [hpe]
  clear hm hf hB hok hfb hd0 hdn hnc hn hl hfl hpe hW1 hb1 hg1 hs1 hmt hj
  go_enter Try.func41, Try.ntmps41
  go_wp2_with (go_at_call 18; rw [← HWE.out]; (with_reducible refine HAP.out.mono ?_); rintro e w2 ⟨g, hs, he, hg, hm2, hb2⟩; rw [HML.out] at he; subst he; (obtain ⟨a, rn, rc, r, hh, hr, hc, hx⟩ := hm2.at_ (k := 0) (by rw [HML.out]; exact Nat.one_pos)); rw [HM0.out] at hr; injection hr with hr; subst hr; (obtain rfl : len = rn := HCL.out.symm.trans hx.2.1); (have HX := Lib.hid hx.sl); (have HB2 : Hid (Below w.heap.size w w2) := HB1.out.trans (hb2.mono HB1.out.size)); clear hg hm2 hb2 hh hx)
  go_ret
  exact ⟨a, rc, rfl, HX.out, HB2.out⟩
end Go.Proofs.Ytpbeaghghlfiaaa
