/- wire.Reader: take, block; readValue for Text and for Sum. -/
import Derived.Test.YtkeicjokekmkpaaGreatMm
import Derived.Test.YtkeicjokekmkpaaGreatMl
import Derived.Laws.ResultCell
namespace Go.Proofs.YtkeicjokekmkpaaGreat
open Go.RowKit
set_option linter.unusedVariables false
set_option linter.unusedSimpArgs false

theorem numF_le (bs : List Int) : ∀ (k acc i p : Nat), p ≤ bs.length → (numF bs k acc i p).2.2 ≤ bs.length
  | 0, _, _, _, h => h
  | k + 1, acc, i, p, h => by
    rw [numF]
    cases hx : bs[p]? with
    | none => exact h
    | some b =>
      have hp := (List.getElem?_eq_some_iff.1 hx).1
      simp only []
      split
      · exact numF_le bs k _ _ _ hp
      · split
        · exact hp
        · exact hp
theorem limF_place (m : Nat) (N : Int × Int × Nat) : (limF m N).2.2 = N.2.2 := by
  unfold limF
  split
  · split <;> rfl
  · rfl
theorem run_slice_lh {P : Program} (t e : Nat) (i : TypeInfo) (ht : P.underlying t = some (.slice e)) (hi : P.info? e = some i) (hs : i.size = 1) (A : Option Addr) (n c : Nat) (l h : Nat) (h1 : l ≤ h) (h2 : h ≤ c) (w : World) :
    (Instr.slice t (.slice A n c) (some (.int .i64 (l : Int))) (some (.int .i64 (h : Int))) none).run P w = .ok (.slice (if c = l then A else A.map (·.add l)) (h - l) (c - l)) w := by
  simp [Instr.slice, run_underlying ht, Instr.sliceBounds, run_sliceBound w .i64 (h : Int) c _ (by omega) (by omega), run_sliceBound w .i64 (l : Int) h _ (by omega) (by omega), sizeOf, typeInfo, hi, hs]
theorem Sl.butg {f : Int → Value} {w w' : World} {g n : Nat} {A : Option Addr} {xs : List Int} (h : Sl f w g A n xs) (hb : But (fun k => k = g) w w') (hg : g ≤ w.heap.size) : Sl f w' g A n xs := ⟨h.1, fun hn => by
  obtain ⟨b, off, e, hlt, hc⟩ := h.2 hn
  exact ⟨b, off, e, hlt, hc.keep (hb.block b (by omega) (by omega))⟩⟩
theorem Sl.part {f : Int → Value} {w : World} {B n c : Nat} {A : Option Addr} {xs : List Int} (h : Sl f w B A n xs) (l k : Nat) (hl : l + k ≤ n) (hc : n ≤ c) : Sl f w B (if c = l then A else A.map (·.add l)) k ((xs.drop l).take k) := by
  have h1 := h.1
  refine ⟨by rw [List.length_take, List.length_drop]; omega, ?_⟩
  exact ((h.2.cut (n := l) (cap := c) (by omega)).take_ k)
set_option maxRecDepth 20000 in
set_option maxHeartbeats 1000000 in
theorem take_any (g : Nat) (A : Option Addr) (n c p k : Nat) (pv er0 : Int) (bs : List Int) (w : World) (hr : Rd w g A n c p pv er0) (hx : Sl fB w g A n bs) (hp : p ≤ n) (hn : n ≤ 1000000) (hk : k ≤ 1000000) (hnc : n ≤ c) :
    Calls Tryz.prog 102 #[.pointer (some ⟨g, 0, none⟩), .int .i64 k] w fun e w' => ∃ A' m c', e = .returned (.tuple #[.slice A' m c', .int .i64 (tkL bs k p).2.1]) ∧ Sl fB w' g A' m (tkL bs k p).1 ∧ Rd w' g A n c (tkL bs k p).2.2 pv er0 ∧ But (fun k => k = g) w w' := by
  have c0 := cell_of_row w g 0 _ _ _ hr
  have c1 := cell_of_row w g 1 _ _ _ hr
  have f1 := frozen_of_row w g 1 _ _ hr
  simp at c0 c1
  have HR := Lib.hid hr
  have HX := Lib.hid hx
  have hlen := hx.1
  clear hr hx
  by_cases hlt : bs.length < p + k
  · have HT : Hid (tkL bs k p = ([], 3, p)) := by show _ = _; unfold tkL; rw [if_pos hlt]
    have hd : decide ((n : Int) - (p : Int) < (k : Int)) = true := by simp; omega
    have hd' : (n : Int) - (p : Int) < (k : Int) := by omega
    rw [HT.out]
    clear hlt
    go_enter Tryz.func102, Tryz.ntmps102
    go_wp2
    go_quiet (fail)
    go_wp2
    go_ret2
    exact ⟨none, 0, 0, rfl, ⟨rfl, SL.nil⟩, HR.out, (But.refl _ _).drewN _⟩
  · have HT : Hid (tkL bs k p = ((bs.drop p).take k, 0, p + k)) := by show _ = _; unfold tkL; rw [if_neg hlt]
    have hd : decide ((n : Int) - (p : Int) < (k : Int)) = false := by simp; omega
    have hd' : ¬ (n : Int) - (p : Int) < (k : Int) := by omega
    obtain ⟨i0, hi, _, hz1, _⟩ := info_parts Tryz.infoB
    have hsl := run_slice_lh (P := Tryz.prog) 43 5 i0 Tryz.underlying43 hi hz1 A n c p (p + k) (by omega) (by omega)
    rw [show ((p + k : Nat) : Int) = (p : Int) + (k : Int) by omega, show p + k - p = k by omega] at hsl
    obtain ⟨A', hA'⟩ : ∃ A', (if c = p then A else A.map (·.add p)) = A' := ⟨_, rfl⟩
    have HP : Hid (Sl fB w g A' k ((bs.drop p).take k)) := hA' ▸ HX.out.part p k (by omega) hnc
    have HRn : Hid (∀ q, Rd ((w.drewN q).setCell ⟨g, 1, none⟩ (.int .i64 ((p : Int) + (k : Int)))) g A n c (p + k) pv er0) := fun q => by
      show _ = _
      rw [show ((p + k : Nat) : Int) = (p : Int) + k by omega]
      exact heap_setCell_same (w.drewN q) _ _ _ _ _ HR.out
    have HBu : Hid (∀ q, But (fun k => k = g) w ((w.drewN q).setCell ⟨g, 1, none⟩ (.int .i64 ((p : Int) + (k : Int))))) := fun q => But.setCell (p := fun k => k = g) (x := ⟨g, 1, none⟩) ((But.refl _ _).drewN q) (.inl rfl) _
    have HGL : Hid (g ≤ w.heap.size) := Nat.le_of_lt (lt_of_block HR.out)
    rw [hA'] at hsl
    rw [HT.out]
    clear hlt hA'
    go_enter Tryz.func102, Tryz.ntmps102
    go_wp2
    go_quiet (fail)
    go_wp2
    go_quiet (fail)
    go_wp2
    go_ret2
    exact ⟨A', k, c - p, rfl, HP.out.butg (HBu.out _) HGL.out, HRn.out _, HBu.out _⟩
set_option maxRecDepth 20000 in
theorem block_any (g : Nat) (A : Option Addr) (n c p m : Nat) (pv er0 : Int) (bs : List Int) (w : World) (hr : Rd w g A n c p pv er0) (hx : Sl fB w g A n bs) (hb : ∀ b ∈ bs, 0 ≤ b ∧ b < 256) (hp : p ≤ n) (hn : n ≤ 1000000) (hm : m ≤ 1000000) (hnc : n ≤ c) :
    Calls Tryz.prog 100 #[.pointer (some ⟨g, 0, none⟩), .int .i64 m] w fun e w' => ∃ A' k c', e = .returned (.tuple #[.slice A' k c', .int .i64 (blkL bs m p).2.1]) ∧ Sl fB w' g A' k (blkL bs m p).1 ∧ Rd w' g A n c (blkL bs m p).2.2 pv er0 ∧ But (fun k => k = g) w w' := by
  have HC := Lib.hid (limited_any g A n c p m pv er0 bs w hr hx hb hp hn hm)
  have HX := Lib.hid hx
  have HGL : Hid (g ≤ w.heap.size) := Nat.le_of_lt (lt_of_block hr)
  have hv0 := numF_nonneg bs 10 0 0 p
  have hlen := hx.1
  have hle : (numF bs 10 0 0 p).2.2 ≤ n := by rw [← hlen]; exact numF_le bs 10 0 0 p (by omega)
  have hpl := limF_place m (numF bs 10 0 0 p)
  have hlv : (limF m (numF bs 10 0 0 p)).2.1 = 0 → 0 ≤ (limF m (numF bs 10 0 0 p)).1 ∧ (limF m (numF bs 10 0 0 p)).1 ≤ m := by
    intro h
    unfold limF at h ⊢
    split
    · next h1 =>
      split
      · next h2 => exact ⟨Int.le_refl _, Int.natCast_nonneg _⟩
      · next h2 => exact ⟨hv0, by omega⟩
    · exact ⟨Int.le_refl _, Int.natCast_nonneg _⟩
  have HB : Hid (blkL bs m p = if (limF m (numF bs 10 0 0 p)).2.1 = 0 then tkL bs (limF m (numF bs 10 0 0 p)).1.toNat (limF m (numF bs 10 0 0 p)).2.2 else ([], (limF m (numF bs 10 0 0 p)).2.1, (limF m (numF bs 10 0 0 p)).2.2)) := rfl
  rw [← hpl] at hle
  obtain ⟨v, er, p', hN⟩ : ∃ v er p', limF m (numF bs 10 0 0 p) = (v, er, p') := ⟨_, _, _, rfl⟩
  rw [hN] at HC HB hle hlv
  simp only at hle hlv
  rw [HB.out]
  clear hr hx hb hN hpl hv0 HB
  by_cases he : er = 0
  · subst he
    obtain ⟨hv0, hvm⟩ := hlv rfl
    obtain ⟨k, rfl⟩ : ∃ k : Nat, v = k := ⟨v.toNat, by omega⟩
    simp only [if_true, Int.toNat_natCast]
    go_enter Tryz.func100, Tryz.ntmps100
    go_wp2_with fail
    refine HC.out.mono ?_
    rintro e w1 ⟨rfl, h1, h2⟩
    have HK := Lib.hid (take_any g A n c p' k pv er0 bs w1 h1 (HX.out.butg h2 HGL.out) hle hn (by omega) hnc)
    have H2 := Lib.hid h2
    clear h1 h2
    go_wp2_with fail
    refine HK.out.mono ?_
    rintro e w2 ⟨A', j, c', rfl, k1, k2, k3⟩
    have K1 := Lib.hid k1
    have K2 := Lib.hid k2
    have K3 := Lib.hid k3
    clear k1 k2 k3
    go_wp2_with fail
    go_ret2
    exact ⟨A', j, c', rfl, K1.out, K2.out, H2.out.trans K3.out (fun i hi => .inl hi)⟩
  · have heb : (er != 0) = true := by simp [he]
    simp only [he, if_false]
    go_enter Tryz.func100, Tryz.ntmps100
    go_wp2_with fail
    refine HC.out.mono ?_
    rintro e w1 ⟨rfl, h1, h2⟩
    have H1 := Lib.hid h1
    have H2 := Lib.hid h2
    clear h1 h2
    go_wp2_with fail
    go_ret2
    exact ⟨none, 0, 0, rfl, ⟨rfl, SL.nil⟩, H1.out, H2.out⟩
set_option maxRecDepth 20000 in
theorem textc_any (a b g : Nat) (A : Option Addr) (n c p m : Nat) (pv er0 : Int) (bs : List Int) (w : World) (ha : w.heap[a]? = some (.cells #[.pointer (some ⟨g, 0, none⟩)] 101 (0, 0))) (hbk : w.heap[b]? = some (.cells #[.int .i64 m] 3 (0, 0))) (hr : Rd w g A n c p pv er0) (hx : Sl fB w g A n bs) (hb : ∀ b ∈ bs, 0 ≤ b ∧ b < 256) (hp : p ≤ n) (hn : n ≤ 1000000) (hm : m ≤ 1000000) (hnc : n ≤ c) :
    Calls Tryz.prog 99 #[.pointer (some ⟨a, 0, none⟩), .pointer (some ⟨b, 0, none⟩)] w fun e w' => e = .returned (.tuple #[.string (blkF bs m p).1, .int .i64 (blkF bs m p).2.1]) ∧ Rd w' g A n c (blkF bs m p).2.2 pv er0 ∧ But (fun k => k = g) w w' := by
  have HC := Lib.hid (block_any g A n c p m pv er0 bs w hr hx hb hp hn hm hnc)
  have HB : Hid (blkF bs m p = (baOf (blkL bs m p).1, (blkL bs m p).2)) := rfl
  have ca := cell_of_row w a 0 _ _ _ ha
  have cb := cell_of_row w b 0 _ _ _ hbk
  simp at ca cb
  rw [HB.out]
  obtain ⟨xs, er, p', hN⟩ : ∃ v er p', blkL bs m p = (v, er, p') := ⟨_, _, _, rfl⟩
  rw [hN] at HC ⊢
  clear hr hx hb hN ha hbk HB
  go_enter Tryz.func99, Tryz.ntmps99
  go_wp2_with fail
  refine HC.out.mono ?_
  rintro e w1 ⟨A', k, c', rfl, h0, h1, h2⟩
  obtain ⟨z0, hz0⟩ : ∃ s, s = baOf xs := ⟨_, rfl⟩
  have HZ0 := Lib.hid hz0
  have hcv : (convert 43 9 (.slice A' k c')).run Tryz.prog w1 = .ok (.string z0) w1 := by
    rw [hz0]; exact run_conv_sl (P := Tryz.prog) 43 5 9 Tryz.underlying43 Tryz.underlying5 Tryz.underlying9 w1 _ A' k c' _ h0
  have H1 := Lib.hid h1
  have H2 := Lib.hid h2
  clear h0 h1 h2 hz0
  go_wp2_with fail
  go_ret2
  rw [← HZ0.out]
  exact ⟨rfl, H1.out, H2.out⟩
set_option maxRecDepth 20000 in
theorem sumc_any (a g : Nat) (A : Option Addr) (n c p : Nat) (pv er0 : Int) (bs : List Int) (w : World) (ha : w.heap[a]? = some (.cells #[.pointer (some ⟨g, 0, none⟩)] 101 (0, 0))) (hr : Rd w g A n c p pv er0) (hx : Sl fB w g A n bs) (hb : ∀ b ∈ bs, 0 ≤ b ∧ b < 256) (hp : p ≤ n) (hn : n ≤ 1000000) (hnc : n ≤ c) :
    Calls Tryz.prog 101 #[.pointer (some ⟨a, 0, none⟩)] w fun e w' => e = .returned (.tuple #[.string (tkF bs 32 p).1, .int .i64 (tkF bs 32 p).2.1]) ∧ Rd w' g A n c (tkF bs 32 p).2.2 pv er0 ∧ But (fun k => k = g) w w' := by
  have HC := Lib.hid (take_any g A n c p 32 pv er0 bs w hr hx hp hn (by decide) hnc)
  have HB : Hid (tkF bs 32 p = (baOf (tkL bs 32 p).1, (tkL bs 32 p).2)) := rfl
  have ca := cell_of_row w a 0 _ _ _ ha
  simp at ca
  rw [HB.out]
  obtain ⟨xs, er, p', hN⟩ : ∃ v er p', tkL bs 32 p = (v, er, p') := ⟨_, _, _, rfl⟩
  rw [hN] at HC ⊢
  clear hr hx hb hN ha HB
  go_enter Tryz.func101, Tryz.ntmps101
  go_wp2_with fail
  refine HC.out.mono ?_
  rintro e w1 ⟨A', k, c', rfl, h0, h1, h2⟩
  obtain ⟨z0, hz0⟩ : ∃ s, s = baOf xs := ⟨_, rfl⟩
  have HZ0 := Lib.hid hz0
  have hcv : (convert 43 9 (.slice A' k c')).run Tryz.prog w1 = .ok (.string z0) w1 := by
    rw [hz0]; exact run_conv_sl (P := Tryz.prog) 43 5 9 Tryz.underlying43 Tryz.underlying5 Tryz.underlying9 w1 _ A' k c' _ h0
  have H1 := Lib.hid h1
  have H2 := Lib.hid h2
  clear h0 h1 h2 hz0
  go_wp2_with fail
  go_ret2
  rw [← HZ0.out]
  exact ⟨rfl, H1.out, H2.out⟩
/-- What readValue hands back at strings. -/
def RPs (g : Nat) (A : Option Addr) (n c p : Nat) (v : ByteArray) (er : Int) (p' : Nat) (w : World) (e : Ending) (w' : World) : Prop :=
  e = .returned (.string (if er = 0 then v else baNo)) ∧ Rd w' g A n c (if er = 0 then p' else p) p er ∧ But (fun k => k = g) w w'
set_option maxRecDepth 20000 in
set_option maxHeartbeats 1000000 in
theorem readT (a b m g : Nat) (A : Option Addr) (n c p : Nat) (pv : Int) (bs : List Int) (w : World) (ha : w.heap[a]? = some (.cells #[.pointer (some ⟨g, 0, none⟩)] 101 (0, 0))) (hbk : w.heap[b]? = some (.cells #[.int .i64 m] 3 (0, 0))) (hm : m ≤ 1000000) (hr : Rd w g A n c p pv 0) (hx : Sl fB w g A n bs) (hb : ∀ b ∈ bs, 0 ≤ b ∧ b < 256) (hp : p ≤ n) (hn : n ≤ 1000000) (hnc : n ≤ c) :
    Calls Tryz.prog 98 #[.pointer (some ⟨g, 0, none⟩), .func (.func 99) #[] #[.pointer (some ⟨a, 0, none⟩), .pointer (some ⟨b, 0, none⟩)]] w (RPs g A n c p (blkF bs m p).1 (blkF bs m p).2.1 (blkF bs m p).2.2 w) := by
  have HR := Lib.hid hr
  have hgw : g < w.heap.size := lt_of_block hr
  have hmf : ∀ (fn : Fn) (first cap : Array Value) (w : World), (Instr.makeFunc fn first cap).run Tryz.prog w = .ok (.func fn first cap) w := fun _ _ _ _ => rfl
  have c1 := cell_of_row w g 1 _ _ _ hr
  have c3 := cell_of_row w g 3 _ _ _ hr
  have f3 := frozen_of_row w g 3 _ _ hr
  simp at c1 c3
  obtain ⟨v, er, p', hN⟩ : ∃ v er p', blkF bs m p = (v, er, p') := ⟨_, _, _, rfl⟩
  have cN : Hid (∀ W, Rd W g A n c p pv 0 → Sl fB W g A n bs → W.heap[a]? = some (.cells #[.pointer (some ⟨g, 0, none⟩)] 101 (0, 0)) → W.heap[b]? = some (.cells #[.int .i64 m] 3 (0, 0)) → Calls Tryz.prog 99 #[.pointer (some ⟨a, 0, none⟩), .pointer (some ⟨b, 0, none⟩)] W fun e w' => e = .returned (.tuple #[.string v, .int .i64 er]) ∧ Rd w' g A n c p' pv 0 ∧ But (fun k => k = g) W w') := fun W h1 h2 h3 h4 => by
    have := textc_any a b g A n c p m pv 0 bs W h3 h4 h1 h2 hb hp hn hm hnc
    rw [hN] at this
    exact this
  rw [hN]
  have HX := Lib.hid hx
  have HAA := Lib.hid ha
  have HBB := Lib.hid hbk
  clear hr hx hb hN ha hbk
  go_enter_defers Tryz.func98, Tryz.ntmps98
  go_wp2
  obtain ⟨W3, hW3⟩ : ∃ W3 : World, W3 = ((w.alloc (.cells #[.pointer (some ⟨g, 0, none⟩)] 101)).alloc (.cells #[.string ⟨#[]⟩] 9)).alloc (.cells #[.int .i64 p] 3) := ⟨_, rfl⟩
  rw [← hW3]
  have HB3 : Hid (Below w.heap.size w W3) := by rw [hW3]; exact (((Below.refl _ _).alloc (Nat.le_refl _) _).alloc (by simp) _).alloc (by simp; omega) _
  have hs3 : W3.heap.size = w.heap.size + 1 + 1 + 1 := by rw [hW3]; simp
  have HA3 : Hid (W3.heap[w.heap.size]? = some (.cells #[.pointer (some ⟨g, 0, none⟩)] 101 (0, 0))) := by
    show _ = _
    rw [hW3, Below.heap_alloc _ _ _ (by simp; omega), Below.heap_alloc _ _ _ (by simp)]
    exact heap_alloc_new w _
  have HC3 : Hid (W3.heap[w.heap.size + 1]? = some (.cells #[.string ⟨#[]⟩] 9 (0, 0))) := by
    show _ = _
    rw [hW3, Below.heap_alloc _ _ _ (by simp)]
    have := heap_alloc_new (w.alloc (.cells #[.pointer (some ⟨g, 0, none⟩)] 101)) (.cells #[.string ⟨#[]⟩] 9)
    simpa using this
  have HD3 : Hid (W3.heap[w.heap.size + 1 + 1]? = some (.cells #[.int .i64 p] 3 (0, 0))) := by
    show _ = _
    rw [hW3]
    have := heap_alloc_new ((w.alloc (.cells #[.pointer (some ⟨g, 0, none⟩)] 101)).alloc (.cells #[.string ⟨#[]⟩] 9)) (.cells #[.int .i64 p] 3)
    simpa using this
  have HR3 : Hid (Rd W3 g A n c p pv 0) := (HB3.out.block g hgw).trans HR.out
  have HX3 : Hid (Sl fB W3 g A n bs) := HX.out.up HB3.out (Nat.le_of_lt hgw)
  have HAA3 : Hid (W3.heap[a]? = some (.cells #[.pointer (some ⟨g, 0, none⟩)] 101 (0, 0))) := (HB3.out.block a (lt_of_block HAA.out)).trans HAA.out
  have HBB3 : Hid (W3.heap[b]? = some (.cells #[.int .i64 m] 3 (0, 0))) := (HB3.out.block b (lt_of_block HBB.out)).trans HBB.out
  have cA := cell_of_row W3 w.heap.size 0 _ _ _ HA3.out
  simp at cA
  clear hW3 c1 c3 f3
  have hne1 : ¬ g = w.heap.size := by omega
  have hne2 : ¬ w.heap.size = g := by omega
  have hne3 : ¬ g = w.heap.size + 1 := by omega
  have hne4 : ¬ w.heap.size + 1 = g := by omega
  go_region_held3 (fun w' => w'.cell? ⟨w.heap.size, 0, none⟩ = some (.pointer (some ⟨g, 0, none⟩))) (first | go_keep | exact cA5) (first | (go_at_call 99; (refine (cN.out W3.drew HR3.out HX3.out HAA3.out HBB3.out).mono ?_); (rintro e w5 ⟨rfl, hR5, hb5⟩); (have HR5 := Lib.hid hR5); (have HB5 : Hid (But (fun k => k = g) W3 w5) := ⟨hb5.os, hb5.tape, hb5.output, hb5.size, hb5.block⟩); (have HA5 : Hid (w5.heap[w.heap.size]? = some (.cells #[.pointer (some ⟨g, 0, none⟩)] 101 (0, 0))) := (hb5.block w.heap.size (by show _ < W3.heap.size; omega) (by omega)).trans HA3.out); (have HC5 : Hid (w5.heap[w.heap.size + 1]? = some (.cells #[.string ⟨#[]⟩] 9 (0, 0))) := (hb5.block (w.heap.size + 1) (by show _ < W3.heap.size; omega) (by omega)).trans HC3.out); (have cA5 := cell_of_row w5 w.heap.size 0 _ _ _ HA5.out); (simp at cA5); (have cC5 := cell_of_row w5 (w.heap.size + 1) 0 _ _ _ HC5.out); (have cG5 := cell_of_row w5 g 3 _ _ _ hR5); (simp at cC5 cG5); (have f5r := frozen_of_row w5 (w.heap.size + 1) 0 _ _ HC5.out); (have f5g := frozen_of_row w5 g 3 _ _ hR5); (clear hb5 hR5)))
  go_wp2
  have HD5 : Hid (w5.heap[w.heap.size + 1 + 1]? = some (.cells #[.int .i64 p] 3 (0, 0))) := (HB5.out.block (w.heap.size + 1 + 1) (by omega) (by omega)).trans HD3.out
  obtain ⟨WD, hWD⟩ : ∃ WD : World, WD = ((w5.setCell ⟨w.heap.size + 1, 0, none⟩ (.string v)).setCell ⟨g, 3, none⟩ (.int .i64 er)).setCell ⟨w.heap.size + 1, 0, none⟩ (.string v) := ⟨_, rfl⟩
  rw [← hWD]
  have o1 : ∀ k, k ≠ w.heap.size + 1 → k ≠ g → WD.heap[k]? = w5.heap[k]? := fun k h1 h2 => by
    rw [hWD]
    exact (heap_setCell_other _ _ _ _ h1).trans ((heap_setCell_other _ _ _ _ h2).trans (heap_setCell_other _ _ _ _ h1))
  have HAD : WD.heap[w.heap.size]? = some (.cells #[.pointer (some ⟨g, 0, none⟩)] 101 (0, 0)) := (o1 _ (by omega) (by omega)).trans HA5.out
  have HDD : WD.heap[w.heap.size + 1 + 1]? = some (.cells #[.int .i64 p] 3 (0, 0)) := (o1 _ (by omega) (by omega)).trans HD5.out
  have hR6 : Rd (w5.setCell ⟨w.heap.size + 1, 0, none⟩ (.string v)) g A n c p' pv 0 := (heap_setCell_other _ _ _ _ hne3).trans HR5.out
  have hR7 : Rd ((w5.setCell ⟨w.heap.size + 1, 0, none⟩ (.string v)).setCell ⟨g, 3, none⟩ (.int .i64 er)) g A n c p' pv er := heap_setCell_same _ _ 3 _ _ (.int .i64 er) hR6
  have hR8 : Rd WD g A n c p' pv er := by rw [hWD]; exact (heap_setCell_other _ _ _ _ hne3).trans hR7
  have hC6 : (w5.setCell ⟨w.heap.size + 1, 0, none⟩ (.string v)).heap[w.heap.size + 1]? = some (.cells #[.string v] 9 (0, 0)) := heap_setCell_same _ _ 0 _ _ (.string v) HC5.out
  have hC8 : WD.heap[w.heap.size + 1]? = some (.cells #[.string v] 9 (0, 0)) := by
    rw [hWD]
    exact heap_setCell_same _ _ 0 _ _ (.string v) ((heap_setCell_other _ _ _ _ hne4).trans hC6)
  have HBD : Hid (But (fun k => k = g) w WD) := by
    have h1 : But (fun k => k = g) w w5 := (But.of_below (p := fun k => k = g) HB3.out).trans (q := fun k => k = g) HB5.out (fun i hi => .inl hi)
    rw [hWD]
    exact ((h1.setCell (.inr (by show _ ≤ w.heap.size + 1; omega)) _).setCell (.inl rfl) _).setCell (.inr (by show _ ≤ w.heap.size + 1; omega)) _
  clear hWD
  refine leaves_cons (f := 117) (args := #[.pointer (some ⟨w.heap.size + 1 + 1, 0, none⟩), .pointer (some ⟨w.heap.size, 0, none⟩), .pointer (some ⟨w.heap.size + 1, 0, none⟩)]) (by simp) (by simp [go_sem]) ?_
  refine (closed_S _ _ _ g A n c p' p pv er v _ HDD HAD hC8 hR8 hgw (by omega) (by omega)).mono ?_
  rintro e u' w9 ⟨rfl, rfl, hR9, hC9, hB9⟩
  have hC9' := cell_of_row w9 (w.heap.size + 1) 0 _ _ _ hC9.out
  have hfin : RPs g A n c p v er p' w (.returned (.string (if er = 0 then v else baNo))) w9 := ⟨rfl, hR9.out, HBD.out.trans hB9.out (fun i hi => by rcases hi with rfl | rfl; exact .inl rfl; exact .inr (by omega))⟩
  refine ⟨.string (if er = 0 then v else baNo), ?_, hfin⟩
  obtain ⟨z, hz⟩ : ∃ z : ByteArray, (if er = 0 then v else baNo) = z := ⟨_, rfl⟩
  rw [hz] at hC9' ⊢
  simp at hC9'
  simp [results, go_sem, hC9']
  done
set_option maxRecDepth 20000 in
set_option maxHeartbeats 1000000 in
theorem readSm (a g : Nat) (A : Option Addr) (n c p : Nat) (pv : Int) (bs : List Int) (w : World) (ha : w.heap[a]? = some (.cells #[.pointer (some ⟨g, 0, none⟩)] 101 (0, 0))) (hr : Rd w g A n c p pv 0) (hx : Sl fB w g A n bs) (hb : ∀ b ∈ bs, 0 ≤ b ∧ b < 256) (hp : p ≤ n) (hn : n ≤ 1000000) (hnc : n ≤ c) :
    Calls Tryz.prog 98 #[.pointer (some ⟨g, 0, none⟩), .func (.func 101) #[] #[.pointer (some ⟨a, 0, none⟩)]] w (RPs g A n c p (tkF bs 32 p).1 (tkF bs 32 p).2.1 (tkF bs 32 p).2.2 w) := by
  have HR := Lib.hid hr
  have hgw : g < w.heap.size := lt_of_block hr
  have hmf : ∀ (fn : Fn) (first cap : Array Value) (w : World), (Instr.makeFunc fn first cap).run Tryz.prog w = .ok (.func fn first cap) w := fun _ _ _ _ => rfl
  have c1 := cell_of_row w g 1 _ _ _ hr
  have c3 := cell_of_row w g 3 _ _ _ hr
  have f3 := frozen_of_row w g 3 _ _ hr
  simp at c1 c3
  obtain ⟨v, er, p', hN⟩ : ∃ v er p', tkF bs 32 p = (v, er, p') := ⟨_, _, _, rfl⟩
  have cN : Hid (∀ W, Rd W g A n c p pv 0 → Sl fB W g A n bs → W.heap[a]? = some (.cells #[.pointer (some ⟨g, 0, none⟩)] 101 (0, 0)) → Calls Tryz.prog 101 #[.pointer (some ⟨a, 0, none⟩)] W fun e w' => e = .returned (.tuple #[.string v, .int .i64 er]) ∧ Rd w' g A n c p' pv 0 ∧ But (fun k => k = g) W w') := fun W h1 h2 h3 => by
    have := sumc_any a g A n c p pv 0 bs W h3 h1 h2 hb hp hn hnc
    rw [hN] at this
    exact this
  rw [hN]
  have HX := Lib.hid hx
  have HAA := Lib.hid ha
  clear hr hx hb hN ha
  go_enter_defers Tryz.func98, Tryz.ntmps98
  go_wp2
  obtain ⟨W3, hW3⟩ : ∃ W3 : World, W3 = ((w.alloc (.cells #[.pointer (some ⟨g, 0, none⟩)] 101)).alloc (.cells #[.string ⟨#[]⟩] 9)).alloc (.cells #[.int .i64 p] 3) := ⟨_, rfl⟩
  rw [← hW3]
  have HB3 : Hid (Below w.heap.size w W3) := by rw [hW3]; exact (((Below.refl _ _).alloc (Nat.le_refl _) _).alloc (by simp) _).alloc (by simp; omega) _
  have hs3 : W3.heap.size = w.heap.size + 1 + 1 + 1 := by rw [hW3]; simp
  have HA3 : Hid (W3.heap[w.heap.size]? = some (.cells #[.pointer (some ⟨g, 0, none⟩)] 101 (0, 0))) := by
    show _ = _
    rw [hW3, Below.heap_alloc _ _ _ (by simp; omega), Below.heap_alloc _ _ _ (by simp)]
    exact heap_alloc_new w _
  have HC3 : Hid (W3.heap[w.heap.size + 1]? = some (.cells #[.string ⟨#[]⟩] 9 (0, 0))) := by
    show _ = _
    rw [hW3, Below.heap_alloc _ _ _ (by simp)]
    have := heap_alloc_new (w.alloc (.cells #[.pointer (some ⟨g, 0, none⟩)] 101)) (.cells #[.string ⟨#[]⟩] 9)
    simpa using this
  have HD3 : Hid (W3.heap[w.heap.size + 1 + 1]? = some (.cells #[.int .i64 p] 3 (0, 0))) := by
    show _ = _
    rw [hW3]
    have := heap_alloc_new ((w.alloc (.cells #[.pointer (some ⟨g, 0, none⟩)] 101)).alloc (.cells #[.string ⟨#[]⟩] 9)) (.cells #[.int .i64 p] 3)
    simpa using this
  have HR3 : Hid (Rd W3 g A n c p pv 0) := (HB3.out.block g hgw).trans HR.out
  have HX3 : Hid (Sl fB W3 g A n bs) := HX.out.up HB3.out (Nat.le_of_lt hgw)
  have HAA3 : Hid (W3.heap[a]? = some (.cells #[.pointer (some ⟨g, 0, none⟩)] 101 (0, 0))) := (HB3.out.block a (lt_of_block HAA.out)).trans HAA.out
  have cA := cell_of_row W3 w.heap.size 0 _ _ _ HA3.out
  simp at cA
  clear hW3 c1 c3 f3
  have hne1 : ¬ g = w.heap.size := by omega
  have hne2 : ¬ w.heap.size = g := by omega
  have hne3 : ¬ g = w.heap.size + 1 := by omega
  have hne4 : ¬ w.heap.size + 1 = g := by omega
  go_region_held3 (fun w' => w'.cell? ⟨w.heap.size, 0, none⟩ = some (.pointer (some ⟨g, 0, none⟩))) (first | go_keep | exact cA5) (first | (go_at_call 101; (refine (cN.out W3.drew HR3.out HX3.out HAA3.out).mono ?_); (rintro e w5 ⟨rfl, hR5, hb5⟩); (have HR5 := Lib.hid hR5); (have HB5 : Hid (But (fun k => k = g) W3 w5) := ⟨hb5.os, hb5.tape, hb5.output, hb5.size, hb5.block⟩); (have HA5 : Hid (w5.heap[w.heap.size]? = some (.cells #[.pointer (some ⟨g, 0, none⟩)] 101 (0, 0))) := (hb5.block w.heap.size (by show _ < W3.heap.size; omega) (by omega)).trans HA3.out); (have HC5 : Hid (w5.heap[w.heap.size + 1]? = some (.cells #[.string ⟨#[]⟩] 9 (0, 0))) := (hb5.block (w.heap.size + 1) (by show _ < W3.heap.size; omega) (by omega)).trans HC3.out); (have cA5 := cell_of_row w5 w.heap.size 0 _ _ _ HA5.out); (simp at cA5); (have cC5 := cell_of_row w5 (w.heap.size + 1) 0 _ _ _ HC5.out); (have cG5 := cell_of_row w5 g 3 _ _ _ hR5); (simp at cC5 cG5); (have f5r := frozen_of_row w5 (w.heap.size + 1) 0 _ _ HC5.out); (have f5g := frozen_of_row w5 g 3 _ _ hR5); (clear hb5 hR5)))
  go_wp2
  have HD5 : Hid (w5.heap[w.heap.size + 1 + 1]? = some (.cells #[.int .i64 p] 3 (0, 0))) := (HB5.out.block (w.heap.size + 1 + 1) (by omega) (by omega)).trans HD3.out
  obtain ⟨WD, hWD⟩ : ∃ WD : World, WD = ((w5.setCell ⟨w.heap.size + 1, 0, none⟩ (.string v)).setCell ⟨g, 3, none⟩ (.int .i64 er)).setCell ⟨w.heap.size + 1, 0, none⟩ (.string v) := ⟨_, rfl⟩
  rw [← hWD]
  have o1 : ∀ k, k ≠ w.heap.size + 1 → k ≠ g → WD.heap[k]? = w5.heap[k]? := fun k h1 h2 => by
    rw [hWD]
    exact (heap_setCell_other _ _ _ _ h1).trans ((heap_setCell_other _ _ _ _ h2).trans (heap_setCell_other _ _ _ _ h1))
  have HAD : WD.heap[w.heap.size]? = some (.cells #[.pointer (some ⟨g, 0, none⟩)] 101 (0, 0)) := (o1 _ (by omega) (by omega)).trans HA5.out
  have HDD : WD.heap[w.heap.size + 1 + 1]? = some (.cells #[.int .i64 p] 3 (0, 0)) := (o1 _ (by omega) (by omega)).trans HD5.out
  have hR6 : Rd (w5.setCell ⟨w.heap.size + 1, 0, none⟩ (.string v)) g A n c p' pv 0 := (heap_setCell_other _ _ _ _ hne3).trans HR5.out
  have hR7 : Rd ((w5.setCell ⟨w.heap.size + 1, 0, none⟩ (.string v)).setCell ⟨g, 3, none⟩ (.int .i64 er)) g A n c p' pv er := heap_setCell_same _ _ 3 _ _ (.int .i64 er) hR6
  have hR8 : Rd WD g A n c p' pv er := by rw [hWD]; exact (heap_setCell_other _ _ _ _ hne3).trans hR7
  have hC6 : (w5.setCell ⟨w.heap.size + 1, 0, none⟩ (.string v)).heap[w.heap.size + 1]? = some (.cells #[.string v] 9 (0, 0)) := heap_setCell_same _ _ 0 _ _ (.string v) HC5.out
  have hC8 : WD.heap[w.heap.size + 1]? = some (.cells #[.string v] 9 (0, 0)) := by
    rw [hWD]
    exact heap_setCell_same _ _ 0 _ _ (.string v) ((heap_setCell_other _ _ _ _ hne4).trans hC6)
  have HBD : Hid (But (fun k => k = g) w WD) := by
    have h1 : But (fun k => k = g) w w5 := (But.of_below (p := fun k => k = g) HB3.out).trans (q := fun k => k = g) HB5.out (fun i hi => .inl hi)
    rw [hWD]
    exact ((h1.setCell (.inr (by show _ ≤ w.heap.size + 1; omega)) _).setCell (.inl rfl) _).setCell (.inr (by show _ ≤ w.heap.size + 1; omega)) _
  clear hWD
  refine leaves_cons (f := 117) (args := #[.pointer (some ⟨w.heap.size + 1 + 1, 0, none⟩), .pointer (some ⟨w.heap.size, 0, none⟩), .pointer (some ⟨w.heap.size + 1, 0, none⟩)]) (by simp) (by simp [go_sem]) ?_
  refine (closed_S _ _ _ g A n c p' p pv er v _ HDD HAD hC8 hR8 hgw (by omega) (by omega)).mono ?_
  rintro e u' w9 ⟨rfl, rfl, hR9, hC9, hB9⟩
  have hC9' := cell_of_row w9 (w.heap.size + 1) 0 _ _ _ hC9.out
  have hfin : RPs g A n c p v er p' w (.returned (.string (if er = 0 then v else baNo))) w9 := ⟨rfl, hR9.out, HBD.out.trans hB9.out (fun i hi => by rcases hi with rfl | rfl; exact .inl rfl; exact .inr (by omega))⟩
  refine ⟨.string (if er = 0 then v else baNo), ?_, hfin⟩
  obtain ⟨z, hz⟩ : ∃ z : ByteArray, (if er = 0 then v else baNo) = z := ⟨_, rfl⟩
  rw [hz] at hC9' ⊢
  simp at hC9'
  simp [results, go_sem, hC9']
  done
end Go.Proofs.YtkeicjokekmkpaaGreat
