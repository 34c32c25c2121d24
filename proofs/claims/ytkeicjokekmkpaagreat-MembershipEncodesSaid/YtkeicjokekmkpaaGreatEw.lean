/- writeInts, writeMember, writeVault. -/
import Derived.Test.YtkeicjokekmkpaaGreatMl
import Derived.Test.YtkeicjokekmkpaaGreatMb
import Derived.Test.YtkeicjokekmkpaaGreatWt
namespace Go.Proofs.YtkeicjokekmkpaaGreat
open Go.RowKit Mb
set_option linter.unusedVariables false
set_option linter.unusedSimpArgs false

set_option maxRecDepth 20000 in
set_option maxHeartbeats 1000000 in
theorem wints_any (g base : Nat) (v : Value) (bs : List Int) (A : Option Addr) (n c : Nat) (xs : List Int) (w : World) (hw : Wr w g base v bs) (hx : Sl I w w.heap.size A n xs) (hA : ∀ a, A = some a → ¬ foot g v a.block) (hok : ∀ x ∈ xs, nOk x) (hn : n ≤ 1000) (hlen : bs.length ≤ 1000000) :
    Calls Tryz.prog 31 #[.pointer (some ⟨g, 0, none⟩), .slice A n c] w (WPost g base v (bs ++ encL xs) w) := by
  have HW := Lib.hid hw
  have HX := Lib.hid hx
  have HA := Lib.hid hA
  have HOK := Lib.hid hok
  have HLN : Hid (xs.length = n) := hx.1
  clear hw hx hA hok
  go_enter Tryz.func31, Tryz.ntmps31
  go_wp2
  go_loopw [8] (fun i wr => ∃ k : Nat, k ≤ n ∧ i = .int .i64 k ∧ Hid (Wc g base v w (bs ++ encL (xs.take k)) wr)) (fun i _ => n - (intOf i).toNat)
  case atStart => exact ⟨0, Nat.zero_le _, rfl, by show Wc _ _ _ _ _ _; rw [List.take_zero]; simp only [encL, List.flatMap_nil, List.append_nil]; exact Wc.start HW.out⟩
  case round =>
    obtain ⟨k, hk, rfl, HK⟩ := hrel
    by_cases hlt : k < n
    · have hx1 : SL I wr w.heap.size A xs := by
        obtain ⟨v1, h1, h2, h3⟩ := HK.out
        exact SL.but HX.out.2 h2 (Nat.le_refl _) HA.out
      obtain ⟨b, off, x, rfl, hbB, hxk, hc⟩ := SL.at_ hx1 (k := k) (by rw [HLN.out]; exact hlt)
      obtain ⟨x0, x1⟩ := HOK.out x (List.mem_of_getElem? hxk)
      obtain ⟨m, rfl⟩ : ∃ m : Nat, x = m := ⟨x.toNat, by omega⟩
      have hm : m < 18446744073709551616 := by omega
      have HT : Hid ((bs ++ encL (xs.take k)) ++ enc m = bs ++ encL (xs.take (k + 1))) := by
        show _ = _
        rw [take_snoc hxk, encL_snoc, Int.toNat_natCast, List.append_assoc]
      have hbl : (bs ++ encL (xs.take k)).length ≤ 1099511627776 := by
        have h1 := encL_len (xs.take k)
        rw [List.length_take] at h1
        rw [List.length_append]
        omega
      have HC := Lib.hid (HK.out.step (P := Tryz.prog) (fun v' hv' _ => wuint_any g base v' _ m wr hv' hm hbl))
      clear hx1 hxk x0 x1 hbl
      go_wp2_with fail
      refine HC.out.mono ?_
      rintro e w2 ⟨rfl, h2⟩
      rw [HT.out] at h2
      have H2 := Lib.hid h2
      clear h2
      go_wp2
      go_roundw
      case rel => exact ⟨k + 1, by omega, by go_num, H2⟩
      case measure => simp [intOf]; omega
    · obtain rfl : k = n := by omega
      go_wp2
      go_end0
      have h := HK.out
      rw [List.take_of_length_le (by have := HLN.out; omega)] at h
      exact h.post
theorem wints_some (g base : Nat) (v : Value) (bs : List Int) (A : Option Addr) (n c : Nat) (xs : List Int) (w : World) (hw : Wr w g base v bs) (hx : Sl I w w.heap.size A n xs) (hA : ∀ a, A = some a → 0 < xs.length → ¬ foot g v a.block) (hok : ∀ x ∈ xs, nOk x) (hn : n ≤ 1000) (hlen : bs.length ≤ 1000000) :
    Calls Tryz.prog 31 #[.pointer (some ⟨g, 0, none⟩), .slice A n c] w (WPost g base v (bs ++ encL xs) w) := by
  rcases Nat.eq_zero_or_pos xs.length with h0 | h0
  · have hn0 : n = 0 := by rw [← hx.1]; exact h0
    obtain rfl : xs = [] := List.eq_nil_of_length_eq_zero h0
    subst hn0
    go_enter Tryz.func31, Tryz.ntmps31
    go_wp2
    go_loopw [8] (fun i wr => i = .int .i64 0 ∧ wr = w) (fun _ _ => 0)
    case atStart => exact ⟨rfl, rfl⟩
    case round =>
      obtain ⟨rfl, rfl⟩ := hrel
      go_wp2
      go_end0
      exact (show Wc g base v wr (bs ++ encL []) wr by simp only [encL, List.flatMap_nil, List.append_nil]; exact Wc.start hw).post
  · exact wints_any g base v bs A n c xs w hw hx (fun a ha => hA a ha h0) hok hn hlen
/-- Numbers that were laid just now. -/
theorem Wc.ints {g base : Nat} {v : Value} {w0 w : World} {bs : List Int} (h : Wc g base v w0 bs w) (xs : List Int) (t : TypeId) (c n : Nat) (hn : xs.length = n) (hok : ∀ x ∈ xs, nOk x) (hl : n ≤ 1000) (hlen : bs.length ≤ 1000000) :
    Calls Tryz.prog 31 #[.pointer (some ⟨g, 0, none⟩), .slice (some ⟨w.heap.size, 0, none⟩) n c] (w.alloc (.cells (xs.map I).toArray t)) fun e w' => e = .returned (.tuple #[]) ∧ Wc g base v w0 (bs ++ encL xs) w' :=
  h.stepA _ fun v' hv' hf => wints_any g base v' bs _ n c xs _ hv' ⟨hn, SL.of_block (t := t) (fr := (0, 0)) (heap_alloc_new w _) (by simp)⟩ (fun a ha => by cases ha; exact hf) hok hl hlen
theorem fivem_of {w : World} {k : Nat} {m : Mem} (h : w.heap[k]? = some (.cells (fM m).toArray 40 (0, 0))) : w.cell? ⟨k, 1, none⟩ = some (.string m.name) ∧ w.cell? ⟨k, 2, none⟩ = some (.string m.pub) ∧ w.cell? ⟨k, 3, none⟩ = some (.int .i64 m.quota) := by
  refine ⟨?_, ?_, ?_⟩ <;> (rw [cell_of_row w k _ _ _ _ h]; rfl)
/-- A block was laid before the writer's first call. -/
theorem Wc.behind {g base : Nat} {v : Value} {w0 w : World} {bs : List Int} {o : Obj} (h : Wc g base v (w0.alloc o) bs w) : Wc g base v w0 bs w := by
  obtain ⟨v1, h1, h2, h3⟩ := h
  refine ⟨v1, h1, ((But.refl _ w0).alloc o).trans h2 (fun i hi => .inl hi), ?_⟩
  rcases h3 with h | ⟨k, h, hk⟩
  · exact .inl h
  · exact .inr ⟨k, h, Nat.le_trans (by simp) hk⟩
set_option maxRecDepth 20000 in
set_option maxHeartbeats 1000000 in
theorem wmem_any (g base : Nat) (v : Value) (bs : List Int) (m : Mem) (w : World) (hw : Wr w g base v bs) (hm : mOk m) (hlen : bs.length ≤ 990000) :
    Calls Tryz.prog 29 #[.pointer (some ⟨g, 0, none⟩), aM m] w (WPost g base v (bs ++ encM m) w) := by
  obtain ⟨W, hW⟩ : ∃ W : World, W = w.alloc (.cells #[.int .i64 m.dev, .string m.name, .string m.pub, .int .i64 m.quota, .bool m.exp] 40) := ⟨_, rfl⟩
  have hK : W.heap[w.heap.size]? = some (.cells (fM m).toArray 40 (0, 0)) := by rw [hW]; exact heap_alloc_new w _
  have hW0 : Wc g base v W bs W := by rw [hW]; exact Wc.start (hw.alloc _)
  have hF := hw.fresh
  have hkeep : ∀ bs' V, Wc g base v W bs' V → V.heap[w.heap.size]? = some (.cells (fM m).toArray 40 (0, 0)) := fun bs' V h => (h.keep hF (lt_of_block hK)).trans hK
  have hpost : ∀ bs' V, Wc g base v W bs' V → WPost g base v bs' w (.returned (.tuple #[])) V := fun bs' V h => by rw [hW] at h; exact h.behind.post
  have HK := Lib.hid hkeep
  have HP := Lib.hid hpost
  have H0 := Lib.hid hW0
  have HWE := Lib.hid hW
  have HM := Lib.hid hm
  have h1 := enc_len m.name.size
  have h2 := hm.1
  have h3 := hm.2.1
  have h4 := sB_len m.name
  have h5 := sB_len m.pub
  obtain ⟨c1, c2, c3⟩ := fivem_of hK
  have HC1 := Lib.hid (hW0.step (P := Tryz.prog) (fun v' hv' _ => wtext_any g base v' bs m.name W hv' (by omega) (by omega)))
  clear hw hm hK hW0 hF hkeep hpost
  rw [hW] at c1 c2 c3
  clear hW
  go_enter Tryz.func29, Tryz.ntmps29
  go_wp2_with fail
  rw [← HWE.out]
  refine HC1.out.mono ?_
  rintro e w2 ⟨rfl, hw2⟩
  clear c1 c2 c3
  obtain ⟨c1, c2, c3⟩ := fivem_of (HK.out _ _ hw2)
  have HC2 := Lib.hid (hw2.step (P := Tryz.prog) (fun v' hv' _ => wsum_any g base v' _ m.pub w2 hv' h3 (by simp only [List.length_append]; omega)))
  clear hw2
  go_wp2_with fail
  refine HC2.out.mono ?_
  rintro e w3 ⟨rfl, hw3⟩
  clear c1 c2 c3
  obtain ⟨c1, c2, c3⟩ := fivem_of (HK.out _ _ hw3)
  have HC3 := Lib.hid (hw3.ints [m.quota] 3 1 1 rfl (fun x hx => by obtain rfl := List.mem_singleton.1 hx; exact HM.out.2.2) (by decide) (by simp only [List.length_append]; omega))
  clear hw3
  go_wp2_with fail
  refine HC3.out.mono ?_
  rintro e w4 ⟨rfl, hw4⟩
  have HW4 := Lib.hid hw4
  clear hw4 c1 c2 c3
  go_wp2
  go_end0
  have := HP.out _ _ HW4.out
  simp only [List.append_assoc] at this
  unfold encM
  exact this
theorem vlt_of {w : World} {k : Nat} {v : Vlt} {A : Option Addr} {n c : Nat} (h : w.heap[k]? = some (oV v A n c)) :
    w.cell? ⟨k, 1, none⟩ = some (.slice A n c) ∧ w.cell? ⟨k, 2, none⟩ = some (.int .i64 v.data) ∧ w.cell? ⟨k, 3, none⟩ = some (.int .i64 v.total) ∧ w.cell? ⟨k, 4, none⟩ = some (.int .i64 v.thr) ∧ w.cell? ⟨k, 5, none⟩ = some (.string v.print) ∧ w.cell? ⟨k, 6, none⟩ = some (.int .i64 v.cmin) ∧ w.cell? ⟨k, 7, none⟩ = some (.int .i64 v.cmax) ∧ w.cell? ⟨k, 8, none⟩ = some (.int .i64 v.cwin) ∧ w.cell? ⟨k, 9, none⟩ = some (.int .i64 v.cbits) ∧ w.cell? ⟨k, 11, none⟩ = some (.int .i64 v.ra) ∧ w.cell? ⟨k, 12, none⟩ = some (.int .i64 v.rb) ∧ w.cell? ⟨k, 13, none⟩ = some (.int .i64 v.rc) ∧ w.cell? ⟨k, 14, none⟩ = some (.int .i64 v.rd) := by
  refine ⟨?_, ?_, ?_, ?_, ?_, ?_, ?_, ?_, ?_, ?_, ?_, ?_, ?_⟩ <;> (rw [cell_of_row w k _ _ _ _ h]; rfl)
set_option maxRecDepth 20000 in
set_option maxHeartbeats 2000000 in
theorem wvlt_any (g base : Nat) (v : Value) (bs : List Int) (x : Vlt) (A : Option Addr) (n c : Nat) (w : World) (hw : Wr w g base v bs) (hx : vOk x) (hs : Sl I w w.heap.size A n x.ws) (hA : ∀ a, A = some a → 0 < x.ws.length → ¬ foot g v a.block) (hlen : bs.length ≤ 990000) :
    Calls Tryz.prog 30 #[.pointer (some ⟨g, 0, none⟩), aV x A n c] w (WPost g base v (bs ++ encVt x) w) := by
  obtain ⟨W, hW⟩ : ∃ W : World, W = w.alloc (oV x A n c) := ⟨_, rfl⟩
  have hK : W.heap[w.heap.size]? = some (oV x A n c) := by rw [hW]; exact heap_alloc_new w _
  have hW0 : Wc g base v W bs W := by rw [hW]; exact Wc.start (hw.alloc _)
  have hF := hw.fresh
  have hBW : Below w.heap.size w W := by rw [hW]; exact (Below.refl _ _).alloc (Nat.le_refl _) _
  have hkeep : ∀ bs' V, Wc g base v W bs' V → V.heap[w.heap.size]? = some (oV x A n c) := fun bs' V h => (h.keep hF (lt_of_block hK)).trans hK
  have hpost : ∀ bs' V, Wc g base v W bs' V → WPost g base v bs' w (.returned (.tuple #[])) V := fun bs' V h => by rw [hW] at h; exact h.behind.post
  have hsl : ∀ bs' V, Wc g base v W bs' V → Sl I V V.heap.size A n x.ws := fun bs' V h => by
    obtain ⟨v1, h1, h2, h3⟩ := h
    exact ⟨hs.1, fun hn => ((SL.but ((hs.up hBW (Nat.le_refl _)).2) h2 hBW.size (fun a ha => hA a ha hn)).more (Nat.le_trans hBW.size h2.size)) hn⟩
  have hsf : ∀ v', NewRow v v' W → ∀ a, A = some a → 0 < x.ws.length → ¬ foot g v' a.block := fun v' h a ha h0 => by
    obtain ⟨b, off, e, hlt, _⟩ := hs.2 h0
    rw [ha] at e
    cases e
    exact foot_still h (hA _ ha h0) (Nat.lt_of_lt_of_le hlt hBW.size)
  have HK := Lib.hid hkeep
  have HP := Lib.hid hpost
  have HSL := Lib.hid hsl
  have HSF := Lib.hid hsf
  have HAA := Lib.hid hA
  have H0 := Lib.hid hW0
  have HWE := Lib.hid hW
  have HX := Lib.hid hx
  have HLN : Hid (x.ws.length = n) := hs.1
  have hn3 : n ≤ 3 := by rw [← hs.1]; exact hx.1
  have h1 := enc_len n
  have h2 := encL_len x.ws
  have h3 := encL_len [x.data, x.total, x.thr]
  have h4 := encL_len [x.cmin, x.cmax, x.cwin, x.cbits]
  have h5 := sB_len x.print
  have h6 := hx.2.2.2.1
  simp only [List.length_cons, List.length_nil, hs.1] at h2 h3 h4
  obtain ⟨c1, c2, c3, c4, c5, c6, c7, c8, c9, c10, c11, c12, c13⟩ := vlt_of hK
  have HC1 := Lib.hid (hW0.step (P := Tryz.prog) (fun v' hv' _ => wcount_any g base v' bs n W hv' (by omega) (by omega)))
  clear hw hx hK hW0 hF hkeep hpost hsl hsf hs hA hBW
  rw [hW] at c1 c2 c3 c4 c5 c6 c7 c8 c9 c10 c11 c12 c13
  clear hW
  go_enter Tryz.func30, Tryz.ntmps30
  go_wp2_with fail
  rw [← HWE.out]
  refine HC1.out.mono ?_
  rintro e w2 ⟨rfl, hw2⟩
  clear c1 c2 c3 c4 c5 c6 c7 c8 c9 c10 c11 c12 c13
  obtain ⟨c1, c2, c3, c4, c5, c6, c7, c8, c9, c10, c11, c12, c13⟩ := vlt_of (HK.out _ _ hw2)
  have HC2 := Lib.hid (hw2.step (P := Tryz.prog) (bs' := _ ++ encL x.ws) (fun v' hv' hn => wints_some g base v' _ A n c x.ws w2 hv' (HSL.out _ _ hw2) (HSF.out v' hn) HX.out.2.1 (by omega) (by simp only [List.length_append]; omega)))
  clear hw2
  go_wp2_with fail
  refine HC2.out.mono ?_
  rintro e w3 ⟨rfl, hw3⟩
  clear c1 c2 c3 c4 c5 c6 c7 c8 c9 c10 c11 c12 c13
  obtain ⟨c1, c2, c3, c4, c5, c6, c7, c8, c9, c10, c11, c12, c13⟩ := vlt_of (HK.out _ _ hw3)
  have HC3 := Lib.hid (hw3.ints [x.data, x.total, x.thr] 3 3 3 rfl HX.out.2.2.1 (by decide) (by simp only [List.length_append]; omega))
  clear hw3
  go_wp2_with fail
  refine HC3.out.mono ?_
  rintro e w4 ⟨rfl, hw4⟩
  clear c1 c2 c3 c4 c5 c6 c7 c8 c9 c10 c11 c12 c13
  obtain ⟨c1, c2, c3, c4, c5, c6, c7, c8, c9, c10, c11, c12, c13⟩ := vlt_of (HK.out _ _ hw4)
  have HC4 := Lib.hid (hw4.step (P := Tryz.prog) (fun v' hv' _ => wsum_any g base v' _ x.print w4 hv' h6 (by simp only [List.length_append]; omega)))
  clear hw4
  go_wp2_with fail
  refine HC4.out.mono ?_
  rintro e w5 ⟨rfl, hw5⟩
  clear c1 c2 c3 c4 c5 c6 c7 c8 c9 c10 c11 c12 c13
  obtain ⟨c1, c2, c3, c4, c5, c6, c7, c8, c9, c10, c11, c12, c13⟩ := vlt_of (HK.out _ _ hw5)
  have HC5 := Lib.hid (hw5.ints [x.cmin, x.cmax, x.cwin, x.cbits] 3 4 4 rfl HX.out.2.2.2.2.1 (by decide) (by simp only [List.length_append]; omega))
  clear hw5
  go_wp2_with fail
  refine HC5.out.mono ?_
  rintro e w6 ⟨rfl, hw6⟩
  clear c1 c2 c3 c4 c5 c6 c7 c8 c9 c10 c11 c12 c13
  obtain ⟨c1, c2, c3, c4, c5, c6, c7, c8, c9, c10, c11, c12, c13⟩ := vlt_of (HK.out _ _ hw6)
  have HC6 := Lib.hid (hw6.ints [x.ra, x.rb, x.rc, x.rd] 3 4 4 rfl HX.out.2.2.2.2.2 (by decide) (by simp only [List.length_append]; omega))
  clear hw6
  go_wp2_with fail
  refine HC6.out.mono ?_
  rintro e w7 ⟨rfl, hw7⟩
  have HW7 := Lib.hid hw7
  clear hw7 c1 c2 c3 c4 c5 c6 c7 c8 c9 c10 c11 c12 c13
  go_wp2
  go_end0
  have := HP.out _ _ HW7.out
  simp only [List.append_assoc] at this
  unfold encVt
  rw [HLN.out]
  exact this
end Go.Proofs.YtkeicjokekmkpaaGreat
