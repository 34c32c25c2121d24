/- reedsolomon: fits. -/
import Derived.Test.YtpbeaghghlfiaaaC5
namespace Go.Proofs.Ytpbeaghghlfiaaa
open Go.RowKit Go.Lib
set_option linter.unusedVariables false
set_option linter.unusedSimpArgs false
def FxP (bs v : Nat) (w : World) (e : Ending) (w' : World) : Prop := e = .returned (.tuple #[]) ∧ w'.heap[bs]? = some (.cells #[fN v] T8 (0, 0)) ∧ But (fun i => i = bs) w w'
set_option maxRecDepth 100000 in
set_option maxHeartbeats 4000000 in
theorem fitsAdd_any (bs bf bp bl j s x y place d n len fb fo fc pb po c rb ro rc : Nat) (w : World) (hgs : w.heap[bs]? = some (.cells #[fN s] T8 (0, 0))) (k2 : w.cell? ⟨bf, 0, none⟩ = some (.slice (some ⟨fb, fo, none⟩) d fc)) (k3 : w.cell? ⟨bp, 0, none⟩ = some (.slice (some ⟨pb, po, none⟩) n c)) (k4 : w.cell? ⟨bl, 0, none⟩ = some (.int .i64 (place : Int))) (k5 : w.cell? ⟨fb, fo + j, none⟩ = some (fN x)) (k6 : w.cell? ⟨pb, po + j, none⟩ = some (.slice (some ⟨rb, ro, none⟩) len rc)) (k7 : w.cell? ⟨rb, ro + place, none⟩ = some (fN y)) (hs : s < 256) (hx : x < 256) (hy : y < 256) (hj : j < d) (hjn : j < n) (hp : place < len) :
    Calls Try.prog 40 #[.int .i64 j, .pointer (some ⟨bs, 0, none⟩), .pointer (some ⟨bf, 0, none⟩), .pointer (some ⟨bp, 0, none⟩), .pointer (some ⟨bl, 0, none⟩)] w (FxP bs (s ^^^ mulN x y) w) := by
  have k1 := one_cell hgs
  have HGS := Lib.hid (show w.drew.heap[bs]? = some (.cells #[fN s] T8 (0, 0)) from hgs)
  have hxo := u8_xor hs (mulN_lt hx (b := y))
  have HMU0 := Lib.hid (fun w => mul_any x y hx hy w)
  obtain ⟨m, hm⟩ : ∃ m, mulN x y = m := ⟨_, rfl⟩
  obtain ⟨v, hv⟩ : ∃ v, s ^^^ m = v := ⟨_, rfl⟩
  have HMU : Hid (∀ w, Calls Try.prog 15 #[fN x, fN y] w fun e w' => e = .returned (fN m) ∧ w = w') := fun w => by have q := HMU0.out w; rwa [hm] at q
  rw [hm, hv] at hxo
  rw [hm, hv]
  have hjI : (j : Int) < (d : Int) := by omega
  have hjnI : (j : Int) < (n : Int) := by omega
  have hpI : (place : Int) < (len : Int) := by omega
  clear hgs hs hx hy HMU0 hm hv
  go_enter Try.func40, Try.ntmps40
  go_wp2_with fail
  refine LastZ.start (by kernel_rfl) (fun w' : World => w'.cell? ⟨bs, 0, none⟩ = some (fN s) ∧ w'.cell? ⟨bf, 0, none⟩ = some (.slice (some ⟨fb, fo, none⟩) d fc) ∧ w'.cell? ⟨bp, 0, none⟩ = some (.slice (some ⟨pb, po, none⟩) n c) ∧ w'.cell? ⟨bl, 0, none⟩ = some (.int .i64 (place : Int)) ∧ w'.cell? ⟨fb, fo + j, none⟩ = some (fN x) ∧ w'.cell? ⟨pb, po + j, none⟩ = some (.slice (some ⟨rb, ro, none⟩) len rc) ∧ w'.cell? ⟨rb, ro + place, none⟩ = some (fN y)) 14 ?_
  have hZ0 : Hid ((fun w' : World => w'.cell? ⟨bs, 0, none⟩ = some (fN s) ∧ w'.cell? ⟨bf, 0, none⟩ = some (.slice (some ⟨fb, fo, none⟩) d fc) ∧ w'.cell? ⟨bp, 0, none⟩ = some (.slice (some ⟨pb, po, none⟩) n c) ∧ w'.cell? ⟨bl, 0, none⟩ = some (.int .i64 (place : Int)) ∧ w'.cell? ⟨fb, fo + j, none⟩ = some (fN x) ∧ w'.cell? ⟨pb, po + j, none⟩ = some (.slice (some ⟨rb, ro, none⟩) len rc) ∧ w'.cell? ⟨rb, ro + place, none⟩ = some (fN y)) w.drew) := (by exact ⟨k1, k2, k3, k4, k5, k6, k7⟩)
  refine LastZ.take 0 (v := _) (by simp only [List.getElem?_toArray, List.getElem?_cons_zero]; rfl) (by kernel_rfl) (by kernel_rfl) (by kernel_rfl) (by decide) (by kernel_rfl) (by exact fun _ _ _ h => h) (Or.inl ⟨by rfl, by (intro w hSw; (try dsimp only at hSw); go_simp; try (with_reducible rfl))⟩) hZ0.out ?_
  try simp only [Act.put, List.setIfInBounds_toArray, List.set_cons_zero, List.set_cons_succ]
  refine LastZ.take 1 (v := _) (by simp only [List.getElem?_toArray, List.getElem?_cons_succ, List.getElem?_cons_zero]; rfl) (by kernel_rfl) (by kernel_rfl) (by kernel_rfl) (by decide) (by kernel_rfl) (by exact fun _ _ _ h => h) (Or.inl ⟨by rfl, by (intro w hSw; (try dsimp only at hSw); go_simp; try (with_reducible rfl))⟩) hZ0.out ?_
  try simp only [Act.put, List.setIfInBounds_toArray, List.set_cons_zero, List.set_cons_succ]
  refine LastZ.take 2 (v := _) (by simp only [List.getElem?_toArray, List.getElem?_cons_succ, List.getElem?_cons_zero]; rfl) (by kernel_rfl) (by kernel_rfl) (by kernel_rfl) (by decide) (by kernel_rfl) (by exact fun _ _ _ h => h) (Or.inl ⟨by rfl, by (intro w hSw; (try dsimp only at hSw); go_simp; try (with_reducible rfl))⟩) hZ0.out ?_
  try simp only [Act.put, List.setIfInBounds_toArray, List.set_cons_zero, List.set_cons_succ]
  refine LastZ.take 3 (v := _) (by simp only [List.getElem?_toArray, List.getElem?_cons_succ, List.getElem?_cons_zero]; rfl) (by kernel_rfl) (by kernel_rfl) (by kernel_rfl) (by decide) (by kernel_rfl) (by exact fun _ _ _ h => h) (Or.inl ⟨by rfl, by (intro w hSw; (try dsimp only at hSw); go_simp; try (with_reducible rfl))⟩) hZ0.out ?_
  try simp only [Act.put, List.setIfInBounds_toArray, List.set_cons_zero, List.set_cons_succ]
  refine LastZ.take 4 (v := _) (by simp only [List.getElem?_toArray, List.getElem?_cons_succ, List.getElem?_cons_zero]; rfl) (by kernel_rfl) (by kernel_rfl) (by kernel_rfl) (by decide) (by kernel_rfl) (by exact fun _ _ _ h => h) (Or.inl ⟨by rfl, by (intro w hSw; (try dsimp only at hSw); go_simp; try (with_reducible rfl))⟩) hZ0.out ?_
  try simp only [Act.put, List.setIfInBounds_toArray, List.set_cons_zero, List.set_cons_succ]
  refine LastZ.take 5 (v := _) (by simp only [List.getElem?_toArray, List.getElem?_cons_succ, List.getElem?_cons_zero]; rfl) (by kernel_rfl) (by kernel_rfl) (by kernel_rfl) (by decide) (by kernel_rfl) (by exact fun _ _ _ h => h) (Or.inl ⟨by rfl, by (intro w hSw; (try dsimp only at hSw); go_simp; try (with_reducible rfl))⟩) hZ0.out ?_
  try simp only [Act.put, List.setIfInBounds_toArray, List.set_cons_zero, List.set_cons_succ]
  refine LastZ.take 6 (v := _) (by simp only [List.getElem?_toArray, List.getElem?_cons_succ, List.getElem?_cons_zero]; rfl) (by kernel_rfl) (by kernel_rfl) (by kernel_rfl) (by decide) (by kernel_rfl) (by exact fun _ _ _ h => h) (Or.inl ⟨by rfl, by (intro w hSw; (try dsimp only at hSw); go_simp; try (with_reducible rfl))⟩) hZ0.out ?_
  try simp only [Act.put, List.setIfInBounds_toArray, List.set_cons_zero, List.set_cons_succ]
  refine LastZ.take 7 (v := _) (by simp only [List.getElem?_toArray, List.getElem?_cons_succ, List.getElem?_cons_zero]; rfl) (by kernel_rfl) (by kernel_rfl) (by kernel_rfl) (by decide) (by kernel_rfl) (by exact fun _ _ _ h => h) (Or.inl ⟨by rfl, by (intro w hSw; (try dsimp only at hSw); go_simp; try (with_reducible rfl))⟩) hZ0.out ?_
  try simp only [Act.put, List.setIfInBounds_toArray, List.set_cons_zero, List.set_cons_succ]
  refine LastZ.take 8 (v := _) (by simp only [List.getElem?_toArray, List.getElem?_cons_succ, List.getElem?_cons_zero]; rfl) (by kernel_rfl) (by kernel_rfl) (by kernel_rfl) (by decide) (by kernel_rfl) (by exact fun _ _ _ h => h) (Or.inl ⟨by rfl, by (intro w hSw; (try dsimp only at hSw); go_simp; try (with_reducible rfl))⟩) hZ0.out ?_
  try simp only [Act.put, List.setIfInBounds_toArray, List.set_cons_zero, List.set_cons_succ]
  refine LastZ.take 9 (v := _) (by simp only [List.getElem?_toArray, List.getElem?_cons_succ, List.getElem?_cons_zero]; rfl) (by kernel_rfl) (by kernel_rfl) (by kernel_rfl) (by decide) (by kernel_rfl) (by exact fun _ _ _ h => h) (Or.inl ⟨by rfl, by (intro w hSw; (try dsimp only at hSw); go_simp; try (with_reducible rfl))⟩) hZ0.out ?_
  try simp only [Act.put, List.setIfInBounds_toArray, List.set_cons_zero, List.set_cons_succ]
  refine LastZ.take 10 (v := _) (by simp only [List.getElem?_toArray, List.getElem?_cons_succ, List.getElem?_cons_zero]; rfl) (by kernel_rfl) (by kernel_rfl) (by kernel_rfl) (by decide) (by kernel_rfl) (by exact fun _ _ _ h => h) (Or.inl ⟨by rfl, by (intro w hSw; (try dsimp only at hSw); go_simp; try (with_reducible rfl))⟩) hZ0.out ?_
  try simp only [Act.put, List.setIfInBounds_toArray, List.set_cons_zero, List.set_cons_succ]
  refine LastZ.take 11 (v := _) (by simp only [List.getElem?_toArray, List.getElem?_cons_succ, List.getElem?_cons_zero]; rfl) (by kernel_rfl) (by kernel_rfl) (by kernel_rfl) (by decide) (by kernel_rfl) (by exact fun _ _ _ h => h) (Or.inl ⟨by rfl, by (intro w hSw; (try dsimp only at hSw); go_simp; try (with_reducible rfl))⟩) hZ0.out ?_
  try simp only [Act.put, List.setIfInBounds_toArray, List.set_cons_zero, List.set_cons_succ]
  refine LastZ.one 12 (by kernel_rfl) (by simp only [List.getElem?_toArray, List.getElem?_cons_succ, List.getElem?_cons_zero]; rfl) (fun K hK => ?_)
  (go_simp; go_at_call 15; (with_reducible refine (HMU.out _).mono ?_); rintro e w6 ⟨rfl, hw6⟩; subst hw6; go_wp2_with fail)
  refine hK.out _ _ (by exact hZ0.out) (fun hHeldZ => ?_)
  have hZ1 := Lib.hid hHeldZ
  clear hK K hZ0 hHeldZ
  try simp only [Act.put, List.setIfInBounds_toArray, List.set_cons_zero, List.set_cons_succ]
  refine LastZ.take 13 (v := _) (by simp only [List.getElem?_toArray, List.getElem?_cons_succ, List.getElem?_cons_zero]; rfl) (by kernel_rfl) (by kernel_rfl) (by kernel_rfl) (by decide) (by kernel_rfl) (by exact fun _ _ _ h => h) (Or.inl ⟨by rfl, by (intro w hSw; (try dsimp only at hSw); go_simp; try (with_reducible rfl))⟩) hZ1.out ?_
  try simp only [Act.put, List.setIfInBounds_toArray, List.set_cons_zero, List.set_cons_succ]
  refine LastZ.last (by kernel_rfl) (by simp only [List.getElem?_toArray, List.getElem?_cons_succ, List.getElem?_cons_zero]; rfl) (by decide) (fun K hK => ?_)
  ((refine step_store_at1 rfl 5 (.tmp 1) (.tmp 19) rfl bs T8 0 #[fN s] (fN v) (by rfl) (by rfl) HGS.out (by simp) Try.sizeB rfl ?_); intro W6 HG6 HB6)
  refine hK.out _ _ ?_
  clear hK K
  try simp only [Act.put, List.setIfInBounds_toArray, List.set_cons_zero, List.set_cons_succ]
  refine LastZ.done (by kernel_rfl) ?_ _
  skip
  go_wp2_with fail
  refine bodyPost_ret (results_none rfl _ _ _) rfl ?_
  exact ⟨rfl, HG6.out, ⟨HB6.out.os, HB6.out.tape, HB6.out.output, HB6.out.size, HB6.out.block⟩⟩
def FtP (ok : Prop) (w : World) (e : Ending) (w' : World) : Prop := ∃ b, e = .returned (.bool b) ∧ (ok → b = true) ∧ Below w.heap.size w w'
/-- What the sum is when j products are added. -/
def sumJ (s0 : Nat) (f col : List Nat) (j : Nat) : Nat := dotL s0 (f.take j) (col.take j)
theorem sumJ_zero (s0 : Nat) (f col : List Nat) : sumJ s0 f col 0 = s0 := by unfold sumJ; simp [dotL]
theorem sumJ_step {s0 : Nat} {f col : List Nat} {j x y : Nat} (h1 : f[j]? = some x) (h2 : col[j]? = some y) : sumJ s0 f col (j + 1) = sumJ s0 f col j ^^^ mulN x y := by
  obtain ⟨a1, rfl⟩ := List.getElem?_eq_some_iff.1 h1
  obtain ⟨a2, rfl⟩ := List.getElem?_eq_some_iff.1 h2
  unfold sumJ
  rw [List.take_succ_eq_append_getElem a1, List.take_succ_eq_append_getElem a2]
  exact dotL_snoc (by simp; omega)
theorem sumJ_all {s0 d : Nat} {f col : List Nat} (h1 : f.length = d) (h2 : col.length = d) : sumJ s0 f col d = s0 ^^^ dotN f col := by
  unfold sumJ
  rw [List.take_of_length_le (by omega), List.take_of_length_le (by omega), dotL_eq]
theorem sumJ_lt {s0 : Nat} {f col : List Nat} (h0 : s0 < 256) (hf : Bys f) (j : Nat) : sumJ s0 f col j < 256 := by
  unfold sumJ
  rw [dotL_eq]
  exact Nat.xor_lt_two_pow (n := 8) h0 (dotN_lt (fun x hx => hf x (List.mem_of_mem_take hx)))
/-- Where the pieces agree, the sum is 0. -/
theorem sum_ok {len d place k s0 : Nat} {P F : Mt} {f : List Nat} (hP : MtOk len P) (hf : F[k]? = some f) (hfl : f.length = d) (hp : place < len) (h0 : (P.getD (d + k) []).getD place 0 = s0) (hok : okP len d P F) : s0 ^^^ dotN f (colP (P.take d) place) = 0 := by
  have hk := (List.getElem?_eq_some_iff.1 hf).1
  have h := hok k hk
  rw [getD_some hf] at h
  rw [h] at h0
  unfold predP at h0
  rw [hfl, comb_getD hp _ (fun b hb => (hP b (List.mem_of_mem_take hb)).1)] at h0
  rw [← h0]
  exact Nat.xor_self _
set_option maxRecDepth 100000 in
set_option maxHeartbeats 8000000 in
theorem fits_any (A1 A2 A3 : Option Addr) (n c q c2 np c3 d len B : Nat) (P F : Mt) (ps : List Nat) (w : World) (h1 : SLL fN w B A1 n P) (h2 : SLL fN w B A2 q F) (h3 : Sl fI w B A3 np ps) (hB : B ≤ w.heap.size) (hP : MtOk len P) (hF : MtOk d F) (hps : ∀ p ∈ ps, p < len) (hd0 : 0 < d) (hn : n = d + q) (hn64 : n ≤ 64) (hl : len ≤ 65536) (hnp : np ≤ 1000) :
    Calls Try.prog 24 #[.slice A1 n c, .slice A2 q c2, .slice A3 np c3] w (FtP (okP len d P F) w) := by
  have hpl : P.length = n := h1.choose_spec.2.1
  obtain ⟨pb, po, pa0, pc0, p0, rfl, _, _, _⟩ := h1.cell (k := 0) (by omega)
  obtain ⟨W1, hW1⟩ : ∃ W, W = w.alloc (.cells #[.slice (some ⟨pb, po, none⟩) n c] 22) := ⟨_, rfl⟩
  have hb1 : Below w.heap.size w W1 := by rw [hW1]; exact (Below.refl _ _).alloc (Nat.le_refl _) _
  have HG1 : Hid (W1.heap[w.heap.size]? = some (.cells #[.slice (some ⟨pb, po, none⟩) n c] 22 (0, 0))) := by show _ = _; rw [hW1]; exact heap_alloc_new w _
  have HB1 := Lib.hid hb1
  have HWE := Lib.hid hW1
  have H1 := Lib.hid h1
  have H2 := Lib.hid h2
  have H3 := Lib.hid h3
  have HBB := Lib.hid hB
  have HPO := Lib.hid hP
  have HFO := Lib.hid hF
  have HPS := Lib.hid hps
  have HPL := Lib.hid hpl
  have HN := Lib.hid hn
  have HN64 := Lib.hid hn64
  have HL := Lib.hid hl
  have hnpI : (np : Int) ≤ 1000 := by omega
  have hqI : (q : Int) ≤ 64 := by omega
  have hdI : (d : Int) ≤ 64 := by omega
  have HW1 : Hid (Below W1.heap.size W1 W1) := Below.refl _ _
  clear h1 h2 h3 hB hP hF hps hd0 hn hn64 hl hnp hpl hW1 hb1
  have hmf : ∀ (fn : Fn) (first cap : Array Value) (w : World), (Instr.makeFunc fn first cap).run Try.prog w = .ok (.func fn first cap) w := fun _ _ _ _ => rfl
  go_enter Try.func24, Try.ntmps24
  go_upto_region 1 with fail
  rw [← HWE.out]
  clear HWE
  go_wp2_with fail
  go_loopw [16] (fun i wr => ∃ k : Nat, k ≤ np ∧ i = .int .i64 k ∧ Hid (Below W1.heap.size W1 wr)) (fun i _ => np - (intOf i).toNat)
  case atStart => exact ⟨0, Nat.zero_le _, rfl, HW1⟩
  case round =>
    clear HW1
    obtain ⟨kp, hkp, rfl, HB⟩ := hrel
    have HBw : Hid (Below w.heap.size w wr) := HB1.out.trans (HB.out.mono HB1.out.size)
    by_cases hlp : kp < np
    · have hkpI : (kp : Int) < (np : Int) := by omega
      obtain ⟨lb, lo, place, rfl, _, hpk, hck⟩ := (SL.up H3.out.2 HBw.out HBB.out).at_ (k := kp) (by rw [H3.out.1]; exact hlp)
      have HPP : Hid (place < len) := HPS.out place (List.mem_of_getElem? hpk)
      obtain ⟨bl, hbl⟩ : ∃ b, b = wr.heap.size := ⟨_, rfl⟩
      obtain ⟨W3, hW3⟩ : ∃ W, W = wr.alloc (.cells #[.int .i64 (place : Int)] TI) := ⟨_, rfl⟩
      have hb3 : Below wr.heap.size wr W3 := by rw [hW3]; exact (Below.refl _ _).alloc (Nat.le_refl _) _
      have HGL : Hid (W3.heap[bl]? = some (.cells #[.int .i64 (place : Int)] TI (0, 0))) := by show _ = _; rw [hW3, hbl]; exact heap_alloc_new wr _
      have HB3 : Hid (Below W1.heap.size W1 W3) := HB.out.trans (hb3.mono HB.out.size)
      have HW3 := Lib.hid hW3
      have HBL := Lib.hid hbl
      have HZ3 : Hid (Below W3.heap.size W3 W3) := Below.refl _ _
      clear hpk hW3 hb3 hbl
      go_upto_region 5 with fail
      rw [← HW3.out, ← HBL.out]
      clear HW3 HBL hck
      obtain ⟨W0, hW0⟩ : ∃ W0, W0 = wr := ⟨_, rfl⟩
      subst hW0
      go_loopw [22] (fun i wr => ∃ k : Nat, k ≤ q ∧ i = .int .i64 k ∧ Hid (Below W3.heap.size W3 wr)) (fun i _ => q - (intOf i).toNat)
      case atStart => exact ⟨0, Nat.zero_le _, rfl, HZ3⟩
      case round =>
        clear HZ3
        obtain ⟨k, hk, rfl, HB4⟩ := hrel
        have HB14 : Hid (Below W1.heap.size W1 wr) := HB3.out.trans (HB4.out.mono HB3.out.size)
        have HB04 : Hid (Below w.heap.size w wr) := HB1.out.trans (HB14.out.mono HB1.out.size)
        by_cases hlt : k < q
        · have hkI : (k : Int) < (q : Int) := by omega
          obtain ⟨gb, go, fa, fc, f, hA2, hfk, hcf, hsf⟩ := (H2.out.up HB04.out HBB.out).cell hlt
          subst hA2
          have hfo := HFO.out.get hfk
          rw [hfo.1] at hcf hsf
          have hdk : d + k < n := by have := HN.out; omega
          obtain ⟨pb', po', ra, rc, p, hA1, hpk, hcp, hsp⟩ := (H1.out.up HB04.out HBB.out).cell hdk
          injection hA1 with hA1
          injection hA1 with e1 e2 _
          subst e1 e2
          have hpo := HPO.out.get hpk
          rw [hpo.1] at hcp hsp
          obtain ⟨y, hy⟩ := get_ex (xs := p) (k := place) (by rw [hpo.1]; exact HPP.out)
          obtain ⟨rb, ro, rfl, hrb, hrat⟩ := hsp.2 (by have := HPP.out; have := hpo.1; omega)
          have hcy := hrat place y hy
          have hy256 := hpo.2 y (List.mem_of_getElem? hy)
          obtain ⟨bf, hbf⟩ : ∃ b, b = wr.heap.size := ⟨_, rfl⟩
          obtain ⟨W5, hW5⟩ : ∃ W, W = wr.alloc (.cells #[.slice fa d fc] TR) := ⟨_, rfl⟩
          have hb5 : Below wr.heap.size wr W5 := by rw [hW5]; exact (Below.refl _ _).alloc (Nat.le_refl _) _
          have HGF : Hid (W5.heap[bf]? = some (.cells #[.slice fa d fc] TR (0, 0))) := by show _ = _; rw [hW5, hbf]; exact heap_alloc_new wr _
          have HGP5 : Hid (W5.heap[w.heap.size]? = some (.cells #[.slice (some ⟨pb, po, none⟩) n c] 22 (0, 0))) := (hb5.block _ (Nat.lt_of_lt_of_le (lt_block HG1.out) HB14.out.size)).trans ((HB14.out.block _ (lt_block HG1.out)).trans HG1.out)
          have HGL5 : Hid (W5.heap[bl]? = some (.cells #[.int .i64 (place : Int)] TI (0, 0))) := (hb5.block _ (Nat.lt_of_lt_of_le (lt_block HGL.out) HB4.out.size)).trans ((HB4.out.block _ (lt_block HGL.out)).trans HGL.out)
          have HCP5 : Hid (W5.cell? ⟨pb, po + (d + k), none⟩ = some (.slice (some ⟨rb, ro, none⟩) len rc)) := (World.cell?_of_block (hb5.block _ (World.block_lt_of_cell? wr _ hcp))).trans hcp
          have HCY5 : Hid (W5.cell? ⟨rb, ro + place, none⟩ = some (fN y)) := (World.cell?_of_block (hb5.block _ (World.block_lt_of_cell? wr _ hcy))).trans hcy
          have HB35 : Hid (Below W3.heap.size W3 W5) := HB4.out.trans (hb5.mono HB4.out.size)
          have HB05 : Hid (Below w.heap.size w W5) := HB04.out.trans (hb5.mono HB04.out.size)
          have HW5 := Lib.hid hW5
          have HBF := Lib.hid hbf
          have HFL : Hid (f.length = d ∧ Bys f) := hfo
          have HFK := Lib.hid hfk
          have HY := Lib.hid hy256
          have HS0 : Hid ((P.getD (d + k) []).getD place 0 = y) := by show _ = _; rw [getD_some hpk, getD_some hy]
          obtain ⟨col, hcol⟩ : ∃ col, colP (P.take d) place = col := ⟨_, rfl⟩
          have HCL : Hid (col.length = d) := by show _ = _; rw [← hcol]; unfold colP; rw [List.length_map, List.length_take, HPL.out, HN.out]; omega
          have HCOL := Lib.hid hcol
          obtain ⟨dk, hdke⟩ : ∃ x, d + k = x := ⟨_, rfl⟩
          rw [hdke] at HCP5
          have hdkw : IntKind.i64.wrap ((d : Int) + (k : Int)) = (dk : Int) := by rw [← hdke, IntWalk.i64_in _ (by omega)]; omega
          have hdkI : (dk : Int) < (n : Int) := by rw [← hdke]; omega
          have hplI : (place : Int) < (len : Int) := by have := HPP.out; omega
          have hsf5 := hsf.up hb5 (Nat.le_trans HBB.out HB04.out.size)
          have HSF := Lib.hid hsf5
          have hnI : (n : Int) ≤ 64 := by have := HN64.out; omega
          have hlI : (len : Int) ≤ 65536 := by have := HL.out; omega
          clear hfk hsf hfo hdk hpk hsp hpo hy hrb hrat hcy hcp hy256 hW5 hb5 hbf hcol hdke hsf5
          go_upto_region 7 with fail
          rw [← HW5.out, ← HBF.out]
          clear HW5 HBF hcf
          have q1 := one_cell HGP5.out
          have q2 := one_cell HGF.out
          have q3 := one_cell HGL5.out
          have q4 := HCP5.out
          have q5 := HCY5.out
          have KA : Hid (∀ o, (W5.drew.alloc o).cell? ⟨w.heap.size, 0, none⟩ = some (.slice (some ⟨pb, po, none⟩) n c) ∧ (W5.drew.alloc o).cell? ⟨bf, 0, none⟩ = some (.slice fa d fc) ∧ (W5.drew.alloc o).cell? ⟨bl, 0, none⟩ = some (.int .i64 (place : Int)) ∧ (W5.drew.alloc o).cell? ⟨pb, po + dk, none⟩ = some (.slice (some ⟨rb, ro, none⟩) len rc) ∧ (W5.drew.alloc o).cell? ⟨rb, ro + place, none⟩ = some (fN y)) := fun o => by
            have g : ∀ (a : Addr) (v : Value), W5.cell? a = some v → (W5.drew.alloc o).cell? a = some v := fun a v h => (World.cell?_of_block (Below.heap_alloc W5.drew o _ (World.block_lt_of_cell? W5 a h))).trans h
            exact ⟨g _ _ q1, g _ _ q2, g _ _ q3, g _ _ q4, g _ _ q5⟩
          go_wp2_with fail
          refine wp_region_held_drew (S := (fun w' : World => w'.cell? ⟨w.heap.size, 0, none⟩ = some (.slice (some ⟨pb, po, none⟩) n c) ∧ w'.cell? ⟨bf, 0, none⟩ = some (.slice fa d fc) ∧ w'.cell? ⟨bl, 0, none⟩ = some (.int .i64 (place : Int)) ∧ w'.cell? ⟨pb, po + dk, none⟩ = some (.slice (some ⟨rb, ro, none⟩) len rc) ∧ w'.cell? ⟨rb, ro + place, none⟩ = some (fN y))) (by kernel_rfl) (by exact ⟨q1, q2, q3, q4, q5⟩) (fun hHeld => ?_)
          refine wpAnyH_take (i := 0) (v := _) (by simp only [List.getElem?_toArray, List.getElem?_cons_zero]; rfl) (by kernel_rfl) (by kernel_rfl) (by kernel_rfl) (by exact fun _ _ _ h => h) (Or.inl ⟨by rfl, by (intro w hSw; (try dsimp only at hSw); go_simp; try (with_reducible rfl))⟩) (by assumption) ?_
          try simp only [Act.put, List.setIfInBounds_toArray, List.set_cons_zero, List.set_cons_succ]
          refine wpAnyH_take (i := 1) (v := _) (by simp only [List.getElem?_toArray, List.getElem?_cons_succ, List.getElem?_cons_zero]; rfl) (by kernel_rfl) (by kernel_rfl) (by kernel_rfl) (by exact fun _ _ _ h => h) (Or.inl ⟨by rfl, by (intro w hSw; (try dsimp only at hSw); go_simp; try (with_reducible rfl))⟩) (by assumption) ?_
          try simp only [Act.put, List.setIfInBounds_toArray, List.set_cons_zero, List.set_cons_succ]
          refine wpAnyH_take (i := 2) (v := _) (by simp only [List.getElem?_toArray, List.getElem?_cons_succ, List.getElem?_cons_zero]; rfl) (by kernel_rfl) (by kernel_rfl) (by kernel_rfl) (by exact fun _ _ _ h => h) (Or.inl ⟨by rfl, by (intro w hSw; (try dsimp only at hSw); go_simp; try (with_reducible rfl))⟩) (by assumption) ?_
          try simp only [Act.put, List.setIfInBounds_toArray, List.set_cons_zero, List.set_cons_succ]
          refine wpAnyH_take (i := 3) (v := _) (by simp only [List.getElem?_toArray, List.getElem?_cons_succ, List.getElem?_cons_zero]; rfl) (by kernel_rfl) (by kernel_rfl) (by kernel_rfl) (by exact fun _ _ _ h => h) (Or.inl ⟨by rfl, by (intro w hSw; (try dsimp only at hSw); go_simp; try (with_reducible rfl))⟩) (by assumption) ?_
          try simp only [Act.put, List.setIfInBounds_toArray, List.set_cons_zero, List.set_cons_succ]
          refine wpAnyH_take (i := 4) (v := _) (by simp only [List.getElem?_toArray, List.getElem?_cons_succ, List.getElem?_cons_zero]; rfl) (by kernel_rfl) (by kernel_rfl) (by kernel_rfl) (by exact fun _ _ _ h => h) (Or.inl ⟨by rfl, by (intro w hSw; (try dsimp only at hSw); go_simp; try (with_reducible rfl))⟩) (by assumption) ?_
          try simp only [Act.put, List.setIfInBounds_toArray, List.set_cons_zero, List.set_cons_succ]
          refine wpAnyH_take (i := 5) (v := _) (by simp only [List.getElem?_toArray, List.getElem?_cons_succ, List.getElem?_cons_zero]; rfl) (by kernel_rfl) (by kernel_rfl) (by kernel_rfl) (by exact fun _ _ _ h => h) (Or.inl ⟨by rfl, by (intro w hSw; (try dsimp only at hSw); go_simp; try (with_reducible rfl))⟩) (by assumption) ?_
          try simp only [Act.put, List.setIfInBounds_toArray, List.set_cons_zero, List.set_cons_succ]
          refine wpAnyH_take (i := 6) (v := _) (by simp only [List.getElem?_toArray, List.getElem?_cons_succ, List.getElem?_cons_zero]; rfl) (by kernel_rfl) (by kernel_rfl) (by kernel_rfl) (by exact fun _ _ _ h => h) (Or.inl ⟨by rfl, by (intro w hSw; (try dsimp only at hSw); go_simp; try (with_reducible rfl))⟩) (by assumption) ?_
          try simp only [Act.put, List.setIfInBounds_toArray, List.set_cons_zero, List.set_cons_succ]
          refine wpAnyH_take (i := 7) (v := _) (by simp only [List.getElem?_toArray, List.getElem?_cons_succ, List.getElem?_cons_zero]; rfl) (by kernel_rfl) (by kernel_rfl) (by kernel_rfl) (by exact fun _ _ _ h => h) (Or.inl ⟨by rfl, by (intro w hSw; (try dsimp only at hSw); go_simp; try (with_reducible rfl))⟩) (by assumption) ?_
          try simp only [Act.put, List.setIfInBounds_toArray, List.set_cons_zero, List.set_cons_succ]
          refine wpAnyH_take (i := 8) (v := _) (by simp only [List.getElem?_toArray, List.getElem?_cons_succ, List.getElem?_cons_zero]; rfl) (by kernel_rfl) (by kernel_rfl) (by kernel_rfl) (by exact fun _ _ _ h => h) (Or.inl ⟨by rfl, by (intro w hSw; (try dsimp only at hSw); go_simp; try (with_reducible rfl))⟩) (by assumption) ?_
          try simp only [Act.put, List.setIfInBounds_toArray, List.set_cons_zero, List.set_cons_succ]
          refine wpAnyH_take (i := 9) (v := _) (by simp only [List.getElem?_toArray, List.getElem?_cons_succ, List.getElem?_cons_zero]; rfl) (by kernel_rfl) (by kernel_rfl) (by kernel_rfl) (by exact fun _ _ _ h => h) (Or.inl ⟨by rfl, by (intro w hSw; (try dsimp only at hSw); go_simp; try (with_reducible rfl))⟩) (by assumption) ?_
          try simp only [Act.put, List.setIfInBounds_toArray, List.set_cons_zero, List.set_cons_succ]
          refine wpAnyH_ready (rs := [10]) (by kernel_rfl) (by simp) ?_
          refine AllReadyH.cons (by simp only [List.getElem?_toArray, List.getElem?_cons_succ, List.getElem?_cons_zero]; rfl) (fun K hK => ?_) (AllReadyH.nil)
          go_simp
          refine hK.out _ _ (by exact KA.out _) (fun hHeldz11 => ?_)
          clear hK K hHeld
          try simp only [Act.put, List.setIfInBounds_toArray, List.set_cons_zero, List.set_cons_succ]
          refine wpAnyH_ready (rs := [11]) (by kernel_rfl) (by simp) ?_
          refine AllReadyH.cons (by simp only [List.getElem?_toArray, List.getElem?_cons_succ, List.getElem?_cons_zero]; rfl) (fun K hK => ?_) (AllReadyH.nil)
          go_simp
          refine hK.out _ _ (by exact KA.out _) (fun hHeldz12 => ?_)
          clear hK K hHeldz11
          try simp only [Act.put, List.setIfInBounds_toArray, List.set_cons_zero, List.set_cons_succ]
          refine wpAnyH_done (by kernel_rfl) ?_ _
          skip
          clear q1 q2 q3 q4 q5 KA
          generalize hW7 : World.drew _ = W7
          obtain ⟨bs, hbs⟩ : ∃ b, b = W5.heap.size := ⟨_, rfl⟩
          have hb7 : Below W5.heap.size W5 W7 := by rw [← hW7]; exact ((Below.refl _ W5).alloc (Nat.le_refl _) _).drew
          have HGS7 : Hid (W7.heap[bs]? = some (.cells #[fN (sumJ y f col 0)] T8 (0, 0))) := by show _ = _; rw [← hW7, hbs, sumJ_zero]; exact heap_alloc_new W5 _
          have HB7 := Lib.hid hb7
          have HB07 : Hid (Below w.heap.size w W7) := HB05.out.trans (hb7.mono HB05.out.size)
          have HB37 : Hid (Below W3.heap.size W3 W7) := HB35.out.trans (hb7.mono HB35.out.size)
          have HBS := Lib.hid hbs
          have HKW : Hid (∀ V, But (fun i => i = bs) W7 V → ∀ (a : Addr) (v : Value), W5.cell? a = some v → V.cell? a = some v) := fun V hv a v h => by
            have hlt := World.block_lt_of_cell? W5 a h
            have h7 := (World.cell?_of_block (hb7.block _ hlt)).trans h
            exact (World.cell?_of_block (hv.block _ (Nat.lt_of_lt_of_le hlt hb7.size) (by rw [hbs]; exact Nat.ne_of_lt hlt))).trans h7
          rw [← hbs]
          have q2 : W7.cell? ⟨bf, 0, none⟩ = some (.slice fa d fc) := HKW.out W7 (But.refl _ _) _ _ (one_cell HGF.out)
          clear hW7 hb7 hbs
          go_upto_region 9 with fail
          go_upto_region 10 with fail
          clear q2
          have HZ7 : Hid (But (fun i => i = bs) W7 W7) := But.refl _ _
          obtain ⟨W8, hW8⟩ : ∃ W8, W8 = wr := ⟨_, rfl⟩
          subst hW8
          go_loopw [40] (fun i wr => ∃ j : Nat, j ≤ d ∧ i = .int .i64 j ∧ Hid (But (fun i => i = bs) W7 wr) ∧ Hid (wr.heap[bs]? = some (.cells #[fN (sumJ y f col j)] T8 (0, 0)))) (fun i _ => d - (intOf i).toNat)
          case atStart => exact ⟨0, Nat.zero_le _, rfl, HZ7, HGS7⟩
          case round =>
            clear HZ7 HGS7
            obtain ⟨j, hj, rfl, HBj, HGj⟩ := hrel
            by_cases hjd : j < d
            · have hjI : (j : Int) < (d : Int) := by omega
              obtain ⟨fb, fo, x, hfa, _, hxf, hcx⟩ := HSF.out.2.at_ (k := j) (by rw [HFL.out.1]; exact hjd)
              subst hfa
              have hjn : j < n := by have := HN.out; omega
              obtain ⟨pb', po', ta, tc, pj, hA1, hpj, hcj, hsj⟩ := (H1.out.up HB05.out HBB.out).cell hjn
              injection hA1 with hA1
              injection hA1 with e1 e2 _
              subst e1 e2
              have hpo := HPO.out.get hpj
              rw [hpo.1] at hcj hsj
              obtain ⟨z, hz⟩ := get_ex (xs := pj) (k := place) (by rw [hpo.1]; exact HPP.out)
              obtain ⟨tb, tz, rfl, htb, htat⟩ := hsj.2 (by have := HPP.out; have := hpo.1; omega)
              have hcz := htat place z hz
              have hcolj : col[j]? = some z := by
                rw [← HCOL.out]
                unfold colP
                rw [List.getElem?_map, List.getElem?_take_of_lt hjd, hpj]
                show some (pj.getD place 0) = _
                rw [getD_some hz]
              have HST := Lib.hid (sumJ_step (s0 := y) hxf hcolj)
              have hy2 : y < 256 := HY.out
              have HAD := Lib.hid (fitsAdd_any bs bf w.heap.size bl j (sumJ y f col j) x z place d n len fb fo fc pb po c tb tz tc wr HGj.out (HKW.out wr HBj.out _ _ (one_cell HGF.out)) (HKW.out wr HBj.out _ _ (one_cell HGP5.out)) (HKW.out wr HBj.out _ _ (one_cell HGL5.out)) (HKW.out wr HBj.out _ _ hcx) (HKW.out wr HBj.out _ _ hcj) (HKW.out wr HBj.out _ _ hcz) (sumJ_lt hy2 HFL.out.2 j) (HFL.out.2 x (List.mem_of_getElem? hxf)) (hpo.2 z (List.mem_of_getElem? hz)) hjd hjn HPP.out)
              clear hxf hcx hjn hpj hcj hsj hpo hz htb htat hcz hcolj hy2
              go_wp2_with (go_at_call 40; (with_reducible refine HAD.out.mono ?_); rintro e w9 ⟨rfl, hg9, hb9⟩; (have HG9 := Lib.hid hg9); (have HB9 := Lib.hid hb9); clear hg9 hb9)
              rw [← HST.out] at HG9
              go_roundw
              case rel => exact ⟨j + 1, by omega, by go_num, HBj.out.trans HB9.out (fun i hi => .inl hi), HG9⟩
              case measure => simp [intOf]; omega
            · obtain rfl : j = d := by omega
              have hfin := sumJ_all (s0 := y) HFL.out.1 HCL.out
              rw [hfin] at HGj
              have hcs := one_cell HGj.out
              have HOK0 : Hid (okP len j P F → y ^^^ dotN f col = 0) := fun g => by
                rw [← HCOL.out]
                exact sum_ok HPO.out HFK.out HFL.out.1 HPP.out HS0.out g
              obtain ⟨v, hv⟩ : ∃ v, y ^^^ dotN f col = v := ⟨_, rfl⟩
              rw [hv] at hcs HOK0
              have HB3w : Hid (Below W3.heap.size W3 wr) := HBj.out.below HB37.out HB37.out.size (fun i hi => by subst hi; rw [HBS.out]; exact HB35.out.size)
              have HB0w : Hid (Below w.heap.size w wr) := HBj.out.below HB07.out HB07.out.size (fun i hi => by subst hi; rw [HBS.out]; exact HB05.out.size)
              clear hfin hv
              by_cases hv0 : v = 0
              · subst hv0
                go_wp2_with fail
                go_roundw
                case rel => exact ⟨k + 1, by omega, by go_num, HB3w⟩
                case measure => simp [intOf]; omega
              · have h2a : ((v : Int) == 0) = false := by simp; omega
                have h2b : ((v : Int) != 0) = true := by simp; omega
                have HNV := Lib.hid hv0
                clear hv0
                go_wp2_with fail
                go_ret
                exact ⟨false, rfl, fun g => absurd (HOK0.out g) HNV.out, HB0w.out⟩
        · obtain rfl : k = q := by omega
          go_wp2_with fail
          go_roundw
          case rel => exact ⟨kp + 1, by omega, by go_num, HB14⟩
          case measure => simp [intOf]; omega
    · obtain rfl : kp = np := by omega
      go_wp2_with fail
      go_ret
      exact ⟨true, rfl, fun _ => rfl, HBw.out⟩
end Go.Proofs.Ytpbeaghghlfiaaa
