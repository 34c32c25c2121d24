/- Root of leaves, both. -/
import Derived.Test.YtpdledjgbgalcaaGreatDoorPf
import Derived.StillTailTactics
import Derived.Deep.RegionHeld3
namespace Go.Proofs.YtpdledjgbgalcaaGreatDoor
open Go.RowKit Go.Lib
set_option linter.unusedVariables false
set_option linter.unusedSimpArgs false
/-- The root of leaves. -/
def rootF : Nat → List ByteArray → ByteArray
  | 0, _ => baOf (shaB [])
  | k + 1, ls => if ls.length ≤ 1 then ls.headD ⟨#[]⟩ else ndS (rootF k (ls.take (spl ls.length))) (rootF k (ls.drop (spl ls.length)))
theorem rootF_size : ∀ (k : Nat) (ls : List ByteArray), (∀ s ∈ ls, s.size = 32) → 1 ≤ ls.length → (rootF k ls).size = 32
  | 0, ls, _, _ => by
    unfold rootF
    rw [← sB_len, baOf_sB (shaB_byt _), shaB_len]
  | k + 1, ls, h, h1 => by
    rw [rootF]
    split
    · cases ls with
      | nil => simp at h1
      | cons a t => exact h a List.mem_cons_self
    · exact ndS_size _ _
theorem run_slice_hi {P : Program} (t e : Nat) (i : TypeInfo) (ht : P.underlying t = some (.slice e)) (hi : P.info? e = some i) (hs : i.size = 1) (A : Option Addr) (n c : Nat) (h : Nat) (h2 : h ≤ c) (w : World) :
    (Instr.slice t (.slice A n c) none (some (.int .i64 (h : Int))) none).run P w = .ok (.slice (if c = 0 then A else A.map (·.add 0)) h c) w := by
  simp [Instr.slice, run_underlying ht, Instr.sliceBounds, run_sliceBound w .i64 (h : Int) c _ (by omega) (by omega), sizeOf, typeInfo, hi, hs]
theorem Sl.partT {w : World} {B n c : Nat} {A : Option Addr} {xs : List ByteArray} (h : Sl fT w B A n xs) (l k : Nat) (hl : l + k ≤ n) (hc : n ≤ c) : Sl fT w B (if c = l then A else A.map (·.add l)) k ((xs.drop l).take k) := by
  have h1 := h.1
  refine ⟨by rw [List.length_take, List.length_drop]; omega, ?_⟩
  exact ((h.2.cut (n := l) (cap := c) (by omega)).take_ k)
set_option maxRecDepth 100000 in
set_option maxHeartbeats 8000000 in
theorem mroot_any : ∀ (k : Nat) (A : Option Addr) (n c B : Nat) (ls : List ByteArray) (w : World) (hG : Glob w), Sl fT w B A n ls → B ≤ w.heap.size → n ≤ c → ls.length ≤ k → 1 ≤ n → n ≤ 256 → (∀ s ∈ ls, s.size = 32) →
    Calls Tryz.prog 102 #[.slice A n c] w fun e w' => e = .returned (.string (rootF k ls)) ∧ Below w.heap.size w w'
  | 0, A, n, c, B, ls, w, hG, hx, hB, hc, hk, h1, h2, hs => by have := hx.1; omega
  | k + 1, A, n, c, B, ls, w, hG, hx, hB, hc, hk, h1, h2, hs => by
    have hl : ls.length = n := hx.1
    by_cases hn1 : n = 1
    · subst hn1
      obtain ⟨b1, o1, x, rfl, _, hg, hcc⟩ := hx.2.at_ (k := 0) (by omega)
      have HV : Hid (rootF (k + 1) ls = x) := by
        show _ = _
        rw [rootF, if_pos (by omega)]
        cases ls with
        | nil => cases hg
        | cons a t => simpa using hg
      rw [Nat.add_zero] at hcc
      clear hx hg hs hl
      go_enter Tryz.func102, Tryz.ntmps102
      go_wp2
      go_ret
      exact ⟨by rw [HV.out]; rfl, Below.refl _ _⟩
    · obtain ⟨f1, f2, f3, f4, f5⟩ := spl_facts (n := n) (by omega) h2
      have HV : Hid (rootF (k + 1) ls = ndS (rootF k (ls.take (spl n))) (rootF k (ls.drop (spl n)))) := by
        show _ = _
        rw [rootF, if_neg (by omega), hl]
      obtain ⟨p, hp⟩ : ∃ p, spl n = p := ⟨_, rfl⟩
      have HSPL := Lib.hid (fun W => msplit_any n (by omega) h2 W)
      rw [hp] at HSPL HV f3 f4 f5
      obtain ⟨iS, hS0, _, hS1, _⟩ := info_parts Tryz.infoS
      obtain ⟨A1, hA1⟩ : ∃ A1, (if c = 0 then A else A.map (·.add 0)) = A1 := ⟨_, rfl⟩
      obtain ⟨A2, hA2⟩ : ∃ A2, (if c = p then A else A.map (·.add p)) = A2 := ⟨_, rfl⟩
      have hsl1 := run_slice_hi (P := Tryz.prog) 24 9 iS Tryz.underlying24 hS0 hS1 A n c p (by omega)
      have hsl2 := fun W => run_slice_from (P := Tryz.prog) 24 9 iS Tryz.underlying24 hS0 hS1 A n c .i64 p p rfl (by omega) hc W
      rw [hA1] at hsl1
      rw [hA2] at hsl2
      have HX1 : Hid (∀ W, Below w.heap.size w W → Sl fT W B A1 p (ls.take p)) := fun W hb => by
        have := (hx.up hb hB).partT (c := c) 0 p (by omega) hc
        rw [hA1, List.drop_zero] at this
        exact this
      have HX2 : Hid (∀ W, Below w.heap.size w W → Sl fT W B A2 (n - p) (ls.drop p)) := fun W hb => by
        have := (hx.up hb hB).partT (c := c) p (n - p) (by omega) hc
        rw [hA2, List.take_of_length_le (by rw [List.length_drop]; omega)] at this
        exact this
      have HR1 : Hid (∀ W, Below w.heap.size w W → Calls Tryz.prog 102 #[.slice A1 p c] W fun e w' => e = .returned (.string (rootF k (ls.take p))) ∧ Below W.heap.size W w') := fun W hb =>
        mroot_any k A1 p c B (ls.take p) W (hG.on hb) (HX1.out W hb) (Nat.le_trans hB hb.size) (by omega) (by rw [List.length_take]; omega) f3 (by omega) (fun s h => hs s (List.mem_of_mem_take h))
      have HR2 : Hid (∀ W, Below w.heap.size w W → Calls Tryz.prog 102 #[.slice A2 (n - p) (c - p)] W fun e w' => e = .returned (.string (rootF k (ls.drop p))) ∧ Below W.heap.size W w') := fun W hb =>
        mroot_any k A2 (n - p) (c - p) B (ls.drop p) W (hG.on hb) (HX2.out W hb) (Nat.le_trans hB hb.size) (by omega) (by rw [List.length_drop]; omega) (by omega) (by omega) (fun s h => hs s (List.mem_of_mem_drop h))
      have hz1 : (rootF k (ls.take p)).size = 32 := rootF_size k _ (fun s h => hs s (List.mem_of_mem_take h)) (by rw [List.length_take]; omega)
      have hz2 : (rootF k (ls.drop p)).size = 32 := rootF_size k _ (fun s h => hs s (List.mem_of_mem_drop h)) (by rw [List.length_drop]; omega)
      obtain ⟨ra, hra⟩ : ∃ r, rootF k (ls.take p) = r := ⟨_, rfl⟩
      obtain ⟨rb, hrb⟩ : ∃ r, rootF k (ls.drop p) = r := ⟨_, rfl⟩
      rw [hra] at HR1 HV hz1
      rw [hrb] at HR2 HV hz2
      have HND : Hid (∀ W, Below w.heap.size w W → Calls Tryz.prog 168 #[.string ra, .string rb] W fun e w' => e = .returned (.string (ndS ra rb)) ∧ Below W.heap.size W w') := fun W hb => mnode_any ra rb W (hG.on hb) (by omega) (by omega)
      have hn0 : ((n : Int) == 0) = false := by simp; omega
      have hn11 : ((n : Int) == 1) = false := by simp; omega
      have hpn : (p : Int) ≤ (n : Int) := by omega
      have HB : Hid (Below w.heap.size w w) := Below.refl _ _
      clear hx hra hrb hz1 hz2 hA1 hA2 HX1 HX2 hs hS0 hS1 hp f1 f2 hG
      go_enter Tryz.func102, Tryz.ntmps102
      go_upto_region 7 with (go_at_call 167; (with_reducible refine (HSPL.out _).mono ?_); rintro e W1 ⟨rfl, rfl⟩)
      refine wp_region_held_drew (S := (fun _ => True)) (by kernel_rfl) (by trivial) (fun hHeld => ?_)
      refine tkH (i := 0) (v := ?r0v) (y := (Or.inl ⟨by rfl, ?r0y⟩)) (h := ?r0r)
      case r0y => (intro w hSw; (try dsimp only at hSw); go_simp; try (with_reducible rfl))
      try simp only [pt]
      refine tkH (i := 1) (v := ?r1v) (y := (Or.inl ⟨by rfl, ?r1y⟩)) (h := ?r1r)
      case r1y => (intro w hSw; (try dsimp only at hSw); go_simp; try (with_reducible rfl))
      try simp only [pt]
      refine tkH (i := 2) (v := ?r2v) (y := (Or.inl ⟨by rfl, ?r2y⟩)) (h := ?r2r)
      case r2y => (intro w hSw; (try dsimp only at hSw); go_simp; try (with_reducible rfl))
      try simp only [pt]
      refine tkH (i := 4) (v := ?r3v) (y := (Or.inl ⟨by rfl, ?r3y⟩)) (h := ?r3r)
      case r3y => (intro w hSw; (try dsimp only at hSw); go_simp; try (with_reducible rfl))
      try simp only [pt]
      refine tkH (i := 5) (v := ?r4v) (y := (Or.inl ⟨by rfl, ?r4y⟩)) (h := ?r4r)
      case r4y => (intro w hSw; (try dsimp only at hSw); go_simp; try (with_reducible rfl))
      try simp only [pt]
      refine tkH (i := 6) (v := ?r5v) (y := (Or.inl ⟨by rfl, ?r5y⟩)) (h := ?r5r)
      case r5y => (intro w hSw; (try dsimp only at hSw); go_simp; try (with_reducible rfl))
      try simp only [pt]
      refine wpAnyH_ready (rs := [3]) (by kernel_rfl) (by simp) ?_
      refine AllReadyH.cons (by simp only [List.getElem?_toArray, List.getElem?_cons_succ, List.getElem?_cons_zero]; rfl) (fun K hK => ?_) (AllReadyH.nil)
      (go_simp; go_at_call 102; (with_reducible refine (HR1.out _ (by repeat (first | exact HB.out | exact Below.refl _ _ | refine Below.drew ?_ | refine below_dN' ?_ _ | refine below_drewN' ?_ _))).mono ?_); rintro e W6 ⟨rfl, b6⟩; (have HB : Hid (Below w.heap.size w W6) := (Below.trans (B := w.heap.size) (by repeat (first | exact HB.out | exact Below.refl _ _ | refine Below.drew ?_ | refine below_dN' ?_ _ | refine below_drewN' ?_ _)) (b6.mono (by first | exact HB.out.size | exact Nat.le_refl _)))); clear b6; go_wp2_with fail)
      refine hK.out _ _ (by trivial) (fun hHeldr6 => ?_)
      clear hK K hHeld
      try simp only [pt]
      refine wpAnyH_ready (rs := [7]) (by kernel_rfl) (by simp) ?_
      refine AllReadyH.cons (by simp only [List.getElem?_toArray, List.getElem?_cons_succ, List.getElem?_cons_zero]; rfl) (fun K hK => ?_) (AllReadyH.nil)
      (go_simp; go_at_call 102; (with_reducible refine (HR2.out _ (by repeat (first | exact HB.out | exact Below.refl _ _ | refine Below.drew ?_ | refine below_dN' ?_ _ | refine below_drewN' ?_ _))).mono ?_); rintro e W6 ⟨rfl, b6⟩; (have HB : Hid (Below w.heap.size w W6) := (Below.trans (B := w.heap.size) (by repeat (first | exact HB.out | exact Below.refl _ _ | refine Below.drew ?_ | refine below_dN' ?_ _ | refine below_drewN' ?_ _)) (b6.mono (by first | exact HB.out.size | exact Nat.le_refl _)))); clear b6; go_wp2_with fail)
      refine hK.out _ _ (by trivial) (fun hHeldr7 => ?_)
      clear hK K hHeldr6
      try simp only [pt]
      refine wpAnyH_ready (rs := [8]) (by kernel_rfl) (by simp) ?_
      refine AllReadyH.cons (by simp only [List.getElem?_toArray, List.getElem?_cons_succ, List.getElem?_cons_zero]; rfl) (fun K hK => ?_) (AllReadyH.nil)
      (go_simp; go_at_call 168; (with_reducible refine (HND.out _ (by repeat (first | exact HB.out | exact Below.refl _ _ | refine Below.drew ?_ | refine below_dN' ?_ _ | refine below_drewN' ?_ _))).mono ?_); rintro e W6 ⟨rfl, b6⟩; (have HB : Hid (Below w.heap.size w W6) := (Below.trans (B := w.heap.size) (by repeat (first | exact HB.out | exact Below.refl _ _ | refine Below.drew ?_ | refine below_dN' ?_ _ | refine below_drewN' ?_ _)) (b6.mono (by first | exact HB.out.size | exact Nat.le_refl _)))); clear b6; go_wp2_with fail)
      refine hK.out _ _ (by trivial) (fun hHeldr8 => ?_)
      clear hK K hHeldr7
      try simp only [pt]
      refine tkH (i := 9) (v := ?r9v) (y := (Or.inl ⟨by rfl, ?r9y⟩)) (h := ?r9r)
      case r9y => (intro w hSw; (try dsimp only at hSw); go_simp; try (with_reducible rfl))
      try simp only [pt]
      refine wpAnyH_done (by kernel_rfl) ?_ _
      go_wp2_with fail
      go_ret
      exact ⟨by rw [HV.out]; rfl, HB.out⟩
set_option maxRecDepth 100000 in
set_option maxHeartbeats 8000000 in
theorem rroot_any : ∀ (k : Nat) (A : Option Addr) (n c B : Nat) (ls : List ByteArray) (w : World) , Sl fT w B A n ls → B ≤ w.heap.size → n ≤ c → ls.length ≤ k → 1 ≤ n → n ≤ 256 → (∀ s ∈ ls, s.size = 32) →
    Calls Tryz.prog 65 #[.slice A n c] w fun e w' => e = .returned (.string (rootF k ls)) ∧ Below w.heap.size w w'
  | 0, A, n, c, B, ls, w, hx, hB, hc, hk, h1, h2, hs => by have := hx.1; omega
  | k + 1, A, n, c, B, ls, w, hx, hB, hc, hk, h1, h2, hs => by
    have hl : ls.length = n := hx.1
    by_cases hn1 : n = 1
    · subst hn1
      obtain ⟨b1, o1, x, rfl, _, hg, hcc⟩ := hx.2.at_ (k := 0) (by omega)
      have HV : Hid (rootF (k + 1) ls = x) := by
        show _ = _
        rw [rootF, if_pos (by omega)]
        cases ls with
        | nil => cases hg
        | cons a t => simpa using hg
      rw [Nat.add_zero] at hcc
      clear hx hg hs hl
      go_enter Tryz.func65, Tryz.ntmps65
      go_wp2
      go_ret
      exact ⟨by rw [HV.out]; rfl, Below.refl _ _⟩
    · obtain ⟨f1, f2, f3, f4, f5⟩ := spl_facts (n := n) (by omega) h2
      have HV : Hid (rootF (k + 1) ls = ndS (rootF k (ls.take (spl n))) (rootF k (ls.drop (spl n)))) := by
        show _ = _
        rw [rootF, if_neg (by omega), hl]
      obtain ⟨p, hp⟩ : ∃ p, spl n = p := ⟨_, rfl⟩
      have HSPL := Lib.hid (fun W => rsplit_any n (by omega) h2 W)
      rw [hp] at HSPL HV f3 f4 f5
      obtain ⟨iS, hS0, _, hS1, _⟩ := info_parts Tryz.infoS
      obtain ⟨A1, hA1⟩ : ∃ A1, (if c = 0 then A else A.map (·.add 0)) = A1 := ⟨_, rfl⟩
      obtain ⟨A2, hA2⟩ : ∃ A2, (if c = p then A else A.map (·.add p)) = A2 := ⟨_, rfl⟩
      have hsl1 := run_slice_hi (P := Tryz.prog) 24 9 iS Tryz.underlying24 hS0 hS1 A n c p (by omega)
      have hsl2 := fun W => run_slice_from (P := Tryz.prog) 24 9 iS Tryz.underlying24 hS0 hS1 A n c .i64 p p rfl (by omega) hc W
      rw [hA1] at hsl1
      rw [hA2] at hsl2
      have HX1 : Hid (∀ W, Below w.heap.size w W → Sl fT W B A1 p (ls.take p)) := fun W hb => by
        have := (hx.up hb hB).partT (c := c) 0 p (by omega) hc
        rw [hA1, List.drop_zero] at this
        exact this
      have HX2 : Hid (∀ W, Below w.heap.size w W → Sl fT W B A2 (n - p) (ls.drop p)) := fun W hb => by
        have := (hx.up hb hB).partT (c := c) p (n - p) (by omega) hc
        rw [hA2, List.take_of_length_le (by rw [List.length_drop]; omega)] at this
        exact this
      have HR1 : Hid (∀ W, Below w.heap.size w W → Calls Tryz.prog 65 #[.slice A1 p c] W fun e w' => e = .returned (.string (rootF k (ls.take p))) ∧ Below W.heap.size W w') := fun W hb =>
        rroot_any k A1 p c B (ls.take p) W (HX1.out W hb) (Nat.le_trans hB hb.size) (by omega) (by rw [List.length_take]; omega) f3 (by omega) (fun s h => hs s (List.mem_of_mem_take h))
      have HR2 : Hid (∀ W, Below w.heap.size w W → Calls Tryz.prog 65 #[.slice A2 (n - p) (c - p)] W fun e w' => e = .returned (.string (rootF k (ls.drop p))) ∧ Below W.heap.size W w') := fun W hb =>
        rroot_any k A2 (n - p) (c - p) B (ls.drop p) W (HX2.out W hb) (Nat.le_trans hB hb.size) (by omega) (by rw [List.length_drop]; omega) (by omega) (by omega) (fun s h => hs s (List.mem_of_mem_drop h))
      have hz1 : (rootF k (ls.take p)).size = 32 := rootF_size k _ (fun s h => hs s (List.mem_of_mem_take h)) (by rw [List.length_take]; omega)
      have hz2 : (rootF k (ls.drop p)).size = 32 := rootF_size k _ (fun s h => hs s (List.mem_of_mem_drop h)) (by rw [List.length_drop]; omega)
      obtain ⟨ra, hra⟩ : ∃ r, rootF k (ls.take p) = r := ⟨_, rfl⟩
      obtain ⟨rb, hrb⟩ : ∃ r, rootF k (ls.drop p) = r := ⟨_, rfl⟩
      rw [hra] at HR1 HV hz1
      rw [hrb] at HR2 HV hz2
      have HND : Hid (∀ W, Below w.heap.size w W → Calls Tryz.prog 125 #[.string ra, .string rb] W fun e w' => e = .returned (.string (ndS ra rb)) ∧ Below W.heap.size W w') := fun W hb => rnode_any ra rb W (by omega) (by omega)
      have hn0 : ((n : Int) == 0) = false := by simp; omega
      have hn11 : ((n : Int) == 1) = false := by simp; omega
      have hpn : (p : Int) ≤ (n : Int) := by omega
      have HB : Hid (Below w.heap.size w w) := Below.refl _ _
      clear hx hra hrb hz1 hz2 hA1 hA2 HX1 HX2 hs hS0 hS1 hp f1 f2 
      go_enter Tryz.func65, Tryz.ntmps65
      go_upto_region 7 with (go_at_call 124; (with_reducible refine (HSPL.out _).mono ?_); rintro e W1 ⟨rfl, rfl⟩)
      refine wp_region_held_drew (S := (fun _ => True)) (by kernel_rfl) (by trivial) (fun hHeld => ?_)
      refine tkH (i := 0) (v := ?r0v) (y := (Or.inl ⟨by rfl, ?r0y⟩)) (h := ?r0r)
      case r0y => (intro w hSw; (try dsimp only at hSw); go_simp; try (with_reducible rfl))
      try simp only [pt]
      refine tkH (i := 1) (v := ?r1v) (y := (Or.inl ⟨by rfl, ?r1y⟩)) (h := ?r1r)
      case r1y => (intro w hSw; (try dsimp only at hSw); go_simp; try (with_reducible rfl))
      try simp only [pt]
      refine tkH (i := 2) (v := ?r2v) (y := (Or.inl ⟨by rfl, ?r2y⟩)) (h := ?r2r)
      case r2y => (intro w hSw; (try dsimp only at hSw); go_simp; try (with_reducible rfl))
      try simp only [pt]
      refine tkH (i := 4) (v := ?r3v) (y := (Or.inl ⟨by rfl, ?r3y⟩)) (h := ?r3r)
      case r3y => (intro w hSw; (try dsimp only at hSw); go_simp; try (with_reducible rfl))
      try simp only [pt]
      refine tkH (i := 5) (v := ?r4v) (y := (Or.inl ⟨by rfl, ?r4y⟩)) (h := ?r4r)
      case r4y => (intro w hSw; (try dsimp only at hSw); go_simp; try (with_reducible rfl))
      try simp only [pt]
      refine tkH (i := 6) (v := ?r5v) (y := (Or.inl ⟨by rfl, ?r5y⟩)) (h := ?r5r)
      case r5y => (intro w hSw; (try dsimp only at hSw); go_simp; try (with_reducible rfl))
      try simp only [pt]
      refine wpAnyH_ready (rs := [3]) (by kernel_rfl) (by simp) ?_
      refine AllReadyH.cons (by simp only [List.getElem?_toArray, List.getElem?_cons_succ, List.getElem?_cons_zero]; rfl) (fun K hK => ?_) (AllReadyH.nil)
      (go_simp; go_at_call 65; (with_reducible refine (HR1.out _ (by repeat (first | exact HB.out | exact Below.refl _ _ | refine Below.drew ?_ | refine below_dN' ?_ _ | refine below_drewN' ?_ _))).mono ?_); rintro e W6 ⟨rfl, b6⟩; (have HB : Hid (Below w.heap.size w W6) := (Below.trans (B := w.heap.size) (by repeat (first | exact HB.out | exact Below.refl _ _ | refine Below.drew ?_ | refine below_dN' ?_ _ | refine below_drewN' ?_ _)) (b6.mono (by first | exact HB.out.size | exact Nat.le_refl _)))); clear b6; go_wp2_with fail)
      refine hK.out _ _ (by trivial) (fun hHeldr6 => ?_)
      clear hK K hHeld
      try simp only [pt]
      refine wpAnyH_ready (rs := [7]) (by kernel_rfl) (by simp) ?_
      refine AllReadyH.cons (by simp only [List.getElem?_toArray, List.getElem?_cons_succ, List.getElem?_cons_zero]; rfl) (fun K hK => ?_) (AllReadyH.nil)
      (go_simp; go_at_call 65; (with_reducible refine (HR2.out _ (by repeat (first | exact HB.out | exact Below.refl _ _ | refine Below.drew ?_ | refine below_dN' ?_ _ | refine below_drewN' ?_ _))).mono ?_); rintro e W6 ⟨rfl, b6⟩; (have HB : Hid (Below w.heap.size w W6) := (Below.trans (B := w.heap.size) (by repeat (first | exact HB.out | exact Below.refl _ _ | refine Below.drew ?_ | refine below_dN' ?_ _ | refine below_drewN' ?_ _)) (b6.mono (by first | exact HB.out.size | exact Nat.le_refl _)))); clear b6; go_wp2_with fail)
      refine hK.out _ _ (by trivial) (fun hHeldr7 => ?_)
      clear hK K hHeldr6
      try simp only [pt]
      refine wpAnyH_ready (rs := [8]) (by kernel_rfl) (by simp) ?_
      refine AllReadyH.cons (by simp only [List.getElem?_toArray, List.getElem?_cons_succ, List.getElem?_cons_zero]; rfl) (fun K hK => ?_) (AllReadyH.nil)
      (go_simp; go_at_call 125; (with_reducible refine (HND.out _ (by repeat (first | exact HB.out | exact Below.refl _ _ | refine Below.drew ?_ | refine below_dN' ?_ _ | refine below_drewN' ?_ _))).mono ?_); rintro e W6 ⟨rfl, b6⟩; (have HB : Hid (Below w.heap.size w W6) := (Below.trans (B := w.heap.size) (by repeat (first | exact HB.out | exact Below.refl _ _ | refine Below.drew ?_ | refine below_dN' ?_ _ | refine below_drewN' ?_ _)) (b6.mono (by first | exact HB.out.size | exact Nat.le_refl _)))); clear b6; go_wp2_with fail)
      refine hK.out _ _ (by trivial) (fun hHeldr8 => ?_)
      clear hK K hHeldr7
      try simp only [pt]
      refine tkH (i := 9) (v := ?r9v) (y := (Or.inl ⟨by rfl, ?r9y⟩)) (h := ?r9r)
      case r9y => (intro w hSw; (try dsimp only at hSw); go_simp; try (with_reducible rfl))
      try simp only [pt]
      refine wpAnyH_done (by kernel_rfl) ?_ _
      go_wp2_with fail
      go_ret
      exact ⟨by rw [HV.out]; rfl, HB.out⟩
end Go.Proofs.YtpdledjgbgalcaaGreatDoor
