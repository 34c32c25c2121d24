/- New: the vaults, and the circle. -/
import Derived.Test.YtkeicjokekmkpaaGreatNw
namespace Go.Proofs.YtkeicjokekmkpaaGreat
open Go.RowKit Mb
set_option linter.unusedVariables false
set_option linter.unusedSimpArgs false

/-- All blocks of a row of vaults lie below a number. -/
def VLt (v : Value) (ps : List VP) (B : Nat) : Prop := (∀ k, v.ownBlock = some k → k < B) ∧ ∀ p ∈ ps, ∀ k, (fS p.2).ownBlock = some k → k < B
theorem VRow.vlt {w : World} {base : Nat} {v : Value} {ps : List VP} (h : VRow w base v ps) : VLt v ps w.heap.size := ⟨fun k hk => (World.ownsRow.lt h.row k hk).2, fun p hp k hk => (World.ownsRow.lt (h.ws p hp) k hk).2⟩
/-- A new circle. -/
def NewC (ms : List Mem) (vs : List Vlt) (q : Int) (w : World) (e : Ending) (w' : World) : Prop :=
  ∃ B1 bm B4 g vm vv vfm vfv ps1 ps2, e = .returned (.tuple #[fG g, .int .i64 0]) ∧ w'.heap[g]? = some (.cells #[vm, vv, .int .i64 q, .map (some bm), vfm, vfv, .slice none 0 0] 81 (0, 0)) ∧
    OwnN fM 5 40 w' w.heap.size vm ms ∧ (∀ k, vm.ownBlock = some k → k < B1) ∧ VRow w' B1 vv ps1 ∧ VLt vv ps1 bm ∧ ps1.map Prod.fst = vs ∧ w'.heap[bm]? = some (.map #[] 0) ∧
    OwnN fM 5 40 w' (bm + 1) vfm ms ∧ (∀ k, vfm.ownBlock = some k → k < B4) ∧ VRow w' B4 vfv ps2 ∧ VLt vfv ps2 g ∧ ps2.map Prod.fst = vs ∧ w.heap.size ≤ B1 ∧ B1 ≤ bm ∧ bm < B4 ∧ B4 ≤ g ∧ Below w.heap.size w w'

set_option maxRecDepth 20000 in
set_option maxHeartbeats 8000000 in
theorem new_yes (A A' : Option Addr) (n n' c c' : Nat) (q : Int) (ms : List Mem) (ps : List VP) (w : World) (hh : headB n n' q = true) (hcap : n ≤ c) (hx : SlN fM 5 w w.heap.size A n ms) (hsz : ∀ m ∈ ms, m.name.size ≤ 9223372036854775807 ∧ m.pub.size ≤ 9223372036854775807) (hv : VIn w w.heap.size A' n' ps)
    (hvz : ∀ p ∈ ps, p.2.n ≤ 9223372036854775807 ∧ p.1.print.size ≤ 9223372036854775807) (hm : memsB ms = true) (hvm : vltsB (ps.map Prod.fst) n = true) (hps : (ps.map Prod.fst).all (possB n) = true) : Calls Tryz.prog 19 #[.slice A n c, .slice A' n' c', .int .i64 q] w (NewC ms (ps.map Prod.fst) q w) := by
  unfold headB at hh
  simp only [Bool.and_eq_true, decide_eq_true_eq] at hh
  obtain ⟨h1, h2, h3, h4, h5⟩ := hh
  have e0 : ¬ (n : Int) < 1 := by omega
  have e1 : ¬ 12 < (n : Int) := by omega
  have e2 : ¬ 12 < (n' : Int) := by omega
  have e3 : ¬ q < 1 := by omega
  have e4 : ¬ 12 < q := by omega
  have f0 : decide ((n : Int) < 1) = false := by simp; omega
  have f1 : decide (12 < (n : Int)) = false := by simp; omega
  have f2 : decide (12 < (n' : Int)) = false := by simp; omega
  have f3 : decide (q < 1) = false := by simp; omega
  have f4 : decide (12 < q) = false := by simp; omega
  have HX := Lib.hid hx
  have HS := Lib.hid hsz
  have HM := Lib.hid hm
  have HVI := Lib.hid hv
  have HVZ := Lib.hid hvz
  have HWN : Hid (∀ p ∈ ps, p.2.n ≤ 1000000) := fun p hp => by
    have h1 := vlts_ws hvm p.1 (List.mem_map_of_mem hp)
    have h2 := (hv.2 p hp).1
    omega
  have HVM := Lib.hid hvm
  have HPS := Lib.hid hps
  have HLEN : Hid (ms.length = n) := hx.1
  have HLEV : Hid (ps.length = n') := hv.1.1
  have HB : Hid (Below w.heap.size w w) := Below.refl _ _
  clear hx hsz hm hv hvz hvm hps
  go_enter Tryz.func19, Tryz.ntmps19
  go_wp2
  go_loopw [38] (fun i wr => ∃ k : Nat, k ≤ n ∧ i = .int .i64 k ∧ Hid (Below w.heap.size w wr)) (fun i _ => n - (intOf i).toNat)
  case atStart => exact ⟨0, Nat.zero_le _, rfl, HB⟩
  case round =>
    obtain ⟨k, hk, rfl, HB0⟩ := hrel
    clear HB
    by_cases hlt : k < n
    · have hin := HX.out.up HB0.out (Nat.le_refl _)
      obtain ⟨b, off, x, rfl, hbB, hxk, hcell⟩ := hin.at_ hlt
      obtain ⟨c0, c1, c2, c3, c4⟩ := five hcell
      have hxs := HS.out x (List.mem_of_getElem? hxk)
      have HBA : Hid (Below wr.heap.size wr (wr.alloc (cM x))) := (Below.refl _ _).alloc (Nat.le_refl _) _
      have hok : okM ms k = true := by
        have h6 := HM.out
        unfold memsB at h6
        rw [List.all_eq_true] at h6
        exact h6 k (List.mem_range.2 (by rw [HLEN.out]; exact hlt))
      unfold okM at hok
      rw [hxk] at hok
      simp only [Bool.and_eq_true, Bool.not_eq_true'] at hok
      obtain ⟨hbm, hbt⟩ := hok
      have HVM2 : Hid (∀ W, Calls Tryz.prog 65 #[aM x, .int .i64 k] W (BoolB true W)) := fun W => hbm ▸ vmem_any x k W hxs.1 hxs.2
      have HTK : Hid (∀ W, Below wr.heap.size wr W → Calls Tryz.prog 66 #[.slice (some ⟨b, off, none⟩) k c, aM x] W (BoolB false W)) := fun W h => hbt ▸ taken_any x (some ⟨b, off, none⟩) k c (ms.take k) W (((hin.take_ hk).up h HB0.out.size).more (Nat.le_trans HB0.out.size h.size)) (by omega)
      have hk0 : (0 : Int) ≤ (k : Int) := by omega
      have hk1 : (k : Int) ≤ (n : Int) := by omega
      have hcc : (k : Int) ≤ (c : Int) := by omega
      clear hin hxk hxs hcell hbm hbt
      go_wp2_with ((refine wpList_store_new (o := ⟨none, .store 40 (.tmp 9) (.tmp 42), _, _, _, _⟩) rfl 40 (.tmp 9) (.tmp 42) rfl 40 _ (cMa x) rfl rfl Tryz.sizeM rfl (cMa_one _) ?_); clear c0 c1 c2 c3 c4)
      refine wp_region_noPanic ?_
      refine wp_region_held_drew (S := (fun w' => w'.cell? ⟨wr.heap.size, 0, none⟩ = some (.int .i64 x.dev) ∧ w'.cell? ⟨wr.heap.size, 1, none⟩ = some (.string x.name) ∧ w'.cell? ⟨wr.heap.size, 2, none⟩ = some (.string x.pub) ∧ w'.cell? ⟨wr.heap.size, 3, none⟩ = some (.int .i64 x.quota) ∧ w'.cell? ⟨wr.heap.size, 4, none⟩ = some (.bool x.exp))) (by kernel_rfl) (five_of (heap_alloc_new wr _)) (fun hHeld => ?_)
      refine wpAnyH_take (i := 0) (v := ?zqv0) (by simp only [List.getElem?_toArray, List.getElem?_cons_zero]; rfl) (by kernel_rfl) (by kernel_rfl) (by kernel_rfl) (by exact fun _ _ _ h => h) (Or.inl ⟨by rfl, ?zqy0⟩) (by assumption) ?zqr0
      case zqy0 => (intro w hSw; (try dsimp only at hSw); go_simp; try (with_reducible rfl))
      try simp only [Act.put, List.setIfInBounds_toArray, List.set_cons_zero, List.set_cons_succ]
      refine wpAnyH_take (i := 1) (v := ?zqv1) (by simp only [List.getElem?_toArray, List.getElem?_cons_succ, List.getElem?_cons_zero]; rfl) (by kernel_rfl) (by kernel_rfl) (by kernel_rfl) (by exact fun _ _ _ h => h) (Or.inl ⟨by rfl, ?zqy1⟩) (by assumption) ?zqr1
      case zqy1 => (intro w hSw; (try dsimp only at hSw); go_simp; try (with_reducible rfl))
      try simp only [Act.put, List.setIfInBounds_toArray, List.set_cons_zero, List.set_cons_succ]
      refine wpAnyH_ready (rs := [2]) (by kernel_rfl) (by simp) ?_
      refine AllReadyH.cons (by simp only [List.getElem?_toArray, List.getElem?_cons_succ, List.getElem?_cons_zero]; rfl) (fun K hK => ?_) AllReadyH.nil
      go_simp
      (with_reducible refine (HVM2.out _).mono ?_)
      rintro e w4 ⟨rfl, hb⟩
      (have HB4 : Hid (Below (wr.alloc (cM x)).heap.size (wr.alloc (cM x)) w4) := Below.trans (by first | exact Below.refl _ _ | exact (Below.refl _ _).drew | exact below_dN (Below.refl _ _) _) hb)
      (have HG4 : Hid (w4.heap[wr.heap.size]? = some (cM x)) := (HB4.out.block _ (by simp)).trans (heap_alloc_new wr _))
      clear hb
      go_wp2_with fail
      refine hK.out _ _ (five_of HG4.out) (fun hHeld1 => ?_)
      clear hK K hHeld
      try simp only [Act.put, List.setIfInBounds_toArray, List.set_cons_zero, List.set_cons_succ]
      refine wpAnyH_take (i := 3) (v := ?zqv3) (by simp only [List.getElem?_toArray, List.getElem?_cons_succ, List.getElem?_cons_zero]; rfl) (by kernel_rfl) (by kernel_rfl) (by kernel_rfl) (by exact fun _ _ _ h => h) (Or.inl ⟨by rfl, ?zqy3⟩) (by assumption) ?zqr3
      case zqy3 => (intro w hSw; (try dsimp only at hSw); go_simp; try (with_reducible rfl))
      try simp only [Act.put, List.setIfInBounds_toArray, List.set_cons_zero, List.set_cons_succ]
      refine wpAnyH_take (i := 4) (v := ?zqv4) (by simp only [List.getElem?_toArray, List.getElem?_cons_succ, List.getElem?_cons_zero]; rfl) (by kernel_rfl) (by kernel_rfl) (by kernel_rfl) (by exact fun _ _ _ h => h) (Or.inl ⟨by rfl, ?zqy4⟩) (by assumption) ?zqr4
      case zqy4 => (intro w hSw; (try dsimp only at hSw); go_simp; try (with_reducible rfl))
      try simp only [Act.put, List.setIfInBounds_toArray, List.set_cons_zero, List.set_cons_succ]
      refine wpAnyH_take (i := 5) (v := ?zqv5) (by simp only [List.getElem?_toArray, List.getElem?_cons_succ, List.getElem?_cons_zero]; rfl) (by kernel_rfl) (by kernel_rfl) (by kernel_rfl) (by exact fun _ _ _ h => h) (Or.inl ⟨by rfl, ?zqy5⟩) (by assumption) ?zqr5
      case zqy5 => (intro w hSw; (try dsimp only at hSw); go_simp; try (with_reducible rfl))
      try simp only [Act.put, List.setIfInBounds_toArray, List.set_cons_zero, List.set_cons_succ]
      refine wpAnyH_take (i := 6) (v := ?zqv6) (by simp only [List.getElem?_toArray, List.getElem?_cons_succ, List.getElem?_cons_zero]; rfl) (by kernel_rfl) (by kernel_rfl) (by kernel_rfl) (by exact fun _ _ _ h => h) (Or.inl ⟨by rfl, ?zqy6⟩) (by assumption) ?zqr6
      case zqy6 => (intro w hSw; (try dsimp only at hSw); go_simp; try (with_reducible rfl))
      try simp only [Act.put, List.setIfInBounds_toArray, List.set_cons_zero, List.set_cons_succ]
      refine wpAnyH_take (i := 7) (v := ?zqv7) (by simp only [List.getElem?_toArray, List.getElem?_cons_succ, List.getElem?_cons_zero]; rfl) (by kernel_rfl) (by kernel_rfl) (by kernel_rfl) (by exact fun _ _ _ h => h) (Or.inl ⟨by rfl, ?zqy7⟩) (by assumption) ?zqr7
      case zqy7 => (intro w hSw; (try dsimp only at hSw); go_simp; try (with_reducible rfl))
      try simp only [Act.put, List.setIfInBounds_toArray, List.set_cons_zero, List.set_cons_succ]
      refine wpAnyH_take (i := 8) (v := ?zqv8) (by simp only [List.getElem?_toArray, List.getElem?_cons_succ, List.getElem?_cons_zero]; rfl) (by kernel_rfl) (by kernel_rfl) (by kernel_rfl) (by exact fun _ _ _ h => h) (Or.inl ⟨by rfl, ?zqy8⟩) (by assumption) ?zqr8
      case zqy8 => (intro w hSw; (try dsimp only at hSw); go_simp; try (with_reducible rfl))
      try simp only [Act.put, List.setIfInBounds_toArray, List.set_cons_zero, List.set_cons_succ]
      refine wpAnyH_ready (rs := [9]) (by kernel_rfl) (by simp) ?_
      refine AllReadyH.cons (by simp only [List.getElem?_toArray, List.getElem?_cons_succ, List.getElem?_cons_zero]; rfl) (fun K hK => ?_) AllReadyH.nil
      go_simp
      (with_reducible refine (HTK.out _ (HBA.out.trans (HB4.out.mono HBA.out.size))).mono ?_)
      rintro e w5 ⟨rfl, hb⟩
      (have HB5 : Hid (Below (wr.alloc (cM x)).heap.size (wr.alloc (cM x)) w5) := HB4.out.trans (hb.mono HB4.out.size))
      (have HG5 : Hid (w5.heap[wr.heap.size]? = some (cM x)) := (HB5.out.block _ (by simp)).trans (heap_alloc_new wr _))
      clear hb
      go_wp2_with fail
      refine hK.out _ _ (five_of HG5.out) (fun hHeld2 => ?_)
      clear hK K hHeld1
      try simp only [Act.put, List.setIfInBounds_toArray, List.set_cons_zero, List.set_cons_succ]
      refine wpAnyH_take (i := 10) (v := ?zqv10) (by simp only [List.getElem?_toArray, List.getElem?_cons_succ, List.getElem?_cons_zero]; rfl) (by kernel_rfl) (by kernel_rfl) (by kernel_rfl) (by exact fun _ _ _ h => h) (Or.inl ⟨by rfl, ?zqy10⟩) (by assumption) ?zqr10
      case zqy10 => (intro w hSw; (try dsimp only at hSw); go_simp; try (with_reducible rfl))
      try simp only [Act.put, List.setIfInBounds_toArray, List.set_cons_zero, List.set_cons_succ]
      refine wpAnyH_done (by kernel_rfl) ?_ _
      refine NoPanic.normal ?_
      go_wp2
      go_roundw
      case rel => exact ⟨k + 1, by omega, by go_num, HB0.out.trans ((HBA.out.trans (HB5.out.mono HBA.out.size)).mono HB0.out.size)⟩
      case measure => simp [intOf]; omega
    · go_wp2
      obtain ⟨w1, hw1⟩ : ∃ w1 : World, w1 = wr := ⟨_, rfl⟩
      rw [← hw1] at HB0 ⊢
      clear hw1 hlt hk
      go_loopw [57] (fun i wr => ∃ k : Nat, k ≤ n' ∧ i = .int .i64 k ∧ Hid (Below w.heap.size w wr)) (fun i _ => n' - (intOf i).toNat)
      case atStart => exact ⟨0, Nat.zero_le _, rfl, HB0⟩
      case round =>
        obtain ⟨k, hk, rfl, HBk⟩ := hrel
        clear HB0
        by_cases hlt2 : k < n'
        · have hin := HVI.out.up HBk.out (Nat.le_refl _)
          obtain ⟨b, off, x, hA', hbB, hxk, hcell⟩ := hin.1.at_ hlt2
          have hxm := List.mem_of_getElem? hxk
          have HSW := Lib.hid (hin.2 x hxm)
          have hxz := HVZ.out x hxm
          obtain ⟨c0, c1, c2, c3, c4, c5, c6, c7, c8, c9, c10, c11, c12, c13, c14⟩ := fifteen hcell
          have HVX : Hid ((ps.map Prod.fst)[k]? = some x.1) := by show _ = _; rw [List.getElem?_map, hxk]; rfl
          obtain ⟨vk, A0, n0, cc0⟩ := x
          simp only at HSW hxz HVX c0 c1 c2 c3 c4 c5 c6 c7 c8 c9 c10 c11 c12 c13 c14
          obtain ⟨hz1, hz2⟩ := hxz
          have HBA : Hid (Below wr.heap.size wr (wr.alloc (oV vk A0 n0 cc0))) := (Below.refl _ _).alloc (Nat.le_refl _) _
          have HLW : Hid (vk.ws.length = n0) := HSW.out.1
          subst hA'
          have hval : vltB vk k n = true := by
            have h6 := HVM.out
            unfold vltsB at h6
            rw [List.all_eq_true] at h6
            have h7 := h6 k (List.mem_range.2 (by rw [List.length_map, HLEV.out]; exact hlt2))
            unfold okVt at h7
            rw [HVX.out] at h7
            exact h7
          have HVV : Hid (Calls Tryz.prog 67 #[aV vk A0 n0 cc0, .int .i64 k, .int .i64 n] (wr.alloc (oV vk A0 n0 cc0)) (BoolB true (wr.alloc (oV vk A0 n0 cc0)))) := hval ▸ vvault_any vk A0 n0 cc0 k n _ ((HSW.out.up HBA.out HBk.out.size).more' (Nat.le_trans HBk.out.size HBA.out.size)) hz2 hz1
          clear hin hxk hxm hcell hval
          go_wp2_with (first
            | ((refine wpList_store_new (o := ⟨none, .store 68 (.tmp 11) (.tmp 61), _, _, _, _⟩) rfl 68 (.tmp 11) (.tmp 61) rfl 68 _ (cV vk A0 n0 cc0) rfl rfl Tryz.sizeV rfl (cV_one _ _ _ _) ?_); clear c0 c1 c2 c3 c4 c5 c6 c7 c8 c9 c10 c11 c12 c13 c14)
            | (refine wpList_load_row (o := ⟨some 62, _, _, _, _, _⟩) rfl 68 (.tmp 11) rfl wr.heap.size rfl 68 (cV vk A0 n0 cc0) (0, 0) _ (heap_alloc_new wr _) Tryz.underlying68 rfl Tryz.sizeV ?_)
            | (go_at_call 67; (refine HVV.out.mono ?_); rintro e w6 ⟨rfl, hb⟩; (have HB6 : Hid (Below wr.heap.size wr w6) := HBA.out.trans (hb.mono HBA.out.size)); clear hb))
          go_roundw
          case rel => exact ⟨k + 1, by omega, by go_num, HBk.out.trans (HB6.out.mono HBk.out.size)⟩
          case measure => simp [intOf]; omega
        · go_wp2
          obtain ⟨w2, hw2⟩ : ∃ w2 : World, w2 = wr := ⟨_, rfl⟩
          rw [← hw2] at HBk ⊢
          clear hw2 hlt2 hk
          go_loopw [71] (fun i wr => ∃ k : Nat, k ≤ n' ∧ i = .int .i64 k ∧ Hid (Below w.heap.size w wr)) (fun i _ => n' - (intOf i).toNat)
          case atStart => exact ⟨0, Nat.zero_le _, rfl, HBk⟩
          case round =>
            obtain ⟨k, hk, rfl, HBk'⟩ := hrel
            clear HBk
            have HBk := HBk'
            by_cases hlt2 : k < n'
            · have hin := HVI.out.up HBk.out (Nat.le_refl _)
              obtain ⟨b, off, x, hA', hbB, hxk, hcell⟩ := hin.1.at_ hlt2
              have hxm := List.mem_of_getElem? hxk
              have HSW := Lib.hid (hin.2 x hxm)
              have hxz := HVZ.out x hxm
              obtain ⟨c0, c1, c2, c3, c4, c5, c6, c7, c8, c9, c10, c11, c12, c13, c14⟩ := fifteen hcell
              have HVX : Hid ((ps.map Prod.fst)[k]? = some x.1) := by show _ = _; rw [List.getElem?_map, hxk]; rfl
              obtain ⟨vk, A0, n0, cc0⟩ := x
              simp only at HSW hxz HVX c0 c1 c2 c3 c4 c5 c6 c7 c8 c9 c10 c11 c12 c13 c14
              obtain ⟨hz1, hz2⟩ := hxz
              have HBA : Hid (Below wr.heap.size wr (wr.alloc (oV vk A0 n0 cc0))) := (Below.refl _ _).alloc (Nat.le_refl _) _
              have HLW : Hid (vk.ws.length = n0) := HSW.out.1
              subst hA'
              have hpos : possB n vk = true := by
                have h6 := HPS.out
                rw [List.all_eq_true] at h6
                exact h6 vk (List.mem_of_getElem? HVX.out)
              unfold possB at hpos
              rw [HLW.out] at hpos
              simp only [Bool.and_eq_true, decide_eq_true_eq] at hpos
              obtain ⟨hp1, hp2⟩ := hpos
              have g1 : ¬ (n : Int) - (n0 : Int) < vk.total := by omega
              have g2 : ¬ (n : Int) - (n0 : Int) < vk.thr := by omega
              clear hin hxk hxm hcell
              go_wp2_with ((refine wpList_store_new (o := ⟨none, .store 68 (.tmp 13) (.tmp 74), _, _, _, _⟩) rfl 68 (.tmp 13) (.tmp 74) rfl 68 _ (cV vk A0 n0 cc0) rfl rfl Tryz.sizeV rfl (cV_one _ _ _ _) ?_); clear c0 c1 c2 c3 c4 c5 c6 c7 c8 c9 c10 c11 c12 c13 c14)
              go_roundw
              case rel => exact ⟨k + 1, by omega, by go_num, HBk.out.trans (HBA.out.mono HBk.out.size)⟩
              case measure => simp [intOf]; omega
            · have HIN : Hid (∀ W, Below wr.heap.size wr W → SlN fM 5 W W.heap.size A n ms) := fun W h => ((HX.out.up HBk.out (Nat.le_refl _)).up h HBk.out.size).more (Nat.le_trans HBk.out.size h.size)
              have HIV : Hid (∀ W, Below wr.heap.size wr W → VIn W W.heap.size A' n' ps) := fun W h => ((HVI.out.up HBk.out (Nat.le_refl _)).up h HBk.out.size).more (Nat.le_trans HBk.out.size h.size)
              have hmm := @run_makeMap Tryz.prog
              go_wp2_with fail
              refine (mclone_any A n c ms wr (HIN.out wr (Below.refl _ _)) (by omega)).mono ?_
              rintro e wa ⟨vm, rfl, hoa, hba⟩
              obtain ⟨Am, cm, rfl, _, _, _⟩ := hoa.shape fM_len
              have HOa := Lib.hid hoa
              have HBa := Lib.hid hba
              clear hoa hba
              go_wp2_with fail
              refine (copyVs_any A' n' c' ps wa (HIV.out wa HBa.out) (by omega) HWN.out).mono ?_
              rintro e wb ⟨vv, ps1, rfl, hvr, hpe, hbb⟩
              obtain ⟨Av, cv, rfl, _, _, _⟩ := hvr.row.shape fP_len
              have HVb := Lib.hid hvr
              have HPb := Lib.hid hpe
              have HBb := Lib.hid hbb
              clear hvr hpe hbb
              go_wp2_with fail
              obtain ⟨wc0, hwc0⟩ : ∃ W : World, W = wb.alloc (.map #[] 0) := ⟨_, rfl⟩
              have HMc : Hid (wc0.heap[wb.heap.size]? = some (.map #[] 0)) := by show _ = _; rw [hwc0]; exact heap_alloc_new wb _
              have HSc : Hid (wc0.heap.size = wb.heap.size + 1) := by show _ = _; rw [hwc0]; simp
              have HBc0 : Hid (Below wb.heap.size wb wc0) := by show Below _ _ _; rw [hwc0]; exact (Below.refl _ _).alloc (Nat.le_refl _) _
              rw [← hwc0]
              clear hwc0
              have HBrc : Hid (Below wr.heap.size wr wc0) := HBa.out.trans ((HBb.out.trans (HBc0.out.mono HBb.out.size)).mono HBa.out.size)
              refine (mclone_any A n c ms wc0 (HIN.out wc0 HBrc.out) (by omega)).mono ?_
              rintro e wc ⟨vfm, rfl, hoc, hbc⟩
              obtain ⟨Af, cf, rfl, _, _, _⟩ := hoc.shape fM_len
              have HOc := Lib.hid hoc
              have HBc := Lib.hid hbc
              have HBrd : Hid (Below wr.heap.size wr wc) := HBrc.out.trans (hbc.mono HBrc.out.size)
              clear hoc hbc
              go_wp2_with fail
              refine (copyVs_any A' n' c' ps wc (HIV.out wc HBrd.out) (by omega) HWN.out).mono ?_
              rintro e wd ⟨vfv, ps2, rfl, hvr2, hpe2, hbd⟩
              obtain ⟨Aw, cw, rfl, _, _, _⟩ := hvr2.row.shape fP_len
              have HVd := Lib.hid hvr2
              have HPd := Lib.hid hpe2
              have HBd := Lib.hid hbd
              clear hvr2 hpe2 hbd hmm
              go_wp2_with fail
              go_ret2
              have hE : ∀ o : Obj, Below wd.heap.size wd (wd.alloc o) := fun o => (Below.refl _ _).alloc (Nat.le_refl _) _
              have hC : ∀ o : Obj, Below wc.heap.size wc (wd.alloc o) := fun o => HBd.out.trans ((hE o).mono HBd.out.size)
              have hC0 : ∀ o : Obj, Below wc0.heap.size wc0 (wd.alloc o) := fun o => HBc.out.trans ((hC o).mono HBc.out.size)
              have hBB : ∀ o : Obj, Below wb.heap.size wb (wd.alloc o) := fun o => HBc0.out.trans ((hC0 o).mono HBc0.out.size)
              have hA : ∀ o : Obj, Below wa.heap.size wa (wd.alloc o) := fun o => HBb.out.trans ((hBB o).mono HBb.out.size)
              have hR : ∀ o : Obj, Below wr.heap.size wr (wd.alloc o) := fun o => HBa.out.trans ((hA o).mono HBa.out.size)
              have s1 := HBk.out.size
              have s2 := HBa.out.size
              have s3 := HBb.out.size
              have s4 := HBc.out.size
              have s5 := HBd.out.size
              have s6 := HSc.out
              refine ⟨wa.heap.size, wb.heap.size, wc.heap.size, wd.heap.size, _, _, _, _, ps1, ps2, rfl, heap_alloc_new wd _, World.ownsRow.mono (HOa.out.on (hA _)) (by omega), fun k hk => (World.ownsRow.lt HOa.out k hk).2, HVb.out.on (hBB _), HVb.out.vlt, HPb.out, ?_, World.ownsRow.mono (HOc.out.on (hC _)) (by omega), fun k hk => (World.ownsRow.lt HOc.out k hk).2, HVd.out.on (hE _), HVd.out.vlt, HPd.out, by omega, by omega, by omega, by omega, HBk.out.trans ((hR _).mono s1)⟩
              exact ((hC0 _).block _ (by omega)).trans HMc.out
end Go.Proofs.YtkeicjokekmkpaaGreat
