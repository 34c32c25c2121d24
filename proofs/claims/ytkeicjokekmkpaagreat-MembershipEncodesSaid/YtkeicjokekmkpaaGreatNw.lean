/- New. -/
import Derived.Test.YtkeicjokekmkpaaGreatMe
namespace Go.Proofs.YtkeicjokekmkpaaGreat
open Go.RowKit Mb
set_option linter.unusedVariables false
set_option linter.unusedSimpArgs false

def okM (ms : List Mem) (i : Nat) : Bool := match ms[i]? with
  | some m => memB m i && !takenB (ms.take i) m
  | none => true
def memsB (ms : List Mem) : Bool := (List.range ms.length).all (okM ms)
def okVt (vs : List Vlt) (N : Int) (i : Nat) : Bool := match vs[i]? with
  | some v => vltB v i N
  | none => true
def vltsB (vs : List Vlt) (N : Int) : Bool := (List.range vs.length).all (okVt vs N)
theorem vlts_ws {vs : List Vlt} {N : Int} (h : vltsB vs N = true) : ∀ v ∈ vs, v.ws.length ≤ 3 := fun v hv => by
  obtain ⟨i, hi⟩ := List.mem_iff_getElem?.1 hv
  unfold vltsB at h
  have h5 := List.all_eq_true.1 h i (List.mem_range.2 (List.getElem?_eq_some_iff.1 hi).1)
  unfold okVt at h5
  rw [hi] at h5
  simp only [vltB, Bool.and_eq_true, decide_eq_true_eq] at h5
  exact h5.2.2.1
def possB (N : Int) (v : Vlt) : Bool := decide (v.total ≤ N - v.ws.length) && decide (v.thr ≤ N - v.ws.length)
def headB (n nv : Nat) (q : Int) : Bool := decide (1 ≤ n) && (decide (n ≤ 12) && (decide (nv ≤ 12) && (decide (1 ≤ q) && decide (q ≤ 12))))
/-- The error that New returns. -/
def newE (ms : List Mem) (vs : List Vlt) (q : Int) : Int :=
  if (headB ms.length vs.length q && (memsB ms && vltsB vs ms.length)) = true then (if vs.all (possB ms.length) = true then 0 else 14) else 1
theorem memsB_no {ms : List Mem} {i : Nat} (hi : i < ms.length) (h : okM ms i = false) : memsB ms = false := by
  unfold memsB
  rw [List.all_eq_false]
  exact ⟨i, List.mem_range.2 hi, by simp [h]⟩
theorem SlN.take_ {α : Type} {f : α → List Value} {s : Nat} {w : World} {B n k : Nat} {A : Option Addr} {xs : List α} (h : SlN f s w B A n xs) (hk : k ≤ n) : SlN f s w B A k (xs.take k) :=
  ⟨by rw [List.length_take, h.1]; omega, fun hn => by
    rw [List.length_take] at hn
    obtain ⟨b, off, e, hb, hc⟩ := h.2 (by omega)
    refine ⟨b, off, e, hb, fun j x hx => hc j x ?_⟩
    rw [List.getElem?_take] at hx
    split at hx
    · exact hx
    · cases hx⟩
/-- .. or nothing but an error. -/
def ErrP (er : Int) (w : World) (e : Ending) (w' : World) : Prop := e = .returned (.tuple #[.pointer none, .int .i64 er]) ∧ Below w.heap.size w w'
set_option maxRecDepth 20000 in
set_option maxHeartbeats 4000000 in
theorem new_head (A A' : Option Addr) (n n' c c' : Nat) (q : Int) (ms : List Mem) (ps : List VP) (w : World) (hh : headB n n' q = false) : Calls Tryz.prog 19 #[.slice A n c, .slice A' n' c', .int .i64 q] w (ErrP 1 w) := by
  by_cases q0 : 1 ≤ n
  · have e0 : ¬ (n : Int) < 1 := by omega
    by_cases q1 : n ≤ 12
    · have e1 : ¬ 12 < (n : Int) := by omega
      by_cases q2 : n' ≤ 12
      · have e2 : ¬ 12 < (n' : Int) := by omega
        by_cases q3 : 1 ≤ q
        · have e3 : ¬ q < 1 := by omega
          by_cases q4 : q ≤ 12
          · have e4 : ¬ 12 < q := by omega
            exfalso
            unfold headB at hh
            simp [q0, q1, q2, q3, q4] at hh
          · have e4 : 12 < q := by omega
            clear hh
            go_enter Tryz.func19, Tryz.ntmps19
            go_wp2
            go_ret2
            exact ⟨rfl, Below.refl _ _⟩
        · have e3 : q < 1 := by omega
          clear hh
          go_enter Tryz.func19, Tryz.ntmps19
          go_wp2
          go_ret2
          exact ⟨rfl, Below.refl _ _⟩
      · have e2 : 12 < (n' : Int) := by omega
        clear hh
        go_enter Tryz.func19, Tryz.ntmps19
        go_wp2
        go_ret2
        exact ⟨rfl, Below.refl _ _⟩
    · have e1 : 12 < (n : Int) := by omega
      clear hh
      go_enter Tryz.func19, Tryz.ntmps19
      go_wp2
      go_ret2
      exact ⟨rfl, Below.refl _ _⟩
  · have e0 : (n : Int) < 1 := by omega
    clear hh
    go_enter Tryz.func19, Tryz.ntmps19
    go_wp2
    go_ret2
    exact ⟨rfl, Below.refl _ _⟩
theorem below_dN {B : Nat} {a w : World} (h : Below B a w) (n : Nat) : Below B a (w.drewN n) := ⟨h.os, h.tape, h.output, h.size, h.block⟩
theorem five_of {w : World} {g : Nat} {x : Mem} (h : w.heap[g]? = some (cM x)) : w.cell? ⟨g, 0, none⟩ = some (.int .i64 x.dev) ∧ w.cell? ⟨g, 1, none⟩ = some (.string x.name) ∧ w.cell? ⟨g, 2, none⟩ = some (.string x.pub) ∧ w.cell? ⟨g, 3, none⟩ = some (.int .i64 x.quota) ∧ w.cell? ⟨g, 4, none⟩ = some (.bool x.exp) := by
  refine ⟨?_, ?_, ?_, ?_, ?_⟩ <;> (rw [cell_of_row w g _ _ _ _ h]; rfl)
abbrev cMa (x : Mem) : Array Value := #[.int .i64 x.dev, .string x.name, .string x.pub, .int .i64 x.quota, .bool x.exp]
theorem cMa_one (x : Mem) : (cMa x).all (·.oneCell') = true := by
  rw [Array.all_eq_true']
  intro u hu
  simp only [cMa, List.mem_toArray, List.mem_cons, List.not_mem_nil, or_false] at hu
  rcases hu with rfl | rfl | rfl | rfl | rfl <;> rfl
theorem Tryz.sizeM : (Tryz.prog.info? 40).map (·.size) = some 5 := by kernel_rfl
set_option maxRecDepth 20000 in
set_option maxHeartbeats 4000000 in
theorem new_mem (A A' : Option Addr) (n n' c c' : Nat) (q : Int) (ms : List Mem) (ps : List VP) (w : World) (hh : headB n n' q = true) (hcap : n ≤ c) (hx : SlN fM 5 w w.heap.size A n ms) (hsz : ∀ m ∈ ms, m.name.size ≤ 9223372036854775807 ∧ m.pub.size ≤ 9223372036854775807)
    (hm : memsB ms = false) : Calls Tryz.prog 19 #[.slice A n c, .slice A' n' c', .int .i64 q] w (ErrP 1 w) := by
  unfold headB at hh
  simp only [Bool.and_eq_true, decide_eq_true_eq] at hh
  obtain ⟨h1, h2, h3, h4, h5⟩ := hh
  have e0 : ¬ (n : Int) < 1 := by omega
  have e1 : ¬ 12 < (n : Int) := by omega
  have e2 : ¬ 12 < (n' : Int) := by omega
  have e3 : ¬ q < 1 := by omega
  have e4 : ¬ 12 < q := by omega
  have f0 : decide ((n : Int) < 1) = false := by simp; omega
  have f1 : decide (12 < (n : Int)) = false := by simp; omega
  have f2 : decide (12 < (n' : Int)) = false := by simp; omega
  have f3 : decide (q < 1) = false := by simp; omega
  have f4 : decide (12 < q) = false := by simp; omega
  have HX := Lib.hid hx
  have HS := Lib.hid hsz
  have HM := Lib.hid hm
  have HLEN : Hid (ms.length = n) := hx.1
  have HB : Hid (Below w.heap.size w w) := Below.refl _ _
  clear hx hsz hm
  go_enter Tryz.func19, Tryz.ntmps19
  go_wp2
  go_loopw [38] (fun i wr => ∃ k : Nat, k ≤ n ∧ i = .int .i64 k ∧ Hid ((List.range k).all (okM ms) = true) ∧ Hid (Below w.heap.size w wr)) (fun i _ => n - (intOf i).toNat)
  case atStart => exact ⟨0, Nat.zero_le _, rfl, by show _ = _; rfl, HB⟩
  case round =>
    obtain ⟨k, hk, rfl, HA, HB0⟩ := hrel
    clear HB
    by_cases hlt : k < n
    · have hin := HX.out.up HB0.out (Nat.le_refl _)
      obtain ⟨b, off, x, rfl, hbB, hxk, hcell⟩ := hin.at_ hlt
      obtain ⟨c0, c1, c2, c3, c4⟩ := five hcell
      have hxs := HS.out x (List.mem_of_getElem? hxk)
      have HBA : Hid (Below wr.heap.size wr (wr.alloc (cM x))) := (Below.refl _ _).alloc (Nat.le_refl _) _
      obtain ⟨bm, hbm⟩ : ∃ z, memB x k = z := ⟨_, rfl⟩
      obtain ⟨bt, hbt⟩ : ∃ z, takenB (ms.take k) x = z := ⟨_, rfl⟩
      have HVM : Hid (∀ W, Calls Tryz.prog 65 #[aM x, .int .i64 k] W (BoolB bm W)) := fun W => hbm ▸ vmem_any x k W hxs.1 hxs.2
      have HTK : Hid (∀ W, Below wr.heap.size wr W → Calls Tryz.prog 66 #[.slice (some ⟨b, off, none⟩) k c, aM x] W (BoolB bt W)) := fun W h => hbt ▸ taken_any x (some ⟨b, off, none⟩) k c (ms.take k) W (((hin.take_ hk).up h HB0.out.size).more (Nat.le_trans HB0.out.size h.size)) (by omega)
      have HOK : Hid (okM ms k = (bm && !bt)) := by show _ = _; unfold okM; rw [hxk]; simp [hbm, hbt]
      have hk0 : (0 : Int) ≤ (k : Int) := by omega
      have hk1 : (k : Int) ≤ (n : Int) := by omega
      have hc1 : n ≤ c ∨ True := .inr trivial
      clear hin hxk hxs hcell hbm hbt hc1
      have hcc : (k : Int) ≤ (c : Int) := by omega
      cases bm
      · go_wp2_with ((refine wpList_store_new (o := ⟨none, .store 40 (.tmp 9) (.tmp 42), _, _, _, _⟩) rfl 40 (.tmp 9) (.tmp 42) rfl 40 _ (cMa x) rfl rfl Tryz.sizeM rfl (cMa_one _) ?_); clear c0 c1 c2 c3 c4)
        refine wp_region_noPanic ?_
        refine wp_region_held_drew (S := (fun w' => w'.cell? ⟨wr.heap.size, 0, none⟩ = some (.int .i64 x.dev) ∧ w'.cell? ⟨wr.heap.size, 1, none⟩ = some (.string x.name) ∧ w'.cell? ⟨wr.heap.size, 2, none⟩ = some (.string x.pub) ∧ w'.cell? ⟨wr.heap.size, 3, none⟩ = some (.int .i64 x.quota) ∧ w'.cell? ⟨wr.heap.size, 4, none⟩ = some (.bool x.exp))) (by kernel_rfl) (five_of (heap_alloc_new wr _)) (fun hHeld => ?_)
        refine wpAnyH_take (i := 0) (v := ?zav0) (by simp only [List.getElem?_toArray, List.getElem?_cons_zero]; rfl) (by kernel_rfl) (by kernel_rfl) (by kernel_rfl) (by exact fun _ _ _ h => h) (Or.inl ⟨by rfl, ?zay0⟩) (by assumption) ?zar0
        case zay0 => (intro w hSw; (try dsimp only at hSw); go_simp; try (with_reducible rfl))
        try simp only [Act.put, List.setIfInBounds_toArray, List.set_cons_zero, List.set_cons_succ]
        refine wpAnyH_take (i := 1) (v := ?zav1) (by simp only [List.getElem?_toArray, List.getElem?_cons_succ, List.getElem?_cons_zero]; rfl) (by kernel_rfl) (by kernel_rfl) (by kernel_rfl) (by exact fun _ _ _ h => h) (Or.inl ⟨by rfl, ?zay1⟩) (by assumption) ?zar1
        case zay1 => (intro w hSw; (try dsimp only at hSw); go_simp; try (with_reducible rfl))
        try simp only [Act.put, List.setIfInBounds_toArray, List.set_cons_zero, List.set_cons_succ]
        refine wpAnyH_ready (rs := [2]) (by kernel_rfl) (by simp) ?_
        refine AllReadyH.cons (by simp only [List.getElem?_toArray, List.getElem?_cons_succ, List.getElem?_cons_zero]; rfl) (fun K hK => ?_) AllReadyH.nil
        go_simp
        (with_reducible refine (HVM.out _).mono ?_)
        rintro e w4 ⟨rfl, hb⟩
        (have HB4 : Hid (Below (wr.alloc (cM x)).heap.size (wr.alloc (cM x)) w4) := Below.trans (by first | exact Below.refl _ _ | exact (Below.refl _ _).drew | exact below_dN (Below.refl _ _) _) hb)
        (have HG4 : Hid (w4.heap[wr.heap.size]? = some (cM x)) := (HB4.out.block _ (by simp)).trans (heap_alloc_new wr _))
        clear hb
        go_wp2_with fail
        refine hK.out _ _ (five_of HG4.out) (fun hHeld1 => ?_)
        clear hK K hHeld
        try simp only [Act.put, List.setIfInBounds_toArray, List.set_cons_zero, List.set_cons_succ]
        refine wpAnyH_take (i := 3) (v := ?zav3) (by simp only [List.getElem?_toArray, List.getElem?_cons_succ, List.getElem?_cons_zero]; rfl) (by kernel_rfl) (by kernel_rfl) (by kernel_rfl) (by exact fun _ _ _ h => h) (Or.inl ⟨by rfl, ?zay3⟩) (by assumption) ?zar3
        case zay3 => (intro w hSw; (try dsimp only at hSw); go_simp; try (with_reducible rfl))
        try simp only [Act.put, List.setIfInBounds_toArray, List.set_cons_zero, List.set_cons_succ]
        refine wpAnyH_take (i := 4) (v := ?zav4) (by simp only [List.getElem?_toArray, List.getElem?_cons_succ, List.getElem?_cons_zero]; rfl) (by kernel_rfl) (by kernel_rfl) (by kernel_rfl) (by exact fun _ _ _ h => h) (Or.inl ⟨by rfl, ?zay4⟩) (by assumption) ?zar4
        case zay4 => (intro w hSw; (try dsimp only at hSw); go_simp; try (with_reducible rfl))
        try simp only [Act.put, List.setIfInBounds_toArray, List.set_cons_zero, List.set_cons_succ]
        refine wpAnyH_take (i := 5) (v := undef) (by simp only [List.getElem?_toArray, List.getElem?_cons_succ, List.getElem?_cons_zero]; rfl) (by kernel_rfl) (by kernel_rfl) (by kernel_rfl) (by exact fun _ _ _ h => h) (Or.inr ⟨by rfl, rfl⟩) (by assumption) ?_
        try simp only [Act.put, List.setIfInBounds_toArray, List.set_cons_zero, List.set_cons_succ]
        refine wpAnyH_take (i := 6) (v := undef) (by simp only [List.getElem?_toArray, List.getElem?_cons_succ, List.getElem?_cons_zero]; rfl) (by kernel_rfl) (by kernel_rfl) (by kernel_rfl) (by exact fun _ _ _ h => h) (Or.inr ⟨by rfl, rfl⟩) (by assumption) ?_
        try simp only [Act.put, List.setIfInBounds_toArray, List.set_cons_zero, List.set_cons_succ]
        refine wpAnyH_take (i := 7) (v := undef) (by simp only [List.getElem?_toArray, List.getElem?_cons_succ, List.getElem?_cons_zero]; rfl) (by kernel_rfl) (by kernel_rfl) (by kernel_rfl) (by exact fun _ _ _ h => h) (Or.inr ⟨by rfl, rfl⟩) (by assumption) ?_
        try simp only [Act.put, List.setIfInBounds_toArray, List.set_cons_zero, List.set_cons_succ]
        refine wpAnyH_take (i := 8) (v := undef) (by simp only [List.getElem?_toArray, List.getElem?_cons_succ, List.getElem?_cons_zero]; rfl) (by kernel_rfl) (by kernel_rfl) (by kernel_rfl) (by exact fun _ _ _ h => h) (Or.inr ⟨by rfl, rfl⟩) (by assumption) ?_
        try simp only [Act.put, List.setIfInBounds_toArray, List.set_cons_zero, List.set_cons_succ]
        refine wpAnyH_take (i := 9) (v := undef) (by simp only [List.getElem?_toArray, List.getElem?_cons_succ, List.getElem?_cons_zero]; rfl) (by kernel_rfl) (by kernel_rfl) (by kernel_rfl) (by exact fun _ _ _ h => h) (Or.inr ⟨by rfl, rfl⟩) (by assumption) ?_
        try simp only [Act.put, List.setIfInBounds_toArray, List.set_cons_zero, List.set_cons_succ]
        refine wpAnyH_take (i := 10) (v := ?zav10) (by simp only [List.getElem?_toArray, List.getElem?_cons_succ, List.getElem?_cons_zero]; rfl) (by kernel_rfl) (by kernel_rfl) (by kernel_rfl) (by exact fun _ _ _ h => h) (Or.inl ⟨by rfl, ?zay10⟩) (by assumption) ?zar10
        case zay10 => (intro w hSw; (try dsimp only at hSw); go_simp; try (with_reducible rfl))
        try simp only [Act.put, List.setIfInBounds_toArray, List.set_cons_zero, List.set_cons_succ]
        refine wpAnyH_done (by kernel_rfl) ?_ _
        refine NoPanic.normal ?_
        go_wp2
        go_ret2
        exact ⟨rfl, HB0.out.trans ((HBA.out.trans (HB4.out.mono HBA.out.size)).mono HB0.out.size)⟩
      · cases bt
        · have HA2 : Hid ((List.range (k + 1)).all (okM ms) = true) := by show _ = _; rw [range_all_succ, HA.out, HOK.out]; rfl
          go_wp2_with ((refine wpList_store_new (o := ⟨none, .store 40 (.tmp 9) (.tmp 42), _, _, _, _⟩) rfl 40 (.tmp 9) (.tmp 42) rfl 40 _ (cMa x) rfl rfl Tryz.sizeM rfl (cMa_one _) ?_); clear c0 c1 c2 c3 c4)
          refine wp_region_noPanic ?_
          refine wp_region_held_drew (S := (fun w' => w'.cell? ⟨wr.heap.size, 0, none⟩ = some (.int .i64 x.dev) ∧ w'.cell? ⟨wr.heap.size, 1, none⟩ = some (.string x.name) ∧ w'.cell? ⟨wr.heap.size, 2, none⟩ = some (.string x.pub) ∧ w'.cell? ⟨wr.heap.size, 3, none⟩ = some (.int .i64 x.quota) ∧ w'.cell? ⟨wr.heap.size, 4, none⟩ = some (.bool x.exp))) (by kernel_rfl) (five_of (heap_alloc_new wr _)) (fun hHeld => ?_)
          refine wpAnyH_take (i := 0) (v := ?zbv0) (by simp only [List.getElem?_toArray, List.getElem?_cons_zero]; rfl) (by kernel_rfl) (by kernel_rfl) (by kernel_rfl) (by exact fun _ _ _ h => h) (Or.inl ⟨by rfl, ?zby0⟩) (by assumption) ?zbr0
          case zby0 => (intro w hSw; (try dsimp only at hSw); go_simp; try (with_reducible rfl))
          try simp only [Act.put, List.setIfInBounds_toArray, List.set_cons_zero, List.set_cons_succ]
          refine wpAnyH_take (i := 1) (v := ?zbv1) (by simp only [List.getElem?_toArray, List.getElem?_cons_succ, List.getElem?_cons_zero]; rfl) (by kernel_rfl) (by kernel_rfl) (by kernel_rfl) (by exact fun _ _ _ h => h) (Or.inl ⟨by rfl, ?zby1⟩) (by assumption) ?zbr1
          case zby1 => (intro w hSw; (try dsimp only at hSw); go_simp; try (with_reducible rfl))
          try simp only [Act.put, List.setIfInBounds_toArray, List.set_cons_zero, List.set_cons_succ]
          refine wpAnyH_ready (rs := [2]) (by kernel_rfl) (by simp) ?_
          refine AllReadyH.cons (by simp only [List.getElem?_toArray, List.getElem?_cons_succ, List.getElem?_cons_zero]; rfl) (fun K hK => ?_) AllReadyH.nil
          go_simp
          (with_reducible refine (HVM.out _).mono ?_)
          rintro e w4 ⟨rfl, hb⟩
          (have HB4 : Hid (Below (wr.alloc (cM x)).heap.size (wr.alloc (cM x)) w4) := Below.trans (by first | exact Below.refl _ _ | exact (Below.refl _ _).drew | exact below_dN (Below.refl _ _) _) hb)
          (have HG4 : Hid (w4.heap[wr.heap.size]? = some (cM x)) := (HB4.out.block _ (by simp)).trans (heap_alloc_new wr _))
          clear hb
          go_wp2_with fail
          refine hK.out _ _ (five_of HG4.out) (fun hHeld1 => ?_)
          clear hK K hHeld
          try simp only [Act.put, List.setIfInBounds_toArray, List.set_cons_zero, List.set_cons_succ]
          refine wpAnyH_take (i := 3) (v := ?zbv3) (by simp only [List.getElem?_toArray, List.getElem?_cons_succ, List.getElem?_cons_zero]; rfl) (by kernel_rfl) (by kernel_rfl) (by kernel_rfl) (by exact fun _ _ _ h => h) (Or.inl ⟨by rfl, ?zby3⟩) (by assumption) ?zbr3
          case zby3 => (intro w hSw; (try dsimp only at hSw); go_simp; try (with_reducible rfl))
          try simp only [Act.put, List.setIfInBounds_toArray, List.set_cons_zero, List.set_cons_succ]
          refine wpAnyH_take (i := 4) (v := ?zbv4) (by simp only [List.getElem?_toArray, List.getElem?_cons_succ, List.getElem?_cons_zero]; rfl) (by kernel_rfl) (by kernel_rfl) (by kernel_rfl) (by exact fun _ _ _ h => h) (Or.inl ⟨by rfl, ?zby4⟩) (by assumption) ?zbr4
          case zby4 => (intro w hSw; (try dsimp only at hSw); go_simp; try (with_reducible rfl))
          try simp only [Act.put, List.setIfInBounds_toArray, List.set_cons_zero, List.set_cons_succ]
          refine wpAnyH_take (i := 5) (v := ?zbv5) (by simp only [List.getElem?_toArray, List.getElem?_cons_succ, List.getElem?_cons_zero]; rfl) (by kernel_rfl) (by kernel_rfl) (by kernel_rfl) (by exact fun _ _ _ h => h) (Or.inl ⟨by rfl, ?zby5⟩) (by assumption) ?zbr5
          case zby5 => (intro w hSw; (try dsimp only at hSw); go_simp; try (with_reducible rfl))
          try simp only [Act.put, List.setIfInBounds_toArray, List.set_cons_zero, List.set_cons_succ]
          refine wpAnyH_take (i := 6) (v := ?zbv6) (by simp only [List.getElem?_toArray, List.getElem?_cons_succ, List.getElem?_cons_zero]; rfl) (by kernel_rfl) (by kernel_rfl) (by kernel_rfl) (by exact fun _ _ _ h => h) (Or.inl ⟨by rfl, ?zby6⟩) (by assumption) ?zbr6
          case zby6 => (intro w hSw; (try dsimp only at hSw); go_simp; try (with_reducible rfl))
          try simp only [Act.put, List.setIfInBounds_toArray, List.set_cons_zero, List.set_cons_succ]
          refine wpAnyH_take (i := 7) (v := ?zbv7) (by simp only [List.getElem?_toArray, List.getElem?_cons_succ, List.getElem?_cons_zero]; rfl) (by kernel_rfl) (by kernel_rfl) (by kernel_rfl) (by exact fun _ _ _ h => h) (Or.inl ⟨by rfl, ?zby7⟩) (by assumption) ?zbr7
          case zby7 => (intro w hSw; (try dsimp only at hSw); go_simp; try (with_reducible rfl))
          try simp only [Act.put, List.setIfInBounds_toArray, List.set_cons_zero, List.set_cons_succ]
          refine wpAnyH_take (i := 8) (v := ?zbv8) (by simp only [List.getElem?_toArray, List.getElem?_cons_succ, List.getElem?_cons_zero]; rfl) (by kernel_rfl) (by kernel_rfl) (by kernel_rfl) (by exact fun _ _ _ h => h) (Or.inl ⟨by rfl, ?zby8⟩) (by assumption) ?zbr8
          case zby8 => (intro w hSw; (try dsimp only at hSw); go_simp; try (with_reducible rfl))
          try simp only [Act.put, List.setIfInBounds_toArray, List.set_cons_zero, List.set_cons_succ]
          refine wpAnyH_ready (rs := [9]) (by kernel_rfl) (by simp) ?_
          refine AllReadyH.cons (by simp only [List.getElem?_toArray, List.getElem?_cons_succ, List.getElem?_cons_zero]; rfl) (fun K hK => ?_) AllReadyH.nil
          go_simp
          (with_reducible refine (HTK.out _ (HBA.out.trans (HB4.out.mono HBA.out.size))).mono ?_)
          rintro e w5 ⟨rfl, hb⟩
          (have HB5 : Hid (Below (wr.alloc (cM x)).heap.size (wr.alloc (cM x)) w5) := HB4.out.trans (hb.mono HB4.out.size))
          (have HG5 : Hid (w5.heap[wr.heap.size]? = some (cM x)) := (HB5.out.block _ (by simp)).trans (heap_alloc_new wr _))
          clear hb
          go_wp2_with fail
          refine hK.out _ _ (five_of HG5.out) (fun hHeld2 => ?_)
          clear hK K hHeld1
          try simp only [Act.put, List.setIfInBounds_toArray, List.set_cons_zero, List.set_cons_succ]
          refine wpAnyH_take (i := 10) (v := ?zbv10) (by simp only [List.getElem?_toArray, List.getElem?_cons_succ, List.getElem?_cons_zero]; rfl) (by kernel_rfl) (by kernel_rfl) (by kernel_rfl) (by exact fun _ _ _ h => h) (Or.inl ⟨by rfl, ?zby10⟩) (by assumption) ?zbr10
          case zby10 => (intro w hSw; (try dsimp only at hSw); go_simp; try (with_reducible rfl))
          try simp only [Act.put, List.setIfInBounds_toArray, List.set_cons_zero, List.set_cons_succ]
          refine wpAnyH_done (by kernel_rfl) ?_ _
          refine NoPanic.normal ?_
          go_wp2
          go_roundw
          case rel => exact ⟨k + 1, by omega, by go_num, HA2, HB0.out.trans ((HBA.out.trans (HB5.out.mono HBA.out.size)).mono HB0.out.size)⟩
          case measure => simp [intOf]; omega
        · go_wp2_with ((refine wpList_store_new (o := ⟨none, .store 40 (.tmp 9) (.tmp 42), _, _, _, _⟩) rfl 40 (.tmp 9) (.tmp 42) rfl 40 _ (cMa x) rfl rfl Tryz.sizeM rfl (cMa_one _) ?_); clear c0 c1 c2 c3 c4)
          refine wp_region_noPanic ?_
          refine wp_region_held_drew (S := (fun w' => w'.cell? ⟨wr.heap.size, 0, none⟩ = some (.int .i64 x.dev) ∧ w'.cell? ⟨wr.heap.size, 1, none⟩ = some (.string x.name) ∧ w'.cell? ⟨wr.heap.size, 2, none⟩ = some (.string x.pub) ∧ w'.cell? ⟨wr.heap.size, 3, none⟩ = some (.int .i64 x.quota) ∧ w'.cell? ⟨wr.heap.size, 4, none⟩ = some (.bool x.exp))) (by kernel_rfl) (five_of (heap_alloc_new wr _)) (fun hHeld => ?_)
          refine wpAnyH_take (i := 0) (v := ?zcv0) (by simp only [List.getElem?_toArray, List.getElem?_cons_zero]; rfl) (by kernel_rfl) (by kernel_rfl) (by kernel_rfl) (by exact fun _ _ _ h => h) (Or.inl ⟨by rfl, ?zcy0⟩) (by assumption) ?zcr0
          case zcy0 => (intro w hSw; (try dsimp only at hSw); go_simp; try (with_reducible rfl))
          try simp only [Act.put, List.setIfInBounds_toArray, List.set_cons_zero, List.set_cons_succ]
          refine wpAnyH_take (i := 1) (v := ?zcv1) (by simp only [List.getElem?_toArray, List.getElem?_cons_succ, List.getElem?_cons_zero]; rfl) (by kernel_rfl) (by kernel_rfl) (by kernel_rfl) (by exact fun _ _ _ h => h) (Or.inl ⟨by rfl, ?zcy1⟩) (by assumption) ?zcr1
          case zcy1 => (intro w hSw; (try dsimp only at hSw); go_simp; try (with_reducible rfl))
          try simp only [Act.put, List.setIfInBounds_toArray, List.set_cons_zero, List.set_cons_succ]
          refine wpAnyH_ready (rs := [2]) (by kernel_rfl) (by simp) ?_
          refine AllReadyH.cons (by simp only [List.getElem?_toArray, List.getElem?_cons_succ, List.getElem?_cons_zero]; rfl) (fun K hK => ?_) AllReadyH.nil
          go_simp
          (with_reducible refine (HVM.out _).mono ?_)
          rintro e w4 ⟨rfl, hb⟩
          (have HB4 : Hid (Below (wr.alloc (cM x)).heap.size (wr.alloc (cM x)) w4) := Below.trans (by first | exact Below.refl _ _ | exact (Below.refl _ _).drew | exact below_dN (Below.refl _ _) _) hb)
          (have HG4 : Hid (w4.heap[wr.heap.size]? = some (cM x)) := (HB4.out.block _ (by simp)).trans (heap_alloc_new wr _))
          clear hb
          go_wp2_with fail
          refine hK.out _ _ (five_of HG4.out) (fun hHeld1 => ?_)
          clear hK K hHeld
          try simp only [Act.put, List.setIfInBounds_toArray, List.set_cons_zero, List.set_cons_succ]
          refine wpAnyH_take (i := 3) (v := ?zcv3) (by simp only [List.getElem?_toArray, List.getElem?_cons_succ, List.getElem?_cons_zero]; rfl) (by kernel_rfl) (by kernel_rfl) (by kernel_rfl) (by exact fun _ _ _ h => h) (Or.inl ⟨by rfl, ?zcy3⟩) (by assumption) ?zcr3
          case zcy3 => (intro w hSw; (try dsimp only at hSw); go_simp; try (with_reducible rfl))
          try simp only [Act.put, List.setIfInBounds_toArray, List.set_cons_zero, List.set_cons_succ]
          refine wpAnyH_take (i := 4) (v := ?zcv4) (by simp only [List.getElem?_toArray, List.getElem?_cons_succ, List.getElem?_cons_zero]; rfl) (by kernel_rfl) (by kernel_rfl) (by kernel_rfl) (by exact fun _ _ _ h => h) (Or.inl ⟨by rfl, ?zcy4⟩) (by assumption) ?zcr4
          case zcy4 => (intro w hSw; (try dsimp only at hSw); go_simp; try (with_reducible rfl))
          try simp only [Act.put, List.setIfInBounds_toArray, List.set_cons_zero, List.set_cons_succ]
          refine wpAnyH_take (i := 5) (v := ?zcv5) (by simp only [List.getElem?_toArray, List.getElem?_cons_succ, List.getElem?_cons_zero]; rfl) (by kernel_rfl) (by kernel_rfl) (by kernel_rfl) (by exact fun _ _ _ h => h) (Or.inl ⟨by rfl, ?zcy5⟩) (by assumption) ?zcr5
          case zcy5 => (intro w hSw; (try dsimp only at hSw); go_simp; try (with_reducible rfl))
          try simp only [Act.put, List.setIfInBounds_toArray, List.set_cons_zero, List.set_cons_succ]
          refine wpAnyH_take (i := 6) (v := ?zcv6) (by simp only [List.getElem?_toArray, List.getElem?_cons_succ, List.getElem?_cons_zero]; rfl) (by kernel_rfl) (by kernel_rfl) (by kernel_rfl) (by exact fun _ _ _ h => h) (Or.inl ⟨by rfl, ?zcy6⟩) (by assumption) ?zcr6
          case zcy6 => (intro w hSw; (try dsimp only at hSw); go_simp; try (with_reducible rfl))
          try simp only [Act.put, List.setIfInBounds_toArray, List.set_cons_zero, List.set_cons_succ]
          refine wpAnyH_take (i := 7) (v := ?zcv7) (by simp only [List.getElem?_toArray, List.getElem?_cons_succ, List.getElem?_cons_zero]; rfl) (by kernel_rfl) (by kernel_rfl) (by kernel_rfl) (by exact fun _ _ _ h => h) (Or.inl ⟨by rfl, ?zcy7⟩) (by assumption) ?zcr7
          case zcy7 => (intro w hSw; (try dsimp only at hSw); go_simp; try (with_reducible rfl))
          try simp only [Act.put, List.setIfInBounds_toArray, List.set_cons_zero, List.set_cons_succ]
          refine wpAnyH_take (i := 8) (v := ?zcv8) (by simp only [List.getElem?_toArray, List.getElem?_cons_succ, List.getElem?_cons_zero]; rfl) (by kernel_rfl) (by kernel_rfl) (by kernel_rfl) (by exact fun _ _ _ h => h) (Or.inl ⟨by rfl, ?zcy8⟩) (by assumption) ?zcr8
          case zcy8 => (intro w hSw; (try dsimp only at hSw); go_simp; try (with_reducible rfl))
          try simp only [Act.put, List.setIfInBounds_toArray, List.set_cons_zero, List.set_cons_succ]
          refine wpAnyH_ready (rs := [9]) (by kernel_rfl) (by simp) ?_
          refine AllReadyH.cons (by simp only [List.getElem?_toArray, List.getElem?_cons_succ, List.getElem?_cons_zero]; rfl) (fun K hK => ?_) AllReadyH.nil
          go_simp
          (with_reducible refine (HTK.out _ (HBA.out.trans (HB4.out.mono HBA.out.size))).mono ?_)
          rintro e w5 ⟨rfl, hb⟩
          (have HB5 : Hid (Below (wr.alloc (cM x)).heap.size (wr.alloc (cM x)) w5) := HB4.out.trans (hb.mono HB4.out.size))
          (have HG5 : Hid (w5.heap[wr.heap.size]? = some (cM x)) := (HB5.out.block _ (by simp)).trans (heap_alloc_new wr _))
          clear hb
          go_wp2_with fail
          refine hK.out _ _ (five_of HG5.out) (fun hHeld2 => ?_)
          clear hK K hHeld1
          try simp only [Act.put, List.setIfInBounds_toArray, List.set_cons_zero, List.set_cons_succ]
          refine wpAnyH_take (i := 10) (v := ?zcv10) (by simp only [List.getElem?_toArray, List.getElem?_cons_succ, List.getElem?_cons_zero]; rfl) (by kernel_rfl) (by kernel_rfl) (by kernel_rfl) (by exact fun _ _ _ h => h) (Or.inl ⟨by rfl, ?zcy10⟩) (by assumption) ?zcr10
          case zcy10 => (intro w hSw; (try dsimp only at hSw); go_simp; try (with_reducible rfl))
          try simp only [Act.put, List.setIfInBounds_toArray, List.set_cons_zero, List.set_cons_succ]
          refine wpAnyH_done (by kernel_rfl) ?_ _
          refine NoPanic.normal ?_
          go_wp2
          go_ret2
          exact ⟨rfl, HB0.out.trans ((HBA.out.trans (HB5.out.mono HBA.out.size)).mono HB0.out.size)⟩
    · exfalso
      have h6 := HM.out
      unfold memsB at h6
      rw [HLEN.out, show n = k from by omega, HA.out] at h6
      cases h6
end Go.Proofs.YtkeicjokekmkpaaGreat
