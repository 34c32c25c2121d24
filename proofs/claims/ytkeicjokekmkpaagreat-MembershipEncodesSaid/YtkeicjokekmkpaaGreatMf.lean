/- A circle in memory: its blocks bear roles, so that whatever bears another role is another block. counting and Votes. New, whole. The circle that New made. The encoding of a circle: what it is, how long it is. The reference's list of values, plainly: what it encodes to is the circle's encoding. -/
import Derived.Test.YtkeicjokekmkpaaGreatMe
import Derived.Test.YtkeicjokekmkpaaGreatMb
import Derived.Test.YtkeicjokekmkpaaGreatNx
import Derived.Test.YtkeicjokekmkpaaGreatNy
import Derived.Test.YtkeicjokekmkpaaGreatNv
import Derived.Test.YtkeicjokekmkpaaGreatMl
namespace Go.Proofs.YtkeicjokekmkpaaGreat
open Go.RowKit Mb
set_option linter.unusedVariables false
set_option linter.unusedSimpArgs false

/-- A change that a circle has recorded. -/
inductive Chg where
  | adm (m : Mem)
  | bal (a b : Int)
  | rep (v a b : Int)
def fC : Chg → Value
  | .adm m => .iface 88 (aM m)
  | .bal a b => .iface 90 (.agg #[.int .i64 a, .int .i64 b])
  | .rep v a b => .iface 92 (.agg #[.int .i64 v, .int .i64 a, .int .i64 b])
theorem fC_one : ∀ x, (fC x).oneCell' = true := fun x => by cases x <;> rfl
/-- A circle as its package holds it. -/
structure Cst where
  s : St
  fm : List Mem
  fv : List Vlt
  chs : List Chg
/-- The block of a slice bears the role r. -/
def Rol (lab : Nat → Nat) (v : Value) (r : Nat) : Prop := ∀ k, v.ownBlock = some k → lab k = r
theorem Rol.other {lab : Nat → Nat} {v : Value} {r b : Nat} (h : Rol lab v r) (hb : lab b ≠ r) : v.ownBlock = none ∨ v.ownBlock ≠ some b := .inr fun e => hb (h b e)
theorem Rol.ne {lab : Nat → Nat} {v u : Value} {r s : Nat} (h : Rol lab v r) (hu : Rol lab u s) (hrs : r ≠ s) : v.ownBlock = none ∨ v.ownBlock ≠ u.ownBlock := by
  rcases hk : v.ownBlock with _ | k
  · exact .inl rfl
  · exact .inr (fun e => hrs ((h k hk).symm.trans (hu k e.symm)))
/-- The parts of a circle at block g. -/
structure CirP (w : World) (lab : Nat → Nat) (g : Nat) (S : Cst) (vm vv : Value) (bm : Nat) (vfm vfv vc : Value) (ps1 ps2 : List VP) : Prop where
  cell : w.heap[g]? = some (.cells #[vm, vv, .int .i64 S.s.q, .map (some bm), vfm, vfv, vc] 81 (0, 0))
  lg : lab g = 1
  ms : OwnN fM 5 40 w 0 vm S.s.ms
  lms : Rol lab vm 3
  vs : VRow w 0 vv ps1
  evs : ps1.map Prod.fst = S.s.vs
  lvs : Rol lab vv 4
  lws : ∀ p ∈ ps1, Rol lab (fS p.2) 4
  mp : MapV w bm S.s.votes.length (fun x y => S.s.votes.contains (x, y))
  lmp : lab bm = 2
  fm : OwnN fM 5 40 w 0 vfm S.fm
  lfm : Rol lab vfm 5
  fv : VRow w 0 vfv ps2
  efv : ps2.map Prod.fst = S.fv
  lfv : Rol lab vfv 6
  lfw : ∀ p ∈ ps2, Rol lab (fS p.2) 6
  ch : Own fC 86 w 0 vc S.chs
  lch : Rol lab vc 7
  top : ∀ k, w.heap.size ≤ k → lab k = 0
def Cir (w : World) (lab : Nat → Nat) (g : Nat) (S : Cst) : Prop := ∃ vm vv bm vfm vfv vc ps1 ps2, CirP w lab g S vm vv bm vfm vfv vc ps1 ps2
/-- From one world to a later one nothing turned but what bears a role. -/
structure Fr (w : World) (lab : Nat → Nat) (w' : World) (lab' : Nat → Nat) : Prop where
  os : w'.os = w.os
  tape : w'.tape = w.tape
  output : w'.output = w.output
  size : w.heap.size ≤ w'.heap.size
  keep : ∀ k, k < w.heap.size → lab' k = lab k
  block : ∀ k, k < w.heap.size → lab k = 0 → w'.heap[k]? = w.heap[k]?
theorem Fr.refl (w : World) (lab : Nat → Nat) : Fr w lab w lab := ⟨rfl, rfl, rfl, Nat.le_refl _, fun _ _ => rfl, fun _ _ _ => rfl⟩
theorem Fr.trans {w w' w'' : World} {lab lab' lab'' : Nat → Nat} (h : Fr w lab w' lab') (h' : Fr w' lab' w'' lab'') : Fr w lab w'' lab'' :=
  ⟨h'.os.trans h.os, h'.tape.trans h.tape, h'.output.trans h.output, Nat.le_trans h.size h'.size, fun k hk => (h'.keep k (Nat.lt_of_lt_of_le hk h.size)).trans (h.keep k hk),
    fun k hk h0 => (h'.block k (Nat.lt_of_lt_of_le hk h.size) ((h.keep k hk).trans h0)).trans (h.block k hk h0)⟩
theorem Fr.of_below {w w' : World} {lab : Nat → Nat} (h : Below w.heap.size w w') : Fr w lab w' lab := ⟨h.os, h.tape, h.output, h.size, fun _ _ => rfl, fun k hk _ => h.block k hk⟩
/-- Below a bound under which nothing bears a role. -/
theorem Fr.below {w w' : World} {lab lab' : Nat → Nat} {B : Nat} (h : Fr w lab w' lab') (hB : B ≤ w.heap.size) (h0 : ∀ k, k < B → lab k = 0) : Below B w w' := ⟨h.os, h.tape, h.output, h.size, fun k hk => h.block k (Nat.lt_of_lt_of_le hk hB) (h0 k hk)⟩
theorem VRow.up {w w' : World} {base : Nat} {v : Value} {ps : List VP} (h : VRow w base v ps) (hb : ∀ k, (v.ownBlock = some k ∨ ∃ p ∈ ps, (fS p.2).ownBlock = some k) → w'.heap[k]? = w.heap[k]?) : VRow w' base v ps := by
  refine ⟨?_, fun p hp => ?_, h.far, h.apart⟩
  · refine ⟨h.row.1, ?_⟩
    rcases h.row.2 with hn | ⟨g, cap, cur, rfl, hbg, hgg, rest⟩
    · exact .inl hn
    · exact .inr ⟨g, cap, cur, rfl, hbg, (hb g (.inl rfl)).trans hgg, rest⟩
  · have h5 := h.ws p hp
    refine ⟨h5.1, ?_⟩
    rcases h5.2 with hn | ⟨g, cap, cur, he, hbg, hgg, rest⟩
    · exact .inl hn
    · exact .inr ⟨g, cap, cur, he, hbg, (hb g (.inr ⟨p, hp, by rw [he]; rfl⟩)).trans hgg, rest⟩
theorem OwnN.same {α : Type} {f : α → List Value} {s : Nat} {e : TypeId} {w w' : World} {base : Nat} {v : Value} {xs : List α} (h : OwnN f s e w base v xs) (hb : ∀ k, v.ownBlock = some k → w'.heap[k]? = w.heap[k]?) : OwnN f s e w' base v xs := by
  refine ⟨h.1, ?_⟩
  rcases h.2 with hn | ⟨g, cap, cur, rfl, hbg, hgg, rest⟩
  · exact .inl hn
  · exact .inr ⟨g, cap, cur, rfl, hbg, (hb g rfl).trans hgg, rest⟩
theorem Own.same {α : Type} {f : α → Value} {e : TypeId} {w w' : World} {base : Nat} {v : Value} {xs : List α} (h : Own f e w base v xs) (hb : ∀ k, v.ownBlock = some k → w'.heap[k]? = w.heap[k]?) : Own f e w' base v xs := by
  refine ⟨h.1, ?_⟩
  rcases h.2 with hn | ⟨g, cap, cur, rfl, hbg, hgg, rest⟩
  · exact .inl hn
  · exact .inr ⟨g, cap, cur, rfl, hbg, (hb g rfl).trans hgg, rest⟩
section
variable {w w' : World} {lab lab' : Nat → Nat} {g : Nat} {S : Cst}
/-- What bears a role lies in the world. -/
theorem CirP.lt {vm vv : Value} {bm : Nat} {vfm vfv vc : Value} {ps1 ps2 : List VP} (h : CirP w lab g S vm vv bm vfm vfv vc ps1 ps2) {k : Nat} (hk : lab k ≠ 0) : k < w.heap.size := by
  rcases Nat.lt_or_ge k w.heap.size with h1 | h1
  · exact h1
  · exact absurd (h.top k h1) hk
/-- A circle whose blocks are kept. -/
theorem CirP.same {vm vv : Value} {bm : Nat} {vfm vfv vc : Value} {ps1 ps2 : List VP} (h : CirP w lab g S vm vv bm vfm vfv vc ps1 ps2) (hb : ∀ k, lab k ≠ 0 → w'.heap[k]? = w.heap[k]?) (hs : w.heap.size ≤ w'.heap.size) : CirP w' lab g S vm vv bm vfm vfv vc ps1 ps2 :=
  { h with
    cell := (hb g (by rw [h.lg]; decide)).trans h.cell
    ms := h.ms.same fun k hk => hb k (by rw [h.lms k hk]; decide)
    vs := h.vs.up fun k hk => hb k (by
      rcases hk with hk | ⟨p, hp, hk⟩
      · rw [h.lvs k hk]; decide
      · rw [h.lws p hp k hk]; decide)
    mp := h.mp.block (hb bm (by rw [h.lmp]; decide))
    fm := h.fm.same fun k hk => hb k (by rw [h.lfm k hk]; decide)
    fv := h.fv.up fun k hk => hb k (by
      rcases hk with hk | ⟨p, hp, hk⟩
      · rw [h.lfv k hk]; decide
      · rw [h.lfw p hp k hk]; decide)
    ch := h.ch.same fun k hk => hb k (by rw [h.lch k hk]; decide)
    top := fun k hk => h.top k (Nat.le_trans hs hk) }
theorem CirP.on {vm vv : Value} {bm : Nat} {vfm vfv vc : Value} {ps1 ps2 : List VP} (h : CirP w lab g S vm vv bm vfm vfv vc ps1 ps2) (hb : Below w.heap.size w w') : CirP w' lab g S vm vv bm vfm vfv vc ps1 ps2 :=
  h.same (fun k hk => hb.block k (h.lt hk)) hb.size
theorem Cir.on (h : Cir w lab g S) (hb : Below w.heap.size w w') : Cir w' lab g S := by
  obtain ⟨vm, vv, bm, vfm, vfv, vc, ps1, ps2, h⟩ := h
  exact ⟨vm, vv, bm, vfm, vfv, vc, ps1, ps2, h.on hb⟩
theorem Cir.lt (h : Cir w lab g S) : g < w.heap.size := by
  obtain ⟨vm, vv, bm, vfm, vfv, vc, ps1, ps2, h⟩ := h
  exact h.lt (by rw [h.lg]; decide)
theorem Cir.top (h : Cir w lab g S) : ∀ k, w.heap.size ≤ k → lab k = 0 := by
  obtain ⟨vm, vv, bm, vfm, vfv, vc, ps1, ps2, h⟩ := h
  exact h.top
/-- The members of a circle. -/
theorem Cir.mem (h : Cir w lab g S) : ∃ A c, w.cell? ⟨g, 0, none⟩ = some (.slice A S.s.ms.length c) ∧ SlN fM 5 w w.heap.size A S.s.ms.length S.s.ms ∧ S.s.ms.length ≤ c := by
  obtain ⟨vm, vv, bm, vfm, vfv, vc, ps1, ps2, h⟩ := h
  obtain ⟨A, c, rfl, hc, hs, _⟩ := h.ms.shape fM_len
  exact ⟨A, c, by rw [cell_of_row w g _ _ _ _ h.cell]; rfl, hs, hc⟩
/-- The vaults of a circle. -/
theorem Cir.vlt (h : Cir w lab g S) : ∃ A c ps, w.cell? ⟨g, 1, none⟩ = some (.slice A S.s.vs.length c) ∧ VIn w w.heap.size A S.s.vs.length ps ∧ ps.map Prod.fst = S.s.vs ∧ (∀ p ∈ ps, p.2.n = p.1.ws.length) := by
  obtain ⟨vm, vv, bm, vfm, vfv, vc, ps1, ps2, h⟩ := h
  obtain ⟨A, c, rfl, hc, hv⟩ := h.vs.vin
  have hl : ps1.length = S.s.vs.length := by rw [← h.evs, List.length_map]
  rw [hl] at hv
  refine ⟨A, c, ps1, by rw [cell_of_row w g _ _ _ _ h.cell, ← hl]; rfl, hv, h.evs, fun p hp => ((hv.2 p hp).1).symm⟩
theorem Cir.quo (h : Cir w lab g S) : w.cell? ⟨g, 2, none⟩ = some (.int .i64 S.s.q) := by
  obtain ⟨vm, vv, bm, vfm, vfv, vc, ps1, ps2, h⟩ := h
  rw [cell_of_row w g _ _ _ _ h.cell]; rfl
theorem Cir.votes (h : Cir w lab g S) : ∃ bm, w.cell? ⟨g, 3, none⟩ = some (.map (some bm)) ∧ MapV w bm S.s.votes.length (fun x y => S.s.votes.contains (x, y)) := by
  obtain ⟨vm, vv, bm, vfm, vfv, vc, ps1, ps2, h⟩ := h
  exact ⟨bm, by rw [cell_of_row w g _ _ _ _ h.cell]; rfl, h.mp⟩
end
end Go.Proofs.YtkeicjokekmkpaaGreat
namespace Go.Proofs.YtkeicjokekmkpaaGreat
open Go.RowKit Mb
set_option linter.unusedVariables false
set_option linter.unusedSimpArgs false

theorem int64_nat {k : Nat} (h : k ≤ 1000000) : int64 (k : Int) := by unfold int64; omega
theorem below_dN' {B : Nat} {a w : World} (h : Below B a w) (n : Nat) : Below B a (w.drewN n) := ⟨h.os, h.tape, h.output, h.size, h.block⟩
theorem MapV.drewN {w : World} {b n : Nat} {F : Int → Int → Bool} (h : MapV w b n F) (a : Nat) : MapV (w.drewN a) b n F := h.block rfl
set_option maxRecDepth 20000 in
set_option maxHeartbeats 2000000 in
theorem cnt1_any (x y g : Nat) (lab : Nat → Nat) (S : Cst) (d : Int) (k : Nat) (w : World) (hC : Cir w lab g S) (hx : w.cell? ⟨x, 0, none⟩ = some (fG g)) (hy : w.cell? ⟨y, 0, none⟩ = some (.int .i64 d)) (hk : k < S.s.ms.length) (hd : int64 d) (hn : S.s.ms.length ≤ 1000) :
    Calls Tryz.prog 88 #[.int .i64 (k : Int), fG x, fG y] w (BoolB (actB S.s k && votedB S.s k d) w) := by
  obtain ⟨A, c, hcm, hsm, _⟩ := hC.mem
  obtain ⟨bm, hcb, hmp⟩ := hC.votes
  obtain ⟨m, hm⟩ := get_ex hk
  have HA : Hid (actB S.s k = !m.exp) := by show _ = _; unfold actB; rw [hm]
  have HQ : Hid (∀ a, (w.drewN a).cell? ⟨g, 0, none⟩ = some (.slice A S.s.ms.length c)) := fun a => hcm
  have HS : Hid (∀ a, SlN fM 5 (w.drewN a) w.heap.size A S.s.ms.length S.s.ms) := fun a => hsm
  have HM := Lib.hid hm
  have hl : ∀ a, (Instr.lookup 78 (.map (some bm)) (.agg #[.int .i64 (k : Int), .int .i64 d]) false).run Tryz.prog (w.drewN a) = .ok (.bool (votedB S.s k d)) (w.drewN a) := fun a => (hmp.drewN a).look k d (int64_nat (by omega)) hd
  obtain ⟨v, hv⟩ : ∃ z, votedB S.s k d = z := ⟨_, rfl⟩
  simp only [hv] at hl
  have HV := Lib.hid hv
  obtain ⟨ex, hex⟩ : ∃ z, m.exp = z := ⟨_, rfl⟩
  have hA : ∀ a, Calls Tryz.prog 59 #[fG g, .int .i64 k] (w.drewN a) fun e w' => e = .returned (.bool (!ex)) ∧ (w.drewN a) = w' := fun a => hex ▸ active_any g A _ c k S.s.ms m _ _ (HQ.out a) (HS.out a) (by omega) hm
  have HAC := Lib.hid hA
  have HEX := Lib.hid hex
  have HB : Hid (Below w.heap.size w w) := Below.refl _ _
  clear hm hsm hmp hC hv hex hA
  cases ex
  · simp only [Bool.not_false] at HAC
    go_enter Tryz.func88, Tryz.ntmps88
    go_wp2
    go_quiet ((go_at_call 59; with_reducible exact Calls.quiet_of_same (same_of (HAC.out _))))
    go_wp2
    go_ret
    exact ⟨ret_bool (by rw [HA.out, HEX.out, HV.out]; first | rfl | simp), by first | exact HB.out | exact below_dN' HB.out _⟩
  · simp only [Bool.not_true] at HAC
    go_enter Tryz.func88, Tryz.ntmps88
    go_wp2
    go_quiet ((go_at_call 59; with_reducible exact Calls.quiet_of_same (same_of (HAC.out _))))
    go_wp2
    go_ret
    exact ⟨ret_bool (by rw [HA.out, HEX.out]; first | rfl | simp), by first | exact HB.out | exact below_dN' HB.out _⟩

/-- counting. -/
theorem counting_any (g : Nat) (lab : Nat → Nat) (S : Cst) (d : Int) (w : World) (hC : Cir w lab g S) (hd : int64 d) (hn : S.s.ms.length ≤ 1000) :
    Calls Tryz.prog 62 #[fG g, .int .i64 d] w (OwnI (counting S.s d) w) := by
  obtain ⟨W, hW⟩ : ∃ W : World, W = (w.alloc (.cells #[fG g] 29)).alloc (.cells #[.int .i64 d] 3) := ⟨_, rfl⟩
  have hB : Below w.heap.size w W := by rw [hW]; exact ((Below.refl _ _).alloc (Nat.le_refl _) _).alloc (by simp) _
  have hsz : W.heap.size = w.heap.size + 2 := by rw [hW]; simp
  have h0 : W.heap[w.heap.size]? = some (.cells #[fG g] 29 (0, 0)) := by rw [hW]; exact (Below.heap_alloc _ _ _ (by simp)).trans (heap_alloc_new w _)
  have h1 : W.heap[w.heap.size + 1]? = some (.cells #[.int .i64 d] 3 (0, 0)) := by rw [hW]; exact heap_new_at (w := w.alloc _) (by simp)
  have hCW := hC.on hB
  obtain ⟨A, c, hcm, _, _⟩ := hCW.mem
  have HD := Lib.hid (devices_count g A S.s.ms.length c w.heap.size (w.heap.size + 1) (fun k => actB S.s k && votedB S.s k d) W hcm hn (fun V k h hk =>
    cnt1_any w.heap.size (w.heap.size + 1) g lab S d k V (hCW.on h) ((h.cell (p := ⟨w.heap.size, 0, none⟩) (by show w.heap.size < _; omega)).trans (by rw [cell_of_row W _ _ _ _ _ h0]; rfl)) ((h.cell (p := ⟨w.heap.size + 1, 0, none⟩) (by show w.heap.size + 1 < _; omega)).trans (by rw [cell_of_row W _ _ _ _ _ h1]; rfl)) hk hd hn))
  have HB := Lib.hid hB
  have HSZ := Lib.hid hsz
  have hc0 : W.cell? ⟨w.heap.size, 0, none⟩ = some (fG g) := by rw [cell_of_row W _ _ _ _ _ h0]; rfl
  clear hC hCW hcm h0 h1 hB hsz
  go_enter Tryz.func62, Tryz.ntmps62
  go_wp2_with fail
  rw [← hW]
  refine HD.out.mono ?_
  rintro e w1 ⟨v, rfl, ho, hb⟩
  have HO : Hid (Own I 3 w1 w.heap.size v (counting S.s d)) := World.ownsRow.mono ho HB.out.size
  have HB1 : Hid (Below w.heap.size w w1) := HB.out.trans (hb.mono HB.out.size)
  clear ho hb hW hc0
  go_wp2
  go_ret
  exact ⟨v, rfl, HO.out, HB1.out⟩
/-- A row of ints and an error. -/
def OwnI2 (xs : List Int) (r : Int) (w : World) (e : Ending) (w' : World) : Prop := ∃ v, e = .returned (.tuple #[v, .int .i64 r]) ∧ Own I 3 w' w.heap.size v xs ∧ Below w.heap.size w w'
theorem has_cir (g : Nat) (lab : Nat → Nat) (S : Cst) (d : Int) (w : World) (hC : Cir w lab g S) (hn : S.s.ms.length ≤ 1000) :
    Calls Tryz.prog 61 #[fG g, .int .i64 d] w fun e w' => e = .returned (.bool (hasB S.s d)) ∧ w = w' := by
  obtain ⟨A, c, hcm, _, _⟩ := hC.mem
  exact has_any g A _ c d w hcm (by omega)
theorem act_cir (g : Nat) (lab : Nat → Nat) (S : Cst) (d : Int) (w : World) (hC : Cir w lab g S) (hn : S.s.ms.length ≤ 1000) (hd : hasB S.s d = true) :
    Calls Tryz.prog 59 #[fG g, .int .i64 d] w fun e w' => e = .returned (.bool (actB S.s d.toNat)) ∧ w = w' := by
  obtain ⟨A, c, hcm, hs, _⟩ := hC.mem
  have h5 : 0 ≤ d ∧ d < S.s.ms.length := by unfold hasB at hd; simpa using hd
  obtain ⟨m, hm⟩ := get_ex (xs := S.s.ms) (k := d.toNat) (by omega)
  have e : actB S.s d.toNat = !m.exp := by unfold actB; rw [hm]
  have e2 : ((d.toNat : Nat) : Int) = d := by omega
  rw [e]
  have h6 := active_any g A _ c d.toNat S.s.ms m w _ hcm hs (by omega) hm
  rw [e2] at h6
  exact h6
theorem votes_no (g : Nat) (lab : Nat → Nat) (S : Cst) (d : Int) (w : World) (hC : Cir w lab g S) (hn : S.s.ms.length ≤ 1000) (hd : hasB S.s d = false) :
    Calls Tryz.prog 49 #[fG g, .int .i64 d] w (OwnI2 [] 4 w) := by
  have HH : Hid (Calls Tryz.prog 61 #[fG g, .int .i64 d] w fun e w' => e = .returned (.bool false) ∧ w = w') := hd ▸ has_cir g lab S d w hC hn
  clear hC hd
  go_enter Tryz.func49, Tryz.ntmps49
  go_wp2_with fail
  refine HH.out.mono ?_
  rintro e w1 ⟨rfl, rfl⟩
  go_wp2
  go_ret2
  exact ⟨_, rfl, Own.nil, Below.refl _ _⟩
theorem votes_yes (g : Nat) (lab : Nat → Nat) (S : Cst) (d : Int) (w : World) (hC : Cir w lab g S) (hn : S.s.ms.length ≤ 1000) (hd : hasB S.s d = true) :
    Calls Tryz.prog 49 #[fG g, .int .i64 d] w (OwnI2 (counting S.s d) 0 w) := by
  have HH : Hid (Calls Tryz.prog 61 #[fG g, .int .i64 d] w fun e w' => e = .returned (.bool true) ∧ w = w') := hd ▸ has_cir g lab S d w hC hn
  have hd64 : int64 d := by
    have h5 : 0 ≤ d ∧ d < S.s.ms.length := by unfold hasB at hd; simpa using hd
    unfold int64; omega
  have HC := Lib.hid (counting_any g lab S d w hC hd64 hn)
  clear hC hd hd64
  go_enter Tryz.func49, Tryz.ntmps49
  go_wp2_with fail
  refine HH.out.mono ?_
  rintro e w1 ⟨rfl, rfl⟩
  go_wp2_with fail
  refine HC.out.mono ?_
  rintro e w1 ⟨v, rfl, ho, hb⟩
  have HO := Lib.hid ho
  have HB := Lib.hid hb
  clear ho hb
  go_wp2
  go_ret2
  exact ⟨v, rfl, HO.out, HB.out⟩
end Go.Proofs.YtkeicjokekmkpaaGreat
namespace Go.Proofs.YtkeicjokekmkpaaGreat
open Go.RowKit Mb
set_option linter.unusedVariables false
set_option linter.unusedSimpArgs false

/-- What New does. -/
def NewP (ms : List Mem) (vs : List Vlt) (q : Int) (w : World) (e : Ending) (w' : World) : Prop :=
  (newE ms vs q = 0 ∧ NewC ms vs q w e w') ∨ (newE ms vs q ≠ 0 ∧ ErrP (newE ms vs q) w e w')
theorem new_any (A A' : Option Addr) (n n' c c' : Nat) (q : Int) (ms : List Mem) (ps : List VP) (w : World) (hcap : n ≤ c) (hx : SlN fM 5 w w.heap.size A n ms) (hsz : ∀ m ∈ ms, m.name.size ≤ 9223372036854775807 ∧ m.pub.size ≤ 9223372036854775807) (hv : VIn w w.heap.size A' n' ps)
    (hvz : ∀ p ∈ ps, p.2.n ≤ 9223372036854775807 ∧ p.1.print.size ≤ 9223372036854775807) :
    Calls Tryz.prog 19 #[.slice A n c, .slice A' n' c', .int .i64 q] w (NewP ms (ps.map Prod.fst) q w) := by
  have hl := hx.1
  have hl' := hv.1.1
  cases hh : headB n n' q
  · have he : newE ms (ps.map Prod.fst) q = 1 := by unfold newE; rw [List.length_map, hl, hl', hh]; rfl
    exact (new_head A A' n n' c c' q ms ps w hh).mono fun e w' h => .inr ⟨by rw [he]; decide, by rw [he]; exact h⟩
  · cases hm : memsB ms
    · have he : newE ms (ps.map Prod.fst) q = 1 := by unfold newE; rw [List.length_map, hl, hl', hh, hm]; rfl
      exact (new_mem A A' n n' c c' q ms ps w hh hcap hx hsz hm).mono fun e w' h => .inr ⟨by rw [he]; decide, by rw [he]; exact h⟩
    · cases hvm : vltsB (ps.map Prod.fst) n
      · have he : newE ms (ps.map Prod.fst) q = 1 := by unfold newE; rw [List.length_map, hl, hl', hh, hm, hvm]; rfl
        exact (new_vlt A A' n n' c c' q ms ps w hh hcap hx hsz hv hvz hm hvm).mono fun e w' h => .inr ⟨by rw [he]; decide, by rw [he]; exact h⟩
      · cases hps : (ps.map Prod.fst).all (possB n)
        · have he : newE ms (ps.map Prod.fst) q = 14 := by unfold newE; rw [List.length_map, hl, hl', hh, hm, hvm, hps]; rfl
          exact (new_pos A A' n n' c c' q ms ps w hh hcap hx hsz hv hvz hm hvm hps).mono fun e w' h => .inr ⟨by rw [he]; decide, by rw [he]; exact h⟩
        · have he : newE ms (ps.map Prod.fst) q = 0 := by unfold newE; rw [List.length_map, hl, hl', hh, hm, hvm, hps]; rfl
          exact (new_yes A A' n n' c c' q ms ps w hh hcap hx hsz hv hvz hm hvm hps).mono fun e w' h => .inl ⟨he, h⟩
end Go.Proofs.YtkeicjokekmkpaaGreat
namespace Go.Proofs.YtkeicjokekmkpaaGreat
open Go.RowKit Mb
set_option linter.unusedVariables false
set_option linter.unusedSimpArgs false

/-- The circle that New made. -/
theorem NewC.cir {ms : List Mem} {vs : List Vlt} {q : Int} {w w' : World} {e : Ending} (h : NewC ms vs q w e w') :
    ∃ g lab, e = .returned (.tuple #[fG g, .int .i64 0]) ∧ Cir w' lab g ⟨⟨ms, vs, q, []⟩, ms, vs, []⟩ ∧ (∀ k, k < w.heap.size → lab k = 0) ∧ w.heap.size ≤ g ∧ Below w.heap.size w w' := by
  obtain ⟨B1, bm, B4, g, vm, vv, vfm, vfv, ps1, ps2, rfl, hcell, hvm, hvm1, hvv, hvv1, hps1, hbm, hfm, hfm1, hfv, hfv1, hps2, o1, o2, o3, o4, hb⟩ := h
  have hgl := lt_of_block hcell
  obtain ⟨lab, hlab⟩ : ∃ lab : Nat → Nat, ∀ k, lab k = if k < w.heap.size then 0 else if k < B1 then 3 else if k < bm then 4 else if k = bm then 2 else if k < B4 then 5 else if k < g then 6 else if k = g then 1 else 0 := ⟨_, fun _ => rfl⟩
  have own3 : ∀ k, w.heap.size ≤ k → k < B1 → lab k = 3 := fun k h1 h2 => by rw [hlab]; simp only [show ¬ k < w.heap.size by omega, h2, if_true, if_false]
  have own4 : ∀ k, B1 ≤ k → k < bm → lab k = 4 := fun k h1 h2 => by rw [hlab]; simp only [show ¬ k < w.heap.size by omega, show ¬ k < B1 by omega, h2, if_true, if_false]
  have own2 : lab bm = 2 := by rw [hlab]; simp only [show ¬ bm < w.heap.size by omega, show ¬ bm < B1 by omega, show ¬ bm < bm by omega, if_true, if_false]
  have own5 : ∀ k, bm + 1 ≤ k → k < B4 → lab k = 5 := fun k h1 h2 => by rw [hlab]; simp only [show ¬ k < w.heap.size by omega, show ¬ k < B1 by omega, show ¬ k < bm by omega, show ¬ k = bm by omega, h2, if_true, if_false]
  have own6 : ∀ k, B4 ≤ k → k < g → lab k = 6 := fun k h1 h2 => by rw [hlab]; simp only [show ¬ k < w.heap.size by omega, show ¬ k < B1 by omega, show ¬ k < bm by omega, show ¬ k = bm by omega, show ¬ k < B4 by omega, h2, if_true, if_false]
  have own1 : lab g = 1 := by rw [hlab]; simp only [show ¬ g < w.heap.size by omega, show ¬ g < B1 by omega, show ¬ g < bm by omega, show ¬ g = bm by omega, show ¬ g < B4 by omega, show ¬ g < g by omega, if_true, if_false]
  have ownT : ∀ k, g < k → lab k = 0 := fun k h1 => by rw [hlab]; simp only [show ¬ k < w.heap.size by omega, show ¬ k < B1 by omega, show ¬ k < bm by omega, show ¬ k = bm by omega, show ¬ k < B4 by omega, show ¬ k < g by omega, show ¬ k = g by omega, if_false]
  refine ⟨g, lab, rfl, ⟨vm, vv, bm, vfm, vfv, .slice none 0 0, ps1, ps2, ?_⟩, fun k hk => by rw [hlab, if_pos hk], by omega, hb⟩
  refine ⟨hcell, own1, World.ownsRow.mono hvm (Nat.zero_le _), fun k hk => own3 k (World.ownsRow.lt hvm k hk).1 (hvm1 k hk), ⟨World.ownsRow.mono hvv.row (Nat.zero_le _), fun p hp => World.ownsRow.mono (hvv.ws p hp) (Nat.zero_le _), hvv.far, hvv.apart⟩, hps1,
    fun k hk => own4 k (World.ownsRow.lt hvv.row k hk).1 (hvv1.1 k hk), fun p hp k hk => own4 k (World.ownsRow.lt (hvv.ws p hp) k hk).1 (hvv1.2 p hp k hk), ?_, own2, World.ownsRow.mono hfm (Nat.zero_le _), fun k hk => own5 k (World.ownsRow.lt hfm k hk).1 (hfm1 k hk),
    ⟨World.ownsRow.mono hfv.row (Nat.zero_le _), fun p hp => World.ownsRow.mono (hfv.ws p hp) (Nat.zero_le _), hfv.far, hfv.apart⟩, hps2, fun k hk => own6 k (World.ownsRow.lt hfv.row k hk).1 (hfv1.1 k hk), fun p hp k hk => own6 k (World.ownsRow.lt (hfv.ws p hp) k hk).1 (hfv1.2 p hp k hk), Own.nil, fun k hk => (by cases hk), fun k hk => ownT k (by omega)⟩
  exact MapV.empty hbm
end Go.Proofs.YtkeicjokekmkpaaGreat
namespace Go.Proofs.YtkeicjokekmkpaaGreat
open Go.RowKit Mb
set_option linter.unusedVariables false
set_option linter.unusedSimpArgs false

def encX : Chg → List Int
  | .adm m => encL [1] ++ encM m
  | .bal a b => encL [2, a, b]
  | .rep v a b => encL [3, v, a, b]
def encC (S : Cst) : List Int := enc S.fm.length ++ (S.fm.flatMap encM ++ (enc S.fv.length ++ (S.fv.flatMap encVt ++ (encL [S.s.q] ++ (enc S.chs.length ++ S.chs.flatMap encX)))))
def xOk : Chg → Prop
  | .adm m => mOk m
  | .bal a b => nOk a ∧ nOk b
  | .rep v a b => nOk v ∧ nOk a ∧ nOk b
/-- What may be encoded. -/
structure EInv (S : Cst) : Prop where
  fm : S.fm.length ≤ 12
  ms : ∀ m ∈ S.fm, mOk m
  fv : S.fv.length ≤ 12
  vs : ∀ v ∈ S.fv, vOk v
  q : nOk S.s.q
  ch : ∀ x ∈ S.chs, xOk x
theorem encX_len {x : Chg} (h : xOk x) : (encX x).length ≤ 78 := by
  cases x with
  | adm m =>
    have h1 := encL_len [1]
    have h2 := encM_len h
    simp only [encX, List.length_append, List.length_cons, List.length_nil] at *
    omega
  | bal a b => have h1 := encL_len [2, a, b]; simp only [encX, List.length_cons, List.length_nil] at *; omega
  | rep v a b => have h1 := encL_len [3, v, a, b]; simp only [encX, List.length_cons, List.length_nil] at *; omega
theorem encC_len {S : Cst} (h : EInv S) (hc : S.chs.length ≤ 5000) : (encC S).length ≤ 400000 := by
  have h1 := flat_le encM 68 S.fm fun m hm => encM_len (h.ms m hm)
  have h2 := flat_le encVt 200 S.fv fun v hv => encVt_len (h.vs v hv)
  have h3 := flat_le encX 78 S.chs fun x hx => encX_len (h.ch x hx)
  have h4 := enc_len S.fm.length
  have h5 := enc_len S.fv.length
  have h6 := enc_len S.chs.length
  have h7 := encL_len [S.s.q]
  have := h.fm
  have := h.fv
  unfold encC
  simp only [List.length_append, List.length_cons, List.length_nil] at *
  omega
end Go.Proofs.YtkeicjokekmkpaaGreat
namespace Go.Proofs.YtkeicjokekmkpaaGreat
open Go.RowKit Mb
set_option linter.unusedVariables false
set_option linter.unusedSimpArgs false

/-- A value of the reference of wire. -/
structure Vl where
  kind : Int
  u : Int
  n : Int
  b : Bool
  s : ByteArray
  most : Int
instance : Inhabited Vl := ⟨⟨0, 0, 0, false, ⟨#[]⟩, 0⟩⟩
abbrev fVl (x : Vl) : List Value := [.int .i64 x.kind, .int .u64 x.u, .int .i64 x.n, .bool x.b, .string x.s, .int .i64 x.most]
theorem fVl_len : ∀ x, (fVl x).length = 6 := fun _ => rfl
theorem fVl_one : ∀ x, ∀ u ∈ fVl x, u.oneCell' = true := fun x u hu => by
  simp only [fVl, List.mem_cons, List.not_mem_nil, or_false] at hu
  rcases hu with rfl | rfl | rfl | rfl | rfl | rfl <;> rfl
def vN (x : Int) : Vl := ⟨1, x, 0, false, ⟨#[]⟩, 0⟩
def vC (k : Nat) : Vl := ⟨7, 0, k, false, ⟨#[]⟩, 0⟩
def vT (s : ByteArray) : Vl := ⟨5, 0, 0, false, s, 0⟩
def vS (s : ByteArray) : Vl := ⟨6, 0, 0, false, s, 0⟩
/-- What a value encodes to: the kinds that a circle has. -/
def encV (x : Vl) : List Int := if x.kind = 1 then enc x.u.toNat else if x.kind = 5 then enc x.s.size ++ sB x.s else if x.kind = 6 then sB x.s else enc x.n.toNat
/-- The kinds that a circle has. -/
def VlOk (x : Vl) : Prop := (x.kind = 1 ∧ 0 ≤ x.u ∧ x.u ≤ 1099511627776) ∨ (x.kind = 5 ∧ x.s.size ≤ 16) ∨ (x.kind = 6 ∧ x.s.size = 32) ∨ (x.kind = 7 ∧ 0 ≤ x.n ∧ x.n ≤ 100000)
def vlM (m : Mem) : List Vl := [vT m.name, vS m.pub, vN m.quota]
def vlV (v : Vlt) : List Vl := vC v.ws.length :: (v.ws.map vN ++ ([vN v.data, vN v.total, vN v.thr, vS v.print] ++ ([vN v.cmin, vN v.cmax, vN v.cwin, vN v.cbits] ++ [vN v.ra, vN v.rb, vN v.rc, vN v.rd])))
def vlX : Chg → List Vl
  | .adm m => vN 1 :: vlM m
  | .bal a b => [vN 2, vN a, vN b]
  | .rep v a b => [vN 3, vN v, vN a, vN b]
def vlC (S : Cst) : List Vl := [vC S.fm.length] ++ (S.fm.flatMap vlM ++ ([vC S.fv.length] ++ (S.fv.flatMap vlV ++ ([vN S.s.q, vC S.chs.length] ++ S.chs.flatMap vlX))))
theorem encV_N (x : Int) : encV (vN x) = enc x.toNat := rfl
theorem encV_C (k : Nat) : encV (vC k) = enc k := by simp [encV, vC]
theorem encV_T (s : ByteArray) : encV (vT s) = enc s.size ++ sB s := rfl
theorem encV_S (s : ByteArray) : encV (vS s) = sB s := rfl
theorem flat_N (xs : List Int) : (xs.map vN).flatMap encV = encL xs := by
  unfold encL
  rw [List.flatMap_map]
  rfl
theorem flat_M (m : Mem) : (vlM m).flatMap encV = encM m := by
  simp [vlM, encM, encV_N, encV_T, encV_S, encL]
theorem flat_V (v : Vlt) : (vlV v).flatMap encV = encVt v := by
  simp [vlV, encVt, encV_N, encV_C, encV_S, encL, flat_N]
theorem flat_X (x : Chg) : (vlX x).flatMap encV = encX x := by
  cases x with
  | adm m => simp [vlX, encX, encV_N, encL, flat_M]
  | bal a b => simp [vlX, encX, encV_N, encL]
  | rep v a b => simp [vlX, encX, encV_N, encL]
theorem flat_two {α β γ : Type} (f : α → List β) (g : β → List γ) (h : α → List γ) (e : ∀ x, (f x).flatMap g = h x) (xs : List α) : (xs.flatMap f).flatMap g = xs.flatMap h := by
  induction xs with
  | nil => rfl
  | cons x l ih => simp only [List.flatMap_cons, List.flatMap_append, ih, e]
/-- The list of values encodes to the circle's encoding. -/
theorem flat_C (S : Cst) : (vlC S).flatMap encV = encC S := by
  unfold vlC encC
  simp only [List.flatMap_append, flat_two vlM encV encM flat_M, flat_two vlV encV encVt flat_V, flat_two vlX encV encX flat_X, List.flatMap_cons, List.flatMap_nil, encV_C, encV_N, encL, List.append_nil, List.append_assoc]
theorem vlOk_N {x : Int} (h : nOk x) : VlOk (vN x) := .inl ⟨rfl, h.1, h.2⟩
theorem vlOk_C {k : Nat} (h : k ≤ 100000) : VlOk (vC k) := .inr (.inr (.inr ⟨rfl, by simp [vC], by simp only [vC]; omega⟩))
theorem vlOk_T {s : ByteArray} (h : s.size ≤ 16) : VlOk (vT s) := .inr (.inl ⟨rfl, h⟩)
theorem vlOk_S {s : ByteArray} (h : s.size = 32) : VlOk (vS s) := .inr (.inr (.inl ⟨rfl, h⟩))
theorem vlOk_M {m : Mem} (h : mOk m) : ∀ x ∈ vlM m, VlOk x := fun x hx => by
  simp only [vlM, List.mem_cons, List.not_mem_nil, or_false] at hx
  rcases hx with rfl | rfl | rfl
  · exact vlOk_T h.1
  · exact vlOk_S h.2.1
  · exact vlOk_N h.2.2
theorem vlOk_V {v : Vlt} (h : vOk v) : ∀ x ∈ vlV v, VlOk x := fun x hx => by
  obtain ⟨h0, h1, h2, h3, h4, h5⟩ := h
  simp only [vlV, List.mem_cons, List.mem_append, List.mem_map, List.not_mem_nil, or_false] at hx
  rcases hx with rfl | ⟨y, hy, rfl⟩ | (rfl | rfl | rfl | rfl) | (rfl | rfl | rfl | rfl) | (rfl | rfl | rfl | rfl)
  · exact vlOk_C (by omega)
  · exact vlOk_N (h1 y hy)
  · exact vlOk_N (h2 _ (by simp))
  · exact vlOk_N (h2 _ (by simp))
  · exact vlOk_N (h2 _ (by simp))
  · exact vlOk_S h3
  · exact vlOk_N (h4 _ (by simp))
  · exact vlOk_N (h4 _ (by simp))
  · exact vlOk_N (h4 _ (by simp))
  · exact vlOk_N (h4 _ (by simp))
  · exact vlOk_N (h5 _ (by simp))
  · exact vlOk_N (h5 _ (by simp))
  · exact vlOk_N (h5 _ (by simp))
  · exact vlOk_N (h5 _ (by simp))
theorem vlOk_X {x : Chg} (h : xOk x) : ∀ y ∈ vlX x, VlOk y := fun y hy => by
  cases x with
  | adm m =>
    simp only [vlX, List.mem_cons] at hy
    rcases hy with rfl | hy
    · exact vlOk_N ⟨by decide, by decide⟩
    · exact vlOk_M h y hy
  | bal a b =>
    simp only [vlX, List.mem_cons, List.not_mem_nil, or_false] at hy
    rcases hy with rfl | rfl | rfl
    · exact vlOk_N ⟨by decide, by decide⟩
    · exact vlOk_N h.1
    · exact vlOk_N h.2
  | rep v a b =>
    simp only [vlX, List.mem_cons, List.not_mem_nil, or_false] at hy
    rcases hy with rfl | rfl | rfl | rfl
    · exact vlOk_N ⟨by decide, by decide⟩
    · exact vlOk_N h.1
    · exact vlOk_N h.2.1
    · exact vlOk_N h.2.2
theorem vlOk_all {S : Cst} (h : EInv S) (hc : S.chs.length ≤ 5000) : ∀ x ∈ vlC S, VlOk x := fun x hx => by
  have h1 := h.fm
  have h2 := h.fv
  simp only [vlC, List.mem_cons, List.mem_append, List.mem_flatMap, List.not_mem_nil, or_false] at hx
  rcases hx with rfl | ⟨m, hm, hx⟩ | rfl | ⟨v, hv, hx⟩ | (rfl | rfl) | ⟨y, hy, hx⟩
  · exact vlOk_C (by omega)
  · exact vlOk_M (h.ms m hm) x hx
  · exact vlOk_C (by omega)
  · exact vlOk_V (h.vs v hv) x hx
  · exact vlOk_N h.q
  · exact vlOk_C (by omega)
  · exact vlOk_X (h.ch y hy) x hx
theorem flatn_le {α β : Type} (f : α → List β) (c : Nat) : ∀ (xs : List α), (∀ x ∈ xs, (f x).length ≤ c) → (xs.flatMap f).length ≤ c * xs.length
  | [], _ => by simp
  | x :: l, h => by
    have h1 := h x (List.mem_cons_self ..)
    have h2 := flatn_le f c l fun y hy => h y (List.mem_cons_of_mem _ hy)
    rw [List.flatMap_cons, List.length_append, List.length_cons, Nat.mul_succ]
    omega
theorem vlC_len {S : Cst} (h : EInv S) (hc : S.chs.length ≤ 5000) : (vlC S).length ≤ 30000 := by
  have h1 := flatn_le vlM 3 S.fm fun m hm => by simp [vlM]
  have h2 := flatn_le vlV 16 S.fv fun v hv => by have := (h.vs v hv).1; simp [vlV]; omega
  have h3 := flatn_le vlX 4 S.chs fun x hx => by cases x <;> simp [vlX, vlM]
  have := h.fm
  have := h.fv
  unfold vlC
  simp only [List.length_append, List.length_cons, List.length_nil] at *
  omega
end Go.Proofs.YtkeicjokekmkpaaGreat
