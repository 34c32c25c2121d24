/- slices.Backward over days: its contract. After the kit's worked text on slices.All, turned to the descending loop. -/
import Derived.Test.YtfffhdclbdmfnaaIter
namespace Go.Proofs.Ytfffhdclbdmfnaa
open Go.RowKit Go.Shelf Ret
set_option linter.unusedVariables false
set_option linter.unusedSimpArgs false

attribute [local go_sem] Oper.semAt_some

/-- A day that can be counted. -/
abbrev Day := { d : Int // okD d }
def day0 : Day := ⟨0, by unfold okD; omega⟩
/-- The days from the end on, with their places, down to place m. -/
def bk (zs : List Day) (m : Nat) : List (Nat × Day) := (List.range (zs.length - m)).map fun t => (zs.length - 1 - t, zs[zs.length - 1 - t]?.getD day0)
theorem bk_len (zs : List Day) (m : Nat) : (bk zs m).length = zs.length - m := by simp [bk]
theorem bk_top (zs : List Day) : bk zs zs.length = [] := by simp [bk]
theorem bk_succ (zs : List Day) {m : Nat} (h : m < zs.length) : bk zs m = bk zs (m + 1) ++ [(m, zs[m]?.getD day0)] := by
  unfold bk
  have e : zs.length - m = (zs.length - (m + 1)) + 1 := by omega
  rw [e, List.range_succ, List.map_append]
  congr 1
  have e2 : zs.length - 1 - (zs.length - (m + 1)) = m := by omega
  simp only [List.map_cons, List.map_nil, e2]
theorem bk_rev (zs : List Day) : (bk zs 0).map (·.2.1) = (zs.map (·.1)).reverse := by
  apply List.ext_getElem
  · simp [bk]
  · intro i h1 h2
    have hi : i < zs.length := by simpa [bk] using h1
    simp only [bk, Nat.sub_zero, List.getElem_map, List.getElem_range, List.getElem_reverse, List.length_map]
    rw [List.getElem?_eq_getElem (by omega)]
    rfl
theorem bk_prefix (zs : List Day) (m : Nat) : m ≤ zs.length → bk zs m <+: bk zs 0 := by
  intro h
  induction m with
  | zero => exact List.prefix_refl _
  | succ m ih =>
    have := ih (by omega)
    rw [bk_succ zs (by omega)] at this
    exact (List.prefix_append _ _).trans this
/-- What a round that goes on keeps: all below n₀, and the box of the slice. -/
def KeepB (n₀ Bs : Nat) (W W' : World) : Prop := Below n₀ W W' ∧ W'.heap[Bs]? = W.heap[Bs]?
theorem KeepB.refl (n₀ Bs : Nat) (W : World) : KeepB n₀ Bs W W := ⟨Below.refl _ _, rfl⟩
theorem KeepB.trans {n₀ Bs : Nat} {A B C : World} (h : KeepB n₀ Bs A B) (k : KeepB n₀ Bs B C) : KeepB n₀ Bs A C := ⟨h.1.trans k.1, k.2.trans h.2⟩
theorem KeepB.putObj {n₀ Bs : Nat} {w : World} (hn : n₀ ≤ w.heap.size) (hB : Bs < w.heap.size) (W : World) (l : Nat) (o o' : Obj) (hl : w.heap.size ≤ l) (h : W.heap[l]? = some o) (h1 : o.isCells = false) (h2 : o.isWalk = false) : KeepB n₀ Bs W (W.putObj l o') :=
  ⟨belowK_b hn W l o o' hl h h1 h2, (grownBy_putObj' W l o').block Bs (by have := (Array.getElem?_eq_some_iff.1 h).1; omega) (fun e => by injection e with e; omega)⟩
abbrev encD (x : Nat × Day) : Array Value := #[Value.int .i64 (x.1 : Int), Value.int .i64 x.2.1]

set_option maxRecDepth 100000 in
set_option maxHeartbeats 2000000 in
theorem back1_in (F : Fence) (n : Nat) (h8 : F.fn 59) (hro : F.round = none) (hn : 1 ≤ n) (l Bs n₀ : Nat) (A : Option Addr) (cap : Nat) (zs : List Day) (hreach : zs.length ≤ 1000000) (J Jx : List (Nat × Day) → World → Prop)
    (hY : ∀ pre x W, J pre W → pre.length < zs.length → YieldAt F (n - 1) Try.prog l (encD x) W fun e W' =>
      (e = .returned (.bool true) ∧ J (pre ++ [x]) W' ∧ KeepB n₀ Bs W W') ∨ (e = .returned (.bool false) ∧ Jx (pre ++ [x]) W'))
    (W : World) (hBs : W.heap[Bs]? = some (.cells #[.slice A zs.length cap] 26 (0, 0))) (hs : Sl I W n₀ A zs.length (zs.map (·.1))) (h0 : J [] W) :
    CallsIn F n Try.prog 59 #[.func (.yield l) #[] #[], .pointer (some ⟨Bs, 0, none⟩)] W fun e W' => (∃ v, e = .returned v) ∧
      ((∃ ys, ys = bk zs 0 ∧ J ys W') ∨ (∃ pre, pre <+: bk zs 0 ∧ Jx pre W')) := by
  obtain ⟨len, hlen⟩ : ∃ len, zs.length = len := ⟨_, rfl⟩
  have HLEN := Lib.hid hlen
  rw [hlen] at hBs hs
  have HS := Lib.hid hs
  have hl6 : len ≤ 1000000 := by omega
  have hcell0 := cell_of_row W Bs 0 _ _ _ hBs
  simp at hcell0
  have HBS := Lib.hid hBs
  clear hBs
  clear hlen hs hreach
  refine callsIn_of_wp Try.func59 rfl h8 ?_ hro
  simp only [Try.ntmps59, List.size_toArray, List.length_cons, List.length_nil, Nat.reduceAdd, Nat.reduceSub, Array.replicate_succ, Array.replicate_zero, List.push_toArray, List.append_toArray, List.nil_append, List.cons_append]
  gi_wp2
  gi_loopw [3] (fun i wr => ∃ m : Nat, m ≤ len ∧ i = .int .i64 ((m : Int) - 1) ∧ J (bk zs m) wr ∧ Hid (KeepB n₀ Bs W wr))
    (fun i _ => (intOf i + 1).toNat)
  case atStart => exact ⟨len, Nat.le_refl _, rfl, by rw [← HLEN.out, bk_top]; exact h0, KeepB.refl _ _ _⟩
  case round =>
    obtain ⟨m, hm, rfl, hJs, hnx⟩ := hrel
    have hcb := cell_of_row wr Bs 0 _ _ _ (hnx.out.2.trans HBS.out)
    simp at hcb
    rcases m with _ | j
    · have e0 : ((0 : Nat) : Int) - 1 = -1 := rfl
      rw [e0]
      clear e0
      have HJ := Lib.hid hJs
      clear hJs
      gi_wp2
      go_end0
      exact ⟨⟨_, rfl⟩, .inl ⟨_, rfl, HJ.out⟩⟩
    · have e1 : ((j + 1 : Nat) : Int) - 1 = (j : Int) := by omega
      rw [e1]
      clear e1
      obtain ⟨fn, tmps, assign, body, hy, hR⟩ := hY _ (j, zs[j]?.getD day0) wr hJs (by rw [bk_len, HLEN.out]; omega)
      obtain ⟨b, off, x, rfl, hb, hx, hc⟩ := HS.out.2.at_ (k := j) (by rw [List.length_map, HLEN.out]; omega)
      have hxe : x = (zs[j]?.getD day0).1 := by
        rw [List.getElem?_map] at hx
        cases hz : zs[j]? with
        | none => rw [hz] at hx; simp at hx
        | some z => rw [hz] at hx; simp at hx; simp [hx]
      subst hxe
      have hcx : wr.cell? ⟨b, off + j, none⟩ = some (.int .i64 (zs[j]?.getD day0).1) := (hnx.out.1.cell (p := ⟨b, off + j, none⟩) hb).trans hc
      clear hx hc
      gi_wp2
      refine hR.mono ?_
      rintro e W3 (⟨rfl, hJ3, hk3⟩ | ⟨rfl, hJx3⟩)
      · gi_wp2
        go_roundw
        case rel => exact ⟨j, by omega, rfl, by rw [bk_succ zs (by rw [HLEN.out]; omega)]; exact hJ3, hnx.out.trans hk3⟩
        case measure => simp [intOf]
      · gi_wp2
        refine bodyPost_ret (results_none rfl _ _ _) rfl ?_
        exact ⟨⟨_, rfl⟩, .inr ⟨_, by rw [← bk_succ zs (by rw [HLEN.out]; omega)]; exact bk_prefix zs j (by rw [HLEN.out]; omega), hJx3⟩⟩

theorem back_any (a : Option Addr) (len cap : Nat) (w : World) :
    Calls Try.prog 45 #[.slice a len cap] w fun e w' => e = .returned (.func (.func 59) #[] #[.pointer (some ⟨w.heap.size, 0, none⟩)]) ∧ w.alloc (.cells #[.slice a len cap] 26) = w' := by
  go_enter Try.func45, Try.ntmps45
  go_wp2
  go_ret
  exact ⟨rfl, rfl⟩
theorem back_stops (F : Fence) (n : Nat) (h8 : F.fn 59) (hro : F.round = none) (hn : 1 ≤ n) (Bs n₀ : Nat) (A : Option Addr) (cap : Nat) (zs : List Day) (hreach : zs.length ≤ 1000000) (w : World) (hn₀ : n₀ ≤ w.heap.size)
    (hc : w.heap[Bs]? = some (.cells #[.slice A zs.length cap] 26 (0, 0))) (hs : Sl I w n₀ A zs.length (zs.map (·.1))) :
    SeqStopsK F n Try.prog 59 #[.pointer (some ⟨Bs, 0, none⟩)] encD (KeepB n₀ Bs) (fun ys => ys = bk zs 0) (fun pre => pre <+: bk zs 0) zs.length w := fun l J Jx W hW _ _ hY h0 =>
  back1_in F n h8 hro hn l Bs n₀ A cap zs hreach J Jx hY W ((hW.block Bs (lt_of_block hc)).trans hc) (hs.up (hW.mono hn₀) (Nat.le_refl _)) h0
end Go.Proofs.Ytfffhdclbdmfnaa
