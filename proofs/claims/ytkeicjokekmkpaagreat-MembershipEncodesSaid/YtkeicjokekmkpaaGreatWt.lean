/- wire.Writer: Text, Sum. -/
import Derived.Test.YtkeicjokekmkpaaGreatMl
namespace Go.Proofs.YtkeicjokekmkpaaGreat
open Go.RowKit
set_option linter.unusedVariables false
set_option linter.unusedSimpArgs false

/-- A writer's state, seen from an earlier world. -/
def Wc (g base : Nat) (v : Value) (w0 : World) (bs : List Int) (w : World) : Prop := ∃ v', Wr w g base v' bs ∧ But (foot g v) w0 w ∧ NewRow v v' w0
section
variable {g base : Nat} {v : Value} {w0 w : World} {bs bs' : List Int}
theorem Wc.start (h : Wr w g base v bs) : Wc g base v w bs w := ⟨v, h, But.refl _ _, .inl rfl⟩
theorem Wc.step (h : Wc g base v w0 bs w) {f : FuncId} {args : Array Value} {P : Program} (hc : ∀ v', Wr w g base v' bs → NewRow v v' w0 → Calls P f args w (WPost g base v' bs' w)) :
    Calls P f args w fun e w' => e = .returned (.tuple #[]) ∧ Wc g base v w0 bs' w' := by
  obtain ⟨v1, h1, h2, h3⟩ := h
  refine (hc v1 h1 h3).mono ?_
  rintro e w' ⟨v2, rfl, k1, k2, k3⟩
  exact ⟨rfl, v2, k1, h2.wr h3 k2, h3.trans k3 h2.size⟩
theorem Wc.alloc (h : Wc g base v w0 bs w) (o : Obj) : Wc g base v w0 bs (w.alloc o) := by
  obtain ⟨v1, h1, h2, h3⟩ := h
  exact ⟨v1, h1.alloc o, h2.alloc o, h3⟩
theorem Wr.fresh (h : Wr w g base v bs) : ¬ foot g v w.heap.size := by
  rintro (h1 | h1)
  · have := lt_of_block h.1; omega
  · have := (World.ownsRow.lt h.2.1 _ h1).2; omega
theorem Wc.stepA (h : Wc g base v w0 bs w) (o : Obj) {f : FuncId} {args : Array Value} {P : Program} (hc : ∀ v', Wr (w.alloc o) g base v' bs → ¬ foot g v' w.heap.size → Calls P f args (w.alloc o) (WPost g base v' bs' (w.alloc o))) :
    Calls P f args (w.alloc o) fun e w' => e = .returned (.tuple #[]) ∧ Wc g base v w0 bs' w' := by
  obtain ⟨v1, h1, h2, h3⟩ := h
  refine (hc v1 (h1.alloc o) h1.fresh).mono ?_
  rintro e w' ⟨v2, rfl, k1, k2, k3⟩
  exact ⟨rfl, v2, k1, (h2.alloc o).wr h3 k2, h3.trans k3 (h2.alloc o).size⟩
theorem Wc.keep (h : Wc g base v w0 bs w) {k : Nat} (hk : ¬ foot g v k) (hl : k < w0.heap.size) : w.heap[k]? = w0.heap[k]? := by
  obtain ⟨v1, h1, h2, h3⟩ := h
  exact h2.block k hl hk
theorem Wc.size (h : Wc g base v w0 bs w) : w0.heap.size ≤ w.heap.size := by
  obtain ⟨v1, h1, h2, h3⟩ := h
  exact h2.size
theorem foot_still {v' : Value} (hn : NewRow v v' w0) {k : Nat} (hk : ¬ foot g v k) (hl : k < w0.heap.size) : ¬ foot g v' k := by
  intro h
  rcases foot_step hn k h with h1 | h1
  · exact hk h1
  · omega
theorem Wc.post (h : Wc g base v w0 bs w) : WPost g base v bs w0 (.returned (.tuple #[])) w := by
  obtain ⟨v1, h1, h2, h3⟩ := h
  exact ⟨v1, rfl, h1, h2, h3⟩
/-- The writer's row was turned by an append. -/
theorem Wr.put {w1 : World} {v1 : Value} {A : Option Addr} {l c : Nat} (hg : w1.heap[g]? = some (.cells #[v, .int .i64 0] 134 (0, 0))) (ho : Own fB 5 w1 base v1 bs) (hne : v1.ownBlock ≠ some g) (hbase : base ≤ w1.heap.size) (hv : v1 = .slice A l c) :
    Wr (w1.setCell ⟨g, 0, none⟩ (.slice A l c)) g base v1 bs := by
  subst hv
  have hst : But (fun k => k = g) w1 (w1.setCell ⟨g, 0, none⟩ (.slice A l c)) := But.setCell (p := fun k => k = g) (x := ⟨g, 0, none⟩) (But.refl _ _) (.inl rfl) _
  exact ⟨heap_setCell_same _ _ _ _ _ _ hg, ho.but hst fun k hk e => hne (by rw [hk, e]), Nat.le_trans hbase hst.size⟩
theorem But.put {w1 : World} (h : But (foot g v) w0 w1) (u : Value) : But (foot g v) w0 (w1.setCell ⟨g, 0, none⟩ u) := h.setCell (.inl (.inl rfl)) _
theorem But.app {w1 w2 : World} {v1 : Value} (h : But (foot g v) w0 w1) (hn : NewRow v v1 w0) (hg : w1.grownBy w2 v1.ownBlock) : But (foot g v) w0 w2 := h.grown hg fun k hk => by
  rcases hn with h1 | ⟨j, h1, hj⟩
  · exact .inl (.inr (by rw [← h1]; exact hk))
  · right; rw [h1] at hk; injection hk with hk; omega
theorem NewRow.app {w1 : World} {v1 v2 : Value} (hn : NewRow v v1 w0) (hs : w0.heap.size ≤ w1.heap.size) (h : v2.ownBlock = v1.ownBlock ∨ v2.ownBlock = some w1.heap.size) : NewRow v v2 w0 := by
  rcases h with h | h
  · rcases hn with h1 | ⟨j, h1, hj⟩
    · exact .inl (h.trans h1)
    · exact .inr ⟨j, h.trans h1, hj⟩
  · exact .inr ⟨_, h, hs⟩
end
/-- Behind an append to the writer's row. -/
theorem Wr.appd {g base : Nat} {v v1 : Value} {w w1 : World} {bs' : List Int} (hg : w1.heap[g]? = some (.cells #[v, .int .i64 0] 134 (0, 0))) (hne : v1.ownBlock ≠ some g) (hb : But (foot g v) w w1) (hn : NewRow v v1 w) (hbase : base ≤ w1.heap.size) (v2 : Value) (w2 : World) (ho : Own fB 5 w2 base v2 bs') (hgr : w1.grownBy w2 v1.ownBlock) (hv : v2.ownBlock = v1.ownBlock ∨ v2.ownBlock = some w1.heap.size) :
    ∃ A l c, v2 = .slice A l c ∧ Hid (Wr (w2.setCell ⟨g, 0, none⟩ (.slice A l c)) g base (.slice A l c) bs' ∧ But (foot g v) w (w2.setCell ⟨g, 0, none⟩ (.slice A l c)) ∧ NewRow v (.slice A l c) w) ∧ w2.frozen? ⟨g, 0, none⟩ = false ∧ w2.cell? ⟨g, 0, none⟩ = some v := by
  have hgg : w2.heap[g]? = some (.cells #[v, .int .i64 0] 134 (0, 0)) := (hgr.block g (lt_of_block hg) (fun e => hne e.symm)).trans hg
  have hne2 : v2.ownBlock ≠ some g := ho.ne_of hgg (by decide)
  have hB2 := hb.app hn hgr
  have hN2 := hn.app hb.size hv
  obtain ⟨A, c, hs, _⟩ := ho.shape
  have hw := Wr.put hgg ho hne2 (Nat.le_trans hbase hgr.size) hs
  subst hs
  exact ⟨A, _, c, rfl, ⟨hw, hB2.put _, hN2⟩, frozen_of_row w2 g 0 _ _ hgg, by rw [cell_of_row w2 g 0 _ _ _ hgg]; rfl⟩
set_option maxRecDepth 20000 in
set_option maxHeartbeats 1000000 in
theorem wtext_any (g base : Nat) (v : Value) (bs : List Int) (s : ByteArray) (w : World) (hw : Wr w g base v bs) (hs : s.size ≤ 1099511627776) (hlen : bs.length ≤ 1099511627776) :
    Calls Tryz.prog 76 #[.pointer (some ⟨g, 0, none⟩), .string s] w (WPost g base v (bs ++ (enc s.size ++ sB s)) w) := by
  obtain ⟨hg, hown, hbase⟩ := hw
  have h0 := cell_of_row w g 0 _ _ _ hg
  have h1 := cell_of_row w g 1 _ _ _ hg
  simp at h0 h1
  have HC := Lib.hid (extend_any v bs s.size w base hown hbase (by omega) hlen)
  have HG := Lib.hid hg
  have HNE : Hid (v.ownBlock ≠ some g) := hown.ne_of hg (by decide)
  have HBASE := Lib.hid hbase
  obtain ⟨i0, hi, hz0, hz1, hz2⟩ := info_parts Tryz.infoB
  have HI := Lib.hid hi
  have HZ0 := Lib.hid hz0
  have HZ1 := Lib.hid hz1
  have HZ2 := Lib.hid hz2
  have HL : Hid ((bs ++ enc s.size).length + s.size ≤ 140737488355328) := by
    show _ ≤ _
    have := enc_len s.size
    rw [List.length_append]
    omega
  have HSS : Hid (((s.size : Nat) : Int) = s.size) := rfl
  clear hi hz0 hz1 hz2 hg hown hbase
  go_enter Tryz.func76, Tryz.ntmps76
  go_wp2_with fail
  refine HC.out.mono ?_
  rintro e w1 ⟨v1, rfl, ho1, hb1, hv1⟩
  have HG1 : Hid (w1.heap[g]? = some (.cells #[v, .int .i64 0] 134 (0, 0))) := (hb1.block g (lt_of_block HG.out) HNE.out).trans HG.out
  have HB1 : Hid (But (foot g v) w w1) := hb1.mono fun i hi => .inl (.inr hi)
  have HO1 := Lib.hid ho1
  have HV1 : Hid (NewRow v v1 w) := hv1
  have HS1 : Hid (base ≤ w1.heap.size) := Nat.le_trans HBASE.out hb1.size
  have HNE1 : Hid (v1.ownBlock ≠ some g) := ho1.ne_of HG1.out (by decide)
  have HAPP := Lib.hid (Wr.appd (bs' := (bs ++ enc s.size) ++ sB s) HG1.out HNE1.out HB1.out HV1.out HS1.out)
  clear hb1 ho1 hv1 h0 h1
  go_wp2_with (at_builtin; (with_reducible refine wpList_app_str (o := ⟨some 19, _, _, _, _, _⟩) rfl (.tmp 17) (.tmp 18) 43 9 rfl 5 i0 Tryz.underlying43 Tryz.underlying9 HI.out HZ0.out HZ1.out HZ2.out v1 (bs ++ enc s.size) base rfl HO1.out s rfl HL.out HS1.out ?_); intro v2 w2 HO2 HG2 HV2; obtain ⟨A2, l2, c2, hv2, HF2, hfr, hcl⟩ := HAPP.out v2 w2 HO2.out HG2.out HV2.out; subst hv2)
  go_wp2
  go_end0
  rw [← List.append_assoc]
  exact ⟨_, rfl, HF2.out.1, HF2.out.2.1, HF2.out.2.2⟩

set_option maxRecDepth 20000 in
set_option maxHeartbeats 1000000 in
theorem wsum_any (g base : Nat) (v : Value) (bs : List Int) (s : ByteArray) (w : World) (hw : Wr w g base v bs) (hs : s.size = 32) (hlen : bs.length ≤ 1099511627776) :
    Calls Tryz.prog 77 #[.pointer (some ⟨g, 0, none⟩), .string s] w (WPost g base v (bs ++ sB s) w) := by
  obtain ⟨hg, hown, hbase⟩ := hw
  have h0 := cell_of_row w g 0 _ _ _ hg
  have h1 := cell_of_row w g 1 _ _ _ hg
  simp at h0 h1
  have HG := Lib.hid hg
  have HO := Lib.hid hown
  have HNE : Hid (v.ownBlock ≠ some g) := hown.ne_of hg (by decide)
  have HBASE := Lib.hid hbase
  obtain ⟨i0, hi, hz0, hz1, hz2⟩ := info_parts Tryz.infoB
  have HI := Lib.hid hi
  have HZ0 := Lib.hid hz0
  have HZ1 := Lib.hid hz1
  have HZ2 := Lib.hid hz2
  have HL : Hid (bs.length + s.size ≤ 140737488355328) := by show _ ≤ _; omega
  have hne32 : (((s.size : Nat) : Int) != 32) = false := by simp; omega
  have HAPP := Lib.hid (Wr.appd (bs' := bs ++ sB s) hg HNE.out (But.refl _ w) (Or.inl rfl : NewRow v v w) hbase)
  clear hi hz0 hz1 hz2 hg hown hbase
  go_enter Tryz.func77, Tryz.ntmps77
  go_wp2_with (at_builtin; (with_reducible refine wpList_app_str (o := ⟨some 21, _, _, _, _, _⟩) rfl (.tmp 19) (.tmp 20) 43 9 rfl 5 i0 Tryz.underlying43 Tryz.underlying9 HI.out HZ0.out HZ1.out HZ2.out v bs base rfl HO.out s rfl HL.out HBASE.out ?_); intro v2 w2 HO2 HG2 HV2; obtain ⟨A2, l2, c2, hv2, HF2, hfr, hcl⟩ := HAPP.out v2 w2 HO2.out HG2.out HV2.out; subst hv2)
  go_wp2
  go_end0
  exact ⟨_, rfl, HF2.out.1, HF2.out.2.1, HF2.out.2.2⟩
end Go.Proofs.YtkeicjokekmkpaaGreat
