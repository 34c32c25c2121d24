/- wire.Writer. -/
import Derived.Test.YtlnaakpcnhnccaaDoorWn
import Derived.Test.YtlnaakpcnhnccaaDoorRows
import Derived.KernelRfl
namespace Go.Proofs.YtlnaakpcnhnccaaDoor
open Go.RowKit
set_option linter.unusedVariables false
set_option linter.unusedSimpArgs false

theorem Tryd.infoB : (Tryd.prog.info? 5).map (fun i => (i.zero, i.size, i.bytes)) = some (some (.int .u8 0), 1, 1) := by kernel_rfl
abbrev fB := Value.int .u8
theorem fB1 : ∀ y, (fB y).oneCell' = true := fun _ => rfl

/-- Blocks that are there stay as they are, but for those of p. -/
structure But (p : Nat → Prop) (w w' : World) : Prop where
  os : w'.os = w.os
  tape : w'.tape = w.tape
  output : w'.output = w.output
  size : w.heap.size ≤ w'.heap.size
  block : ∀ k, k < w.heap.size → ¬ p k → w'.heap[k]? = w.heap[k]?
theorem But.refl (p : Nat → Prop) (w : World) : But p w w := ⟨rfl, rfl, rfl, Nat.le_refl _, fun _ _ _ => rfl⟩
theorem But.trans {p q : Nat → Prop} {a b c : World} (h : But p a b) (k : But q b c) (hq : ∀ i, q i → p i ∨ a.heap.size ≤ i) : But p a c :=
  ⟨k.os.trans h.os, k.tape.trans h.tape, k.output.trans h.output, Nat.le_trans h.size k.size, fun i hi hp => (k.block i (Nat.lt_of_lt_of_le hi h.size) (fun hqi => by
    rcases hq i hqi with h' | h'
    · exact hp h'
    · omega)).trans (h.block i hi hp)⟩
theorem But.alloc {p : Nat → Prop} {a b : World} (h : But p a b) (o : Obj) : But p a (b.alloc o) :=
  ⟨h.os, h.tape, h.output, Nat.le_trans h.size (by simp), fun i hi hp => (Below.heap_alloc b o i (Nat.lt_of_lt_of_le hi h.size)).trans (h.block i hi hp)⟩
theorem But.setCell {p : Nat → Prop} {a b : World} (h : But p a b) {x : Addr} (hx : p x.block ∨ a.heap.size ≤ x.block) (u : Value) : But p a (b.setCell x u) :=
  ⟨h.os, h.tape, h.output, Nat.le_trans h.size (by simp [World.setCell]), fun i hi hp => (Below.heap_setCell b x u i (fun e => by
    subst e
    rcases hx with h' | h'
    · exact hp h'
    · omega)).trans (h.block i hi hp)⟩
theorem But.drewN {p : Nat → Prop} {a b : World} (h : But p a b) (n : Nat) : But p a (b.drewN n) := ⟨h.os, h.tape, h.output, h.size, h.block⟩
theorem But.grown {p : Nat → Prop} {a b c : World} (h : But p a b) {row : Option Nat} (hg : b.grownBy c row) (hr : ∀ k, row = some k → p k ∨ a.heap.size ≤ k) : But p a c :=
  h.trans (q := fun k => row = some k) ⟨hg.os, hg.tape, hg.output, hg.size, fun k hk hn => hg.block k hk (fun e => hn e.symm)⟩ hr
theorem But.of_below {p : Nat → Prop} {a b : World} (h : Below a.heap.size a b) : But p a b := ⟨h.os, h.tape, h.output, h.size, fun k hk _ => h.block k hk⟩
theorem But.mono {p q : Nat → Prop} {a b : World} (h : But p a b) (hq : ∀ i, p i → q i ∨ a.heap.size ≤ i) : But q a b :=
  ⟨h.os, h.tape, h.output, h.size, fun i hi hn => h.block i hi (fun hp => by
    rcases hq i hp with h' | h'
    · exact hn h'
    · omega)⟩
theorem But.below {p : Nat → Prop} {a b : World} {B : Nat} (h : But p a b) (hB : B ≤ a.heap.size) (hp : ∀ i, p i → B ≤ i) : Below B a b :=
  ⟨h.os, h.tape, h.output, h.size, fun i hi => h.block i (by omega) (fun hpi => by have := hp i hpi; omega)⟩
theorem SL.but {α : Type} {f : α → Value} {w w' : World} {B : Nat} {A : Option Addr} {xs : List α} {p : Nat → Prop} (h : SL f w B A xs) (hb : But p w w') (hB : B ≤ w.heap.size) (hA : ∀ a, A = some a → ¬ p a.block) : SL f w' B A xs := fun hn => by
  obtain ⟨b, off, e, hlt, hc⟩ := h hn
  exact ⟨b, off, e, hlt, hc.keep (hb.block b (by omega) (hA _ e))⟩

/-- The groups of seven bits of a number, the lowest first. -/
def encF : Nat → Nat → List Int
  | 0, _ => []
  | k + 1, n => if n < 128 then [(n : Int)] else ((n % 128 + 128 : Nat) : Int) :: encF k (n / 128)
def enc (n : Nat) : List Int := encF 10 n
theorem encF_len (k n : Nat) : (encF k n).length ≤ k := by
  induction k generalizing n with
  | zero => exact Nat.le_refl _
  | succ k ih =>
    unfold encF
    split
    · simp
    · have := ih (n / 128); simp only [List.length_cons]; omega
theorem enc_len (n : Nat) : (enc n).length ≤ 10 := encF_len 10 n

theorem or128 (n : Nat) : bits .or .u8 ((n : Int) % 256) 128 = (n : Int) % 128 + 128 := by
  have h1 : ((n : Int) % 256) = ((n % 256 : Nat) : Int) := by omega
  have h2 : n % 256 < 256 := Nat.mod_lt _ (by omega)
  have key : ∀ a : Nat, a < 256 → bits .or .u8 ((a : Nat) : Int) 128 = ((a % 128 + 128 : Nat) : Int) := by
    intro a ha
    have hall : ∀ a : Fin 256, bits .or .u8 ((a.val : Nat) : Int) 128 = ((a.val % 128 + 128 : Nat) : Int) := by decide +kernel
    exact hall ⟨a, ha⟩
  rw [h1, key _ h2]
  omega

set_option maxRecDepth 20000 in
theorem extend_any (v : Value) (bs : List Int) (n : Nat) (w : World) (base : Nat) (hown : Own fB 5 w base v bs) (hbase : base ≤ w.heap.size) (hn : n < 18446744073709551616) (hlen : bs.length ≤ 1099511627776) :
    Calls Tryd.prog 36 #[v, .int .u64 n] w fun e w' => ∃ v', e = .returned v' ∧ Own fB 5 w' base v' (bs ++ enc n) ∧ But (fun k => v.ownBlock = some k) w w' ∧ (v'.ownBlock = v.ownBlock ∨ ∃ g, v'.ownBlock = some g ∧ w.heap.size ≤ g) := by
  obtain ⟨i0, hi, hz0, hz1, hz2⟩ := info_parts Tryd.infoB
  have HI := Lib.hid hi
  have HZ0 := Lib.hid hz0
  have HZ1 := Lib.hid hz1
  have HZ2 := Lib.hid hz2
  clear hi hz0 hz1 hz2
  have hn10 : Hid (n < 128 ^ 10) := by show _ < _; omega
  clear hn
  go_enter Tryd.func36, Tryd.ntmps36
  go_wp2
  go_loopw [0, 1] (fun u i wr => ∃ (k m : Nat) (out : List Int), i = .int .u64 m ∧ Hid (m < 128 ^ k) ∧ 0 < k ∧ k ≤ 10 ∧ out.length + k ≤ 10 ∧ Hid (out ++ encF k m = enc n) ∧ Hid (Own fB 5 wr base u (bs ++ out)) ∧ Hid (But (fun k => v.ownBlock = some k) w wr) ∧ Hid (u.ownBlock = v.ownBlock ∨ ∃ g, u.ownBlock = some g ∧ w.heap.size ≤ g)) (fun _ i _ => (intOf i).toNat)
  case atStart => exact ⟨10, n, [], rfl, hn10, by omega, by omega, by simp, by show _ = _; rfl, by show Own _ _ _ _ _ _; rw [List.append_nil]; exact hown, But.refl _ _, .inl rfl⟩
  case round =>
    obtain ⟨k, m, out, rfl, HM, hk1, hk, hol, HE, HO, HB, HV⟩ := hrel
    have HL1 : Hid (((bs ++ out).length + 1) * 1 ≤ 140737488355328) := by show _ ≤ _; rw [List.length_append]; omega
    have HL2 : Hid ((bs ++ out).length + 1 ≤ maxLen) := by show _ ≤ _; rw [List.length_append]; unfold maxLen; omega
    have HS : Hid (base ≤ wr.heap.size) := by show _ ≤ _; have := HB.out.size; omega
    have HKB : Hid (∀ W V', wr.grownBy W u0.ownBlock → (V' = u0.ownBlock ∨ ∃ g, V' = some g ∧ wr.heap.size ≤ g) → But (fun k => v.ownBlock = some k) w W ∧ (V' = v.ownBlock ∨ ∃ g, V' = some g ∧ w.heap.size ≤ g)) := fun W V' hg hv' => by
      refine ⟨HB.out.grown hg fun k hk => ?_, ?_⟩
      · rcases HV.out with h | ⟨g, h, hg'⟩
        · exact .inl (by rw [← h]; exact hk)
        · right; rw [h] at hk; injection hk with hk; omega
      · rcases hv' with h | ⟨g, h, hg'⟩
        · rw [h]; exact HV.out
        · exact .inr ⟨g, h, by have := HB.out.size; omega⟩
    obtain ⟨k, rfl⟩ : ∃ k', k = k' + 1 := ⟨k - 1, by omega⟩
    by_cases hge : 128 ≤ m
    · have hor := or128 m
      have HM2 : Hid (m / 128 < 128 ^ k) := by show _ < _; have := HM.out; rw [Nat.pow_succ] at this; omega
      have hk0 : 0 < k := by
        have := HM2.out
        rcases k with _ | k
        · rw [Nat.pow_zero] at this; omega
        · omega
      have HE2 : Hid ((out ++ [(m : Int) % 128 + 128]) ++ encF k (m / 128) = enc n) := by
        show _ = _
        rw [← HE.out, encF, if_neg (by omega), List.append_assoc]
        congr 1
      go_wp2_with (with_reducible refine wpList_app1 (o := ⟨some 12, _, _, _, _, _⟩) rfl (.tmp 7) (.tmp 11) 24 rfl 5 i0 (.int .u8 0) 1 Tryd.underlying24 HI.out HZ0.out HZ1.out HZ2.out rfl _ (bs ++ out) base rfl HO.out ((m : Int) % 128 + 128) 1 rfl fB1 HL1.out HL2.out HS.out ?_; intro v1 w1 HO1 HG1 HV1)
      go_roundw
      case rel => exact ⟨k, m / 128, out ++ [(m : Int) % 128 + 128], by first | rfl | go_num, HM2, hk0, by omega, by rw [List.length_append]; simp only [List.length_cons, List.length_nil]; omega, HE2, by show Own _ _ _ _ _ _; rw [← List.append_assoc]; exact HO1.out, (HKB.out _ _ HG1.out HV1.out).1, (HKB.out _ _ HG1.out HV1.out).2⟩
      case measure => simp [intOf]; omega
    · have hmm : (m : Int) % 256 = m := by omega
      have HE2 : Hid (out ++ [(m : Int)] = enc n) := by
        show _ = _
        rw [← HE.out, encF, if_pos (by omega)]
      go_wp2_with (with_reducible refine wpList_app1 (o := ⟨some 19, _, _, _, _, _⟩) rfl (.tmp 15) (.tmp 18) 24 rfl 5 i0 (.int .u8 0) 1 Tryd.underlying24 HI.out HZ0.out HZ1.out HZ2.out rfl _ (bs ++ out) base rfl HO.out (m : Int) 1 rfl fB1 HL1.out HL2.out HS.out ?_; intro v1 w1 HO1 HG1 HV1)
      go_ret
      exact ⟨v1, rfl, by rw [← HE2.out, ← List.append_assoc]; exact HO1.out, (HKB.out _ _ HG1.out HV1.out).1, (HKB.out _ _ HG1.out HV1.out).2⟩

/-- What a writer's calls may write: its own block, and the row that it owns. -/
def foot (g : Nat) (v : Value) (k : Nat) : Prop := k = g ∨ v.ownBlock = some k
/-- The row is the old one, or a new one. -/
def NewRow (v v' : Value) (w : World) : Prop := v'.ownBlock = v.ownBlock ∨ ∃ k, v'.ownBlock = some k ∧ w.heap.size ≤ k
/-- A writer without an error: its block, and its bytes. -/
def Wr (w : World) (g base : Nat) (v : Value) (bs : List Int) : Prop := w.heap[g]? = some (.cells #[v, .int .i64 0] 99 (0, 0)) ∧ Own fB 5 w base v bs ∧ base ≤ w.heap.size
def WPost (g base : Nat) (v : Value) (bs : List Int) (w : World) (e : Ending) (w' : World) : Prop :=
  ∃ v', e = .returned (.tuple #[]) ∧ Wr w' g base v' bs ∧ But (foot g v) w w' ∧ NewRow v v' w
theorem Own.ne_of {w : World} {base g : Nat} {v : Value} {bs : List Int} {cs : Array Value} {t e : TypeId} (h : Own fB e w base v bs) (hg : w.heap[g]? = some (.cells cs t (0, 0))) (hne : e ≠ t) : v.ownBlock ≠ some g := by
  rcases h.2 with ⟨rfl, _⟩ | ⟨g', cap, cur, rfl, _, hh, _⟩
  · simp [Value.ownBlock]
  · intro he
    have : g' = g := by simpa [Value.ownBlock] using he
    subst this
    rw [hg] at hh
    injection hh with hh
    injection hh with _ ht
    exact hne ht.symm
theorem NewRow.trans {v v' v'' : Value} {w w' : World} (h : NewRow v v' w) (k : NewRow v' v'' w') (hs : w.heap.size ≤ w'.heap.size) : NewRow v v'' w := by
  rcases k with k | ⟨i, k, hi⟩
  · rcases h with h | ⟨j, h, hj⟩
    · exact .inl (k.trans h)
    · exact .inr ⟨j, k.trans h, hj⟩
  · exact .inr ⟨i, k, by omega⟩
theorem foot_step {g : Nat} {v v' : Value} {w : World} (h : NewRow v v' w) : ∀ i, foot g v' i → foot g v i ∨ w.heap.size ≤ i := fun i hi => by
  rcases hi with rfl | hi
  · exact .inl (.inl rfl)
  · rcases h with h | ⟨k, h, hk⟩
    · exact .inl (.inr (by rw [← h]; exact hi))
    · right; rw [h] at hi; injection hi with hi; omega
/-- Two steps of a writer. -/
theorem But.wr {g : Nat} {v v' : Value} {a b c : World} (h : But (foot g v) a b) (hn : NewRow v v' a) (k : But (foot g v') b c) : But (foot g v) a c := h.trans k (foot_step hn)
theorem Own.but {w w' : World} {base : Nat} {e : TypeId} {v : Value} {bs : List Int} {p : Nat → Prop} (h : Own fB e w base v bs) (hb : But p w w') (hv : ∀ k, v.ownBlock = some k → ¬ p k) : Own fB e w' base v bs :=
  ⟨h.1, by
    rcases h.2 with hn | ⟨g', cap, cur, rfl, hbg, hgg, rest⟩
    · exact .inl hn
    · exact .inr ⟨g', cap, cur, rfl, hbg, (hb.block g' (lt_of_block hgg) (hv g' rfl)).trans hgg, rest⟩⟩
theorem Wr.but {w w' : World} {g base : Nat} {v : Value} {bs : List Int} {p : Nat → Prop} (h : Wr w g base v bs) (hb : But p w w') (hg : ¬ p g) (hv : ∀ k, v.ownBlock = some k → ¬ p k) : Wr w' g base v bs :=
  ⟨(hb.block g (lt_of_block h.1) hg).trans h.1, ⟨h.2.1.1, by
    rcases h.2.1.2 with hn | ⟨g', cap, cur, rfl, hbg, hgg, rest⟩
    · exact .inl hn
    · exact .inr ⟨g', cap, cur, rfl, hbg, (hb.block g' (lt_of_block hgg) (hv g' rfl)).trans hgg, rest⟩⟩, Nat.le_trans h.2.2 hb.size⟩
theorem Wr.alloc {w : World} {g base : Nat} {v : Value} {bs : List Int} (h : Wr w g base v bs) (o : Obj) : Wr (w.alloc o) g base v bs :=
  ⟨(Below.heap_alloc w o g (lt_of_block h.1)).trans h.1, h.2.1.alloc o, Nat.le_trans h.2.2 (by simp)⟩
theorem Wr.on {w w' : World} {g base : Nat} {v : Value} {bs : List Int} (h : Wr w g base v bs) (hb : Below w.heap.size w w') : Wr w' g base v bs :=
  ⟨(hb.block g (lt_of_block h.1)).trans h.1, h.2.1.on hb, Nat.le_trans h.2.2 hb.size⟩

theorem newWriter_any (w : World) : Calls Tryd.prog 32 #[] w fun e w' => e = .returned (.pointer (some ⟨w.heap.size, 0, none⟩)) ∧ w.alloc (.cells #[.slice none 0 0, .int .i64 0] 99) = w' := by
  go_enter Tryd.func32, Tryd.ntmps32
  go_wp2
  go_ret
  exact ⟨rfl, rfl⟩
theorem Wr.new (w : World) : Wr (w.alloc (.cells #[.slice none 0 0, .int .i64 0] 99)) w.heap.size (w.heap.size + 1) (.slice none 0 0) [] := ⟨heap_alloc_new w _, Own.nil, by simp⟩

set_option maxRecDepth 20000 in
theorem wuint_any (g base : Nat) (v : Value) (bs : List Int) (n : Nat) (w : World) (hw : Wr w g base v bs) (hn : n < 18446744073709551616) (hlen : bs.length ≤ 1099511627776) :
    Calls Tryd.prog 34 #[.pointer (some ⟨g, 0, none⟩), .int .u64 n] w (WPost g base v (bs ++ enc n) w) := by
  obtain ⟨hg, hown, hbase⟩ := hw
  have h0 := cell_of_row w g 0 _ _ _ hg
  have h1 := cell_of_row w g 1 _ _ _ hg
  simp at h0 h1
  have HC := Lib.hid (extend_any v bs n w base hown hbase hn hlen)
  have HG := Lib.hid hg
  have HNE : Hid (v.ownBlock ≠ some g) := hown.ne_of hg (by decide)
  clear hn hg hown
  go_enter Tryd.func34, Tryd.ntmps34
  go_wp2_with fail
  refine HC.out.mono ?_
  rintro e w1 ⟨v', rfl, HO1, HB1, HV1⟩
  have HG1 : Hid (w1.heap[g]? = some (.cells #[v, .int .i64 0] 99 (0, 0))) := (HB1.block g (lt_of_block HG.out) HNE.out).trans HG.out
  have HB1' := Lib.hid HB1
  have HO1' := Lib.hid HO1
  have HV1' : Hid (NewRow v v' w) := HV1
  have hsz := HB1.size
  clear HB1 HO1 HV1
  have HNE1 : Hid (v'.ownBlock ≠ some g) := HO1'.out.ne_of HG1.out (by decide)
  obtain ⟨A1, c1, hv1, _⟩ := HO1'.out.shape
  obtain ⟨l1, hl1⟩ : ∃ l, l = (bs ++ enc n).length := ⟨_, rfl⟩
  rw [← hl1] at hv1
  clear hl1
  subst hv1
  have hfr := frozen_of_row w1 g 0 _ _ HG1.out
  have hc1 := cell_of_row w1 g 0 _ _ _ HG1.out
  simp at hc1
  go_wp2
  go_end0
  have hst : But (fun k => k = g) w1 (w1.setCell ⟨g, 0, none⟩ (.slice A1 l1 c1)) := But.setCell (p := fun k => k = g) (x := ⟨g, 0, none⟩) (But.refl _ _) (.inl rfl) _
  refine ⟨_, rfl, ⟨heap_setCell_same _ _ _ _ _ _ HG1.out, HO1'.out.but hst ?_, by have := hst.size; omega⟩, ?_, HV1'.out⟩
  · intro k hk e
    subst e
    exact HNE1.out hk
  · exact (HB1'.out.mono fun i hi => .inl (.inr hi)).trans hst fun i hi => .inl (.inl hi)

/-- Writer.Count, at a number that is not negative. -/
theorem wcount_any (g base : Nat) (v : Value) (bs : List Int) (n : Nat) (w : World) (hw : Wr w g base v bs) (hn : n ≤ 1099511627776) (hlen : bs.length ≤ 1099511627776) :
    Calls Tryd.prog 33 #[.pointer (some ⟨g, 0, none⟩), .int .i64 n] w (WPost g base v (bs ++ enc n) w) := by
  have HC := Lib.hid (wuint_any g base v bs n w hw (by omega) hlen)
  have h1 := cell_of_row w g 1 _ _ _ hw.1
  simp at h1
  clear hw
  go_enter Tryd.func33, Tryd.ntmps33
  go_wp2_with fail
  refine HC.out.mono ?_
  rintro e w1 ⟨v', rfl, h⟩
  go_wp2
  go_end0
  exact ⟨v', rfl, h⟩

set_option maxRecDepth 20000 in
/-- Writer.Done. -/
theorem wdone_any (g base : Nat) (v : Value) (bs : List Int) (w : World) (hw : Wr w g base v bs) (hlen : bs.length ≤ 1048576) :
    Calls Tryd.prog 35 #[.pointer (some ⟨g, 0, none⟩)] w (Slc2 fB bs 0 w) := by
  obtain ⟨hg, hown, hbase⟩ := hw
  have h0 := cell_of_row w g 0 _ _ _ hg
  have h1 := cell_of_row w g 1 _ _ _ hg
  have hgl := lt_of_block hg
  simp at h0 h1
  obtain ⟨A1, c1, hv1, hc1, hs1, _⟩ := hown.shape
  obtain ⟨l1, hl1⟩ : ∃ l, l = bs.length := ⟨_, rfl⟩
  rw [← hl1] at hv1
  have hb0 : Below w.heap.size w (w.alloc (.cells #[] 5)) := (Below.refl _ _).alloc (Nat.le_refl _) _
  have HB0 := Lib.hid hb0
  have HS1 : Hid (Sl fB (w.alloc (.cells #[] 5)) w.heap.size A1 l1 bs) := ⟨hl1.symm, hs1.up hb0 (Nat.le_refl _)⟩
  have HO : Hid (Own fB 5 (w.alloc (.cells #[] 5)) w.heap.size (.slice (some ⟨w.heap.size, 0, none⟩) 0 0) []) := World.ownsRow_lit w #[] 0 (Nat.le_refl _) (by unfold maxLen; omega) rfl
  have hl2 : l1 ≤ 1048576 := by omega
  have hlb : bs.length ≤ 1048576 := hlen
  have HL1 : Hid ((([] : List Int).length + bs.length) * 1 ≤ 140737488355328) := by show _ ≤ _; simp; omega
  have HL2 : Hid (([] : List Int).length + bs.length ≤ maxLen) := by show _ ≤ _; simp [maxLen]; omega
  obtain ⟨i0, hi, hz0, hz1, hz2⟩ := info_parts Tryd.infoB
  have HI := Lib.hid hi
  have HZ0 := Lib.hid hz0
  have HZ1 := Lib.hid hz1
  have HZ2 := Lib.hid hz2
  clear hi hz0 hz1 hz2
  clear hl1 hb0 hs1 hown hg
  subst hv1
  go_enter Tryd.func35, Tryd.ntmps35
  go_wp2_with (with_reducible refine wpList_app (o := ⟨some 24, _, _, _, _, _⟩) rfl (.tmp 19) (.tmp 23) 24 rfl 5 i0 (.int .u8 0) 1 Tryd.underlying24 HI.out HZ0.out HZ1.out HZ2.out rfl (.slice (some ⟨w.heap.size, 0, none⟩) 0 0) [] w.heap.size rfl HO.out _ _ _ w.heap.size bs rfl HS1.out fB1 HL1.out HL2.out HB0.out.size ?_; intro v1 w1 HO1 HG1 _)
  have HO2 := HO1.out
  rw [List.nil_append] at HO2
  obtain ⟨A', c', rfl, hc', hs', _⟩ := HO2.shape
  go_ret2
  exact ⟨A', _, c', rfl, hc', hs'.sl, HB0.out.trans (grown_below HG1.out (by simp [Value.ownBlock]) HB0.out.size)⟩
end Go.Proofs.YtlnaakpcnhnccaaDoor
