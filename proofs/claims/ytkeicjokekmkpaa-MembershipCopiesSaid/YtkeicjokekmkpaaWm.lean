/- wire.Writer. Words over whatever program: a string's bytes appended to bytes that the call owns. wire.Writer: Text, Sum. Bytes turned to a string; a block of bytes taken. -/
import Derived.Test.YtkeicjokekmkpaaWn
import Derived.Test.YtkeicjokekmkpaaRows
import Derived.KernelRfl
import Derived.Lib.AppendStr
import Derived.Laws.BytesArg
namespace Go.Proofs.Ytkeicjokekmkpaa
open Go.RowKit
set_option linter.unusedVariables false
set_option linter.unusedSimpArgs false

theorem Try.infoB : (Try.prog.info? 5).map (fun i => (i.zero, i.size, i.bytes)) = some (some (.int .u8 0), 1, 1) := by kernel_rfl
abbrev fB := Value.int .u8
theorem fB1 : ∀ y, (fB y).oneCell' = true := fun _ => rfl

/-- Blocks that are there stay as they are, but for those of p. -/
structure But (p : Nat → Prop) (w w' : World) : Prop where
  os : w'.os = w.os
  tape : w'.tape = w.tape
  output : w'.output = w.output
  size : w.heap.size ≤ w'.heap.size
  block : ∀ k, k < w.heap.size → ¬ p k → w'.heap[k]? = w.heap[k]?
theorem But.refl (p : Nat → Prop) (w : World) : But p w w := ⟨rfl, rfl, rfl, Nat.le_refl _, fun _ _ _ => rfl⟩
theorem But.trans {p q : Nat → Prop} {a b c : World} (h : But p a b) (k : But q b c) (hq : ∀ i, q i → p i ∨ a.heap.size ≤ i) : But p a c :=
  ⟨k.os.trans h.os, k.tape.trans h.tape, k.output.trans h.output, Nat.le_trans h.size k.size, fun i hi hp => (k.block i (Nat.lt_of_lt_of_le hi h.size) (fun hqi => by
    rcases hq i hqi with h' | h'
    · exact hp h'
    · omega)).trans (h.block i hi hp)⟩
theorem But.alloc {p : Nat → Prop} {a b : World} (h : But p a b) (o : Obj) : But p a (b.alloc o) :=
  ⟨h.os, h.tape, h.output, Nat.le_trans h.size (by simp), fun i hi hp => (Below.heap_alloc b o i (Nat.lt_of_lt_of_le hi h.size)).trans (h.block i hi hp)⟩
theorem But.setCell {p : Nat → Prop} {a b : World} (h : But p a b) {x : Addr} (hx : p x.block ∨ a.heap.size ≤ x.block) (u : Value) : But p a (b.setCell x u) :=
  ⟨h.os, h.tape, h.output, Nat.le_trans h.size (by simp [World.setCell]), fun i hi hp => (Below.heap_setCell b x u i (fun e => by
    subst e
    rcases hx with h' | h'
    · exact hp h'
    · omega)).trans (h.block i hi hp)⟩
theorem But.drewN {p : Nat → Prop} {a b : World} (h : But p a b) (n : Nat) : But p a (b.drewN n) := ⟨h.os, h.tape, h.output, h.size, h.block⟩
theorem But.grown {p : Nat → Prop} {a b c : World} (h : But p a b) {row : Option Nat} (hg : b.grownBy c row) (hr : ∀ k, row = some k → p k ∨ a.heap.size ≤ k) : But p a c :=
  h.trans (q := fun k => row = some k) ⟨hg.os, hg.tape, hg.output, hg.size, fun k hk hn => hg.block k hk (fun e => hn e.symm)⟩ hr
theorem But.of_below {p : Nat → Prop} {a b : World} (h : Below a.heap.size a b) : But p a b := ⟨h.os, h.tape, h.output, h.size, fun k hk _ => h.block k hk⟩
theorem But.mono {p q : Nat → Prop} {a b : World} (h : But p a b) (hq : ∀ i, p i → q i ∨ a.heap.size ≤ i) : But q a b :=
  ⟨h.os, h.tape, h.output, h.size, fun i hi hn => h.block i hi (fun hp => by
    rcases hq i hp with h' | h'
    · exact hn h'
    · omega)⟩
theorem But.below {p : Nat → Prop} {a b : World} {B : Nat} (h : But p a b) (hB : B ≤ a.heap.size) (hp : ∀ i, p i → B ≤ i) : Below B a b :=
  ⟨h.os, h.tape, h.output, h.size, fun i hi => h.block i (by omega) (fun hpi => by have := hp i hpi; omega)⟩
theorem SL.but {α : Type} {f : α → Value} {w w' : World} {B : Nat} {A : Option Addr} {xs : List α} {p : Nat → Prop} (h : SL f w B A xs) (hb : But p w w') (hB : B ≤ w.heap.size) (hA : ∀ a, A = some a → ¬ p a.block) : SL f w' B A xs := fun hn => by
  obtain ⟨b, off, e, hlt, hc⟩ := h hn
  exact ⟨b, off, e, hlt, hc.keep (hb.block b (by omega) (hA _ e))⟩

/-- The groups of seven bits of a number, the lowest first. -/
def encF : Nat → Nat → List Int
  | 0, _ => []
  | k + 1, n => if n < 128 then [(n : Int)] else ((n % 128 + 128 : Nat) : Int) :: encF k (n / 128)
def enc (n : Nat) : List Int := encF 10 n
theorem encF_len (k n : Nat) : (encF k n).length ≤ k := by
  induction k generalizing n with
  | zero => exact Nat.le_refl _
  | succ k ih =>
    unfold encF
    split
    · simp
    · have := ih (n / 128); simp only [List.length_cons]; omega
theorem enc_len (n : Nat) : (enc n).length ≤ 10 := encF_len 10 n

theorem or128 (n : Nat) : bits .or .u8 ((n : Int) % 256) 128 = (n : Int) % 128 + 128 := by
  have h1 : ((n : Int) % 256) = ((n % 256 : Nat) : Int) := by omega
  have h2 : n % 256 < 256 := Nat.mod_lt _ (by omega)
  have key : ∀ a : Nat, a < 256 → bits .or .u8 ((a : Nat) : Int) 128 = ((a % 128 + 128 : Nat) : Int) := by
    intro a ha
    have hall : ∀ a : Fin 256, bits .or .u8 ((a.val : Nat) : Int) 128 = ((a.val % 128 + 128 : Nat) : Int) := by decide +kernel
    exact hall ⟨a, ha⟩
  rw [h1, key _ h2]
  omega

set_option maxRecDepth 20000 in
theorem extend_any (v : Value) (bs : List Int) (n : Nat) (w : World) (base : Nat) (hown : Own fB 5 w base v bs) (hbase : base ≤ w.heap.size) (hn : n < 18446744073709551616) (hlen : bs.length ≤ 1099511627776) :
    Calls Try.prog 69 #[v, .int .u64 n] w fun e w' => ∃ v', e = .returned v' ∧ Own fB 5 w' base v' (bs ++ enc n) ∧ But (fun k => v.ownBlock = some k) w w' ∧ (v'.ownBlock = v.ownBlock ∨ ∃ g, v'.ownBlock = some g ∧ w.heap.size ≤ g) := by
  obtain ⟨i0, hi, hz0, hz1, hz2⟩ := info_parts Try.infoB
  have HI := Lib.hid hi
  have HZ0 := Lib.hid hz0
  have HZ1 := Lib.hid hz1
  have HZ2 := Lib.hid hz2
  clear hi hz0 hz1 hz2
  have hn10 : Hid (n < 128 ^ 10) := by show _ < _; omega
  clear hn
  go_enter Try.func69, Try.ntmps69
  go_wp2
  go_loopw [0, 1] (fun u i wr => ∃ (k m : Nat) (out : List Int), i = .int .u64 m ∧ Hid (m < 128 ^ k) ∧ 0 < k ∧ k ≤ 10 ∧ out.length + k ≤ 10 ∧ Hid (out ++ encF k m = enc n) ∧ Hid (Own fB 5 wr base u (bs ++ out)) ∧ Hid (But (fun k => v.ownBlock = some k) w wr) ∧ Hid (u.ownBlock = v.ownBlock ∨ ∃ g, u.ownBlock = some g ∧ w.heap.size ≤ g)) (fun _ i _ => (intOf i).toNat)
  case atStart => exact ⟨10, n, [], rfl, hn10, by omega, by omega, by simp, by show _ = _; rfl, by show Own _ _ _ _ _ _; rw [List.append_nil]; exact hown, But.refl _ _, .inl rfl⟩
  case round =>
    obtain ⟨k, m, out, rfl, HM, hk1, hk, hol, HE, HO, HB, HV⟩ := hrel
    have HL1 : Hid (((bs ++ out).length + 1) * 1 ≤ 140737488355328) := by show _ ≤ _; rw [List.length_append]; omega
    have HL2 : Hid ((bs ++ out).length + 1 ≤ maxLen) := by show _ ≤ _; rw [List.length_append]; unfold maxLen; omega
    have HS : Hid (base ≤ wr.heap.size) := by show _ ≤ _; have := HB.out.size; omega
    have HKB : Hid (∀ W V', wr.grownBy W u0.ownBlock → (V' = u0.ownBlock ∨ ∃ g, V' = some g ∧ wr.heap.size ≤ g) → But (fun k => v.ownBlock = some k) w W ∧ (V' = v.ownBlock ∨ ∃ g, V' = some g ∧ w.heap.size ≤ g)) := fun W V' hg hv' => by
      refine ⟨HB.out.grown hg fun k hk => ?_, ?_⟩
      · rcases HV.out with h | ⟨g, h, hg'⟩
        · exact .inl (by rw [← h]; exact hk)
        · right; rw [h] at hk; injection hk with hk; omega
      · rcases hv' with h | ⟨g, h, hg'⟩
        · rw [h]; exact HV.out
        · exact .inr ⟨g, h, by have := HB.out.size; omega⟩
    obtain ⟨k, rfl⟩ : ∃ k', k = k' + 1 := ⟨k - 1, by omega⟩
    by_cases hge : 128 ≤ m
    · have hor := or128 m
      have HM2 : Hid (m / 128 < 128 ^ k) := by show _ < _; have := HM.out; rw [Nat.pow_succ] at this; omega
      have hk0 : 0 < k := by
        have := HM2.out
        rcases k with _ | k
        · rw [Nat.pow_zero] at this; omega
        · omega
      have HE2 : Hid ((out ++ [(m : Int) % 128 + 128]) ++ encF k (m / 128) = enc n) := by
        show _ = _
        rw [← HE.out, encF, if_neg (by omega), List.append_assoc]
        congr 1
      go_wp2_with (with_reducible refine wpList_app1 (o := ⟨some 12, _, _, _, _, _⟩) rfl (.tmp 7) (.tmp 11) 41 rfl 5 i0 (.int .u8 0) 1 Try.underlying41 HI.out HZ0.out HZ1.out HZ2.out rfl _ (bs ++ out) base rfl HO.out ((m : Int) % 128 + 128) 1 rfl fB1 HL1.out HL2.out HS.out ?_; intro v1 w1 HO1 HG1 HV1)
      go_roundw
      case rel => exact ⟨k, m / 128, out ++ [(m : Int) % 128 + 128], by first | rfl | go_num, HM2, hk0, by omega, by rw [List.length_append]; simp only [List.length_cons, List.length_nil]; omega, HE2, by show Own _ _ _ _ _ _; rw [← List.append_assoc]; exact HO1.out, (HKB.out _ _ HG1.out HV1.out).1, (HKB.out _ _ HG1.out HV1.out).2⟩
      case measure => simp [intOf]; omega
    · have hmm : (m : Int) % 256 = m := by omega
      have HE2 : Hid (out ++ [(m : Int)] = enc n) := by
        show _ = _
        rw [← HE.out, encF, if_pos (by omega)]
      go_wp2_with (with_reducible refine wpList_app1 (o := ⟨some 19, _, _, _, _, _⟩) rfl (.tmp 15) (.tmp 18) 41 rfl 5 i0 (.int .u8 0) 1 Try.underlying41 HI.out HZ0.out HZ1.out HZ2.out rfl _ (bs ++ out) base rfl HO.out (m : Int) 1 rfl fB1 HL1.out HL2.out HS.out ?_; intro v1 w1 HO1 HG1 HV1)
      go_ret
      exact ⟨v1, rfl, by rw [← HE2.out, ← List.append_assoc]; exact HO1.out, (HKB.out _ _ HG1.out HV1.out).1, (HKB.out _ _ HG1.out HV1.out).2⟩

/-- What a writer's calls may write: its own block, and the row that it owns. -/
def foot (g : Nat) (v : Value) (k : Nat) : Prop := k = g ∨ v.ownBlock = some k
/-- The row is the old one, or a new one. -/
def NewRow (v v' : Value) (w : World) : Prop := v'.ownBlock = v.ownBlock ∨ ∃ k, v'.ownBlock = some k ∧ w.heap.size ≤ k
/-- A writer without an error: its block, and its bytes. -/
def Wr (w : World) (g base : Nat) (v : Value) (bs : List Int) : Prop := w.heap[g]? = some (.cells #[v, .int .i64 0] 116 (0, 0)) ∧ Own fB 5 w base v bs ∧ base ≤ w.heap.size
def WPost (g base : Nat) (v : Value) (bs : List Int) (w : World) (e : Ending) (w' : World) : Prop :=
  ∃ v', e = .returned (.tuple #[]) ∧ Wr w' g base v' bs ∧ But (foot g v) w w' ∧ NewRow v v' w
theorem Own.ne_of {w : World} {base g : Nat} {v : Value} {bs : List Int} {cs : Array Value} {t e : TypeId} (h : Own fB e w base v bs) (hg : w.heap[g]? = some (.cells cs t (0, 0))) (hne : e ≠ t) : v.ownBlock ≠ some g := by
  rcases h.2 with ⟨rfl, _⟩ | ⟨g', cap, cur, rfl, _, hh, _⟩
  · simp [Value.ownBlock]
  · intro he
    have : g' = g := by simpa [Value.ownBlock] using he
    subst this
    rw [hg] at hh
    injection hh with hh
    injection hh with _ ht
    exact hne ht.symm
theorem NewRow.trans {v v' v'' : Value} {w w' : World} (h : NewRow v v' w) (k : NewRow v' v'' w') (hs : w.heap.size ≤ w'.heap.size) : NewRow v v'' w := by
  rcases k with k | ⟨i, k, hi⟩
  · rcases h with h | ⟨j, h, hj⟩
    · exact .inl (k.trans h)
    · exact .inr ⟨j, k.trans h, hj⟩
  · exact .inr ⟨i, k, by omega⟩
theorem foot_step {g : Nat} {v v' : Value} {w : World} (h : NewRow v v' w) : ∀ i, foot g v' i → foot g v i ∨ w.heap.size ≤ i := fun i hi => by
  rcases hi with rfl | hi
  · exact .inl (.inl rfl)
  · rcases h with h | ⟨k, h, hk⟩
    · exact .inl (.inr (by rw [← h]; exact hi))
    · right; rw [h] at hi; injection hi with hi; omega
/-- Two steps of a writer. -/
theorem But.wr {g : Nat} {v v' : Value} {a b c : World} (h : But (foot g v) a b) (hn : NewRow v v' a) (k : But (foot g v') b c) : But (foot g v) a c := h.trans k (foot_step hn)
theorem Own.but {w w' : World} {base : Nat} {e : TypeId} {v : Value} {bs : List Int} {p : Nat → Prop} (h : Own fB e w base v bs) (hb : But p w w') (hv : ∀ k, v.ownBlock = some k → ¬ p k) : Own fB e w' base v bs :=
  ⟨h.1, by
    rcases h.2 with hn | ⟨g', cap, cur, rfl, hbg, hgg, rest⟩
    · exact .inl hn
    · exact .inr ⟨g', cap, cur, rfl, hbg, (hb.block g' (lt_of_block hgg) (hv g' rfl)).trans hgg, rest⟩⟩
theorem Wr.but {w w' : World} {g base : Nat} {v : Value} {bs : List Int} {p : Nat → Prop} (h : Wr w g base v bs) (hb : But p w w') (hg : ¬ p g) (hv : ∀ k, v.ownBlock = some k → ¬ p k) : Wr w' g base v bs :=
  ⟨(hb.block g (lt_of_block h.1) hg).trans h.1, ⟨h.2.1.1, by
    rcases h.2.1.2 with hn | ⟨g', cap, cur, rfl, hbg, hgg, rest⟩
    · exact .inl hn
    · exact .inr ⟨g', cap, cur, rfl, hbg, (hb.block g' (lt_of_block hgg) (hv g' rfl)).trans hgg, rest⟩⟩, Nat.le_trans h.2.2 hb.size⟩
theorem Wr.alloc {w : World} {g base : Nat} {v : Value} {bs : List Int} (h : Wr w g base v bs) (o : Obj) : Wr (w.alloc o) g base v bs :=
  ⟨(Below.heap_alloc w o g (lt_of_block h.1)).trans h.1, h.2.1.alloc o, Nat.le_trans h.2.2 (by simp)⟩
theorem Wr.on {w w' : World} {g base : Nat} {v : Value} {bs : List Int} (h : Wr w g base v bs) (hb : Below w.heap.size w w') : Wr w' g base v bs :=
  ⟨(hb.block g (lt_of_block h.1)).trans h.1, h.2.1.on hb, Nat.le_trans h.2.2 hb.size⟩

theorem newWriter_any (w : World) : Calls Try.prog 26 #[] w fun e w' => e = .returned (.pointer (some ⟨w.heap.size, 0, none⟩)) ∧ w.alloc (.cells #[.slice none 0 0, .int .i64 0] 116) = w' := by
  go_enter Try.func26, Try.ntmps26
  go_wp2
  go_ret
  exact ⟨rfl, rfl⟩
theorem Wr.new (w : World) : Wr (w.alloc (.cells #[.slice none 0 0, .int .i64 0] 116)) w.heap.size (w.heap.size + 1) (.slice none 0 0) [] := ⟨heap_alloc_new w _, Own.nil, by simp⟩

set_option maxRecDepth 20000 in
theorem wuint_any (g base : Nat) (v : Value) (bs : List Int) (n : Nat) (w : World) (hw : Wr w g base v bs) (hn : n < 18446744073709551616) (hlen : bs.length ≤ 1099511627776) :
    Calls Try.prog 55 #[.pointer (some ⟨g, 0, none⟩), .int .u64 n] w (WPost g base v (bs ++ enc n) w) := by
  obtain ⟨hg, hown, hbase⟩ := hw
  have h0 := cell_of_row w g 0 _ _ _ hg
  have h1 := cell_of_row w g 1 _ _ _ hg
  simp at h0 h1
  have HC := Lib.hid (extend_any v bs n w base hown hbase hn hlen)
  have HG := Lib.hid hg
  have HNE : Hid (v.ownBlock ≠ some g) := hown.ne_of hg (by decide)
  clear hn hg hown
  go_enter Try.func55, Try.ntmps55
  go_wp2_with fail
  refine HC.out.mono ?_
  rintro e w1 ⟨v', rfl, HO1, HB1, HV1⟩
  have HG1 : Hid (w1.heap[g]? = some (.cells #[v, .int .i64 0] 116 (0, 0))) := (HB1.block g (lt_of_block HG.out) HNE.out).trans HG.out
  have HB1' := Lib.hid HB1
  have HO1' := Lib.hid HO1
  have HV1' : Hid (NewRow v v' w) := HV1
  have hsz := HB1.size
  clear HB1 HO1 HV1
  have HNE1 : Hid (v'.ownBlock ≠ some g) := HO1'.out.ne_of HG1.out (by decide)
  obtain ⟨A1, c1, hv1, _⟩ := HO1'.out.shape
  obtain ⟨l1, hl1⟩ : ∃ l, l = (bs ++ enc n).length := ⟨_, rfl⟩
  rw [← hl1] at hv1
  clear hl1
  subst hv1
  have hfr := frozen_of_row w1 g 0 _ _ HG1.out
  have hc1 := cell_of_row w1 g 0 _ _ _ HG1.out
  simp at hc1
  go_wp2
  go_end0
  have hst : But (fun k => k = g) w1 (w1.setCell ⟨g, 0, none⟩ (.slice A1 l1 c1)) := But.setCell (p := fun k => k = g) (x := ⟨g, 0, none⟩) (But.refl _ _) (.inl rfl) _
  refine ⟨_, rfl, ⟨heap_setCell_same _ _ _ _ _ _ HG1.out, HO1'.out.but hst ?_, by have := hst.size; omega⟩, ?_, HV1'.out⟩
  · intro k hk e
    subst e
    exact HNE1.out hk
  · exact (HB1'.out.mono fun i hi => .inl (.inr hi)).trans hst fun i hi => .inl (.inl hi)

/-- Writer.Count, at a number that is not negative. -/
theorem wcount_any (g base : Nat) (v : Value) (bs : List Int) (n : Nat) (w : World) (hw : Wr w g base v bs) (hn : n ≤ 1099511627776) (hlen : bs.length ≤ 1099511627776) :
    Calls Try.prog 27 #[.pointer (some ⟨g, 0, none⟩), .int .i64 n] w (WPost g base v (bs ++ enc n) w) := by
  have HC := Lib.hid (wuint_any g base v bs n w hw (by omega) hlen)
  have h1 := cell_of_row w g 1 _ _ _ hw.1
  simp at h1
  clear hw
  go_enter Try.func27, Try.ntmps27
  go_wp2_with fail
  refine HC.out.mono ?_
  rintro e w1 ⟨v', rfl, h⟩
  go_wp2
  go_end0
  exact ⟨v', rfl, h⟩

set_option maxRecDepth 20000 in
/-- Writer.Done. -/
theorem wdone_any (g base : Nat) (v : Value) (bs : List Int) (w : World) (hw : Wr w g base v bs) (hlen : bs.length ≤ 1048576) :
    Calls Try.prog 31 #[.pointer (some ⟨g, 0, none⟩)] w (Slc2 fB bs 0 w) := by
  obtain ⟨hg, hown, hbase⟩ := hw
  have h0 := cell_of_row w g 0 _ _ _ hg
  have h1 := cell_of_row w g 1 _ _ _ hg
  have hgl := lt_of_block hg
  simp at h0 h1
  obtain ⟨A1, c1, hv1, hc1, hs1, _⟩ := hown.shape
  obtain ⟨l1, hl1⟩ : ∃ l, l = bs.length := ⟨_, rfl⟩
  rw [← hl1] at hv1
  have hb0 : Below w.heap.size w (w.alloc (.cells #[] 5)) := (Below.refl _ _).alloc (Nat.le_refl _) _
  have HB0 := Lib.hid hb0
  have HS1 : Hid (Sl fB (w.alloc (.cells #[] 5)) w.heap.size A1 l1 bs) := ⟨hl1.symm, hs1.up hb0 (Nat.le_refl _)⟩
  have HO : Hid (Own fB 5 (w.alloc (.cells #[] 5)) w.heap.size (.slice (some ⟨w.heap.size, 0, none⟩) 0 0) []) := World.ownsRow_lit w #[] 0 (Nat.le_refl _) (by unfold maxLen; omega) rfl
  have hl2 : l1 ≤ 1048576 := by omega
  have hlb : bs.length ≤ 1048576 := hlen
  have HL1 : Hid ((([] : List Int).length + bs.length) * 1 ≤ 140737488355328) := by show _ ≤ _; simp; omega
  have HL2 : Hid (([] : List Int).length + bs.length ≤ maxLen) := by show _ ≤ _; simp [maxLen]; omega
  obtain ⟨i0, hi, hz0, hz1, hz2⟩ := info_parts Try.infoB
  have HI := Lib.hid hi
  have HZ0 := Lib.hid hz0
  have HZ1 := Lib.hid hz1
  have HZ2 := Lib.hid hz2
  clear hi hz0 hz1 hz2
  clear hl1 hb0 hs1 hown hg
  subst hv1
  go_enter Try.func31, Try.ntmps31
  go_wp2_with (with_reducible refine wpList_app (o := ⟨some 24, _, _, _, _, _⟩) rfl (.tmp 19) (.tmp 23) 41 rfl 5 i0 (.int .u8 0) 1 Try.underlying41 HI.out HZ0.out HZ1.out HZ2.out rfl (.slice (some ⟨w.heap.size, 0, none⟩) 0 0) [] w.heap.size rfl HO.out _ _ _ w.heap.size bs rfl HS1.out fB1 HL1.out HL2.out HB0.out.size ?_; intro v1 w1 HO1 HG1 _)
  have HO2 := HO1.out
  rw [List.nil_append] at HO2
  obtain ⟨A', c', rfl, hc', hs', _⟩ := HO2.shape
  go_ret2
  exact ⟨A', _, c', rfl, hc', hs'.sl, HB0.out.trans (grown_below HG1.out (by simp [Value.ownBlock]) HB0.out.size)⟩
end Go.Proofs.Ytkeicjokekmkpaa
namespace Go.Proofs.Ytkeicjokekmkpaa
open Go.RowKit Go.Lib
set_option linter.unusedVariables false
set_option linter.unusedSimpArgs false

/-- A string's bytes. -/
def sB (s : ByteArray) : List Int := s.data.toList.map fun b => (b.toNat : Int)
theorem sB_len (s : ByteArray) : (sB s).length = s.size := by unfold sB; rw [List.length_map, Array.length_toList]; rfl
theorem sB_rng (s : ByteArray) : ∀ b ∈ sB s, 0 ≤ b ∧ b < 256 := by
  intro b hb
  unfold sB at hb
  obtain ⟨x, _, rfl⟩ := List.mem_map.1 hb
  have := x.toNat_lt
  omega
theorem sB_cells (s : ByteArray) : strCells s = (sB s).map fB := by unfold strCells sB; rw [List.map_map]; rfl
section
variable {P : Program} {w : World}
theorem run_app_str (t u ty e : TypeId) (i : TypeInfo) (ht : P.underlying t = some (.slice e)) (hu : P.underlying u = some .string) (hi : P.info? e = some i) (hz : i.zero = some (.int .u8 0)) (hsize : i.size = 1) (hby : i.bytes = 1)
    (v : Value) (xs : List Int) (base : Nat) (hown : Own fB e w base v xs) (s : ByteArray) (hl : xs.length + s.size ≤ 140737488355328) (hbase : base ≤ w.heap.size) :
    ∃ v' w', (Builtin.append_ #[t, u] ty #[v, .string s]).run P w = .ok v' w' ∧ Own fB e w' base v' (xs ++ sB s) ∧ w.grownBy w' v.ownBlock ∧ (v'.ownBlock = v.ownBlock ∨ v'.ownBlock = some w.heap.size) := by
  obtain ⟨v', w', h1, h2, h3, h4⟩ := run_append_own_string (P := P) w base t u ty e i ht hu hi hz hsize hby v xs.length (xs.map fB) hown s (by unfold maxLen; omega) hl hbase
  refine ⟨v', w', h1, ?_, h3, ?_⟩
  · unfold Own
    rw [List.length_append, List.map_append, sB_len, ← sB_cells]
    exact h2
  · rcases hown.2 with ⟨rfl, h0⟩ | ⟨g, cap, cur, rfl, _, hg, hnc, hcm, hcs, htake⟩
    · by_cases hm : s.size = 0
      · rw [h4.2 ⟨rfl, hm⟩]
        exact .inl rfl
      · have hr := run_append_nil_string (P := P) w t u ty e i (.int .u8 0) ht hu hi hz s (by omega) (by omega) (by rw [hby]; omega)
        rw [h1] at hr
        injection hr with hv _
        rw [hv]
        exact .inr rfl
    · by_cases hroom : xs.length + s.size ≤ cap
      · have hr := run_append_room_string (P := P) w t u ty e i ht hu hi hsize g xs.length cap cur hg s hroom (by omega)
        rw [h1] at hr
        injection hr with hv _
        rw [hv]
        exact .inl rfl
      · have hr := run_append_grow_string (P := P) w t u ty e i (.int .u8 0) ht hu hi hz ⟨g, 0, none⟩ xs.length cap (xs.map fB) (by rw [hsize]; simp) (World.ownsRow.cells hown (g := g) rfl) s (by omega) (by omega) (by rw [hby]; exact growslice_fits (by omega) (by omega))
        rw [h1] at hr
        injection hr with hv _
        rw [hv]
        exact .inr rfl
theorem wp_app_str {o : Oper} {a : Act} {K : Act → World → Prop} {Q : Exit → Act → World → Prop} (sl x : Operand) (t u : TypeId)
    (ho : o.op = .call { callee := .builtin .append, args := #[sl, x], argTypes := #[t, u] })
    (e : TypeId) (i : TypeInfo) (ht : P.underlying t = some (.slice e)) (hu : P.underlying u = some .string) (hi : P.info? e = some i) (hz : i.zero = some (.int .u8 0)) (hsize : i.size = 1) (hby : i.bytes = 1)
    (v : Value) (xs : List Int) (base : Nat) (hs : a.eval sl = v) (hown : Own fB e w base v xs) (s : ByteArray) (hx : a.eval x = .string s) (hl : xs.length + s.size ≤ 140737488355328) (hbase : base ≤ w.heap.size)
    (h : ∀ v' w', Own fB e w' base v' (xs ++ sB s) → w.grownBy w' v.ownBlock → (v'.ownBlock = v.ownBlock ∨ v'.ownBlock = some w.heap.size) → K (a.put o.dst v') w') : o.wp P a w K Q := by
  obtain ⟨v', w', hr, h2, h3, h4⟩ := run_app_str (P := P) t u o.type e i ht hu hi hz hsize hby v xs base hown s hl hbase
  unfold Oper.wp execOp
  simp only [ho, resolve, invoke, builtin, Sem.run_bind, Sem.run_pure, Result.andThen_ok, List.map_toArray, List.map_cons, List.map_nil, hs, hx, hr]
  exact h v' w' h2 h3 h4
/-- 'append(v, s...)': v the call's own, s a string. -/
theorem wpList_app_str {ops : Array Oper} {rest : List Oper} {o : Oper} {a : Act} {Q : Exit → Act → World → Prop} (hgd : o.guard = none) (sl x : Operand) (t u : TypeId)
    (ho : o.op = .call { callee := .builtin .append, args := #[sl, x], argTypes := #[t, u] })
    (e : TypeId) (i : TypeInfo) (ht : P.underlying t = some (.slice e)) (hu : P.underlying u = some .string) (hi : P.info? e = some i) (hz : i.zero = some (.int .u8 0)) (hsize : i.size = 1) (hby : i.bytes = 1)
    (v : Value) (xs : List Int) (base : Nat) (hs : a.eval sl = v) (hown : Own fB e w base v xs) (s : ByteArray) (hx : a.eval x = .string s) (hl : xs.length + s.size ≤ 140737488355328) (hbase : base ≤ w.heap.size)
    (h : ∀ v' w', Hid (Own fB e w' base v' (xs ++ sB s)) → Hid (w.grownBy w' v.ownBlock) → Hid (v'.ownBlock = v.ownBlock ∨ v'.ownBlock = some w.heap.size) → wpList P ops Q rest (a.put o.dst v') w') : wpList P ops Q (o :: rest) a w :=
  wpList_plain hgd fun _ hK => wp_app_str sl x t u ho e i ht hu hi hz hsize hby v xs base hs hown s hx hl hbase fun v' w' h2 h3 h4 => hK _ _ (h v' w' h2 h3 h4)
end
end Go.Proofs.Ytkeicjokekmkpaa
namespace Go.Proofs.Ytkeicjokekmkpaa
open Go.RowKit
set_option linter.unusedVariables false
set_option linter.unusedSimpArgs false

/-- A writer's state, seen from an earlier world. -/
def Wc (g base : Nat) (v : Value) (w0 : World) (bs : List Int) (w : World) : Prop := ∃ v', Wr w g base v' bs ∧ But (foot g v) w0 w ∧ NewRow v v' w0
section
variable {g base : Nat} {v : Value} {w0 w : World} {bs bs' : List Int}
theorem Wc.start (h : Wr w g base v bs) : Wc g base v w bs w := ⟨v, h, But.refl _ _, .inl rfl⟩
theorem Wc.step (h : Wc g base v w0 bs w) {f : FuncId} {args : Array Value} {P : Program} (hc : ∀ v', Wr w g base v' bs → NewRow v v' w0 → Calls P f args w (WPost g base v' bs' w)) :
    Calls P f args w fun e w' => e = .returned (.tuple #[]) ∧ Wc g base v w0 bs' w' := by
  obtain ⟨v1, h1, h2, h3⟩ := h
  refine (hc v1 h1 h3).mono ?_
  rintro e w' ⟨v2, rfl, k1, k2, k3⟩
  exact ⟨rfl, v2, k1, h2.wr h3 k2, h3.trans k3 h2.size⟩
theorem Wc.alloc (h : Wc g base v w0 bs w) (o : Obj) : Wc g base v w0 bs (w.alloc o) := by
  obtain ⟨v1, h1, h2, h3⟩ := h
  exact ⟨v1, h1.alloc o, h2.alloc o, h3⟩
theorem Wr.fresh (h : Wr w g base v bs) : ¬ foot g v w.heap.size := by
  rintro (h1 | h1)
  · have := lt_of_block h.1; omega
  · have := (World.ownsRow.lt h.2.1 _ h1).2; omega
theorem Wc.stepA (h : Wc g base v w0 bs w) (o : Obj) {f : FuncId} {args : Array Value} {P : Program} (hc : ∀ v', Wr (w.alloc o) g base v' bs → ¬ foot g v' w.heap.size → Calls P f args (w.alloc o) (WPost g base v' bs' (w.alloc o))) :
    Calls P f args (w.alloc o) fun e w' => e = .returned (.tuple #[]) ∧ Wc g base v w0 bs' w' := by
  obtain ⟨v1, h1, h2, h3⟩ := h
  refine (hc v1 (h1.alloc o) h1.fresh).mono ?_
  rintro e w' ⟨v2, rfl, k1, k2, k3⟩
  exact ⟨rfl, v2, k1, (h2.alloc o).wr h3 k2, h3.trans k3 (h2.alloc o).size⟩
theorem Wc.keep (h : Wc g base v w0 bs w) {k : Nat} (hk : ¬ foot g v k) (hl : k < w0.heap.size) : w.heap[k]? = w0.heap[k]? := by
  obtain ⟨v1, h1, h2, h3⟩ := h
  exact h2.block k hl hk
theorem Wc.size (h : Wc g base v w0 bs w) : w0.heap.size ≤ w.heap.size := by
  obtain ⟨v1, h1, h2, h3⟩ := h
  exact h2.size
theorem foot_still {v' : Value} (hn : NewRow v v' w0) {k : Nat} (hk : ¬ foot g v k) (hl : k < w0.heap.size) : ¬ foot g v' k := by
  intro h
  rcases foot_step hn k h with h1 | h1
  · exact hk h1
  · omega
theorem Wc.post (h : Wc g base v w0 bs w) : WPost g base v bs w0 (.returned (.tuple #[])) w := by
  obtain ⟨v1, h1, h2, h3⟩ := h
  exact ⟨v1, rfl, h1, h2, h3⟩
/-- The writer's row was turned by an append. -/
theorem Wr.put {w1 : World} {v1 : Value} {A : Option Addr} {l c : Nat} (hg : w1.heap[g]? = some (.cells #[v, .int .i64 0] 116 (0, 0))) (ho : Own fB 5 w1 base v1 bs) (hne : v1.ownBlock ≠ some g) (hbase : base ≤ w1.heap.size) (hv : v1 = .slice A l c) :
    Wr (w1.setCell ⟨g, 0, none⟩ (.slice A l c)) g base v1 bs := by
  subst hv
  have hst : But (fun k => k = g) w1 (w1.setCell ⟨g, 0, none⟩ (.slice A l c)) := But.setCell (p := fun k => k = g) (x := ⟨g, 0, none⟩) (But.refl _ _) (.inl rfl) _
  exact ⟨heap_setCell_same _ _ _ _ _ _ hg, ho.but hst fun k hk e => hne (by rw [hk, e]), Nat.le_trans hbase hst.size⟩
theorem But.put {w1 : World} (h : But (foot g v) w0 w1) (u : Value) : But (foot g v) w0 (w1.setCell ⟨g, 0, none⟩ u) := h.setCell (.inl (.inl rfl)) _
theorem But.app {w1 w2 : World} {v1 : Value} (h : But (foot g v) w0 w1) (hn : NewRow v v1 w0) (hg : w1.grownBy w2 v1.ownBlock) : But (foot g v) w0 w2 := h.grown hg fun k hk => by
  rcases hn with h1 | ⟨j, h1, hj⟩
  · exact .inl (.inr (by rw [← h1]; exact hk))
  · right; rw [h1] at hk; injection hk with hk; omega
theorem NewRow.app {w1 : World} {v1 v2 : Value} (hn : NewRow v v1 w0) (hs : w0.heap.size ≤ w1.heap.size) (h : v2.ownBlock = v1.ownBlock ∨ v2.ownBlock = some w1.heap.size) : NewRow v v2 w0 := by
  rcases h with h | h
  · rcases hn with h1 | ⟨j, h1, hj⟩
    · exact .inl (h.trans h1)
    · exact .inr ⟨j, h.trans h1, hj⟩
  · exact .inr ⟨_, h, hs⟩
end
/-- Behind an append to the writer's row. -/
theorem Wr.appd {g base : Nat} {v v1 : Value} {w w1 : World} {bs' : List Int} (hg : w1.heap[g]? = some (.cells #[v, .int .i64 0] 116 (0, 0))) (hne : v1.ownBlock ≠ some g) (hb : But (foot g v) w w1) (hn : NewRow v v1 w) (hbase : base ≤ w1.heap.size) (v2 : Value) (w2 : World) (ho : Own fB 5 w2 base v2 bs') (hgr : w1.grownBy w2 v1.ownBlock) (hv : v2.ownBlock = v1.ownBlock ∨ v2.ownBlock = some w1.heap.size) :
    ∃ A l c, v2 = .slice A l c ∧ Hid (Wr (w2.setCell ⟨g, 0, none⟩ (.slice A l c)) g base (.slice A l c) bs' ∧ But (foot g v) w (w2.setCell ⟨g, 0, none⟩ (.slice A l c)) ∧ NewRow v (.slice A l c) w) ∧ w2.frozen? ⟨g, 0, none⟩ = false ∧ w2.cell? ⟨g, 0, none⟩ = some v := by
  have hgg : w2.heap[g]? = some (.cells #[v, .int .i64 0] 116 (0, 0)) := (hgr.block g (lt_of_block hg) (fun e => hne e.symm)).trans hg
  have hne2 : v2.ownBlock ≠ some g := ho.ne_of hgg (by decide)
  have hB2 := hb.app hn hgr
  have hN2 := hn.app hb.size hv
  obtain ⟨A, c, hs, _⟩ := ho.shape
  have hw := Wr.put hgg ho hne2 (Nat.le_trans hbase hgr.size) hs
  subst hs
  exact ⟨A, _, c, rfl, ⟨hw, hB2.put _, hN2⟩, frozen_of_row w2 g 0 _ _ hgg, by rw [cell_of_row w2 g 0 _ _ _ hgg]; rfl⟩
set_option maxRecDepth 20000 in
set_option maxHeartbeats 1000000 in
theorem wtext_any (g base : Nat) (v : Value) (bs : List Int) (s : ByteArray) (w : World) (hw : Wr w g base v bs) (hs : s.size ≤ 1099511627776) (hlen : bs.length ≤ 1099511627776) :
    Calls Try.prog 56 #[.pointer (some ⟨g, 0, none⟩), .string s] w (WPost g base v (bs ++ (enc s.size ++ sB s)) w) := by
  obtain ⟨hg, hown, hbase⟩ := hw
  have h0 := cell_of_row w g 0 _ _ _ hg
  have h1 := cell_of_row w g 1 _ _ _ hg
  simp at h0 h1
  have HC := Lib.hid (extend_any v bs s.size w base hown hbase (by omega) hlen)
  have HG := Lib.hid hg
  have HNE : Hid (v.ownBlock ≠ some g) := hown.ne_of hg (by decide)
  have HBASE := Lib.hid hbase
  obtain ⟨i0, hi, hz0, hz1, hz2⟩ := info_parts Try.infoB
  have HI := Lib.hid hi
  have HZ0 := Lib.hid hz0
  have HZ1 := Lib.hid hz1
  have HZ2 := Lib.hid hz2
  have HL : Hid ((bs ++ enc s.size).length + s.size ≤ 140737488355328) := by
    show _ ≤ _
    have := enc_len s.size
    rw [List.length_append]
    omega
  have HSS : Hid (((s.size : Nat) : Int) = s.size) := rfl
  clear hi hz0 hz1 hz2 hg hown hbase
  go_enter Try.func56, Try.ntmps56
  go_wp2_with fail
  refine HC.out.mono ?_
  rintro e w1 ⟨v1, rfl, ho1, hb1, hv1⟩
  have HG1 : Hid (w1.heap[g]? = some (.cells #[v, .int .i64 0] 116 (0, 0))) := (hb1.block g (lt_of_block HG.out) HNE.out).trans HG.out
  have HB1 : Hid (But (foot g v) w w1) := hb1.mono fun i hi => .inl (.inr hi)
  have HO1 := Lib.hid ho1
  have HV1 : Hid (NewRow v v1 w) := hv1
  have HS1 : Hid (base ≤ w1.heap.size) := Nat.le_trans HBASE.out hb1.size
  have HNE1 : Hid (v1.ownBlock ≠ some g) := ho1.ne_of HG1.out (by decide)
  have HAPP := Lib.hid (Wr.appd (bs' := (bs ++ enc s.size) ++ sB s) HG1.out HNE1.out HB1.out HV1.out HS1.out)
  clear hb1 ho1 hv1 h0 h1
  go_wp2_with (at_builtin; (with_reducible refine wpList_app_str (o := ⟨some 19, _, _, _, _, _⟩) rfl (.tmp 17) (.tmp 18) 41 9 rfl 5 i0 Try.underlying41 Try.underlying9 HI.out HZ0.out HZ1.out HZ2.out v1 (bs ++ enc s.size) base rfl HO1.out s rfl HL.out HS1.out ?_); intro v2 w2 HO2 HG2 HV2; obtain ⟨A2, l2, c2, hv2, HF2, hfr, hcl⟩ := HAPP.out v2 w2 HO2.out HG2.out HV2.out; subst hv2)
  go_wp2
  go_end0
  rw [← List.append_assoc]
  exact ⟨_, rfl, HF2.out.1, HF2.out.2.1, HF2.out.2.2⟩

set_option maxRecDepth 20000 in
set_option maxHeartbeats 1000000 in
theorem wsum_any (g base : Nat) (v : Value) (bs : List Int) (s : ByteArray) (w : World) (hw : Wr w g base v bs) (hs : s.size = 32) (hlen : bs.length ≤ 1099511627776) :
    Calls Try.prog 57 #[.pointer (some ⟨g, 0, none⟩), .string s] w (WPost g base v (bs ++ sB s) w) := by
  obtain ⟨hg, hown, hbase⟩ := hw
  have h0 := cell_of_row w g 0 _ _ _ hg
  have h1 := cell_of_row w g 1 _ _ _ hg
  simp at h0 h1
  have HG := Lib.hid hg
  have HO := Lib.hid hown
  have HNE : Hid (v.ownBlock ≠ some g) := hown.ne_of hg (by decide)
  have HBASE := Lib.hid hbase
  obtain ⟨i0, hi, hz0, hz1, hz2⟩ := info_parts Try.infoB
  have HI := Lib.hid hi
  have HZ0 := Lib.hid hz0
  have HZ1 := Lib.hid hz1
  have HZ2 := Lib.hid hz2
  have HL : Hid (bs.length + s.size ≤ 140737488355328) := by show _ ≤ _; omega
  have hne32 : (((s.size : Nat) : Int) != 32) = false := by simp; omega
  have HAPP := Lib.hid (Wr.appd (bs' := bs ++ sB s) hg HNE.out (But.refl _ w) (Or.inl rfl : NewRow v v w) hbase)
  clear hi hz0 hz1 hz2 hg hown hbase
  go_enter Try.func57, Try.ntmps57
  go_wp2_with (at_builtin; (with_reducible refine wpList_app_str (o := ⟨some 21, _, _, _, _, _⟩) rfl (.tmp 19) (.tmp 20) 41 9 rfl 5 i0 Try.underlying41 Try.underlying9 HI.out HZ0.out HZ1.out HZ2.out v bs base rfl HO.out s rfl HL.out HBASE.out ?_); intro v2 w2 HO2 HG2 HV2; obtain ⟨A2, l2, c2, hv2, HF2, hfr, hcl⟩ := HAPP.out v2 w2 HO2.out HG2.out HV2.out; subst hv2)
  go_wp2
  go_end0
  exact ⟨_, rfl, HF2.out.1, HF2.out.2.1, HF2.out.2.2⟩
end Go.Proofs.Ytkeicjokekmkpaa
namespace Go.Proofs.Ytkeicjokekmkpaa
open Go.RowKit Go.Lib
set_option linter.unusedVariables false
set_option linter.unusedSimpArgs false

theorem run_conv_sl {P : Program} (src e dst : TypeId) (hs : P.underlying src = some (.slice e)) (he : P.underlying e = some (.int .u8)) (hd : P.underlying dst = some .string) (w : World) (B : Nat) (A : Option Addr) (n c : Nat) (xs : List Int) (h : Sl fB w B A n xs) :
    (convert src dst (.slice A n c)).run P w = .ok (.string (strOfNums xs)) w := by
  obtain ⟨rfl, h⟩ := h
  cases xs with
  | nil =>
    cases A with
    | none => exact run_convert_bytes_nil w src e hs he _ c dst hd
    | some ad =>
      rw [run_convert_bytes_string w src dst e _ _ c hs he hd]
      simp [Conv.bytesToString, strOfNums, loadCells, loadCellsFrom]
      rfl
  | cons x l =>
    obtain ⟨b, off, rfl, _, hc⟩ := h (by simp)
    exact run_convert_bytes_arg w src e hs he b off _ c (x :: l) rfl (fun i hi => by
      obtain ⟨z, hz⟩ := get_ex hi
      rw [hc i z hz, getD_of hz]) dst hd

/-- A string of these bytes. -/
def baOf (xs : List Int) : ByteArray := strOfNums xs
def baNo : ByteArray := ⟨#[]⟩
theorem baOf_sB {xs : List Int} (h : ∀ b ∈ xs, 0 ≤ b ∧ b < 256) : sB (baOf xs) = xs := by
  unfold sB baOf strOfNums
  simp only [List.map_map]
  conv => rhs; rw [← List.map_id xs]
  apply List.map_congr_left
  intro x hx
  have := h x hx
  show ((UInt8.ofNat x.toNat).toNat : Int) = x
  rw [UInt8.toNat_ofNat']
  omega
theorem encF_rng : ∀ (k n : Nat), ∀ b ∈ encF k n, 0 ≤ b ∧ b < 256
  | 0, _, b, h => by simp [encF] at h
  | k + 1, n, b, h => by
    rw [encF] at h
    split at h
    · obtain rfl := List.mem_singleton.1 h; omega
    · rcases List.mem_cons.1 h with rfl | h
      · omega
      · exact encF_rng k _ b h
theorem enc_rng (n : Nat) : ∀ b ∈ enc n, 0 ≤ b ∧ b < 256 := encF_rng 10 n
end Go.Proofs.Ytkeicjokekmkpaa
