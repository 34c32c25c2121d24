/- The reference's receipt: what it reads of any bytes. -/
import Derived.Test.YtnfkjnmdfijhnaaGreatDoorT5
import Derived.Test.YtnfkjnmdfijhnaaGreatDoorSw
import Derived.Test.YtnfkjnmdfijhnaaGreatDoorS3
namespace Go.Proofs.YtnfkjnmdfijhnaaGreatDoor
open Go.RowKit Go.Lib
set_option linter.unusedVariables false
set_option linter.unusedSimpArgs false

def rx1 (bs : List Int) : Int × RS := rI2 bs (0, 0)
def rx2 (bs : List Int) : Int × RS := rI2 bs (rx1 bs).2
def rx3 (bs : List Int) : ByteArray × RS := rS bs (rx2 bs).2
def rx4 (bs : List Int) : Int × RS := rI2 bs (rx3 bs).2
def rx5 (bs : List Int) : Int × RS := rI2 bs (rx4 bs).2
def rx6 (bs : List Int) : Int × RS := rI2 bs (rx5 bs).2
def rx7 (bs : List Int) : Int × RS := rI2 bs (rx6 bs).2
def rx8 (bs : List Int) : Int × RS := rI2 bs (rx7 bs).2
def rx9 (bs : List Int) : Int × RS := rI2 bs (rx8 bs).2
def rxA (bs : List Int) : List ByteArray × RS := rL bs 8 (rx9 bs).2
def rxB (bs : List Int) : ByteArray × RS := rS bs (rxA bs).2
def rxC (bs : List Int) : Int × RS := rI2 bs (rxB bs).2
def rxD (bs : List Int) : List ByteArray × RS := rL bs 300 (rxC bs).2
def rxE (bs : List Int) : List ByteArray × RS := rL bs 8 (rxD bs).2
/-- The receipt that is read, without its lists. -/
def rxV (bs : List Int) (pa pb pc : Hd) : Rcp := ⟨(rx1 bs).1, (rx2 bs).1, (rx3 bs).1, (rx4 bs).1, (rx5 bs).1, (rx6 bs).1, (rx7 bs).1, (rx8 bs).1, (rx9 bs).1, (rxB bs).1, pa, (rxC bs).1, pb, pc⟩
def okX (bs : List Int) : Bool := decide (rEnd bs (rxE bs).2 = 0) && vaB (rxV bs ⟨none, 0, 0⟩ ⟨none, 0, 0⟩ ⟨none, 0, 0⟩) (rxA bs).1 (rxD bs).1 (rxE bs).1
/-- What receipt hands back. -/
def RRPost (bs : List Int) (w : World) (e : Ending) (w' : World) : Prop :=
  ∃ R : Rcp, e = .returned (.tuple #[.agg (cR R), .bool (okX bs)]) ∧ Below w.heap.size w w' ∧ (okX bs = true → R = rxV bs R.pa R.pb R.pc ∧ RcO w' w.heap.size R (rxA bs).1 (rxD bs).1 (rxE bs).1)
/-- What holds while a struct is read into the block b. -/
structure DF (t : TypeId) (V0 V : World) (g : Nat) (A1 : Option Addr) (n c1 : Nat) (bs : List Int) (s : RS) (b : Nat) (cs : Array Value) : Prop where
  rd : RfS g A1 n c1 bs s V
  pc : V.heap[b]? = some (.cells cs t (0, 0))
  but : But (fun k => k = g ∨ k = b) V0 V
  gb : b ≠ g
  ab : 0 < n → ∀ a, A1 = some a → a.block ≠ b
theorem RfS.but3 {g : Nat} {A : Option Addr} {n c : Nat} {bs : List Int} {s : RS} {w w' : World} {p : Nat → Prop} (h : RfS g A n c bs s w) (hb : But p w w') (hg : ¬ p g) (hA : 0 < n → ∀ a, A = some a → ¬ p a.block) : RfS g A n c bs s w' := by
  have hl := h.lt
  obtain ⟨⟨pv, h1⟩, h2⟩ := h
  exact ⟨⟨pv, (hb.block _ hl hg).trans h1⟩, h2.1, fun hn => h2.2.but hb (Nat.le_of_lt hl) (hA (by have := h2.1; omega)) hn⟩
theorem DF.read {t : TypeId} {V0 V V' : World} {g : Nat} {A1 : Option Addr} {n c1 : Nat} {bs : List Int} {s s' : RS} {b : Nat} {cs : Array Value} (h : DF t V0 V g A1 n c1 bs s b cs) (hr : RfS g A1 n c1 bs s' V') (hb : But (fun k => k = g) V V') : DF t V0 V' g A1 n c1 bs s' b cs :=
  ⟨hr, (hb.block _ (lt_of_block h.pc) h.gb).trans h.pc, h.but.trans hb (fun i hi => .inl (.inl hi)), h.gb, h.ab⟩
theorem DF.set {t : TypeId} {V0 V V' : World} {g : Nat} {A1 : Option Addr} {n c1 : Nat} {bs : List Int} {s : RS} {b : Nat} {cs cs' : Array Value} (h : DF t V0 V g A1 n c1 bs s b cs) (hp : V'.heap[b]? = some (.cells cs' t (0, 0))) (hb : But (fun k => k = b) V V') : DF t V0 V' g A1 n c1 bs s b cs' :=
  ⟨h.rd.but3 hb (fun e => h.gb e.symm) (fun h0 a ha e => h.ab h0 a ha e), hp, h.but.trans hb (fun i hi => .inl (.inr hi)), h.gb, h.ab⟩
theorem DF.keep {t : TypeId} {V0 V V' : World} {g : Nat} {A1 : Option Addr} {n c1 : Nat} {bs : List Int} {s : RS} {b : Nat} {cs : Array Value} (h : DF t V0 V g A1 n c1 bs s b cs) (hb : Below V.heap.size V V') : DF t V0 V' g A1 n c1 bs s b cs :=
  ⟨h.rd.on hb, (hb.block _ (lt_of_block h.pc)).trans h.pc, h.but.trans (But.of_below (p := fun k => k = g ∨ k = b) hb) (fun i hi => .inl hi), h.gb, h.ab⟩
theorem lt14 {a0 a1 a2 a3 a4 a5 a6 a7 a8 a9 a10 a11 a12 a13 : Value} {k : Nat} (h : k < 14) : k < (#[a0, a1, a2, a3, a4, a5, a6, a7, a8, a9, a10, a11, a12, a13] : Array Value).size := h
theorem Tryz.sizeLs : (Tryz.prog.info? 25).map (·.size) = some 1 := by kernel_rfl
def rcP15 : Array (Nat × Operand) := #[(0, .tmp 12), (1, .tmp 14)]
set_option maxRecDepth 100000 in
theorem rcB15 (a : Act) (d q : Int) (h0 : a.eval (.tmp 12) = .int .i64 d) (h1 : a.eval (.tmp 14) = .int .i64 q) : Tryz.prog.built tR (rcP15.map fun (i, x) => (i, a.eval x)).toList = some #[.int .i64 d, .int .i64 q, .string ⟨#[]⟩, .int .i64 0, .int .i64 0, .int .i64 0, .int .i64 0, .int .i64 0, .int .i64 0, .string ⟨#[]⟩, .slice none 0 0, .int .i64 0, .slice none 0 0, .slice none 0 0] := by
  rw [Array.toList_map]
  show Tryz.prog.built tR [(0, a.eval (.tmp 12)), (1, a.eval (.tmp 14))] = _
  rw [h0, h1]
  kernel_rfl
set_option maxRecDepth 100000 in
set_option maxHeartbeats 16000000 in
theorem rrcp_any (A : Option Addr) (n c B : Nat) (bs : List Int) (w : World) (hx : Sl fB w B A n bs) (hB : B ≤ w.heap.size) (hk : RK bs n c) :
    Calls Tryz.prog 51 #[.slice A n c] w (RRPost bs w) := by
  have hl : bs.length = n := hx.1
  have hp0 : (0, (0 : Int)).1 ≤ n := Nat.zero_le _
  have hp_x1 : (rx1 bs).2.1 ≤ n := rI2_le hl hp0
  have hp_x2 : (rx2 bs).2.1 ≤ n := rI2_le hl hp_x1
  have hp_x3 : (rx3 bs).2.1 ≤ n := rS_le hl hp_x2
  have hp_x4 : (rx4 bs).2.1 ≤ n := rI2_le hl hp_x3
  have hp_x5 : (rx5 bs).2.1 ≤ n := rI2_le hl hp_x4
  have hp_x6 : (rx6 bs).2.1 ≤ n := rI2_le hl hp_x5
  have hp_x7 : (rx7 bs).2.1 ≤ n := rI2_le hl hp_x6
  have hp_x8 : (rx8 bs).2.1 ≤ n := rI2_le hl hp_x7
  have hp_x9 : (rx9 bs).2.1 ≤ n := rI2_le hl hp_x8
  have hp_xA : (rxA bs).2.1 ≤ n := rL_le hl hp_x9
  have hp_xB : (rxB bs).2.1 ≤ n := rS_le hl hp_xA
  have hp_xC : (rxC bs).2.1 ≤ n := rI2_le hl hp_xB
  have hp_xD : (rxD bs).2.1 ≤ n := rL_le hl hp_xC
  have hp_xE : (rxE bs).2.1 ≤ n := rL_le hl hp_xD
  obtain ⟨W1, hW1⟩ : ∃ W1 : World, W1 = (w.alloc (.cells zR tR)).alloc (.cells #[.slice A n c, .int .i64 0, .int .i64 0, .int .i64 0] 101) := ⟨_, rfl⟩
  have hb1 : Below w.heap.size w W1 := by rw [hW1]; exact ((Below.refl _ _).alloc (Nat.le_refl _) _).alloc (by simp) _
  have hs1 : W1.heap.size = w.heap.size + 1 + 1 := by rw [hW1]; simp
  have hg2 : W1.heap[w.heap.size]? = some (.cells zR tR (0, 0)) := by rw [hW1, Below.heap_alloc _ _ _ (by simp)]; exact heap_alloc_new w _
  have hgg : W1.heap[w.heap.size + 1]? = some (.cells #[.slice A n c, .int .i64 0, .int .i64 0, .int .i64 0] 101 (0, 0)) := by
    rw [hW1]
    have := heap_alloc_new (w.alloc (.cells zR tR)) (.cells #[.slice A n c, .int .i64 0, .int .i64 0, .int .i64 0] 101)
    simpa using this
  have hr0 : RfS (w.heap.size + 1) A n c bs (0, 0) W1 := ⟨⟨0, hgg⟩, (hx.up hb1 hB).more' (Nat.le_succ_of_le hB)⟩
  have HA : Hid (∀ a, A = some a → 0 < n → a.block < w.heap.size) := fun a ha h0 => by
    obtain ⟨b, off, e, hlt, _⟩ := hx.2 (by omega)
    rw [ha] at e
    cases e
    exact Nat.lt_of_lt_of_le hlt hB
  obtain ⟨g, hgE⟩ : ∃ g, g = w.heap.size + 1 := ⟨_, rfl⟩
  rw [← hgE] at hr0
  have HGE := Lib.hid hgE
  have HR0 := Lib.hid hr0
  have HB1 := Lib.hid hb1
  have HS1 := Lib.hid hs1
  have HG2 := Lib.hid hg2
  have HWE := Lib.hid hW1
  have Hx1 : Hid (∀ V, RfS g A n c bs (0, 0) V → Calls Tryz.prog 53 #[.pointer (some ⟨g, 0, none⟩)] V (RfPost g A n c bs (.int .i64 (rx1 bs).1) (rx1 bs).2 V)) := fun V h => rint_any g A n c bs (0, 0) V h hk hp0
  have Hx2 : Hid (∀ V, RfS g A n c bs (rx1 bs).2 V → Calls Tryz.prog 53 #[.pointer (some ⟨g, 0, none⟩)] V (RfPost g A n c bs (.int .i64 (rx2 bs).1) (rx2 bs).2 V)) := fun V h => rint_any g A n c bs (rx1 bs).2 V h hk hp_x1
  have Hx3 : Hid (∀ V, RfS g A n c bs (rx2 bs).2 V → Calls Tryz.prog 52 #[.pointer (some ⟨g, 0, none⟩), .int .i64 6, .int .i64 0] V (RfPost g A n c bs (.agg (rv 6 0 0 (rx3 bs).1 0)) (rx3 bs).2 V)) := fun V h => rfs_any g A n c bs (rx2 bs).2 V h hk hp_x2
  have Hx4 : Hid (∀ V, RfS g A n c bs (rx3 bs).2 V → Calls Tryz.prog 53 #[.pointer (some ⟨g, 0, none⟩)] V (RfPost g A n c bs (.int .i64 (rx4 bs).1) (rx4 bs).2 V)) := fun V h => rint_any g A n c bs (rx3 bs).2 V h hk hp_x3
  have Hx5 : Hid (∀ V, RfS g A n c bs (rx4 bs).2 V → Calls Tryz.prog 53 #[.pointer (some ⟨g, 0, none⟩)] V (RfPost g A n c bs (.int .i64 (rx5 bs).1) (rx5 bs).2 V)) := fun V h => rint_any g A n c bs (rx4 bs).2 V h hk hp_x4
  have Hx6 : Hid (∀ V, RfS g A n c bs (rx5 bs).2 V → Calls Tryz.prog 53 #[.pointer (some ⟨g, 0, none⟩)] V (RfPost g A n c bs (.int .i64 (rx6 bs).1) (rx6 bs).2 V)) := fun V h => rint_any g A n c bs (rx5 bs).2 V h hk hp_x5
  have Hx7 : Hid (∀ V, RfS g A n c bs (rx6 bs).2 V → Calls Tryz.prog 53 #[.pointer (some ⟨g, 0, none⟩)] V (RfPost g A n c bs (.int .i64 (rx7 bs).1) (rx7 bs).2 V)) := fun V h => rint_any g A n c bs (rx6 bs).2 V h hk hp_x6
  have Hx8 : Hid (∀ V, RfS g A n c bs (rx7 bs).2 V → Calls Tryz.prog 53 #[.pointer (some ⟨g, 0, none⟩)] V (RfPost g A n c bs (.int .i64 (rx8 bs).1) (rx8 bs).2 V)) := fun V h => rint_any g A n c bs (rx7 bs).2 V h hk hp_x7
  have Hx9 : Hid (∀ V, RfS g A n c bs (rx8 bs).2 V → Calls Tryz.prog 53 #[.pointer (some ⟨g, 0, none⟩)] V (RfPost g A n c bs (.int .i64 (rx9 bs).1) (rx9 bs).2 V)) := fun V h => rint_any g A n c bs (rx8 bs).2 V h hk hp_x8
  have HxA : Hid (∀ V, RfS g A n c bs (rx9 bs).2 V → Calls Tryz.prog 56 #[.pointer (some ⟨g, 0, none⟩), .int .i64 8] V (RfLPost g A n c bs (rxA bs) V)) := fun V h => rsl_any g A n c bs (rx9 bs).2 8 (by decide) V h hk hp_x9
  have HxB : Hid (∀ V, RfS g A n c bs (rxA bs).2 V → Calls Tryz.prog 52 #[.pointer (some ⟨g, 0, none⟩), .int .i64 6, .int .i64 0] V (RfPost g A n c bs (.agg (rv 6 0 0 (rxB bs).1 0)) (rxB bs).2 V)) := fun V h => rfs_any g A n c bs (rxA bs).2 V h hk hp_xA
  have HxC : Hid (∀ V, RfS g A n c bs (rxB bs).2 V → Calls Tryz.prog 53 #[.pointer (some ⟨g, 0, none⟩)] V (RfPost g A n c bs (.int .i64 (rxC bs).1) (rxC bs).2 V)) := fun V h => rint_any g A n c bs (rxB bs).2 V h hk hp_xB
  have HxD : Hid (∀ V, RfS g A n c bs (rxC bs).2 V → Calls Tryz.prog 56 #[.pointer (some ⟨g, 0, none⟩), .int .i64 300] V (RfLPost g A n c bs (rxD bs) V)) := fun V h => rsl_any g A n c bs (rxC bs).2 300 (by decide) V h hk hp_xC
  have HxE : Hid (∀ V, RfS g A n c bs (rxD bs).2 V → Calls Tryz.prog 56 #[.pointer (some ⟨g, 0, none⟩), .int .i64 8] V (RfLPost g A n c bs (rxE bs) V)) := fun V h => rsl_any g A n c bs (rxD bs).2 8 (by decide) V h hk hp_xD
  have HEN : Hid (∀ V, RfS g A n c bs (rxE bs).2 V → Calls Tryz.prog 54 #[.pointer (some ⟨g, 0, none⟩)] V fun e w' => e = .returned (.tuple #[.int .i64 (rxE bs).2.1, .int .i64 (rEnd bs (rxE bs).2)]) ∧ Below V.heap.size V w') := fun V h => rend01_any g A n c bs _ V h hk.2.1 hp_xE
  have HOK : Hid (okX bs = (decide (rEnd bs (rxE bs).2 = 0) && vaB (rxV bs ⟨none, 0, 0⟩ ⟨none, 0, 0⟩ ⟨none, 0, 0⟩) (rxA bs).1 (rxD bs).1 (rxE bs).1)) := rfl
  have HEZ : Hid (rEnd bs (rxE bs).2 = 0 → (rxA bs).2.2 = 0 ∧ (rxD bs).2.2 = 0 ∧ (rxE bs).2.2 = 0) := fun h => by
    have h1 : (rxE bs).2.2 = 0 := (rEnd_iff.1 h).1
    have h2 : (rxD bs).2.2 = 0 := rL_ok h1
    have h3 : (rxC bs).2.2 = 0 := rL_ok h2
    have h4 : (rxB bs).2.2 = 0 := rI2_ok h3
    have h5 : (rxA bs).2.2 = 0 := (rV_ok h4).1
    exact ⟨h5, h2, h1⟩
  have HLN : Hid ((rxA bs).1.length ≤ 1000000 ∧ (rxD bs).1.length ≤ 1000000 ∧ (rxE bs).1.length ≤ 1000000) := ⟨rL_len (by decide), rL_len (by decide), rL_len (by decide)⟩
  unfold RRPost
  unfold rxV at HOK ⊢
  generalize rx1 bs = Rx1 at *
  generalize rx2 bs = Rx2 at *
  generalize rx3 bs = Rx3 at *
  generalize rx4 bs = Rx4 at *
  generalize rx5 bs = Rx5 at *
  generalize rx6 bs = Rx6 at *
  generalize rx7 bs = Rx7 at *
  generalize rx8 bs = Rx8 at *
  generalize rx9 bs = Rx9 at *
  generalize rxA bs = RxA at *
  generalize rxB bs = RxB at *
  generalize rxC bs = RxC at *
  generalize rxD bs = RxD at *
  generalize rxE bs = RxE at *
  obtain ⟨d1, s1⟩ := Rx1
  obtain ⟨d2, s2⟩ := Rx2
  obtain ⟨st, s3⟩ := Rx3
  obtain ⟨ix, s4⟩ := Rx4
  obtain ⟨sz, s5⟩ := Rx5
  obtain ⟨dy, s6⟩ := Rx6
  obtain ⟨sr, s7⟩ := Rx7
  obtain ⟨ct, s8⟩ := Rx8
  obtain ⟨pl, s9⟩ := Rx9
  obtain ⟨ps, sA⟩ := RxA
  obtain ⟨rt, sB⟩ := RxB
  obtain ⟨si, sC⟩ := RxC
  obtain ⟨qs, sD⟩ := RxD
  obtain ⟨rs, sE⟩ := RxE
  dsimp only at Hx1 Hx2 Hx3 Hx4 Hx5 Hx6 Hx7 Hx8 Hx9 HxA HxB HxC HxD HxE HEN HOK HEZ HLN ⊢
  obtain ⟨er, hEr⟩ : ∃ er, rEnd bs sE = er := ⟨_, rfl⟩
  rw [hEr] at HEN HOK HEZ
  clear hEr
  have hfs := fun V => fld4 6 0 0 st 0 V
  have hft := fun V => fld4 6 0 0 rt 0 V
  clear hgE hx hB hl hk hp0 hb1 hs1 hg2 hgg hr0 hW1 hp_x1 hp_x2 hp_x3 hp_x4 hp_x5 hp_x6 hp_x7 hp_x8 hp_x9 hp_xA hp_xB hp_xC hp_xD hp_xE
  go_enter Tryz.func51, Tryz.ntmps51
  go_upto_region 2 with fail
  rw [← HWE.out, ← HGE.out]
  go_upto_region 3 with (first | (go_at_call 53; (with_reducible refine (Hx1.out _ HR0.out).mono ?_); rintro e V1 ⟨rfl, r1, b1⟩; (have R1 := Lib.hid r1); (have B1 := Lib.hid b1); clear r1 b1) | (go_at_call 53; (with_reducible refine (Hx2.out _ R1.out).mono ?_); rintro e V2 ⟨rfl, r2, b2⟩; (have R2 := Lib.hid r2); (have B2 := Lib.hid (B1.out.trans b2 (fun i hi => .inl hi))); clear r2 b2) | (with_reducible refine wpList_built (o := ⟨some 15, _, _, _, _, _⟩) rfl tR rcP15 (by kernel_rfl) #[.int .i64 d1, .int .i64 d2, .string ⟨#[]⟩, .int .i64 0, .int .i64 0, .int .i64 0, .int .i64 0, .int .i64 0, .int .i64 0, .string ⟨#[]⟩, .slice none 0 0, .int .i64 0, .slice none 0 0, .slice none 0 0] (rcB15 _ d1 d2 rfl rfl) ?_))

  obtain ⟨b, hb⟩ : ∃ b, b = V2.heap.size := ⟨_, rfl⟩
  obtain ⟨V3, hV3⟩ : ∃ V3 : World, V3 = V2.alloc (.cells #[.int .i64 d1, .int .i64 d2, .string ⟨#[]⟩, .int .i64 0, .int .i64 0, .int .i64 0, .int .i64 0, .int .i64 0, .int .i64 0, .string ⟨#[]⟩, .slice none 0 0, .int .i64 0, .slice none 0 0, .slice none 0 0] tR) := ⟨_, rfl⟩
  have h23 : Below V2.heap.size V2 V3 := by rw [hV3]; exact (Below.refl _ _).alloc (Nat.le_refl _) _
  have hg3 : V3.heap[b]? = some (.cells #[.int .i64 d1, .int .i64 d2, .string ⟨#[]⟩, .int .i64 0, .int .i64 0, .int .i64 0, .int .i64 0, .int .i64 0, .int .i64 0, .string ⟨#[]⟩, .slice none 0 0, .int .i64 0, .slice none 0 0, .slice none 0 0] tR (0, 0)) := by rw [hV3, hb]; exact heap_alloc_new V2 _
  have hgb : g < b := by rw [hb]; exact R2.out.lt
  have hwb : w.heap.size < b := by have := HGE.out; omega
  have D3 : Hid (DF tR V3 V3 g A n c bs s2 b #[.int .i64 d1, .int .i64 d2, .string ⟨#[]⟩, .int .i64 0, .int .i64 0, .int .i64 0, .int .i64 0, .int .i64 0, .int .i64 0, .string ⟨#[]⟩, .slice none 0 0, .int .i64 0, .slice none 0 0, .slice none 0 0]) := ⟨R2.out.on h23, hg3, But.refl _ _, by omega, fun h0 a ha e => by have := HA.out a ha h0; omega⟩
  have HB0 : Hid (Below w.heap.size w V3) := by
    have h1 : Below w.heap.size w V2 := HB1.out.trans (B2.out.below HB1.out.size (fun i hi => by subst hi; rw [HGE.out]; omega))
    exact h1.trans (h23.mono h1.size)
  have HZ3 : Hid (V3.heap[w.heap.size]? = some (.cells zR tR (0, 0))) := by
    have h2 := (B2.out.block _ (lt_of_block HG2.out) (by rw [HGE.out]; omega)).trans HG2.out
    exact (h23.block _ (lt_of_block h2)).trans h2
  have HGB : Hid (g < b) := hgb
  have HWB : Hid (w.heap.size < b) := hwb
  rw [← hV3, ← hb]
  clear hb hgb hwb hV3 h23 hg3 R1 R2 B1 B2 Hx1 Hx2 HR0
  go_upto_region 10 with (first
    | (go_at_call 52; (with_reducible refine (Hx3.out _ D3.out.rd).mono ?_); rintro e V4 ⟨rfl, r, bb⟩; (have D4 := Lib.hid (D3.out.read r bb)); clear r bb D3)
    | (go_at_call 53; (with_reducible refine (Hx4.out _ D4.out.rd).mono ?_); rintro e V5 ⟨rfl, r, bb⟩; (have D5 := Lib.hid (D4.out.read r bb)); clear r bb D4)
    | ((with_reducible refine wpList_store_at2 (o := ⟨none, _, _, _, _, _⟩) rfl 23 (.tmp 22) (.tmp 21) rfl b tR 2 #[.int .i64 d1, .int .i64 d2, .string ⟨#[]⟩, .int .i64 0, .int .i64 0, .int .i64 0, .int .i64 0, .int .i64 0, .int .i64 0, .string ⟨#[]⟩, .slice none 0 0, .int .i64 0, .slice none 0 0, .slice none 0 0] (.string st) (.int .i64 ix) (by kernel_rfl) rfl D5.out.pc (lt14 (by decide)) Tryz.sizePid (by kernel_rfl) ?_); intro V6 hg hb; (have D6 : Hid (DF tR V3 V6 g A n c bs s4 b #[.int .i64 d1, .int .i64 d2, .string st, .int .i64 ix, .int .i64 0, .int .i64 0, .int .i64 0, .int .i64 0, .int .i64 0, .string ⟨#[]⟩, .slice none 0 0, .int .i64 0, .slice none 0 0, .slice none 0 0]) := D5.out.set hg.out hb.out); clear hg hb D5)
    | (go_at_call 53; (with_reducible refine (Hx5.out _ D6.out.rd).mono ?_); rintro e V7 ⟨rfl, r, bb⟩; (have D7 := Lib.hid (D6.out.read r bb)); clear r bb D6)
    | (go_at_call 53; (with_reducible refine (Hx6.out _ D7.out.rd).mono ?_); rintro e V8 ⟨rfl, r, bb⟩; (have D8 := Lib.hid (D7.out.read r bb)); clear r bb D7)
    | (go_at_call 53; (with_reducible refine (Hx7.out _ D8.out.rd).mono ?_); rintro e V9 ⟨rfl, r, bb⟩; (have D9 := Lib.hid (D8.out.read r bb)); clear r bb D8)
    | (go_at_call 53; (with_reducible refine (Hx8.out _ D9.out.rd).mono ?_); rintro e V10 ⟨rfl, r, bb⟩; (have D10 := Lib.hid (D9.out.read r bb)); clear r bb D9)
    | (go_at_call 53; (with_reducible refine (Hx9.out _ D10.out.rd).mono ?_); rintro e V11 ⟨rfl, r, bb⟩; (have D11 := Lib.hid (D10.out.read r bb)); clear r bb D10)
    | ((with_reducible refine wpList_store_at1 (o := ⟨none, _, _, _, _, _⟩) rfl 3 (.tmp 33) (.tmp 24) rfl b tR 4 #[.int .i64 d1, .int .i64 d2, .string st, .int .i64 ix, .int .i64 0, .int .i64 0, .int .i64 0, .int .i64 0, .int .i64 0, .string ⟨#[]⟩, .slice none 0 0, .int .i64 0, .slice none 0 0, .slice none 0 0] (.int .i64 sz) (by kernel_rfl) rfl D11.out.pc (lt14 (by decide)) Tryz.sizeI (by kernel_rfl) ?_); intro V12 hg hb; (have D12 : Hid (DF tR V3 V12 g A n c bs s9 b #[.int .i64 d1, .int .i64 d2, .string st, .int .i64 ix, .int .i64 sz, .int .i64 0, .int .i64 0, .int .i64 0, .int .i64 0, .string ⟨#[]⟩, .slice none 0 0, .int .i64 0, .slice none 0 0, .slice none 0 0]) := D11.out.set hg.out hb.out); clear hg hb D11)
    | ((with_reducible refine wpList_store_at1 (o := ⟨none, _, _, _, _, _⟩) rfl 3 (.tmp 34) (.tmp 26) rfl b tR 5 #[.int .i64 d1, .int .i64 d2, .string st, .int .i64 ix, .int .i64 sz, .int .i64 0, .int .i64 0, .int .i64 0, .int .i64 0, .string ⟨#[]⟩, .slice none 0 0, .int .i64 0, .slice none 0 0, .slice none 0 0] (.int .i64 dy) (by kernel_rfl) rfl D12.out.pc (lt14 (by decide)) Tryz.sizeI (by kernel_rfl) ?_); intro V13 hg hb; (have D13 : Hid (DF tR V3 V13 g A n c bs s9 b #[.int .i64 d1, .int .i64 d2, .string st, .int .i64 ix, .int .i64 sz, .int .i64 dy, .int .i64 0, .int .i64 0, .int .i64 0, .string ⟨#[]⟩, .slice none 0 0, .int .i64 0, .slice none 0 0, .slice none 0 0]) := D12.out.set hg.out hb.out); clear hg hb D12)
    | ((with_reducible refine wpList_store_at1 (o := ⟨none, _, _, _, _, _⟩) rfl 3 (.tmp 35) (.tmp 28) rfl b tR 6 #[.int .i64 d1, .int .i64 d2, .string st, .int .i64 ix, .int .i64 sz, .int .i64 dy, .int .i64 0, .int .i64 0, .int .i64 0, .string ⟨#[]⟩, .slice none 0 0, .int .i64 0, .slice none 0 0, .slice none 0 0] (.int .i64 sr) (by kernel_rfl) rfl D13.out.pc (lt14 (by decide)) Tryz.sizeI (by kernel_rfl) ?_); intro V14 hg hb; (have D14 : Hid (DF tR V3 V14 g A n c bs s9 b #[.int .i64 d1, .int .i64 d2, .string st, .int .i64 ix, .int .i64 sz, .int .i64 dy, .int .i64 sr, .int .i64 0, .int .i64 0, .string ⟨#[]⟩, .slice none 0 0, .int .i64 0, .slice none 0 0, .slice none 0 0]) := D13.out.set hg.out hb.out); clear hg hb D13)
    | ((with_reducible refine wpList_store_at1 (o := ⟨none, _, _, _, _, _⟩) rfl 3 (.tmp 36) (.tmp 30) rfl b tR 7 #[.int .i64 d1, .int .i64 d2, .string st, .int .i64 ix, .int .i64 sz, .int .i64 dy, .int .i64 sr, .int .i64 0, .int .i64 0, .string ⟨#[]⟩, .slice none 0 0, .int .i64 0, .slice none 0 0, .slice none 0 0] (.int .i64 ct) (by kernel_rfl) rfl D14.out.pc (lt14 (by decide)) Tryz.sizeI (by kernel_rfl) ?_); intro V15 hg hb; (have D15 : Hid (DF tR V3 V15 g A n c bs s9 b #[.int .i64 d1, .int .i64 d2, .string st, .int .i64 ix, .int .i64 sz, .int .i64 dy, .int .i64 sr, .int .i64 ct, .int .i64 0, .string ⟨#[]⟩, .slice none 0 0, .int .i64 0, .slice none 0 0, .slice none 0 0]) := D14.out.set hg.out hb.out); clear hg hb D14)
    | ((with_reducible refine wpList_store_at1 (o := ⟨none, _, _, _, _, _⟩) rfl 3 (.tmp 37) (.tmp 32) rfl b tR 8 #[.int .i64 d1, .int .i64 d2, .string st, .int .i64 ix, .int .i64 sz, .int .i64 dy, .int .i64 sr, .int .i64 ct, .int .i64 0, .string ⟨#[]⟩, .slice none 0 0, .int .i64 0, .slice none 0 0, .slice none 0 0] (.int .i64 pl) (by kernel_rfl) rfl D15.out.pc (lt14 (by decide)) Tryz.sizeI (by kernel_rfl) ?_); intro V16 hg hb; (have D16 : Hid (DF tR V3 V16 g A n c bs s9 b #[.int .i64 d1, .int .i64 d2, .string st, .int .i64 ix, .int .i64 sz, .int .i64 dy, .int .i64 sr, .int .i64 ct, .int .i64 pl, .string ⟨#[]⟩, .slice none 0 0, .int .i64 0, .slice none 0 0, .slice none 0 0]) := D15.out.set hg.out hb.out); clear hg hb D15)
    | (go_at_call 56; (with_reducible refine (HxA.out _ D16.out.rd).mono ?_); rintro e V17 ⟨Aa, na, ca, ya, rfl, ho, hy, r, bb⟩; (have D17 := Lib.hid (D16.out.read r bb)); (have HOa : Hid (Own fT 9 V17 (b + 1) (.slice Aa na ca) ya) := World.ownsRow.mono ho (lt_of_block D16.out.pc)); (have HYa := Lib.hid hy); clear ho hy r bb D16)
    | ((with_reducible refine wpList_store_at1 (o := ⟨none, _, _, _, _, _⟩) rfl 25 (.tmp 40) (.tmp 39) rfl b tR 10 #[.int .i64 d1, .int .i64 d2, .string st, .int .i64 ix, .int .i64 sz, .int .i64 dy, .int .i64 sr, .int .i64 ct, .int .i64 pl, .string ⟨#[]⟩, .slice none 0 0, .int .i64 0, .slice none 0 0, .slice none 0 0] (.slice Aa na ca) (by kernel_rfl) rfl D17.out.pc (lt14 (by decide)) Tryz.sizeLs (by kernel_rfl) ?_); intro V18 hg hb; (have D18 : Hid (DF tR V3 V18 g A n c bs sA b #[.int .i64 d1, .int .i64 d2, .string st, .int .i64 ix, .int .i64 sz, .int .i64 dy, .int .i64 sr, .int .i64 ct, .int .i64 pl, .string ⟨#[]⟩, .slice Aa na ca, .int .i64 0, .slice none 0 0, .slice none 0 0]) := D17.out.set hg.out hb.out); (have HOa := Lib.hid (HOa.out.butG hb.out (fun k hk e => by have h1 := (World.ownsRow.lt HOa.out k hk).1; have h2 := HGB.out; (try dsimp only at e); omega))); clear hg hb D17)
    | (go_at_call 52; (with_reducible refine (HxB.out _ D18.out.rd).mono ?_); rintro e V19 ⟨rfl, r, bb⟩; (have D19 := Lib.hid (D18.out.read r bb)); (have HOa := Lib.hid (HOa.out.butG bb (fun k hk e => by have h1 := (World.ownsRow.lt HOa.out k hk).1; have h2 := HGB.out; (try dsimp only at e); omega))); clear r bb D18)
    | (go_at_call 53; (with_reducible refine (HxC.out _ D19.out.rd).mono ?_); rintro e V20 ⟨rfl, r, bb⟩; (have D20 := Lib.hid (D19.out.read r bb)); (have HOa := Lib.hid (HOa.out.butG bb (fun k hk e => by have h1 := (World.ownsRow.lt HOa.out k hk).1; have h2 := HGB.out; (try dsimp only at e); omega))); clear r bb D19)
    | ((with_reducible refine wpList_store_at1 (o := ⟨none, _, _, _, _, _⟩) rfl 9 (.tmp 46) (.tmp 43) rfl b tR 9 #[.int .i64 d1, .int .i64 d2, .string st, .int .i64 ix, .int .i64 sz, .int .i64 dy, .int .i64 sr, .int .i64 ct, .int .i64 pl, .string ⟨#[]⟩, .slice Aa na ca, .int .i64 0, .slice none 0 0, .slice none 0 0] (.string rt) (by kernel_rfl) rfl D20.out.pc (lt14 (by decide)) Tryz.sizeStr (by kernel_rfl) ?_); intro V21 hg hb; (have D21 : Hid (DF tR V3 V21 g A n c bs sC b #[.int .i64 d1, .int .i64 d2, .string st, .int .i64 ix, .int .i64 sz, .int .i64 dy, .int .i64 sr, .int .i64 ct, .int .i64 pl, .string rt, .slice Aa na ca, .int .i64 0, .slice none 0 0, .slice none 0 0]) := D20.out.set hg.out hb.out); (have HOa := Lib.hid (HOa.out.butG hb.out (fun k hk e => by have h1 := (World.ownsRow.lt HOa.out k hk).1; have h2 := HGB.out; (try dsimp only at e); omega))); clear hg hb D20)
    | ((with_reducible refine wpList_store_at1 (o := ⟨none, _, _, _, _, _⟩) rfl 3 (.tmp 48) (.tmp 45) rfl b tR 11 #[.int .i64 d1, .int .i64 d2, .string st, .int .i64 ix, .int .i64 sz, .int .i64 dy, .int .i64 sr, .int .i64 ct, .int .i64 pl, .string rt, .slice Aa na ca, .int .i64 0, .slice none 0 0, .slice none 0 0] (.int .i64 si) (by kernel_rfl) rfl D21.out.pc (lt14 (by decide)) Tryz.sizeI (by kernel_rfl) ?_); intro V22 hg hb; (have D22 : Hid (DF tR V3 V22 g A n c bs sC b #[.int .i64 d1, .int .i64 d2, .string st, .int .i64 ix, .int .i64 sz, .int .i64 dy, .int .i64 sr, .int .i64 ct, .int .i64 pl, .string rt, .slice Aa na ca, .int .i64 si, .slice none 0 0, .slice none 0 0]) := D21.out.set hg.out hb.out); (have HOa := Lib.hid (HOa.out.butG hb.out (fun k hk e => by have h1 := (World.ownsRow.lt HOa.out k hk).1; have h2 := HGB.out; (try dsimp only at e); omega))); clear hg hb D21)
    | (go_at_call 56; (with_reducible refine (HxD.out _ D22.out.rd).mono ?_); rintro e V23 ⟨Ab, nb, cb, yb, rfl, ho, hy, r, bb⟩; (have D23 := Lib.hid (D22.out.read r bb)); (have HOb : Hid (Own fT 9 V23 (b + 1) (.slice Ab nb cb) yb) := World.ownsRow.mono ho (lt_of_block D22.out.pc)); (have HYb := Lib.hid hy); (have HOa := Lib.hid (HOa.out.butG bb (fun k hk e => by have h1 := (World.ownsRow.lt HOa.out k hk).1; have h2 := HGB.out; (try dsimp only at e); omega))); clear ho hy r bb D22)
    | ((with_reducible refine wpList_store_at1 (o := ⟨none, _, _, _, _, _⟩) rfl 25 (.tmp 52) (.tmp 50) rfl b tR 12 #[.int .i64 d1, .int .i64 d2, .string st, .int .i64 ix, .int .i64 sz, .int .i64 dy, .int .i64 sr, .int .i64 ct, .int .i64 pl, .string rt, .slice Aa na ca, .int .i64 si, .slice none 0 0, .slice none 0 0] (.slice Ab nb cb) (by kernel_rfl) rfl D23.out.pc (lt14 (by decide)) Tryz.sizeLs (by kernel_rfl) ?_); intro V24 hg hb; (have D24 : Hid (DF tR V3 V24 g A n c bs sD b #[.int .i64 d1, .int .i64 d2, .string st, .int .i64 ix, .int .i64 sz, .int .i64 dy, .int .i64 sr, .int .i64 ct, .int .i64 pl, .string rt, .slice Aa na ca, .int .i64 si, .slice Ab nb cb, .slice none 0 0]) := D23.out.set hg.out hb.out); (have HOa := Lib.hid (HOa.out.butG hb.out (fun k hk e => by have h1 := (World.ownsRow.lt HOa.out k hk).1; have h2 := HGB.out; (try dsimp only at e); omega))); (have HOb := Lib.hid (HOb.out.butG hb.out (fun k hk e => by have h1 := (World.ownsRow.lt HOb.out k hk).1; have h2 := HGB.out; (try dsimp only at e); omega))); clear hg hb D23)
    | (go_at_call 56; (with_reducible refine (HxE.out _ D24.out.rd).mono ?_); rintro e V25 ⟨Ac, nc, cc, yc, rfl, ho, hy, r, bb⟩; (have D25 := Lib.hid (D24.out.read r bb)); (have HOc : Hid (Own fT 9 V25 (b + 1) (.slice Ac nc cc) yc) := World.ownsRow.mono ho (lt_of_block D24.out.pc)); (have HYc := Lib.hid hy); (have HOa := Lib.hid (HOa.out.butG bb (fun k hk e => by have h1 := (World.ownsRow.lt HOa.out k hk).1; have h2 := HGB.out; (try dsimp only at e); omega))); (have HOb := Lib.hid (HOb.out.butG bb (fun k hk e => by have h1 := (World.ownsRow.lt HOb.out k hk).1; have h2 := HGB.out; (try dsimp only at e); omega))); clear ho hy r bb D24)
    | ((with_reducible refine wpList_store_at1 (o := ⟨none, _, _, _, _, _⟩) rfl 25 (.tmp 56) (.tmp 54) rfl b tR 13 #[.int .i64 d1, .int .i64 d2, .string st, .int .i64 ix, .int .i64 sz, .int .i64 dy, .int .i64 sr, .int .i64 ct, .int .i64 pl, .string rt, .slice Aa na ca, .int .i64 si, .slice Ab nb cb, .slice none 0 0] (.slice Ac nc cc) (by kernel_rfl) rfl D25.out.pc (lt14 (by decide)) Tryz.sizeLs (by kernel_rfl) ?_); intro V26 hg hb; (have D26 : Hid (DF tR V3 V26 g A n c bs sE b #[.int .i64 d1, .int .i64 d2, .string st, .int .i64 ix, .int .i64 sz, .int .i64 dy, .int .i64 sr, .int .i64 ct, .int .i64 pl, .string rt, .slice Aa na ca, .int .i64 si, .slice Ab nb cb, .slice Ac nc cc]) := D25.out.set hg.out hb.out); (have HOa := Lib.hid (HOa.out.butG hb.out (fun k hk e => by have h1 := (World.ownsRow.lt HOa.out k hk).1; have h2 := HGB.out; (try dsimp only at e); omega))); (have HOb := Lib.hid (HOb.out.butG hb.out (fun k hk e => by have h1 := (World.ownsRow.lt HOb.out k hk).1; have h2 := HGB.out; (try dsimp only at e); omega))); (have HOc := Lib.hid (HOc.out.butG hb.out (fun k hk e => by have h1 := (World.ownsRow.lt HOc.out k hk).1; have h2 := HGB.out; (try dsimp only at e); omega))); clear hg hb D25)
    | (go_at_call 54; (with_reducible refine (HEN.out _ D26.out.rd).mono ?_); rintro e VE ⟨rfl, bb⟩; (have DE := Lib.hid (D26.out.keep bb)); (have HOa := Lib.hid (HOa.out.on bb)); (have HOb := Lib.hid (HOb.out.on bb)); (have HOc := Lib.hid (HOc.out.on bb)); clear bb D26))
  obtain ⟨R, hR⟩ : ∃ R : Rcp, R = ⟨d1, d2, st, ix, sz, dy, sr, ct, pl, rt, ⟨Aa, na, ca⟩, si, ⟨Ab, nb, cb⟩, ⟨Ac, nc, cc⟩⟩ := ⟨_, rfl⟩
  have HP : Hid (VE.heap[b]? = some (.cells (cR R) tR (0, 0))) := by show _ = _; rw [hR]; exact DE.out.pc
  have HZE : Hid (VE.heap[w.heap.size]? = some (.cells zR tR (0, 0))) := (DE.out.but.block _ (lt_of_block HZ3.out) (by have := HGE.out; have := HWB.out; omega)).trans HZ3.out
  have HBE : Hid (Below w.heap.size w VE) := HB0.out.trans (DE.out.but.below HB0.out.size (fun i hi => by have := HGE.out; have := HWB.out; rcases hi with rfl | rfl <;> omega))
  have HWB2 : Hid (w.heap.size ≠ b) := by show _ ≠ _; have := HWB.out; omega
  have HRC : Hid (RcO VE (b + 1) R ya yb yc) := by show RcO _ _ _ _ _ _; rw [hR]; exact ⟨HOa.out, HOb.out, HOc.out⟩
  have HVR : Hid (vaB R ps qs rs = vaB ⟨d1, d2, st, ix, sz, dy, sr, ct, pl, rt, ⟨none, 0, 0⟩, si, ⟨none, 0, 0⟩, ⟨none, 0, 0⟩⟩ ps qs rs) := by show _ = _; rw [hR]; rfl
  have HRE : Hid (R = ⟨d1, d2, st, ix, sz, dy, sr, ct, pl, rt, R.pa, si, R.pb, R.pc⟩) := by show _ = _; rw [hR]
  have HSZ : Hid (w.heap.size < VE.heap.size) := lt_of_block HZE.out
  clear hR HOa HOb HOc HZ3 HB0 HB1 HG2 HS1 HWE Hx3 Hx4 Hx5 Hx6 Hx7 Hx8 Hx9 HxA HxB HxC HxD HxE HEN hfs hft
  by_cases her : er = 0
  · obtain ⟨e1, e2, e3⟩ := HEZ.out her
    have h1 : ya = ps := HYa.out e1
    have h2 : yb = qs := HYb.out e2
    have h3 : yc = rs := HYc.out e3
    subst h1; subst h2; subst h3; subst her
    have HOK2 : Hid (okX bs = vaB R ya yb yc) := by show _ = _; rw [HOK.out, HVR.out]; rfl
    have hrl := HRC.out.rcIn
    have HVL : Hid (∀ V, Below VE.heap.size VE V → Calls Tryz.prog 22 #[.agg (cR R)] V fun e w' => e = .returned (.bool (vaB R ya yb yc)) ∧ Below V.heap.size V w') := fun V hb => valid43_any R ya yb yc V.heap.size V ((HRC.out.on hb).rcIn) (Nat.le_refl _) (by have := hrl.1.1; have := HLN.out.1; omega) (by have := hrl.2.1.1; have := HLN.out.2.1; omega) (by have := hrl.2.2.1; have := HLN.out.2.2; omega)
    generalize vaB R ya yb yc = vb at HVL HOK2
    have HBq : Hid (Below VE.heap.size VE VE) := Below.refl _ _
    have HPq := HP
    clear HOK HVR hrl e1 e2 e3 HYa HYb HYc HEZ
    refine wp_region_held_drew (S := (fun w' => w'.heap[b]? = some (.cells (cR R) tR (0, 0)))) (by kernel_rfl) (by first | exact HG7.out.2 | exact (((by repeat (first | exact HBq.out | exact Below.refl _ _ | refine Below.drew ?_ | refine below_dN' ?_ _ | refine below_drewN' ?_ _)) : Below VE.heap.size VE _).block b (lt_of_block HP.out)).trans HP.out) (fun hHeld => ?_)
    refine wpAnyH_take (i := 0) (v := _) (by simp only [List.getElem?_toArray, List.getElem?_cons_zero]; rfl) (by kernel_rfl) (by kernel_rfl) (by kernel_rfl) (by exact fun _ _ _ h => h) (yieldsIf_load_mid (by rfl) tR (.tmp 5) rfl b 0 (by rfl) (cR R).toList _ (fun _ h => rangeR h) Tryz.underlying35 rfl (sizeRL R)) (by assumption) ?_
    try simp only [Act.put, List.setIfInBounds_toArray, List.set_cons_zero, List.set_cons_succ]
    refine wpAnyH_take (i := 1) (v := ?f1v) (by simp only [List.getElem?_toArray, List.getElem?_cons_succ, List.getElem?_cons_zero]; rfl) (by kernel_rfl) (by kernel_rfl) (by kernel_rfl) (by exact fun _ _ _ h => h) (Or.inl ⟨by rfl, ?f1y⟩) (by assumption) ?f1r
    case f1y => (intro w hSw; (try dsimp only at hSw); go_simp; try (with_reducible rfl))
    try simp only [Act.put, List.setIfInBounds_toArray, List.set_cons_zero, List.set_cons_succ]
    refine wpAnyH_take (i := 2) (v := ?f2v) (by simp only [List.getElem?_toArray, List.getElem?_cons_succ, List.getElem?_cons_zero]; rfl) (by kernel_rfl) (by kernel_rfl) (by kernel_rfl) (by exact fun _ _ _ h => h) (Or.inl ⟨by rfl, ?f2y⟩) (by assumption) ?f2r
    case f2y => (intro w hSw; (try dsimp only at hSw); go_simp; try (with_reducible rfl))
    try simp only [Act.put, List.setIfInBounds_toArray, List.set_cons_zero, List.set_cons_succ]
    refine wpAnyH_take (i := 3) (v := ?f3v) (by simp only [List.getElem?_toArray, List.getElem?_cons_succ, List.getElem?_cons_zero]; rfl) (by kernel_rfl) (by kernel_rfl) (by kernel_rfl) (by exact fun _ _ _ h => h) (Or.inl ⟨by rfl, ?f3y⟩) (by assumption) ?f3r
    case f3y => (intro w hSw; (try dsimp only at hSw); go_simp; try (with_reducible rfl))
    try simp only [Act.put, List.setIfInBounds_toArray, List.set_cons_zero, List.set_cons_succ]
    refine wpAnyH_take (i := 4) (v := _) (by simp only [List.getElem?_toArray, List.getElem?_cons_succ, List.getElem?_cons_zero]; rfl) (by kernel_rfl) (by kernel_rfl) (by kernel_rfl) (by exact fun _ _ _ h => h) (yieldsIf_load_mid (by rfl) tR (.tmp 5) rfl b 0 (by rfl) (cR R).toList _ (fun _ h => rangeR h) Tryz.underlying35 rfl (sizeRL R)) (by assumption) ?_
    try simp only [Act.put, List.setIfInBounds_toArray, List.set_cons_zero, List.set_cons_succ]
    refine wpAnyH_ready (rs := [5]) (by kernel_rfl) (by simp) ?_
    refine AllReadyH.cons (by simp only [List.getElem?_toArray, List.getElem?_cons_succ, List.getElem?_cons_zero]; rfl) (fun K hK => ?_) (AllReadyH.nil)
    (go_simp; go_at_call 22; (refine (HVL.out _ (by repeat (first | exact HBq.out | exact Below.refl _ _ | refine Below.drew ?_ | refine below_dN' ?_ _ | refine below_drewN' ?_ _))).mono ?_); rintro e W6 ⟨rfl, b6⟩; (have HBr : Hid (Below VE.heap.size VE W6) := Below.trans (by repeat (first | exact HBq.out | exact Below.refl _ _ | refine Below.drew ?_ | refine below_dN' ?_ _ | refine below_drewN' ?_ _)) (b6.mono (by first | exact Nat.le_refl _ | (simp <;> omega)))); clear b6 HBq; have HBq := HBr; clear HBr; go_wp2_with fail)
    refine hK.out _ _ (by first | exact HG7.out.2 | exact (((by repeat (first | exact HBq.out | exact Below.refl _ _ | refine Below.drew ?_ | refine below_dN' ?_ _ | refine below_drewN' ?_ _)) : Below VE.heap.size VE _).block b (lt_of_block HP.out)).trans HP.out) (fun hHeldf5 => ?_)
    clear hK K hHeld
    try simp only [Act.put, List.setIfInBounds_toArray, List.set_cons_zero, List.set_cons_succ]
    refine wpAnyH_take (i := 6) (v := ?f6v) (by simp only [List.getElem?_toArray, List.getElem?_cons_succ, List.getElem?_cons_zero]; rfl) (by kernel_rfl) (by kernel_rfl) (by kernel_rfl) (by exact fun _ _ _ h => h) (Or.inl ⟨by rfl, ?f6y⟩) (by assumption) ?f6r
    case f6y => (intro w hSw; (try dsimp only at hSw); go_simp; try (with_reducible rfl))
    try simp only [Act.put, List.setIfInBounds_toArray, List.set_cons_zero, List.set_cons_succ]
    refine wpAnyH_ready (rs := [7]) (by kernel_rfl) (by simp) ?_
    refine AllReadyH.cons (by simp only [List.getElem?_toArray, List.getElem?_cons_succ, List.getElem?_cons_zero]; rfl) (fun K hK => ?_) (AllReadyH.nil)
    (refine step_store_but rfl tR (.tmp 2) (.tmp 62) rfl w.heap.size tR zR (cR R) (by kernel_rfl) (by kernel_rfl) (((by repeat (first | exact HBq.out | exact Below.refl _ _ | refine Below.drew ?_ | refine below_dN' ?_ _ | refine below_drewN' ?_ _)) : Below VE.heap.size VE _).block _ HSZ.out |>.trans HZE.out) (cR_size R) rfl (cR_one R) ?_); intro W7 hg7 HB7; (have HG7 : Hid (W7.heap[w.heap.size]? = some (.cells (cR R) tR (0, 0)) ∧ W7.heap[b]? = some (.cells (cR R) tR (0, 0))) := ⟨hg7.out, (HB7.out.block b (by have h1 := ((by repeat (first | exact HBq.out | exact Below.refl _ _ | refine Below.drew ?_ | refine below_dN' ?_ _ | refine below_drewN' ?_ _)) : Below VE.heap.size VE _).size; have h2 := lt_of_block HP.out; exact Nat.lt_of_lt_of_le h2 h1) (fun e => HWB2.out e.symm)).trans ((((by repeat (first | exact HBq.out | exact Below.refl _ _ | refine Below.drew ?_ | refine below_dN' ?_ _ | refine below_drewN' ?_ _)) : Below VE.heap.size VE _).block b (lt_of_block HP.out)).trans HP.out)⟩); (have HBf : Hid (But (fun k => k = w.heap.size) VE W7) := (But.of_below (p := fun k => k = w.heap.size) ((by repeat (first | exact HBq.out | exact Below.refl _ _ | refine Below.drew ?_ | refine below_dN' ?_ _ | refine below_drewN' ?_ _)) : Below VE.heap.size VE _)).trans HB7.out (fun i hi => .inl hi)); clear hg7
    refine hK.out _ _ (by first | exact HG7.out.2 | exact (((by repeat (first | exact HBq.out | exact Below.refl _ _ | refine Below.drew ?_ | refine below_dN' ?_ _ | refine below_drewN' ?_ _)) : Below VE.heap.size VE _).block b (lt_of_block HP.out)).trans HP.out) (fun hHeldf7 => ?_)
    clear hK K hHeldf5
    try simp only [Act.put, List.setIfInBounds_toArray, List.set_cons_zero, List.set_cons_succ]
    refine wpAnyH_take (i := 8) (v := ?f8v) (by simp only [List.getElem?_toArray, List.getElem?_cons_succ, List.getElem?_cons_zero]; rfl) (by kernel_rfl) (by kernel_rfl) (by kernel_rfl) (by exact fun _ _ _ h => h) (Or.inl ⟨by rfl, ?f8y⟩) (by assumption) ?f8r
    case f8y => (intro w hSw; (try dsimp only at hSw); go_simp; try (with_reducible rfl))
    try simp only [Act.put, List.setIfInBounds_toArray, List.set_cons_zero, List.set_cons_succ]
    refine wpAnyH_done (by kernel_rfl) ?_ _
    go_wp2_with fail
    have hb7 : Below w.heap.size w W7 := HBE.out.trans (HBf.out.below HBE.out.size (fun i hi => by subst hi; exact Nat.le_refl _))
    refine bodyPost_ret (results_ct rfl _ _ _ _ _ _ _ rfl HG7.out.1 Tryz.underlying35 rfl (cR_size R)) rfl ⟨R, by rw [HOK2.out]; first | rfl | (simp; done), hb7, fun _ => ⟨HRE.out, (HRC.out.but HBf.out (fun k hk hl e => by have := HWB.out; omega)).low (by have := HWB.out; omega)⟩⟩
  · have herb : (er == 0) = false := by simp [her]
    have HOK2 : Hid (okX bs = false) := by show _ = _; rw [HOK.out]; simp [her]
    have HBq : Hid (Below VE.heap.size VE VE) := Below.refl _ _
    clear HOK HVR HYa HYb HYc HEZ her
    refine wp_region_held_drew (S := (fun w' => w'.heap[b]? = some (.cells (cR R) tR (0, 0)))) (by kernel_rfl) (by first | exact HG7.out.2 | exact (((by repeat (first | exact HBq.out | exact Below.refl _ _ | refine Below.drew ?_ | refine below_dN' ?_ _ | refine below_drewN' ?_ _)) : Below VE.heap.size VE _).block b (lt_of_block HP.out)).trans HP.out) (fun hHeld => ?_)
    refine wpAnyH_take (i := 0) (v := _) (by simp only [List.getElem?_toArray, List.getElem?_cons_zero]; rfl) (by kernel_rfl) (by kernel_rfl) (by kernel_rfl) (by exact fun _ _ _ h => h) (yieldsIf_load_mid (by rfl) tR (.tmp 5) rfl b 0 (by rfl) (cR R).toList _ (fun _ h => rangeR h) Tryz.underlying35 rfl (sizeRL R)) (by assumption) ?_
    try simp only [Act.put, List.setIfInBounds_toArray, List.set_cons_zero, List.set_cons_succ]
    refine wpAnyH_take (i := 1) (v := ?h1v) (by simp only [List.getElem?_toArray, List.getElem?_cons_succ, List.getElem?_cons_zero]; rfl) (by kernel_rfl) (by kernel_rfl) (by kernel_rfl) (by exact fun _ _ _ h => h) (Or.inl ⟨by rfl, ?h1y⟩) (by assumption) ?h1r
    case h1y => (intro w hSw; (try dsimp only at hSw); go_simp; try (with_reducible rfl))
    try simp only [Act.put, List.setIfInBounds_toArray, List.set_cons_zero, List.set_cons_succ]
    refine wpAnyH_take (i := 2) (v := ?h2v) (by simp only [List.getElem?_toArray, List.getElem?_cons_succ, List.getElem?_cons_zero]; rfl) (by kernel_rfl) (by kernel_rfl) (by kernel_rfl) (by exact fun _ _ _ h => h) (Or.inl ⟨by rfl, ?h2y⟩) (by assumption) ?h2r
    case h2y => (intro w hSw; (try dsimp only at hSw); go_simp; try (with_reducible rfl))
    try simp only [Act.put, List.setIfInBounds_toArray, List.set_cons_zero, List.set_cons_succ]
    refine wpAnyH_take (i := 3) (v := ?h3v) (by simp only [List.getElem?_toArray, List.getElem?_cons_succ, List.getElem?_cons_zero]; rfl) (by kernel_rfl) (by kernel_rfl) (by kernel_rfl) (by exact fun _ _ _ h => h) (Or.inl ⟨by rfl, ?h3y⟩) (by assumption) ?h3r
    case h3y => (intro w hSw; (try dsimp only at hSw); go_simp; try (with_reducible rfl))
    try simp only [Act.put, List.setIfInBounds_toArray, List.set_cons_zero, List.set_cons_succ]
    refine wpAnyH_take (i := 4) (v := _) (by simp only [List.getElem?_toArray, List.getElem?_cons_succ, List.getElem?_cons_zero]; rfl) (by kernel_rfl) (by kernel_rfl) (by kernel_rfl) (by exact fun _ _ _ h => h) (Or.inr ⟨by rfl, rfl⟩) (by assumption) ?_
    try simp only [Act.put, List.setIfInBounds_toArray, List.set_cons_zero, List.set_cons_succ]
    refine wpAnyH_take (i := 5) (v := _) (by simp only [List.getElem?_toArray, List.getElem?_cons_succ, List.getElem?_cons_zero]; rfl) (by kernel_rfl) (by kernel_rfl) (by kernel_rfl) (by exact fun _ _ _ h => h) (Or.inr ⟨by rfl, rfl⟩) (by assumption) ?_
    try simp only [Act.put, List.setIfInBounds_toArray, List.set_cons_zero, List.set_cons_succ]
    refine wpAnyH_take (i := 6) (v := ?h6v) (by simp only [List.getElem?_toArray, List.getElem?_cons_succ, List.getElem?_cons_zero]; rfl) (by kernel_rfl) (by kernel_rfl) (by kernel_rfl) (by exact fun _ _ _ h => h) (Or.inl ⟨by rfl, ?h6y⟩) (by assumption) ?h6r
    case h6y => (intro w hSw; (try dsimp only at hSw); go_simp; try (with_reducible rfl))
    try simp only [Act.put, List.setIfInBounds_toArray, List.set_cons_zero, List.set_cons_succ]
    refine wpAnyH_ready (rs := [7]) (by kernel_rfl) (by simp) ?_
    refine AllReadyH.cons (by simp only [List.getElem?_toArray, List.getElem?_cons_succ, List.getElem?_cons_zero]; rfl) (fun K hK => ?_) (AllReadyH.nil)
    (refine step_store_but rfl tR (.tmp 2) (.tmp 62) rfl w.heap.size tR zR (cR R) (by kernel_rfl) (by kernel_rfl) (((by repeat (first | exact HBq.out | exact Below.refl _ _ | refine Below.drew ?_ | refine below_dN' ?_ _ | refine below_drewN' ?_ _)) : Below VE.heap.size VE _).block _ HSZ.out |>.trans HZE.out) (cR_size R) rfl (cR_one R) ?_); intro W7 hg7 HB7; (have HG7 : Hid (W7.heap[w.heap.size]? = some (.cells (cR R) tR (0, 0)) ∧ W7.heap[b]? = some (.cells (cR R) tR (0, 0))) := ⟨hg7.out, (HB7.out.block b (by have h1 := ((by repeat (first | exact HBq.out | exact Below.refl _ _ | refine Below.drew ?_ | refine below_dN' ?_ _ | refine below_drewN' ?_ _)) : Below VE.heap.size VE _).size; have h2 := lt_of_block HP.out; exact Nat.lt_of_lt_of_le h2 h1) (fun e => HWB2.out e.symm)).trans ((((by repeat (first | exact HBq.out | exact Below.refl _ _ | refine Below.drew ?_ | refine below_dN' ?_ _ | refine below_drewN' ?_ _)) : Below VE.heap.size VE _).block b (lt_of_block HP.out)).trans HP.out)⟩); (have HBf : Hid (But (fun k => k = w.heap.size) VE W7) := (But.of_below (p := fun k => k = w.heap.size) ((by repeat (first | exact HBq.out | exact Below.refl _ _ | refine Below.drew ?_ | refine below_dN' ?_ _ | refine below_drewN' ?_ _)) : Below VE.heap.size VE _)).trans HB7.out (fun i hi => .inl hi)); clear hg7
    refine hK.out _ _ (by first | exact HG7.out.2 | exact (((by repeat (first | exact HBq.out | exact Below.refl _ _ | refine Below.drew ?_ | refine below_dN' ?_ _ | refine below_drewN' ?_ _)) : Below VE.heap.size VE _).block b (lt_of_block HP.out)).trans HP.out) (fun hHeldh7 => ?_)
    clear hK K hHeld
    try simp only [Act.put, List.setIfInBounds_toArray, List.set_cons_zero, List.set_cons_succ]
    refine wpAnyH_take (i := 8) (v := ?h8v) (by simp only [List.getElem?_toArray, List.getElem?_cons_succ, List.getElem?_cons_zero]; rfl) (by kernel_rfl) (by kernel_rfl) (by kernel_rfl) (by exact fun _ _ _ h => h) (Or.inl ⟨by rfl, ?h8y⟩) (by assumption) ?h8r
    case h8y => (intro w hSw; (try dsimp only at hSw); go_simp; try (with_reducible rfl))
    try simp only [Act.put, List.setIfInBounds_toArray, List.set_cons_zero, List.set_cons_succ]
    refine wpAnyH_done (by kernel_rfl) ?_ _
    go_wp2_with fail
    have hb7 : Below w.heap.size w W7 := HBE.out.trans (HBf.out.below HBE.out.size (fun i hi => by subst hi; exact Nat.le_refl _))
    refine bodyPost_ret (results_ct rfl _ _ _ _ _ _ _ rfl HG7.out.1 Tryz.underlying35 rfl (cR_size R)) rfl ⟨R, by rw [HOK2.out]; first | rfl | (simp; done), hb7, fun h => by rw [HOK2.out] at h; cases h⟩
end Go.Proofs.YtnfkjnmdfijhnaaGreatDoor
