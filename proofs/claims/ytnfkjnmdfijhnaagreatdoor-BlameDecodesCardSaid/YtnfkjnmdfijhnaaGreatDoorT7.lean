/- The reference's DecodeAccusation, for any body. -/
import Derived.Test.YtnfkjnmdfijhnaaGreatDoorT6
import Derived.Test.YtnfkjnmdfijhnaaGreatDoorS4
import Derived.Test.YtnfkjnmdfijhnaaGreatDoorSc
import Derived.Laws.IdiomStrings
namespace Go.Proofs.YtnfkjnmdfijhnaaGreatDoor
open Go.RowKit Go.Lib
set_option linter.unusedVariables false
set_option linter.unusedSimpArgs false

theorem sl_bytesRow {w : World} {b : Nat} {t : TypeId} {fr : Nat × Nat} {s : ByteArray} {cap B : Nat} (h : w.heap[b]? = some (.cells (bytesRow s cap) t fr)) (hb : b < B) : Sl fB w B (some ⟨b, 0, none⟩) s.size (sB s) :=
  ⟨sB_len s, fun _ => ⟨b, 0, rfl, hb, fun k x hx => by
    rw [Nat.zero_add, cell_of_row w b k _ _ _ h]
    unfold sB at hx
    rw [List.getElem?_map, Array.getElem?_toList] at hx
    have hk : k < s.data.size := by
      rcases Nat.lt_or_ge k s.data.size with c | c
      · exact c
      · rw [Array.getElem?_eq_none c] at hx; cases hx
    rw [Array.getElem?_eq_getElem hk] at hx
    cases hx
    exact bytesRow_at s cap k hk⟩⟩
/-- A string as bytes of its own. -/
theorem wpList_conv_sb {w : World} {ops : Array Oper} {rest : List Oper} {o : Oper} {a : Act} {Q : Exit → Act → World → Prop} (hgd : o.guard = none) (x : Operand) (ho : o.op = .convert 9 24 x) (s : ByteArray) (hx : a.eval x = .string s)
    (h : ∀ A c W, Hid (Sl fB W W.heap.size A s.size (sB s)) → Hid (s.size ≤ c) → Hid (Below w.heap.size w W) → wpList Tryz.prog ops Q rest (a.put o.dst (.slice A s.size c)) W) : wpList Tryz.prog ops Q (o :: rest) a w := by
  refine wpList_plain hgd fun _ hK => ?_
  unfold Oper.wp execOp
  simp only [ho, hx, Sem.run_bind, run_bytes_of_string (P := Tryz.prog) w 9 24 5 s Tryz.underlying9 Tryz.underlying24 Tryz.underlying5, Result.andThen_ok]
  refine hK _ _ (h _ _ _ (sl_bytesRow (heap_alloc_new w.drew _) (by simp)) (grownCap_ge w s.size 0 _) ?_)
  exact (Below.drew (Below.refl _ _)).alloc (Nat.le_refl _) _
def setAll : Array Value → Nat → List Value → Array Value
  | cs, _, [] => cs
  | cs, k, v :: vs => setAll (cs.setIfInBounds k v) (k + 1) vs
theorem heap_setCells (g : Nat) (t : TypeId) : ∀ (vs : List Value) (o : Nat) (w : World) (old : Array Value), w.heap[g]? = some (.cells old t (0, 0)) → (w.setCells g o vs).heap[g]? = some (.cells (setAll old o vs) t (0, 0)) ∧ But (fun k => k = g) w (w.setCells g o vs)
  | [], _, w, old, hg => ⟨hg, But.refl _ _⟩
  | v :: vs, o, w, old, hg => by
    have h1 := heap_setCell_same w g o _ _ v hg
    have hb1 : But (fun k => k = g) w (w.setCell ⟨g, o, none⟩ v) := But.setCell (p := fun k => k = g) (x := ⟨g, o, none⟩) (But.refl _ _) (.inl rfl) _
    have h2 := heap_setCells g t vs (o + 1) (w.setCell ⟨g, o, none⟩ v) _ h1
    exact ⟨h2.1, hb1.trans h2.2 (fun i hi => .inl hi)⟩
/-- A struct goes into the middle of a row. -/
theorem wpList_store_atN {P : Program} {w : World} {ops : Array Oper} {rest : List Oper} {o : Oper} {a : Act} {Q : Exit → Act → World → Prop} (hgd : o.guard = none) (ty : TypeId) (x y : Operand) (ho : o.op = .store ty x y)
    (b : Nat) (t : TypeId) (k : Nat) (cs vs : Array Value) (hx : a.eval x = .pointer (some ⟨b, k, none⟩)) (hy : a.eval y = .agg vs) (hg : w.heap[b]? = some (.cells cs t (0, 0))) (hk : k + vs.size ≤ cs.size) (hi : (P.info? ty).map (·.size) = some vs.size)
    (h1 : vs.all (·.oneCell') = true)
    (h : ∀ w', Hid (w'.heap[b]? = some (.cells (setAll cs k vs.toList) t (0, 0))) → Hid (But (fun k => k = b) w w') → wpList P ops Q rest (a.put o.dst undef) w') : wpList P ops Q (o :: rest) a w := by
  refine wpList_store_mid hgd ty x y ho b k vs hx hy ?_ hi h1 ?_
  · intro j hj
    refine ⟨?_, frozen_of_row w b _ _ _ hg⟩
    rw [cell_of_row w b _ _ _ _ hg, Array.getElem?_eq_getElem (by omega)]; rfl
  · have e := heap_setCells b t vs.toList k w cs hg
    exact h _ e.1 e.2
theorem Tryz.sizeRA : (Tryz.prog.info? 51).map (·.size) = some 20 := by kernel_rfl
theorem cA_sizeR (d q : Int) (r : Rcp) (st : ByteArray) (ix : Int) (no an : ByteArray) : (Tryz.prog.info? 51).map (·.size) = some (cA d q r st ix no an).size := Tryz.sizeRA
theorem zA_sizeR : (Tryz.prog.info? 51).map (·.size) = some zA.size := Tryz.sizeRA
theorem sizeALR (d q : Int) (R : Rcp) (st : ByteArray) (ix : Int) (no an : ByteArray) : (Tryz.prog.info? 51).map (·.size) = some (cA d q R st ix no an).toList.length := Tryz.sizeRA
theorem Tryz.sizeTk : (Tryz.prog.info? 37).map (·.size) = some 4 := by kernel_rfl
theorem sizeTkL (st : ByteArray) (ix : Int) (no an : ByteArray) : (Tryz.prog.info? 37).map (·.size) = some ([.string st, .int .i64 ix, .string no, .string an] : List Value).length := Tryz.sizeTk
theorem cA_lt {d q : Int} {r : Rcp} {st : ByteArray} {ix : Int} {no an : ByteArray} {k : Nat} (h : k < 20) : k < (cA d q r st ix no an).size := h
theorem cA_rc {d q : Int} {r r' : Rcp} {st : ByteArray} {ix : Int} {no an : ByteArray} : 2 + (cR r').size ≤ (cA d q r st ix no an).size := by show 2 + 14 ≤ 20; decide
theorem rangeTk {w : World} {b : Nat} {t : TypeId} {d q : Int} {R : Rcp} {st : ByteArray} {ix : Int} {no an : ByteArray} (h : w.heap[b]? = some (.cells (cA d q R st ix no an) t (0, 0))) : w.rangeAt b 16 [.string st, .int .i64 ix, .string no, .string an] := fun j v hv => by
  rw [cell_of_row w b _ _ _ _ h]
  rcases j with _ | _ | _ | _ | j
  · exact hv
  · exact hv
  · exact hv
  · exact hv
  · cases hv
set_option maxRecDepth 100000 in
theorem setAll_cA (d q : Int) (R : Rcp) (st : ByteArray) (ix : Int) (no an : ByteArray) : setAll (cA d q zRcp st ix no an) 2 (cR R).toList = cA d q R st ix no an := by kernel_rfl
theorem wpList_load_mid_w {P : Program} {ops : Array Oper} {rest : List Oper} {op : Oper} {a : Act} {w : World} {Q : Exit → Act → World → Prop} (hw : Region.wanted op (yielded ops a.tmps) = true) (ty : TypeId) (x : Operand) (ho : op.op = .load ty x)
    (b o : Nat) (hx : a.eval x = .pointer (some ⟨b, o, none⟩)) (cs : List Value) (d : TypeDesc) (hc : w.rangeAt b o cs)
    (hu : P.underlying ty = some d) (hd : d.isRow = true) (hi : (P.info? ty).map (·.size) = some cs.length)
    (h : wpList P ops Q rest (a.put op.dst (.agg cs.toArray)) w) : wpList P ops Q (op :: rest) a w :=
  BigFrame.wpList_want hw fun _ hK => wp_load_mid ty x ho b o hx cs d hc hu hd hi (hK _ _ h)
def acP22 : Array (Nat × Operand) := #[(0, .tmp 19), (1, .tmp 21)]
set_option maxRecDepth 100000 in
theorem acB22 (a : Act) (d q : Int) (h0 : a.eval (.tmp 19) = .int .i64 d) (h1 : a.eval (.tmp 21) = .int .i64 q) : Tryz.prog.built 51 (acP22.map fun (i, x) => (i, a.eval x)).toList = some (cA d q zRcp ⟨#[]⟩ 0 ⟨#[]⟩ ⟨#[]⟩) := by
  rw [Array.toList_map]
  show Tryz.prog.built 51 [(0, a.eval (.tmp 19)), (1, a.eval (.tmp 21))] = _
  rw [h0, h1]
  kernel_rfl
set_option maxRecDepth 100000 in
set_option maxHeartbeats 4000000 in
theorem racc_no (dv sq k dy : Int) (pr : ByteArray) (A : Option Addr) (n c : Nat) (w : World) (hk : k ≠ 6) :
    Calls Tryz.prog 14 #[.agg #[.int .i64 dv, .int .i64 sq, .int .i64 k, .int .i64 dy, .slice A n c, .string pr]] w fun e w' => e = .returned (.tuple #[.agg zA, .int .i64 1]) ∧ Below w.heap.size w w' := by
  have hkb : (k != 6) = true := by simp [hk]
  obtain ⟨W1, hW1⟩ : ∃ W1 : World, W1 = (w.alloc (.cells #[.int .i64 dv, .int .i64 sq, .int .i64 k, .int .i64 dy, .slice A n c, .string pr] 45)).alloc (.cells zA 51) := ⟨_, rfl⟩
  have HB1 : Hid (Below w.heap.size w W1) := by show Below _ _ _; rw [hW1]; exact ((Below.refl _ _).alloc (Nat.le_refl _) _).alloc (by simp) _
  have HG3 : Hid (W1.heap[w.heap.size + 1]? = some (.cells zA 51 (0, 0))) := by
    show _ = _
    rw [hW1]
    have := heap_alloc_new (w.alloc (.cells #[.int .i64 dv, .int .i64 sq, .int .i64 k, .int .i64 dy, .slice A n c, .string pr] 45)) (.cells zA 51)
    simpa using this
  have HWE := Lib.hid hW1
  clear hW1
  go_enter Tryz.func14, Tryz.ntmps14
  go_wp2_with (first
    | ((with_reducible refine wpList_store_but (o := ⟨none, _, _, _, _, _⟩) rfl 51 (.tmp 2) (.tmp 13) rfl (w.heap.size + 1) 51 _ _ rfl rfl (by rw [← HWE.out]; exact HG3.out) zA_sizeR rfl zA_one ?_); intro W7 HG7 HB7))
  rw [← HWE.out] at HB7
  refine bodyPost_ret (results_ct rfl _ _ _ _ _ _ _ rfl HG7.out Tryz.underlying51 rfl zA_sizeR) rfl ⟨rfl, HB1.out.trans (HB7.out.below HB1.out.size (fun i hi => by subst hi; omega))⟩
def ry1 (bs : List Int) : ByteArray × RS := rT bs 65536 (0, 0)
def ry2 (bs : List Int) : ByteArray × RS := rS bs (ry1 bs).2
def ry3 (bs : List Int) : Int × RS := rI2 bs (ry2 bs).2
def ry4 (bs : List Int) : ByteArray × RS := rS bs (ry3 bs).2
def ry5 (bs : List Int) : ByteArray × RS := rS bs (ry4 bs).2
def okY (bs : List Int) : Bool := decide (rEnd bs (ry5 bs).2 = 0) && (okX (sB (ry1 bs).1) && tkB (ry2 bs).1 (ry3 bs).1 (ry4 bs).1 (ry5 bs).1)
/-- What the reference's DecodeAccusation hands back. -/
def RAPost (d q : Int) (bs : List Int) (w : World) (e : Ending) (w' : World) : Prop :=
  (((okY bs && numB d q) = true) ∧ ∃ R : Rcp, e = .returned (.tuple #[.agg (cA d q R (ry2 bs).1 (ry3 bs).1 (ry4 bs).1 (ry5 bs).1), .int .i64 0]) ∧ R = rxV (sB (ry1 bs).1) R.pa R.pb R.pc ∧ RcO w' w.heap.size R (rxA (sB (ry1 bs).1)).1 (rxD (sB (ry1 bs).1)).1 (rxE (sB (ry1 bs).1)).1 ∧ Below w.heap.size w w')
  ∨ ((okY bs && numB d q) = false ∧ e = .returned (.tuple #[.agg zA, .int .i64 3]) ∧ Below w.heap.size w w')
theorem rT_len {bs : List Int} {m : Nat} {s : RS} (hb : ∀ b ∈ bs, 0 ≤ b ∧ b < 256) : (rT bs m s).1.size ≤ bs.length := by
  have htk : ∀ k p, (tkF bs k p).1.size ≤ bs.length := fun k p => by
    rw [tkF_eq]
    split
    · show 0 ≤ _; omega
    · have h1 := sB_len (baOf ((bs.drop p).take k))
      rw [baOf_sB (fun b hx => hb b (List.mem_of_mem_drop (List.mem_of_mem_take hx)))] at h1
      rw [List.length_take, List.length_drop] at h1
      show (baOf ((bs.drop p).take k)).size ≤ _
      omega
  unfold rT rV
  split
  · split
    · rw [blkF_eq]
      split
      · exact htk _ _
      · show 0 ≤ _; omega
    · show 0 ≤ _; omega
  · show 0 ≤ _; omega
set_option maxRecDepth 100000 in
set_option maxHeartbeats 16000000 in
theorem racc_any (dv sq dy : Int) (pr : ByteArray) (A : Option Addr) (n c B : Nat) (bs : List Int) (w : World) (hx : Sl fB w B A n bs) (hB : B ≤ w.heap.size) (hk : RK bs n c) :
    Calls Tryz.prog 14 #[.agg #[.int .i64 dv, .int .i64 sq, .int .i64 6, .int .i64 dy, .slice A n c, .string pr]] w (RAPost dv sq bs w) := by
  have hl : bs.length = n := hx.1
  have hp0 : (0, (0 : Int)).1 ≤ n := Nat.zero_le _
  have hp1 : (ry1 bs).2.1 ≤ n := rT_le hl hp0
  have hp2 : (ry2 bs).2.1 ≤ n := rS_le hl hp1
  have hp3 : (ry3 bs).2.1 ≤ n := rI2_le hl hp2
  have hp4 : (ry4 bs).2.1 ≤ n := rS_le hl hp3
  have hp5 : (ry5 bs).2.1 ≤ n := rS_le hl hp4
  obtain ⟨W1, hW1⟩ : ∃ W1 : World, W1 = (w.alloc (.cells #[.int .i64 dv, .int .i64 sq, .int .i64 6, .int .i64 dy, .slice A n c, .string pr] 45)).alloc (.cells zA 51) := ⟨_, rfl⟩
  have hb1 : Below w.heap.size w W1 := by rw [hW1]; exact ((Below.refl _ _).alloc (Nat.le_refl _) _).alloc (by simp) _
  have hs1 : W1.heap.size = w.heap.size + 1 + 1 := by rw [hW1]; simp
  have hge : W1.heap[w.heap.size]? = some (.cells #[.int .i64 dv, .int .i64 sq, .int .i64 6, .int .i64 dy, .slice A n c, .string pr] 45 (0, 0)) := by rw [hW1, Below.heap_alloc _ _ _ (by simp)]; exact heap_alloc_new w _
  have hgz : W1.heap[w.heap.size + 1]? = some (.cells zA 51 (0, 0)) := by
    rw [hW1]
    have := heap_alloc_new (w.alloc (.cells #[.int .i64 dv, .int .i64 sq, .int .i64 6, .int .i64 dy, .slice A n c, .string pr] 45)) (.cells zA 51)
    simpa using this
  obtain ⟨W2, hW2⟩ : ∃ W2 : World, W2 = W1.alloc (.cells #[.slice A n c, .int .i64 0, .int .i64 0, .int .i64 0] 101) := ⟨_, rfl⟩
  have h12 : Below W1.heap.size W1 W2 := by rw [hW2]; exact (Below.refl _ _).alloc (Nat.le_refl _) _
  have hb2 : Below w.heap.size w W2 := hb1.trans (h12.mono hb1.size)
  have hs2 : W2.heap.size = w.heap.size + 1 + 1 + 1 := by rw [hW2]; simp [hs1]
  obtain ⟨g, hgW⟩ : ∃ g, g = W1.heap.size := ⟨_, rfl⟩
  have hgE : g = w.heap.size + 1 + 1 := hgW.trans hs1
  have hgg : W2.heap[g]? = some (.cells #[.slice A n c, .int .i64 0, .int .i64 0, .int .i64 0] 101 (0, 0)) := by rw [hW2, hgW]; exact heap_alloc_new W1 _
  have hr0 : RfS g A n c bs (0, 0) W2 := ⟨⟨0, hgg⟩, (hx.up hb2 hB).more' (by omega)⟩
  have HA : Hid (∀ a, A = some a → 0 < n → a.block < w.heap.size) := fun a ha h0 => by
    obtain ⟨b, off, e, hlt, _⟩ := hx.2 (by omega)
    rw [ha] at e
    cases e
    exact Nat.lt_of_lt_of_le hlt hB
  have k4 : W1.cell? ⟨w.heap.size, 4, none⟩ = some (.slice A n c) := by rw [cell_of_row W1 _ _ _ _ _ hge]; rfl
  have k2 : W1.cell? ⟨w.heap.size, 2, none⟩ = some (.int .i64 6) := by rw [cell_of_row W1 _ _ _ _ _ hge]; rfl
  have hE2 := (h12.block _ (lt_of_block hge)).trans hge
  have HK2 : Hid (W2.cell? ⟨w.heap.size, 0, none⟩ = some (.int .i64 dv) ∧ W2.cell? ⟨w.heap.size, 1, none⟩ = some (.int .i64 sq)) := ⟨by rw [cell_of_row W2 _ _ _ _ _ hE2]; rfl, by rw [cell_of_row W2 _ _ _ _ _ hE2]; rfl⟩
  have HGZ2 : Hid (W2.heap[w.heap.size + 1]? = some (.cells zA 51 (0, 0))) := (h12.block _ (lt_of_block hgz)).trans hgz
  have HGE := Lib.hid hgE
  have HGW := Lib.hid hgW
  have HR0 := Lib.hid hr0
  have HB2 := Lib.hid hb2
  have HS2 := Lib.hid hs2
  have HS1 := Lib.hid hs1
  have HWE := Lib.hid hW1
  have HWE2 := Lib.hid hW2
  have HE2 := Lib.hid hE2
  have H1 : Hid (∀ V, RfS g A n c bs (0, 0) V → Calls Tryz.prog 52 #[.pointer (some ⟨g, 0, none⟩), .int .i64 4, .int .i64 65536] V (RfPost g A n c bs (.agg (rv 4 0 0 (ry1 bs).1 65536)) (ry1 bs).2 V)) := fun V h => rft_any g A n c bs (0, 0) V h hk hp0 65536 (by decide)
  have H2 : Hid (∀ V, RfS g A n c bs (ry1 bs).2 V → Calls Tryz.prog 52 #[.pointer (some ⟨g, 0, none⟩), .int .i64 6, .int .i64 0] V (RfPost g A n c bs (.agg (rv 6 0 0 (ry2 bs).1 0)) (ry2 bs).2 V)) := fun V h => rfs_any g A n c bs _ V h hk hp1
  have H4 : Hid (∀ V, RfS g A n c bs (ry3 bs).2 V → Calls Tryz.prog 52 #[.pointer (some ⟨g, 0, none⟩), .int .i64 6, .int .i64 0] V (RfPost g A n c bs (.agg (rv 6 0 0 (ry4 bs).1 0)) (ry4 bs).2 V)) := fun V h => rfs_any g A n c bs _ V h hk hp3
  have H5 : Hid (∀ V, RfS g A n c bs (ry4 bs).2 V → Calls Tryz.prog 52 #[.pointer (some ⟨g, 0, none⟩), .int .i64 6, .int .i64 0] V (RfPost g A n c bs (.agg (rv 6 0 0 (ry5 bs).1 0)) (ry5 bs).2 V)) := fun V h => rfs_any g A n c bs _ V h hk hp4
  have H3 : Hid (∀ V, RfS g A n c bs (ry2 bs).2 V → Calls Tryz.prog 53 #[.pointer (some ⟨g, 0, none⟩)] V (RfPost g A n c bs (.int .i64 (ry3 bs).1) (ry3 bs).2 V)) := fun V h => rint_any g A n c bs _ V h hk hp2
  have HEN : Hid (∀ V, RfS g A n c bs (ry5 bs).2 V → Calls Tryz.prog 54 #[.pointer (some ⟨g, 0, none⟩)] V fun e w' => e = .returned (.tuple #[.int .i64 (ry5 bs).2.1, .int .i64 (rEnd bs (ry5 bs).2)]) ∧ Below V.heap.size V w') := fun V h => rend01_any g A n c bs _ V h hk.2.1 hp5
  have HOK : Hid (okY bs = (decide (rEnd bs (ry5 bs).2 = 0) && (okX (sB (ry1 bs).1) && tkB (ry2 bs).1 (ry3 bs).1 (ry4 bs).1 (ry5 bs).1))) := rfl
  have HBL : Hid ((ry1 bs).1.size ≤ 1000000) := by show _ ≤ _; have h1 : (ry1 bs).1.size ≤ bs.length := rT_len hk.1; have := hk.2.1; omega
  unfold RAPost
  generalize ry1 bs = R1 at *
  generalize ry2 bs = R2 at *
  generalize ry3 bs = R3 at *
  generalize ry4 bs = R4 at *
  generalize ry5 bs = R5 at *
  obtain ⟨bd, s1⟩ := R1
  obtain ⟨st, s2⟩ := R2
  obtain ⟨ix, s3⟩ := R3
  obtain ⟨no, s4⟩ := R4
  obtain ⟨an, s5⟩ := R5
  dsimp only at H1 H2 H3 H4 H5 HEN HOK HBL ⊢
  obtain ⟨er, hEr⟩ : ∃ er, rEnd bs s5 = er := ⟨_, rfl⟩
  rw [hEr] at HEN HOK
  have HRC : Hid (∀ V A' c', bd.size ≤ c' → Sl fB V V.heap.size A' bd.size (sB bd) → Calls Tryz.prog 51 #[.slice A' bd.size c'] V (RRPost (sB bd) V)) := fun V A' c' hc hs => rrcp_any A' bd.size c' V.heap.size (sB bd) V hs (Nat.le_refl _) ⟨sB_rng bd, HBL.out, hc⟩
  have hf1 := fun V => fld4 4 0 0 bd 65536 V
  have hf2 := fun V => fld4 6 0 0 st 0 V
  have hf4 := fun V => fld4 6 0 0 no 0 V
  have hf5 := fun V => fld4 6 0 0 an 0 V
  clear hEr hx hB hl hk hp0 hp1 hp2 hp3 hp4 hp5 hb1 hs1 hge hgz hW1 hW2 h12 hb2 hs2 hgE hgW hgg hr0 hE2
  go_enter Tryz.func14, Tryz.ntmps14
  go_upto_region 3 with fail
  rw [← HWE.out]
  go_upto_region 4 with fail
  rw [← HWE2.out, ← HGW.out]
  obtain ⟨k0, k1⟩ := HK2.out
  clear k4 k2
  go_upto_region 5 with (first
    | (with_reducible refine wpList_built (o := ⟨some 22, _, _, _, _, _⟩) rfl 51 acP22 (by kernel_rfl) (cA dv sq zRcp ⟨#[]⟩ 0 ⟨#[]⟩ ⟨#[]⟩) (acB22 _ dv sq rfl rfl) ?_)
    | ((with_reducible refine wpList_store_but (o := ⟨none, _, _, _, _, _⟩) rfl 51 (.tmp 5) (.tmp 22) rfl W2.heap.size 51 zA (cA dv sq zRcp ⟨#[]⟩ 0 ⟨#[]⟩ ⟨#[]⟩) (by kernel_rfl) rfl (heap_alloc_new W2 _) (cA_sizeR _ _ _ _ _ _ _) (by kernel_rfl) (cA_one _ _ _ _ _ _ _) ?_); intro V3 HG3 HB3))

  obtain ⟨a, ha⟩ : ∃ a, a = W2.heap.size := ⟨_, rfl⟩
  rw [← ha] at HG3 HB3
  have haE : a = w.heap.size + 1 + 1 + 1 := ha.trans HS2.out
  have hal : Below W2.heap.size W2 (W2.alloc (.cells zA 51)) := (Below.refl _ _).alloc (Nat.le_refl _) _
  have h23 : Below W2.heap.size W2 V3 := hal.trans (HB3.out.below (by simp) (fun i hi => by subst hi; omega))
  have D3 : Hid (DF 51 V3 V3 g A n c bs (0, 0) a (cA dv sq zRcp ⟨#[]⟩ 0 ⟨#[]⟩ ⟨#[]⟩)) := ⟨HR0.out.on h23, HG3.out, But.refl _ _, by have := HGE.out; omega, fun h0 x hx e => by have := HA.out x hx h0; omega⟩
  have HB03 : Hid (Below w.heap.size w V3) := HB2.out.trans (h23.mono HB2.out.size)
  have HGZ3 : Hid (V3.heap[w.heap.size + 1]? = some (.cells zA 51 (0, 0))) := (h23.block _ (lt_of_block HGZ2.out)).trans HGZ2.out
  have HE3 : Hid (V3.heap[w.heap.size]? = some (.cells #[.int .i64 dv, .int .i64 sq, .int .i64 6, .int .i64 dy, .slice A n c, .string pr] 45 (0, 0))) := (h23.block _ (lt_of_block HE2.out)).trans HE2.out
  have HAE := Lib.hid haE
  rw [← ha]
  clear ha haE hal h23 HG3 HB3 k0 k1 HK2 HR0 HS1 HS2 HWE HWE2 HGW HB2 HGZ2 HE2
  go_upto_region 6 with (first
    | (go_at_call 52; (with_reducible refine (H1.out _ D3.out.rd).mono ?_); rintro e V4 ⟨rfl, r, bb⟩; (have D4 := Lib.hid (D3.out.read r bb)); clear r bb D3)
    | ((with_reducible refine wpList_conv_sb (o := ⟨some 27, _, _, _, _, _⟩) rfl (.tmp 26) rfl bd rfl ?_); intro Ab cb V5 hsl hcb hbl; (have D5 := Lib.hid (D4.out.keep hbl.out)); (have HRR := Lib.hid (HRC.out V5 Ab cb hcb.out hsl.out)); clear hsl hcb hbl D4)
    | (go_at_call 51; (with_reducible refine HRR.out.mono ?_); rintro e V6 ⟨R, rfl, hbb, hro⟩; (have D6 := Lib.hid (D5.out.keep hbb)); (have HRO : Hid (okX (sB bd) = true → R = rxV (sB bd) R.pa R.pb R.pc ∧ RcO V6 (a + 1) R (rxA (sB bd)).1 (rxD (sB bd)).1 (rxE (sB bd)).1) := fun h => ⟨(hro h).1, (hro h).2.low (lt_of_block D5.out.pc)⟩); clear hbb hro D5))
  obtain ⟨V7, hV7⟩ : ∃ V7 : World, V7 = V6.alloc (.cells (cR R) tR) := ⟨_, rfl⟩
  have h67 : Below V6.heap.size V6 V7 := by rw [hV7]; exact (Below.refl _ _).alloc (Nat.le_refl _) _
  have hg7 : V7.heap[V6.heap.size]? = some (.cells (cR R) tR (0, 0)) := by rw [hV7]; exact heap_alloc_new V6 _
  have d7 := D6.out.keep h67
  have D7 : Hid (DF 51 V7 V7 g A n c bs s1 a (cA dv sq zRcp ⟨#[]⟩ 0 ⟨#[]⟩ ⟨#[]⟩)) := ⟨d7.rd, d7.pc, But.refl _ _, d7.gb, d7.ab⟩
  have HRO7 : Hid (okX (sB bd) = true → R = rxV (sB bd) R.pa R.pb R.pc ∧ RcO V7 (a + 1) R (rxA (sB bd)).1 (rxD (sB bd)).1 (rxE (sB bd)).1) := fun h => ⟨(HRO.out h).1, (HRO.out h).2.on h67⟩
  have HBU : Hid (But (fun k => k = g ∨ k = a) V3 V7) := d7.but
  have HB07 : Hid (Below w.heap.size w V7) := HB03.out.trans (HBU.out.below HB03.out.size (fun i hi => by have := HGE.out; have := HAE.out; rcases hi with rfl | rfl <;> omega))
  have HGZ7 : Hid (V7.heap[w.heap.size + 1]? = some (.cells zA 51 (0, 0))) := (HBU.out.block _ (lt_of_block HGZ3.out) (by have := HGE.out; have := HAE.out; omega)).trans HGZ3.out
  have HE7 : Hid (V7.heap[w.heap.size]? = some (.cells #[.int .i64 dv, .int .i64 sq, .int .i64 6, .int .i64 dy, .slice A n c, .string pr] 45 (0, 0))) := (HBU.out.block _ (lt_of_block HE3.out) (by have := HGE.out; have := HAE.out; omega)).trans HE3.out
  have HG7 := Lib.hid hg7
  have HLT : Hid (a < V6.heap.size) := lt_of_block D6.out.pc
  rw [← hV7]
  clear hV7 h67 hg7 d7 D6 HRO HBU HB03 HGZ3 HE3 hf1 H1 HRC HRR
  go_upto_region 10 with (first
    | (with_reducible refine wpList_load_mid (op := ⟨some 31, _, _, _, _, _⟩) rfl tR (.tmp 6) rfl V6.heap.size 0 rfl (cR R).toList _ (rangeR HG7.out) Tryz.underlying35 rfl (sizeRL R) ?_)
    | ((with_reducible refine wpList_store_atN (o := ⟨none, _, _, _, _, _⟩) rfl tR (.tmp 32) (.tmp 31) rfl a 51 2 (cA dv sq zRcp ⟨#[]⟩ 0 ⟨#[]⟩ ⟨#[]⟩) (cR R) (by kernel_rfl) (by kernel_rfl) D7.out.pc cA_rc (cR_size R) (cR_one R) ?_); intro V8 hg0 hb; (have hg : Hid (V8.heap[a]? = some (.cells (cA dv sq R ⟨#[]⟩ 0 ⟨#[]⟩ ⟨#[]⟩) 51 (0, 0))) := (by rw [← setAll_cA]; exact hg0.out : _ = _)); clear hg0; (have D8 : Hid (DF 51 V7 V8 g A n c bs s1 a (cA dv sq R ⟨#[]⟩ 0 ⟨#[]⟩ ⟨#[]⟩)) := D7.out.set hg.out hb.out); clear hg hb D7)
    | (go_at_call 52; (with_reducible refine (H2.out _ D8.out.rd).mono ?_); rintro e V9 ⟨rfl, r, bb⟩; (have D9 := Lib.hid (D8.out.read r bb)); clear r bb D8)
    | (go_at_call 53; (with_reducible refine (H3.out _ D9.out.rd).mono ?_); rintro e V10 ⟨rfl, r, bb⟩; (have D10 := Lib.hid (D9.out.read r bb)); clear r bb D9)
    | ((with_reducible refine wpList_store_at2 (o := ⟨none, _, _, _, _, _⟩) rfl 23 (.tmp 40) (.tmp 38) rfl a 51 16 (cA dv sq R ⟨#[]⟩ 0 ⟨#[]⟩ ⟨#[]⟩) (.string st) (.int .i64 ix) (by kernel_rfl) rfl D10.out.pc (cA_lt (by decide)) Tryz.sizePid (by kernel_rfl) ?_); intro V11 hg hb; (have D11 : Hid (DF 51 V7 V11 g A n c bs s3 a (cA dv sq R st ix ⟨#[]⟩ ⟨#[]⟩)) := D10.out.set hg.out hb.out); clear hg hb D10)
    | (go_at_call 52; (with_reducible refine (H4.out _ D11.out.rd).mono ?_); rintro e V12 ⟨rfl, r, bb⟩; (have D12 := Lib.hid (D11.out.read r bb)); clear r bb D11)
    | (go_at_call 52; (with_reducible refine (H5.out _ D12.out.rd).mono ?_); rintro e V13 ⟨rfl, r, bb⟩; (have D13 := Lib.hid (D12.out.read r bb)); clear r bb D12)
    | ((with_reducible refine wpList_store_at1 (o := ⟨none, _, _, _, _, _⟩) rfl 9 (.tmp 48) (.tmp 43) rfl a 51 18 (cA dv sq R st ix ⟨#[]⟩ ⟨#[]⟩) (.string no) (by kernel_rfl) rfl D13.out.pc (cA_lt (by decide)) Tryz.sizeStr (by kernel_rfl) ?_); intro V14 hg hb; (have D14 : Hid (DF 51 V7 V14 g A n c bs s5 a (cA dv sq R st ix no ⟨#[]⟩)) := D13.out.set hg.out hb.out); clear hg hb D13)
    | ((with_reducible refine wpList_store_at1 (o := ⟨none, _, _, _, _, _⟩) rfl 9 (.tmp 50) (.tmp 46) rfl a 51 19 (cA dv sq R st ix no ⟨#[]⟩) (.string an) (by kernel_rfl) rfl D14.out.pc (cA_lt (by decide)) Tryz.sizeStr (by kernel_rfl) ?_); intro V15 hg hb; (have D15 : Hid (DF 51 V7 V15 g A n c bs s5 a (cA dv sq R st ix no an)) := D14.out.set hg.out hb.out); clear hg hb D14)
    | (go_at_call 54; (with_reducible refine (HEN.out _ D15.out.rd).mono ?_); rintro e VE ⟨rfl, bb⟩; (have DE := Lib.hid (D15.out.keep bb)); clear bb D15))
  have HPA : Hid (VE.heap[a]? = some (.cells (cA dv sq R st ix no an) 51 (0, 0))) := DE.out.pc
  have HGZ : Hid (VE.heap[w.heap.size + 1]? = some (.cells zA 51 (0, 0))) := (DE.out.but.block _ (lt_of_block HGZ7.out) (by have := HGE.out; have := HAE.out; omega)).trans HGZ7.out
  have hee : VE.heap[w.heap.size]? = some (.cells #[.int .i64 dv, .int .i64 sq, .int .i64 6, .int .i64 dy, .slice A n c, .string pr] 45 (0, 0)) := (DE.out.but.block _ (lt_of_block HE7.out) (by have := HGE.out; have := HAE.out; omega)).trans HE7.out
  have HBE : Hid (Below w.heap.size w VE) := HB07.out.trans (DE.out.but.below HB07.out.size (fun i hi => by have := HGE.out; have := HAE.out; rcases hi with rfl | rfl <;> omega))
  have HBU : Hid (But (fun k => k = g ∨ k = a) V7 VE) := DE.out.but
  have HKE : Hid (∀ V, Below VE.heap.size VE V → V.cell? ⟨w.heap.size, 0, none⟩ = some (.int .i64 dv) ∧ V.cell? ⟨w.heap.size, 1, none⟩ = some (.int .i64 sq)) := fun V hb => by
    have q := (hb.block _ (lt_of_block hee)).trans hee
    exact ⟨by rw [cell_of_row V _ _ _ _ _ q]; rfl, by rw [cell_of_row V _ _ _ _ _ q]; rfl⟩
  have HTK := Lib.hid (fun V => token_any st ix no an V)
  have HNB := Lib.hid (fun V => entry_any dv sq V)
  obtain ⟨tk, htk⟩ : ∃ tk, tkB st ix no an = tk := ⟨_, rfl⟩
  rw [htk] at HTK HOK
  obtain ⟨nb, hnb⟩ : ∃ nb, numB dv sq = nb := ⟨_, rfl⟩
  rw [hnb] at HNB
  have HNBE := Lib.hid hnb
  obtain ⟨ox, hox⟩ : ∃ ox, okX (sB bd) = ox := ⟨_, rfl⟩
  rw [hox] at HOK HRO7 ⊢
  clear htk hnb hox hee DE HE7 HB07 HGZ7 HG7 HLT H2 H3 H4 H5 HEN hf2 hf4 hf5
  by_cases her : er = 0
  · have herb : (er != 0) = false := by simp [her]
    cases ox with
    | false =>
      go_wp2_with (first
        | ((with_reducible refine wpList_store_but (o := ⟨none, _, _, _, _, _⟩) rfl 51 (.tmp 2) (.tmp 76) rfl (w.heap.size + 1) 51 zA zA rfl rfl HGZ.out zA_sizeR rfl zA_one ?_); intro W7 HG7 HB7))
      have hb7 : Below w.heap.size w W7 := HBE.out.trans (HB7.out.below HBE.out.size (fun i hi => by subst hi; omega))
      refine bodyPost_ret (results_ct rfl _ _ _ _ _ _ _ rfl HG7.out Tryz.underlying51 rfl zA_sizeR) rfl (.inr ⟨by rw [HOK.out, HNBE.out]; simp_all, rfl, hb7⟩)
    | true =>
      cases tk with
      | false =>
        go_wp2_with (first
          | (with_reducible refine wpList_load_mid_w (op := ⟨some 64, _, _, _, _, _⟩) (by kernel_rfl) 37 (.tmp 63) (by kernel_rfl) a 16 (by kernel_rfl) [.string st, .int .i64 ix, .string no, .string an] _ (rangeTk HPA.out) Tryz.underlying37 rfl (sizeTkL _ _ _ _) ?_)
          | (go_at_call 23; (with_reducible refine (HTK.out _).mono ?_); rintro e VT ⟨rfl, bb⟩; (obtain ⟨q0, q1⟩ := HKE.out VT bb); (have HZT := Lib.hid ((bb.block _ (lt_of_block HGZ.out)).trans HGZ.out)); (have HPT := Lib.hid ((bb.block _ (lt_of_block HPA.out)).trans HPA.out)); (have BT := Lib.hid bb); clear bb)
          | ((with_reducible refine wpList_store_but (o := ⟨none, _, _, _, _, _⟩) rfl 51 (.tmp 2) (.tmp 76) rfl (w.heap.size + 1) 51 zA zA rfl rfl HZT.out zA_sizeR rfl zA_one ?_); intro W7 HG7 HB7))
        have hb7 : Below w.heap.size w W7 := (HBE.out.trans (BT.out.mono HBE.out.size)).trans (HB7.out.below (Nat.le_trans HBE.out.size BT.out.size) (fun i hi => by subst hi; omega))
        refine bodyPost_ret (results_ct rfl _ _ _ _ _ _ _ rfl HG7.out Tryz.underlying51 rfl zA_sizeR) rfl (.inr ⟨by rw [HOK.out, HNBE.out]; simp_all, rfl, hb7⟩)
      | true =>
        cases nb with
        | false =>
          go_wp2_with (first
            | (with_reducible refine wpList_load_mid_w (op := ⟨some 64, _, _, _, _, _⟩) (by kernel_rfl) 37 (.tmp 63) (by kernel_rfl) a 16 (by kernel_rfl) [.string st, .int .i64 ix, .string no, .string an] _ (rangeTk HPA.out) Tryz.underlying37 rfl (sizeTkL _ _ _ _) ?_)
            | (go_at_call 23; (with_reducible refine (HTK.out _).mono ?_); rintro e VT ⟨rfl, bb⟩; (obtain ⟨q0, q1⟩ := HKE.out VT bb); (have HZT := Lib.hid ((bb.block _ (lt_of_block HGZ.out)).trans HGZ.out)); (have HPT := Lib.hid ((bb.block _ (lt_of_block HPA.out)).trans HPA.out)); (have BT := Lib.hid bb); clear bb)
            | (go_at_call 8; (with_reducible refine (HNB.out _).mono ?_); rintro e VN ⟨rfl, rfl⟩)
            | ((with_reducible refine wpList_store_but (o := ⟨none, _, _, _, _, _⟩) rfl 51 (.tmp 2) (.tmp 76) rfl (w.heap.size + 1) 51 zA zA rfl rfl HZT.out zA_sizeR rfl zA_one ?_); intro W7 HG7 HB7))
          have hb7 : Below w.heap.size w W7 := (HBE.out.trans (BT.out.mono HBE.out.size)).trans (HB7.out.below (Nat.le_trans HBE.out.size BT.out.size) (fun i hi => by subst hi; omega))
          refine bodyPost_ret (results_ct rfl _ _ _ _ _ _ _ rfl HG7.out Tryz.underlying51 rfl zA_sizeR) rfl (.inr ⟨by rw [HOK.out, HNBE.out]; simp_all, rfl, hb7⟩)
        | true =>
          obtain ⟨hR, hO⟩ := HRO7.out rfl
          have HRR := Lib.hid hR
          have HRO := Lib.hid hO
          clear hR hO HRO7
          go_wp2_with (first
            | (with_reducible refine wpList_load_mid_w (op := ⟨some 64, _, _, _, _, _⟩) (by kernel_rfl) 37 (.tmp 63) (by kernel_rfl) a 16 (by kernel_rfl) [.string st, .int .i64 ix, .string no, .string an] _ (rangeTk HPA.out) Tryz.underlying37 rfl (sizeTkL _ _ _ _) ?_)
            | (go_at_call 23; (with_reducible refine (HTK.out _).mono ?_); rintro e VT ⟨rfl, bb⟩; (obtain ⟨q0, q1⟩ := HKE.out VT bb); (have HZT := Lib.hid ((bb.block _ (lt_of_block HGZ.out)).trans HGZ.out)); (have HPT := Lib.hid ((bb.block _ (lt_of_block HPA.out)).trans HPA.out)); (have BT := Lib.hid bb); clear bb)
            | (go_at_call 8; (with_reducible refine (HNB.out _).mono ?_); rintro e VN ⟨rfl, rfl⟩)
            | (with_reducible refine wpList_load_mid (op := ⟨some 77, _, _, _, _, _⟩) rfl 51 (.tmp 5) rfl a 0 rfl (cA dv sq R st ix no an).toList _ (rangeA HPT.out) Tryz.underlying51 rfl (sizeALR _ _ _ _ _ _ _) ?_)
            | ((with_reducible refine wpList_store_but (o := ⟨none, _, _, _, _, _⟩) rfl 51 (.tmp 2) (.tmp 77) rfl (w.heap.size + 1) 51 zA (cA dv sq R st ix no an) rfl (by kernel_rfl) HZT.out (cA_sizeR _ _ _ _ _ _ _) (by kernel_rfl) (cA_one _ _ _ _ _ _ _) ?_); intro W7 HG7 HB7))
          have hb7 : Below w.heap.size w W7 := (HBE.out.trans (BT.out.mono HBE.out.size)).trans (HB7.out.below (Nat.le_trans HBE.out.size BT.out.size) (fun i hi => by subst hi; omega))
          have h1 : But (fun k => k = g ∨ k = a ∨ k = w.heap.size + 1) V7 VE := (But.refl _ _).trans HBU.out (fun i hi => .inl (by rcases hi with h | h; exact .inl h; exact .inr (.inl h)))
          have h2 : But (fun k => k = g ∨ k = a ∨ k = w.heap.size + 1) V7 VT := h1.trans (But.of_below (p := fun k => k = g ∨ k = a ∨ k = w.heap.size + 1) BT.out) (fun i hi => .inl hi)
          have h3 : But (fun k => k = g ∨ k = a ∨ k = w.heap.size + 1) V7 W7 := h2.trans HB7.out (fun i hi => .inl (.inr (.inr hi)))
          refine bodyPost_ret (results_ct rfl _ _ _ _ _ _ _ rfl HG7.out Tryz.underlying51 rfl (cA_sizeR _ _ _ _ _ _ _)) rfl (.inl ⟨by rw [HOK.out, HNBE.out]; simp [her], R, rfl, HRR.out, (HRO.out.but h3 (fun k hk hl e => by have := HGE.out; have := HAE.out; omega)).low (by have := HAE.out; omega), hb7⟩)
  · have herb : (er != 0) = true := by simp [her]
    go_wp2_with (first
      | ((with_reducible refine wpList_store_but (o := ⟨none, _, _, _, _, _⟩) rfl 51 (.tmp 2) (.tmp 76) rfl (w.heap.size + 1) 51 zA zA rfl rfl HGZ.out zA_sizeR rfl zA_one ?_); intro W7 HG7 HB7))
    have hb7 : Below w.heap.size w W7 := HBE.out.trans (HB7.out.below HBE.out.size (fun i hi => by subst hi; omega))
    refine bodyPost_ret (results_ct rfl _ _ _ _ _ _ _ rfl HG7.out Tryz.underlying51 rfl zA_sizeR) rfl (.inr ⟨by rw [HOK.out, HNBE.out]; simp_all, rfl, hb7⟩)
end Go.Proofs.YtnfkjnmdfijhnaaGreatDoor
