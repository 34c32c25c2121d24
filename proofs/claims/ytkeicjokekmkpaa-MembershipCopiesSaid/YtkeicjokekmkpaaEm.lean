/- The encoding of members and vaults, plainly. The encoding of a circle: what it is, how long it is. writeInts, writeMember, writeVault. Encode: the walk. -/
import Derived.Test.YtkeicjokekmkpaaSt
import Derived.Test.YtkeicjokekmkpaaWm
import Derived.Test.YtkeicjokekmkpaaVt
import Derived.Test.YtkeicjokekmkpaaCir
import Derived.Test.YtkeicjokekmkpaaLf
namespace Go.Proofs.Ytkeicjokekmkpaa
open Go.RowKit Mb
set_option linter.unusedVariables false
set_option linter.unusedSimpArgs false

def encL (xs : List Int) : List Int := xs.flatMap fun x => enc x.toNat
def encM (m : Mem) : List Int := enc m.name.size ++ (sB m.name ++ (sB m.pub ++ encL [m.quota]))
def encVt (v : Vlt) : List Int := enc v.ws.length ++ (encL v.ws ++ (encL [v.data, v.total, v.thr] ++ (sB v.print ++ (encL [v.cmin, v.cmax, v.cwin, v.cbits] ++ encL [v.ra, v.rb, v.rc, v.rd]))))
def nOk (x : Int) : Prop := 0 ≤ x ∧ x ≤ 1099511627776
def mOk (m : Mem) : Prop := m.name.size ≤ 16 ∧ m.pub.size = 32 ∧ nOk m.quota
def vOk (v : Vlt) : Prop := v.ws.length ≤ 3 ∧ (∀ x ∈ v.ws, nOk x) ∧ (∀ x ∈ [v.data, v.total, v.thr], nOk x) ∧ v.print.size = 32 ∧ (∀ x ∈ [v.cmin, v.cmax, v.cwin, v.cbits], nOk x) ∧ (∀ x ∈ [v.ra, v.rb, v.rc, v.rd], nOk x)
theorem encL_len (xs : List Int) : (encL xs).length ≤ 10 * xs.length := by
  unfold encL
  induction xs with
  | nil => simp
  | cons x l ih => simp only [List.flatMap_cons, List.length_append, List.length_cons]; have := enc_len x.toNat; omega
theorem encL_app (xs ys : List Int) : encL (xs ++ ys) = encL xs ++ encL ys := by simp [encL]
theorem encL_snoc (xs : List Int) (x : Int) : encL (xs ++ [x]) = encL xs ++ enc x.toNat := by simp [encL]
theorem encM_len {m : Mem} (h : mOk m) : (encM m).length ≤ 68 := by
  have h1 := enc_len m.name.size
  have h2 := encL_len [m.quota]
  unfold encM
  simp only [List.length_append, sB_len, List.length_cons, List.length_nil] at *
  have := h.1
  have := h.2.1
  omega
theorem encVt_len {v : Vlt} (h : vOk v) : (encVt v).length ≤ 200 := by
  have h1 := enc_len v.ws.length
  have h2 := encL_len v.ws
  have h3 := encL_len [v.data, v.total, v.thr]
  have h4 := encL_len [v.cmin, v.cmax, v.cwin, v.cbits]
  have h5 := encL_len [v.ra, v.rb, v.rc, v.rd]
  have h6 := h.1
  have h7 := h.2.2.2.1
  unfold encVt
  simp only [List.length_append, sB_len, List.length_cons, List.length_nil] at *
  omega
theorem flat_le {α : Type} (f : α → List Int) (c : Nat) : ∀ (xs : List α), (∀ x ∈ xs, (f x).length ≤ c) → (xs.flatMap f).length ≤ c * xs.length
  | [], _ => by simp
  | x :: l, h => by
    have h1 := h x (List.mem_cons_self ..)
    have h2 := flat_le f c l fun y hy => h y (List.mem_cons_of_mem _ hy)
    rw [List.flatMap_cons, List.length_append, List.length_cons, Nat.mul_succ]
    omega
theorem take_mem {α : Type} {p : α → Prop} {xs : List α} (h : ∀ x ∈ xs, p x) (k : Nat) : ∀ x ∈ xs.take k, p x := fun x hx => h x (List.mem_of_mem_take hx)
theorem flat_snoc {α : Type} (f : α → List Int) (xs : List α) (x : α) : (xs ++ [x]).flatMap f = xs.flatMap f ++ f x := by simp
theorem mOk_of {m : Mem} {d : Int} (h : memB m d = true) : mOk m := by
  unfold memB nameB at h
  simp only [Bool.and_eq_true, decide_eq_true_eq] at h
  exact ⟨h.2.1.2.1, h.2.2.1, h.2.2.2.1, h.2.2.2.2.1⟩
theorem nOk_of {x : Int} (h0 : 0 ≤ x) (h1 : x ≤ 100000) : nOk x := ⟨h0, by omega⟩
end Go.Proofs.Ytkeicjokekmkpaa
namespace Go.Proofs.Ytkeicjokekmkpaa
open Go.RowKit Mb
set_option linter.unusedVariables false
set_option linter.unusedSimpArgs false

def encX : Chg → List Int
  | .adm m => encL [1] ++ encM m
  | .bal a b => encL [2, a, b]
  | .rep v a b => encL [3, v, a, b]
def encC (S : Cst) : List Int := enc S.fm.length ++ (S.fm.flatMap encM ++ (enc S.fv.length ++ (S.fv.flatMap encVt ++ (encL [S.s.q] ++ (enc S.chs.length ++ S.chs.flatMap encX)))))
def xOk : Chg → Prop
  | .adm m => mOk m
  | .bal a b => nOk a ∧ nOk b
  | .rep v a b => nOk v ∧ nOk a ∧ nOk b
/-- What may be encoded. -/
structure EInv (S : Cst) : Prop where
  fm : S.fm.length ≤ 12
  ms : ∀ m ∈ S.fm, mOk m
  fv : S.fv.length ≤ 12
  vs : ∀ v ∈ S.fv, vOk v
  q : nOk S.s.q
  ch : ∀ x ∈ S.chs, xOk x
theorem encX_len {x : Chg} (h : xOk x) : (encX x).length ≤ 78 := by
  cases x with
  | adm m =>
    have h1 := encL_len [1]
    have h2 := encM_len h
    simp only [encX, List.length_append, List.length_cons, List.length_nil] at *
    omega
  | bal a b => have h1 := encL_len [2, a, b]; simp only [encX, List.length_cons, List.length_nil] at *; omega
  | rep v a b => have h1 := encL_len [3, v, a, b]; simp only [encX, List.length_cons, List.length_nil] at *; omega
theorem encC_len {S : Cst} (h : EInv S) (hc : S.chs.length ≤ 5000) : (encC S).length ≤ 400000 := by
  have h1 := flat_le encM 68 S.fm fun m hm => encM_len (h.ms m hm)
  have h2 := flat_le encVt 200 S.fv fun v hv => encVt_len (h.vs v hv)
  have h3 := flat_le encX 78 S.chs fun x hx => encX_len (h.ch x hx)
  have h4 := enc_len S.fm.length
  have h5 := enc_len S.fv.length
  have h6 := enc_len S.chs.length
  have h7 := encL_len [S.s.q]
  have := h.fm
  have := h.fv
  unfold encC
  simp only [List.length_append, List.length_cons, List.length_nil] at *
  omega
end Go.Proofs.Ytkeicjokekmkpaa
namespace Go.Proofs.Ytkeicjokekmkpaa
open Go.RowKit Mb
set_option linter.unusedVariables false
set_option linter.unusedSimpArgs false

set_option maxRecDepth 20000 in
set_option maxHeartbeats 1000000 in
theorem wints_any (g base : Nat) (v : Value) (bs : List Int) (A : Option Addr) (n c : Nat) (xs : List Int) (w : World) (hw : Wr w g base v bs) (hx : Sl I w w.heap.size A n xs) (hA : ∀ a, A = some a → ¬ foot g v a.block) (hok : ∀ x ∈ xs, nOk x) (hn : n ≤ 1000) (hlen : bs.length ≤ 1000000) :
    Calls Try.prog 30 #[.pointer (some ⟨g, 0, none⟩), .slice A n c] w (WPost g base v (bs ++ encL xs) w) := by
  have HW := Lib.hid hw
  have HX := Lib.hid hx
  have HA := Lib.hid hA
  have HOK := Lib.hid hok
  have HLN : Hid (xs.length = n) := hx.1
  clear hw hx hA hok
  go_enter Try.func30, Try.ntmps30
  go_wp2
  go_loopw [8] (fun i wr => ∃ k : Nat, k ≤ n ∧ i = .int .i64 k ∧ Hid (Wc g base v w (bs ++ encL (xs.take k)) wr)) (fun i _ => n - (intOf i).toNat)
  case atStart => exact ⟨0, Nat.zero_le _, rfl, by show Wc _ _ _ _ _ _; rw [List.take_zero]; simp only [encL, List.flatMap_nil, List.append_nil]; exact Wc.start HW.out⟩
  case round =>
    obtain ⟨k, hk, rfl, HK⟩ := hrel
    by_cases hlt : k < n
    · have hx1 : SL I wr w.heap.size A xs := by
        obtain ⟨v1, h1, h2, h3⟩ := HK.out
        exact SL.but HX.out.2 h2 (Nat.le_refl _) HA.out
      obtain ⟨b, off, x, rfl, hbB, hxk, hc⟩ := SL.at_ hx1 (k := k) (by rw [HLN.out]; exact hlt)
      obtain ⟨x0, x1⟩ := HOK.out x (List.mem_of_getElem? hxk)
      obtain ⟨m, rfl⟩ : ∃ m : Nat, x = m := ⟨x.toNat, by omega⟩
      have hm : m < 18446744073709551616 := by omega
      have HT : Hid ((bs ++ encL (xs.take k)) ++ enc m = bs ++ encL (xs.take (k + 1))) := by
        show _ = _
        rw [take_snoc hxk, encL_snoc, Int.toNat_natCast, List.append_assoc]
      have hbl : (bs ++ encL (xs.take k)).length ≤ 1099511627776 := by
        have h1 := encL_len (xs.take k)
        rw [List.length_take] at h1
        rw [List.length_append]
        omega
      have HC := Lib.hid (HK.out.step (P := Try.prog) (fun v' hv' _ => wuint_any g base v' _ m wr hv' hm hbl))
      clear hx1 hxk x0 x1 hbl
      go_wp2_with fail
      refine HC.out.mono ?_
      rintro e w2 ⟨rfl, h2⟩
      rw [HT.out] at h2
      have H2 := Lib.hid h2
      clear h2
      go_wp2
      go_roundw
      case rel => exact ⟨k + 1, by omega, by go_num, H2⟩
      case measure => simp [intOf]; omega
    · obtain rfl : k = n := by omega
      go_wp2
      go_end0
      have h := HK.out
      rw [List.take_of_length_le (by have := HLN.out; omega)] at h
      exact h.post
theorem wints_some (g base : Nat) (v : Value) (bs : List Int) (A : Option Addr) (n c : Nat) (xs : List Int) (w : World) (hw : Wr w g base v bs) (hx : Sl I w w.heap.size A n xs) (hA : ∀ a, A = some a → 0 < xs.length → ¬ foot g v a.block) (hok : ∀ x ∈ xs, nOk x) (hn : n ≤ 1000) (hlen : bs.length ≤ 1000000) :
    Calls Try.prog 30 #[.pointer (some ⟨g, 0, none⟩), .slice A n c] w (WPost g base v (bs ++ encL xs) w) := by
  rcases Nat.eq_zero_or_pos xs.length with h0 | h0
  · have hn0 : n = 0 := by rw [← hx.1]; exact h0
    obtain rfl : xs = [] := List.eq_nil_of_length_eq_zero h0
    subst hn0
    go_enter Try.func30, Try.ntmps30
    go_wp2
    go_loopw [8] (fun i wr => i = .int .i64 0 ∧ wr = w) (fun _ _ => 0)
    case atStart => exact ⟨rfl, rfl⟩
    case round =>
      obtain ⟨rfl, rfl⟩ := hrel
      go_wp2
      go_end0
      exact (show Wc g base v wr (bs ++ encL []) wr by simp only [encL, List.flatMap_nil, List.append_nil]; exact Wc.start hw).post
  · exact wints_any g base v bs A n c xs w hw hx (fun a ha => hA a ha h0) hok hn hlen
/-- Numbers that were laid just now. -/
theorem Wc.ints {g base : Nat} {v : Value} {w0 w : World} {bs : List Int} (h : Wc g base v w0 bs w) (xs : List Int) (t : TypeId) (c n : Nat) (hn : xs.length = n) (hok : ∀ x ∈ xs, nOk x) (hl : n ≤ 1000) (hlen : bs.length ≤ 1000000) :
    Calls Try.prog 30 #[.pointer (some ⟨g, 0, none⟩), .slice (some ⟨w.heap.size, 0, none⟩) n c] (w.alloc (.cells (xs.map I).toArray t)) fun e w' => e = .returned (.tuple #[]) ∧ Wc g base v w0 (bs ++ encL xs) w' :=
  h.stepA _ fun v' hv' hf => wints_any g base v' bs _ n c xs _ hv' ⟨hn, SL.of_block (t := t) (fr := (0, 0)) (heap_alloc_new w _) (by simp)⟩ (fun a ha => by cases ha; exact hf) hok hl hlen
theorem fivem_of {w : World} {k : Nat} {m : Mem} (h : w.heap[k]? = some (.cells (fM m).toArray 44 (0, 0))) : w.cell? ⟨k, 1, none⟩ = some (.string m.name) ∧ w.cell? ⟨k, 2, none⟩ = some (.string m.pub) ∧ w.cell? ⟨k, 3, none⟩ = some (.int .i64 m.quota) := by
  refine ⟨?_, ?_, ?_⟩ <;> (rw [cell_of_row w k _ _ _ _ h]; rfl)
/-- A block was laid before the writer's first call. -/
theorem Wc.behind {g base : Nat} {v : Value} {w0 w : World} {bs : List Int} {o : Obj} (h : Wc g base v (w0.alloc o) bs w) : Wc g base v w0 bs w := by
  obtain ⟨v1, h1, h2, h3⟩ := h
  refine ⟨v1, h1, ((But.refl _ w0).alloc o).trans h2 (fun i hi => .inl hi), ?_⟩
  rcases h3 with h | ⟨k, h, hk⟩
  · exact .inl h
  · exact .inr ⟨k, h, Nat.le_trans (by simp) hk⟩
set_option maxRecDepth 20000 in
set_option maxHeartbeats 1000000 in
theorem wmem_any (g base : Nat) (v : Value) (bs : List Int) (m : Mem) (w : World) (hw : Wr w g base v bs) (hm : mOk m) (hlen : bs.length ≤ 990000) :
    Calls Try.prog 28 #[.pointer (some ⟨g, 0, none⟩), aM m] w (WPost g base v (bs ++ encM m) w) := by
  obtain ⟨W, hW⟩ : ∃ W : World, W = w.alloc (.cells #[.int .i64 m.dev, .string m.name, .string m.pub, .int .i64 m.quota, .bool m.exp] 44) := ⟨_, rfl⟩
  have hK : W.heap[w.heap.size]? = some (.cells (fM m).toArray 44 (0, 0)) := by rw [hW]; exact heap_alloc_new w _
  have hW0 : Wc g base v W bs W := by rw [hW]; exact Wc.start (hw.alloc _)
  have hF := hw.fresh
  have hkeep : ∀ bs' V, Wc g base v W bs' V → V.heap[w.heap.size]? = some (.cells (fM m).toArray 44 (0, 0)) := fun bs' V h => (h.keep hF (lt_of_block hK)).trans hK
  have hpost : ∀ bs' V, Wc g base v W bs' V → WPost g base v bs' w (.returned (.tuple #[])) V := fun bs' V h => by rw [hW] at h; exact h.behind.post
  have HK := Lib.hid hkeep
  have HP := Lib.hid hpost
  have H0 := Lib.hid hW0
  have HWE := Lib.hid hW
  have HM := Lib.hid hm
  have h1 := enc_len m.name.size
  have h2 := hm.1
  have h3 := hm.2.1
  have h4 := sB_len m.name
  have h5 := sB_len m.pub
  obtain ⟨c1, c2, c3⟩ := fivem_of hK
  have HC1 := Lib.hid (hW0.step (P := Try.prog) (fun v' hv' _ => wtext_any g base v' bs m.name W hv' (by omega) (by omega)))
  clear hw hm hK hW0 hF hkeep hpost
  rw [hW] at c1 c2 c3
  clear hW
  go_enter Try.func28, Try.ntmps28
  go_wp2_with fail
  rw [← HWE.out]
  refine HC1.out.mono ?_
  rintro e w2 ⟨rfl, hw2⟩
  clear c1 c2 c3
  obtain ⟨c1, c2, c3⟩ := fivem_of (HK.out _ _ hw2)
  have HC2 := Lib.hid (hw2.step (P := Try.prog) (fun v' hv' _ => wsum_any g base v' _ m.pub w2 hv' h3 (by simp only [List.length_append]; omega)))
  clear hw2
  go_wp2_with fail
  refine HC2.out.mono ?_
  rintro e w3 ⟨rfl, hw3⟩
  clear c1 c2 c3
  obtain ⟨c1, c2, c3⟩ := fivem_of (HK.out _ _ hw3)
  have HC3 := Lib.hid (hw3.ints [m.quota] 3 1 1 rfl (fun x hx => by obtain rfl := List.mem_singleton.1 hx; exact HM.out.2.2) (by decide) (by simp only [List.length_append]; omega))
  clear hw3
  go_wp2_with fail
  refine HC3.out.mono ?_
  rintro e w4 ⟨rfl, hw4⟩
  have HW4 := Lib.hid hw4
  clear hw4 c1 c2 c3
  go_wp2
  go_end0
  have := HP.out _ _ HW4.out
  simp only [List.append_assoc] at this
  unfold encM
  exact this
theorem vlt_of {w : World} {k : Nat} {v : Vlt} {A : Option Addr} {n c : Nat} (h : w.heap[k]? = some (oV v A n c)) :
    w.cell? ⟨k, 1, none⟩ = some (.slice A n c) ∧ w.cell? ⟨k, 2, none⟩ = some (.int .i64 v.data) ∧ w.cell? ⟨k, 3, none⟩ = some (.int .i64 v.total) ∧ w.cell? ⟨k, 4, none⟩ = some (.int .i64 v.thr) ∧ w.cell? ⟨k, 5, none⟩ = some (.string v.print) ∧ w.cell? ⟨k, 6, none⟩ = some (.int .i64 v.cmin) ∧ w.cell? ⟨k, 7, none⟩ = some (.int .i64 v.cmax) ∧ w.cell? ⟨k, 8, none⟩ = some (.int .i64 v.cwin) ∧ w.cell? ⟨k, 9, none⟩ = some (.int .i64 v.cbits) ∧ w.cell? ⟨k, 11, none⟩ = some (.int .i64 v.ra) ∧ w.cell? ⟨k, 12, none⟩ = some (.int .i64 v.rb) ∧ w.cell? ⟨k, 13, none⟩ = some (.int .i64 v.rc) ∧ w.cell? ⟨k, 14, none⟩ = some (.int .i64 v.rd) := by
  refine ⟨?_, ?_, ?_, ?_, ?_, ?_, ?_, ?_, ?_, ?_, ?_, ?_, ?_⟩ <;> (rw [cell_of_row w k _ _ _ _ h]; rfl)
set_option maxRecDepth 20000 in
set_option maxHeartbeats 2000000 in
theorem wvlt_any (g base : Nat) (v : Value) (bs : List Int) (x : Vlt) (A : Option Addr) (n c : Nat) (w : World) (hw : Wr w g base v bs) (hx : vOk x) (hs : Sl I w w.heap.size A n x.ws) (hA : ∀ a, A = some a → 0 < x.ws.length → ¬ foot g v a.block) (hlen : bs.length ≤ 990000) :
    Calls Try.prog 29 #[.pointer (some ⟨g, 0, none⟩), aV x A n c] w (WPost g base v (bs ++ encVt x) w) := by
  obtain ⟨W, hW⟩ : ∃ W : World, W = w.alloc (oV x A n c) := ⟨_, rfl⟩
  have hK : W.heap[w.heap.size]? = some (oV x A n c) := by rw [hW]; exact heap_alloc_new w _
  have hW0 : Wc g base v W bs W := by rw [hW]; exact Wc.start (hw.alloc _)
  have hF := hw.fresh
  have hBW : Below w.heap.size w W := by rw [hW]; exact (Below.refl _ _).alloc (Nat.le_refl _) _
  have hkeep : ∀ bs' V, Wc g base v W bs' V → V.heap[w.heap.size]? = some (oV x A n c) := fun bs' V h => (h.keep hF (lt_of_block hK)).trans hK
  have hpost : ∀ bs' V, Wc g base v W bs' V → WPost g base v bs' w (.returned (.tuple #[])) V := fun bs' V h => by rw [hW] at h; exact h.behind.post
  have hsl : ∀ bs' V, Wc g base v W bs' V → Sl I V V.heap.size A n x.ws := fun bs' V h => by
    obtain ⟨v1, h1, h2, h3⟩ := h
    exact ⟨hs.1, fun hn => ((SL.but ((hs.up hBW (Nat.le_refl _)).2) h2 hBW.size (fun a ha => hA a ha hn)).more (Nat.le_trans hBW.size h2.size)) hn⟩
  have hsf : ∀ v', NewRow v v' W → ∀ a, A = some a → 0 < x.ws.length → ¬ foot g v' a.block := fun v' h a ha h0 => by
    obtain ⟨b, off, e, hlt, _⟩ := hs.2 h0
    rw [ha] at e
    cases e
    exact foot_still h (hA _ ha h0) (Nat.lt_of_lt_of_le hlt hBW.size)
  have HK := Lib.hid hkeep
  have HP := Lib.hid hpost
  have HSL := Lib.hid hsl
  have HSF := Lib.hid hsf
  have HAA := Lib.hid hA
  have H0 := Lib.hid hW0
  have HWE := Lib.hid hW
  have HX := Lib.hid hx
  have HLN : Hid (x.ws.length = n) := hs.1
  have hn3 : n ≤ 3 := by rw [← hs.1]; exact hx.1
  have h1 := enc_len n
  have h2 := encL_len x.ws
  have h3 := encL_len [x.data, x.total, x.thr]
  have h4 := encL_len [x.cmin, x.cmax, x.cwin, x.cbits]
  have h5 := sB_len x.print
  have h6 := hx.2.2.2.1
  simp only [List.length_cons, List.length_nil, hs.1] at h2 h3 h4
  obtain ⟨c1, c2, c3, c4, c5, c6, c7, c8, c9, c10, c11, c12, c13⟩ := vlt_of hK
  have HC1 := Lib.hid (hW0.step (P := Try.prog) (fun v' hv' _ => wcount_any g base v' bs n W hv' (by omega) (by omega)))
  clear hw hx hK hW0 hF hkeep hpost hsl hsf hs hA hBW
  rw [hW] at c1 c2 c3 c4 c5 c6 c7 c8 c9 c10 c11 c12 c13
  clear hW
  go_enter Try.func29, Try.ntmps29
  go_wp2_with fail
  rw [← HWE.out]
  refine HC1.out.mono ?_
  rintro e w2 ⟨rfl, hw2⟩
  clear c1 c2 c3 c4 c5 c6 c7 c8 c9 c10 c11 c12 c13
  obtain ⟨c1, c2, c3, c4, c5, c6, c7, c8, c9, c10, c11, c12, c13⟩ := vlt_of (HK.out _ _ hw2)
  have HC2 := Lib.hid (hw2.step (P := Try.prog) (bs' := _ ++ encL x.ws) (fun v' hv' hn => wints_some g base v' _ A n c x.ws w2 hv' (HSL.out _ _ hw2) (HSF.out v' hn) HX.out.2.1 (by omega) (by simp only [List.length_append]; omega)))
  clear hw2
  go_wp2_with fail
  refine HC2.out.mono ?_
  rintro e w3 ⟨rfl, hw3⟩
  clear c1 c2 c3 c4 c5 c6 c7 c8 c9 c10 c11 c12 c13
  obtain ⟨c1, c2, c3, c4, c5, c6, c7, c8, c9, c10, c11, c12, c13⟩ := vlt_of (HK.out _ _ hw3)
  have HC3 := Lib.hid (hw3.ints [x.data, x.total, x.thr] 3 3 3 rfl HX.out.2.2.1 (by decide) (by simp only [List.length_append]; omega))
  clear hw3
  go_wp2_with fail
  refine HC3.out.mono ?_
  rintro e w4 ⟨rfl, hw4⟩
  clear c1 c2 c3 c4 c5 c6 c7 c8 c9 c10 c11 c12 c13
  obtain ⟨c1, c2, c3, c4, c5, c6, c7, c8, c9, c10, c11, c12, c13⟩ := vlt_of (HK.out _ _ hw4)
  have HC4 := Lib.hid (hw4.step (P := Try.prog) (fun v' hv' _ => wsum_any g base v' _ x.print w4 hv' h6 (by simp only [List.length_append]; omega)))
  clear hw4
  go_wp2_with fail
  refine HC4.out.mono ?_
  rintro e w5 ⟨rfl, hw5⟩
  clear c1 c2 c3 c4 c5 c6 c7 c8 c9 c10 c11 c12 c13
  obtain ⟨c1, c2, c3, c4, c5, c6, c7, c8, c9, c10, c11, c12, c13⟩ := vlt_of (HK.out _ _ hw5)
  have HC5 := Lib.hid (hw5.ints [x.cmin, x.cmax, x.cwin, x.cbits] 3 4 4 rfl HX.out.2.2.2.2.1 (by decide) (by simp only [List.length_append]; omega))
  clear hw5
  go_wp2_with fail
  refine HC5.out.mono ?_
  rintro e w6 ⟨rfl, hw6⟩
  clear c1 c2 c3 c4 c5 c6 c7 c8 c9 c10 c11 c12 c13
  obtain ⟨c1, c2, c3, c4, c5, c6, c7, c8, c9, c10, c11, c12, c13⟩ := vlt_of (HK.out _ _ hw6)
  have HC6 := Lib.hid (hw6.ints [x.ra, x.rb, x.rc, x.rd] 3 4 4 rfl HX.out.2.2.2.2.2 (by decide) (by simp only [List.length_append]; omega))
  clear hw6
  go_wp2_with fail
  refine HC6.out.mono ?_
  rintro e w7 ⟨rfl, hw7⟩
  have HW7 := Lib.hid hw7
  clear hw7 c1 c2 c3 c4 c5 c6 c7 c8 c9 c10 c11 c12 c13
  go_wp2
  go_end0
  have := HP.out _ _ HW7.out
  simp only [List.append_assoc] at this
  unfold encVt
  rw [HLN.out]
  exact this
end Go.Proofs.Ytkeicjokekmkpaa
namespace Go.Proofs.Ytkeicjokekmkpaa
open Go.RowKit Mb
set_option linter.unusedVariables false
set_option linter.unusedSimpArgs false

section
variable {w w' : World} {lab : Nat → Nat} {g : Nat} {S : Cst}
theorem Cir.fmem (h : Cir w lab g S) : ∃ A c, w.cell? ⟨g, 4, none⟩ = some (.slice A S.fm.length c) ∧ SlN fM 5 w w.heap.size A S.fm.length S.fm := by
  obtain ⟨vm, vv, bm, vfm, vfv, vc, ps1, ps2, h⟩ := h
  obtain ⟨A, c, rfl, hc, hs, _⟩ := h.fm.shape fM_len
  exact ⟨A, c, by rw [cell_of_row w g _ _ _ _ h.cell]; rfl, hs⟩
theorem Cir.fvlt (h : Cir w lab g S) : ∃ A c ps, w.cell? ⟨g, 5, none⟩ = some (.slice A S.fv.length c) ∧ VIn w w.heap.size A S.fv.length ps ∧ ps.map Prod.fst = S.fv ∧ (∀ p ∈ ps, p.2.n = p.1.ws.length) := by
  obtain ⟨vm, vv, bm, vfm, vfv, vc, ps1, ps2, h⟩ := h
  obtain ⟨A, c, rfl, hc, hv⟩ := h.fv.vin
  have hl : ps2.length = S.fv.length := by rw [← h.efv, List.length_map]
  rw [hl] at hv
  refine ⟨A, c, ps2, by rw [cell_of_row w g _ _ _ _ h.cell, ← hl]; rfl, hv, h.efv, fun p hp => ((hv.2 p hp).1).symm⟩
theorem Cir.chl (h : Cir w lab g S) : ∃ A c, w.cell? ⟨g, 6, none⟩ = some (.slice A S.chs.length c) ∧ SL fC w w.heap.size A S.chs := by
  obtain ⟨vm, vv, bm, vfm, vfv, vc, ps1, ps2, h⟩ := h
  obtain ⟨A, c, rfl, hc, hs, _⟩ := h.ch.shape
  exact ⟨A, c, by rw [cell_of_row w g _ _ _ _ h.cell]; rfl, hs⟩
theorem Wc.below0 {base b : Nat} {o : Obj} {bs : List Int} {V : World} (h : Wc b base (.slice none 0 0) (w.alloc o) bs V) (hb : w.heap.size ≤ b) : Below w.heap.size w V := by
  obtain ⟨v1, h1, h2, h3⟩ := h
  have hw : Below w.heap.size w (w.alloc o) := (Below.refl _ _).alloc (Nat.le_refl _) _
  refine hw.trans ⟨h2.os, h2.tape, h2.output, h2.size, fun k hk => h2.block k (by simp; omega) ?_⟩
  rintro (h | h)
  · omega
  · simp [Value.ownBlock] at h
end
theorem Try.sizeMm : (Try.prog.info? 44).map (·.size) = some 5 := by kernel_rfl
/-- The five cells of a member in a row. -/
theorem mem5 {w : World} {b off k : Nat} {m : Mem} (h : ∀ j v, (fM m)[j]? = some v → w.cell? ⟨b, off + (k * 5 + j), none⟩ = some v) :
    w.cell? ⟨b, off + k * 5, none⟩ = some (.int .i64 m.dev) ∧ w.cell? ⟨b, off + k * 5 + 1, none⟩ = some (.string m.name) ∧ w.cell? ⟨b, off + k * 5 + 2, none⟩ = some (.string m.pub) ∧ w.cell? ⟨b, off + k * 5 + 3, none⟩ = some (.int .i64 m.quota) ∧ w.cell? ⟨b, off + k * 5 + 4, none⟩ = some (.bool m.exp) := by
  refine ⟨?_, ?_, ?_, ?_, ?_⟩
  · exact h 0 _ rfl
  · rw [Nat.add_assoc]; exact h 1 _ rfl
  · rw [Nat.add_assoc]; exact h 2 _ rfl
  · rw [Nat.add_assoc]; exact h 3 _ rfl
  · rw [Nat.add_assoc]; exact h 4 _ rfl
theorem vlt15 {w : World} {b off k : Nat} {p : VP} (h : ∀ j v, (fP p)[j]? = some v → w.cell? ⟨b, off + (k * 15 + j), none⟩ = some v) :
    w.cell? ⟨b, off + k * 15, none⟩ = some (.int .i64 p.1.num) ∧ w.cell? ⟨b, off + k * 15 + 1, none⟩ = some (.slice p.2.a p.2.n p.2.c) ∧ w.cell? ⟨b, off + k * 15 + 2, none⟩ = some (.int .i64 p.1.data) ∧ w.cell? ⟨b, off + k * 15 + 3, none⟩ = some (.int .i64 p.1.total) ∧ w.cell? ⟨b, off + k * 15 + 4, none⟩ = some (.int .i64 p.1.thr) ∧ w.cell? ⟨b, off + k * 15 + 5, none⟩ = some (.string p.1.print) ∧ w.cell? ⟨b, off + k * 15 + 6, none⟩ = some (.int .i64 p.1.cmin) ∧ w.cell? ⟨b, off + k * 15 + 7, none⟩ = some (.int .i64 p.1.cmax) ∧ w.cell? ⟨b, off + k * 15 + 8, none⟩ = some (.int .i64 p.1.cwin) ∧ w.cell? ⟨b, off + k * 15 + 9, none⟩ = some (.int .i64 p.1.cbits) ∧ w.cell? ⟨b, off + k * 15 + 10, none⟩ = some (.int .u64 p.1.cseed) ∧ w.cell? ⟨b, off + k * 15 + 11, none⟩ = some (.int .i64 p.1.ra) ∧ w.cell? ⟨b, off + k * 15 + 12, none⟩ = some (.int .i64 p.1.rb) ∧ w.cell? ⟨b, off + k * 15 + 13, none⟩ = some (.int .i64 p.1.rc) ∧ w.cell? ⟨b, off + k * 15 + 14, none⟩ = some (.int .i64 p.1.rd) := by
  refine ⟨?_, ?_, ?_, ?_, ?_, ?_, ?_, ?_, ?_, ?_, ?_, ?_, ?_, ?_, ?_⟩
  · exact h 0 _ rfl
  · rw [Nat.add_assoc]; exact h 1 _ rfl
  · rw [Nat.add_assoc]; exact h 2 _ rfl
  · rw [Nat.add_assoc]; exact h 3 _ rfl
  · rw [Nat.add_assoc]; exact h 4 _ rfl
  · rw [Nat.add_assoc]; exact h 5 _ rfl
  · rw [Nat.add_assoc]; exact h 6 _ rfl
  · rw [Nat.add_assoc]; exact h 7 _ rfl
  · rw [Nat.add_assoc]; exact h 8 _ rfl
  · rw [Nat.add_assoc]; exact h 9 _ rfl
  · rw [Nat.add_assoc]; exact h 10 _ rfl
  · rw [Nat.add_assoc]; exact h 11 _ rfl
  · rw [Nat.add_assoc]; exact h 12 _ rfl
  · rw [Nat.add_assoc]; exact h 13 _ rfl
  · rw [Nat.add_assoc]; exact h 14 _ rfl
theorem ta_adm (m : Mem) (w : World) : (Instr.typeAssert (fC (.adm m)) 80 82 true).run Try.prog w = .ok (.tuple #[aM m, .bool true]) w := by
  simp [Instr.typeAssert, fC, go_sem]
abbrev zMm : Value := .agg #[.int .i64 0, .string ⟨#[]⟩, .string ⟨#[]⟩, .int .i64 0, .bool false]
theorem ta_bal1 (a b : Int) (w : World) : (Instr.typeAssert (fC (.bal a b)) 80 82 true).run Try.prog w = .ok (.tuple #[zMm, .bool false]) w := by
  simp [Instr.typeAssert, fC, go_sem]
theorem ta_bal2 (a b : Int) (w : World) : (Instr.typeAssert (fC (.bal a b)) 80 84 true).run Try.prog w = .ok (.tuple #[.agg #[.int .i64 a, .int .i64 b], .bool true]) w := by
  simp [Instr.typeAssert, fC, go_sem]
theorem ta_rep1 (v a b : Int) (w : World) : (Instr.typeAssert (fC (.rep v a b)) 80 82 true).run Try.prog w = .ok (.tuple #[zMm, .bool false]) w := by
  simp [Instr.typeAssert, fC, go_sem]
theorem ta_rep2 (v a b : Int) (w : World) : (Instr.typeAssert (fC (.rep v a b)) 80 84 true).run Try.prog w = .ok (.tuple #[.agg #[.int .i64 0, .int .i64 0], .bool false]) w := by
  simp [Instr.typeAssert, fC, go_sem]
theorem ta_rep3 (v a b : Int) (w : World) : (Instr.typeAssert (fC (.rep v a b)) 80 86 true).run Try.prog w = .ok (.tuple #[.agg #[.int .i64 v, .int .i64 a, .int .i64 b], .bool true]) w := by
  simp [Instr.typeAssert, fC, go_sem]
theorem Try.size_adm : (Try.prog.info? 82).map (·.size) = some 5 := by kernel_rfl
theorem Try.size_bal : (Try.prog.info? 84).map (·.size) = some 2 := by kernel_rfl
theorem Try.size_rep : (Try.prog.info? 86).map (·.size) = some 3 := by kernel_rfl
theorem adm_of {w : World} {k : Nat} {m : Mem} (h : w.heap[k]? = some (.cells (fM m).toArray 82 (0, 0))) : w.cell? ⟨k, 0, none⟩ = some (.int .i64 m.dev) ∧ w.cell? ⟨k, 1, none⟩ = some (.string m.name) ∧ w.cell? ⟨k, 2, none⟩ = some (.string m.pub) ∧ w.cell? ⟨k, 3, none⟩ = some (.int .i64 m.quota) ∧ w.cell? ⟨k, 4, none⟩ = some (.bool m.exp) := by
  refine ⟨?_, ?_, ?_, ?_, ?_⟩ <;> (rw [cell_of_row w k _ _ _ _ h]; rfl)
theorem Wc.join {g base : Nat} {v v1 : Value} {w0 w1 w2 : World} {bs : List Int} (k2 : But (foot g v) w0 w1) (k3 : NewRow v v1 w0) (h : Wc g base v1 w1 bs w2) : Wc g base v w0 bs w2 := by
  obtain ⟨v2, h1, h2, h3⟩ := h
  exact ⟨v2, h1, k2.wr k3 h2, k3.trans h3 k2.size⟩
/-- How long the parts are. -/
theorem part1 {S : Cst} (h : EInv S) (k : Nat) : (enc S.fm.length ++ (S.fm.take k).flatMap encM).length ≤ 900 := by
  have h1 := flat_le encM 68 (S.fm.take k) fun m hm => encM_len (h.ms m (List.mem_of_mem_take hm))
  have h2 := enc_len S.fm.length
  have h3 := h.fm
  rw [List.length_take] at h1
  rw [List.length_append]
  have : min k S.fm.length ≤ 12 := by omega
  have := Nat.mul_le_mul_left 68 this
  omega
theorem part2 {S : Cst} (h : EInv S) (k : Nat) : (enc S.fv.length ++ (S.fv.take k).flatMap encVt).length ≤ 2500 := by
  have h1 := flat_le encVt 200 (S.fv.take k) fun m hm => encVt_len (h.vs m (List.mem_of_mem_take hm))
  have h2 := enc_len S.fv.length
  have h3 := h.fv
  rw [List.length_take] at h1
  rw [List.length_append]
  have : min k S.fv.length ≤ 12 := by omega
  have := Nat.mul_le_mul_left 200 this
  omega
theorem part3 {S : Cst} (h : EInv S) (hc : S.chs.length ≤ 5000) (k : Nat) : (enc S.chs.length ++ (S.chs.take k).flatMap encX).length ≤ 391000 := by
  have h1 := flat_le encX 78 (S.chs.take k) fun m hm => encX_len (h.ch m (List.mem_of_mem_take hm))
  have h2 := enc_len S.chs.length
  rw [List.length_take] at h1
  rw [List.length_append]
  have : min k S.chs.length ≤ 5000 := by omega
  have := Nat.mul_le_mul_left 78 this
  omega
set_option maxRecDepth 20000 in
set_option maxHeartbeats 4000000 in
theorem encode_any (gc : Nat) (lab : Nat → Nat) (S : Cst) (w : World) (hC : Cir w lab gc S) (hE : EInv S) (hch : S.chs.length ≤ 5000) :
    Calls Try.prog 9 #[fG gc] w (Slc fB (encC S) w) := by
  obtain ⟨A1, k1, d1, hs1⟩ := hC.fmem
  obtain ⟨A2, k2, ps, d2, hs2, hps, hpn⟩ := hC.fvlt
  obtain ⟨A3, k3, d3, hs3⟩ := hC.chl
  have d4 := hC.quo
  have hgc := hC.lt
  obtain ⟨n1, hn1⟩ : ∃ n, S.fm.length = n := ⟨_, rfl⟩
  obtain ⟨n2, hn2⟩ : ∃ n, S.fv.length = n := ⟨_, rfl⟩
  obtain ⟨n3, hn3⟩ : ∃ n, S.chs.length = n := ⟨_, rfl⟩
  rw [hn1] at d1 hs1
  rw [hn2] at d2 hs2
  rw [hn3] at d3
  have HN1 := Lib.hid hn1
  have HN2 := Lib.hid hn2
  have HN3 := Lib.hid hn3
  have hn12 : n1 ≤ 12 := by rw [← hn1]; exact hE.fm
  have hv12 : n2 ≤ 12 := by rw [← hn2]; exact hE.fv
  have hc5 : n3 ≤ 5000 := by rw [← hn3]; exact hch
  have HS1 := Lib.hid hs1
  have HS2 := Lib.hid hs2
  have HS3 := Lib.hid hs3
  have HPS := Lib.hid hps
  have HPN := Lib.hid hpn
  have HE := Lib.hid hE
  have HCH := Lib.hid hch
  have hcells : ∀ bs V, Wc w.heap.size (w.heap.size + 1) (.slice none 0 0) (w.alloc (.cells #[.slice none 0 0, .int .i64 0] 116)) bs V → Below w.heap.size w V ∧ V.cell? ⟨gc, 4, none⟩ = some (.slice A1 n1 k1) ∧ V.cell? ⟨gc, 5, none⟩ = some (.slice A2 n2 k2) ∧ V.cell? ⟨gc, 6, none⟩ = some (.slice A3 n3 k3) ∧ V.cell? ⟨gc, 2, none⟩ = some (.int .i64 S.s.q) := fun bs V h => by
    have hb := h.below0 (Nat.le_refl _)
    exact ⟨hb, (hb.cell (p := ⟨gc, _, none⟩) hgc).trans d1, (hb.cell (p := ⟨gc, _, none⟩) hgc).trans d2, (hb.cell (p := ⟨gc, _, none⟩) hgc).trans d3, (hb.cell (p := ⟨gc, _, none⟩) hgc).trans d4⟩
  have HCE := Lib.hid hcells
  clear hn1 hn2 hn3 hs1 hs2 hs3 hps hpn hE hch d1 d2 d3 d4 hcells hC
  go_enter Try.func9, Try.ntmps9
  go_wp2_with fail
  refine (newWriter_any w).mono ?_
  rintro e V1 ⟨rfl, hV1⟩
  obtain ⟨V0, hV0⟩ : ∃ V, V = w.alloc (.cells #[.slice none 0 0, .int .i64 0] 116) := ⟨_, rfl⟩
  have hv0s : w.heap.size ≤ V0.heap.size := by rw [hV0]; simp
  have H1 : Hid (Wc w.heap.size (w.heap.size + 1) (.slice none 0 0) V0 [] V1) := by show Wc _ _ _ _ _ _; rw [← hV1, ← hV0, hV0]; exact Wc.start (Wr.new w)
  rw [← hV0] at HCE
  obtain ⟨gw, hgw⟩ : ∃ g, g = w.heap.size := ⟨_, rfl⟩
  have HGW := Lib.hid hgw
  rw [← hgw] at H1 HCE hv0s ⊢
  have HV0S := Lib.hid hv0s
  clear hV1 hV0 hgw hv0s
  obtain ⟨hb, d1, d2, d3, d4⟩ := HCE.out _ _ H1.out
  have HC1 := Lib.hid (H1.out.step (P := Try.prog) (fun v' hv' _ => wcount_any gw (gw + 1) v' _ n1 V1 hv' (by omega) (by simp)))
  clear hb
  go_wp2_with fail
  refine HC1.out.mono ?_
  rintro e V2 ⟨rfl, h⟩
  rw [List.nil_append] at h
  have H2 := Lib.hid h
  clear h d1 d2 d3 d4
  obtain ⟨hb, d1, d2, d3, d4⟩ := HCE.out _ _ H2.out
  clear hb
  go_wp2_with fail
  clear d1 d2 d3 d4
  go_loopw [30] (fun i wr => ∃ k : Nat, k ≤ n1 ∧ i = .int .i64 k ∧ Hid (Wc gw (gw + 1) (.slice none 0 0) V0 (enc n1 ++ (S.fm.take k).flatMap encM) wr)) (fun i _ => n1 - (intOf i).toNat)
  case atStart => exact ⟨0, Nat.zero_le _, rfl, by show Wc _ _ _ _ _ _; rw [List.take_zero, List.flatMap_nil, List.append_nil]; exact H2.out⟩
  case round =>
    obtain ⟨k, hk, rfl, HK⟩ := hrel
    obtain ⟨hb, d1, d2, d3, d4⟩ := HCE.out _ _ HK.out
    have HBK := Lib.hid hb
    clear hb
    by_cases hlt : k < n1
    · -- PART M
      obtain ⟨b, off, m, hA, hbB, hmk, hcell⟩ := (HS1.out.up HBK.out (Nat.le_of_eq HGW.out.symm)).at_ hlt
      subst hA
      obtain ⟨c0, c1, c2, c3, c4⟩ := mem5 hcell
      have hmo := HE.out.ms m (List.mem_of_getElem? hmk)
      have HT : Hid ((enc n1 ++ (S.fm.take k).flatMap encM) ++ encM m = enc n1 ++ (S.fm.take (k + 1)).flatMap encM) := by
        show _ = _
        rw [take_snoc hmk, flat_snoc, List.append_assoc]
      have hbl := part1 HE.out k
      rw [HN1.out] at hbl
      obtain ⟨W2, hW2⟩ : ∃ W2 : World, W2 = wr.alloc (.cells #[.int .i64 m.dev, .string m.name, .string m.pub, .int .i64 m.quota, .bool m.exp] 44) := ⟨_, rfl⟩
      have HC := Lib.hid ((HK.out.alloc (.cells #[.int .i64 m.dev, .string m.name, .string m.pub, .int .i64 m.quota, .bool m.exp] 44)).step (P := Try.prog) (fun v' hv' _ => wmem_any gw (gw + 1) v' _ m _ hv' hmo (by omega)))
      rw [← hW2] at HC
      have HW2 := Lib.hid hW2
      clear hcell hmk hmo hbl hbB hW2
      go_wp2_with (refine wpList_store_new (o := ⟨none, .store 44 (.tmp 5) (.tmp 33), _, _, _, _⟩) rfl 44 (.tmp 5) (.tmp 33) rfl 44 _ #[.int .i64 m.dev, .string m.name, .string m.pub, .int .i64 m.quota, .bool m.exp] rfl rfl Try.sizeMm rfl rfl ?_)
      rw [← HW2.out]
      refine HC.out.mono ?_
      rintro e w3 ⟨rfl, h⟩
      rw [HT.out] at h
      have H3 := Lib.hid h
      clear h c0 c1 c2 c3 c4 d1 d2 d3 d4
      go_wp2_with fail
      go_roundw
      case rel => exact ⟨k + 1, by omega, by go_num, H3⟩
      case measure => simp [intOf]; omega
      -- END M
    · obtain rfl : k = n1 := by omega
      have HE1 : Hid (Wc gw (gw + 1) (.slice none 0 0) V0 (enc k ++ S.fm.flatMap encM) wr) := by
        have h := HK.out
        rw [List.take_of_length_le (by have := HN1.out; omega)] at h
        exact h
      have hb1 := part1 HE.out k
      rw [List.take_of_length_le (by have := HN1.out; omega), HN1.out] at hb1
      obtain ⟨B1, hB1⟩ : ∃ B, enc k ++ S.fm.flatMap encM = B := ⟨_, rfl⟩
      have HB1 := Lib.hid hB1
      rw [hB1] at HE1 hb1
      have HC2 := Lib.hid (HE1.out.step (P := Try.prog) (fun v' hv' _ => wcount_any gw (gw + 1) v' _ n2 wr hv' (by omega) (by omega)))
      clear hB1 HK HBK
      go_wp2_with fail
      refine HC2.out.mono ?_
      rintro e V3 ⟨rfl, h⟩
      have H3 := Lib.hid h
      clear h d1 d2 d3 d4
      obtain ⟨hb, d1, d2, d3, d4⟩ := HCE.out _ _ H3.out
      clear hb
      go_wp2_with fail
      clear d1 d2 d3 d4
      go_loopw [52] (fun i wr => ∃ k : Nat, k ≤ n2 ∧ i = .int .i64 k ∧ Hid (Wc gw (gw + 1) (.slice none 0 0) V0 (B1 ++ (enc n2 ++ (S.fv.take k).flatMap encVt)) wr)) (fun i _ => n2 - (intOf i).toNat)
      case atStart => exact ⟨0, Nat.zero_le _, rfl, by show Wc _ _ _ _ _ _; rw [List.take_zero, List.flatMap_nil, List.append_nil]; exact H3.out⟩
      case round =>
        obtain ⟨k, hk, rfl, HK⟩ := hrel
        obtain ⟨hb, d1, d2, d3, d4⟩ := HCE.out _ _ HK.out
        have HBK := Lib.hid hb
        clear hb
        by_cases hlt : k < n2
        · -- PART V
          obtain ⟨b, off, p, hA, hbB, hpk, hcell⟩ := (HS2.out.1.up HBK.out (Nat.le_of_eq HGW.out.symm)).at_ hlt
          subst hA
          obtain ⟨c0, c1, c2, c3, c4, c5, c6, c7, c8, c9, c10, c11, c12, c13, c14⟩ := vlt15 hcell
          have hpm := List.mem_of_getElem? hpk
          have hvk : S.fv[k]? = some p.1 := by rw [← HPS.out, List.getElem?_map, hpk]; rfl
          have hvo := HE.out.vs p.1 (List.mem_of_getElem? hvk)
          have hws := HS2.out.2 p hpm
          have HT : Hid ((B1 ++ (enc n2 ++ (S.fv.take k).flatMap encVt)) ++ encVt p.1 = B1 ++ (enc n2 ++ (S.fv.take (k + 1)).flatMap encVt)) := by
            show _ = _
            rw [take_snoc hvk, flat_snoc]
            simp only [List.append_assoc]
          have hbl := part2 HE.out k
          rw [HN2.out] at hbl
          obtain ⟨W2, hW2⟩ : ∃ W2 : World, W2 = wr.alloc (oV p.1 p.2.a p.2.n p.2.c) := ⟨_, rfl⟩
          have hbw : Below w.heap.size w W2 := by
            rw [← HGW.out, hW2]
            exact HBK.out.alloc (Nat.le_trans (Nat.le_of_eq HGW.out) HBK.out.size) _
          have HC := Lib.hid ((HK.out.alloc (oV p.1 p.2.a p.2.n p.2.c)).step (P := Try.prog) (fun v' hv' hn => wvlt_any gw (gw + 1) v' _ p.1 p.2.a p.2.n p.2.c _ hv' hvo (hW2 ▸ (hws.up hbw (Nat.le_refl _)).more' hbw.size) (fun a ha h0 => by
            obtain ⟨b3, off3, e3, hlt3, _⟩ := hws.2 h0
            rw [ha] at e3
            cases e3
            rintro (h5 | h5)
            · have := HGW.out; simp only at h5; omega
            · rcases hn with h6 | ⟨j, h6, hj⟩
              · rw [h6] at h5; simp [Value.ownBlock] at h5
              · rw [h6] at h5; injection h5 with h5; have := HGW.out; have := HV0S.out; simp only at h5; omega) (by simp only [List.length_append] at hbl ⊢; omega)))
          rw [← hW2] at HC
          have HW2 := Lib.hid hW2
          clear hcell hpk hpm hvk hvo hws hbl hbB hW2 hbw
          go_wp2_with (refine wpList_store_new (o := ⟨none, .store 36 (.tmp 7) (.tmp 55), _, _, _, _⟩) rfl 36 (.tmp 7) (.tmp 55) rfl 36 _ #[.int .i64 p.1.num, .slice p.2.a p.2.n p.2.c, .int .i64 p.1.data, .int .i64 p.1.total, .int .i64 p.1.thr, .string p.1.print, .int .i64 p.1.cmin, .int .i64 p.1.cmax, .int .i64 p.1.cwin, .int .i64 p.1.cbits, .int .u64 p.1.cseed, .int .i64 p.1.ra, .int .i64 p.1.rb, .int .i64 p.1.rc, .int .i64 p.1.rd] rfl rfl Try.sizeV rfl rfl ?_)
          rw [← HW2.out]
          refine HC.out.mono ?_
          rintro e w3 ⟨rfl, h⟩
          rw [HT.out] at h
          have H4 := Lib.hid h
          clear h c0 c1 c2 c3 c4 c5 c6 c7 c8 c9 c10 c11 c12 c13 c14 d1 d2 d3 d4
          go_wp2_with fail
          go_roundw
          case rel => exact ⟨k + 1, by omega, by go_num, H4⟩
          case measure => simp [intOf]; omega
          -- END V
        · obtain rfl : n2 = k := by omega
          have HE2 : Hid (Wc gw (gw + 1) (.slice none 0 0) V0 (B1 ++ (enc n2 ++ S.fv.flatMap encVt)) wr) := by
            have h := HK.out
            rw [List.take_of_length_le (by have := HN2.out; omega)] at h
            exact h
          have hb2 := part2 HE.out n2
          rw [List.take_of_length_le (by have := HN2.out; omega), HN2.out] at hb2
          obtain ⟨B2, hB2⟩ : ∃ B, enc n2 ++ S.fv.flatMap encVt = B := ⟨_, rfl⟩
          have HB2 := Lib.hid hB2
          rw [hB2] at HE2 hb2
          have hb3 := encL_len [S.s.q]
          simp only [List.length_cons, List.length_nil] at hb3
          have HC3 := Lib.hid (HE2.out.ints [S.s.q] 3 1 1 rfl (fun x hx => by obtain rfl := List.mem_singleton.1 hx; exact HE.out.q) (by decide) (by simp only [List.length_append]; omega))
          clear hB2 HK HBK
          go_wp2_with fail
          refine HC3.out.mono ?_
          rintro e V5 ⟨rfl, h⟩
          have H5 := Lib.hid h
          clear h d1 d2 d3 d4
          obtain ⟨hb, d1, d2, d3, d4⟩ := HCE.out _ _ H5.out
          have HC4 := Lib.hid (H5.out.step (P := Try.prog) (fun v' hv' _ => wcount_any gw (gw + 1) v' _ n3 V5 hv' (by omega) (by simp only [List.length_append]; omega)))
          clear hb
          go_wp2_with fail
          refine HC4.out.mono ?_
          rintro e V6 ⟨rfl, h⟩
          have H6 := Lib.hid h
          clear h d1 d2 d3 d4
          obtain ⟨hb, d1, d2, d3, d4⟩ := HCE.out _ _ H6.out
          clear hb
          go_wp2_with fail
          clear d1 d2 d3 d4
          go_loopw [79] (fun i wr => ∃ k : Nat, k ≤ n3 ∧ i = .int .i64 k ∧ Hid (Wc gw (gw + 1) (.slice none 0 0) V0 (((B1 ++ B2) ++ encL [S.s.q]) ++ (enc n3 ++ (S.chs.take k).flatMap encX)) wr)) (fun i _ => n3 - (intOf i).toNat)
          case atStart => exact ⟨0, Nat.zero_le _, rfl, by show Wc _ _ _ _ _ _; rw [List.take_zero, List.flatMap_nil, List.append_nil]; exact H6.out⟩
          case round =>
            obtain ⟨k, hk, rfl, HK⟩ := hrel
            obtain ⟨hb, d1, d2, d3, d4⟩ := HCE.out _ _ HK.out
            have HBK := Lib.hid hb
            clear hb
            have hb4 := part3 HE.out HCH.out k
            rw [HN3.out] at hb4
            by_cases hlt : k < n3
            · obtain ⟨b, off, x, hA, hbB, hxk, hcell⟩ := (HS3.out.up HBK.out (Nat.le_of_eq HGW.out.symm)).at_ (k := k) (by rw [HN3.out]; exact hlt)
              subst hA
              have hxo := HE.out.ch x (List.mem_of_getElem? hxk)
              have HT : Hid ((((B1 ++ B2) ++ encL [S.s.q]) ++ (enc n3 ++ (S.chs.take k).flatMap encX)) ++ encX x = ((B1 ++ B2) ++ encL [S.s.q]) ++ (enc n3 ++ (S.chs.take (k + 1)).flatMap encX)) := by
                show _ = _
                rw [take_snoc hxk, flat_snoc]
                simp only [List.append_assoc]
              obtain ⟨B3, hB3⟩ : ∃ B, ((B1 ++ B2) ++ encL [S.s.q]) ++ (enc n3 ++ (S.chs.take k).flatMap encX) = B := ⟨_, rfl⟩
              have hb5 : B3.length ≤ 400000 := by rw [← hB3]; simp only [List.length_append] at hb4 ⊢; omega
              rw [hB3] at HT HK
              clear hxk hbB hB3 hb4
              cases x with
              | adm m =>
                -- PART A
                have HX : Hid (mOk m) := hxo
                have ta1 := ta_adm m
                obtain ⟨v1, q1, q2, q3⟩ := HK.out
                obtain ⟨W2, hW2⟩ : ∃ W2 : World, W2 = wr.alloc (.cells #[.int .i64 m.dev, .string m.name, .string m.pub, .int .i64 m.quota, .bool m.exp] 82) := ⟨_, rfl⟩
                have hK2 : W2.heap[wr.heap.size]? = some (.cells (fM m).toArray 82 (0, 0)) := by rw [hW2]; exact heap_alloc_new wr _
                have hkeep : ∀ bs' V, Wc gw (gw + 1) v1 W2 bs' V → V.heap[wr.heap.size]? = some (.cells (fM m).toArray 82 (0, 0)) := fun bs' V h => (h.keep q1.fresh (lt_of_block hK2)).trans hK2
                have hz : Wc gw (gw + 1) v1 W2 B3 W2 := by rw [hW2]; exact Wc.start (q1.alloc _)
                have hjoin : ∀ bs' V, Wc gw (gw + 1) v1 W2 bs' V → Wc gw (gw + 1) (.slice none 0 0) V0 bs' V := fun bs' V h => Wc.join q2 q3 (by rw [hW2] at h; exact h.behind)
                have HJ := Lib.hid hjoin
                have HKE := Lib.hid hkeep
                have hsz : W2.heap.size = wr.heap.size + 1 := by rw [hW2]; simp
                have hc0 := hz.ints [1] 3 1 1 rfl (fun x hx => by obtain rfl := List.mem_singleton.1 hx; exact ⟨by decide, by decide⟩) (by decide) (by omega)
                rw [hsz] at hc0
                have HC : Hid (Calls Try.prog 30 #[.pointer (some ⟨gw, 0, none⟩), .slice (some ⟨wr.heap.size + 1, 0, none⟩) 1 1] (W2.alloc (.cells #[.int .i64 1] 3)) fun e w' => e = .returned (.tuple #[]) ∧ Wc gw (gw + 1) v1 W2 (B3 ++ encL [1]) w') := hc0
                have HW2 := Lib.hid hW2
                have HTX : Hid ((B3 ++ encL [1]) ++ encM m = B3 ++ encX (.adm m)) := by show _ = _; rw [List.append_assoc]; rfl
                clear hxo q1 q2 q3 hK2 hkeep hz hjoin hW2 hsz hc0
                go_wp2_with fail
                rw [← HW2.out]
                refine HC.out.mono ?_
                rintro e w3 ⟨rfl, h⟩
                obtain ⟨c0, c1, c2, c3, c4⟩ := adm_of (HKE.out _ _ h)
                have hb6 := encL_len [1]
                simp only [List.length_cons, List.length_nil] at hb6
                have HC6 := Lib.hid (h.step (P := Try.prog) (fun v' hv' _ => wmem_any gw (gw + 1) v' _ m w3 hv' HX.out (by rw [List.length_append]; omega)))
                clear h
                go_wp2_with fail
                refine HC6.out.mono ?_
                rintro e w4 ⟨rfl, h⟩
                rw [HTX.out, HT.out] at h
                have H4 := Lib.hid (HJ.out _ _ h)
                clear h c0 c1 c2 c3 c4 d1 d2 d3 d4 ta1
                go_wp2_with fail
                go_roundw
                case rel => exact ⟨k + 1, by omega, by go_num, H4⟩
                case measure => simp [intOf]; omega
                -- END A
              | bal a b =>
                -- PART B
                have ta1 := ta_bal1 a b
                have ta2 := ta_bal2 a b
                have hxl : ∀ x ∈ [2, a, b], nOk x := by
                  intro x hx
                  simp only [List.mem_cons, List.not_mem_nil, or_false] at hx
                  rcases hx with rfl | rfl | rfl
                  · exact ⟨by decide, by decide⟩
                  · exact hxo.1
                  · exact hxo.2
                have hsz : (wr.alloc (.cells #[.int .i64 a, .int .i64 b] 84)).heap.size = wr.heap.size + 1 := by simp
                have hc0 := (HK.out.alloc (.cells #[.int .i64 a, .int .i64 b] 84)).ints [2, a, b] 3 3 3 rfl hxl (by decide) (by omega)
                rw [hsz] at hc0
                have HC : Hid (Calls Try.prog 30 #[.pointer (some ⟨gw, 0, none⟩), .slice (some ⟨wr.heap.size + 1, 0, none⟩) 3 3] ((wr.alloc (.cells #[.int .i64 a, .int .i64 b] 84)).alloc (.cells #[.int .i64 2, .int .i64 a, .int .i64 b] 3)) fun e w' => e = .returned (.tuple #[]) ∧ Wc gw (gw + 1) (.slice none 0 0) V0 (B3 ++ encL [2, a, b]) w') := hc0
                have HTX : Hid (B3 ++ encL [2, a, b] = B3 ++ encX (.bal a b)) := rfl
                clear hxo hxl hsz hc0
                go_wp2_with fail
                refine HC.out.mono ?_
                rintro e w4 ⟨rfl, h⟩
                rw [HTX.out, HT.out] at h
                have H4 := Lib.hid h
                clear h d1 d2 d3 d4
                go_wp2_with fail
                go_roundw
                case rel => exact ⟨k + 1, by omega, by go_num, H4⟩
                case measure => simp [intOf]; omega
                -- END B
              | rep v a b =>
                -- PART R
                have ta1 := ta_rep1 v a b
                have ta2 := ta_rep2 v a b
                have ta3 := ta_rep3 v a b
                have hxl : ∀ x ∈ [3, v, a, b], nOk x := by
                  intro x hx
                  simp only [List.mem_cons, List.not_mem_nil, or_false] at hx
                  rcases hx with rfl | rfl | rfl | rfl
                  · exact ⟨by decide, by decide⟩
                  · exact hxo.1
                  · exact hxo.2.1
                  · exact hxo.2.2
                have hsz : (wr.alloc (.cells #[.int .i64 v, .int .i64 a, .int .i64 b] 86)).heap.size = wr.heap.size + 1 := by simp
                have hc0 := (HK.out.alloc (.cells #[.int .i64 v, .int .i64 a, .int .i64 b] 86)).ints [3, v, a, b] 3 4 4 rfl hxl (by decide) (by omega)
                rw [hsz] at hc0
                have HC : Hid (Calls Try.prog 30 #[.pointer (some ⟨gw, 0, none⟩), .slice (some ⟨wr.heap.size + 1, 0, none⟩) 4 4] ((wr.alloc (.cells #[.int .i64 v, .int .i64 a, .int .i64 b] 86)).alloc (.cells #[.int .i64 3, .int .i64 v, .int .i64 a, .int .i64 b] 3)) fun e w' => e = .returned (.tuple #[]) ∧ Wc gw (gw + 1) (.slice none 0 0) V0 (B3 ++ encL [3, v, a, b]) w') := hc0
                have HTX : Hid (B3 ++ encL [3, v, a, b] = B3 ++ encX (.rep v a b)) := rfl
                clear hxo hxl hsz hc0
                go_wp2_with fail
                refine HC.out.mono ?_
                rintro e w4 ⟨rfl, h⟩
                rw [HTX.out, HT.out] at h
                have H4 := Lib.hid h
                clear h d1 d2 d3 d4
                go_wp2_with fail
                go_roundw
                case rel => exact ⟨k + 1, by omega, by go_num, H4⟩
                case measure => simp [intOf]; omega
                -- END R
            · obtain rfl : n3 = k := by omega
              have HE3 : Hid (Wc gw (gw + 1) (.slice none 0 0) V0 (encC S) wr) := by
                have h := HK.out
                rw [List.take_of_length_le (by have := HN3.out; omega), ← HB1.out, ← HB2.out] at h
                show Wc _ _ _ _ _ _
                unfold encC
                rw [HN1.out, HN2.out, HN3.out]
                simp only [List.append_assoc] at h ⊢
                exact h
              obtain ⟨v9, hw9, _, _⟩ := HE3.out
              have HD := Lib.hid (wdone_any gw (gw + 1) v9 (encC S) wr hw9 (by have := encC_len HE.out HCH.out; omega))
              clear hw9 hb4
              go_wp2_with fail
              refine HD.out.mono ?_
              rintro e V9 ⟨A9, n9, c9, rfl, q1, q2, q3⟩
              have Q1 := Lib.hid q1
              have Q2 := Lib.hid q2
              have Q3 := Lib.hid q3
              clear q1 q2 q3
              go_wp2_with fail
              go_ret
              exact ⟨A9, n9, c9, rfl, Q1.out, Q2.out, (HGW.out ▸ HBK.out : Below w.heap.size w wr).trans (Q3.out.mono HBK.out.size)⟩
end Go.Proofs.Ytkeicjokekmkpaa
