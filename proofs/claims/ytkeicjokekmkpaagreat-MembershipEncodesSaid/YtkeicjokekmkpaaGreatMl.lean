/- Words over whatever program: a string's bytes appended to bytes that the call owns. The encoding of members and vaults, plainly. wire.Reader: limited. Plain facts on encodings of numbers: what number reads of them. Bytes turned to a string; a block of bytes taken. A block of bytes taken: what it is, plainly. -/
import Derived.Test.YtkeicjokekmkpaaGreatMa
import Derived.Lib.AppendStr
import Derived.Test.YtkeicjokekmkpaaGreatMb
import Derived.Test.YtkeicjokekmkpaaGreatMc
import Derived.Test.YtkeicjokekmkpaaGreatWiA
import Derived.Laws.BytesArg
namespace Go.Proofs.YtkeicjokekmkpaaGreat
open Go.RowKit Go.Lib
set_option linter.unusedVariables false
set_option linter.unusedSimpArgs false

/-- A string's bytes. -/
def sB (s : ByteArray) : List Int := s.data.toList.map fun b => (b.toNat : Int)
theorem sB_len (s : ByteArray) : (sB s).length = s.size := by unfold sB; rw [List.length_map, Array.length_toList]; rfl
theorem sB_rng (s : ByteArray) : ∀ b ∈ sB s, 0 ≤ b ∧ b < 256 := by
  intro b hb
  unfold sB at hb
  obtain ⟨x, _, rfl⟩ := List.mem_map.1 hb
  have := x.toNat_lt
  omega
theorem sB_cells (s : ByteArray) : strCells s = (sB s).map fB := by unfold strCells sB; rw [List.map_map]; rfl
section
variable {P : Program} {w : World}
theorem run_app_str (t u ty e : TypeId) (i : TypeInfo) (ht : P.underlying t = some (.slice e)) (hu : P.underlying u = some .string) (hi : P.info? e = some i) (hz : i.zero = some (.int .u8 0)) (hsize : i.size = 1) (hby : i.bytes = 1)
    (v : Value) (xs : List Int) (base : Nat) (hown : Own fB e w base v xs) (s : ByteArray) (hl : xs.length + s.size ≤ 140737488355328) (hbase : base ≤ w.heap.size) :
    ∃ v' w', (Builtin.append_ #[t, u] ty #[v, .string s]).run P w = .ok v' w' ∧ Own fB e w' base v' (xs ++ sB s) ∧ w.grownBy w' v.ownBlock ∧ (v'.ownBlock = v.ownBlock ∨ v'.ownBlock = some w.heap.size) := by
  obtain ⟨v', w', h1, h2, h3, h4⟩ := run_append_own_string (P := P) w base t u ty e i ht hu hi hz hsize hby v xs.length (xs.map fB) hown s (by unfold maxLen; omega) hl hbase
  refine ⟨v', w', h1, ?_, h3, ?_⟩
  · unfold Own
    rw [List.length_append, List.map_append, sB_len, ← sB_cells]
    exact h2
  · rcases hown.2 with ⟨rfl, h0⟩ | ⟨g, cap, cur, rfl, _, hg, hnc, hcm, hcs, htake⟩
    · by_cases hm : s.size = 0
      · rw [h4.2 ⟨rfl, hm⟩]
        exact .inl rfl
      · have hr := run_append_nil_string (P := P) w t u ty e i (.int .u8 0) ht hu hi hz s (by omega) (by omega) (by rw [hby]; omega)
        rw [h1] at hr
        injection hr with hv _
        rw [hv]
        exact .inr rfl
    · by_cases hroom : xs.length + s.size ≤ cap
      · have hr := run_append_room_string (P := P) w t u ty e i ht hu hi hsize g xs.length cap cur hg s hroom (by omega)
        rw [h1] at hr
        injection hr with hv _
        rw [hv]
        exact .inl rfl
      · have hr := run_append_grow_string (P := P) w t u ty e i (.int .u8 0) ht hu hi hz ⟨g, 0, none⟩ xs.length cap (xs.map fB) (by rw [hsize]; simp) (World.ownsRow.cells hown (g := g) rfl) s (by omega) (by omega) (by rw [hby]; exact growslice_fits (by omega) (by omega))
        rw [h1] at hr
        injection hr with hv _
        rw [hv]
        exact .inr rfl
theorem wp_app_str {o : Oper} {a : Act} {K : Act → World → Prop} {Q : Exit → Act → World → Prop} (sl x : Operand) (t u : TypeId)
    (ho : o.op = .call { callee := .builtin .append, args := #[sl, x], argTypes := #[t, u] })
    (e : TypeId) (i : TypeInfo) (ht : P.underlying t = some (.slice e)) (hu : P.underlying u = some .string) (hi : P.info? e = some i) (hz : i.zero = some (.int .u8 0)) (hsize : i.size = 1) (hby : i.bytes = 1)
    (v : Value) (xs : List Int) (base : Nat) (hs : a.eval sl = v) (hown : Own fB e w base v xs) (s : ByteArray) (hx : a.eval x = .string s) (hl : xs.length + s.size ≤ 140737488355328) (hbase : base ≤ w.heap.size)
    (h : ∀ v' w', Own fB e w' base v' (xs ++ sB s) → w.grownBy w' v.ownBlock → (v'.ownBlock = v.ownBlock ∨ v'.ownBlock = some w.heap.size) → K (a.put o.dst v') w') : o.wp P a w K Q := by
  obtain ⟨v', w', hr, h2, h3, h4⟩ := run_app_str (P := P) t u o.type e i ht hu hi hz hsize hby v xs base hown s hl hbase
  unfold Oper.wp execOp
  simp only [ho, resolve, invoke, builtin, Sem.run_bind, Sem.run_pure, Result.andThen_ok, List.map_toArray, List.map_cons, List.map_nil, hs, hx, hr]
  exact h v' w' h2 h3 h4
/-- 'append(v, s...)': v the call's own, s a string. -/
theorem wpList_app_str {ops : Array Oper} {rest : List Oper} {o : Oper} {a : Act} {Q : Exit → Act → World → Prop} (hgd : o.guard = none) (sl x : Operand) (t u : TypeId)
    (ho : o.op = .call { callee := .builtin .append, args := #[sl, x], argTypes := #[t, u] })
    (e : TypeId) (i : TypeInfo) (ht : P.underlying t = some (.slice e)) (hu : P.underlying u = some .string) (hi : P.info? e = some i) (hz : i.zero = some (.int .u8 0)) (hsize : i.size = 1) (hby : i.bytes = 1)
    (v : Value) (xs : List Int) (base : Nat) (hs : a.eval sl = v) (hown : Own fB e w base v xs) (s : ByteArray) (hx : a.eval x = .string s) (hl : xs.length + s.size ≤ 140737488355328) (hbase : base ≤ w.heap.size)
    (h : ∀ v' w', Hid (Own fB e w' base v' (xs ++ sB s)) → Hid (w.grownBy w' v.ownBlock) → Hid (v'.ownBlock = v.ownBlock ∨ v'.ownBlock = some w.heap.size) → wpList P ops Q rest (a.put o.dst v') w') : wpList P ops Q (o :: rest) a w :=
  wpList_plain hgd fun _ hK => wp_app_str sl x t u ho e i ht hu hi hz hsize hby v xs base hs hown s hx hl hbase fun v' w' h2 h3 h4 => hK _ _ (h v' w' h2 h3 h4)
end
end Go.Proofs.YtkeicjokekmkpaaGreat
namespace Go.Proofs.YtkeicjokekmkpaaGreat
open Go.RowKit Mb
set_option linter.unusedVariables false
set_option linter.unusedSimpArgs false

def encL (xs : List Int) : List Int := xs.flatMap fun x => enc x.toNat
def encM (m : Mem) : List Int := enc m.name.size ++ (sB m.name ++ (sB m.pub ++ encL [m.quota]))
def encVt (v : Vlt) : List Int := enc v.ws.length ++ (encL v.ws ++ (encL [v.data, v.total, v.thr] ++ (sB v.print ++ (encL [v.cmin, v.cmax, v.cwin, v.cbits] ++ encL [v.ra, v.rb, v.rc, v.rd]))))
def nOk (x : Int) : Prop := 0 ≤ x ∧ x ≤ 1099511627776
def mOk (m : Mem) : Prop := m.name.size ≤ 16 ∧ m.pub.size = 32 ∧ nOk m.quota
def vOk (v : Vlt) : Prop := v.ws.length ≤ 3 ∧ (∀ x ∈ v.ws, nOk x) ∧ (∀ x ∈ [v.data, v.total, v.thr], nOk x) ∧ v.print.size = 32 ∧ (∀ x ∈ [v.cmin, v.cmax, v.cwin, v.cbits], nOk x) ∧ (∀ x ∈ [v.ra, v.rb, v.rc, v.rd], nOk x)
theorem encL_len (xs : List Int) : (encL xs).length ≤ 10 * xs.length := by
  unfold encL
  induction xs with
  | nil => simp
  | cons x l ih => simp only [List.flatMap_cons, List.length_append, List.length_cons]; have := enc_len x.toNat; omega
theorem encL_app (xs ys : List Int) : encL (xs ++ ys) = encL xs ++ encL ys := by simp [encL]
theorem encL_snoc (xs : List Int) (x : Int) : encL (xs ++ [x]) = encL xs ++ enc x.toNat := by simp [encL]
theorem encM_len {m : Mem} (h : mOk m) : (encM m).length ≤ 68 := by
  have h1 := enc_len m.name.size
  have h2 := encL_len [m.quota]
  unfold encM
  simp only [List.length_append, sB_len, List.length_cons, List.length_nil] at *
  have := h.1
  have := h.2.1
  omega
theorem encVt_len {v : Vlt} (h : vOk v) : (encVt v).length ≤ 200 := by
  have h1 := enc_len v.ws.length
  have h2 := encL_len v.ws
  have h3 := encL_len [v.data, v.total, v.thr]
  have h4 := encL_len [v.cmin, v.cmax, v.cwin, v.cbits]
  have h5 := encL_len [v.ra, v.rb, v.rc, v.rd]
  have h6 := h.1
  have h7 := h.2.2.2.1
  unfold encVt
  simp only [List.length_append, sB_len, List.length_cons, List.length_nil] at *
  omega
theorem flat_le {α : Type} (f : α → List Int) (c : Nat) : ∀ (xs : List α), (∀ x ∈ xs, (f x).length ≤ c) → (xs.flatMap f).length ≤ c * xs.length
  | [], _ => by simp
  | x :: l, h => by
    have h1 := h x (List.mem_cons_self ..)
    have h2 := flat_le f c l fun y hy => h y (List.mem_cons_of_mem _ hy)
    rw [List.flatMap_cons, List.length_append, List.length_cons, Nat.mul_succ]
    omega
theorem take_mem {α : Type} {p : α → Prop} {xs : List α} (h : ∀ x ∈ xs, p x) (k : Nat) : ∀ x ∈ xs.take k, p x := fun x hx => h x (List.mem_of_mem_take hx)
theorem flat_snoc {α : Type} (f : α → List Int) (xs : List α) (x : α) : (xs ++ [x]).flatMap f = xs.flatMap f ++ f x := by simp
theorem mOk_of {m : Mem} {d : Int} (h : memB m d = true) : mOk m := by
  unfold memB nameB at h
  simp only [Bool.and_eq_true, decide_eq_true_eq] at h
  exact ⟨h.2.1.2.1, h.2.2.1, h.2.2.2.1, h.2.2.2.2.1⟩
theorem nOk_of {x : Int} (h0 : 0 ≤ x) (h1 : x ≤ 100000) : nOk x := ⟨h0, by omega⟩
end Go.Proofs.YtkeicjokekmkpaaGreat
namespace Go.Proofs.YtkeicjokekmkpaaGreat
open Go.RowKit
set_option linter.unusedVariables false
set_option linter.unusedSimpArgs false

theorem numF_nonneg (bs : List Int) (k acc i p : Nat) : 0 ≤ (numF bs k acc i p).1 := by
  induction k generalizing acc i p with
  | zero => simp [numF]
  | succ k ih =>
    rw [numF]
    split
    · simp
    · split
      · exact ih _ _ _
      · split
        · simp
        · show (0 : Int) ≤ ((_ : Nat) : Int)
          omega
/-- What limited reads. -/
def limF (m : Nat) (N : Int × Int × Nat) : Int × Int × Nat := if N.2.1 = 0 then (if (m : Int) < N.1 then (0, 2, N.2.2) else (N.1, 0, N.2.2)) else (0, N.2.1, N.2.2)

set_option maxRecDepth 20000 in
theorem limited_any (g : Nat) (A : Option Addr) (n c p m : Nat) (pv er0 : Int) (bs : List Int) (w : World) (hr : Rd w g A n c p pv er0) (hx : Sl fB w g A n bs) (hb : ∀ b ∈ bs, 0 ≤ b ∧ b < 256) (hp : p ≤ n) (hn : n ≤ 1000000) (hm : m ≤ 1000000) :
    Calls Tryz.prog 82 #[.pointer (some ⟨g, 0, none⟩), .int .i64 m] w fun e w' => e = .returned (.tuple #[.int .i64 (limF m (numF bs 10 0 0 p)).1, .int .i64 (limF m (numF bs 10 0 0 p)).2.1]) ∧ Rd w' g A n c (limF m (numF bs 10 0 0 p)).2.2 pv er0 ∧ But (fun k => k = g) w w' := by
  have HC := Lib.hid (number_any g A n c p pv er0 bs w hr hx hb hp hn)
  have hv0 := numF_nonneg bs 10 0 0 p
  obtain ⟨v, er, p', hN⟩ : ∃ v er p', numF bs 10 0 0 p = (v, er, p') := ⟨_, _, _, rfl⟩
  rw [hN] at HC hv0 ⊢
  clear hr hx hb hN
  simp only at hv0
  by_cases he : er = 0
  · subst he
    by_cases hlt : (m : Int) < v
    · have HL : Hid (limF m (v, 0, p') = (0, 2, p')) := by show _ = _; simp [limF, hlt]
      rw [HL.out]
      go_enter Tryz.func82, Tryz.ntmps82
      go_wp2_with (go_at_call 97; refine HC.out.mono ?_; rintro e w1 ⟨rfl, h1, h2⟩)
      go_ret2
      exact ⟨rfl, h1, h2⟩
    · have HL : Hid (limF m (v, 0, p') = (v, 0, p')) := by show _ = _; simp [limF, hlt]
      rw [HL.out]
      go_enter Tryz.func82, Tryz.ntmps82
      go_wp2_with (go_at_call 97; refine HC.out.mono ?_; rintro e w1 ⟨rfl, h1, h2⟩)
      go_ret2
      exact ⟨rfl, h1, h2⟩
  · have HL : Hid (limF m (v, er, p') = (0, er, p')) := by show _ = _; simp [limF, he]
    have heb : (er != 0) = true := by simp [he]
    rw [HL.out]
    go_enter Tryz.func82, Tryz.ntmps82
    go_wp2_with (go_at_call 97; refine HC.out.mono ?_; rintro e w1 ⟨rfl, h1, h2⟩)
    go_ret2
    exact ⟨rfl, h1, h2⟩

set_option maxRecDepth 20000 in
theorem limc_any (a b g : Nat) (A : Option Addr) (n c p m : Nat) (pv er0 : Int) (bs : List Int) (w : World) (ha : w.heap[a]? = some (.cells #[.pointer (some ⟨g, 0, none⟩)] 101 (0, 0))) (hbk : w.heap[b]? = some (.cells #[.int .i64 m] 3 (0, 0))) (hr : Rd w g A n c p pv er0) (hx : Sl fB w g A n bs) (hb : ∀ b ∈ bs, 0 ≤ b ∧ b < 256) (hp : p ≤ n) (hn : n ≤ 1000000) (hm : m ≤ 1000000) :
    Calls Tryz.prog 81 #[.pointer (some ⟨a, 0, none⟩), .pointer (some ⟨b, 0, none⟩)] w fun e w' => e = .returned (.tuple #[.int .i64 (limF m (numF bs 10 0 0 p)).1, .int .i64 (limF m (numF bs 10 0 0 p)).2.1]) ∧ Rd w' g A n c (limF m (numF bs 10 0 0 p)).2.2 pv er0 ∧ But (fun k => k = g) w w' := by
  have HC := Lib.hid (limited_any g A n c p m pv er0 bs w hr hx hb hp hn hm)
  obtain ⟨v, er, p', hN⟩ : ∃ v er p', limF m (numF bs 10 0 0 p) = (v, er, p') := ⟨_, _, _, rfl⟩
  rw [hN] at HC ⊢
  have ca := cell_of_row w a 0 _ _ _ ha
  have cb := cell_of_row w b 0 _ _ _ hbk
  simp at ca cb
  clear hr hx hb hN ha hbk
  go_enter Tryz.func81, Tryz.ntmps81
  go_wp2_with (go_at_call 82; refine HC.out.mono ?_; rintro e w1 ⟨rfl, h1, h2⟩)
  go_ret2
  exact ⟨rfl, h1, h2⟩
end Go.Proofs.YtkeicjokekmkpaaGreat
namespace Go.Proofs.YtkeicjokekmkpaaGreat

theorem split128 (n P : Nat) : n % 128 * P + n / 128 * (P * 128) = n * P := by
  have h := Nat.div_add_mod n 128
  have e : n * P = (128 * (n / 128) + n % 128) * P := by rw [h]
  rw [e, Nat.add_mul, Nat.mul_comm 128 (n / 128), Nat.mul_assoc, Nat.mul_comm 128 P]
  omega
theorem numF_enc (bs : List Int) : ∀ (k n i acc p : Nat), n < 128 ^ k → 0 < k → i < 10 → (∀ j, j < (encF k n).length → bs[p + j]? = (encF k n)[j]?) → (i = 0 ∨ 0 < n) → n * 128 ^ i < 18446744073709551616 →
    numF bs (10 - i) acc i p = (((acc + n * 128 ^ i : Nat) : Int), 0, p + (encF k n).length)
  | 0, _, _, _, _, _, h, _, _, _, _ => absurd h (by omega)
  | k + 1, n, i, acc, p, hn, _, hi, hb, h0, hfit => by
    obtain ⟨m, hm⟩ : ∃ m, 10 - i = m + 1 := ⟨9 - i, by omega⟩
    by_cases hlt : n < 128
    · have he : encF (k + 1) n = [(n : Int)] := by rw [encF, if_pos hlt]
      rw [he] at hb ⊢
      have h1 := hb 0 (by simp)
      simp only [Nat.add_zero, List.getElem?_cons_zero] at h1
      rw [hm, numF, h1]
      simp only []
      rw [if_neg (by omega), if_neg, Int.toNat_natCast]
      · rfl
      · intro hbad
        rcases hbad with ⟨h2, h3⟩ | ⟨h2, h3⟩
        · omega
        · subst h2
          have : 2 * 128 ^ 9 ≤ n * 128 ^ 9 := Nat.mul_le_mul_right _ (by omega)
          omega
    · have he : encF (k + 1) n = ((n % 128 + 128 : Nat) : Int) :: encF k (n / 128) := by rw [encF, if_neg hlt]
      rw [he] at hb ⊢
      have h1 := hb 0 (by simp)
      simp only [Nat.add_zero, List.getElem?_cons_zero] at h1
      have hk : 0 < k := by
        rcases k with _ | k
        · simp at hn; omega
        · omega
      have hd : n / 128 < 128 ^ k := by rw [Nat.pow_succ] at hn; omega
      have hs := split128 n (128 ^ i)
      have hi9 : i < 9 := by
        rcases Nat.lt_or_ge i 9 with h | h
        · exact h
        · obtain rfl : i = 9 := by omega
          have : 128 * 128 ^ 9 ≤ n * 128 ^ 9 := Nat.mul_le_mul_right _ (by omega)
          omega
      have ih := numF_enc bs k (n / 128) (i + 1) (acc + n % 128 * 128 ^ i) (p + 1) hd hk (by omega) (fun j hj => by
        have := hb (j + 1) (by simp; omega)
        rw [List.getElem?_cons_succ] at this
        rw [← this]; congr 1; omega) (.inr (by omega)) (by rw [Nat.pow_succ]; omega)
      rw [hm, numF, h1]
      simp only []
      have e1 : (((n % 128 + 128 : Nat) : Int) % 128).toNat = n % 128 := by omega
      rw [if_pos (by omega), e1, show m = 10 - (i + 1) by omega, ih, List.length_cons, Nat.pow_succ]
      simp only [Prod.mk.injEq, true_and]
      refine ⟨?_, by omega⟩
      congr 1
      omega
theorem numF_only (bs : List Int) (hb : ∀ b ∈ bs, 0 ≤ b ∧ b < 256) : ∀ (k acc i p p' : Nat) (v : Int), k + i = 10 → numF bs k acc i p = (v, 0, p') →
    ∃ n : Nat, v = ((acc + n * 128 ^ i : Nat) : Int) ∧ p' = p + (encF k n).length ∧ (∀ j, j < (encF k n).length → bs[p + j]? = (encF k n)[j]?) ∧ n < 128 ^ k ∧ (i = 0 ∨ 0 < n) ∧ n * 128 ^ i < 18446744073709551616
  | 0, acc, i, p, p', v, _, h => by simp [numF] at h
  | k + 1, acc, i, p, p', v, hki, h => by
    rw [numF] at h
    cases hx : bs[p]? with
    | none => rw [hx] at h; simp at h
    | some b =>
      rw [hx] at h
      simp only [] at h
      obtain ⟨h0, h1⟩ := hb b (List.mem_of_getElem? hx)
      by_cases hge : 128 ≤ b
      · rw [if_pos hge] at h
        obtain ⟨n, e1, e2, e3, e4, e5, e6⟩ := numF_only bs hb k _ _ _ p' v (by omega) h
        obtain ⟨m, hm⟩ : ∃ m : Nat, b = m := ⟨b.toNat, by omega⟩
        subst hm
        have em : ((m : Int) % 128).toNat = m % 128 := by omega
        rw [em] at e1
        have hn0 : 0 < n := by omega
        have hq : (n * 128 + m % 128) / 128 = n := by omega
        have hr : (n * 128 + m % 128) % 128 = m % 128 := by omega
        have hs := split128 (n * 128 + m % 128) (128 ^ i)
        rw [hq, hr] at hs
        have he : encF (k + 1) (n * 128 + m % 128) = ((m : Nat) : Int) :: encF k n := by
          rw [encF, if_neg (by omega), hq, hr]
          congr 1
          omega
        rw [Nat.pow_succ] at e1 e6
        have hi9 : i < 9 := by
          rcases Nat.lt_or_ge i 9 with h | h
          · exact h
          · obtain rfl : i = 9 := by omega
            have : 1 * (128 ^ 9 * 128) ≤ n * (128 ^ 9 * 128) := Nat.mul_le_mul_right _ (by omega)
            omega
        have hfit : (n * 128 + m % 128) * 128 ^ i < 18446744073709551616 := by
          rw [← hs]
          have hP : 128 ^ i ≤ 128 ^ 8 := Nat.pow_le_pow_right (by omega) (by omega)
          have h1 : m % 128 * 128 ^ i + 128 ^ i ≤ 128 ^ i * 128 := by
            have : m % 128 * 128 ^ i ≤ 127 * 128 ^ i := Nat.mul_le_mul_right _ (by omega)
            omega
          have h2 : 128 ^ i * 128 ∣ 18446744073709551616 := by
            have e : 18446744073709551616 = 128 ^ i * 128 * 2 ^ (64 - 7 * (i + 1)) := by
              have e7 : (128 : Nat) ^ i * 128 = 2 ^ (7 * (i + 1)) := by rw [← Nat.pow_succ, Nat.pow_mul]
              rw [e7, ← Nat.pow_add, show 7 * (i + 1) + (64 - 7 * (i + 1)) = 64 by omega]
            exact ⟨_, e⟩
          obtain ⟨c, hc⟩ := h2
          have hPp : 0 < 128 ^ i := Nat.pow_pos (by omega)
          rw [hc] at e6
          have h3 : n < c := by
            rcases Nat.lt_or_ge n c with h | h
            · exact h
            · have : c * (128 ^ i * 128) ≤ n * (128 ^ i * 128) := Nat.mul_le_mul_right _ h
              rw [Nat.mul_comm c] at this
              omega
          have h4 : (n + 1) * (128 ^ i * 128) ≤ c * (128 ^ i * 128) := Nat.mul_le_mul_right _ h3
          rw [Nat.mul_comm c, ← hc, Nat.add_mul, Nat.one_mul] at h4
          omega
        refine ⟨n * 128 + m % 128, ?_, ?_, ?_, ?_, .inr (by omega), hfit⟩
        · rw [e1, ← hs]; congr 1; omega
        · rw [he, e2, List.length_cons]; omega
        · rw [he]
          intro j hj
          rcases j with _ | j
          · simpa using hx
          · rw [List.getElem?_cons_succ, ← e3 j (by simpa using hj)]; congr 1; omega
        · rw [Nat.pow_succ]; omega
      · rw [if_neg hge] at h
        split at h
        · simp at h
        · rename_i hok
          simp only [Prod.mk.injEq, true_and] at h
          obtain ⟨e1, e2⟩ := h
          obtain ⟨m, hm⟩ : ∃ m : Nat, b = m := ⟨b.toNat, by omega⟩
          subst hm
          have he : encF (k + 1) m = [(m : Int)] := by rw [encF, if_pos (by omega)]
          refine ⟨m, by rw [← e1, Int.toNat_natCast], by rw [he]; exact e2.symm, ?_, ?_, ?_, ?_⟩
          · rw [he]
            intro j hj
            obtain rfl : j = 0 := by simpa using hj
            simpa using hx
          · have : 128 ^ 1 ≤ 128 ^ (k + 1) := Nat.pow_le_pow_right (by omega) (by omega)
            omega
          · rcases Nat.eq_zero_or_pos i with h | h
            · exact .inl h
            · right
              rcases Nat.eq_zero_or_pos m with h2 | h2
              · exact absurd (.inl ⟨h, by omega⟩) hok
              · exact h2
          · rcases Nat.lt_or_ge i 9 with h | h
            · have h8 : 128 ^ i ≤ 128 ^ 8 := Nat.pow_le_pow_right (by omega) (by omega)
              have : m * 128 ^ i ≤ 127 * 128 ^ 8 := Nat.mul_le_mul (by omega) h8
              omega
            · obtain rfl : i = 9 := by omega
              have hm1 : m ≤ 1 := by
                rcases Nat.lt_or_ge 1 m with h2 | h2
                · exact absurd (.inr ⟨rfl, by omega⟩) hok
                · exact h2
              have : m * 128 ^ 9 ≤ 1 * 128 ^ 9 := Nat.mul_le_mul_right _ hm1
              omega
end Go.Proofs.YtkeicjokekmkpaaGreat
namespace Go.Proofs.YtkeicjokekmkpaaGreat
open Go.RowKit Go.Lib
set_option linter.unusedVariables false
set_option linter.unusedSimpArgs false

theorem run_conv_sl {P : Program} (src e dst : TypeId) (hs : P.underlying src = some (.slice e)) (he : P.underlying e = some (.int .u8)) (hd : P.underlying dst = some .string) (w : World) (B : Nat) (A : Option Addr) (n c : Nat) (xs : List Int) (h : Sl fB w B A n xs) :
    (convert src dst (.slice A n c)).run P w = .ok (.string (strOfNums xs)) w := by
  obtain ⟨rfl, h⟩ := h
  cases xs with
  | nil =>
    cases A with
    | none => exact run_convert_bytes_nil w src e hs he _ c dst hd
    | some ad =>
      rw [run_convert_bytes_string w src dst e _ _ c hs he hd]
      simp [Conv.bytesToString, strOfNums, loadCells, loadCellsFrom]
      rfl
  | cons x l =>
    obtain ⟨b, off, rfl, _, hc⟩ := h (by simp)
    exact run_convert_bytes_arg w src e hs he b off _ c (x :: l) rfl (fun i hi => by
      obtain ⟨z, hz⟩ := get_ex hi
      rw [hc i z hz, getD_of hz]) dst hd

/-- A string of these bytes. -/
def baOf (xs : List Int) : ByteArray := strOfNums xs
def baNo : ByteArray := ⟨#[]⟩
theorem baOf_sB {xs : List Int} (h : ∀ b ∈ xs, 0 ≤ b ∧ b < 256) : sB (baOf xs) = xs := by
  unfold sB baOf strOfNums
  simp only [List.map_map]
  conv => rhs; rw [← List.map_id xs]
  apply List.map_congr_left
  intro x hx
  have := h x hx
  show ((UInt8.ofNat x.toNat).toNat : Int) = x
  rw [UInt8.toNat_ofNat']
  omega
theorem encF_rng : ∀ (k n : Nat), ∀ b ∈ encF k n, 0 ≤ b ∧ b < 256
  | 0, _, b, h => by simp [encF] at h
  | k + 1, n, b, h => by
    rw [encF] at h
    split at h
    · obtain rfl := List.mem_singleton.1 h; omega
    · rcases List.mem_cons.1 h with rfl | h
      · omega
      · exact encF_rng k _ b h
theorem enc_rng (n : Nat) : ∀ b ∈ enc n, 0 ≤ b ∧ b < 256 := encF_rng 10 n
end Go.Proofs.YtkeicjokekmkpaaGreat
namespace Go.Proofs.YtkeicjokekmkpaaGreat
open Go.RowKit Go.Lib
set_option linter.unusedVariables false
set_option linter.unusedSimpArgs false

def tkL (bs : List Int) (n p : Nat) : List Int × Int × Nat := if bs.length < p + n then ([], 3, p) else ((bs.drop p).take n, 0, p + n)
def tkF (bs : List Int) (n p : Nat) : ByteArray × Int × Nat := (baOf (tkL bs n p).1, (tkL bs n p).2)
def blkL (bs : List Int) (m p : Nat) : List Int × Int × Nat :=
  if (limF m (numF bs 10 0 0 p)).2.1 = 0 then tkL bs (limF m (numF bs 10 0 0 p)).1.toNat (limF m (numF bs 10 0 0 p)).2.2 else ([], (limF m (numF bs 10 0 0 p)).2.1, (limF m (numF bs 10 0 0 p)).2.2)
def blkF (bs : List Int) (m p : Nat) : ByteArray × Int × Nat := (baOf (blkL bs m p).1, (blkL bs m p).2)
theorem tkF_eq (bs : List Int) (n p : Nat) : tkF bs n p = if bs.length < p + n then (baNo, 3, p) else (baOf ((bs.drop p).take n), 0, p + n) := by
  unfold tkF tkL
  split <;> rfl
theorem blkF_eq (bs : List Int) (m p : Nat) : blkF bs m p = if (limF m (numF bs 10 0 0 p)).2.1 = 0 then tkF bs (limF m (numF bs 10 0 0 p)).1.toNat (limF m (numF bs 10 0 0 p)).2.2 else (baNo, (limF m (numF bs 10 0 0 p)).2.1, (limF m (numF bs 10 0 0 p)).2.2) := by
  unfold blkF blkL
  split <;> rfl
/-- A reader's state: the place, the error. -/
abbrev RS := Nat × Int
def rV {α : Type} (s : RS) (z : α) (N : α × Int × Nat) : α × RS := if s.2 = 0 then (if N.2.1 = 0 then (N.1, N.2.2, 0) else (z, s.1, N.2.1)) else (z, s)
def rU (bs : List Int) (s : RS) : Int × RS := rV s 0 (numF bs 10 0 0 s.1)
def rI (bs : List Int) (s : RS) : Int × RS := (IntKind.i64.wrap (rU bs s).1, (rU bs s).2)
def rC (bs : List Int) (m : Nat) (s : RS) : Int × RS := rV s 0 (limF m (numF bs 10 0 0 s.1))
def rT (bs : List Int) (m : Nat) (s : RS) : ByteArray × RS := rV s baNo (blkF bs m s.1)
def rS (bs : List Int) (s : RS) : ByteArray × RS := rV s baNo (tkF bs 32 s.1)
theorem rV_ok {α : Type} {s : RS} {z : α} {N : α × Int × Nat} (h : (rV s z N).2.2 = 0) : s.2 = 0 ∧ N.2.1 = 0 ∧ rV s z N = (N.1, N.2.2, 0) := by
  unfold rV at h ⊢
  by_cases h1 : s.2 = 0
  · by_cases h2 : N.2.1 = 0
    · exact ⟨h1, h2, by rw [if_pos h1, if_pos h2]⟩
    · rw [if_pos h1, if_neg h2] at h; exact absurd h h2
  · rw [if_neg h1] at h; exact absurd h h1
theorem rV_go {α : Type} {p : Nat} {z : α} {N : α × Int × Nat} {v : α} {q : Nat} (h : N = (v, 0, q)) : rV (p, 0) z N = (v, q, 0) := by unfold rV; rw [h]; rfl
theorem rV_le {α : Type} {s : RS} {z : α} {N : α × Int × Nat} {n : Nat} (h : s.1 ≤ n) (hN : N.2.2 ≤ n) : (rV s z N).2.1 ≤ n := by
  unfold rV
  split
  · split
    · exact hN
    · exact h
  · exact h
end Go.Proofs.YtkeicjokekmkpaaGreat
