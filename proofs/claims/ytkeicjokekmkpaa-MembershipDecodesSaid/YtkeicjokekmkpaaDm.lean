/- Decoding a circle, plainly: what Decode computes; only encodings are decoded; what was encoded is decoded. Decoding a whole circle, plainly: only encodings are decoded; what was encoded is decoded. -/
import Derived.Test.YtkeicjokekmkpaaPe
import Derived.Test.YtkeicjokekmkpaaRm
namespace Go.Proofs.Ytkeicjokekmkpaa
open Go.RowKit Mb
set_option linter.unusedVariables false
set_option linter.unusedSimpArgs false

/-- These bytes lie at p. -/
def AtL (bs : List Int) (p : Nat) (xs : List Int) : Prop := ∀ j, j < xs.length → bs[p + j]? = xs[j]?
theorem AtL.nil {bs : List Int} {p : Nat} : AtL bs p [] := fun j hj => absurd hj (by simp)
theorem AtL.left {bs : List Int} {p : Nat} {xs ys : List Int} (h : AtL bs p (xs ++ ys)) : AtL bs p xs := fun j hj => by
  rw [h j (by rw [List.length_append]; omega), List.getElem?_append_left hj]
theorem AtL.right {bs : List Int} {p : Nat} {xs ys : List Int} (h : AtL bs p (xs ++ ys)) : AtL bs (p + xs.length) ys := fun j hj => by
  have := h (xs.length + j) (by rw [List.length_append]; omega)
  rw [List.getElem?_append_right (by omega), Nat.add_sub_cancel_left, ← Nat.add_assoc] at this
  exact this
theorem AtL.app {bs : List Int} {p : Nat} {xs ys : List Int} (h1 : AtL bs p xs) (h2 : AtL bs (p + xs.length) ys) : AtL bs p (xs ++ ys) := fun j hj => by
  rcases Nat.lt_or_ge j xs.length with h | h
  · rw [List.getElem?_append_left h]; exact h1 j h
  · rw [List.getElem?_append_right h, ← h2 (j - xs.length) (by rw [List.length_append] at hj; omega)]
    congr 1; omega
theorem AtL.all {bs xs : List Int} (h : AtL bs 0 xs) (hl : xs.length = bs.length) : xs = bs := by
  apply List.ext_getElem?
  intro j
  rcases Nat.lt_or_ge j xs.length with h1 | h1
  · have := h j h1; rw [Nat.zero_add] at this; exact this.symm
  · rw [List.getElem?_eq_none h1, List.getElem?_eq_none (by omega)]
theorem AtL.self (bs : List Int) : AtL bs 0 bs := fun j _ => by rw [Nat.zero_add]
/-- From one state to the next these bytes were read. -/
def Ok (bs : List Int) (s s' : RS) (xs : List Int) : Prop := s'.1 = s.1 + xs.length ∧ AtL bs s.1 xs
theorem Ok.refl (bs : List Int) (s : RS) : Ok bs s s [] := ⟨rfl, AtL.nil⟩
theorem Ok.trans {bs : List Int} {s s' s'' : RS} {xs ys : List Int} (h : Ok bs s s' xs) (k : Ok bs s' s'' ys) : Ok bs s s'' (xs ++ ys) :=
  ⟨by rw [k.1, h.1, List.length_append, Nat.add_assoc], h.2.app (by have := k.2; rwa [h.1] at this)⟩
section
variable {bs : List Int} (hb : ∀ b ∈ bs, 0 ≤ b ∧ b < 256)
include hb
theorem num_only {p q : Nat} {v : Int} (h : numF bs 10 0 0 p = (v, 0, q)) : ∃ n : Nat, v = n ∧ n < 18446744073709551616 ∧ q = p + (enc n).length ∧ AtL bs p (enc n) := by
  obtain ⟨n, e1, e2, e3, _, _, e6⟩ := numF_only bs hb 10 0 0 p q v rfl h
  simp only [Nat.pow_zero, Nat.mul_one, Nat.zero_add] at e1 e6
  exact ⟨n, e1, e6, e2, e3⟩
theorem rU_only {s : RS} (h : (rU bs s).2.2 = 0) : s.2 = 0 ∧ ∃ n : Nat, (rU bs s).1 = n ∧ n < 18446744073709551616 ∧ Ok bs s (rU bs s).2 (enc n) := by
  obtain ⟨h1, h2, h3⟩ := rV_ok h
  refine ⟨h1, ?_⟩
  unfold rU
  rw [h3]
  exact num_only hb (show numF bs 10 0 0 s.1 = (_, 0, _) by rw [← h2])
theorem rI_only {s : RS} (h : (rI bs s).2.2 = 0) : s.2 = 0 ∧ (0 ≤ (rI bs s).1 → Ok bs s (rI bs s).2 (encL [(rI bs s).1])) := by
  obtain ⟨h1, n, h2, h3, h4, h5⟩ := rU_only hb h
  refine ⟨h1, fun h0 => ?_⟩
  have e : (rI bs s).1 = n := by
    have h0' : 0 ≤ IntKind.i64.wrap (rU bs s).1 := h0
    show IntKind.i64.wrap (rU bs s).1 = n
    rw [h2] at h0' ⊢
    rw [IntKind.wrap_i64] at h0' ⊢
    omega
  have e2 : encL [(rI bs s).1] = enc n := by rw [e]; simp [encL]
  rw [e2]
  exact ⟨h4, h5⟩
theorem lim_only {m p : Nat} (h : (limF m (numF bs 10 0 0 p)).2.1 = 0) : ∃ n : Nat, (limF m (numF bs 10 0 0 p)).1 = n ∧ n ≤ m ∧ (limF m (numF bs 10 0 0 p)).2.2 = p + (enc n).length ∧ AtL bs p (enc n) := by
  obtain ⟨v, e, q, hN⟩ : ∃ v e q, numF bs 10 0 0 p = (v, e, q) := ⟨_, _, _, rfl⟩
  rw [hN] at h ⊢
  unfold limF at h ⊢
  simp only at h ⊢
  by_cases h1 : e = 0
  · subst h1
    by_cases h2 : (m : Int) < v
    · simp [h2] at h
    · obtain ⟨n, rfl, _, e2, e3⟩ := num_only hb hN
      simp only [h2, if_true, if_false]
      exact ⟨n, rfl, by omega, e2, e3⟩
  · simp [h1] at h
theorem rC_only {m : Nat} {s : RS} (h : (rC bs m s).2.2 = 0) : s.2 = 0 ∧ ∃ n : Nat, (rC bs m s).1 = n ∧ n ≤ m ∧ Ok bs s (rC bs m s).2 (enc n) := by
  obtain ⟨h1, h2, h3⟩ := rV_ok h
  refine ⟨h1, ?_⟩
  unfold rC
  rw [h3]
  exact lim_only hb h2
theorem tk_only {n p : Nat} (h : (tkF bs n p).2.1 = 0) : (tkF bs n p).1.size = n ∧ (tkF bs n p).2.2 = p + n ∧ AtL bs p (sB (tkF bs n p).1) := by
  rw [tkF_eq] at h ⊢
  split at h
  · cases h
  · next h1 =>
    rw [if_neg h1]
    have hs : sB (baOf ((bs.drop p).take n)) = (bs.drop p).take n := baOf_sB (fun b hx => hb b (List.mem_of_mem_drop (List.mem_of_mem_take hx)))
    refine ⟨?_, rfl, ?_⟩
    · have := sB_len (baOf ((bs.drop p).take n))
      rw [hs, List.length_take, List.length_drop] at this
      show (baOf ((bs.drop p).take n)).size = n
      omega
    · show AtL bs p (sB (baOf ((bs.drop p).take n)))
      rw [hs]
      intro j hj
      rw [List.length_take] at hj
      rw [List.getElem?_take, if_pos (by omega), List.getElem?_drop]
theorem rS_only {s : RS} (h : (rS bs s).2.2 = 0) : s.2 = 0 ∧ (rS bs s).1.size = 32 ∧ Ok bs s (rS bs s).2 (sB (rS bs s).1) := by
  obtain ⟨h1, h2, h3⟩ := rV_ok h
  have h4 := tk_only hb h2
  refine ⟨h1, ?_⟩
  unfold rS
  rw [h3]
  refine ⟨h4.1, ?_, h4.2.2⟩
  show (tkF bs 32 s.1).2.2 = _
  rw [sB_len, h4.1, h4.2.1]
theorem rT_only {m : Nat} {s : RS} (h : (rT bs m s).2.2 = 0) : s.2 = 0 ∧ Ok bs s (rT bs m s).2 (enc (rT bs m s).1.size ++ sB (rT bs m s).1) := by
  obtain ⟨h1, h2, h3⟩ := rV_ok h
  refine ⟨h1, ?_⟩
  unfold rT
  rw [h3]
  rw [blkF_eq] at h2 ⊢
  by_cases h5 : (limF m (numF bs 10 0 0 s.1)).2.1 = 0
  · rw [if_pos h5] at h2 ⊢
    obtain ⟨n, e1, e2, e3, e4⟩ := lim_only hb h5
    rw [e1, e3, Int.toNat_natCast] at h2 ⊢
    have h6 := tk_only hb h2
    simp only
    rw [h6.1]
    refine ⟨?_, e4.app h6.2.2⟩
    show (tkF bs n (s.1 + (enc n).length)).2.2 = _
    rw [List.length_append, sB_len, h6.1, h6.2.1]
    omega
  · rw [if_neg h5] at h2
    exact absurd h2 h5
end
section
variable {bs : List Int}
theorem num_rt {p n : Nat} (h : AtL bs p (enc n)) (hn : n < 18446744073709551616) : numF bs 10 0 0 p = ((n : Int), 0, p + (enc n).length) := by
  have := numF_enc bs 10 n 0 0 p (by omega) (by omega) (by omega) h (.inl rfl) (by omega)
  simpa [enc] using this
theorem rU_rt {p n : Nat} (h : AtL bs p (enc n)) (hn : n < 18446744073709551616) : rU bs (p, 0) = ((n : Int), p + (enc n).length, 0) := rV_go (num_rt h hn)
theorem rI_rt {p : Nat} {x : Int} (h : AtL bs p (encL [x])) (hx : nOk x) : rI bs (p, 0) = (x, p + (encL [x]).length, 0) := by
  obtain ⟨n, rfl⟩ : ∃ n : Nat, x = n := ⟨x.toNat, by have := hx.1; omega⟩
  have e2 : encL [(n : Int)] = enc n := by simp [encL]
  rw [e2] at h ⊢
  have hb := hx.2
  have h1 := rU_rt h (by omega)
  have hw : IntKind.i64.wrap (n : Int) = n := by rw [IntWalk.i64_in _ (by omega)]
  unfold rI
  rw [h1]
  simp only
  rw [hw]
theorem lim_rt {p n m : Nat} (h : AtL bs p (enc n)) (hn : n ≤ m) (hm : m ≤ 1000000) : limF m (numF bs 10 0 0 p) = ((n : Int), 0, p + (enc n).length) := by
  rw [num_rt h (by omega)]
  unfold limF
  simp only [if_true]
  rw [if_neg (by omega)]
theorem rC_rt {p n m : Nat} (h : AtL bs p (enc n)) (hn : n ≤ m) (hm : m ≤ 1000000) : rC bs m (p, 0) = ((n : Int), p + (enc n).length, 0) := rV_go (lim_rt h hn hm)
theorem ba_eq {a b : ByteArray} (h : sB a = sB b) : a = b := by
  obtain ⟨⟨x⟩⟩ := a
  obtain ⟨⟨y⟩⟩ := b
  unfold sB at h
  simp only at h
  congr 2
  exact List.map_inj_right (f := fun b : UInt8 => (b.toNat : Int)) (fun u v huv => by
    have : u.toNat = v.toNat := by omega
    exact UInt8.toNat_inj.1 this) |>.1 h
theorem AtL.cut {p : Nat} {xs : List Int} (h : AtL bs p xs) : (bs.drop p).take xs.length = xs := by
  apply List.ext_getElem?
  intro j
  rw [List.getElem?_take]
  split
  · next hj => rw [List.getElem?_drop]; exact h j hj
  · next hj => rw [List.getElem?_eq_none (by omega)]
theorem AtL.fits {p : Nat} {xs : List Int} (h : AtL bs p xs) (h0 : 0 < xs.length) : p + xs.length ≤ bs.length := by
  rcases Nat.lt_or_ge bs.length (p + xs.length) with hlt | hlt
  · have := h (xs.length - 1) (by omega)
    rw [List.getElem?_eq_none (by omega), List.getElem?_eq_getElem (by omega)] at this
    cases this
  · exact hlt
theorem baOf_of (s : ByteArray) : baOf (sB s) = s := ba_eq (baOf_sB (sB_rng s))
theorem tk_rt {p : Nat} {s : ByteArray} (h : AtL bs p (sB s)) (h0 : 0 < s.size) : tkF bs s.size p = (s, 0, p + s.size) := by
  have hl := sB_len s
  have hf := h.fits (by omega)
  rw [tkF_eq, if_neg (by omega)]
  congr 1
  have hc := h.cut
  rw [hl] at hc
  rw [hc, baOf_of]
theorem rS_rt {p : Nat} {s : ByteArray} (h : AtL bs p (sB s)) (h0 : s.size = 32) : rS bs (p, 0) = (s, p + (sB s).length, 0) := by
  have := tk_rt h (by omega)
  rw [h0] at this
  rw [sB_len, h0]
  exact rV_go this
theorem rT_rt {p m : Nat} {s : ByteArray} (h : AtL bs p (enc s.size ++ sB s)) (h0 : 0 < s.size) (hm : s.size ≤ m) (hm2 : m ≤ 1000000) : rT bs m (p, 0) = (s, p + (enc s.size ++ sB s).length, 0) := by
  have h1 := lim_rt h.left hm hm2
  have h2 := tk_rt h.right h0
  apply rV_go
  rw [blkF_eq]
  simp only
  rw [h1]
  simp only [if_true, Int.toNat_natCast]
  rw [h2, List.length_append, sB_len]
  congr 2
  omega
end
/-- A list, read element by element. -/
def decLs {α : Type} (f : Nat → RS → α × RS) (s : RS) : Nat → List α × RS
  | 0 => ([], s)
  | k + 1 => ((decLs f s k).1 ++ [(f k (decLs f s k).2).1], (f k (decLs f s k).2).2)
theorem decLs_len {α : Type} (f : Nat → RS → α × RS) (s : RS) : ∀ k, (decLs f s k).1.length = k
  | 0 => rfl
  | k + 1 => by rw [decLs, List.length_append, decLs_len f s k]; rfl
theorem decLs_le {α : Type} {f : Nat → RS → α × RS} {n : Nat} (hf : ∀ k s, s.1 ≤ n → (f k s).2.1 ≤ n) {s : RS} (h : s.1 ≤ n) : ∀ k, (decLs f s k).2.1 ≤ n
  | 0 => h
  | k + 1 => by rw [decLs]; exact hf _ _ (decLs_le hf h k)
/-- Only encodings are read. -/
theorem decLs_only {bs : List Int} {α : Type} {f : Nat → RS → α × RS} (en : α → List Int) (ok : α → Prop)
    (hf : ∀ k s, (f k s).2.2 = 0 → s.2 = 0 ∧ (ok (f k s).1 → Ok bs s (f k s).2 (en (f k s).1))) (s : RS) :
    ∀ k, (decLs f s k).2.2 = 0 → s.2 = 0 ∧ ((∀ x ∈ (decLs f s k).1, ok x) → Ok bs s (decLs f s k).2 ((decLs f s k).1.flatMap en))
  | 0, h => ⟨h, fun _ => Ok.refl _ _⟩
  | k + 1, h => by
    rw [decLs] at h ⊢
    obtain ⟨h1, h2⟩ := hf k _ h
    obtain ⟨h3, h4⟩ := decLs_only en ok hf s k h1
    refine ⟨h3, fun ho => ?_⟩
    simp only [flat_snoc]
    exact (h4 fun x hx => ho x (List.mem_append_left _ hx)).trans (h2 (ho _ (List.mem_append_right _ (List.mem_singleton.2 rfl))))
/-- What was written is read. -/
theorem decLs_rt {bs : List Int} {α : Type} {f : Nat → RS → α × RS} (en : α → List Int) (good : Nat → α → Prop)
    (hf : ∀ k x p, AtL bs p (en x) → good k x → f k (p, 0) = (x, p + (en x).length, 0)) {p : Nat} {xs : List α} (h : AtL bs p (xs.flatMap en)) (hg : ∀ k x, xs[k]? = some x → good k x) :
    ∀ k, k ≤ xs.length → decLs f (p, 0) k = (xs.take k, p + ((xs.take k).flatMap en).length, 0)
  | 0, _ => by simp [decLs]
  | k + 1, hk => by
    obtain ⟨x, hx⟩ := get_ex (xs := xs) (k := k) (by omega)
    have ht := take_snoc hx
    have h1 : AtL bs p ((xs.take k).flatMap en ++ (en x ++ (xs.drop (k + 1)).flatMap en)) := by
      have : xs.flatMap en = (xs.take k).flatMap en ++ (en x ++ (xs.drop (k + 1)).flatMap en) := by
        conv => lhs; rw [← List.take_append_drop (k + 1) xs, List.flatMap_append, ht, flat_snoc, List.append_assoc]
      rwa [← this]
    rw [decLs, decLs_rt en good hf h hg k (by omega)]
    simp only
    rw [hf k x _ h1.right.left (hg k x hx), ht, flat_snoc, List.length_append]
    simp only [Prod.mk.injEq, true_and, and_true]
    omega
theorem decLs_rt' {bs : List Int} {α : Type} {f : Nat → RS → α × RS} (en : α → List Int) (good : Nat → α → Prop)
    (hf : ∀ k x p, AtL bs p (en x) → good k x → f k (p, 0) = (x, p + (en x).length, 0)) {p : Nat} {xs : List α} (h : AtL bs p (xs.flatMap en)) (hg : ∀ k x, xs[k]? = some x → good k x) :
    decLs f (p, 0) xs.length = (xs, p + (xs.flatMap en).length, 0) := by
  have := decLs_rt en good hf h hg xs.length (Nat.le_refl _)
  rwa [List.take_length] at this
theorem encL_cons (x : Int) (xs : List Int) : encL (x :: xs) = encL [x] ++ encL xs := by simp [encL]
theorem encL_flat (xs : List Int) : xs.flatMap (fun x => encL [x]) = encL xs := by unfold encL; congr 1; funext x; simp
def decM (bs : List Int) (d : Int) (s : RS) : Mem × RS :=
  (⟨d, (rT bs 16 s).1, (rS bs (rT bs 16 s).2).1, (rI bs (rS bs (rT bs 16 s).2).2).1, false⟩, (rI bs (rS bs (rT bs 16 s).2).2).2)
/-- A vault with its number. -/
def decVt (bs : List Int) (k : Int) (s : RS) : Vlt × RS :=
  let ws := decLs (fun _ => rI bs) (rC bs 3 s).2 (rC bs 3 s).1.toNat
  let d := rI bs ws.2
  let t := rI bs d.2
  let h := rI bs t.2
  let p := rS bs h.2
  let c1 := rI bs p.2
  let c2 := rI bs c1.2
  let c3 := rI bs c2.2
  let c4 := rI bs c3.2
  let r1 := rI bs c4.2
  let r2 := rI bs r1.2
  let r3 := rI bs r2.2
  let r4 := rI bs r3.2
  (⟨k, ws.1, d.1, t.1, h.1, p.1, c1.1, c2.1, c3.1, c4.1, 0, r1.1, r2.1, r3.1, r4.1⟩, r4.2)
section
variable {bs : List Int} (hb : ∀ b ∈ bs, 0 ≤ b ∧ b < 256)
include hb
theorem rI_ok {s : RS} (h : (rI bs s).2.2 = 0) : s.2 = 0 ∧ (0 ≤ (rI bs s).1 → Ok bs s (rI bs s).2 (encL [(rI bs s).1])) := rI_only hb h
theorem decM_only {d : Int} {s : RS} (h : (decM bs d s).2.2 = 0) :
    s.2 = 0 ∧ (mOk (decM bs d s).1 → Ok bs s (decM bs d s).2 (encM (decM bs d s).1)) := by
  unfold decM at h ⊢
  simp only at h ⊢
  obtain ⟨q1, q2⟩ := rI_ok hb h
  obtain ⟨p1, _, p2⟩ := rS_only hb q1
  obtain ⟨n1, n2⟩ := rT_only hb p1
  refine ⟨n1, fun ho => ?_⟩
  have := Ok.trans n2 (Ok.trans p2 (q2 ho.2.2.1))
  rwa [List.append_assoc] at this
theorem decVt_only {k : Int} {s : RS} (h : (decVt bs k s).2.2 = 0) :
    s.2 = 0 ∧ (vOk (decVt bs k s).1 → Ok bs s (decVt bs k s).2 (encVt (decVt bs k s).1)) := by
  unfold decVt at h ⊢
  simp only at h ⊢
  obtain ⟨a1, b1⟩ := rI_ok hb h
  obtain ⟨a2, b2⟩ := rI_ok hb a1
  obtain ⟨a3, b3⟩ := rI_ok hb a2
  obtain ⟨a4, b4⟩ := rI_ok hb a3
  obtain ⟨a5, b5⟩ := rI_ok hb a4
  obtain ⟨a6, b6⟩ := rI_ok hb a5
  obtain ⟨a7, b7⟩ := rI_ok hb a6
  obtain ⟨a8, b8⟩ := rI_ok hb a7
  obtain ⟨a9, _, b9⟩ := rS_only hb a8
  obtain ⟨a10, b10⟩ := rI_ok hb a9
  obtain ⟨a11, b11⟩ := rI_ok hb a10
  obtain ⟨a12, b12⟩ := rI_ok hb a11
  obtain ⟨a13, b13⟩ := decLs_only (bs := bs) (f := fun _ => rI bs) (fun x => encL [x]) (fun x => 0 ≤ x) (fun _ _ h => rI_ok hb h) _ _ a12
  obtain ⟨a14, n, b14, _, b15⟩ := rC_only hb a13
  refine ⟨a14, fun ho => ?_⟩
  unfold vOk at ho
  simp only [List.mem_cons, List.not_mem_nil, or_false, forall_eq_or_imp, forall_eq, nOk] at ho
  obtain ⟨_, o1, ⟨⟨o2, _⟩, ⟨o3, _⟩, o4, _⟩, _, ⟨⟨o5, _⟩, ⟨o6, _⟩, ⟨o7, _⟩, o8, _⟩, ⟨o9, _⟩, ⟨o10, _⟩, ⟨o11, _⟩, o12, _⟩ := ho
  have hl : (decLs (fun _ => rI bs) (rC bs 3 s).2 (rC bs 3 s).1.toNat).1.length = n := by rw [decLs_len, b14, Int.toNat_natCast]
  have f13 := b13 fun x hx => (o1 x hx).1
  rw [encL_flat] at f13
  have hall := Ok.trans b15 (f13.trans ((b12 o2).trans ((b11 o3).trans ((b10 o4).trans (Ok.trans b9 ((b8 o5).trans ((b7 o6).trans ((b6 o7).trans ((b5 o8).trans ((b4 o9).trans ((b3 o10).trans ((b2 o11).trans (b1 o12)))))))))))))
  unfold encVt
  simp only [hl]
  rw [encL_cons _ [_, _], encL_cons _ [_], encL_cons _ [_, _, _], encL_cons _ [_, _], encL_cons _ [_], encL_cons _ [_, _, _], encL_cons _ [_, _], encL_cons _ [_]]
  simp only [List.append_assoc]
  exact hall
end
def gM (k : Nat) (m : Mem) : Prop := memB m k = true
theorem decM_rt {bs : List Int} (k : Nat) (m : Mem) (p : Nat) (h : AtL bs p (encM m)) (hg : gM k m) : decM bs k (p, 0) = (m, p + (encM m).length, 0) := by
  have hk := mOk_of hg
  unfold gM memB nameB at hg
  simp only [Bool.and_eq_true, decide_eq_true_eq, Bool.not_eq_true'] at hg
  unfold encM at h ⊢
  rw [← List.append_assoc] at h ⊢
  have h1 := rT_rt (m := 16) h.left (by omega) hk.1 (by omega)
  have h2 := rS_rt h.right.left hk.2.1
  have h3 := rI_rt h.right.right hk.2.2
  unfold decM
  rw [h1]
  simp only
  rw [h2]
  simp only
  rw [h3]
  obtain ⟨d, nm, pb, qt, ex⟩ := m
  simp only at *
  obtain ⟨rfl, _, _, _, _, rfl⟩ := hg
  simp only [Prod.mk.injEq, true_and, and_true, List.length_append]
  omega
def gV (k : Nat) (v : Vlt) : Prop := v.num = k ∧ v.cseed = 0 ∧ vOk v
theorem decVt_rt {bs : List Int} (k : Nat) (v : Vlt) (p : Nat) (h : AtL bs p (encVt v)) (hg : gV k v) : decVt bs k (p, 0) = (v, p + (encVt v).length, 0) := by
  obtain ⟨num, ws, d, t, th, pr, c1, c2, c3, c4, sd, r1, r2, r3, r4⟩ := v
  obtain ⟨hn, hs, ho⟩ := hg
  simp only at hn hs
  subst hn hs
  unfold vOk at ho
  simp only [List.mem_cons, List.not_mem_nil, or_false, forall_eq_or_imp, forall_eq] at ho
  obtain ⟨o0, o1, ⟨o2, o3, o4⟩, o5, ⟨o6, o7, o8, o9⟩, o10, o11, o12, o13⟩ := ho
  unfold encVt at h ⊢
  simp only at h ⊢
  rw [encL_cons _ [_, _], encL_cons _ [_], encL_cons _ [_, _, _], encL_cons _ [_, _], encL_cons _ [_], encL_cons _ [_, _, _], encL_cons _ [_, _], encL_cons _ [_]] at h ⊢
  simp only [List.append_assoc] at h ⊢
  have e0 := rC_rt (m := 3) h.left o0 (by omega)
  replace h := h.right
  have e1 := decLs_rt' (bs := bs) (f := fun _ => rI bs) (fun x => encL [x]) (fun _ x => nOk x) (fun _ x p hx hg => rI_rt hx hg) (xs := ws) (by rw [encL_flat]; exact h.left) (fun k x hx => o1 x (List.mem_of_getElem? hx))
  rw [encL_flat] at e1
  replace h := h.right
  have e2 := rI_rt h.left o2
  replace h := h.right
  have e3 := rI_rt h.left o3
  replace h := h.right
  have e4 := rI_rt h.left o4
  replace h := h.right
  have e5 := rS_rt h.left o5
  replace h := h.right
  have e6 := rI_rt h.left o6
  replace h := h.right
  have e7 := rI_rt h.left o7
  replace h := h.right
  have e8 := rI_rt h.left o8
  replace h := h.right
  have e9 := rI_rt h.left o9
  replace h := h.right
  have e10 := rI_rt h.left o10
  replace h := h.right
  have e11 := rI_rt h.left o11
  replace h := h.right
  have e12 := rI_rt h.left o12
  replace h := h.right
  have e13 := rI_rt h o13
  unfold decVt
  simp only [e0, Int.toNat_natCast, e1, e2, e3, e4, e5, e6, e7, e8, e9, e10, e11, e12, e13]
  simp only [Prod.mk.injEq, true_and, and_true, List.length_append]
  omega
end Go.Proofs.Ytkeicjokekmkpaa
namespace Go.Proofs.Ytkeicjokekmkpaa
open Go.RowKit Mb
set_option linter.unusedVariables false
set_option linter.unusedSimpArgs false

def noMem : Mem := ⟨0, baNo, baNo, 0, false⟩
def toChn : Chg → Chn
  | .adm m => ⟨1, m, 0, 0, 0⟩
  | .bal a b => ⟨2, noMem, 0, a, b⟩
  | .rep v a b => ⟨3, noMem, v, a, b⟩
theorem chg_toChn (c : Chg) : chg (toChn c) = c := by cases c <;> simp [chg, toChn]
def decX (bs : List Int) (N : Int) (s : RS) : Option Chg × RS :=
  if (rU bs s).1 = 1 then (some (.adm (decM bs N (rU bs s).2).1), (decM bs N (rU bs s).2).2)
  else if (rU bs s).1 = 2 then (some (.bal (rI bs (rU bs s).2).1 (rI bs (rI bs (rU bs s).2).2).1), (rI bs (rI bs (rU bs s).2).2).2)
  else if (rU bs s).1 = 3 then (some (.rep (rI bs (rU bs s).2).1 (rI bs (rI bs (rU bs s).2).2).1 (rI bs (rI bs (rI bs (rU bs s).2).2).2).1), (rI bs (rI bs (rI bs (rU bs s).2).2).2).2)
  else (none, (rU bs s).2)
def stepX (bs : List Int) (y : Cst × RS) : Option (Cst × RS) :=
  match decX bs y.1.s.ms.length y.2 with
  | (some c, s) => if playE y.1.s (toChn c) = 0 then some (playC y.1 (toChn c), s) else none
  | (none, _) => none
def decChs (bs : List Int) (y : Cst × RS) : Nat → Option (Cst × RS)
  | 0 => some y
  | k + 1 => (decChs bs y k).bind (stepX bs)
/-- The circle comes of the first by changes. -/
inductive Rch (T : Cst) : Cst → Prop where
  | zero : Rch T T
  | step {S : Cst} {c : Chg} (h : Rch T S) (h0 : playE S.s (toChn c) = 0) : Rch T (playC S (toChn c))
theorem playC_chs {S : Cst} {c : Chg} (h0 : playE S.s (toChn c) = 0) : (playC S (toChn c)).chs = S.chs ++ [c] := by rw [playC_yes h0, chg_toChn]
theorem Rch.inv {T S : Cst} (h : Rch T S) (hI : Inv T.s) : Inv S.s := by
  induction h with
  | zero => exact hI
  | step _ _ ih => exact playS_inv ih
theorem Rch.einv {T S : Cst} (h : Rch T S) (hI : Inv T.s) (hE : EInv T) : EInv S := by
  induction h with
  | zero => exact hE
  | step h _ ih => exact playC_einv ih (h.inv hI)
theorem Rch.first {T S : Cst} (h : Rch T S) : S.fm = T.fm ∧ S.fv = T.fv ∧ S.s.q = T.s.q := by
  induction h with
  | zero => exact ⟨rfl, rfl, rfl⟩
  | step h _ ih => exact ⟨ih.1, ih.2.1, playS_q.trans ih.2.2⟩
theorem play_same (S : Cst) (x : Chn) (h : playE S.s x = 0) : playE S.s (toChn (chg x)) = 0 ∧ playC S (toChn (chg x)) = playC S x := by
  have hcase : (x.kind = 1 ∧ chg x = .adm x.m) ∨ (¬ x.kind = 1 ∧ x.kind = 2 ∧ chg x = .bal x.a x.b) ∨ (¬ x.kind = 1 ∧ ¬ x.kind = 2 ∧ chg x = .rep x.v x.a x.b) := by
    by_cases h1 : x.kind = 1
    · exact .inl ⟨h1, by simp [chg, h1]⟩
    · by_cases h2 : x.kind = 2
      · exact .inr (.inl ⟨h1, h2, by simp [chg, h2]⟩)
      · exact .inr (.inr ⟨h1, h2, by simp [chg, h1, h2]⟩)
  have hE : playE S.s (toChn (chg x)) = playE S.s x := by
    rcases hcase with ⟨h1, h2⟩ | ⟨h1, h2, h3⟩ | ⟨h1, h2, h3⟩
    · rw [h2]; simp [toChn, playE, h1]
    · rw [h3]; simp [toChn, playE, h2]
    · rw [h3]; simp [toChn, playE, h1, h2]
  have hS : playS S.s (toChn (chg x)) = playS S.s x := by
    unfold playS
    rw [hE]
    rcases hcase with ⟨h1, h2⟩ | ⟨h1, h2, h3⟩ | ⟨h1, h2, h3⟩
    · rw [h2]; simp [toChn, h1]
    · rw [h3]; simp [toChn, h2]
    · rw [h3]; simp [toChn, h1, h2]
  refine ⟨hE.trans h, ?_⟩
  unfold playC chgs
  rw [hS, hE, chg_toChn]
theorem Rch.play {T S : Cst} (h : Rch T S) (x : Chn) : Rch T (playC S x) := by
  by_cases h0 : playE S.s x = 0
  · obtain ⟨h1, h2⟩ := play_same S x h0
    rw [← h2]
    exact .step h h1
  · rw [playC_no h0]; exact h
theorem Rch.plays {T : Cst} : ∀ {S : Cst} (h : Rch T S) (xs : List Chn), Rch T (playsC S xs)
  | _, h, [] => h
  | S, h, x :: l => Rch.plays (h.play x) l
theorem enc_encL (n : Nat) : encL [(n : Int)] = enc n := by simp [encL]
section
variable {bs : List Int} (hb : ∀ b ∈ bs, 0 ≤ b ∧ b < 256)
include hb
theorem decX_only {N : Int} {s s' : RS} {c : Chg} (hc : decX bs N s = (some c, s')) (h : s'.2 = 0) : s.2 = 0 ∧ (xOk c → Ok bs s s' (encX c)) := by
  unfold decX at hc
  split at hc
  · next h1 =>
    simp only [Prod.mk.injEq, Option.some.injEq] at hc
    obtain ⟨rfl, rfl⟩ := hc
    obtain ⟨a1, b1⟩ := decM_only hb h
    obtain ⟨a2, n, b2, _, b3⟩ := rU_only hb a1
    refine ⟨a2, fun ho => ?_⟩
    have hn : n = 1 := by omega
    subst hn
    exact Ok.trans (by rw [← enc_encL] at b3; exact b3) (b1 ho)
  · split at hc
    · next h1 =>
      simp only [Prod.mk.injEq, Option.some.injEq] at hc
      obtain ⟨rfl, rfl⟩ := hc
      obtain ⟨a1, b1⟩ := rI_ok hb h
      obtain ⟨a0, b0⟩ := rI_ok hb a1
      obtain ⟨a2, n, b2, _, b3⟩ := rU_only hb a0
      refine ⟨a2, fun ho => ?_⟩
      have hn : n = 2 := by omega
      subst hn
      rw [← enc_encL] at b3
      show Ok bs s _ (encL [2, _, _])
      rw [encL_cons _ [_, _], encL_cons _ [_]]
      exact Ok.trans b3 ((b0 ho.1.1).trans (b1 ho.2.1))
    · split at hc
      · next h1 =>
        simp only [Prod.mk.injEq, Option.some.injEq] at hc
        obtain ⟨rfl, rfl⟩ := hc
        obtain ⟨a1, b1⟩ := rI_ok hb h
        obtain ⟨a0, b0⟩ := rI_ok hb a1
        obtain ⟨a3, b4⟩ := rI_ok hb a0
        obtain ⟨a2, n, b2, _, b3⟩ := rU_only hb a3
        refine ⟨a2, fun ho => ?_⟩
        have hn : n = 3 := by omega
        subst hn
        rw [← enc_encL] at b3
        show Ok bs s _ (encL [3, _, _, _])
        rw [encL_cons _ [_, _, _], encL_cons _ [_, _], encL_cons _ [_]]
        exact Ok.trans b3 ((b4 ho.1.1).trans ((b0 ho.2.1.1).trans (b1 ho.2.2.1)))
      · cases hc
theorem decChs_only {T : Cst} {s0 : RS} (hI : Inv T.s) (hT : T.chs = []) : ∀ (k : Nat) {S : Cst} {s : RS}, decChs bs (T, s0) k = some (S, s) → Rch T S ∧ S.chs.length = k ∧ (s.2 = 0 → s0.2 = 0 ∧ Ok bs s0 s (S.chs.flatMap encX))
  | 0, S, s, h => by
    simp only [decChs, Option.some.injEq, Prod.mk.injEq] at h
    obtain ⟨rfl, rfl⟩ := h
    exact ⟨.zero, by rw [hT]; rfl, fun h => ⟨h, by rw [hT]; exact Ok.refl _ _⟩⟩
  | k + 1, S, s, h => by
    rw [decChs] at h
    cases hk : decChs bs (T, s0) k with
    | none => rw [hk] at h; cases h
    | some y =>
      obtain ⟨S1, s1⟩ := y
      rw [hk] at h
      obtain ⟨h1, h2, h3⟩ := decChs_only hI hT k hk
      simp only [Option.bind_some, stepX] at h
      cases hx : decX bs S1.s.ms.length s1 with
      | mk o s2 =>
        rw [hx] at h
        cases o with
        | none => cases h
        | some c =>
          simp only at h
          split at h
          · next h0 =>
            simp only [Option.some.injEq, Prod.mk.injEq] at h
            obtain ⟨rfl, rfl⟩ := h
            refine ⟨.step h1 h0, by rw [playC_chs h0, List.length_append, h2]; rfl, fun he => ?_⟩
            obtain ⟨a1, a2⟩ := decX_only hb hx he
            obtain ⟨b1, b2⟩ := h3 a1
            refine ⟨b1, ?_⟩
            rw [playC_chs h0, flat_snoc]
            have := xOk_of (h1.inv hI) h0
            rw [chg_toChn] at this
            exact b2.trans (a2 this)
          · cases h
end
theorem decX_rt {bs : List Int} {S : Cst} {c : Chg} {p : Nat} (h : AtL bs p (encX c)) (hI : Inv S.s) (h0 : playE S.s (toChn c) = 0) : decX bs S.s.ms.length (p, 0) = (some c, p + (encX c).length, 0) := by
  have hxo := xOk_of hI h0
  rw [chg_toChn] at hxo
  cases c with
  | adm m =>
    have h' : AtL bs p (enc 1 ++ encM m) := h
    have e1 := rU_rt h'.left (by omega)
    have hg : gM S.s.ms.length m := by
      unfold gM
      simp only [toChn, playE, if_true] at h0
      unfold admE at h0
      split at h0
      · cases h0
      · split at h0
        · cases h0
        · next h2 => simpa using h2
    have e2 := decM_rt _ m _ h'.right hg
    unfold decX
    rw [e1]
    simp only
    rw [if_pos (show ((1 : Nat) : Int) = 1 from rfl), e2]
    show _ = (some (Chg.adm m), p + (enc 1 ++ encM m).length, 0)
    rw [List.length_append]
    simp only [Prod.mk.injEq, true_and, and_true]
    omega
  | bal a b =>
    have h' : AtL bs p (enc 2 ++ (encL [a] ++ encL [b])) := by
      have h2 : AtL bs p (encL [2, a, b]) := h
      rw [encL_cons _ [_, _], encL_cons _ [_]] at h2
      exact h2
    have e1 := rU_rt h'.left (by omega)
    have e2 := rI_rt h'.right.left hxo.1
    have e3 := rI_rt h'.right.right hxo.2
    unfold decX
    rw [e1]
    simp only
    rw [if_neg (show ¬ ((2 : Nat) : Int) = 1 by decide), if_pos (show ((2 : Nat) : Int) = 2 from rfl), e2]
    simp only
    rw [e3]
    show _ = (some (Chg.bal a b), p + (encL [2, a, b]).length, 0)
    rw [encL_cons _ [_, _], encL_cons _ [_], show encL [2] = enc 2 from rfl]
    simp only [List.length_append, Prod.mk.injEq, true_and, and_true]
    omega
  | rep v a b =>
    have h' : AtL bs p (enc 3 ++ (encL [v] ++ (encL [a] ++ encL [b]))) := by
      have h2 : AtL bs p (encL [3, v, a, b]) := h
      rw [encL_cons _ [_, _, _], encL_cons _ [_, _], encL_cons _ [_]] at h2
      exact h2
    have e1 := rU_rt h'.left (by omega)
    have e2 := rI_rt h'.right.left hxo.1
    have e3 := rI_rt h'.right.right.left hxo.2.1
    have e4 := rI_rt h'.right.right.right hxo.2.2
    unfold decX
    rw [e1]
    simp only
    rw [if_neg (show ¬ ((3 : Nat) : Int) = 1 by decide), if_neg (show ¬ ((3 : Nat) : Int) = 2 by decide), if_pos (show ((3 : Nat) : Int) = 3 from rfl), e2]
    simp only
    rw [e3]
    simp only
    rw [e4]
    show _ = (some (Chg.rep v a b), p + (encL [3, v, a, b]).length, 0)
    rw [encL_cons _ [_, _, _], encL_cons _ [_, _], encL_cons _ [_], show encL [3] = enc 3 from rfl]
    simp only [List.length_append, Prod.mk.injEq, true_and, and_true]
    omega
theorem decChs_rt {bs : List Int} {T S : Cst} (hI : Inv T.s) (hT : T.chs = []) (hr : Rch T S) {p : Nat} (h : AtL bs p (S.chs.flatMap encX)) : decChs bs (T, (p, 0)) S.chs.length = some (S, (p + (S.chs.flatMap encX).length, 0)) := by
  induction hr with
  | zero => rw [hT]; rfl
  | step hr h0 ih =>
    rw [playC_chs h0, flat_snoc] at h ⊢
    have h1 := ih h.left
    rw [List.length_append, List.length_singleton, decChs, h1]
    simp only [Option.bind_some, stepX]
    rw [decX_rt h.right (hr.inv hI) h0]
    simp only [h0, if_true, Option.some.injEq, Prod.mk.injEq, true_and, and_true, List.length_append]
    omega
/-- What Decode computes. -/
def dec (bs : List Int) : Option Cst :=
  let n := rC bs 12 (0, 0)
  let ms := decLs (fun k => decM bs k) n.2 n.1.toNat
  let kv := rC bs 12 ms.2
  let vs := decLs (fun k => decVt bs k) kv.2 kv.1.toNat
  let q := rI bs vs.2
  if newE ms.1 vs.1 q.1 = 0 then
    match decChs bs (S00 ms.1 vs.1 q.1, (rC bs (bs.length - q.2.1) q.2).2) (rC bs (bs.length - q.2.1) q.2).1.toNat with
    | some (S, s) => if s.2 = 0 ∧ ¬ s.1 < bs.length then some S else none
    | none => none
  else none
theorem dec_only {bs : List Int} (hb : ∀ b ∈ bs, 0 ≤ b ∧ b < 256) {S : Cst} (h : dec bs = some S) : ∃ ms vs q, newE ms vs q = 0 ∧ Rch (S00 ms vs q) S ∧ encC S = bs := by
  unfold dec at h
  simp only at h
  split at h
  · next h0 =>
    split at h
    · next S' s' hd =>
      split at h
      · next he =>
        injection h with h
        subst h
        obtain ⟨he1, he2⟩ := he
        have hI := newE_inv h0
        have hE := newE_einv h0
        obtain ⟨r1, r2, r3⟩ := decChs_only hb hI rfl _ hd
        obtain ⟨a1, b1⟩ := r3 he1
        obtain ⟨a2, m, b2, _, b3⟩ := rC_only hb a1
        obtain ⟨a4, b4⟩ := rI_ok hb a2
        obtain ⟨a5, b5⟩ := decLs_only (bs := bs) (f := fun k => decVt bs k) encVt vOk (fun _ _ h => decVt_only hb h) _ _ a4
        obtain ⟨a6, k, b6, _, b7⟩ := rC_only hb a5
        obtain ⟨a8, b8⟩ := decLs_only (bs := bs) (f := fun k => decM bs k) encM mOk (fun _ _ h => decM_only hb h) _ _ a6
        obtain ⟨_, n, b9, _, b10⟩ := rC_only hb a8
        refine ⟨_, _, _, h0, r1, ?_⟩
        have f2 := b8 hE.ms
        have f4 := b5 hE.vs
        have f5 := b4 hE.q.1
        have hall := Ok.trans b10 (f2.trans (Ok.trans b7 (f4.trans (f5.trans (Ok.trans b3 b1)))))
        obtain ⟨g1, g2, g3⟩ := r1.first
        have hn := decLs_len (fun k => decM bs k) (rC bs 12 (0, 0)).2 (rC bs 12 (0, 0)).1.toNat
        have hk := decLs_len (fun k => decVt bs k) (rC bs 12 (decLs (fun k => decM bs k) (rC bs 12 (0, 0)).2 (rC bs 12 (0, 0)).1.toNat).2).2 (rC bs 12 (decLs (fun k => decM bs k) (rC bs 12 (0, 0)).2 (rC bs 12 (0, 0)).1.toNat).2).1.toNat
        rw [b9, Int.toNat_natCast] at hn
        have hk2 : S'.fv.length = k := by rw [g2]; show List.length _ = k; rw [hk, b6, Int.toNat_natCast]
        have hn2 : S'.fm.length = n := by rw [g1]; show List.length _ = n; rw [decLs_len, b9, Int.toNat_natCast]
        have hm2 : S'.chs.length = m := by rw [r2, b2, Int.toNat_natCast]
        have hall2 : Ok bs (0, 0) s' (encC S') := by
          unfold encC
          rw [hn2, hk2, hm2, g1, g2, g3]
          exact hall
        have hl := hall2.1
        have ha := hall2.2
        simp only [Nat.zero_add] at hl
        have h0l : 0 < (encC S').length := by
          unfold encC
          rw [List.length_append]
          have : 0 < (enc S'.fm.length).length := by
            unfold enc encF
            split <;> simp
          omega
        have hf := ha.fits h0l
        exact ha.all (by simp only [Nat.zero_add] at hf; omega)
      · cases h
    · cases h
  · cases h
theorem enc_pos (n : Nat) : 0 < (enc n).length := by
  unfold enc encF
  split <;> simp
theorem encX_pos (c : Chg) : 0 < (encX c).length := by
  have := enc_pos
  cases c with
  | adm m =>
    have h1 := enc_pos 1
    show 0 < (enc 1 ++ encM m).length
    rw [List.length_append]; omega
  | bal a b =>
    have h1 := enc_pos 2
    show 0 < (encL [2, a, b]).length
    rw [encL_cons, show encL [2] = enc 2 from rfl, List.length_append]; omega
  | rep v a b =>
    have h1 := enc_pos 3
    show 0 < (encL [3, v, a, b]).length
    rw [encL_cons, show encL [3] = enc 3 from rfl, List.length_append]; omega
theorem flat_ge : ∀ xs : List Chg, xs.length ≤ (xs.flatMap encX).length
  | [] => Nat.le_refl _
  | x :: l => by
    have h1 := encX_pos x
    have h2 := flat_ge l
    rw [List.flatMap_cons, List.length_append, List.length_cons]
    omega
theorem dec_enc {ms : List Mem} {vs : List Vlt} {q : Int} {S : Cst} (h0 : newE ms vs q = 0) (hr : Rch (S00 ms vs q) S) (hc : S.chs.length ≤ 5000) : dec (encC S) = some S := by
  have hI := newE_inv h0
  have hE := newE_einv h0
  have hES := hr.einv hI hE
  have hlen := encC_len hES hc
  obtain ⟨g1, g2, g3⟩ := hr.first
  obtain ⟨h1, h2, h3, h4⟩ := newE_ok h0
  unfold headB at h1
  simp only [Bool.and_eq_true, decide_eq_true_eq] at h1
  have ha : AtL (encC S) 0 (enc ms.length ++ (ms.flatMap encM ++ (enc vs.length ++ (vs.flatMap encVt ++ (encL [q] ++ (enc S.chs.length ++ S.chs.flatMap encX)))))) := by
    have := AtL.self (encC S)
    have he : encC S = enc ms.length ++ (ms.flatMap encM ++ (enc vs.length ++ (vs.flatMap encVt ++ (encL [q] ++ (enc S.chs.length ++ S.chs.flatMap encX))))) := by
      unfold encC
      rw [g1, g2, g3]
    rwa [← he]
  have hl : (encC S).length = (enc ms.length).length + ((ms.flatMap encM).length + ((enc vs.length).length + ((vs.flatMap encVt).length + ((encL [q]).length + ((enc S.chs.length).length + (S.chs.flatMap encX).length))))) := by
    unfold encC
    rw [g1, g2, g3]
    simp only [List.length_append]
  generalize encC S = bs at *
  have e1 := rC_rt (m := 12) ha.left h1.2.1 (by omega)
  replace ha := ha.right
  have e2 := decLs_rt' (bs := bs) (f := fun k => decM bs k) encM gM (fun k x p hx hg => decM_rt k x p hx hg) ha.left (fun k x hx => by
    unfold memsB at h2
    have h5 := List.all_eq_true.1 h2 k (List.mem_range.2 (List.getElem?_eq_some_iff.1 hx).1)
    unfold okM at h5
    rw [hx] at h5
    simp only [Bool.and_eq_true] at h5
    exact h5.1)
  replace ha := ha.right
  have e3 := rC_rt (m := 12) ha.left h1.2.2.1 (by omega)
  replace ha := ha.right
  have e4 := decLs_rt' (bs := bs) (f := fun k => decVt bs k) encVt gV (fun k x p hx hg => decVt_rt k x p hx hg) ha.left (fun k x hx => by
    have hvo := hE.vs x (List.mem_of_getElem? hx)
    unfold vltsB at h3
    have h5 := List.all_eq_true.1 h3 k (List.mem_range.2 (List.getElem?_eq_some_iff.1 hx).1)
    unfold okVt at h5
    rw [hx] at h5
    unfold vltB restB at h5
    simp only [Bool.and_eq_true, decide_eq_true_eq] at h5
    exact ⟨h5.1, h5.2.2.2.2.2.2.2.2.2.2.2.1, hvo⟩)
  replace ha := ha.right
  have e5 := rI_rt ha.left hE.q
  replace ha := ha.right
  have hge := flat_ge S.chs
  have e6 := rC_rt (m := bs.length - (0 + (enc ms.length).length + (ms.flatMap encM).length + (enc vs.length).length + (vs.flatMap encVt).length + (encL [q]).length)) ha.left (by omega) (by omega)
  have e7 := decChs_rt hI rfl hr ha.right
  unfold dec
  simp only [e1, Int.toNat_natCast, e2, e3, e4, e5, h0, if_true, e6, e7]
  rw [if_pos ⟨trivial, by omega⟩]
end Go.Proofs.Ytkeicjokekmkpaa
