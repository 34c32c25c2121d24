/- The code, plainly: pieces with ascending indices determine the blocks. -/
import Derived.Test.YtpbeaghghlfiaaaP2
namespace Go.Proofs.Ytpbeaghghlfiaaa
set_option linter.unusedVariables false
set_option linter.unusedSimpArgs false
abbrev Asc (l : List Nat) : Prop := l.Pairwise (· < ·)
theorem asc_ext : ∀ {l m : List Nat}, Asc l → Asc m → (∀ x, x ∈ l ↔ x ∈ m) → l = m
  | [], [], _, _, _ => rfl
  | [], b :: m, _, _, h => absurd ((h b).2 (List.mem_cons_self ..)) (by simp)
  | a :: l, [], _, _, h => absurd ((h a).1 (List.mem_cons_self ..)) (by simp)
  | a :: l, b :: m, hl, hm, h => by
    obtain ⟨h1, h2⟩ := List.pairwise_cons.1 hl
    obtain ⟨h3, h4⟩ := List.pairwise_cons.1 hm
    have hab : a = b := by
      have ha := (h a).1 (List.mem_cons_self ..)
      have hb := (h b).2 (List.mem_cons_self ..)
      rcases List.mem_cons.1 ha with ha | ha
      · exact ha
      · rcases List.mem_cons.1 hb with hb | hb
        · exact hb.symm
        · have := h1 _ hb
          have := h3 _ ha
          omega
    subst hab
    refine congrArg (a :: ·) (asc_ext h2 h4 (fun x => ⟨fun hx => ?_, fun hx => ?_⟩))
    · rcases List.mem_cons.1 ((h x).1 (List.mem_cons_of_mem _ hx)) with rfl | h5
      · have := h1 _ hx; omega
      · exact h5
    · rcases List.mem_cons.1 ((h x).2 (List.mem_cons_of_mem _ hx)) with rfl | h5
      · have := h3 _ hx; omega
      · exact h5
/-- The number whose bits are a list's members. -/
def bitsOf (l : List Nat) : Nat := l.foldr (fun i s => 2 ^ i ||| s) 0
theorem bitsOf_test (l : List Nat) (k : Nat) : (bitsOf l).testBit k = l.contains k := by
  induction l with
  | nil => simp [bitsOf]
  | cons a l ih =>
    have h1 : bitsOf (a :: l) = 2 ^ a ||| bitsOf l := rfl
    rw [h1, Nat.testBit_or, ih, Nat.testBit_two_pow, List.contains_cons]
    congr 1
    by_cases h : a = k
    · subst h; simp
    · simp [h, Ne.symm h]
theorem bitsOf_lt {l : List Nat} {n : Nat} (h : ∀ x ∈ l, x < n) : bitsOf l < 2 ^ n := by
  induction l with
  | nil => exact Nat.two_pow_pos n
  | cons a l ih => exact Nat.or_lt_two_pow (Nat.pow_lt_pow_right (by omega) (h a (List.mem_cons_self ..))) (ih (fun x hx => h x (List.mem_cons_of_mem _ hx)))
theorem asc_filter (p : Nat → Bool) (n : Nat) : Asc ((List.range n).filter p) := List.Pairwise.filter _ List.pairwise_lt_range
theorem setP_of {l : List Nat} (hp : Asc l) (h8 : ∀ x ∈ l, x < 8) : setP (bitsOf l) = l := by
  refine asc_ext (asc_filter _ 8) hp (fun x => ?_)
  rw [setP, List.mem_filter, List.mem_range, bitsOf_test, List.contains_iff_mem]
  exact ⟨fun h => h.2, fun h => ⟨h8 x h, h⟩⟩
theorem chk_of {l : List Nat} (hp : Asc l) (h8 : ∀ x ∈ l, x < 8) (h0 : l ≠ []) : chkP l = true := by
  have hlt : bitsOf l < 256 := bitsOf_lt h8
  have h := chk_all _ hlt
  rw [setP_of hp h8] at h
  rcases h with h | h
  · exfalso
    cases l with
    | nil => exact h0 rfl
    | cons a l =>
      have h1 := bitsOf_test (a :: l) a
      rw [h] at h1
      simp at h1
  · exact h
theorem bysB_iff {m : Mt} {n : Nat} (h : bysB m n = true) : ∀ b ∈ m, b.length = n ∧ Bys b := fun b hb => by
  have h1 := List.all_eq_true.1 h b hb
  rw [Bool.and_eq_true] at h1
  refine ⟨by simpa using h1.1, fun x hx => ?_⟩
  have h2 := List.all_eq_true.1 h1.2 x hx
  simpa using h2
/-- What is known of the inverse for an ascending list of indices. -/
structure InvOk (l : List Nat) : Prop where
  piv : (elimP (ofP l.length l)).2.length = l.length
  rows : (elimP (ofP l.length l)).1.length = l.length
  len : (invP (ofP l.length l)).length = l.length
  bys : ∀ b ∈ invP (ofP l.length l), b.length = l.length ∧ Bys b
  obys : ∀ b ∈ ofP l.length l, b.length = l.length ∧ Bys b
  left : mulP l.length (invP (ofP l.length l)) (ofP l.length l) = idP l.length
  right : mulP l.length (ofP l.length l) (invP (ofP l.length l)) = idP l.length
theorem invOk {l : List Nat} (hp : Asc l) (h8 : ∀ x ∈ l, x < 8) (h0 : l ≠ []) : InvOk l := by
  have h := chk_of hp h8 h0
  have hl : (ofP l.length l).length = l.length := List.length_map ..
  have hi : invP (ofP l.length l) = (elimP (ofP l.length l)).1.map (List.drop l.length) := by unfold invP; rw [hl]
  unfold chkP at h
  simp only [Bool.and_eq_true, beq_iff_eq, ← hi] at h
  obtain ⟨⟨⟨⟨⟨⟨h1, h2⟩, h3⟩, h4⟩, h5⟩, h6⟩, h7⟩ := h
  exact ⟨h1, h2, h3, bysB_iff h4, bysB_iff h5, h6, h7⟩
theorem map_getD_range (x : List Nat) : (List.range x.length).map (fun k => x.getD k 0) = x := by
  refine List.ext_getElem? (fun i => ?_)
  rw [List.getElem?_map]
  by_cases h : i < x.length
  · rw [List.getElem?_range h, List.getElem?_eq_getElem h]
    simp [List.getElem?_eq_getElem h]
  · rw [List.getElem?_eq_none (by simp; omega), List.getElem?_eq_none (by omega)]
    rfl
theorem id_dot {d : Nat} {x : List Nat} (hx : Bys x) (hl : x.length = d) : (idP d).map (fun b => dotN b x) = x := by
  subst hl
  unfold idP
  rw [List.map_map]
  refine Eq.trans (List.map_congr_left fun k hk => ?_) (map_getD_range x)
  exact dotN_unitv _ _ hx (List.mem_range.1 hk)
theorem mul_dot {d : Nat} {a b : Mt} {x : List Nat} (ha : ∀ r ∈ a, Bys r) (hb : ∀ r ∈ b, r.length = d ∧ Bys r) (h : mulP d a b = idP d) (hx : Bys x) (hl : x.length = d) : a.map (fun r => dotN r (b.map (fun s => dotN s x))) = x := by
  have h1 : (mulP d a b).map (fun r => dotN r x) = a.map (fun r => dotN r (b.map (fun s => dotN s x))) := by
    unfold mulP
    rw [List.map_map]
    exact List.map_congr_left fun r hr => comb_dot x hb (ha r hr)
  rw [← h1, h, id_dot hx hl]
/-- The byte of piece i at a place where the blocks have the bytes x. -/
def encP (d i : Nat) (x : List Nat) : Nat := dotN (rowP d i) x
def decP (l : List Nat) (y : List Nat) : List Nat := (invP (ofP l.length l)).map (fun r => dotN r y)
theorem of_map (d : Nat) (l : List Nat) (x : List Nat) : (ofP d l).map (fun s => dotN s x) = l.map (fun i => encP d i x) := by
  unfold ofP
  rw [List.map_map]
  rfl
theorem dec_enc {l : List Nat} (h : InvOk l) {x : List Nat} (hx : Bys x) (hl : x.length = l.length) : decP l (l.map (fun i => encP l.length i x)) = x := by
  have := mul_dot (fun r hr => (h.bys r hr).2) h.obys h.left hx hl
  rw [of_map] at this
  exact this
theorem enc_dec {l : List Nat} (h : InvOk l) {y : List Nat} (hy : Bys y) (hl : y.length = l.length) : l.map (fun i => encP l.length i (decP l y)) = y := by
  have := mul_dot (fun r hr => (h.obys r hr).2) h.bys h.right hy hl
  rw [← of_map]
  exact this
theorem decP_len {l : List Nat} (h : InvOk l) (y : List Nat) : (decP l y).length = l.length := by unfold decP; rw [List.length_map, h.len]
theorem decP_bys {l : List Nat} (h : InvOk l) (y : List Nat) : Bys (decP l y) := fun x hx => by
  obtain ⟨r, hr, rfl⟩ := List.mem_map.1 hx
  exact dotN_lt (h.bys r hr).2
/-- Blocks that agree on enough pieces are equal. -/
theorem enc_inj {d : Nat} (hd : 1 ≤ d) {l : List Nat} (hp : Asc l) (h8 : ∀ x ∈ l, x < 8) (hl : d ≤ l.length) {x y : List Nat} (hx : Bys x) (hxl : x.length = d) (hy : Bys y) (hyl : y.length = d) (h : ∀ i ∈ l, encP d i x = encP d i y) : x = y := by
  have hlen : (l.take d).length = d := by rw [List.length_take]; omega
  have hI : InvOk (l.take d) := invOk (hp.sublist (List.take_sublist d l)) (fun i hi => h8 i (List.mem_of_mem_take hi)) (fun h0 => by rw [h0] at hlen; simp at hlen; omega)
  have h1 := dec_enc hI hx (by rw [hlen, hxl])
  have h2 := dec_enc hI hy (by rw [hlen, hyl])
  rw [← h1, ← h2]
  congr 1
  refine List.map_congr_left fun i hi => ?_
  rw [hlen]
  exact h i (List.mem_of_mem_take hi)
end Go.Proofs.Ytpbeaghghlfiaaa
