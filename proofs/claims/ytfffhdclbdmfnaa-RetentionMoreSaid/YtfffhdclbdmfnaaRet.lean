/- Which days are kept, plainly: no program in sight. -/
import Derived.Test.YtfffhdclbdmfnaaCal
namespace Go.Proofs.Ytfffhdclbdmfnaa
namespace Ret
open Cal
set_option linter.unusedVariables false
set_option linter.unusedSimpArgs false

/-- The number of the period of a kind that contains a day. -/
def per (k : Nat) (d : Int) : Int := if k = 0 then d else if k = 1 then (d + 5) / 7 else if k = 2 then 12 * (yOf d : Int) + mOf d else yOf d
/-- A day that can be counted. -/
def okD (d : Int) : Prop := 0 ≤ d ∧ d ≤ 999999
theorem per_mono (k : Nat) {a b : Int} (ha : okD a) (hb : okD b) (h : a ≤ b) : per k a ≤ per k b := by
  unfold per
  unfold okD at ha hb
  have := y_mono ha.1 h hb.2
  have := m_mono ha.1 h hb.2
  split
  · omega
  · split
    · omega
    · split <;> omega
theorem per_nonneg (k : Nat) {a : Int} (ha : okD a) : 0 ≤ per k a := by
  unfold per
  unfold okD at ha
  split
  · omega
  · split
    · omega
    · split <;> omega
theorem nodup_len_le : ∀ (l m : List Int), l.Nodup → (∀ q ∈ l, q ∈ m) → l.length ≤ m.length
  | [], m, _, _ => Nat.zero_le _
  | q :: l, m, hn, h => by
    rw [List.nodup_cons] at hn
    have hq := h q (List.mem_cons_self ..)
    have := nodup_len_le l (m.erase q) hn.2 (fun x hx => (List.mem_erase_of_ne (fun (e : x = q) => hn.1 (by rw [← e]; exact hx))).2 (h x (List.mem_cons_of_mem _ hx)))
    rw [List.length_erase_of_mem hq] at this
    have := List.length_pos_of_mem hq
    simp only [List.length_cons]
    omega
theorem nodup_len {l m : List Int} (hl : l.Nodup) (hm : m.Nodup) (h : ∀ q, q ∈ l ↔ q ∈ m) : l.length = m.length :=
  Nat.le_antisymm (nodup_len_le l m hl fun q hq => (h q).1 hq) (nodup_len_le m l hm fun q hq => (h q).2 hq)

/-- The periods of a kind behind p, but for one. -/
def later (k : Nat) (p last : Int) : List Int → List Int
  | [] => []
  | x :: ds => if p < per k x ∧ per k x ≠ last ∧ ¬ per k x ∈ later k p last ds then per k x :: later k p last ds else later k p last ds
theorem later_mem (k : Nat) (p last q : Int) : ∀ ds : List Int, q ∈ later k p last ds ↔ (∃ x ∈ ds, per k x = q) ∧ p < q ∧ q ≠ last
  | [] => by simp [later]
  | x :: ds => by
    have ih := later_mem k p last q ds
    rw [later]
    split
    · rename_i h
      rw [List.mem_cons, ih]
      constructor
      · rintro (rfl | ⟨⟨y, hy, e⟩, h2, h3⟩)
        · exact ⟨⟨x, List.mem_cons_self .., rfl⟩, h.1, h.2.1⟩
        · exact ⟨⟨y, List.mem_cons_of_mem _ hy, e⟩, h2, h3⟩
      · rintro ⟨⟨y, hy, e⟩, h2, h3⟩
        rcases List.mem_cons.1 hy with rfl | hy
        · exact .inl e.symm
        · exact .inr ⟨⟨y, hy, e⟩, h2, h3⟩
    · rename_i h
      rw [ih]
      constructor
      · rintro ⟨⟨y, hy, e⟩, h2, h3⟩
        exact ⟨⟨y, List.mem_cons_of_mem _ hy, e⟩, h2, h3⟩
      · rintro ⟨⟨y, hy, e⟩, h2, h3⟩
        rcases List.mem_cons.1 hy with rfl | hy
        · subst e
          have : per k y ∈ later k p last ds := by
            rcases Classical.em (per k y ∈ later k p last ds) with hm | hm
            · exact hm
            · exact absurd ⟨h2, h3, hm⟩ h
          exact ⟨((later_mem k p last _ ds).1 this).1, h2, h3⟩
        · exact ⟨⟨y, hy, e⟩, h2, h3⟩
theorem later_nodup (k : Nat) (p last : Int) : ∀ ds : List Int, (later k p last ds).Nodup
  | [] => List.nodup_nil
  | x :: ds => by
    rw [later]
    split
    · rename_i h
      exact List.nodup_cons.2 ⟨h.2.2, later_nodup k p last ds⟩
    · exact later_nodup k p last ds
/-- A day is kept for a kind. -/
def By (k n : Nat) (days : List Int) (d : Int) : Prop := (∀ x ∈ days, per k x = per k d → x ≤ d) ∧ (later k (per k d) (-1) days).length < n
instance (k n : Nat) (days : List Int) (d : Int) : Decidable (By k n days d) := inferInstanceAs (Decidable (_ ∧ _))
theorem By.congr {k n : Nat} {l m : List Int} (h : ∀ x, x ∈ l ↔ x ∈ m) {d : Int} : By k n l d ↔ By k n m d := by
  unfold By
  rw [nodup_len (later_nodup k (per k d) (-1) l) (later_nodup k (per k d) (-1) m) (fun q => by
    rw [later_mem, later_mem]
    constructor
    · rintro ⟨⟨x, hx, e⟩, r⟩; exact ⟨⟨x, (h x).1 hx, e⟩, r⟩
    · rintro ⟨⟨x, hx, e⟩, r⟩; exact ⟨⟨x, (h x).2 hx, e⟩, r⟩)]
  constructor
  · rintro ⟨h1, h2⟩; exact ⟨fun x hx => h1 x ((h x).2 hx), h2⟩
  · rintro ⟨h1, h2⟩; exact ⟨fun x hx => h1 x ((h x).1 hx), h2⟩
/-- With fewer days beside it a day stays kept; with a greater number too. -/
theorem By.mono {k n n' : Nat} {l m : List Int} (hs : ∀ x ∈ m, x ∈ l) (hn : n ≤ n') {d : Int} (h : By k n l d) : By k n' m d := by
  refine ⟨fun x hx => h.1 x (hs x hx), ?_⟩
  have := nodup_len_le (later k (per k d) (-1) m) (later k (per k d) (-1) l) (later_nodup _ _ _ _) (fun q hq => by
    rw [later_mem] at hq ⊢
    obtain ⟨⟨x, hx, e⟩, r⟩ := hq
    exact ⟨⟨x, hs x hx, e⟩, r⟩)
  have := h.2
  omega
/-- The greatest day is kept. -/
theorem By.top {k n : Nat} {l : List Int} {d : Int} (hd : okD d) (hl : ∀ x ∈ l, okD x) (h : ∀ x ∈ l, x ≤ d) (hn : 0 < n) : By k n l d := by
  refine ⟨fun x hx _ => h x hx, ?_⟩
  have : later k (per k d) (-1) l = [] := by
    rw [List.eq_nil_iff_forall_not_mem]
    intro q hq
    rw [later_mem] at hq
    obtain ⟨⟨x, hx, e⟩, h2, _⟩ := hq
    have := per_mono k (hl x hx) hd (h x hx)
    omega
  rw [this]
  exact hn

/-- The days that the walk over the descending days takes. -/
def keepL (k : Nat) : List Int → Nat → Int → List Int
  | [], _, _ => []
  | d :: ds, left, last => if per k d = last then keepL k ds left last else match left with
    | 0 => []
    | n + 1 => d :: keepL k ds n (per k d)
theorem keepL_mem (k : Nat) (d : Int) : ∀ (ds : List Int) (left : Nat) (last : Int), ds.Pairwise (· > ·) → (∀ x ∈ ds, okD x) → (∀ x ∈ ds, last = -1 ∨ per k x ≤ last) →
    (d ∈ keepL k ds left last ↔ d ∈ ds ∧ per k d ≠ last ∧ (∀ x ∈ ds, per k x = per k d → x ≤ d) ∧ (later k (per k d) last ds).length < left)
  | [], left, last, _, _, _ => by simp [keepL]
  | x :: ds, left, last, hp, hok, hl => by
    rw [List.pairwise_cons] at hp
    obtain ⟨hx, hp⟩ := hp
    have hokx := hok x (List.mem_cons_self ..)
    have hok' : ∀ y ∈ ds, okD y := fun y hy => hok y (List.mem_cons_of_mem _ hy)
    have hmx : ∀ y ∈ ds, per k y ≤ per k x := fun y hy => per_mono k (hok' y hy) hokx (by have := hx y hy; omega)
    unfold keepL
    by_cases he : per k x = last
    · rw [if_pos he, keepL_mem k d ds left last hp hok' (fun y hy => hl y (List.mem_cons_of_mem _ hy))]
      have hlat : later k (per k d) last (x :: ds) = later k (per k d) last ds := by rw [later, if_neg (fun h => h.2.1 he)]
      rw [hlat]
      constructor
      · rintro ⟨h1, h2, h3, h4⟩
        refine ⟨List.mem_cons_of_mem _ h1, h2, fun y hy e => ?_, h4⟩
        rcases List.mem_cons.1 hy with rfl | hy
        · exact absurd (e.symm.trans he) h2
        · exact h3 y hy e
      · rintro ⟨h1, h2, h3, h4⟩
        rcases List.mem_cons.1 h1 with rfl | h1
        · exact absurd he h2
        · exact ⟨h1, h2, fun y hy => h3 y (List.mem_cons_of_mem _ hy), h4⟩
    · rw [if_neg he]
      have hall : ∀ y ∈ x :: ds, per k y ≠ last := fun y hy e => by
        have h0 := per_nonneg k (hok y hy)
        rcases hl y hy with h | h
        · omega
        · rcases hl x (List.mem_cons_self ..) with h' | h'
          · omega
          · rcases List.mem_cons.1 hy with rfl | hy
            · exact he e
            · have := hmx y hy; omega
      rcases left with _ | n
      · simp
      · show d ∈ x :: keepL k ds n (per k x) ↔ _
        rw [List.mem_cons, keepL_mem k d ds n (per k x) hp hok' (fun y hy => .inr (hmx y hy))]
        constructor
        · rintro (rfl | ⟨h1, h2, h3, h4⟩)
          · refine ⟨List.mem_cons_self .., he, fun y hy _ => ?_, ?_⟩
            · rcases List.mem_cons.1 hy with rfl | hy
              · exact Int.le_refl _
              · have := hx y hy; omega
            · have : later k (per k d) last (d :: ds) = [] := by
                rw [List.eq_nil_iff_forall_not_mem]
                intro q hq
                rw [later_mem] at hq
                obtain ⟨⟨y, hy, e⟩, h2, _⟩ := hq
                rcases List.mem_cons.1 hy with rfl | hy
                · omega
                · have := hmx y hy; omega
              rw [this]
              simp
          · have hd := hmx d h1
            refine ⟨List.mem_cons_of_mem _ h1, hall d (List.mem_cons_of_mem _ h1), fun y hy e => ?_, ?_⟩
            · rcases List.mem_cons.1 hy with rfl | hy
              · exact absurd e.symm h2
              · exact h3 y hy e
            · have hlen := nodup_len (later_nodup k (per k d) last (x :: ds)) (m := per k x :: later k (per k d) (per k x) ds) (List.nodup_cons.2 ⟨fun hm => by
                rw [later_mem] at hm
                exact hm.2.2 rfl, later_nodup _ _ _ _⟩) (fun q => by
                rw [later_mem, List.mem_cons, later_mem]
                constructor
                · rintro ⟨⟨y, hy, e⟩, h5, h6⟩
                  rcases Int.decEq q (per k x) with hq | hq
                  · rcases List.mem_cons.1 hy with rfl | hy
                    · exact absurd e.symm hq
                    · exact .inr ⟨⟨y, hy, e⟩, h5, hq⟩
                  · exact .inl hq
                · rintro (rfl | ⟨⟨y, hy, e⟩, h5, h6⟩)
                  · exact ⟨⟨x, List.mem_cons_self .., rfl⟩, by omega, he⟩
                  · exact ⟨⟨y, List.mem_cons_of_mem _ hy, e⟩, h5, e ▸ hall y (List.mem_cons_of_mem _ hy)⟩)
              rw [hlen]
              simp only [List.length_cons]
              omega
        · rintro ⟨h1, h2, h3, h4⟩
          rcases List.mem_cons.1 h1 with rfl | h1
          · exact .inl rfl
          · have hd := hmx d h1
            have hne : per k d ≠ per k x := fun e => by
              have := h3 x (List.mem_cons_self ..) e.symm
              have := hx d h1
              omega
            refine .inr ⟨h1, hne, fun y hy => h3 y (List.mem_cons_of_mem _ hy), ?_⟩
            have hlen := nodup_len_le (per k x :: later k (per k d) (per k x) ds) (later k (per k d) last (x :: ds)) (List.nodup_cons.2 ⟨fun hm => by
                rw [later_mem] at hm
                exact hm.2.2 rfl, later_nodup _ _ _ _⟩) (fun q hq => by
                rw [List.mem_cons, later_mem] at hq
                rw [later_mem]
                rcases hq with rfl | ⟨⟨y, hy, e⟩, h5, h6⟩
                · exact ⟨⟨x, List.mem_cons_self .., rfl⟩, by omega, he⟩
                · exact ⟨⟨y, List.mem_cons_of_mem _ hy, e⟩, h5, e ▸ hall y (List.mem_cons_of_mem _ hy)⟩)
            simp only [List.length_cons] at hlen
            omega
theorem keepL_By (k n : Nat) (s : List Int) (hs : s.Pairwise (· < ·)) (hok : ∀ x ∈ s, okD x) (d : Int) : d ∈ keepL k s.reverse n (-1) ↔ d ∈ s ∧ By k n s d := by
  rw [keepL_mem k d s.reverse n (-1) (by rw [List.pairwise_reverse]; exact hs) (fun x hx => hok x (List.mem_reverse.1 hx)) (fun _ _ => .inl rfl)]
  have hb : By k n s.reverse d ↔ By k n s d := By.congr (fun x => List.mem_reverse)
  constructor
  · rintro ⟨h1, _, h3, h4⟩
    exact ⟨List.mem_reverse.1 h1, hb.1 ⟨h3, h4⟩⟩
  · rintro ⟨h1, h2⟩
    have h2' := hb.2 h2
    refine ⟨List.mem_reverse.2 h1, fun e => ?_, h2'.1, h2'.2⟩
    have := per_nonneg k (hok d h1)
    omega
end Ret
end Go.Proofs.Ytfffhdclbdmfnaa
