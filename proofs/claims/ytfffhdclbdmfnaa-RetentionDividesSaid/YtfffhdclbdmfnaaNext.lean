/- After how many further days a day is dropped, plainly: no program in sight. -/
import Derived.Test.YtfffhdclbdmfnaaRet2
namespace Go.Proofs.Ytfffhdclbdmfnaa
namespace Ret
open Cal
set_option linter.unusedVariables false
set_option linter.unusedSimpArgs false

/-- The state of the walk that counts: is the day the greatest of its period; how many later periods; the last period. -/
structure Cnt where
  g : Bool
  lt : Nat
  la : Int
def Cnt.add (k : Nat) (d : Int) (c : Cnt) (x : Int) : Cnt :=
  ⟨c.g && !(decide (d < x) && decide (per k x = per k d)), if c.la < per k x then c.lt + 1 else c.lt, if c.la < per k x then per k x else c.la⟩
def Cnt.ini (k : Nat) (d : Int) : Cnt := ⟨true, 0, per k d⟩
def Cnt.run (k : Nat) (d : Int) (l : List Int) : Cnt := l.foldl (Cnt.add k d) (Cnt.ini k d)
theorem Cnt.run_snoc (k : Nat) (d : Int) (l : List Int) (x : Int) : Cnt.run k d (l ++ [x]) = Cnt.add k d (Cnt.run k d l) x := by simp [Cnt.run]
theorem asc_snoc {l : List Int} {x : Int} (h : Asc (l ++ [x])) : Asc l ∧ ∀ y ∈ l, y < x := by
  rw [Asc, List.pairwise_append] at h
  exact ⟨h.1, fun y hy => h.2.2 y hy x (List.mem_singleton.2 rfl)⟩
theorem snoc_ind {P : List Int → Prop} (h0 : P []) (h1 : ∀ l x, P l → P (l ++ [x])) : ∀ l, P l := fun l => by
  have : ∀ (m : List Int), P m.reverse := fun m => by
    induction m with
    | nil => exact h0
    | cons x m ih => rw [List.reverse_cons]; exact h1 _ _ ih
  have h := this l.reverse
  rwa [List.reverse_reverse] at h
theorem Cnt.spec (k : Nat) (d : Int) (hd : okD d) : ∀ l : List Int, Asc l → (∀ x ∈ l, okD x) →
    ((Cnt.run k d l).g = true ↔ ∀ x ∈ l, per k x = per k d → x ≤ d) ∧ (Cnt.run k d l).lt = (later k (per k d) (-1) l).length ∧ per k d ≤ (Cnt.run k d l).la ∧
      (∀ x ∈ l, per k x ≤ (Cnt.run k d l).la) ∧ ((Cnt.run k d l).la = per k d ∨ ∃ x ∈ l, per k x = (Cnt.run k d l).la) := by
  refine snoc_ind (fun _ _ => ⟨by simp [Cnt.run, Cnt.ini], rfl, Int.le_refl _, (fun x hx => by cases hx), .inl rfl⟩) ?_
  intro l x ih ha hok
  obtain ⟨ha', hlt⟩ := asc_snoc ha
  obtain ⟨i1, i2, i3, i4, i5⟩ := ih ha' (fun y hy => hok y (List.mem_append_left _ hy))
  have hx := hok x (List.mem_append_right _ (List.mem_singleton.2 rfl))
  rw [Cnt.run_snoc]
  generalize Cnt.run k d l = c at *
  unfold Cnt.add
  refine ⟨?_, ?_, ?_, ?_, ?_⟩
  · simp only [Bool.and_eq_true, Bool.not_eq_true', Bool.and_eq_false_iff, decide_eq_false_iff_not]
    rw [i1]
    constructor
    · rintro ⟨h1, h2⟩ y hy e
      rcases List.mem_append.1 hy with hy | hy
      · exact h1 y hy e
      · obtain rfl := List.mem_singleton.1 hy
        rcases h2 with h2 | h2
        · omega
        · exact absurd e h2
    · intro h
      refine ⟨fun y hy => h y (List.mem_append_left _ hy), ?_⟩
      rcases Int.decEq (per k x) (per k d) with hne | he
      · exact .inr hne
      · left
        have := h x (List.mem_append_right _ (List.mem_singleton.2 rfl)) he
        omega
  · by_cases hl : c.la < per k x
    · simp only [if_pos hl]
      rw [i2, nodup_len (later_nodup k (per k d) (-1) (l ++ [x])) (m := per k x :: later k (per k d) (-1) l) (List.nodup_cons.2 ⟨fun hm => by
        rw [later_mem] at hm
        obtain ⟨⟨y, hy, e⟩, _⟩ := hm
        have := i4 y hy
        omega, later_nodup _ _ _ _⟩) (fun q => by
        rw [later_mem, List.mem_cons, later_mem]
        constructor
        · rintro ⟨⟨y, hy, e⟩, h2, h3⟩
          rcases List.mem_append.1 hy with hy | hy
          · exact .inr ⟨⟨y, hy, e⟩, h2, h3⟩
          · obtain rfl := List.mem_singleton.1 hy
            exact .inl e.symm
        · rintro (rfl | ⟨⟨y, hy, e⟩, h2, h3⟩)
          · have := per_nonneg k hx
            exact ⟨⟨x, List.mem_append_right _ (List.mem_singleton.2 rfl), rfl⟩, by omega, by omega⟩
          · exact ⟨⟨y, List.mem_append_left _ hy, e⟩, h2, h3⟩)]
      rfl
    · simp only [if_neg hl]
      rw [i2]
      refine (nodup_len (later_nodup k (per k d) (-1) (l ++ [x])) (later_nodup k (per k d) (-1) l) (fun q => ?_)).symm
      rw [later_mem, later_mem]
      constructor
      · rintro ⟨⟨y, hy, e⟩, h2, h3⟩
        rcases List.mem_append.1 hy with hy | hy
        · exact ⟨⟨y, hy, e⟩, h2, h3⟩
        · obtain rfl := List.mem_singleton.1 hy
          have hle : per k y ≤ c.la := by omega
          rcases i5 with h5 | ⟨z, hz, h5⟩
          · omega
          · have := per_mono k (hok z (List.mem_append_left _ hz)) hx (by have := hlt z hz; omega)
            exact ⟨⟨z, hz, by omega⟩, h2, h3⟩
      · rintro ⟨⟨y, hy, e⟩, h2, h3⟩
        exact ⟨⟨y, List.mem_append_left _ hy, e⟩, h2, h3⟩
  · simp only []
    split <;> omega
  · intro y hy
    simp only []
    rcases List.mem_append.1 hy with hy | hy
    · have := i4 y hy
      split <;> omega
    · obtain rfl := List.mem_singleton.1 hy
      split <;> omega
  · simp only []
    split
    · exact .inr ⟨x, List.mem_append_right _ (List.mem_singleton.2 rfl), rfl⟩
    · rcases i5 with h | ⟨y, hy, h⟩
      · exact .inl h
      · exact .inr ⟨y, List.mem_append_left _ hy, h⟩
/-- The program's test: the day is not kept for this kind. -/
theorem Cnt.test (k m : Nat) (d : Int) (hd : okD d) (l : List Int) (ha : Asc l) (hok : ∀ x ∈ l, okD x) : ((Cnt.run k d l).g = false ∨ m ≤ (Cnt.run k d l).lt) ↔ ¬ By k m l d := by
  obtain ⟨h1, h2, _⟩ := Cnt.spec k d hd l ha hok
  unfold By
  rw [h2]
  constructor
  · rintro (h | h) ⟨h3, h4⟩
    · rw [h1.2 h3] at h; cases h
    · omega
  · intro h
    by_cases h3 : ∀ x ∈ l, per k x = per k d → x ≤ d
    · right
      rcases Nat.lt_or_ge (later k (per k d) (-1) l).length m with h4 | h4
      · exact absurd ⟨h3, h4⟩ h
      · exact h4
    · left
      cases hg : (Cnt.run k d l).g
      · rfl
      · exact absurd (h1.1 hg) h3

/-- The days with the further ones, as long as they can be counted. -/
def ext (s : List Int) (last : Int) : Nat → List Int
  | 0 => s
  | i + 1 => if last + ((i : Int) + 1) ≤ 999999 then ext s last i ++ [last + ((i : Int) + 1)] else ext s last i
theorem ext_mem {s : List Int} {last x : Int} : ∀ {i : Nat}, x ∈ ext s last i ↔ x ∈ s ∨ (last < x ∧ x ≤ last + i ∧ x ≤ 999999)
  | 0 => by simp [ext]; omega
  | i + 1 => by
    rw [ext]
    split
    · rw [List.mem_append, ext_mem, List.mem_singleton]
      constructor
      · rintro ((h | h) | h)
        · exact .inl h
        · exact .inr (by omega)
        · exact .inr (by omega)
      · rintro (h | h)
        · exact .inl (.inl h)
        · rcases Int.decEq x (last + ((i : Int) + 1)) with hx | hx
          · exact .inl (.inr (by omega))
          · exact .inr hx
    · rw [ext_mem]
      constructor
      · rintro (h | h)
        · exact .inl h
        · exact .inr (by omega)
      · rintro (h | h)
        · exact .inl h
        · exact .inr (by omega)
theorem ext_asc {s : List Int} {last : Int} (hs : Asc s) (hl : ∀ x ∈ s, x ≤ last) : ∀ i, Asc (ext s last i)
  | 0 => hs
  | i + 1 => by
    rw [ext]
    split
    · rw [Asc, List.pairwise_append]
      refine ⟨ext_asc hs hl i, by simp, fun x hx y hy => ?_⟩
      obtain rfl := List.mem_singleton.1 hy
      rcases ext_mem.1 hx with h | h
      · have := hl x h; omega
      · omega
    · exact ext_asc hs hl i
theorem ext_ok {s : List Int} {last : Int} (hs : ∀ x ∈ s, okD x) (h0 : 0 ≤ last) (i : Nat) : ∀ x ∈ ext s last i, okD x := fun x hx => by
  rcases ext_mem.1 hx with h | h
  · exact hs x h
  · unfold okD; omega

/-- The least of the numbers from i on at which P holds; 0 if none of the next f does. -/
def lst (P : Nat → Prop) [DecidablePred P] : Nat → Nat → Nat
  | 0, _ => 0
  | f + 1, i => if P i then i else lst P f (i + 1)
theorem lst_zero {P : Nat → Prop} [DecidablePred P] : ∀ {f i : Nat}, 0 < i → (lst P f i = 0 ↔ ∀ j, i ≤ j → j < i + f → ¬ P j)
  | 0, i, _ => ⟨fun _ j h1 h2 => by omega, fun _ => rfl⟩
  | f + 1, i, hi => by
    rw [lst]
    split
    · rename_i h
      exact ⟨fun e => by omega, fun e => absurd h (e i (Nat.le_refl _) (by omega))⟩
    · rename_i h
      rw [lst_zero (by omega)]
      constructor
      · intro e j h1 h2
        rcases Nat.eq_or_lt_of_le h1 with rfl | h1
        · exact h
        · exact e j h1 (by omega)
      · intro e j h1 h2
        exact e j (by omega) (by omega)
theorem lst_pos {P : Nat → Prop} [DecidablePred P] : ∀ {f i n : Nat}, 0 < i → 0 < n → (lst P f i = n ↔ i ≤ n ∧ n < i + f ∧ P n ∧ ∀ j, i ≤ j → j < n → ¬ P j)
  | 0, i, n, _, hn => ⟨fun h => by simp [lst] at h; omega, fun h => by omega⟩
  | f + 1, i, n, hi, hn => by
    rw [lst]
    split
    · rename_i h
      constructor
      · rintro rfl
        exact ⟨Nat.le_refl _, by omega, h, fun j h1 h2 => by omega⟩
      · rintro ⟨h1, h2, h3, h4⟩
        rcases Nat.eq_or_lt_of_le h1 with rfl | h1
        · rfl
        · exact absurd h (h4 i (Nat.le_refl _) h1)
    · rename_i h
      rw [lst_pos (by omega) hn]
      constructor
      · rintro ⟨h1, h2, h3, h4⟩
        refine ⟨by omega, by omega, h3, fun j h5 h6 => ?_⟩
        rcases Nat.eq_or_lt_of_le h5 with rfl | h5
        · exact h
        · exact h4 j h5 h6
      · rintro ⟨h1, h2, h3, h4⟩
        rcases Nat.eq_or_lt_of_le h1 with rfl | h1
        · exact absurd h3 h
        · exact ⟨h1, by omega, h3, fun j h5 h6 => h4 j (by omega) h6⟩
/-- What the program's 'dropped' answers. -/
def dropN (k m : Nat) (s : List Int) (last d : Int) (limit : Nat) : Nat := lst (fun i => ¬ By k m (ext s last i) d) limit 1
/-- What the program's Next answers of a day that is kept and not held. -/
def nextN (n : Nums) (s : List Int) (last d : Int) (limit : Nat) : Nat :=
  if dropN 0 n.a s last d limit = 0 ∨ dropN 1 n.b s last d limit = 0 ∨ dropN 2 n.c s last d limit = 0 ∨ dropN 3 n.d s last d limit = 0 then 0
  else max (max (dropN 0 n.a s last d limit) (dropN 1 n.b s last d limit)) (max (dropN 2 n.c s last d limit) (dropN 3 n.d s last d limit))
theorem drop_mono {k m : Nat} {s : List Int} {last d : Int} {i j : Nat} (h : i ≤ j) (hb : ¬ By k m (ext s last i) d) : ¬ By k m (ext s last j) d :=
  fun hj => hb (hj.mono (fun x hx => by
    rw [ext_mem] at hx ⊢
    rcases hx with hx | hx
    · exact .inl hx
    · exact .inr (by omega)) (Nat.le_refl _))
theorem drop_cap {k m : Nat} {s : List Int} {last d : Int} {i c : Nat} (hc : 999999 ≤ last + c) (h : c ≤ i) : By k m (ext s last i) d ↔ By k m (ext s last c) d :=
  By.congr fun x => by
    rw [ext_mem, ext_mem]
    constructor
    · rintro (hx | hx)
      · exact .inl hx
      · exact .inr (by omega)
    · rintro (hx | hx)
      · exact .inl hx
      · exact .inr (by omega)
/-- What the reference's Next answers of such a day. -/
def nextR (n : Nums) (s holds : List Int) (last d : Int) (limit : Nat) : Nat := lst (fun i => rsn n (ext s last i) holds d = 0) (min limit (999999 - last).toNat) 1
theorem next_held (n : Nums) (s holds : List Int) (last d : Int) (limit : Nat) (h : d ∈ holds) : nextR n s holds last d limit = 0 := by
  unfold nextR
  rw [lst_zero (by omega)]
  intro j _ _ h0
  exact (rsn_zero.1 h0).2.2.2.2 h
theorem next_eq (n : Nums) (s holds : List Int) (last d : Int) (limit : Nat) (hh : ¬ d ∈ holds) (hk : rsn n s holds d ≠ 0) (hl : last ≤ 999999) : nextN n s last d limit = nextR n s holds last d limit := by
  obtain ⟨c, hc⟩ : ∃ c : Nat, (999999 - last).toNat = c := ⟨_, rfl⟩
  have hc1 : 999999 ≤ last + c := by omega
  have hc2 : last + c ≤ 999999 := by omega
  have hz : ∀ i, rsn n (ext s last i) holds d = 0 ↔ ¬ By 0 n.a (ext s last i) d ∧ ¬ By 1 n.b (ext s last i) d ∧ ¬ By 2 n.c (ext s last i) d ∧ ¬ By 3 n.d (ext s last i) d := fun i => by
    rw [rsn_zero]
    exact ⟨fun h => ⟨h.1, h.2.1, h.2.2.1, h.2.2.2.1⟩, fun h => ⟨h.1, h.2.1, h.2.2.1, h.2.2.2, hh⟩⟩
  -- whatever happens happens before the days end
  have hcap : ∀ (k m i : Nat), c ≤ i → (¬ By k m (ext s last i) d ↔ ¬ By k m (ext s last c) d) := fun k m i hi => not_congr (drop_cap hc1 hi)
  by_cases hr : nextR n s holds last d limit = 0
  · rw [hr]
    unfold nextR at hr
    rw [lst_zero (by omega), hc] at hr
    unfold nextN
    refine if_pos (Classical.byContradiction fun hn => ?_)
    have hp : dropN 0 n.a s last d limit ≠ 0 ∧ dropN 1 n.b s last d limit ≠ 0 ∧ dropN 2 n.c s last d limit ≠ 0 ∧ dropN 3 n.d s last d limit ≠ 0 := ⟨fun e => hn (.inl e), fun e => hn (.inr (.inl e)), fun e => hn (.inr (.inr (.inl e))), fun e => hn (.inr (.inr (.inr e)))⟩
    have hat : ∀ k m, dropN k m s last d limit ≠ 0 → 1 ≤ limit ∧ ¬ By k m (ext s last limit) d := fun k m h => by
      obtain ⟨h1, h2, h3, _⟩ := (lst_pos (n := dropN k m s last d limit) (by omega) (by omega)).1 (show lst (fun i => ¬ By k m (ext s last i) d) limit 1 = _ from rfl)
      exact ⟨by omega, drop_mono (by omega) h3⟩
    obtain ⟨l1, a0⟩ := hat _ _ hp.1
    obtain ⟨_, a1⟩ := hat _ _ hp.2.1
    obtain ⟨_, a2⟩ := hat _ _ hp.2.2.1
    obtain ⟨_, a3⟩ := hat _ _ hp.2.2.2
    rcases Nat.eq_zero_or_pos c with h0 | h0
    · subst h0
      refine hk ?_
      have := (hz 0).2 ⟨(hcap _ _ _ (Nat.zero_le _)).1 a0, (hcap _ _ _ (Nat.zero_le _)).1 a1, (hcap _ _ _ (Nat.zero_le _)).1 a2, (hcap _ _ _ (Nat.zero_le _)).1 a3⟩
      exact this
    · rcases Nat.le_total limit c with hle | hle
      · exact hr limit l1 (by omega) ((hz limit).2 ⟨a0, a1, a2, a3⟩)
      · exact hr c h0 (by omega) ((hz c).2 ⟨(hcap _ _ _ hle).1 a0, (hcap _ _ _ hle).1 a1, (hcap _ _ _ hle).1 a2, (hcap _ _ _ hle).1 a3⟩)
  · obtain ⟨i, hi⟩ : ∃ i, nextR n s holds last d limit = i := ⟨_, rfl⟩
    rw [hi] at hr ⊢
    have hi' := (lst_pos (n := i) (by omega) (by omega)).1 (show lst (fun i => rsn n (ext s last i) holds d = 0) (min limit (999999 - last).toNat) 1 = i from hi)
    obtain ⟨h1, h2, h3, h4⟩ := hi'
    rw [hc] at h2
    obtain ⟨b0, b1, b2, b3⟩ := (hz i).1 h3
    have hbd : ∀ k m, ¬ By k m (ext s last i) d → 0 < dropN k m s last d limit ∧ dropN k m s last d limit ≤ i ∧ ¬ By k m (ext s last (dropN k m s last d limit)) d := fun k m hb => by
      have hne : dropN k m s last d limit ≠ 0 := fun e => (lst_zero (by omega)).1 (show lst (fun i => ¬ By k m (ext s last i) d) limit 1 = 0 from e) i h1 (by omega) hb
      obtain ⟨g1, g2, g3, g4⟩ := (lst_pos (n := dropN k m s last d limit) (by omega) (by omega)).1 (show lst (fun i => ¬ By k m (ext s last i) d) limit 1 = _ from rfl)
      refine ⟨by omega, ?_, g3⟩
      rcases Nat.lt_or_ge i (dropN k m s last d limit) with h | h
      · exact absurd hb (g4 i h1 h)
      · exact h
    obtain ⟨p0, q0, r0⟩ := hbd _ _ b0
    obtain ⟨p1, q1, r1⟩ := hbd _ _ b1
    obtain ⟨p2, q2, r2⟩ := hbd _ _ b2
    obtain ⟨p3, q3, r3⟩ := hbd _ _ b3
    unfold nextN
    rw [if_neg (by omega)]
    obtain ⟨j, hj⟩ : ∃ j, max (max (dropN 0 n.a s last d limit) (dropN 1 n.b s last d limit)) (max (dropN 2 n.c s last d limit) (dropN 3 n.d s last d limit)) = j := ⟨_, rfl⟩
    rw [hj]
    rcases Nat.lt_or_ge j i with h | h
    · exact absurd ((hz j).2 ⟨drop_mono (by omega) r0, drop_mono (by omega) r1, drop_mono (by omega) r2, drop_mono (by omega) r3⟩) (h4 j (by omega) h)
    · omega
end Ret
end Go.Proofs.Ytfffhdclbdmfnaa
