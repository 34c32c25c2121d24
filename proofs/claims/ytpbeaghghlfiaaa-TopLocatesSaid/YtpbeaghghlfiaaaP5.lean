/- The search for the wrong pieces, plainly. -/
import Derived.Test.YtpbeaghghlfiaaaP4
namespace Go.Proofs.Ytpbeaghghlfiaaa
set_option linter.unusedVariables false
set_option linter.unusedSimpArgs false
theorem filter_or_len (p q : Nat → Bool) : ∀ l : List Nat, (∀ x ∈ l, ¬ (p x = true ∧ q x = true)) → (l.filter (fun x => p x || q x)).length = (l.filter p).length + (l.filter q).length
  | [], _ => rfl
  | a :: l, h => by
    have ih := filter_or_len p q l (fun x hx => h x (List.mem_cons_of_mem _ hx))
    have ha := h a (List.mem_cons_self ..)
    rw [List.filter_cons, List.filter_cons, List.filter_cons]
    cases hp : p a <;> cases hq : q a <;> simp_all <;> omega
theorem filter_eq_sub {l : List Nat} {m : Nat} (hl : Asc l) (hm : ∀ i ∈ l, i < m) : (List.range m).filter (fun i => l.contains i) = l :=
  asc_ext (asc_filter _ m) hl (fun x => by
    rw [List.mem_filter, List.mem_range, List.contains_iff_mem]
    exact ⟨fun h => h.2, fun h => ⟨hm x h, h⟩⟩)
theorem otherL_bits {l : List Nat} {m : Nat} (hl : Asc l) (hm : ∀ i ∈ l, i < m) : otherL m (bitsOf l) = l := by
  unfold otherL
  refine Eq.trans (List.filter_congr fun i hi => ?_) (filter_eq_sub hl hm)
  rw [bitsOf_test]
theorem right_len (m s : Nat) : (otherL m s).length + (rightL m s).length = m := by
  have := filter_split (fun i => s.testBit i) (List.range m)
  rw [List.length_range] at this
  exact this
/-- A set of w places that holds all wrong ones. -/
theorem set_ex {m w : Nat} (p : Nat → Bool) (hb : ((List.range m).filter p).length ≤ w) (hw : w ≤ m) : ∃ s < 2 ^ m, (otherL m s).length = w ∧ ∀ i ∈ rightL m s, p i = false := by
  have h1 := filter_split p (List.range m)
  rw [List.length_range] at h1
  obtain ⟨ex, hex⟩ : ∃ ex, ex = ((List.range m).filter (fun i => !p i)).take (w - ((List.range m).filter p).length) := ⟨_, rfl⟩
  have hexa : Asc ex := by rw [hex]; exact (asc_filter _ m).sublist (List.take_sublist _ _)
  have hexm : ∀ i ∈ ex, i < m ∧ p i = false := fun i hi => by
    rw [hex] at hi
    have h2 := List.mem_filter.1 (List.mem_of_mem_take hi)
    exact ⟨List.mem_range.1 h2.1, by simpa using h2.2⟩
  have hexl : ex.length = w - ((List.range m).filter p).length := by rw [hex, List.length_take]; omega
  obtain ⟨L, hL⟩ : ∃ L, L = (List.range m).filter (fun i => p i || ex.contains i) := ⟨_, rfl⟩
  have hLa : Asc L := by rw [hL]; exact asc_filter _ m
  have hLm : ∀ i ∈ L, i < m := fun i hi => by rw [hL] at hi; exact List.mem_range.1 (List.mem_filter.1 hi).1
  have hLl : L.length = w := by
    rw [hL, filter_or_len p (fun i => ex.contains i) _ (fun x hx h => by
      have := (hexm x (List.contains_iff_mem.1 h.2)).2
      rw [this] at h
      exact absurd h.1 (by decide)), filter_eq_sub hexa (fun i hi => (hexm i hi).1), hexl]
    omega
  refine ⟨bitsOf L, bitsOf_lt hLm, by rw [otherL_bits hLa hLm, hLl], fun i hi => ?_⟩
  obtain ⟨h2, h3⟩ := List.mem_filter.1 hi
  rw [bitsOf_test] at h3
  cases hp : p i with
  | false => rfl
  | true =>
    exfalso
    have h4 : i ∈ L := by rw [hL]; exact List.mem_filter.2 ⟨h2, by rw [hp]; rfl⟩
    have := List.contains_iff_mem.2 h4
    rw [this] at h3
    exact absurd h3 (by decide)
/-- The other pieces that are not the sums with their factors. -/
def diffP (n : Nat) (pieces : Mt) : Mt → List Nat → Mt → List Nat
  | f :: F, o :: os, p :: ps => if predP n pieces f = p then diffP n pieces F os ps else o :: diffP n pieces F os ps
  | _, _, _ => []
theorem diffP_eq (n d : Nat) (pieces R given : Mt) : ∀ os : List Nat, diffP n pieces (mulP d (ofP d os) R) os (atL given os) = os.filter (fun o => decide (predP n pieces (comb d (rowP d o) R) ≠ given.getD o []))
  | [] => rfl
  | o :: os => by
    have ih := diffP_eq n d pieces R given os
    show (if predP n pieces (comb d (rowP d o) R) = given.getD o [] then diffP n pieces (mulP d (ofP d os) R) os (atL given os) else o :: diffP n pieces (mulP d (ofP d os) R) os (atL given os)) = _
    rw [List.filter_cons, ih]
    by_cases h : predP n pieces (comb d (rowP d o) R) = given.getD o [] <;> simp [h]
section
variable {n d m : Nat} {given blocks : Mt} (hd : 1 ≤ d) (hdm : d ≤ m) (hm : m ≤ 8) (hg : given.length = m) (hgb : ∀ r ∈ given, r.length = n ∧ Bys r) (hb : blocks.length = d) (hbb : ∀ r ∈ blocks, r.length = n ∧ Bys r) (hbad : (badL n d m blocks given).length ≤ (m - d) / 2)
include hd hdm hm hg hgb hb hbb hbad
theorem right_all {l : List Nat} (hl : Asc l) (hlm : ∀ i ∈ l, i < m) (hld : d + (badL n d m blocks given).length ≤ l.length) (hok : okP n d (atL given l) (factP d l (l.drop d))) (i : Nat) (hi : i ∈ l) : badP n d blocks given i = false := by
  have _ := hbad
  have h1 : given.getD i [] = pieceP n d blocks i := by
    refine row_ext (n := n) ?_ (pieceP_len hbb i) (fun t ht => ?_)
    · exact (atL_bys hg hgb hlm _ (List.mem_map.2 ⟨i, hi, rfl⟩)).1
    · rw [ok_dec hd hdm hm hg hgb hl hlm (by omega) hok ht hi, ok_true hd hdm hm hg hgb hb hbb hl hlm hld hok ht, pieceP_at hbb ht]
  simp only [badP, h1, ne_eq, not_true_eq_false, decide_false]
/-- Where the pieces outside of a set agree, the others that differ are the wrong ones. -/
theorem loc_bad {s : Nat} (hs : (otherL m s).length = (m - d) / 2) (hok : okP n d (atL given (rightL m s)) (factP d (rightL m s) ((rightL m s).drop d))) : diffP n (atL given (rightL m s)) (factP d (rightL m s) (otherL m s)) (otherL m s) (atL given (otherL m s)) = badL n d m blocks given := by
  have hrl := right_len m s
  have hra : Asc (rightL m s) := asc_filter _ m
  have hrm : ∀ i ∈ rightL m s, i < m := fun i hi => List.mem_range.1 (List.mem_filter.1 hi).1
  have hom : ∀ i ∈ otherL m s, i < m := fun i hi => List.mem_range.1 (List.mem_filter.1 hi).1
  have hall := right_all hd hdm hm hg hgb hb hbb hbad hra hrm (by omega) hok
  have hlen : ((rightL m s).take d).length = d := by rw [List.length_take]; omega
  have hI : InvOk ((rightL m s).take d) := invOk (hra.sublist (List.take_sublist d _)) (fun i hi => by have := hrm i (List.mem_of_mem_take hi); omega) (fun h0 => by rw [h0] at hlen; simp at hlen; omega)
  have hab := atL_bys hg hgb hrm
  unfold factP
  rw [diffP_eq]
  refine asc_ext ((asc_filter _ m).filter _) (asc_filter _ m) (fun i => ?_)
  have hpr : i < m → predP n (atL given (rightL m s)) (comb d (rowP d i) (invP (ofP d ((rightL m s).take d)))) = pieceP n d blocks i := fun him => by
    refine row_ext (n := n) (predP_len (d := d) hab _) (pieceP_len hbb i) (fun t ht => ?_)
    rw [pred_at hI hlen hab ht (by omega) (by omega), atL_take, ok_true hd hdm hm hg hgb hb hbb hra hrm (by omega) hok ht, pieceP_at hbb ht]
  constructor
  · intro h
    obtain ⟨h1, h2⟩ := List.mem_filter.1 h
    have him := hom i h1
    refine List.mem_filter.2 ⟨List.mem_range.2 him, ?_⟩
    rw [hpr him] at h2
    simp only [badP, decide_eq_true_eq] at h2 ⊢
    exact fun g => h2 g.symm
  · intro h
    obtain ⟨h1, h2⟩ := List.mem_filter.1 h
    have him := List.mem_range.1 h1
    have hot : i ∈ otherL m s := by
      refine List.mem_filter.2 ⟨h1, ?_⟩
      cases hb' : s.testBit i with
      | true => rfl
      | false =>
        have := hall i (List.mem_filter.2 ⟨h1, by rw [hb']; rfl⟩)
        rw [this] at h2
        exact absurd h2 (by decide)
    refine List.mem_filter.2 ⟨hot, ?_⟩
    rw [hpr him]
    simp only [badP, decide_eq_true_eq] at h2 ⊢
    exact fun g => h2 g.symm
/-- Such a set is found. -/
theorem loc_ex : ∃ s < 2 ^ m, (otherL m s).length = (m - d) / 2 ∧ okP n d (atL given (rightL m s)) (factP d (rightL m s) ((rightL m s).drop d)) := by
  obtain ⟨s, hs, h1, h2⟩ := set_ex (badP n d blocks given) hbad (by omega)
  have hrl := right_len m s
  exact ⟨s, hs, h1, ok_right hd hdm hm hg hgb hb hbb (asc_filter _ m) (fun i hi => List.mem_range.1 (List.mem_filter.1 hi).1) (by omega) h2⟩
theorem range_drop_ok : okP n d given (factP d (List.range m) ((List.range m).drop d)) ↔ badL n d m blocks given = [] := by
  have hat : atL given (List.range m) = given := by
    unfold atL
    refine List.ext_getElem? (fun i => ?_)
    rw [List.getElem?_map]
    by_cases hi : i < m
    · rw [List.getElem?_range hi, List.getElem?_eq_getElem (by omega)]
      simp [List.getElem?_eq_getElem (show i < given.length by omega)]
    · rw [List.getElem?_eq_none (by rw [List.length_range]; omega), List.getElem?_eq_none (by omega)]
      rfl
  have hra : Asc (List.range m) := List.pairwise_lt_range
  have hrm : ∀ i ∈ List.range m, i < m := fun i hi => List.mem_range.1 hi
  constructor
  · intro hok
    have hall := right_all hd hdm hm hg hgb hb hbb hbad hra hrm (by rw [List.length_range]; omega) (by rw [hat]; exact hok)
    unfold badL
    rw [List.filter_eq_nil_iff]
    intro i hi
    rw [hall i hi]
    decide
  · intro h0
    have := ok_right hd hdm hm hg hgb hb hbb hra hrm (by rw [List.length_range]; omega) (fun i hi => by
      cases hbi : badP n d blocks given i with
      | false => rfl
      | true =>
        have : i ∈ badL n d m blocks given := List.mem_filter.2 ⟨hi, hbi⟩
        rw [h0] at this
        simp at this)
    rwa [hat] at this
/-- The right pieces give the blocks. -/
theorem rest_blocks : mulP n (invP (ofP d (((List.range m).filter (fun i => !badP n d blocks given i)).take d))) ((atL given ((List.range m).filter (fun i => !badP n d blocks given i))).take d) = blocks := by
  obtain ⟨l, hl⟩ : ∃ l, l = (List.range m).filter (fun i => !badP n d blocks given i) := ⟨_, rfl⟩
  have hla : Asc l := by rw [hl]; exact asc_filter _ m
  have hlm : ∀ i ∈ l, i < m := fun i hi => by rw [hl] at hi; exact List.mem_range.1 (List.mem_filter.1 hi).1
  have hnb : ∀ i ∈ l, badP n d blocks given i = false := fun i hi => by rw [hl] at hi; simpa using (List.mem_filter.1 hi).2
  have hll : d ≤ l.length := by
    have h1 := filter_split (badP n d blocks given) (List.range m)
    rw [List.length_range, ← hl] at h1
    have h2 : ((List.range m).filter (badP n d blocks given)).length ≤ (m - d) / 2 := hbad
    omega
  rw [← hl]
  have hlen : (l.take d).length = d := by rw [List.length_take]; omega
  have hI : InvOk (l.take d) := invOk (hla.sublist (List.take_sublist d l)) (fun i hi => by have := hlm i (List.mem_of_mem_take hi); omega) (fun h0 => by rw [h0] at hlen; simp at hlen; omega)
  have hab := atL_bys hg hgb hlm
  have hI2 := hI.len
  rw [hlen] at hI2
  have htrue : ∀ i ∈ l, given.getD i [] = pieceP n d blocks i := fun i hi => by
    have := hnb i hi
    simpa [badP] using this
  refine List.ext_getElem? (fun k => ?_)
  unfold mulP
  rw [List.getElem?_map]
  by_cases hk : k < d
  · rw [List.getElem?_eq_getElem (by omega), List.getElem?_eq_getElem (by omega)]
    refine congrArg some ?_
    refine row_ext (n := n) (comb_len _ (fun b hb => (hab b (List.mem_of_mem_take hb)).1)) (hbb _ (List.getElem_mem _)).1 (fun t ht => ?_)
    rw [comb_getD ht _ (fun b hb => (hab b (List.mem_of_mem_take hb)).1)]
    have hcl : (colP blocks t).length = (l.take d).length := by unfold colP; rw [List.length_map, hb, hlen]
    have h1 := dec_enc hI (colP_bys (fun r hr => (hbb r hr).2) t) hcl
    have h2 : ((atL given l).take d).map (fun b => b.getD t 0) = (l.take d).map (fun i => encP (l.take d).length i (colP blocks t)) := by
      rw [atL_take]
      show colP (atL given (l.take d)) t = _
      rw [colP_atL, hlen]
      refine List.map_congr_left fun i hi => ?_
      rw [htrue i (List.mem_of_mem_take hi), pieceP_at hbb ht]
    rw [h2]
    have h3 := congrArg (fun x => x[k]?) h1
    unfold decP at h3
    rw [hlen] at h3 ⊢
    have h4 : (colP blocks t)[k]? = (blocks[k]?).map (fun b => b.getD t 0) := List.getElem?_map ..
    simp only [List.getElem?_map, h4] at h3
    rw [List.getElem?_eq_getElem (by omega), List.getElem?_eq_getElem (by omega)] at h3
    simpa using h3
  · rw [List.getElem?_eq_none (by omega), List.getElem?_eq_none (by omega)]
    rfl
end
end Go.Proofs.Ytpbeaghghlfiaaa
