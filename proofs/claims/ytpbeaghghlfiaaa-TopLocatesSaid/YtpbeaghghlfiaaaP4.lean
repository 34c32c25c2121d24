/- Locating wrong pieces, plainly. -/
import Derived.Test.YtpbeaghghlfiaaaP3
namespace Go.Proofs.Ytpbeaghghlfiaaa
set_option linter.unusedVariables false
set_option linter.unusedSimpArgs false
theorem rows_bys : ∀ d < 9, ∀ i < 8, bysB [rowP d i] d = true := by decide +kernel
theorem rowP_bys {d i : Nat} (hd : d ≤ 8) (hi : i < 8) : (rowP d i).length = d ∧ Bys (rowP d i) := bysB_iff (rows_bys d (by omega) i hi) _ (List.mem_singleton.2 rfl)
theorem row_ext {a b : List Nat} {n : Nat} (ha : a.length = n) (hb : b.length = n) (h : ∀ t < n, a.getD t 0 = b.getD t 0) : a = b := by
  refine List.ext_getElem? (fun i => ?_)
  by_cases hi : i < n
  · have h1 := h i hi
    rw [List.getElem?_eq_getElem (by omega), List.getElem?_eq_getElem (by omega)]
    rw [List.getD_eq_getElem?_getD, List.getD_eq_getElem?_getD, List.getElem?_eq_getElem (by omega), List.getElem?_eq_getElem (by omega)] at h1
    exact congrArg some h1
  · rw [List.getElem?_eq_none (by omega), List.getElem?_eq_none (by omega)]
/-- The bytes at a place. -/
def colP (m : Mt) (t : Nat) : List Nat := m.map (fun b => b.getD t 0)
theorem Bys.at' {r : List Nat} (h : Bys r) (t : Nat) : r.getD t 0 < 256 := by
  rw [List.getD_eq_getElem?_getD]
  by_cases hi : t < r.length
  · rw [List.getElem?_eq_getElem hi]
    exact h _ (List.getElem_mem hi)
  · rw [List.getElem?_eq_none (by omega)]
    show 0 < 256
    omega
theorem colP_bys {m : Mt} (h : ∀ r ∈ m, Bys r) (t : Nat) : Bys (colP m t) := fun x hx => by
  obtain ⟨r, hr, rfl⟩ := List.mem_map.1 hx
  exact (h r hr).at' t
/-- The factors with which the first d of the pieces l give the wanted ones. -/
def factP (d : Nat) (l ws : List Nat) : Mt := mulP d (ofP d ws) (invP (ofP d (l.take d)))
/-- The sum of the first pieces, each multiplied with its factor. -/
def predP (n : Nat) (pieces : Mt) (f : List Nat) : List Nat := comb n f (pieces.take f.length)
/-- Are the pieces behind the first d the sums with these factors? -/
def okP (n d : Nat) (pieces F : Mt) : Prop := ∀ i, i < F.length → pieces.getD (d + i) [] = predP n pieces (F.getD i [])
theorem factP_at {d : Nat} {l ws : List Nat} {i : Nat} (hi : i < ws.length) : (factP d l ws).getD i [] = comb d (rowP d (ws.getD i 0)) (invP (ofP d (l.take d))) := by
  unfold factP mulP ofP
  rw [List.getD_eq_getElem?_getD, List.getD_eq_getElem?_getD, List.map_map, List.getElem?_map, List.getElem?_eq_getElem hi]
  rfl
theorem factP_len (d : Nat) (l ws : List Nat) : (factP d l ws).length = ws.length := by
  unfold factP mulP ofP
  rw [List.length_map, List.length_map]
/-- What a piece is foretold to have at a place. -/
theorem pred_at {n d t : Nat} {l : List Nat} (hI : InvOk l) (hd : l.length = d) {pieces : Mt} (hp : ∀ r ∈ pieces, r.length = n ∧ Bys r) (ht : t < n) {w : Nat} (hw : w < 8) (hd8 : d ≤ 8) : (predP n pieces (comb d (rowP d w) (invP (ofP d l)))).getD t 0 = encP d w (decP l (colP (pieces.take d) t)) := by
  subst hd
  have hr := rowP_bys hd8 hw
  have hl : (comb l.length (rowP l.length w) (invP (ofP l.length l))).length = l.length := comb_len _ (fun b hb => (hI.bys b hb).1)
  unfold predP
  rw [hl, comb_getD ht _ (fun b hb => (hp b (List.mem_of_mem_take hb)).1)]
  exact comb_dot _ hI.bys hr.2
theorem predP_len {n d : Nat} {pieces : Mt} (hp : ∀ r ∈ pieces, r.length = n ∧ Bys r) (f : List Nat) : (predP n pieces f).length = n := comb_len _ (fun b hb => (hp b (List.mem_of_mem_take hb)).1)
section
variable {n d m : Nat} {given blocks : Mt} (hd : 1 ≤ d) (hdm : d ≤ m) (hm : m ≤ 8) (hg : given.length = m) (hgb : ∀ r ∈ given, r.length = n ∧ Bys r) (hb : blocks.length = d) (hbb : ∀ r ∈ blocks, r.length = n ∧ Bys r)
/-- A piece of the blocks. -/
def pieceP (n d : Nat) (blocks : Mt) (i : Nat) : List Nat := comb n (rowP d i) blocks
/-- Is a piece wrong? -/
def badP (n d : Nat) (blocks given : Mt) (i : Nat) : Bool := decide (given.getD i [] ≠ pieceP n d blocks i)
def badL (n d m : Nat) (blocks given : Mt) : List Nat := (List.range m).filter (badP n d blocks given)
def rightL (m s : Nat) : List Nat := (List.range m).filter (fun i => !s.testBit i)
def otherL (m s : Nat) : List Nat := (List.range m).filter (fun i => s.testBit i)
def atL (given : Mt) (l : List Nat) : Mt := l.map (fun i => given.getD i [])
theorem atL_bys {n : Nat} {given : Mt} {m : Nat} (hg : given.length = m) (hgb : ∀ r ∈ given, r.length = n ∧ Bys r) {l : List Nat} (hl : ∀ i ∈ l, i < m) : ∀ r ∈ atL given l, r.length = n ∧ Bys r := fun r hr => by
  obtain ⟨i, hi, rfl⟩ := List.mem_map.1 hr
  have := hl i hi
  rw [List.getD_eq_getElem?_getD, List.getElem?_eq_getElem (by omega)]
  exact hgb _ (List.getElem_mem _)
theorem pieceP_at {n d t : Nat} {blocks : Mt} (hbb : ∀ r ∈ blocks, r.length = n ∧ Bys r) (ht : t < n) (i : Nat) : (pieceP n d blocks i).getD t 0 = encP d i (colP blocks t) := comb_getD ht _ (fun r hr => (hbb r hr).1)
theorem pieceP_len {n d : Nat} {blocks : Mt} (hbb : ∀ r ∈ blocks, r.length = n ∧ Bys r) (i : Nat) : (pieceP n d blocks i).length = n := comb_len _ (fun r hr => (hbb r hr).1)
theorem atL_take (given : Mt) (l : List Nat) (d : Nat) : (atL given l).take d = atL given (l.take d) := List.map_take.symm
theorem colP_atL (given : Mt) (l : List Nat) (t : Nat) : colP (atL given l) t = l.map (fun i => (given.getD i []).getD t 0) := by
  unfold colP atL
  rw [List.map_map]
  rfl
theorem filter_split (p : Nat → Bool) (l : List Nat) : (l.filter p).length + (l.filter (fun i => !p i)).length = l.length := by
  induction l with
  | nil => rfl
  | cons a l ih =>
    rw [List.filter_cons, List.filter_cons]
    cases p a <;> simp <;> omega
include hd hdm hm hg hgb
/-- Pieces that agree with each other are those of some blocks. -/
theorem ok_dec {l : List Nat} (hl : Asc l) (hlm : ∀ i ∈ l, i < m) (hld : d ≤ l.length) (hok : okP n d (atL given l) (factP d l (l.drop d))) {t : Nat} (ht : t < n) {i : Nat} (hi : i ∈ l) : (given.getD i []).getD t 0 = encP d i (decP (l.take d) (colP (atL given (l.take d)) t)) := by
  have hlen : (l.take d).length = d := by rw [List.length_take]; omega
  have hI : InvOk (l.take d) := invOk (hl.sublist (List.take_sublist d l)) (fun i hi => by have := hlm i (List.mem_of_mem_take hi); omega) (fun h0 => by rw [h0] at hlen; simp at hlen; omega)
  have hab := atL_bys hg hgb hlm
  obtain ⟨k, hk, rfl⟩ := List.getElem_of_mem hi
  by_cases hkd : k < d
  · have h1 := enc_dec hI (y := colP (atL given (l.take d)) t) (colP_bys (fun r hr => (atL_bys hg hgb (fun i hi => hlm i (List.mem_of_mem_take hi)) r hr).2) t) (by unfold colP atL; rw [List.length_map, List.length_map])
    rw [hlen] at h1
    have h2 := congrArg (fun x => x[k]?) h1
    simp only [List.getElem?_map, colP_atL] at h2
    rw [List.getElem?_take_of_lt hkd, List.getElem?_eq_getElem hk] at h2
    simp only [Option.map_some, Option.some.injEq] at h2
    rw [colP_atL]
    exact h2.symm
  · have h1 := hok (k - d) (by rw [factP_len, List.length_drop]; omega)
    rw [factP_at (by rw [List.length_drop]; omega)] at h1
    have h2 := congrArg (fun x => x.getD t 0) h1
    have hw : (l.drop d).getD (k - d) 0 = l[k] := by
      rw [List.getD_eq_getElem?_getD, List.getElem?_drop, show d + (k - d) = k by omega, List.getElem?_eq_getElem hk]
      rfl
    have hp : (atL given l).getD (d + (k - d)) [] = given.getD l[k] [] := by
      unfold atL
      rw [show d + (k - d) = k by omega, List.getD_eq_getElem?_getD, List.getElem?_map, List.getElem?_eq_getElem hk]
      rfl
    simp only [hp, hw] at h2
    rw [h2, pred_at hI hlen hab ht (by have := hlm _ hi; omega) (by omega), atL_take]
include hb hbb
/-- .. and if at most half of the spare pieces are wrong or not looked at, of the true blocks. -/
theorem ok_true {l : List Nat} (hl : Asc l) (hlm : ∀ i ∈ l, i < m) (hld : d + (badL n d m blocks given).length ≤ l.length) (hok : okP n d (atL given l) (factP d l (l.drop d))) {t : Nat} (ht : t < n) : decP (l.take d) (colP (atL given (l.take d)) t) = colP blocks t := by
  have hlen : (l.take d).length = d := by rw [List.length_take]; omega
  have hI : InvOk (l.take d) := invOk (hl.sublist (List.take_sublist d l)) (fun i hi => by have := hlm i (List.mem_of_mem_take hi); omega) (fun h0 => by rw [h0] at hlen; simp at hlen; omega)
  have hcl : (colP blocks t).length = d := by unfold colP; rw [List.length_map, hb]
  refine enc_inj hd (l := l.filter (fun i => !badP n d blocks given i)) (hl.filter _) (fun i hi => by have := hlm i (List.mem_filter.1 hi).1; omega) ?_ (decP_bys hI _) ((decP_len hI _).trans hlen) (colP_bys (fun r hr => (hbb r hr).2) t) hcl (fun i hi => ?_)
  · have h1 := filter_split (badP n d blocks given) l
    have h2 : (l.filter (badP n d blocks given)).length ≤ (badL n d m blocks given).length := by
      refine List.Sublist.length_le ?_
      have h3 : l = (List.range m).filter (fun i => l.contains i) := asc_ext hl (asc_filter _ m) (fun x => by
        rw [List.mem_filter, List.mem_range, List.contains_iff_mem]
        exact ⟨fun h => ⟨hlm x h, h⟩, fun h => h.2⟩)
      have h4 : l.Sublist (List.range m) := by rw [h3]; exact List.filter_sublist
      exact h4.filter _
    omega
  · obtain ⟨hi1, hi2⟩ := List.mem_filter.1 hi
    have h1 := ok_dec hd hdm hm hg hgb hl hlm (by omega) hok ht hi1
    have h2 : given.getD i [] = pieceP n d blocks i := by
      simp only [badP, Bool.not_eq_true', decide_eq_false_iff_not, Decidable.not_not] at hi2
      exact hi2
    rw [← h1, h2, pieceP_at hbb ht]
/-- The true pieces agree with each other. -/
theorem ok_right {l : List Nat} (hl : Asc l) (hlm : ∀ i ∈ l, i < m) (hld : d ≤ l.length) (hnb : ∀ i ∈ l, badP n d blocks given i = false) : okP n d (atL given l) (factP d l (l.drop d)) := by
  have hlen : (l.take d).length = d := by rw [List.length_take]; omega
  have hI : InvOk (l.take d) := invOk (hl.sublist (List.take_sublist d l)) (fun i hi => by have := hlm i (List.mem_of_mem_take hi); omega) (fun h0 => by rw [h0] at hlen; simp at hlen; omega)
  have hab := atL_bys hg hgb hlm
  have htrue : ∀ i ∈ l, given.getD i [] = pieceP n d blocks i := fun i hi => by
    have := hnb i hi
    simpa [badP] using this
  intro k hk
  rw [factP_len, List.length_drop] at hk
  have hkl : d + k < l.length := by omega
  have hw : (l.drop d).getD k 0 = l[d + k] := by
    rw [List.getD_eq_getElem?_getD, List.getElem?_drop, List.getElem?_eq_getElem hkl]
    rfl
  have hp : (atL given l).getD (d + k) [] = given.getD l[d + k] [] := by
    unfold atL
    rw [List.getD_eq_getElem?_getD, List.getElem?_map, List.getElem?_eq_getElem hkl]
    rfl
  rw [factP_at (by rw [List.length_drop]; omega), hw, hp]
  refine row_ext (n := n) ?_ (predP_len (d := d) hab _) (fun t ht => ?_)
  · exact (atL_bys hg hgb hlm _ (List.mem_map.2 ⟨_, List.getElem_mem hkl, rfl⟩)).1
  · rw [pred_at hI hlen hab ht (by have := hlm _ (List.getElem_mem hkl); omega) (by omega), htrue _ (List.getElem_mem hkl), pieceP_at hbb ht]
    have hcl : (colP blocks t).length = (l.take d).length := by unfold colP; rw [List.length_map, hb, hlen]
    have h1 := dec_enc hI (colP_bys (fun r hr => (hbb r hr).2) t) hcl
    have h2 : colP ((atL given l).take d) t = (l.take d).map (fun i => encP (l.take d).length i (colP blocks t)) := by
      rw [atL_take, colP_atL, hlen]
      refine List.map_congr_left fun i hi => ?_
      rw [htrue i (List.mem_of_mem_take hi), pieceP_at hbb ht]
    rw [h2, h1]
end
end Go.Proofs.Ytpbeaghghlfiaaa
