/- The kept days as lists, plainly: no program in sight. -/
import Derived.Test.YtfffhdclbdmfnaaRet
namespace Go.Proofs.Ytfffhdclbdmfnaa
namespace Ret
open Cal
set_option linter.unusedVariables false
set_option linter.unusedSimpArgs false

def ins (x : Int) : List Int → List Int
  | [] => [x]
  | y :: l => if y < x then y :: ins x l else if y = x then y :: l else x :: y :: l
def srt : List Int → List Int := List.foldl (fun l x => ins x l) []
abbrev Asc (l : List Int) : Prop := l.Pairwise (· < ·)
theorem ins_mem (x z : Int) : ∀ l : List Int, z ∈ ins x l ↔ z = x ∨ z ∈ l
  | [] => by simp [ins]
  | y :: l => by
    rw [ins]
    split
    · rw [List.mem_cons, ins_mem x z l, List.mem_cons]
      constructor
      · rintro (h | h | h) <;> simp [h]
      · rintro (h | h | h) <;> simp [h]
    · split
      · rename_i _ h
        subst h
        simp
      · simp
theorem ins_asc (x : Int) : ∀ l : List Int, Asc l → Asc (ins x l)
  | [], _ => by simp [ins, Asc]
  | y :: l, h => by
    rw [Asc, List.pairwise_cons] at h
    rw [ins]
    split
    · rename_i hl
      rw [Asc, List.pairwise_cons]
      refine ⟨fun z hz => ?_, ins_asc x l h.2⟩
      rcases (ins_mem x z l).1 hz with rfl | hz
      · exact hl
      · exact h.1 z hz
    · split
      · rw [Asc, List.pairwise_cons]; exact h
      · rename_i h1 h2
        rw [Asc, List.pairwise_cons, List.pairwise_cons]
        refine ⟨fun z hz => ?_, h⟩
        rcases List.mem_cons.1 hz with rfl | hz
        · omega
        · have := h.1 z hz; omega
theorem fold_mem (z : Int) : ∀ (xs l : List Int), z ∈ xs.foldl (fun l x => ins x l) l ↔ z ∈ xs ∨ z ∈ l
  | [], l => by simp
  | x :: xs, l => by
    rw [List.foldl_cons, fold_mem z xs, ins_mem, List.mem_cons]
    constructor
    · rintro (h | h | h) <;> simp [h]
    · rintro ((h | h) | h) <;> simp [h]
theorem fold_asc : ∀ (xs l : List Int), Asc l → Asc (xs.foldl (fun l x => ins x l) l)
  | [], _, h => h
  | x :: xs, l, h => fold_asc xs (ins x l) (ins_asc x l h)
theorem srt_mem (z : Int) (xs : List Int) : z ∈ srt xs ↔ z ∈ xs := by
  unfold srt
  rw [fold_mem]
  simp
theorem srt_asc (xs : List Int) : Asc (srt xs) := fold_asc xs [] List.Pairwise.nil
theorem srt_snoc (xs : List Int) (x : Int) : srt (xs ++ [x]) = ins x (srt xs) := by simp [srt]
theorem asc_ext : ∀ {l m : List Int}, Asc l → Asc m → (∀ z, z ∈ l ↔ z ∈ m) → l = m
  | [], [], _, _, _ => rfl
  | [], y :: m, _, _, h => by have := (h y).2 (List.mem_cons_self ..); cases this
  | x :: l, [], _, _, h => by have := (h x).1 (List.mem_cons_self ..); cases this
  | x :: l, y :: m, hl, hm, h => by
    rw [Asc, List.pairwise_cons] at hl hm
    have hxy : x = y := by
      rcases List.mem_cons.1 ((h x).1 (List.mem_cons_self ..)) with e | hx
      · exact e
      · rcases List.mem_cons.1 ((h y).2 (List.mem_cons_self ..)) with e | hy
        · exact e.symm
        · have := hl.1 y hy
          have := hm.1 x hx
          omega
    subst hxy
    rw [asc_ext hl.2 hm.2 (fun z => by
      constructor
      · intro hz
        rcases List.mem_cons.1 ((h z).1 (List.mem_cons_of_mem _ hz)) with rfl | hz'
        · have := hl.1 z hz; omega
        · exact hz'
      · intro hz
        rcases List.mem_cons.1 ((h z).2 (List.mem_cons_of_mem _ hz)) with rfl | hz'
        · have := hm.1 z hz; omega
        · exact hz')]
theorem srt_fix {l : List Int} (h : Asc l) : srt l = l := asc_ext (srt_asc l) h fun z => srt_mem z l
theorem srt_congr {l m : List Int} (h : ∀ z, z ∈ l ↔ z ∈ m) : srt l = srt m := asc_ext (srt_asc l) (srt_asc m) fun z => by rw [srt_mem, srt_mem]; exact h z
theorem filter_asc {l : List Int} (p : Int → Bool) (h : Asc l) : Asc (l.filter p) := h.filter p

/-- The numbers of the rules. -/
structure Nums where
  a : Nat
  b : Nat
  c : Nat
  d : Nat
def rsn (n : Nums) (days holds : List Int) (d : Int) : Int :=
  (if By 0 n.a days d then 1 else 0) + (if By 1 n.b days d then 2 else 0) + (if By 2 n.c days d then 4 else 0) + (if By 3 n.d days d then 8 else 0) + (if d ∈ holds then 16 else 0)
theorem rsn_zero {n : Nums} {days holds : List Int} {d : Int} : rsn n days holds d = 0 ↔ ¬ By 0 n.a days d ∧ ¬ By 1 n.b days d ∧ ¬ By 2 n.c days d ∧ ¬ By 3 n.d days d ∧ ¬ d ∈ holds := by
  unfold rsn
  constructor
  · intro h
    refine ⟨fun hb => ?_, fun hb => ?_, fun hb => ?_, fun hb => ?_, fun hb => ?_⟩
    all_goals
      rw [if_pos hb] at h
      repeat (split at h)
      all_goals omega
  · rintro ⟨h1, h2, h3, h4, h5⟩
    rw [if_neg h1, if_neg h2, if_neg h3, if_neg h4, if_neg h5]
    rfl
theorem rsn_nonneg (n : Nums) (days holds : List Int) (d : Int) : 0 ≤ rsn n days holds d ∧ rsn n days holds d ≤ 31 := by
  unfold rsn
  repeat' split
  all_goals omega
theorem rsn_congr {n : Nums} {l m holds : List Int} (h : ∀ x, x ∈ l ↔ x ∈ m) (d : Int) : rsn n l holds d = rsn n m holds d := by
  unfold rsn
  simp only [By.congr h]
def keptL (n : Nums) (days holds : List Int) : List Int := (srt days).filter fun d => decide (rsn n days holds d ≠ 0)
def dropL (n : Nums) (days holds : List Int) : List Int := (srt days).filter fun d => decide (rsn n days holds d = 0)
theorem keptL_mem {n : Nums} {days holds : List Int} {d : Int} : d ∈ keptL n days holds ↔ d ∈ days ∧ rsn n days holds d ≠ 0 := by
  unfold keptL
  rw [List.mem_filter, srt_mem]
  simp
theorem dropL_mem {n : Nums} {days holds : List Int} {d : Int} : d ∈ dropL n days holds ↔ d ∈ days ∧ rsn n days holds d = 0 := by
  unfold dropL
  rw [List.mem_filter, srt_mem]
  simp
theorem keptL_asc (n : Nums) (days holds : List Int) : Asc (keptL n days holds) := filter_asc _ (srt_asc days)
theorem dropL_asc (n : Nums) (days holds : List Int) : Asc (dropL n days holds) := filter_asc _ (srt_asc days)
def Nums.le (n n' : Nums) : Prop := n.a ≤ n'.a ∧ n.b ≤ n'.b ∧ n.c ≤ n'.c ∧ n.d ≤ n'.d
theorem rsn_mono {n n' : Nums} {l m holds holds' : List Int} (hs : ∀ x ∈ m, x ∈ l) (hn : n.le n') (hh : ∀ x ∈ holds, x ∈ holds') {d : Int} (h : rsn n l holds d ≠ 0) : rsn n' m holds' d ≠ 0 := by
  intro h0
  rw [rsn_zero] at h0
  refine h (rsn_zero.2 ⟨fun hb => h0.1 (hb.mono hs hn.1), fun hb => h0.2.1 (hb.mono hs hn.2.1), fun hb => h0.2.2.1 (hb.mono hs hn.2.2.1), fun hb => h0.2.2.2.1 (hb.mono hs hn.2.2.2), fun hb => h0.2.2.2.2 (hh d hb)⟩)
theorem again_rsn {n : Nums} {days holds : List Int} {d : Int} (h : d ∈ keptL n days holds) : rsn n (keptL n days holds) holds d ≠ 0 :=
  rsn_mono (fun x hx => (keptL_mem.1 hx).1) ⟨Nat.le_refl _, Nat.le_refl _, Nat.le_refl _, Nat.le_refl _⟩ (fun _ h => h) (keptL_mem.1 h).2
/-- Keeping the kept days keeps all of them. -/
theorem again_kept (n : Nums) (days holds : List Int) : keptL n (keptL n days holds) holds = keptL n days holds :=
  asc_ext (keptL_asc _ _ _) (keptL_asc _ _ _) fun z => by
    rw [keptL_mem]
    exact ⟨fun h => h.1, fun h => ⟨h, again_rsn h⟩⟩
theorem again_drop (n : Nums) (days holds : List Int) : dropL n (keptL n days holds) holds = [] := by
  rw [List.eq_nil_iff_forall_not_mem]
  intro z hz
  rw [dropL_mem] at hz
  exact again_rsn hz.1 hz.2
/-- With greater numbers and more holds every day stays kept. -/
theorem more_kept {n n' : Nums} (hn : n.le n') (days holds more : List Int) {d : Int} (h : d ∈ keptL n days holds) : d ∈ keptL n' days (holds ++ more) := by
  rw [keptL_mem] at h ⊢
  exact ⟨h.1, rsn_mono (fun _ h => h) hn (fun x hx => List.mem_append_left _ hx) h.2⟩
/-- The greatest day is kept if any number is positive. -/
theorem top_kept {n : Nums} {days holds : List Int} {d : Int} (hok : ∀ x ∈ days, okD x) (hd : d ∈ days) (h : ∀ x ∈ days, x ≤ d) (hn : n.a + n.b + n.c + n.d ≠ 0) : d ∈ keptL n days holds := by
  rw [keptL_mem]
  refine ⟨hd, fun h0 => ?_⟩
  rw [rsn_zero] at h0
  have ht : ∀ k m, 0 < m → By k m days d := fun k m hm => By.top (hok d hd) hok h hm
  rcases Nat.eq_zero_or_pos n.a with ha | ha
  · rcases Nat.eq_zero_or_pos n.b with hb | hb
    · rcases Nat.eq_zero_or_pos n.c with hc | hc
      · exact h0.2.2.2.1 (ht 3 n.d (by omega))
      · exact h0.2.2.1 (ht 2 n.c hc)
    · exact h0.2.1 (ht 1 n.b hb)
  · exact h0.1 (ht 0 n.a ha)

theorem exists_max : ∀ (l : List Int), l ≠ [] → ∃ d ∈ l, ∀ x ∈ l, x ≤ d
  | [], h => absurd rfl h
  | [x], _ => ⟨x, List.mem_cons_self .., fun y hy => by simp at hy; omega⟩
  | x :: y :: l, _ => by
    obtain ⟨d, hd, h⟩ := exists_max (y :: l) (by simp)
    rcases Int.le_total x d with hx | hx
    · refine ⟨d, List.mem_cons_of_mem _ hd, fun z hz => ?_⟩
      rcases List.mem_cons.1 hz with rfl | hz
      · exact hx
      · exact h z hz
    · refine ⟨x, List.mem_cons_self .., fun z hz => ?_⟩
      rcases List.mem_cons.1 hz with rfl | hz
      · exact Int.le_refl _
      · have := h z hz; omega

/-! One kind alone. -/
def one (m : Nat) : Nums := ⟨0, 0, m, 0⟩
theorem not_By_zero (k : Nat) (days : List Int) (d : Int) : ¬ By k 0 days d := fun h => absurd h.2 (by omega)
theorem one_mem {m : Nat} {days : List Int} {d : Int} : d ∈ keptL (one m) days [] ↔ d ∈ days ∧ By 2 m days d := by
  rw [keptL_mem]
  constructor
  · rintro ⟨h1, h2⟩
    refine ⟨h1, Classical.byContradiction fun hn => h2 (rsn_zero.2 ⟨not_By_zero _ _ _, not_By_zero _ _ _, hn, not_By_zero _ _ _, by simp⟩)⟩
  · rintro ⟨h1, h2⟩
    exact ⟨h1, fun h => (rsn_zero.1 h).2.2.1 h2⟩
theorem one_per_lt {m : Nat} {days : List Int} (hok : ∀ x ∈ days, okD x) {a b : Int} (ha : a ∈ keptL (one m) days []) (hb : b ∈ keptL (one m) days []) (h : a < b) : per 2 a < per 2 b := by
  rw [one_mem] at ha hb
  have := per_mono 2 (hok a ha.1) (hok b hb.1) (by omega)
  rcases Int.lt_or_eq_of_le this with h' | h'
  · exact h'
  · have := ha.2.1 b hb.1 h'.symm
    omega
theorem one_asc {m : Nat} {days : List Int} (hok : ∀ x ∈ days, okD x) : ((keptL (one m) days []).map (per 2)).Pairwise (· < ·) := by
  rw [List.pairwise_map]
  refine List.Pairwise.imp_of_mem ?_ (keptL_asc (one m) days [])
  intro a b ha hb h
  exact one_per_lt hok ha hb h
theorem one_len {m : Nat} {days : List Int} (hok : ∀ x ∈ days, okD x) : (keptL (one m) days []).length ≤ m := by
  have ha := one_asc (m := m) hok
  cases hk : keptL (one m) days [] with
  | nil => simp
  | cons x l =>
    rw [hk] at ha
    rw [List.map_cons, List.pairwise_cons] at ha
    have hx := (one_mem (m := m) (days := days)).1 (hk ▸ List.mem_cons_self .. : x ∈ keptL (one m) days [])
    have hn : (l.map (per 2)).Nodup := ha.2.imp (fun h => by omega)
    have := nodup_len_le (l.map (per 2)) (later 2 (per 2 x) (-1) days) hn (fun q hq => by
      have hq' := ha.1 q hq
      obtain ⟨y, hy, rfl⟩ := List.mem_map.1 hq
      have hyd := ((one_mem (m := m) (days := days)).1 (hk ▸ List.mem_cons_of_mem _ hy : y ∈ keptL (one m) days [])).1
      rw [later_mem]
      refine ⟨⟨y, hyd, rfl⟩, hq', ?_⟩
      have := per_nonneg 2 (hok y hyd)
      omega)
    have := hx.2.2
    rw [List.length_map] at *
    simp only [List.length_cons]
    omega
theorem one_cover {m : Nat} {days : List Int} (hok : ∀ x ∈ days, okD x) {d0 x : Int} (h0 : d0 ∈ keptL (one m) days []) (hx : x ∈ days) (hp : per 2 d0 ≤ per 2 x) :
    ∃ d ∈ keptL (one m) days [], per 2 d = per 2 x ∧ x ≤ d := by
  obtain ⟨d, hd, hmax⟩ := exists_max (days.filter fun y => decide (per 2 y = per 2 x)) (fun e => by
    have : x ∈ days.filter fun y => decide (per 2 y = per 2 x) := List.mem_filter.2 ⟨hx, by simp⟩
    rw [e] at this
    cases this)
  rw [List.mem_filter] at hd
  have hpd : per 2 d = per 2 x := by simpa using hd.2
  refine ⟨d, one_mem.2 ⟨hd.1, fun y hy e => hmax y (List.mem_filter.2 ⟨hy, by simp [e, hpd]⟩), ?_⟩, hpd, hmax x (List.mem_filter.2 ⟨hx, by simp⟩)⟩
  have h1 := (one_mem.1 h0).2.2
  have := nodup_len_le (later 2 (per 2 d) (-1) days) (later 2 (per 2 d0) (-1) days) (later_nodup _ _ _ _) (fun q hq => by
    rw [later_mem] at hq ⊢
    exact ⟨hq.1, by omega, hq.2.2⟩)
  omega
end Ret
end Go.Proofs.Ytfffhdclbdmfnaa
