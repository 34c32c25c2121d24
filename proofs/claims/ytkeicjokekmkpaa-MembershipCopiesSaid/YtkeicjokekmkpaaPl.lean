/- How circles change, plainly. -/
import Derived.Test.YtkeicjokekmkpaaSt
import Derived.Test.YtkeicjokekmkpaaVt
namespace Go.Proofs.Ytkeicjokekmkpaa
namespace Mb
set_option linter.unusedVariables false
set_option linter.unusedSimpArgs false

def actI (S : St) (d : Int) : Bool := actB S d.toNat
def vltOf (S : St) (v : Int) : Option Vlt := if 0 ≤ v then S.vs[v.toNat]? else none
def admE (S : St) (m : Mem) : Int := if 12 ≤ S.ms.length then 7 else if memB m S.ms.length = false then 1 else if takenB S.ms m = true then 5 else 0
def admS (S : St) (m : Mem) : St := { S with ms := S.ms ++ [m] }
def votE (S : St) (a b : Int) : Int := if hasB S a = false ∨ hasB S b = false then 4 else if actI S a = false ∨ a = b then 14 else if actI S b = false then 6 else if votedB S a b = true then 5 else 0
def vot1 (S : St) (a b : Int) : St := { S with votes := S.votes ++ [(a, b)] }
def outB (S : St) (a b : Int) : Bool := decide (S.q ≤ (counting (vot1 S a b) b).length)
def votS (S : St) (a b : Int) : St := if outB S a b = true then { vot1 S a b with ms := expel S.ms b.toNat } else vot1 S a b
def repW (ws : List Int) (a b : Int) : List Int := (ws.set (ws.idxOf a) b).mergeSort fun x y => decide (x ≤ y)
def repV (a b : Int) (x : Vlt) : Vlt := { x with ws := repW x.ws a b }
def repE (S : St) (v a b : Int) : Int := match vltOf S v with
  | none => 4
  | some x => if x.ws.contains a = false ∨ hasB S b = false then 4 else if actI S a = true ∨ actI S b = false then 6 else if x.ws.contains b = true then 5 else 0
def repS (S : St) (v a b : Int) : St := { S with vs := S.vs.modify v.toNat (repV a b) }
/-- A change that is asked for. -/
structure Chn where
  kind : Int
  m : Mem
  v : Int
  a : Int
  b : Int
def playE (S : St) (x : Chn) : Int := if x.kind = 1 then admE S x.m else if x.kind = 2 then votE S x.a x.b else repE S x.v x.a x.b
def playB (S : St) (x : Chn) : Bool := decide (x.kind = 2) && (decide (votE S x.a x.b = 0) && outB S x.a x.b)
def playS (S : St) (x : Chn) : St := if playE S x = 0 then (if x.kind = 1 then admS S x.m else if x.kind = 2 then votS S x.a x.b else repS S x.v x.a x.b) else S
/-- What holds of every circle. -/
structure Inv (S : St) : Prop where
  q1 : 1 ≤ S.q
  n12 : S.ms.length ≤ 12
  v12 : S.vs.length ≤ 12
  ws3 : ∀ v ∈ S.vs, v.ws.length ≤ 3
  wsr : ∀ v ∈ S.vs, ∀ x ∈ v.ws, 0 ≤ x ∧ x < S.ms.length
  wsp : ∀ v ∈ S.vs, v.ws.Pairwise (· < ·)
  vr : ∀ p ∈ S.votes, 0 ≤ p.1 ∧ p.1 < S.ms.length ∧ 0 ≤ p.2 ∧ p.2 < S.ms.length ∧ p.1 ≠ p.2
  nd : S.votes.Nodup
  few : ∀ d < S.ms.length, actB S d = true → ((counting S d).length : Int) < S.q

theorem votedB_iff {S : St} {v d : Int} : votedB S v d = true ↔ (v, d) ∈ S.votes := by unfold votedB; simp
theorem counting_congr {S T : St} {d : Int} (hn : T.ms.length = S.ms.length) (h : ∀ k < S.ms.length, (actB T k && votedB T k d) = (actB S k && votedB S k d)) : counting T d = counting S d := by
  unfold counting
  rw [hn]
  congr 1
  apply List.filter_congr
  intro k hk
  exact h k (List.mem_range.1 hk)
theorem counting_none {S : St} {d : Int} (h : ∀ k < S.ms.length, votedB S k d = false) : counting S d = [] := by
  unfold counting
  rw [List.filter_eq_nil_iff.2 (fun k hk => by rw [h k (List.mem_range.1 hk)]; simp)]
  rfl
theorem mem_counting {S : St} {d v : Int} : v ∈ counting S d ↔ ∃ k : Nat, k < S.ms.length ∧ actB S k = true ∧ votedB S k d = true ∧ v = k := by
  unfold counting
  simp only [List.mem_map, List.mem_filter, List.mem_range, Bool.and_eq_true]
  constructor
  · rintro ⟨k, ⟨h1, h2, h3⟩, rfl⟩; exact ⟨k, h1, h2, h3, rfl⟩
  · rintro ⟨k, h1, h2, h3, rfl⟩; exact ⟨k, ⟨h1, h2, h3⟩, rfl⟩
theorem hasB_iff {S : St} {d : Int} : hasB S d = true ↔ 0 ≤ d ∧ d < S.ms.length := by unfold hasB; simp
theorem voted_range {S : St} (h : Inv S) {v d : Int} (hv : votedB S v d = true) : 0 ≤ v ∧ v < S.ms.length ∧ 0 ≤ d ∧ d < S.ms.length ∧ v ≠ d := h.vr _ (votedB_iff.1 hv)
theorem voted_no {S : St} (h : Inv S) {v d : Int} (hd : ¬ d < S.ms.length) : votedB S v d = false := by
  cases hv : votedB S v d
  · rfl
  · exact absurd (voted_range h hv).2.2.2.1 hd
theorem voted_no' {S : St} (h : Inv S) {v d : Int} (hd : ¬ v < S.ms.length) : votedB S v d = false := by
  cases hv : votedB S v d
  · rfl
  · exact absurd (voted_range h hv).2.1 hd
theorem voted_self {S : St} (h : Inv S) {v : Int} : votedB S v v = false := by
  cases hv : votedB S v v
  · rfl
  · exact absurd rfl (voted_range h hv).2.2.2.2
theorem actB_lt {S : St} {d : Nat} (h : actB S d = true) : d < S.ms.length := by
  unfold actB at h
  split at h
  · next m hm => exact (List.getElem?_eq_some_iff.1 hm).1
  · cases h
theorem actB_expel {S : St} {T : St} {b k : Nat} (hT : T.ms = expel S.ms b) : actB T k = (actB S k && decide (k ≠ b)) := by
  unfold actB
  rw [hT]
  unfold expel
  rw [List.getElem?_modify]
  by_cases hk : b = k
  · subst hk
    cases hm : S.ms[b]? <;> simp [Mem.out]
  · have hk' : ¬ k = b := fun e => hk e.symm
    cases hm : S.ms[k]? <;> simp [hk, hk']
theorem expel_len {ms : List Mem} {b : Nat} : (expel ms b).length = ms.length := by unfold expel; rw [List.length_modify]
/-- An admission. -/
theorem admS_act {S : St} {m : Mem} {k : Nat} (hk : k < S.ms.length) : actB (admS S m) k = actB S k := by
  unfold actB admS
  rw [List.getElem?_append_left hk]
theorem admS_counting {S : St} (h : Inv S) {m : Mem} {d : Int} : counting (admS S m) d = counting S d := by
  unfold counting
  have e1 : (admS S m).ms.length = S.ms.length + 1 := by simp [admS]
  have e2 : votedB (admS S m) (S.ms.length : Nat) d = false := (voted_no' (S := S) h (v := (S.ms.length : Nat)) (d := d) (by omega))
  rw [e1, List.range_succ, List.filter_append]
  simp only [List.filter_cons, e2, Bool.and_false, List.filter_nil]
  simp only [Bool.false_eq_true, if_false, List.append_nil]
  congr 1
  apply List.filter_congr
  intro k hk
  rw [admS_act (List.mem_range.1 hk)]
  rfl
theorem admE_ok {S : St} {m : Mem} (h : admE S m = 0) : S.ms.length < 12 ∧ memB m S.ms.length = true ∧ takenB S.ms m = false := by
  unfold admE at h
  split at h
  · cases h
  · split at h
    · cases h
    · split at h
      · cases h
      · next h1 h2 h3 => exact ⟨by omega, by simpa using h2, by simpa using h3⟩
theorem votE_ok {S : St} {a b : Int} (h : votE S a b = 0) : hasB S a = true ∧ hasB S b = true ∧ actI S a = true ∧ a ≠ b ∧ actI S b = true ∧ votedB S a b = false := by
  unfold votE at h
  split at h
  · cases h
  · split at h
    · cases h
    · split at h
      · cases h
      · split at h
        · cases h
        · next h1 h2 h3 h4 =>
          rw [not_or] at h1 h2
          exact ⟨by simpa using h1.1, by simpa using h1.2, by simpa using h2.1, h2.2, by simpa using h3, by simpa using h4⟩
theorem repE_ok {S : St} {v a b : Int} (h : repE S v a b = 0) : ∃ x, vltOf S v = some x ∧ x.ws.contains a = true ∧ hasB S b = true ∧ actI S a = false ∧ actI S b = true ∧ x.ws.contains b = false := by
  unfold repE at h
  split at h
  · cases h
  · next x hx =>
    split at h
    · cases h
    · split at h
      · cases h
      · split at h
        · cases h
        · next h1 h2 h3 =>
          rw [not_or] at h1 h2
          exact ⟨x, hx, by simpa using h1.1, by simpa using h1.2, by simpa using h2.1, by simpa using h2.2, by simpa using h3⟩
theorem admS_inv {S : St} {m : Mem} (h : Inv S) (h0 : admE S m = 0) : Inv (admS S m) := by
  obtain ⟨h1, h2, h3⟩ := admE_ok h0
  have e1 : (admS S m).ms.length = S.ms.length + 1 := by simp [admS]
  refine ⟨h.q1, by rw [e1]; omega, h.v12, h.ws3, fun v hv x hx => ?_, h.wsp, fun p hp => ?_, h.nd, fun d hd ha => ?_⟩
  · have := h.wsr v hv x hx
    rw [e1]
    omega
  · have := h.vr p hp
    rw [e1]
    omega
  · rw [admS_counting h]
    rcases Nat.lt_or_ge d S.ms.length with hd' | hd'
    · rw [admS_act hd'] at ha
      exact h.few d hd' ha
    · rw [counting_none (fun k hk => voted_no h (by omega))]
      have := h.q1
      show (0 : Int) < S.q
      omega
theorem vot1_voted {S : St} {a b v d : Int} : votedB (vot1 S a b) v d = (votedB S v d || decide (v = a ∧ d = b)) := by
  unfold votedB vot1
  rw [Bool.eq_iff_iff]
  simp
theorem vot1_counting {S : St} {a b d : Int} (hd : d ≠ b) : counting (vot1 S a b) d = counting S d := by
  apply counting_congr (S := S) (T := vot1 S a b) rfl
  intro k hk
  rw [vot1_voted]
  have : decide ((k : Int) = a ∧ d = b) = false := by simp; intro _; exact hd
  rw [this, Bool.or_false]
  rfl
theorem counting_le {S T : St} {d : Int} (hn : T.ms.length = S.ms.length) (h : ∀ k < S.ms.length, (actB T k && votedB T k d) = true → (actB S k && votedB S k d) = true) : (counting T d).length ≤ (counting S d).length := by
  unfold counting
  rw [List.length_map, List.length_map, hn]
  have h5 : ∀ (l : List Nat), (∀ k ∈ l, (actB T k && votedB T k d) = true → (actB S k && votedB S k d) = true) → (l.filter fun v => actB T v && votedB T v d).length ≤ (l.filter fun v => actB S v && votedB S v d).length := by
    intro l hl
    rw [← List.countP_eq_length_filter, ← List.countP_eq_length_filter]
    exact List.countP_mono_left hl
  exact h5 _ (fun k hk => h k (List.mem_range.1 hk))
/-- Behind a vote that expels, the votes that count. -/
theorem votS_self {S : St} {a b : Int} (h : Inv S) (h0 : votE S a b = 0) : counting (votS S a b) b = counting (vot1 S a b) b := by
  obtain ⟨h1, h2, h3, h4, h5, h6⟩ := votE_ok h0
  unfold votS
  split
  · apply counting_congr
    · simp [vot1, expel_len]
    · intro k hk
      rw [actB_expel (S := vot1 S a b) (T := { vot1 S a b with ms := expel S.ms b.toNat }) (b := b.toNat) rfl]
      have hv : votedB { vot1 S a b with ms := expel S.ms b.toNat } k b = votedB (vot1 S a b) k b := rfl
      rw [hv]
      by_cases hkb : k = b.toNat
      · have : votedB (vot1 S a b) k b = false := by
          rw [vot1_voted]
          have hb := hasB_iff.1 h2
          have e : (k : Int) = b := by omega
          rw [e, voted_self h]
          simp
          exact fun e => h4 e.symm
        rw [this]; simp
      · simp [hkb]
  · rfl
theorem votS_len {S : St} {a b : Int} : (votS S a b).ms.length = S.ms.length := by
  unfold votS
  split
  · simp [vot1, expel_len]
  · rfl
theorem votS_votes {S : St} {a b : Int} : (votS S a b).votes = S.votes ++ [(a, b)] := by
  unfold votS
  split <;> rfl
theorem votS_q {S : St} {a b : Int} : (votS S a b).q = S.q := by
  unfold votS
  split <;> rfl
theorem votS_vs {S : St} {a b : Int} : (votS S a b).vs = S.vs := by
  unfold votS
  split <;> rfl
theorem votS_act {S : St} {a b : Int} {k : Nat} : actB (votS S a b) k = (actB S k && !(outB S a b && decide (k = b.toNat))) := by
  unfold votS
  cases h : outB S a b
  · simp only [Bool.false_eq_true, if_false, Bool.false_and, Bool.not_false, Bool.and_true]; rfl
  · simp only [if_true, Bool.true_and]
    rw [actB_expel (S := S) (T := { vot1 S a b with ms := expel S.ms b.toNat }) (b := b.toNat) rfl]
    simp
theorem votS_other {S : St} {a b d : Int} (hd : d ≠ b) : (counting (votS S a b) d).length ≤ (counting S d).length := by
  apply counting_le votS_len
  intro k hk h
  rw [Bool.and_eq_true] at h ⊢
  obtain ⟨h1, h2⟩ := h
  rw [votS_act, Bool.and_eq_true] at h1
  refine ⟨h1.1, ?_⟩
  have h3 : votedB (votS S a b) k d = votedB (vot1 S a b) k d := by unfold votedB; rw [votS_votes]; rfl
  rw [h3, vot1_voted, Bool.or_eq_true] at h2
  rcases h2 with h2 | h2
  · exact h2
  · simp at h2; exact absurd h2.2 hd
theorem votS_inv {S : St} {a b : Int} (h : Inv S) (h0 : votE S a b = 0) : Inv (votS S a b) := by
  obtain ⟨h1, h2, h3, h4, h5, h6⟩ := votE_ok h0
  have ha := hasB_iff.1 h1
  have hb := hasB_iff.1 h2
  refine ⟨by rw [votS_q]; exact h.q1, by rw [votS_len]; exact h.n12, by rw [votS_vs]; exact h.v12, by rw [votS_vs]; exact h.ws3, by rw [votS_vs, votS_len]; exact h.wsr, by rw [votS_vs]; exact h.wsp, ?_, ?_, ?_⟩
  · rw [votS_votes, votS_len]
    intro p hp
    rcases List.mem_append.1 hp with hp | hp
    · exact h.vr p hp
    · obtain rfl := List.mem_singleton.1 hp
      exact ⟨ha.1, ha.2, hb.1, hb.2, h4⟩
  · rw [votS_votes, List.nodup_append]
    refine ⟨h.nd, by simp, fun x hx y hy => ?_⟩
    obtain rfl := List.mem_singleton.1 hy
    rintro rfl
    rw [votedB_iff.2 hx] at h6
    cases h6
  · rw [votS_len, votS_q]
    intro d hd hact
    rw [votS_act, Bool.and_eq_true] at hact
    obtain ⟨hact1, hact2⟩ := hact
    by_cases hdb : (d : Int) = b
    · subst hdb
      rw [votS_self h h0]
      have hx : outB S a d = false := by simpa using hact2
      unfold outB at hx
      simpa using hx
    · have := votS_other (S := S) (a := a) hdb
      have := h.few d hd hact1
      omega
theorem vltOf_get {S : St} {v : Int} {x : Vlt} (h : vltOf S v = some x) : S.vs[v.toNat]? = some x ∧ 0 ≤ v ∧ v < S.vs.length := by
  unfold vltOf at h
  split at h
  · next h0 =>
    have := (List.getElem?_eq_some_iff.1 h).1
    exact ⟨h, h0, by omega⟩
  · cases h
theorem repW_perm {ws : List Int} {a b : Int} : (repW ws a b).Perm (ws.set (ws.idxOf a) b) := List.mergeSort_perm _ _
theorem repW_len {ws : List Int} {a b : Int} : (repW ws a b).length = ws.length := by
  rw [repW_perm.length_eq, List.length_set]
theorem idx_ne {y a : Int} {l : List Int} (h : ¬ y = a) : (y :: l).idxOf a = l.idxOf a + 1 := by
  have e : (y == a) = false := by simpa using h
  rw [List.idxOf_cons, e]; rfl
theorem repW_mem {ws : List Int} {a b : Int} (hp : ws.Pairwise (· < ·)) (ha : a ∈ ws) {x : Int} : x ∈ repW ws a b ↔ x = b ∨ (x ∈ ws ∧ x ≠ a) := by
  rw [repW_perm.mem_iff]
  induction ws with
  | nil => cases ha
  | cons y l ih =>
    rw [List.pairwise_cons] at hp
    by_cases hy : y = a
    · subst hy
      have : y ∉ l := fun hm => by have := hp.1 y hm; omega
      simp only [List.idxOf_cons_self, List.set_cons_zero, List.mem_cons]
      constructor
      · rintro (h | h)
        · exact .inl h
        · exact .inr ⟨.inr h, fun e => this (e ▸ h)⟩
      · rintro (h | ⟨h | h, hne⟩)
        · exact .inl h
        · exact absurd h hne
        · exact .inr h
    · have ha' : a ∈ l := by
        rcases List.mem_cons.1 ha with h | h
        · exact absurd h.symm hy
        · exact h
      rw [idx_ne hy, List.set_cons_succ, List.mem_cons, ih hp.2 ha', List.mem_cons]
      constructor
      · rintro (h | h | h)
        · exact .inr ⟨.inl h, h ▸ hy⟩
        · exact .inl h
        · exact .inr ⟨.inr h.1, h.2⟩
      · rintro (h | ⟨h | h, hne⟩)
        · exact .inr (.inl h)
        · exact .inl h
        · exact .inr (.inr ⟨h, hne⟩)
theorem repW_nodup {ws : List Int} {a b : Int} (hp : ws.Pairwise (· < ·)) (hb : b ∉ ws) : (repW ws a b).Nodup := by
  rw [repW_perm.nodup_iff]
  induction ws with
  | nil => simp
  | cons y l ih =>
    rw [List.pairwise_cons] at hp
    rw [List.mem_cons, not_or] at hb
    by_cases hy : y = a
    · subst hy
      simp only [List.idxOf_cons_self, List.set_cons_zero, List.nodup_cons]
      exact ⟨hb.2, hp.2.imp (fun h e => by omega)⟩
    · rw [idx_ne hy, List.set_cons_succ, List.nodup_cons]
      refine ⟨fun hm => ?_, ih hp.2 hb.2⟩
      rcases List.mem_or_eq_of_mem_set hm with h | h
      · have := hp.1 y h; omega
      · exact hb.1 h.symm
theorem repW_sorted {ws : List Int} {a b : Int} (hp : ws.Pairwise (· < ·)) (hb : b ∉ ws) : (repW ws a b).Pairwise (· < ·) := by
  have h1 : (repW ws a b).Pairwise (fun x y => decide (x ≤ y) = true) := List.pairwise_mergeSort (le := fun x y : Int => decide (x ≤ y)) (fun a b c h1 h2 => by simp at *; omega) (fun a b => by simp; omega) _
  have h2 := repW_nodup (a := a) hp hb
  rw [List.Nodup] at h2
  exact (h1.and h2).imp (fun ⟨h3, h4⟩ => by simp at h3; omega)
theorem modify_mem {α : Type} {xs : List α} {i : Nat} {f : α → α} {y : α} (h : y ∈ xs.modify i f) : y ∈ xs ∨ ∃ x, xs[i]? = some x ∧ y = f x := by
  obtain ⟨k, hk⟩ := List.mem_iff_getElem?.1 h
  rw [List.getElem?_modify] at hk
  by_cases hik : i = k
  · subst hik
    cases hx : xs[i]? with
    | none => rw [hx] at hk; cases hk
    | some x => rw [hx] at hk; simp at hk; exact .inr ⟨x, rfl, hk.symm⟩
  · simp [hik] at hk
    exact .inl (List.mem_of_getElem? hk)
theorem repS_inv {S : St} {v a b : Int} (h : Inv S) (h0 : repE S v a b = 0) : Inv (repS S v a b) := by
  obtain ⟨x, h1, h2, h3, h4, h5, h6⟩ := repE_ok h0
  obtain ⟨g1, g2, g3⟩ := vltOf_get h1
  have hxm := List.mem_of_getElem? g1
  have hb := hasB_iff.1 h3
  have ha : a ∈ x.ws := by simpa using h2
  have hb' : b ∉ x.ws := by simpa using h6
  refine ⟨h.q1, h.n12, by unfold repS; simp only [List.length_modify]; exact h.v12, fun y hy => ?_, fun y hy u hu => ?_, fun y hy => ?_, h.vr, h.nd, h.few⟩
  · rcases modify_mem hy with hy | ⟨z, hz, rfl⟩
    · exact h.ws3 y hy
    · obtain rfl : x = z := by rw [g1] at hz; injection hz
      show (repW x.ws a b).length ≤ 3
      rw [repW_len]; exact h.ws3 x hxm
  · show 0 ≤ u ∧ u < S.ms.length
    rcases modify_mem hy with hy | ⟨z, hz, rfl⟩
    · exact h.wsr y hy u hu
    · obtain rfl : x = z := by rw [g1] at hz; injection hz
      rcases (repW_mem (h.wsp x hxm) ha).1 hu with rfl | hu
      · exact hb
      · exact h.wsr x hxm u hu.1
  · rcases modify_mem hy with hy | ⟨z, hz, rfl⟩
    · exact h.wsp y hy
    · obtain rfl : x = z := by rw [g1] at hz; injection hz
      exact repW_sorted (h.wsp x hxm) hb'
theorem playS_inv {S : St} {x : Chn} (h : Inv S) : Inv (playS S x) := by
  unfold playS
  split
  · next h0 =>
    unfold playE at h0
    split
    · next h1 => rw [if_pos h1] at h0; exact admS_inv h h0
    · next h1 =>
      rw [if_neg h1] at h0
      split
      · next h2 => rw [if_pos h2] at h0; exact votS_inv h h0
      · next h2 => rw [if_neg h2] at h0; exact repS_inv h h0
  · exact h
end Mb
end Go.Proofs.Ytkeicjokekmkpaa
