/- How circles change, plainly. The laws Expels and Roles, plainly. Member, Vault, Writers, Holders. What New accepts is a circle. -/
import Derived.Test.YtkeicjokekmkpaaGreatMb
import Derived.Test.YtkeicjokekmkpaaGreatMc
import Derived.Test.YtkeicjokekmkpaaGreatMf
import Derived.Test.YtkeicjokekmkpaaGreatNw
namespace Go.Proofs.YtkeicjokekmkpaaGreat
namespace Mb
set_option linter.unusedVariables false
set_option linter.unusedSimpArgs false

def actI (S : St) (d : Int) : Bool := actB S d.toNat
def vltOf (S : St) (v : Int) : Option Vlt := if 0 ≤ v then S.vs[v.toNat]? else none
def admE (S : St) (m : Mem) : Int := if 12 ≤ S.ms.length then 7 else if memB m S.ms.length = false then 1 else if takenB S.ms m = true then 5 else 0
def admS (S : St) (m : Mem) : St := { S with ms := S.ms ++ [m] }
def votE (S : St) (a b : Int) : Int := if hasB S a = false ∨ hasB S b = false then 4 else if actI S a = false ∨ a = b then 14 else if actI S b = false then 6 else if votedB S a b = true then 5 else 0
def vot1 (S : St) (a b : Int) : St := { S with votes := S.votes ++ [(a, b)] }
def outB (S : St) (a b : Int) : Bool := decide (S.q ≤ (counting (vot1 S a b) b).length)
def votS (S : St) (a b : Int) : St := if outB S a b = true then { vot1 S a b with ms := expel S.ms b.toNat } else vot1 S a b
def repW (ws : List Int) (a b : Int) : List Int := (ws.set (ws.idxOf a) b).mergeSort fun x y => decide (x ≤ y)
def repV (a b : Int) (x : Vlt) : Vlt := { x with ws := repW x.ws a b }
def repE (S : St) (v a b : Int) : Int := match vltOf S v with
  | none => 4
  | some x => if x.ws.contains a = false ∨ hasB S b = false then 4 else if actI S a = true ∨ actI S b = false then 6 else if x.ws.contains b = true then 5 else 0
def repS (S : St) (v a b : Int) : St := { S with vs := S.vs.modify v.toNat (repV a b) }
/-- A change that is asked for. -/
structure Chn where
  kind : Int
  m : Mem
  v : Int
  a : Int
  b : Int
def playE (S : St) (x : Chn) : Int := if x.kind = 1 then admE S x.m else if x.kind = 2 then votE S x.a x.b else repE S x.v x.a x.b
def playB (S : St) (x : Chn) : Bool := decide (x.kind = 2) && (decide (votE S x.a x.b = 0) && outB S x.a x.b)
def playS (S : St) (x : Chn) : St := if playE S x = 0 then (if x.kind = 1 then admS S x.m else if x.kind = 2 then votS S x.a x.b else repS S x.v x.a x.b) else S
/-- What holds of every circle. -/
structure Inv (S : St) : Prop where
  q1 : 1 ≤ S.q
  n12 : S.ms.length ≤ 12
  v12 : S.vs.length ≤ 12
  ws3 : ∀ v ∈ S.vs, v.ws.length ≤ 3
  wsr : ∀ v ∈ S.vs, ∀ x ∈ v.ws, 0 ≤ x ∧ x < S.ms.length
  wsp : ∀ v ∈ S.vs, v.ws.Pairwise (· < ·)
  vr : ∀ p ∈ S.votes, 0 ≤ p.1 ∧ p.1 < S.ms.length ∧ 0 ≤ p.2 ∧ p.2 < S.ms.length ∧ p.1 ≠ p.2
  nd : S.votes.Nodup
  few : ∀ d < S.ms.length, actB S d = true → ((counting S d).length : Int) < S.q

theorem votedB_iff {S : St} {v d : Int} : votedB S v d = true ↔ (v, d) ∈ S.votes := by unfold votedB; simp
theorem counting_congr {S T : St} {d : Int} (hn : T.ms.length = S.ms.length) (h : ∀ k < S.ms.length, (actB T k && votedB T k d) = (actB S k && votedB S k d)) : counting T d = counting S d := by
  unfold counting
  rw [hn]
  congr 1
  apply List.filter_congr
  intro k hk
  exact h k (List.mem_range.1 hk)
theorem counting_none {S : St} {d : Int} (h : ∀ k < S.ms.length, votedB S k d = false) : counting S d = [] := by
  unfold counting
  rw [List.filter_eq_nil_iff.2 (fun k hk => by rw [h k (List.mem_range.1 hk)]; simp)]
  rfl
theorem mem_counting {S : St} {d v : Int} : v ∈ counting S d ↔ ∃ k : Nat, k < S.ms.length ∧ actB S k = true ∧ votedB S k d = true ∧ v = k := by
  unfold counting
  simp only [List.mem_map, List.mem_filter, List.mem_range, Bool.and_eq_true]
  constructor
  · rintro ⟨k, ⟨h1, h2, h3⟩, rfl⟩; exact ⟨k, h1, h2, h3, rfl⟩
  · rintro ⟨k, h1, h2, h3, rfl⟩; exact ⟨k, ⟨h1, h2, h3⟩, rfl⟩
theorem hasB_iff {S : St} {d : Int} : hasB S d = true ↔ 0 ≤ d ∧ d < S.ms.length := by unfold hasB; simp
theorem voted_range {S : St} (h : Inv S) {v d : Int} (hv : votedB S v d = true) : 0 ≤ v ∧ v < S.ms.length ∧ 0 ≤ d ∧ d < S.ms.length ∧ v ≠ d := h.vr _ (votedB_iff.1 hv)
theorem voted_no {S : St} (h : Inv S) {v d : Int} (hd : ¬ d < S.ms.length) : votedB S v d = false := by
  cases hv : votedB S v d
  · rfl
  · exact absurd (voted_range h hv).2.2.2.1 hd
theorem voted_no' {S : St} (h : Inv S) {v d : Int} (hd : ¬ v < S.ms.length) : votedB S v d = false := by
  cases hv : votedB S v d
  · rfl
  · exact absurd (voted_range h hv).2.1 hd
theorem voted_self {S : St} (h : Inv S) {v : Int} : votedB S v v = false := by
  cases hv : votedB S v v
  · rfl
  · exact absurd rfl (voted_range h hv).2.2.2.2
theorem actB_lt {S : St} {d : Nat} (h : actB S d = true) : d < S.ms.length := by
  unfold actB at h
  split at h
  · next m hm => exact (List.getElem?_eq_some_iff.1 hm).1
  · cases h
theorem actB_expel {S : St} {T : St} {b k : Nat} (hT : T.ms = expel S.ms b) : actB T k = (actB S k && decide (k ≠ b)) := by
  unfold actB
  rw [hT]
  unfold expel
  rw [List.getElem?_modify]
  by_cases hk : b = k
  · subst hk
    cases hm : S.ms[b]? <;> simp [Mem.out]
  · have hk' : ¬ k = b := fun e => hk e.symm
    cases hm : S.ms[k]? <;> simp [hk, hk']
theorem expel_len {ms : List Mem} {b : Nat} : (expel ms b).length = ms.length := by unfold expel; rw [List.length_modify]
/-- An admission. -/
theorem admS_act {S : St} {m : Mem} {k : Nat} (hk : k < S.ms.length) : actB (admS S m) k = actB S k := by
  unfold actB admS
  rw [List.getElem?_append_left hk]
theorem admS_counting {S : St} (h : Inv S) {m : Mem} {d : Int} : counting (admS S m) d = counting S d := by
  unfold counting
  have e1 : (admS S m).ms.length = S.ms.length + 1 := by simp [admS]
  have e2 : votedB (admS S m) (S.ms.length : Nat) d = false := (voted_no' (S := S) h (v := (S.ms.length : Nat)) (d := d) (by omega))
  rw [e1, List.range_succ, List.filter_append]
  simp only [List.filter_cons, e2, Bool.and_false, List.filter_nil]
  simp only [Bool.false_eq_true, if_false, List.append_nil]
  congr 1
  apply List.filter_congr
  intro k hk
  rw [admS_act (List.mem_range.1 hk)]
  rfl
theorem admE_ok {S : St} {m : Mem} (h : admE S m = 0) : S.ms.length < 12 ∧ memB m S.ms.length = true ∧ takenB S.ms m = false := by
  unfold admE at h
  split at h
  · cases h
  · split at h
    · cases h
    · split at h
      · cases h
      · next h1 h2 h3 => exact ⟨by omega, by simpa using h2, by simpa using h3⟩
theorem votE_ok {S : St} {a b : Int} (h : votE S a b = 0) : hasB S a = true ∧ hasB S b = true ∧ actI S a = true ∧ a ≠ b ∧ actI S b = true ∧ votedB S a b = false := by
  unfold votE at h
  split at h
  · cases h
  · split at h
    · cases h
    · split at h
      · cases h
      · split at h
        · cases h
        · next h1 h2 h3 h4 =>
          rw [not_or] at h1 h2
          exact ⟨by simpa using h1.1, by simpa using h1.2, by simpa using h2.1, h2.2, by simpa using h3, by simpa using h4⟩
theorem repE_ok {S : St} {v a b : Int} (h : repE S v a b = 0) : ∃ x, vltOf S v = some x ∧ x.ws.contains a = true ∧ hasB S b = true ∧ actI S a = false ∧ actI S b = true ∧ x.ws.contains b = false := by
  unfold repE at h
  split at h
  · cases h
  · next x hx =>
    split at h
    · cases h
    · split at h
      · cases h
      · split at h
        · cases h
        · next h1 h2 h3 =>
          rw [not_or] at h1 h2
          exact ⟨x, hx, by simpa using h1.1, by simpa using h1.2, by simpa using h2.1, by simpa using h2.2, by simpa using h3⟩
theorem admS_inv {S : St} {m : Mem} (h : Inv S) (h0 : admE S m = 0) : Inv (admS S m) := by
  obtain ⟨h1, h2, h3⟩ := admE_ok h0
  have e1 : (admS S m).ms.length = S.ms.length + 1 := by simp [admS]
  refine ⟨h.q1, by rw [e1]; omega, h.v12, h.ws3, fun v hv x hx => ?_, h.wsp, fun p hp => ?_, h.nd, fun d hd ha => ?_⟩
  · have := h.wsr v hv x hx
    rw [e1]
    omega
  · have := h.vr p hp
    rw [e1]
    omega
  · rw [admS_counting h]
    rcases Nat.lt_or_ge d S.ms.length with hd' | hd'
    · rw [admS_act hd'] at ha
      exact h.few d hd' ha
    · rw [counting_none (fun k hk => voted_no h (by omega))]
      have := h.q1
      show (0 : Int) < S.q
      omega
theorem vot1_voted {S : St} {a b v d : Int} : votedB (vot1 S a b) v d = (votedB S v d || decide (v = a ∧ d = b)) := by
  unfold votedB vot1
  rw [Bool.eq_iff_iff]
  simp
theorem vot1_counting {S : St} {a b d : Int} (hd : d ≠ b) : counting (vot1 S a b) d = counting S d := by
  apply counting_congr (S := S) (T := vot1 S a b) rfl
  intro k hk
  rw [vot1_voted]
  have : decide ((k : Int) = a ∧ d = b) = false := by simp; intro _; exact hd
  rw [this, Bool.or_false]
  rfl
theorem counting_le {S T : St} {d : Int} (hn : T.ms.length = S.ms.length) (h : ∀ k < S.ms.length, (actB T k && votedB T k d) = true → (actB S k && votedB S k d) = true) : (counting T d).length ≤ (counting S d).length := by
  unfold counting
  rw [List.length_map, List.length_map, hn]
  have h5 : ∀ (l : List Nat), (∀ k ∈ l, (actB T k && votedB T k d) = true → (actB S k && votedB S k d) = true) → (l.filter fun v => actB T v && votedB T v d).length ≤ (l.filter fun v => actB S v && votedB S v d).length := by
    intro l hl
    rw [← List.countP_eq_length_filter, ← List.countP_eq_length_filter]
    exact List.countP_mono_left hl
  exact h5 _ (fun k hk => h k (List.mem_range.1 hk))
/-- Behind a vote that expels, the votes that count. -/
theorem votS_self {S : St} {a b : Int} (h : Inv S) (h0 : votE S a b = 0) : counting (votS S a b) b = counting (vot1 S a b) b := by
  obtain ⟨h1, h2, h3, h4, h5, h6⟩ := votE_ok h0
  unfold votS
  split
  · apply counting_congr
    · simp [vot1, expel_len]
    · intro k hk
      rw [actB_expel (S := vot1 S a b) (T := { vot1 S a b with ms := expel S.ms b.toNat }) (b := b.toNat) rfl]
      have hv : votedB { vot1 S a b with ms := expel S.ms b.toNat } k b = votedB (vot1 S a b) k b := rfl
      rw [hv]
      by_cases hkb : k = b.toNat
      · have : votedB (vot1 S a b) k b = false := by
          rw [vot1_voted]
          have hb := hasB_iff.1 h2
          have e : (k : Int) = b := by omega
          rw [e, voted_self h]
          simp
          exact fun e => h4 e.symm
        rw [this]; simp
      · simp [hkb]
  · rfl
theorem votS_len {S : St} {a b : Int} : (votS S a b).ms.length = S.ms.length := by
  unfold votS
  split
  · simp [vot1, expel_len]
  · rfl
theorem votS_votes {S : St} {a b : Int} : (votS S a b).votes = S.votes ++ [(a, b)] := by
  unfold votS
  split <;> rfl
theorem votS_q {S : St} {a b : Int} : (votS S a b).q = S.q := by
  unfold votS
  split <;> rfl
theorem votS_vs {S : St} {a b : Int} : (votS S a b).vs = S.vs := by
  unfold votS
  split <;> rfl
theorem votS_act {S : St} {a b : Int} {k : Nat} : actB (votS S a b) k = (actB S k && !(outB S a b && decide (k = b.toNat))) := by
  unfold votS
  cases h : outB S a b
  · simp only [Bool.false_eq_true, if_false, Bool.false_and, Bool.not_false, Bool.and_true]; rfl
  · simp only [if_true, Bool.true_and]
    rw [actB_expel (S := S) (T := { vot1 S a b with ms := expel S.ms b.toNat }) (b := b.toNat) rfl]
    simp
theorem votS_other {S : St} {a b d : Int} (hd : d ≠ b) : (counting (votS S a b) d).length ≤ (counting S d).length := by
  apply counting_le votS_len
  intro k hk h
  rw [Bool.and_eq_true] at h ⊢
  obtain ⟨h1, h2⟩ := h
  rw [votS_act, Bool.and_eq_true] at h1
  refine ⟨h1.1, ?_⟩
  have h3 : votedB (votS S a b) k d = votedB (vot1 S a b) k d := by unfold votedB; rw [votS_votes]; rfl
  rw [h3, vot1_voted, Bool.or_eq_true] at h2
  rcases h2 with h2 | h2
  · exact h2
  · simp at h2; exact absurd h2.2 hd
theorem votS_inv {S : St} {a b : Int} (h : Inv S) (h0 : votE S a b = 0) : Inv (votS S a b) := by
  obtain ⟨h1, h2, h3, h4, h5, h6⟩ := votE_ok h0
  have ha := hasB_iff.1 h1
  have hb := hasB_iff.1 h2
  refine ⟨by rw [votS_q]; exact h.q1, by rw [votS_len]; exact h.n12, by rw [votS_vs]; exact h.v12, by rw [votS_vs]; exact h.ws3, by rw [votS_vs, votS_len]; exact h.wsr, by rw [votS_vs]; exact h.wsp, ?_, ?_, ?_⟩
  · rw [votS_votes, votS_len]
    intro p hp
    rcases List.mem_append.1 hp with hp | hp
    · exact h.vr p hp
    · obtain rfl := List.mem_singleton.1 hp
      exact ⟨ha.1, ha.2, hb.1, hb.2, h4⟩
  · rw [votS_votes, List.nodup_append]
    refine ⟨h.nd, by simp, fun x hx y hy => ?_⟩
    obtain rfl := List.mem_singleton.1 hy
    rintro rfl
    rw [votedB_iff.2 hx] at h6
    cases h6
  · rw [votS_len, votS_q]
    intro d hd hact
    rw [votS_act, Bool.and_eq_true] at hact
    obtain ⟨hact1, hact2⟩ := hact
    by_cases hdb : (d : Int) = b
    · subst hdb
      rw [votS_self h h0]
      have hx : outB S a d = false := by simpa using hact2
      unfold outB at hx
      simpa using hx
    · have := votS_other (S := S) (a := a) hdb
      have := h.few d hd hact1
      omega
theorem vltOf_get {S : St} {v : Int} {x : Vlt} (h : vltOf S v = some x) : S.vs[v.toNat]? = some x ∧ 0 ≤ v ∧ v < S.vs.length := by
  unfold vltOf at h
  split at h
  · next h0 =>
    have := (List.getElem?_eq_some_iff.1 h).1
    exact ⟨h, h0, by omega⟩
  · cases h
theorem repW_perm {ws : List Int} {a b : Int} : (repW ws a b).Perm (ws.set (ws.idxOf a) b) := List.mergeSort_perm _ _
theorem repW_len {ws : List Int} {a b : Int} : (repW ws a b).length = ws.length := by
  rw [repW_perm.length_eq, List.length_set]
theorem idx_ne {y a : Int} {l : List Int} (h : ¬ y = a) : (y :: l).idxOf a = l.idxOf a + 1 := by
  have e : (y == a) = false := by simpa using h
  rw [List.idxOf_cons, e]; rfl
theorem repW_mem {ws : List Int} {a b : Int} (hp : ws.Pairwise (· < ·)) (ha : a ∈ ws) {x : Int} : x ∈ repW ws a b ↔ x = b ∨ (x ∈ ws ∧ x ≠ a) := by
  rw [repW_perm.mem_iff]
  induction ws with
  | nil => cases ha
  | cons y l ih =>
    rw [List.pairwise_cons] at hp
    by_cases hy : y = a
    · subst hy
      have : y ∉ l := fun hm => by have := hp.1 y hm; omega
      simp only [List.idxOf_cons_self, List.set_cons_zero, List.mem_cons]
      constructor
      · rintro (h | h)
        · exact .inl h
        · exact .inr ⟨.inr h, fun e => this (e ▸ h)⟩
      · rintro (h | ⟨h | h, hne⟩)
        · exact .inl h
        · exact absurd h hne
        · exact .inr h
    · have ha' : a ∈ l := by
        rcases List.mem_cons.1 ha with h | h
        · exact absurd h.symm hy
        · exact h
      rw [idx_ne hy, List.set_cons_succ, List.mem_cons, ih hp.2 ha', List.mem_cons]
      constructor
      · rintro (h | h | h)
        · exact .inr ⟨.inl h, h ▸ hy⟩
        · exact .inl h
        · exact .inr ⟨.inr h.1, h.2⟩
      · rintro (h | ⟨h | h, hne⟩)
        · exact .inr (.inl h)
        · exact .inl h
        · exact .inr (.inr ⟨h, hne⟩)
theorem repW_nodup {ws : List Int} {a b : Int} (hp : ws.Pairwise (· < ·)) (hb : b ∉ ws) : (repW ws a b).Nodup := by
  rw [repW_perm.nodup_iff]
  induction ws with
  | nil => simp
  | cons y l ih =>
    rw [List.pairwise_cons] at hp
    rw [List.mem_cons, not_or] at hb
    by_cases hy : y = a
    · subst hy
      simp only [List.idxOf_cons_self, List.set_cons_zero, List.nodup_cons]
      exact ⟨hb.2, hp.2.imp (fun h e => by omega)⟩
    · rw [idx_ne hy, List.set_cons_succ, List.nodup_cons]
      refine ⟨fun hm => ?_, ih hp.2 hb.2⟩
      rcases List.mem_or_eq_of_mem_set hm with h | h
      · have := hp.1 y h; omega
      · exact hb.1 h.symm
theorem repW_sorted {ws : List Int} {a b : Int} (hp : ws.Pairwise (· < ·)) (hb : b ∉ ws) : (repW ws a b).Pairwise (· < ·) := by
  have h1 : (repW ws a b).Pairwise (fun x y => decide (x ≤ y) = true) := List.pairwise_mergeSort (le := fun x y : Int => decide (x ≤ y)) (fun a b c h1 h2 => by simp at *; omega) (fun a b => by simp; omega) _
  have h2 := repW_nodup (a := a) hp hb
  rw [List.Nodup] at h2
  exact (h1.and h2).imp (fun ⟨h3, h4⟩ => by simp at h3; omega)
theorem modify_mem {α : Type} {xs : List α} {i : Nat} {f : α → α} {y : α} (h : y ∈ xs.modify i f) : y ∈ xs ∨ ∃ x, xs[i]? = some x ∧ y = f x := by
  obtain ⟨k, hk⟩ := List.mem_iff_getElem?.1 h
  rw [List.getElem?_modify] at hk
  by_cases hik : i = k
  · subst hik
    cases hx : xs[i]? with
    | none => rw [hx] at hk; cases hk
    | some x => rw [hx] at hk; simp at hk; exact .inr ⟨x, rfl, hk.symm⟩
  · simp [hik] at hk
    exact .inl (List.mem_of_getElem? hk)
theorem repS_inv {S : St} {v a b : Int} (h : Inv S) (h0 : repE S v a b = 0) : Inv (repS S v a b) := by
  obtain ⟨x, h1, h2, h3, h4, h5, h6⟩ := repE_ok h0
  obtain ⟨g1, g2, g3⟩ := vltOf_get h1
  have hxm := List.mem_of_getElem? g1
  have hb := hasB_iff.1 h3
  have ha : a ∈ x.ws := by simpa using h2
  have hb' : b ∉ x.ws := by simpa using h6
  refine ⟨h.q1, h.n12, by unfold repS; simp only [List.length_modify]; exact h.v12, fun y hy => ?_, fun y hy u hu => ?_, fun y hy => ?_, h.vr, h.nd, h.few⟩
  · rcases modify_mem hy with hy | ⟨z, hz, rfl⟩
    · exact h.ws3 y hy
    · obtain rfl : x = z := by rw [g1] at hz; injection hz
      show (repW x.ws a b).length ≤ 3
      rw [repW_len]; exact h.ws3 x hxm
  · show 0 ≤ u ∧ u < S.ms.length
    rcases modify_mem hy with hy | ⟨z, hz, rfl⟩
    · exact h.wsr y hy u hu
    · obtain rfl : x = z := by rw [g1] at hz; injection hz
      rcases (repW_mem (h.wsp x hxm) ha).1 hu with rfl | hu
      · exact hb
      · exact h.wsr x hxm u hu.1
  · rcases modify_mem hy with hy | ⟨z, hz, rfl⟩
    · exact h.wsp y hy
    · obtain rfl : x = z := by rw [g1] at hz; injection hz
      exact repW_sorted (h.wsp x hxm) hb'
theorem playS_inv {S : St} {x : Chn} (h : Inv S) : Inv (playS S x) := by
  unfold playS
  split
  · next h0 =>
    unfold playE at h0
    split
    · next h1 => rw [if_pos h1] at h0; exact admS_inv h h0
    · next h1 =>
      rw [if_neg h1] at h0
      split
      · next h2 => rw [if_pos h2] at h0; exact votS_inv h h0
      · next h2 => rw [if_neg h2] at h0; exact repS_inv h h0
  · exact h
end Mb
end Go.Proofs.YtkeicjokekmkpaaGreat
namespace Go.Proofs.YtkeicjokekmkpaaGreat
namespace Mb
set_option linter.unusedVariables false
set_option linter.unusedSimpArgs false

theorem admS_len {S : St} {m : Mem} : (admS S m).ms.length = S.ms.length + 1 := by simp [admS]
theorem playS_ge {S : St} {x : Chn} : S.ms.length ≤ (playS S x).ms.length := by
  unfold playS
  split
  · split
    · rw [admS_len]; omega
    · split
      · rw [votS_len]; exact Nat.le_refl _
      · exact Nat.le_refl _
  · exact Nat.le_refl _
theorem playS_no {S : St} {x : Chn} (h : playE S x ≠ 0) : playS S x = S := by unfold playS; rw [if_neg h]
/-- Who is expelled by a change: the one of a vote that is the last that was wanted. -/
theorem play_now {S : St} {x : Chn} (h : Inv S) {d : Nat} (hd : d < S.ms.length) : actB (playS S x) d = (actB S d && !(playB S x && decide (x.b = d))) := by
  unfold playS playB
  by_cases h0 : playE S x = 0
  · rw [if_pos h0]
    unfold playE at h0
    by_cases h1 : x.kind = 1
    · rw [if_pos h1, admS_act hd]
      have : ¬ x.kind = 2 := by omega
      simp [this]
    · rw [if_neg h1] at h0 ⊢
      by_cases h2 : x.kind = 2
      · rw [if_pos h2] at h0 ⊢
        rw [votS_act]
        have hb := hasB_iff.1 (votE_ok h0).2.1
        have e : decide (d = x.b.toNat) = decide (x.b = d) := by rw [Bool.eq_iff_iff]; simp; omega
        simp [h2, h0, e]
      · rw [if_neg h2]
        have : actB (repS S x.v x.a x.b) d = actB S d := rfl
        rw [this]
        simp [h2]
  · rw [if_neg h0]
    unfold playE at h0
    by_cases h2 : x.kind = 2
    · rw [if_neg (by omega : ¬ x.kind = 1), if_pos h2] at h0
      simp [h0]
    · simp [h2]
theorem play_now' {S : St} {x : Chn} (h : Inv S) {d : Nat} (hd : d < S.ms.length) (hb : playB S x = true) (hx : x.b = d) :
    playE S x = 0 ∧ S.q ≤ ((counting (playS S x) d).length : Int) ∧ x.a ∈ counting (playS S x) d := by
  unfold playB at hb
  simp only [Bool.and_eq_true, decide_eq_true_eq] at hb
  obtain ⟨h1, h2, h3⟩ := hb
  have e0 : playE S x = 0 := by unfold playE; rw [if_neg (by omega), if_pos h1, h2]
  have e1 : playS S x = votS S x.a x.b := by unfold playS; rw [if_pos e0, if_neg (by omega), if_pos h1]
  refine ⟨e0, ?_, ?_⟩
  · rw [e1, ← hx, votS_self h h2]
    unfold outB at h3
    simpa using h3
  · rw [e1, ← hx, votS_self h h2]
    obtain ⟨g1, g2, g3, g4, g5, g6⟩ := votE_ok h2
    have ha := hasB_iff.1 g1
    refine mem_counting.2 ⟨x.a.toNat, by show _ < S.ms.length; omega, g3, ?_, by omega⟩
    rw [vot1_voted]
    have : ((x.a.toNat : Nat) : Int) = x.a := by omega
    rw [this]
    simp
/-- The active writers of a vault, and its holders. -/
def wrL (S : St) (ws : List Int) : List Int := ((List.range S.ms.length).filter fun v => actB S v && ws.contains (v : Int)).map fun v : Nat => (v : Int)
def hoL (S : St) (ws : List Int) : List Int := ((List.range S.ms.length).filter fun v => actB S v && !ws.contains (v : Int)).map fun v : Nat => (v : Int)
theorem sel_contains {S : St} {p : Nat → Bool} {a : Int} (h : a ∈ activeL S) : (((List.range S.ms.length).filter fun v => actB S v && p v).map fun v : Nat => (v : Int)).contains a = p a.toNat := by
  unfold activeL at h
  obtain ⟨k, hk, rfl⟩ := List.mem_map.1 h
  rw [List.mem_filter] at hk
  rw [Bool.eq_iff_iff]
  simp only [List.contains_iff_mem, List.mem_map, List.mem_filter, Bool.and_eq_true]
  constructor
  · rintro ⟨j, ⟨h1, h2, h3⟩, h4⟩
    obtain rfl : j = k := by omega
    exact h3
  · intro h3
    exact ⟨k, ⟨hk.1, hk.2, h3⟩, rfl⟩
theorem active_nat {S : St} {a : Int} (h : a ∈ activeL S) : ((a.toNat : Nat) : Int) = a := by
  unfold activeL at h
  obtain ⟨k, hk, rfl⟩ := List.mem_map.1 h
  rfl
theorem wrL_contains {S : St} {ws : List Int} {a : Int} (h : a ∈ activeL S) : (wrL S ws).contains a = ws.contains a := by
  unfold wrL
  rw [sel_contains (p := fun v => ws.contains (v : Int)) h, active_nat h]
theorem hoL_contains {S : St} {ws : List Int} {a : Int} (h : a ∈ activeL S) : (hoL S ws).contains a = !ws.contains a := by
  unfold hoL
  rw [sel_contains (p := fun v => !ws.contains (v : Int)) h, active_nat h]
theorem split_len {α : Type} (p q : α → Bool) : ∀ l : List α, (l.filter fun v => p v && q v).length + (l.filter fun v => p v && !q v).length = (l.filter p).length
  | [] => rfl
  | x :: l => by
    have ih := split_len p q l
    simp only [List.filter_cons]
    cases p x <;> cases q x <;> simp <;> omega
theorem roles_len (S : St) (ws : List Int) : (wrL S ws).length + (hoL S ws).length = (activeL S).length := by
  unfold wrL hoL activeL
  simp only [List.length_map]
  exact split_len _ _ _
def lens (S : St) : List Nat := S.vs.map fun v => v.ws.length
theorem modify_lens (v : Nat) (a b : Int) : ∀ vs : List Vlt, (vs.modify v (repV a b)).map (fun v => v.ws.length) = vs.map fun v => v.ws.length := by
  intro vs
  apply List.ext_getElem?
  intro i
  rw [List.getElem?_map, List.getElem?_map, List.getElem?_modify]
  by_cases h : v = i
  · subst h
    cases vs[v]? with
    | none => rfl
    | some x => simp [repV, repW_len]
  · simp [h]
theorem playS_lens {S : St} {x : Chn} : lens (playS S x) = lens S := by
  unfold playS
  split
  · split
    · rfl
    · split
      · unfold lens; rw [votS_vs]
      · exact modify_lens _ _ _ _
  · rfl
/-- The circle after changes. -/
def plays (S : St) (xs : List Chn) : St := xs.foldl playS S
theorem plays_inv {S : St} (h : Inv S) : ∀ xs : List Chn, Inv (plays S xs)
  | [] => h
  | x :: l => plays_inv (playS_inv h) l
theorem plays_lens : ∀ (S : St) (xs : List Chn), lens (plays S xs) = lens S
  | _, [] => rfl
  | S, x :: l => (plays_lens (playS S x) l).trans playS_lens
theorem plays_snoc (S : St) (xs : List Chn) (x : Chn) : plays S (xs ++ [x]) = playS (plays S xs) x := by unfold plays; rw [List.foldl_append]; rfl
end Mb
end Go.Proofs.YtkeicjokekmkpaaGreat
namespace Go.Proofs.YtkeicjokekmkpaaGreat
open Go.RowKit Mb
set_option linter.unusedVariables false
set_option linter.unusedSimpArgs false

theorem ret_cell_tmpS {P : Program} {w : World} {fn : Func} {p u : Tmp} {ty : TypeId} (hr : fn.results = #[.cell p ty, .tmp u]) {tmps : Array Value} {g : Nat} {t : TypeId} {cs : Array Value} {fr : Nat × Nat} {d : TypeDesc}
    (hp : tmps.getD p undef = .pointer (some ⟨g, 0, none⟩)) (hg : w.heap[g]? = some (.cells cs t fr)) (hu : P.underlying ty = some d) (hd : (match d with | .struct _ | .array _ _ => true | _ => false) = true) (hi : (P.info? ty).map (·.size) = some cs.size) :
    (results fn tmps).run P w = .ok (.tuple #[.agg cs, tmps.getD u undef]) w := by
  rw [results_cell_tmp hr, hp]
  simp [asAddr, Result.andThen, run_loadVar_row w g t ty cs fr d hg hu hd hi]
def zM : Mem := ⟨0, ⟨#[]⟩, ⟨#[]⟩, 0, false⟩
def zV : Vlt := ⟨0, [], 0, 0, 0, ⟨#[]⟩, 0, 0, 0, 0, 0, 0, 0, 0, 0⟩
def MemP (m : Mem) (r : Int) (w : World) (e : Ending) (w' : World) : Prop := e = .returned (.tuple #[aM m, .int .i64 r]) ∧ Below w.heap.size w w'
set_option maxRecDepth 20000 in
set_option maxHeartbeats 2000000 in
theorem member_no (g : Nat) (lab : Nat → Nat) (S : Cst) (d : Int) (w : World) (hC : Cir w lab g S) (hn : S.s.ms.length ≤ 1000) (hd : hasB S.s d = false) :
    Calls Tryz.prog 48 #[fG g, .int .i64 d] w (MemP zM 4 w) := by
  obtain ⟨W, hW⟩ : ∃ W : World, W = (w.alloc (.cells #[.int .i64 0, .string ⟨#[]⟩, .string ⟨#[]⟩, .int .i64 0, .bool false] 40)) := ⟨_, rfl⟩
  have hB : Below w.heap.size w W := by rw [hW]; exact (Below.refl _ _).alloc (Nat.le_refl _) _
  have HH : Hid (Calls Tryz.prog 61 #[fG g, .int .i64 d] W fun e w' => e = .returned (.bool false) ∧ W = w') := hd ▸ has_cir g lab S d _ (hC.on hB) hn
  have HB := Lib.hid hB
  have HW := Lib.hid hW
  have HG : Hid (W.heap[w.heap.size]? = some (.cells #[.int .i64 0, .string ⟨#[]⟩, .string ⟨#[]⟩, .int .i64 0, .bool false] 40 (0, 0))) := by show _ = _; rw [hW]; exact heap_alloc_new w _
  clear hC hd hB hW
  go_enter Tryz.func48, Tryz.ntmps48
  go_wp2_with fail
  rw [← HW.out]
  refine HH.out.mono ?_
  rintro e w1 ⟨rfl, rfl⟩
  go_wp2_with ((refine wpList_store_far (o := ⟨none, .store 40 (.tmp 4) (.tmp 10), _, _, _, _⟩) rfl 40 (.tmp 4) (.tmp 10) rfl w.heap.size 40 _ (cMa zM) rfl rfl HG.out Tryz.sizeM rfl (cMa_one _) w.heap.size w HB.out (Nat.le_refl _) ?_); intro w3 HG3 hb3 HB3)
  exact bodyPost_ret (ret_cell_tmpS rfl rfl HG3.out Tryz.underlying40 rfl Tryz.sizeM) rfl ⟨rfl, hb3⟩
set_option maxRecDepth 20000 in
set_option maxHeartbeats 2000000 in
theorem member_yes (g : Nat) (lab : Nat → Nat) (S : Cst) (d : Int) (m : Mem) (w : World) (hC : Cir w lab g S) (hn : S.s.ms.length ≤ 1000) (hd : hasB S.s d = true) (hm : S.s.ms[d.toNat]? = some m) :
    Calls Tryz.prog 48 #[fG g, .int .i64 d] w (MemP m 0 w) := by
  obtain ⟨W, hW⟩ : ∃ W : World, W = (w.alloc (.cells #[.int .i64 0, .string ⟨#[]⟩, .string ⟨#[]⟩, .int .i64 0, .bool false] 40)) := ⟨_, rfl⟩
  have hB : Below w.heap.size w W := by rw [hW]; exact (Below.refl _ _).alloc (Nat.le_refl _) _
  have HH : Hid (Calls Tryz.prog 61 #[fG g, .int .i64 d] W fun e w' => e = .returned (.bool true) ∧ W = w') := hd ▸ has_cir g lab S d _ (hC.on hB) hn
  have h5 : 0 ≤ d ∧ d < S.s.ms.length := by unfold hasB at hd; simpa using hd
  obtain ⟨k, rfl⟩ : ∃ k : Nat, d = k := ⟨d.toNat, by omega⟩
  have hk : k < S.s.ms.length := by omega
  rw [show ((k : Int)).toNat = k by omega] at hm
  obtain ⟨A, c, hcm, hs, hcc⟩ := (hC.on hB).mem
  obtain ⟨b, off, x, rfl, hbB, hxk, hcell⟩ := hs.at_ hk
  obtain rfl : x = m := Option.some.inj (hxk.symm.trans hm)
  obtain ⟨c0, c1, c2, c3, c4⟩ := five hcell
  have HB := Lib.hid hB
  have HW := Lib.hid hW
  have HG : Hid (W.heap[w.heap.size]? = some (.cells #[.int .i64 0, .string ⟨#[]⟩, .string ⟨#[]⟩, .int .i64 0, .bool false] 40 (0, 0))) := by show _ = _; rw [hW]; exact heap_alloc_new w _
  clear hcell hxk hm hs hC hd hB h5 hW
  go_enter Tryz.func48, Tryz.ntmps48
  go_wp2_with fail
  rw [← HW.out]
  refine HH.out.mono ?_
  rintro e w1 ⟨rfl, rfl⟩
  go_wp2_with ((refine wpList_store_far (o := ⟨none, .store 40 (.tmp 4) (.tmp 17), _, _, _, _⟩) rfl 40 (.tmp 4) (.tmp 17) rfl w.heap.size 40 _ (cMa x) rfl rfl HG.out Tryz.sizeM rfl (cMa_one _) w.heap.size w HB.out (Nat.le_refl _) ?_); intro w3 HG3 hb3 HB3)
  exact bodyPost_ret (ret_cell_tmpS rfl rfl HG3.out Tryz.underlying40 rfl Tryz.sizeM) rfl ⟨rfl, hb3⟩
end Go.Proofs.YtkeicjokekmkpaaGreat
namespace Go.Proofs.YtkeicjokekmkpaaGreat
open Mb
set_option linter.unusedVariables false
set_option linter.unusedSimpArgs false

theorem newE_ok {ms : List Mem} {vs : List Vlt} {q : Int} (h : newE ms vs q = 0) : headB ms.length vs.length q = true ∧ memsB ms = true ∧ vltsB vs ms.length = true ∧ vs.all (possB ms.length) = true := by
  unfold newE at h
  split at h
  · next h1 =>
    split at h
    · next h2 =>
      simp only [Bool.and_eq_true] at h1
      exact ⟨h1.1, h1.2.1, h1.2.2, h2⟩
    · cases h
  · cases h
theorem wsB_get {ws : List Int} {N : Int} (h : wsB ws N = true) {i : Nat} (hi : i < ws.length) : 0 ≤ ws[i] ∧ ws[i] < N ∧ (∀ j, j + 1 = i → ws.getD j 0 < ws[i]) := by
  unfold wsB at h
  have h1 := List.all_eq_true.1 h i (List.mem_range.2 hi)
  unfold okW at h1
  have e : ws.getD i 0 = ws[i] := by simp [List.getD, List.getElem?_eq_getElem hi]
  rw [e] at h1
  simp only [Bool.and_eq_true, Bool.or_eq_true, decide_eq_true_eq] at h1
  refine ⟨h1.1, h1.2.1, fun j hj => ?_⟩
  rcases h1.2.2 with h2 | h2
  · omega
  · rw [show i - 1 = j by omega] at h2
    exact h2
theorem wsB_sorted {ws : List Int} {N : Int} (h : wsB ws N = true) : ws.Pairwise (· < ·) := by
  rw [List.pairwise_iff_getElem]
  have step : ∀ (d i : Nat) (hi : i < ws.length) (hj : i + d + 1 < ws.length), ws[i] < ws[i + d + 1] := by
    intro d
    induction d with
    | zero =>
      intro i hi hj
      have := (wsB_get h hj).2.2 i rfl
      simp [List.getD, List.getElem?_eq_getElem hi] at this
      exact this
    | succ d ih =>
      intro i hi hj
      have h1 := ih i hi (by omega)
      have h2 := (wsB_get h (i := i + (d + 1) + 1) hj).2.2 (i + d + 1) rfl
      simp [List.getD, List.getElem?_eq_getElem (show i + d + 1 < ws.length by omega)] at h2
      exact Int.lt_trans h1 h2
  intro i j hi hj hij
  have := step (j - i - 1) i hi (by omega)
  have e : i + (j - i - 1) + 1 = j := by omega
  simp only [e] at this
  exact this
theorem newE_inv {ms : List Mem} {vs : List Vlt} {q : Int} (h : newE ms vs q = 0) : Inv ⟨ms, vs, q, []⟩ := by
  obtain ⟨h1, h2, h3, h4⟩ := newE_ok h
  unfold headB at h1
  simp only [Bool.and_eq_true, decide_eq_true_eq] at h1
  have hv : ∀ v ∈ vs, v.ws.length ≤ 3 ∧ wsB v.ws ms.length = true := fun v hv => by
    obtain ⟨i, hi⟩ := List.mem_iff_getElem?.1 hv
    unfold vltsB at h3
    have h5 := List.all_eq_true.1 h3 i (List.mem_range.2 (List.getElem?_eq_some_iff.1 hi).1)
    unfold okVt at h5
    rw [hi] at h5
    simp only [vltB, Bool.and_eq_true, decide_eq_true_eq] at h5
    exact ⟨h5.2.2.1, h5.2.2.2.1⟩
  refine ⟨h1.2.2.2.1, h1.2.1, h1.2.2.1, fun v h => (hv v h).1, fun v h x hx => ?_, fun v h => wsB_sorted (hv v h).2, fun p hp => (by cases hp), List.nodup_nil, fun d hd _ => ?_⟩
  · obtain ⟨i, hi, rfl⟩ := List.mem_iff_getElem.1 hx
    have := wsB_get (hv v h).2 hi
    exact ⟨this.1, this.2.1⟩
  · rw [counting_none (fun k _ => rfl)]
    show (0 : Int) < q
    omega
/-- Members' names and keys are short. -/
theorem newE_sizes {ms : List Mem} {vs : List Vlt} {q : Int} (h : newE ms vs q = 0) : ∀ m ∈ ms, m.name.size ≤ 16 ∧ m.pub.size = 32 := fun m hm => by
  obtain ⟨_, h2, _⟩ := newE_ok h
  obtain ⟨i, hi⟩ := List.mem_iff_getElem?.1 hm
  unfold memsB at h2
  have h5 := List.all_eq_true.1 h2 i (List.mem_range.2 (List.getElem?_eq_some_iff.1 hi).1)
  unfold okM at h5
  rw [hi] at h5
  simp only [memB, nameB, Bool.and_eq_true, decide_eq_true_eq] at h5
  exact ⟨h5.1.2.1.2.1, h5.1.2.2.1⟩
end Go.Proofs.YtkeicjokekmkpaaGreat
