/- built. -/
import Derived.Test.YtkeicjokekmkpaaOp
import Derived.Test.YtkeicjokekmkpaaAw
namespace Go.Proofs.Ytkeicjokekmkpaa
open Go.RowKit Mb
set_option linter.unusedVariables false
set_option linter.unusedSimpArgs false

/-- The circle behind changes. -/
def playsC (S : Cst) (xs : List Chn) : Cst := xs.foldl playC S
theorem playsC_snoc (S : Cst) (xs : List Chn) (x : Chn) : playsC S (xs ++ [x]) = playC (playsC S xs) x := by unfold playsC; rw [List.foldl_append]; rfl
theorem playsC_s : ∀ (S : Cst) (xs : List Chn), (playsC S xs).s = plays S.s xs
  | _, [] => rfl
  | S, x :: l => playsC_s (playC S x) l
theorem playS_q {S : St} {x : Chn} : (playS S x).q = S.q := by
  unfold playS
  split
  · split
    · rfl
    · split
      · exact votS_q
      · rfl
  · rfl
theorem plays_q : ∀ {S : St} {xs : List Chn}, (plays S xs).q = S.q
  | _, [] => rfl
  | S, x :: l => (plays_q (S := playS S x) (xs := l)).trans playS_q
theorem chgs_le (S : St) (x : Chn) : (chgs S x).length ≤ 1 := by unfold chgs; split <;> simp
theorem votes_le (S : St) (x : Chn) : (playS S x).votes.length ≤ S.votes.length + 1 := by
  unfold playS
  split
  · split
    · show S.votes.length ≤ _; omega
    · split
      · rw [votS_votes]; simp
      · show S.votes.length ≤ _; omega
  · omega
theorem playsC_chs : ∀ (S : Cst) (xs : List Chn), (playsC S xs).chs.length ≤ S.chs.length + xs.length
  | _, [] => Nat.le_refl _
  | S, x :: l => by
    have h := playsC_chs (playC S x) l
    have h1 := chgs_le S.s x
    have h2 : (playC S x).chs.length = S.chs.length + (chgs S.s x).length := by simp [playC]
    show (playsC (playC S x) l).chs.length ≤ _
    simp only [List.length_cons]
    omega
theorem playsC_votes : ∀ (S : Cst) (xs : List Chn), (playsC S xs).s.votes.length ≤ S.s.votes.length + xs.length
  | _, [] => Nat.le_refl _
  | S, x :: l => by
    have h := playsC_votes (playC S x) l
    have h1 := votes_le S.s x
    have h2 : (playC S x).s.votes.length ≤ S.s.votes.length + 1 := h1
    show (playsC (playC S x) l).s.votes.length ≤ _
    simp only [List.length_cons]
    omega
theorem playsC_inv {S : Cst} (h : Inv S.s) (xs : List Chn) : Inv (playsC S xs).s := by rw [playsC_s]; exact plays_inv h xs
/-- The circle that New makes. -/
abbrev S0 (ms : List Mem) (ps : List VP) (q : Int) : Cst := ⟨⟨ms, ps.map Prod.fst, q, []⟩, ms, ps.map Prod.fst, []⟩
section
variable {W V : World} {A A' A'' : Option Addr} {n c n' c' n'' c'' : Nat} {ms : List Mem} {ps : List VP} {xs : List Chn}
theorem maxLen_le {k : Nat} (h : k ≤ maxLen) : k ≤ 9223372036854775807 := h
theorem InSet.on (h : InSet W A n c A' n' c' A'' n'' c'' ms ps xs) (hb : Below W.heap.size W V) : InSet V A n c A' n' c' A'' n'' c'' ms ps xs :=
  ⟨(h.fms.up hb (Nat.le_refl _)).more hb.size, h.cap, h.sz, (h.fvs.up hb (Nat.le_refl _)).more hb.size, fun p hp => ⟨((h.vk p hp).1.up hb (Nat.le_refl _)).more' hb.size, (h.vk p hp).2⟩, (h.fxs.up hb (Nat.le_refl _)).more hb.size, h.xz⟩
theorem new_set (q : Int) (h : InSet V A n c A' n' c' A'' n'' c'' ms ps xs) : Calls Try.prog 8 #[.slice A n c, .slice A' n' c', .int .i64 q] V (NewP ms (ps.map Prod.fst) q V) :=
  new_any A A' n n' c c' q ms ps V h.cap h.fms (fun m hm => h.sz m hm) ⟨h.fvs, fun p hp => (h.vk p hp).1⟩ (fun p hp => ⟨Nat.le_trans (h.vk p hp).2.1 (h.vk p hp).2.2.1, (h.vk p hp).2.2.2⟩)
end
/-- The nine cells of a change in a row. -/
theorem nine {w : World} {b off k : Nat} {x : Chn} (h : ∀ j v, (fX x)[j]? = some v → w.cell? ⟨b, off + (k * 9 + j), none⟩ = some v) :
    w.cell? ⟨b, off + k * 9, none⟩ = some (.int .i64 x.kind) ∧ w.cell? ⟨b, off + k * 9 + 1, none⟩ = some (.int .i64 x.m.dev) ∧ w.cell? ⟨b, off + k * 9 + 2, none⟩ = some (.string x.m.name) ∧ w.cell? ⟨b, off + k * 9 + 3, none⟩ = some (.string x.m.pub) ∧ w.cell? ⟨b, off + k * 9 + 4, none⟩ = some (.int .i64 x.m.quota) ∧ w.cell? ⟨b, off + k * 9 + 5, none⟩ = some (.bool x.m.exp) ∧ w.cell? ⟨b, off + k * 9 + 6, none⟩ = some (.int .i64 x.v) ∧ w.cell? ⟨b, off + k * 9 + 7, none⟩ = some (.int .i64 x.a) ∧ w.cell? ⟨b, off + k * 9 + 8, none⟩ = some (.int .i64 x.b) := by
  refine ⟨?_, ?_, ?_, ?_, ?_, ?_, ?_, ?_, ?_⟩
  · exact h 0 _ rfl
  · rw [Nat.add_assoc]; exact h 1 _ rfl
  · rw [Nat.add_assoc]; exact h 2 _ rfl
  · rw [Nat.add_assoc]; exact h 3 _ rfl
  · rw [Nat.add_assoc]; exact h 4 _ rfl
  · rw [Nat.add_assoc]; exact h 5 _ rfl
  · rw [Nat.add_assoc]; exact h 6 _ rfl
  · rw [Nat.add_assoc]; exact h 7 _ rfl
  · rw [Nat.add_assoc]; exact h 8 _ rfl
abbrev oSet (A : Option Addr) (n c : Nat) (A' : Option Addr) (n' c' : Nat) (q : Int) (A'' : Option Addr) (n'' c'' : Nat) : Obj := .cells #[.slice A n c, .slice A' n' c', .int .i64 q, .slice A'' n'' c''] 26
theorem four_of {w : World} {b : Nat} {A A' A'' : Option Addr} {n c n' c' n'' c'' : Nat} {q : Int} (h : w.heap[b]? = some (oSet A n c A' n' c' q A'' n'' c'')) :
    w.cell? ⟨b, 0, none⟩ = some (.slice A n c) ∧ w.cell? ⟨b, 1, none⟩ = some (.slice A' n' c') ∧ w.cell? ⟨b, 2, none⟩ = some (.int .i64 q) ∧ w.cell? ⟨b, 3, none⟩ = some (.slice A'' n'' c'') := by
  refine ⟨?_, ?_, ?_, ?_⟩ <;> (rw [cell_of_row w b _ _ _ _ h]; rfl)
/-- What built does. -/
def BuiltP (ms : List Mem) (ps : List VP) (q : Int) (xs : List Chn) (w : World) (e : Ending) (w' : World) : Prop :=
  (newE ms (ps.map Prod.fst) q = 0 ∧ ∃ g lab, e = .returned (.tuple #[fG g, .bool true]) ∧ Cir w' lab g (playsC (S0 ms ps q) xs) ∧ (∀ k, k < w.heap.size → lab k = 0) ∧ Below w.heap.size w w') ∨
  (newE ms (ps.map Prod.fst) q ≠ 0 ∧ e = .returned (.tuple #[.pointer none, .bool false]) ∧ Below w.heap.size w w')
end Go.Proofs.Ytkeicjokekmkpaa
