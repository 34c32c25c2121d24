/- The reference's Reader at each kind; integer, End, sums. -/
import Derived.Test.YtnfkjnmdfijhnaaGreatDoorT3
namespace Go.Proofs.YtnfkjnmdfijhnaaGreatDoor
open Go.RowKit Go.Lib
set_option linter.unusedVariables false
set_option linter.unusedSimpArgs false

theorem numF_er (bs : List Int) : ∀ (k acc i p : Nat), (numF bs k acc i p).2.1 = 0 ∨ (numF bs k acc i p).2.1 = 3
  | 0, _, _, _ => .inr rfl
  | k + 1, acc, i, p => by
    rw [numF]
    cases bs[p]? with
    | none => exact .inr rfl
    | some b =>
      simp only
      split
      · exact numF_er bs k _ _ _
      · split
        · exact .inr rfl
        · exact .inl rfl
theorem nmF_yes {bs : List Int} {p : Nat} {v : Int} {q : Nat} (h : numF bs 10 0 0 p = (v, 0, q)) : nmF bs p = (v, q, true) := by unfold nmF; rw [h]; rfl
theorem nmF_not {bs : List Int} {p : Nat} (h : (numF bs 10 0 0 p).2.1 ≠ 0) : nmF bs p = (0, 0, false) := by unfold nmF; rw [if_neg h]
/-- What number reads, in the two cases. -/
theorem numF_two (bs : List Int) (p : Nat) : (∃ v q, 0 ≤ v ∧ numF bs 10 0 0 p = (v, 0, q)) ∨ (numF bs 10 0 0 p).2.1 = 3 := by
  rcases numF_er bs 10 0 0 p with h | h
  · exact .inl ⟨(numF bs 10 0 0 p).1, (numF bs 10 0 0 p).2.2, numF_nonneg bs 10 0 0 p, by rw [← h]⟩
  · exact .inr h
theorem rV_er {α : Type} {s : RS} {z : α} {N : α × Int × Nat} (h : s.2 ≠ 0) : rV s z N = (z, s) := by unfold rV; rw [if_neg h]
theorem rV_bad {α : Type} {s : RS} {z : α} {N : α × Int × Nat} {e : Int} (h : s.2 = 0) (h2 : N.2.1 = e) (h3 : e ≠ 0) : rV s z N = (z, s.1, e) := by unfold rV; rw [if_pos h, h2, if_neg h3]
theorem rV_yes {α : Type} {s : RS} {z : α} {N : α × Int × Nat} {v : α} {q : Nat} (h : s.2 = 0) (h2 : N = (v, 0, q)) : rV s z N = (v, q, 0) := by unfold rV; rw [if_pos h, h2]; rfl
section
variable (g : Nat) (A : Option Addr) (n c : Nat) (bs : List Int) (s : RS) (w : World) (hr : RfS g A n c bs s w) (hk : RK bs n c) (hp : s.1 ≤ n)
include hr hk hp
theorem rfu_any : Calls Tryz.prog 52 #[.pointer (some ⟨g, 0, none⟩), .int .i64 1, .int .i64 0] w (RfPost g A n c bs (.agg (rv 1 (rU bs s).1 0 ⟨#[]⟩ 0)) (rU bs s).2 w) := by
  unfold rU
  by_cases he : s.2 = 0
  · rcases numF_two bs s.1 with ⟨v, q, hv, h⟩ | h
    · rw [rV_yes he h]
      exact rd52_ok v 0 ⟨#[]⟩ q 0 1 0 (by decide) g A n c bs s w hr he rfl (fun V hV hg => rd1_ok A n c s.1 g 0 bs V hV hk.1 hg hp hk.2.1 hk.2.2 v q (nmF_yes h))
    · rw [rV_bad he h (by decide)]
      exact rd52_bad 0 0 ⟨#[]⟩ s.1 3 1 0 (by decide) g A n c bs s w hr he (by decide) (fun V hV hg => rd1_no A n c s.1 g 0 bs V hV hk.1 hg hp hk.2.1 hk.2.2 (nmF_not (by rw [h]; decide)))
  · rw [rV_er he]
    exact rd52_err 1 0 (by decide) g A n c bs s w hr he
theorem rfs_any : Calls Tryz.prog 52 #[.pointer (some ⟨g, 0, none⟩), .int .i64 6, .int .i64 0] w (RfPost g A n c bs (.agg (rv 6 0 0 (rS bs s).1 0)) (rS bs s).2 w) := by
  have hl : bs.length = n := hr.2.1
  unfold rS
  by_cases he : s.2 = 0
  · by_cases h : bs.length < s.1 + 32
    · have e : tkF bs 32 s.1 = (baNo, 3, s.1) := by rw [tkF_eq, if_pos h]
      rw [rV_bad he (by rw [e]) (by decide : (3 : Int) ≠ 0)]
      exact rd52_bad 0 0 ⟨#[]⟩ s.1 3 6 0 (by decide) g A n c bs s w hr he (by decide) (fun V hV hg => rd6_no A n c s.1 g 0 bs V hV hk.1 hg hp hk.2.1 hk.2.2 (by omega))
    · have e : tkF bs 32 s.1 = (baOf ((bs.drop s.1).take 32), 0, s.1 + 32) := by rw [tkF_eq, if_neg h]
      rw [rV_yes he e]
      exact rd52_ok 0 0 _ (s.1 + 32) 0 6 0 (by decide) g A n c bs s w hr he rfl (fun V hV hg => rd6_ok A n c s.1 g 0 bs V hV hk.1 hg hp hk.2.1 hk.2.2 (by omega))
  · rw [rV_er he]
    exact rd52_err 6 0 (by decide) g A n c bs s w hr he
theorem rfc_any (m : Nat) (hm : m ≤ 1000000) : Calls Tryz.prog 52 #[.pointer (some ⟨g, 0, none⟩), .int .i64 7, .int .i64 m] w (RfPost g A n c bs (.agg (rv 7 0 (rC bs m s).1 ⟨#[]⟩ m)) (rC bs m s).2 w) := by
  unfold rC
  have hm2 : 0 ≤ (m : Int) ∧ (m : Int) ≤ 1000000 := by omega
  by_cases he : s.2 = 0
  · rcases numF_two bs s.1 with ⟨v, q, hv, h⟩ | h
    · obtain ⟨v, rfl⟩ : ∃ v' : Nat, v = v' := ⟨v.toNat, by omega⟩
      by_cases hvm : (m : Int) < v
      · have e : limF m (numF bs 10 0 0 s.1) = (0, 2, q) := by rw [h]; unfold limF; rw [if_pos rfl, if_pos hvm]
        rw [rV_bad he (by rw [e]) (by decide : (2 : Int) ≠ 0)]
        exact rd52_bad 0 0 ⟨#[]⟩ s.1 2 7 m (by decide) g A n c bs s w hr he (by decide) (fun V hV hg => rd7_big A n c s.1 g m bs V hV hk.1 hg hp hk.2.1 hk.2.2 hm2 v q (nmF_yes h) hvm)
      · have e : limF m (numF bs 10 0 0 s.1) = ((v : Int), 0, q) := by rw [h]; unfold limF; rw [if_pos rfl, if_neg hvm]
        rw [rV_yes he e]
        exact rd52_ok 0 v ⟨#[]⟩ q 0 7 m (by decide) g A n c bs s w hr he rfl (fun V hV hg => rd7_ok A n c s.1 g m bs V hV hk.1 hg hp hk.2.1 hk.2.2 hm2 v q (nmF_yes h) (by omega))
    · have e : (limF m (numF bs 10 0 0 s.1)).2.1 = 3 := by unfold limF; rw [if_neg (by rw [h]; decide)]; exact h
      rw [rV_bad he e (by decide)]
      exact rd52_bad 0 0 ⟨#[]⟩ s.1 3 7 m (by decide) g A n c bs s w hr he (by decide) (fun V hV hg => rd7_no A n c s.1 g m bs V hV hk.1 hg hp hk.2.1 hk.2.2 hm2 (nmF_not (by rw [h]; decide)))
  · rw [rV_er he]
    exact rd52_err 7 m (by decide) g A n c bs s w hr he
theorem rft_any (m : Nat) (hm : m ≤ 1000000) : Calls Tryz.prog 52 #[.pointer (some ⟨g, 0, none⟩), .int .i64 4, .int .i64 m] w (RfPost g A n c bs (.agg (rv 4 0 0 (rT bs m s).1 m)) (rT bs m s).2 w) := by
  have hl : bs.length = n := hr.2.1
  unfold rT
  have hm2 : 0 ≤ (m : Int) ∧ (m : Int) ≤ 1000000 := by omega
  by_cases he : s.2 = 0
  · rcases numF_two bs s.1 with ⟨v, q, hv, h⟩ | h
    · obtain ⟨v, rfl⟩ : ∃ v' : Nat, v = v' := ⟨v.toNat, by omega⟩
      have hqn : q ≤ n := by have := numF_le bs 10 0 0 s.1 (by omega); rw [h] at this; dsimp only at this; omega
      by_cases hvm : (m : Int) < v
      · have e : blkF bs m s.1 = (baNo, 2, q) := by rw [blkF_eq, h]; unfold limF; simp [hvm]
        rw [rV_bad he (by rw [e]) (by decide : (2 : Int) ≠ 0)]
        exact rd52_bad 0 0 ⟨#[]⟩ s.1 2 4 m (by decide) g A n c bs s w hr he (by decide) (fun V hV hg => rd4_big A n c s.1 g m bs V hV hk.1 hg hp hk.2.1 hk.2.2 hm2 v q (nmF_yes h) hvm)
      · have e0 : blkF bs m s.1 = tkF bs v q := by rw [blkF_eq, h]; unfold limF; simp [hvm]
        by_cases hs : bs.length < q + v
        · have e : blkF bs m s.1 = (baNo, 3, q) := by rw [e0, tkF_eq, if_pos hs]
          rw [rV_bad he (by rw [e]) (by decide : (3 : Int) ≠ 0)]
          exact rd52_bad 0 0 ⟨#[]⟩ s.1 3 4 m (by decide) g A n c bs s w hr he (by decide) (fun V hV hg => rd4_short A n c s.1 g m bs V hV hk.1 hg hp hk.2.1 hk.2.2 hm2 v q (nmF_yes h) (by omega) hqn (by omega))
        · have e : blkF bs m s.1 = (baOf ((bs.drop q).take v), 0, q + v) := by rw [e0, tkF_eq, if_neg hs]
          rw [rV_yes he e]
          exact rd52_ok 0 0 _ (q + v) 0 4 m (by decide) g A n c bs s w hr he rfl (fun V hV hg => rd4_ok A n c s.1 g m bs V hV hk.1 hg hp hk.2.1 hk.2.2 hm2 v q (nmF_yes h) (by omega) hqn (by omega))
    · have e : (blkF bs m s.1).2.1 = 3 := by
        have e0 : (limF m (numF bs 10 0 0 s.1)).2.1 = 3 := by unfold limF; rw [if_neg (by rw [h]; decide)]; exact h
        rw [blkF_eq, if_neg (by rw [e0]; decide)]
        exact e0
      rw [rV_bad he e (by decide)]
      exact rd52_bad 0 0 ⟨#[]⟩ s.1 3 4 m (by decide) g A n c bs s w hr he (by decide) (fun V hV hg => rd4_no A n c s.1 g m bs V hV hk.1 hg hp hk.2.1 hk.2.2 hm2 (nmF_not (by rw [h]; decide)))
  · rw [rV_er he]
    exact rd52_err 4 m (by decide) g A n c bs s w hr he
end
end Go.Proofs.YtnfkjnmdfijhnaaGreatDoor
