/- play. -/
import Derived.Test.YtkeicjokekmkpaaRf
namespace Go.Proofs.Ytkeicjokekmkpaa
open Go.RowKit Mb
set_option linter.unusedVariables false
set_option linter.unusedSimpArgs false

theorem MutP.from {S' : Cst} {lab : Nat → Nat} {g : Nat} {v : Value} {w W w' : World} {e : Ending} (hb : Below w.heap.size w W) (h : MutP S' lab g v W e w') : MutP S' lab g v w e w' := by
  obtain ⟨h1, lab', h2, h3⟩ := h
  exact ⟨h1, lab', h2, (Fr.of_below hb).trans h3⟩
def chg (x : Chn) : Chg := if x.kind = 1 then .adm x.m else if x.kind = 2 then .bal x.a x.b else .rep x.v x.a x.b
def chgs (S : St) (x : Chn) : List Chg := if playE S x = 0 then [chg x] else []
def playC (S : Cst) (x : Chn) : Cst := { S with s := playS S.s x, chs := S.chs ++ chgs S.s x }
def admC (S : Cst) (m : Mem) : Cst := if admE S.s m = 0 then { S with s := admS S.s m, chs := S.chs ++ [.adm m] } else S
def votC (S : Cst) (a b : Int) : Cst := if votE S.s a b = 0 then { S with s := votS S.s a b, chs := S.chs ++ [.bal a b] } else S
def repC (S : Cst) (v a b : Int) : Cst := if repE S.s v a b = 0 then { S with s := repS S.s v a b, chs := S.chs ++ [.rep v a b] } else S
theorem playC_adm {S : Cst} {x : Chn} (h : x.kind = 1) : playC S x = admC S x.m := by
  unfold playC admC playS chgs chg playE
  simp only [h, if_true]
  split <;> simp
theorem playC_vot {S : Cst} {x : Chn} (h : x.kind = 2) : playC S x = votC S x.a x.b := by
  unfold playC votC playS chgs chg playE
  have h1 : ¬ (2 : Int) = 1 := by decide
  simp only [h, h1, if_true, if_false]
  split <;> simp
theorem playC_rep {S : Cst} {x : Chn} (h1 : ¬ x.kind = 1) (h2 : ¬ x.kind = 2) : playC S x = repC S x.v x.a x.b := by
  unfold playC repC playS chgs chg playE
  simp only [h1, h2, if_false]
  split <;> simp
theorem admit_any (g : Nat) (lab : Nat → Nat) (S : Cst) (m : Mem) (w : World) (hC : Cir w lab g S) (hI : Inv S.s) (hch : S.chs.length ≤ 1000000) (hs : m.name.size ≤ 9223372036854775807) (hp : m.pub.size ≤ 9223372036854775807) :
    Calls Try.prog 35 #[fG g, aM m] w (MutP (admC S m) lab g (.int .i64 (admE S.s m)) w) := by
  by_cases h1 : 12 ≤ S.s.ms.length
  · have e : admE S.s m = 7 := by unfold admE; rw [if_pos h1]
    have e2 : admC S m = S := by unfold admC; rw [e, if_neg (by decide)]
    rw [e, e2]
    exact admit_full g lab S m w hC (by have := hI.n12; omega) h1
  · cases h2 : memB m S.s.ms.length
    · have e : admE S.s m = 1 := by unfold admE; rw [if_neg h1, if_pos h2]
      have e2 : admC S m = S := by unfold admC; rw [e, if_neg (by decide)]
      rw [e, e2]
      exact admit_bad g lab S m w hC (by omega) hs hp h2
    · cases h3 : takenB S.s.ms m
      · have e : admE S.s m = 0 := by unfold admE; rw [if_neg h1, if_neg (by rw [h2]; decide), if_neg (by rw [h3]; decide)]
        have e2 : admC S m = { S with s := admS S.s m, chs := S.chs ++ [.adm m] } := by unfold admC; rw [if_pos e]
        rw [e, e2]
        exact admit_ok g lab S m w hC (by omega) hch hs hp h2 h3
      · have e : admE S.s m = 5 := by unfold admE; rw [if_neg h1, if_neg (by rw [h2]; decide), if_pos h3]
        have e2 : admC S m = S := by unfold admC; rw [e, if_neg (by decide)]
        rw [e, e2]
        exact admit_taken g lab S m w hC (by omega) hs hp h2 h3
/-- What Vote tells. -/
def votB (S : St) (a b : Int) : Bool := decide (votE S a b = 0) && outB S a b
theorem vote_any (g : Nat) (lab : Nat → Nat) (S : Cst) (a b : Int) (w : World) (hC : Cir w lab g S) (hI : Inv S.s) (hch : S.chs.length ≤ 1000000) (hvl : S.s.votes.length ≤ 1000000) :
    Calls Try.prog 19 #[fG g, .int .i64 a, .int .i64 b] w (MutP (votC S a b) lab g (votR (votB S.s a b) (votE S.s a b)) w) := by
  have h12 := hI.n12
  have no : ∀ k : Int, votE S.s a b = k → k ≠ 0 → votC S a b = S ∧ votB S.s a b = false := fun k e hk => ⟨by unfold votC; rw [if_neg (by rw [e]; exact hk)], by unfold votB; rw [e]; simp [hk]⟩
  cases h1 : hasB S.s a
  · have e : votE S.s a b = 4 := by unfold votE; rw [if_pos (.inl h1)]
    obtain ⟨e2, e3⟩ := no 4 e (by decide)
    rw [e, e2, e3]
    exact vote_e1 g lab S a b w hC h12 h1
  · cases h2 : hasB S.s b
    · have e : votE S.s a b = 4 := by unfold votE; rw [if_pos (.inr h2)]
      obtain ⟨e2, e3⟩ := no 4 e (by decide)
      rw [e, e2, e3]
      exact vote_e2 g lab S a b w hC h12 h1 h2
    · have f1 : ¬ (hasB S.s a = false ∨ hasB S.s b = false) := by rw [h1, h2]; simp
      cases h3 : actI S.s a
      · have e : votE S.s a b = 14 := by unfold votE; rw [if_neg f1, if_pos (.inl h3)]
        obtain ⟨e2, e3⟩ := no 14 e (by decide)
        rw [e, e2, e3]
        exact vote_e3 g lab S a b w hC h12 h1 h2 h3
      · by_cases h4 : a = b
        · have e : votE S.s a b = 14 := by unfold votE; rw [if_neg f1, if_pos (.inr h4)]
          obtain ⟨e2, e3⟩ := no 14 e (by decide)
          rw [e, e2, e3]
          exact vote_e4 g lab S a b w hC h12 h1 h2 h3 h4
        · have f2 : ¬ (actI S.s a = false ∨ a = b) := by rw [h3]; simp [h4]
          cases h5 : actI S.s b
          · have e : votE S.s a b = 6 := by unfold votE; rw [if_neg f1, if_neg f2, if_pos h5]
            obtain ⟨e2, e3⟩ := no 6 e (by decide)
            rw [e, e2, e3]
            exact vote_e5 g lab S a b w hC h12 h1 h2 h3 h4 h5
          · cases h6 : votedB S.s a b
            · have e : votE S.s a b = 0 := by unfold votE; rw [if_neg f1, if_neg f2, if_neg (by rw [h5]; decide), if_neg (by rw [h6]; decide)]
              have e2 : votC S a b = { S with s := votS S.s a b, chs := S.chs ++ [.bal a b] } := by unfold votC; rw [if_pos e]
              have e3 : votB S.s a b = outB S.s a b := by unfold votB; rw [e]; simp
              rw [e, e2, e3]
              exact vote_ok g lab S a b w hC h12 h1 h2 h3 h4 h5 h6 hch hvl
            · have e : votE S.s a b = 5 := by unfold votE; rw [if_neg f1, if_neg f2, if_neg (by rw [h5]; decide), if_pos h6]
              obtain ⟨e2, e3⟩ := no 5 e (by decide)
              rw [e, e2, e3]
              exact vote_e6 g lab S a b w hC h12 h1 h2 h3 h4 h5 h6
theorem replace_any (g : Nat) (lab : Nat → Nat) (S : Cst) (v a b : Int) (w : World) (hC : Cir w lab g S) (hI : Inv S.s) (hch : S.chs.length ≤ 1000000) :
    Calls Try.prog 20 #[fG g, .int .i64 v, .int .i64 a, .int .i64 b] w (MutP (repC S v a b) lab g (.int .i64 (repE S.s v a b)) w) := by
  have no : ∀ k : Int, repE S.s v a b = k → k ≠ 0 → repC S v a b = S := fun k e hk => by unfold repC; rw [if_neg (by rw [e]; exact hk)]
  cases h1 : vltOf S.s v with
  | none =>
    have e : repE S.s v a b = 4 := by unfold repE; rw [h1]
    rw [no 4 e (by decide), e]
    exact replace_e1 g lab S v a b w hC hI h1
  | some x =>
    cases h2 : x.ws.contains a
    · have e : repE S.s v a b = 4 := by unfold repE; rw [h1]; simp only; rw [if_pos (.inl h2)]
      rw [no 4 e (by decide), e]
      exact replace_e2 g lab S v a b w hC hI x h1 h2
    · cases h3 : hasB S.s b
      · have e : repE S.s v a b = 4 := by unfold repE; rw [h1]; simp only; rw [if_pos (.inr h3)]
        rw [no 4 e (by decide), e]
        exact replace_e3 g lab S v a b w hC hI x h1 h2 h3
      · have f1 : ¬ (x.ws.contains a = false ∨ hasB S.s b = false) := by rw [h2, h3]; simp
        cases h4 : actI S.s a
        · cases h5 : actI S.s b
          · have e : repE S.s v a b = 6 := by unfold repE; rw [h1]; simp only; rw [if_neg f1, if_pos (.inr h5)]
            rw [no 6 e (by decide), e]
            exact replace_e5 g lab S v a b w hC hI x h1 h2 h3 h4 h5
          · have f2 : ¬ (actI S.s a = true ∨ actI S.s b = false) := by rw [h4, h5]; simp
            cases h6 : x.ws.contains b
            · have e : repE S.s v a b = 0 := by unfold repE; rw [h1]; simp only; rw [if_neg f1, if_neg f2, if_neg (by rw [h6]; decide)]
              have e2 : repC S v a b = { S with s := repS S.s v a b, chs := S.chs ++ [.rep v a b] } := by unfold repC; rw [if_pos e]
              rw [e, e2]
              exact replace_ok g lab S v a b w hC hI x h1 h2 h3 h4 h5 h6 hch
            · have e : repE S.s v a b = 5 := by unfold repE; rw [h1]; simp only; rw [if_neg f1, if_neg f2, if_pos h6]
              rw [no 5 e (by decide), e]
              exact replace_e6 g lab S v a b w hC hI x h1 h2 h3 h4 h5 h6
        · have e : repE S.s v a b = 6 := by unfold repE; rw [h1]; simp only; rw [if_neg f1, if_pos (.inl h4)]
          rw [no 6 e (by decide), e]
          exact replace_e4 g lab S v a b w hC hI x h1 h2 h3 h4
/-- A change as an argument. -/
abbrev aCh (x : Chn) : Value := .agg #[.int .i64 x.kind, .int .i64 x.m.dev, .string x.m.name, .string x.m.pub, .int .i64 x.m.quota, .bool x.m.exp, .int .i64 x.v, .int .i64 x.a, .int .i64 x.b]
set_option maxRecDepth 20000 in
set_option maxHeartbeats 2000000 in
theorem play_any (g : Nat) (lab : Nat → Nat) (S : Cst) (x : Chn) (w : World) (hC : Cir w lab g S) (hI : Inv S.s) (hch : S.chs.length ≤ 1000000) (hvl : S.s.votes.length ≤ 1000000) (hs : x.m.name.size ≤ 9223372036854775807) (hp : x.m.pub.size ≤ 9223372036854775807) :
    Calls Try.prog 14 #[fG g, aCh x] w (MutP (playC S x) lab g (votR (playB S.s x) (playE S.s x)) w) := by
  obtain ⟨W, hW⟩ : ∃ W : World, W = w.alloc (.cells #[.int .i64 x.kind, .int .i64 x.m.dev, .string x.m.name, .string x.m.pub, .int .i64 x.m.quota, .bool x.m.exp, .int .i64 x.v, .int .i64 x.a, .int .i64 x.b] 53) := ⟨_, rfl⟩
  have hB : Below w.heap.size w W := by rw [hW]; exact (Below.refl _ _).alloc (Nat.le_refl _) _
  have hCW := hC.on hB
  have HB := Lib.hid hB
  have HW := Lib.hid hW
  by_cases h1 : x.kind = 1
  · have HA := Lib.hid (admit_any g lab S x.m W hCW hI hch hs hp)
    have HE : Hid (playE S.s x = admE S.s x.m) := by show _ = _; unfold playE; rw [if_pos h1]
    have HP : Hid (playB S.s x = false) := by show _ = _; unfold playB; rw [h1]; rfl
    have HC := Lib.hid (playC_adm (S := S) h1)
    have e1 : (x.kind == 1) = true := by simp [h1]
    clear hC hCW hI hB hW h1
    go_enter Try.func14, Try.ntmps14
    go_wp2_with fail
    rw [← HW.out]
    refine HA.out.mono ?_
    rintro e w1 ⟨rfl, h2⟩
    have H2 := Lib.hid h2
    clear h2
    go_wp2
    go_ret2
    rw [HE.out, HP.out, HC.out]
    obtain ⟨lab', h3, h4⟩ := H2.out
    exact ⟨rfl, lab', h3, (Fr.of_below HB.out).trans h4⟩
  · have e1 : (x.kind == 1) = false := by simp [h1]
    by_cases h2 : x.kind = 2
    · have e2 : (x.kind == 2) = true := by simp [h2]
      have HA := Lib.hid (vote_any g lab S x.a x.b W hCW hI hch hvl)
      have HE : Hid (playE S.s x = votE S.s x.a x.b) := by show _ = _; unfold playE; rw [if_neg h1, if_pos h2]
      have HP : Hid (playB S.s x = votB S.s x.a x.b) := by show _ = _; unfold playB votB; rw [h2]; simp
      have HC := Lib.hid (playC_vot (S := S) h2)
      clear hC hCW hI hB hW h1 h2
      go_enter Try.func14, Try.ntmps14
      go_wp2_with fail
      rw [← HW.out]
      refine HA.out.mono ?_
      rintro e w1 ⟨rfl, h2⟩
      have H2 := Lib.hid h2
      clear h2
      unfold votR
      go_wp2
      go_ret2
      rw [HE.out, HP.out, HC.out]
      obtain ⟨lab', h3, h4⟩ := H2.out
      exact ⟨rfl, lab', h3, (Fr.of_below HB.out).trans h4⟩
    · have e2 : (x.kind == 2) = false := by simp [h2]
      have HA := Lib.hid (replace_any g lab S x.v x.a x.b W hCW hI hch)
      have HE : Hid (playE S.s x = repE S.s x.v x.a x.b) := by show _ = _; unfold playE; rw [if_neg h1, if_neg h2]
      have HP : Hid (playB S.s x = false) := by show _ = _; unfold playB; simp [h2]
      have HC := Lib.hid (playC_rep (S := S) h1 h2)
      clear hC hCW hI hB hW h1 h2
      go_enter Try.func14, Try.ntmps14
      go_wp2_with fail
      rw [← HW.out]
      refine HA.out.mono ?_
      rintro e w1 ⟨rfl, h2⟩
      have H2 := Lib.hid h2
      clear h2
      go_wp2
      go_ret2
      rw [HE.out, HP.out, HC.out]
      obtain ⟨lab', h3, h4⟩ := H2.out
      exact ⟨rfl, lab', h3, (Fr.of_below HB.out).trans h4⟩
end Go.Proofs.Ytkeicjokekmkpaa
