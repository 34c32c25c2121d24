/- play. Small functions of the law and of the reference. -/
import Derived.Test.YtkeicjokekmkpaaGreatRf
import Derived.Test.YtkeicjokekmkpaaGreatMf
import Derived.Test.YtkeicjokekmkpaaGreatMg
namespace Go.Proofs.YtkeicjokekmkpaaGreat
open Go.RowKit Mb
set_option linter.unusedVariables false
set_option linter.unusedSimpArgs false

theorem MutP.from {S' : Cst} {lab : Nat → Nat} {g : Nat} {v : Value} {w W w' : World} {e : Ending} (hb : Below w.heap.size w W) (h : MutP S' lab g v W e w') : MutP S' lab g v w e w' := by
  obtain ⟨h1, lab', h2, h3⟩ := h
  exact ⟨h1, lab', h2, (Fr.of_below hb).trans h3⟩
def chg (x : Chn) : Chg := if x.kind = 1 then .adm x.m else if x.kind = 2 then .bal x.a x.b else .rep x.v x.a x.b
def chgs (S : St) (x : Chn) : List Chg := if playE S x = 0 then [chg x] else []
def playC (S : Cst) (x : Chn) : Cst := { S with s := playS S.s x, chs := S.chs ++ chgs S.s x }
def admC (S : Cst) (m : Mem) : Cst := if admE S.s m = 0 then { S with s := admS S.s m, chs := S.chs ++ [.adm m] } else S
def votC (S : Cst) (a b : Int) : Cst := if votE S.s a b = 0 then { S with s := votS S.s a b, chs := S.chs ++ [.bal a b] } else S
def repC (S : Cst) (v a b : Int) : Cst := if repE S.s v a b = 0 then { S with s := repS S.s v a b, chs := S.chs ++ [.rep v a b] } else S
theorem playC_adm {S : Cst} {x : Chn} (h : x.kind = 1) : playC S x = admC S x.m := by
  unfold playC admC playS chgs chg playE
  simp only [h, if_true]
  split <;> simp
theorem playC_vot {S : Cst} {x : Chn} (h : x.kind = 2) : playC S x = votC S x.a x.b := by
  unfold playC votC playS chgs chg playE
  have h1 : ¬ (2 : Int) = 1 := by decide
  simp only [h, h1, if_true, if_false]
  split <;> simp
theorem playC_rep {S : Cst} {x : Chn} (h1 : ¬ x.kind = 1) (h2 : ¬ x.kind = 2) : playC S x = repC S x.v x.a x.b := by
  unfold playC repC playS chgs chg playE
  simp only [h1, h2, if_false]
  split <;> simp
theorem admit_any (g : Nat) (lab : Nat → Nat) (S : Cst) (m : Mem) (w : World) (hC : Cir w lab g S) (hI : Inv S.s) (hch : S.chs.length ≤ 1000000) (hs : m.name.size ≤ 9223372036854775807) (hp : m.pub.size ≤ 9223372036854775807) :
    Calls Tryz.prog 70 #[fG g, aM m] w (MutP (admC S m) lab g (.int .i64 (admE S.s m)) w) := by
  by_cases h1 : 12 ≤ S.s.ms.length
  · have e : admE S.s m = 7 := by unfold admE; rw [if_pos h1]
    have e2 : admC S m = S := by unfold admC; rw [e, if_neg (by decide)]
    rw [e, e2]
    exact admit_full g lab S m w hC (by have := hI.n12; omega) h1
  · cases h2 : memB m S.s.ms.length
    · have e : admE S.s m = 1 := by unfold admE; rw [if_neg h1, if_pos h2]
      have e2 : admC S m = S := by unfold admC; rw [e, if_neg (by decide)]
      rw [e, e2]
      exact admit_bad g lab S m w hC (by omega) hs hp h2
    · cases h3 : takenB S.s.ms m
      · have e : admE S.s m = 0 := by unfold admE; rw [if_neg h1, if_neg (by rw [h2]; decide), if_neg (by rw [h3]; decide)]
        have e2 : admC S m = { S with s := admS S.s m, chs := S.chs ++ [.adm m] } := by unfold admC; rw [if_pos e]
        rw [e, e2]
        exact admit_ok g lab S m w hC (by omega) hch hs hp h2 h3
      · have e : admE S.s m = 5 := by unfold admE; rw [if_neg h1, if_neg (by rw [h2]; decide), if_pos h3]
        have e2 : admC S m = S := by unfold admC; rw [e, if_neg (by decide)]
        rw [e, e2]
        exact admit_taken g lab S m w hC (by omega) hs hp h2 h3
/-- What Vote tells. -/
def votB (S : St) (a b : Int) : Bool := decide (votE S a b = 0) && outB S a b
theorem vote_any (g : Nat) (lab : Nat → Nat) (S : Cst) (a b : Int) (w : World) (hC : Cir w lab g S) (hI : Inv S.s) (hch : S.chs.length ≤ 1000000) (hvl : S.s.votes.length ≤ 1000000) :
    Calls Tryz.prog 16 #[fG g, .int .i64 a, .int .i64 b] w (MutP (votC S a b) lab g (votR (votB S.s a b) (votE S.s a b)) w) := by
  have h12 := hI.n12
  have no : ∀ k : Int, votE S.s a b = k → k ≠ 0 → votC S a b = S ∧ votB S.s a b = false := fun k e hk => ⟨by unfold votC; rw [if_neg (by rw [e]; exact hk)], by unfold votB; rw [e]; simp [hk]⟩
  cases h1 : hasB S.s a
  · have e : votE S.s a b = 4 := by unfold votE; rw [if_pos (.inl h1)]
    obtain ⟨e2, e3⟩ := no 4 e (by decide)
    rw [e, e2, e3]
    exact vote_e1 g lab S a b w hC h12 h1
  · cases h2 : hasB S.s b
    · have e : votE S.s a b = 4 := by unfold votE; rw [if_pos (.inr h2)]
      obtain ⟨e2, e3⟩ := no 4 e (by decide)
      rw [e, e2, e3]
      exact vote_e2 g lab S a b w hC h12 h1 h2
    · have f1 : ¬ (hasB S.s a = false ∨ hasB S.s b = false) := by rw [h1, h2]; simp
      cases h3 : actI S.s a
      · have e : votE S.s a b = 14 := by unfold votE; rw [if_neg f1, if_pos (.inl h3)]
        obtain ⟨e2, e3⟩ := no 14 e (by decide)
        rw [e, e2, e3]
        exact vote_e3 g lab S a b w hC h12 h1 h2 h3
      · by_cases h4 : a = b
        · have e : votE S.s a b = 14 := by unfold votE; rw [if_neg f1, if_pos (.inr h4)]
          obtain ⟨e2, e3⟩ := no 14 e (by decide)
          rw [e, e2, e3]
          exact vote_e4 g lab S a b w hC h12 h1 h2 h3 h4
        · have f2 : ¬ (actI S.s a = false ∨ a = b) := by rw [h3]; simp [h4]
          cases h5 : actI S.s b
          · have e : votE S.s a b = 6 := by unfold votE; rw [if_neg f1, if_neg f2, if_pos h5]
            obtain ⟨e2, e3⟩ := no 6 e (by decide)
            rw [e, e2, e3]
            exact vote_e5 g lab S a b w hC h12 h1 h2 h3 h4 h5
          · cases h6 : votedB S.s a b
            · have e : votE S.s a b = 0 := by unfold votE; rw [if_neg f1, if_neg f2, if_neg (by rw [h5]; decide), if_neg (by rw [h6]; decide)]
              have e2 : votC S a b = { S with s := votS S.s a b, chs := S.chs ++ [.bal a b] } := by unfold votC; rw [if_pos e]
              have e3 : votB S.s a b = outB S.s a b := by unfold votB; rw [e]; simp
              rw [e, e2, e3]
              exact vote_ok g lab S a b w hC h12 h1 h2 h3 h4 h5 h6 hch hvl
            · have e : votE S.s a b = 5 := by unfold votE; rw [if_neg f1, if_neg f2, if_neg (by rw [h5]; decide), if_pos h6]
              obtain ⟨e2, e3⟩ := no 5 e (by decide)
              rw [e, e2, e3]
              exact vote_e6 g lab S a b w hC h12 h1 h2 h3 h4 h5 h6
theorem replace_any (g : Nat) (lab : Nat → Nat) (S : Cst) (v a b : Int) (w : World) (hC : Cir w lab g S) (hI : Inv S.s) (hch : S.chs.length ≤ 1000000) :
    Calls Tryz.prog 17 #[fG g, .int .i64 v, .int .i64 a, .int .i64 b] w (MutP (repC S v a b) lab g (.int .i64 (repE S.s v a b)) w) := by
  have no : ∀ k : Int, repE S.s v a b = k → k ≠ 0 → repC S v a b = S := fun k e hk => by unfold repC; rw [if_neg (by rw [e]; exact hk)]
  cases h1 : vltOf S.s v with
  | none =>
    have e : repE S.s v a b = 4 := by unfold repE; rw [h1]
    rw [no 4 e (by decide), e]
    exact replace_e1 g lab S v a b w hC hI h1
  | some x =>
    cases h2 : x.ws.contains a
    · have e : repE S.s v a b = 4 := by unfold repE; rw [h1]; simp only; rw [if_pos (.inl h2)]
      rw [no 4 e (by decide), e]
      exact replace_e2 g lab S v a b w hC hI x h1 h2
    · cases h3 : hasB S.s b
      · have e : repE S.s v a b = 4 := by unfold repE; rw [h1]; simp only; rw [if_pos (.inr h3)]
        rw [no 4 e (by decide), e]
        exact replace_e3 g lab S v a b w hC hI x h1 h2 h3
      · have f1 : ¬ (x.ws.contains a = false ∨ hasB S.s b = false) := by rw [h2, h3]; simp
        cases h4 : actI S.s a
        · cases h5 : actI S.s b
          · have e : repE S.s v a b = 6 := by unfold repE; rw [h1]; simp only; rw [if_neg f1, if_pos (.inr h5)]
            rw [no 6 e (by decide), e]
            exact replace_e5 g lab S v a b w hC hI x h1 h2 h3 h4 h5
          · have f2 : ¬ (actI S.s a = true ∨ actI S.s b = false) := by rw [h4, h5]; simp
            cases h6 : x.ws.contains b
            · have e : repE S.s v a b = 0 := by unfold repE; rw [h1]; simp only; rw [if_neg f1, if_neg f2, if_neg (by rw [h6]; decide)]
              have e2 : repC S v a b = { S with s := repS S.s v a b, chs := S.chs ++ [.rep v a b] } := by unfold repC; rw [if_pos e]
              rw [e, e2]
              exact replace_ok g lab S v a b w hC hI x h1 h2 h3 h4 h5 h6 hch
            · have e : repE S.s v a b = 5 := by unfold repE; rw [h1]; simp only; rw [if_neg f1, if_neg f2, if_pos h6]
              rw [no 5 e (by decide), e]
              exact replace_e6 g lab S v a b w hC hI x h1 h2 h3 h4 h5 h6
        · have e : repE S.s v a b = 6 := by unfold repE; rw [h1]; simp only; rw [if_neg f1, if_pos (.inl h4)]
          rw [no 6 e (by decide), e]
          exact replace_e4 g lab S v a b w hC hI x h1 h2 h3 h4
/-- A change as an argument. -/
abbrev aCh (x : Chn) : Value := .agg #[.int .i64 x.kind, .int .i64 x.m.dev, .string x.m.name, .string x.m.pub, .int .i64 x.m.quota, .bool x.m.exp, .int .i64 x.v, .int .i64 x.a, .int .i64 x.b]
set_option maxRecDepth 20000 in
set_option maxHeartbeats 2000000 in
theorem play_any (g : Nat) (lab : Nat → Nat) (S : Cst) (x : Chn) (w : World) (hC : Cir w lab g S) (hI : Inv S.s) (hch : S.chs.length ≤ 1000000) (hvl : S.s.votes.length ≤ 1000000) (hs : x.m.name.size ≤ 9223372036854775807) (hp : x.m.pub.size ≤ 9223372036854775807) :
    Calls Tryz.prog 20 #[fG g, aCh x] w (MutP (playC S x) lab g (votR (playB S.s x) (playE S.s x)) w) := by
  obtain ⟨W, hW⟩ : ∃ W : World, W = w.alloc (.cells #[.int .i64 x.kind, .int .i64 x.m.dev, .string x.m.name, .string x.m.pub, .int .i64 x.m.quota, .bool x.m.exp, .int .i64 x.v, .int .i64 x.a, .int .i64 x.b] 42) := ⟨_, rfl⟩
  have hB : Below w.heap.size w W := by rw [hW]; exact (Below.refl _ _).alloc (Nat.le_refl _) _
  have hCW := hC.on hB
  have HB := Lib.hid hB
  have HW := Lib.hid hW
  by_cases h1 : x.kind = 1
  · have HA := Lib.hid (admit_any g lab S x.m W hCW hI hch hs hp)
    have HE : Hid (playE S.s x = admE S.s x.m) := by show _ = _; unfold playE; rw [if_pos h1]
    have HP : Hid (playB S.s x = false) := by show _ = _; unfold playB; rw [h1]; rfl
    have HC := Lib.hid (playC_adm (S := S) h1)
    have e1 : (x.kind == 1) = true := by simp [h1]
    clear hC hCW hI hB hW h1
    go_enter Tryz.func20, Tryz.ntmps20
    go_wp2_with fail
    rw [← HW.out]
    refine HA.out.mono ?_
    rintro e w1 ⟨rfl, h2⟩
    have H2 := Lib.hid h2
    clear h2
    go_wp2
    go_ret2
    rw [HE.out, HP.out, HC.out]
    obtain ⟨lab', h3, h4⟩ := H2.out
    exact ⟨rfl, lab', h3, (Fr.of_below HB.out).trans h4⟩
  · have e1 : (x.kind == 1) = false := by simp [h1]
    by_cases h2 : x.kind = 2
    · have e2 : (x.kind == 2) = true := by simp [h2]
      have HA := Lib.hid (vote_any g lab S x.a x.b W hCW hI hch hvl)
      have HE : Hid (playE S.s x = votE S.s x.a x.b) := by show _ = _; unfold playE; rw [if_neg h1, if_pos h2]
      have HP : Hid (playB S.s x = votB S.s x.a x.b) := by show _ = _; unfold playB votB; rw [h2]; simp
      have HC := Lib.hid (playC_vot (S := S) h2)
      clear hC hCW hI hB hW h1 h2
      go_enter Tryz.func20, Tryz.ntmps20
      go_wp2_with fail
      rw [← HW.out]
      refine HA.out.mono ?_
      rintro e w1 ⟨rfl, h2⟩
      have H2 := Lib.hid h2
      clear h2
      unfold votR
      go_wp2
      go_ret2
      rw [HE.out, HP.out, HC.out]
      obtain ⟨lab', h3, h4⟩ := H2.out
      exact ⟨rfl, lab', h3, (Fr.of_below HB.out).trans h4⟩
    · have e2 : (x.kind == 2) = false := by simp [h2]
      have HA := Lib.hid (replace_any g lab S x.v x.a x.b W hCW hI hch)
      have HE : Hid (playE S.s x = repE S.s x.v x.a x.b) := by show _ = _; unfold playE; rw [if_neg h1, if_neg h2]
      have HP : Hid (playB S.s x = false) := by show _ = _; unfold playB; simp [h2]
      have HC := Lib.hid (playC_rep (S := S) h1 h2)
      clear hC hCW hI hB hW h1 h2
      go_enter Tryz.func20, Tryz.ntmps20
      go_wp2_with fail
      rw [← HW.out]
      refine HA.out.mono ?_
      rintro e w1 ⟨rfl, h2⟩
      have H2 := Lib.hid h2
      clear h2
      go_wp2
      go_ret2
      rw [HE.out, HP.out, HC.out]
      obtain ⟨lab', h3, h4⟩ := H2.out
      exact ⟨rfl, lab', h3, (Fr.of_below HB.out).trans h4⟩
end Go.Proofs.YtkeicjokekmkpaaGreat
namespace Go.Proofs.YtkeicjokekmkpaaGreat
open Go.RowKit Mb
set_option linter.unusedVariables false
set_option linter.unusedSimpArgs false

set_option maxRecDepth 20000 in
theorem sameI_any (A A' : Option Addr) (n n' : Nat) (xs ys : List Int) (c c' : Nat) (w : World) (B : Nat) (hx : Sl I w B A n xs) (hy : Sl I w B A' n' ys) (hl : n ≤ 1000000) (hl' : n' ≤ 1000000) :
    Calls Tryz.prog 15 #[.slice A n c, .slice A' n' c'] w fun e w' => e = .returned (.bool (decide (xs = ys))) ∧ ∃ r, w' = w.drewN r := by
  obtain ⟨rfl, hx⟩ := hx
  obtain ⟨rfl, hy⟩ := hy
  have HX := Lib.hid hx
  have HY := Lib.hid hy
  clear hx hy
  by_cases he : xs.length = ys.length
  · have HE := Lib.hid he
    have hd : ((xs.length : Int) != (ys.length : Int)) = false := by simp; omega
    have hl2 : xs.length ≤ ys.length := by omega
    clear he
    go_enter Tryz.func15, Tryz.ntmps15
    go_wp2
    go_loopw [5] (fun i wr => ∃ k : Nat, k ≤ xs.length ∧ i = .int .i64 k ∧ Hid (xs.take k = ys.take k) ∧ Hid (∃ r, wr = w.drewN r)) (fun i _ => xs.length - (intOf i).toNat)
    case atStart => exact ⟨0, by omega, rfl, by show _ = _; simp, ⟨0, rfl⟩⟩
    case round =>
      obtain ⟨k, hk, rfl, HT, HR⟩ := hrel
      obtain ⟨r, hr⟩ := HR.out
      subst hr
      clear HR
      by_cases hlt : k < xs.length
      · obtain ⟨b, off, x, rfl, _, hxk, hc⟩ := HX.out.at_ (k := k) (by omega)
        obtain ⟨b', off', y, rfl, _, hyk, hc'⟩ := HY.out.at_ (k := k) (by omega)
        have hlt' : k < ys.length := by omega
        have HXk := Lib.hid hxk
        have HYk := Lib.hid hyk
        clear hxk hyk
        by_cases hne : x = y
        · subst hne
          have hb : (x != x) = false := by simp
          go_wp2
          go_quiet (fail)
          go_wp2
          go_roundw
          case rel => exact ⟨k + 1, by omega, by go_num, by show _ = _; rw [take_snoc HXk.out, take_snoc HYk.out, HT.out], _, rfl⟩
          case measure => simp [intOf]; omega
        · have hb : (x != y) = true := by simpa using hne
          have HF : Hid (decide (xs = ys) = false) := by
            show _ = _
            simp only [decide_eq_false_iff_not]
            rintro rfl
            have := HXk.out.symm.trans HYk.out
            simp at this; exact hne this
          clear hne
          go_wp2
          go_quiet (fail)
          go_wp2
          go_ret
          exact ⟨ret_bool HF.out.symm, _, World.drewN_drewN _ _ _⟩
      · have HF : Hid (decide (xs = ys) = true) := by
          show _ = _
          have := HT.out
          rw [List.take_of_length_le (by omega), List.take_of_length_le (by have := HE.out; omega)] at this
          simpa using this
        go_wp2
        go_ret
        exact ⟨ret_bool HF.out.symm, _, rfl⟩
  · have HF : Hid (decide (xs = ys) = false) := by
      show _ = _
      simp only [decide_eq_false_iff_not]
      rintro rfl
      exact he rfl
    have hd : ((xs.length : Int) != (ys.length : Int)) = true := by simp; omega
    clear he
    go_enter Tryz.func15, Tryz.ntmps15
    go_wp2
    go_ret
    exact ⟨ret_bool HF.out.symm, 0, rfl⟩

set_option maxRecDepth 20000 in
theorem inI0_any (A : Option Addr) (n : Nat) (xs : List Int) (c : Nat) (v : Int) (w : World) (B : Nat) (hx : Sl I w B A n xs) (hl : n ≤ 1000000) :
    Calls Tryz.prog 26 #[.slice A n c, .int .i64 v] w fun e w' => e = .returned (.bool (decide (v ∈ xs))) ∧ w = w' := by
  obtain ⟨hlen, hx⟩ := hx
  have HLEN := Lib.hid hlen
  clear hlen
  go_enter Tryz.func26, Tryz.ntmps26
  go_wp2
  go_loop [5] (fun i => ∃ k : Nat, k ≤ n ∧ i = .int .i64 k ∧ Hid (¬ v ∈ xs.take k)) (fun i => n - (intOf i).toNat)
  case atStart => exact ⟨0, Nat.zero_le _, rfl, by show ¬ _; simp⟩
  case round =>
    obtain ⟨k, hk, rfl, Hall⟩ := hrel
    by_cases hlt : k < n
    · obtain ⟨b, off, x, rfl, _, hxk, hck⟩ := hx.at_ (k := k) (by have := HLEN.out; omega)
      have Hx := Lib.hid hxk
      clear hxk
      by_cases h0 : x = v
      · have hb : (x == v) = true := by simp [h0]
        have HM : Hid (v ∈ xs) := by show v ∈ xs; rw [← h0]; exact List.mem_of_getElem? Hx.out
        clear h0
        go_wp2
        go_ret
        exact ⟨ret_bool (decide_eq_true HM.out).symm, rfl⟩
      · have hb : (x == v) = false := by simp [h0]
        have HN : Hid (¬ v ∈ xs.take (k + 1)) := by
          show ¬ _
          rw [take_snoc Hx.out, List.mem_append, List.mem_singleton]
          intro h
          rcases h with h | h
          · exact Hall.out h
          · exact h0 h.symm
        clear h0
        go_wp2
        go_round
        case rel => exact ⟨k + 1, by omega, by go_num, HN⟩
        case measure => simp [intOf]; omega
    · go_wp2
      go_ret
      exact ⟨ret_bool (decide_eq_false (by have h1 := Hall.out; rw [List.take_of_length_le (by have := HLEN.out; omega)] at h1; exact h1)).symm, rfl⟩
theorem inI_any (A : Option Addr) (n : Nat) (xs : List Int) (c : Nat) (v : Int) (w : World) (B : Nat) (hx : Sl I w B A n xs) (hl : n ≤ 1000000) :
    Calls Tryz.prog 26 #[.slice A n c, .int .i64 v] w fun e w' => e = .returned (.bool (xs.contains v)) ∧ w = w' := by
  have h := inI0_any A n xs c v w B hx hl
  rwa [show decide (v ∈ xs) = xs.contains v from by rw [Bool.eq_iff_iff]; simp] at h
def keyS (b : UInt8) : ByteArray := ⟨#[b]⟩ ++ ⟨#[49, 50, 51, 52, 53, 54, 55, 56, 57, 97, 98, 99, 100, 101, 102, 48, 49, 50, 51, 52, 53, 54, 55, 56, 57, 97, 98, 99, 100, 101, 102]⟩
set_option maxRecDepth 20000 in
theorem key_any (b : UInt8) (w : World) : Calls Tryz.prog 56 #[.int .u8 b.toNat] w fun e w' => e = .returned (.string (keyS b)) ∧ Below w.heap.size w w' := by
  have hcv := run_convert_bytes_back (P := Tryz.prog) (w.alloc (.cells #[.int .u8 b.toNat] 5)) 43 9 5 ⟨w.heap.size, 0, none⟩ 1 [b] Tryz.underlying43 Tryz.underlying5 Tryz.underlying9 (by
    intro i hi
    have h0 := cell_of_row (w.alloc (.cells #[.int .u8 b.toNat] 5)) w.heap.size 0 _ _ _ (heap_alloc_new w _)
    obtain rfl : i = 0 := by simp at hi; omega
    rw [Addr.add_mid]
    exact h0)
  simp only [List.length_singleton] at hcv
  go_enter Tryz.func56, Tryz.ntmps56
  go_wp2
  go_ret
  exact ⟨rfl, (Below.refl _ _).alloc (Nat.le_refl _) _⟩
abbrev aSet (A : Option Addr) (n c : Nat) (A' : Option Addr) (n' c' : Nat) (q : Int) (A'' : Option Addr) (n'' c'' : Nat) : Value := .agg #[.slice A n c, .slice A' n' c', .int .i64 q, .slice A'' n'' c'']
def smallB (n n' n'' : Nat) : Bool := decide (n ≤ 14) && (decide (n' ≤ 14) && decide (n'' ≤ 40))
theorem small_any (A : Option Addr) (n c : Nat) (A' : Option Addr) (n' c' : Nat) (q : Int) (A'' : Option Addr) (n'' c'' : Nat) (w : World) : Calls Tryz.prog 5 #[aSet A n c A' n' c' q A'' n'' c''] w (BoolB (smallB n n' n'') w) := by
  have hb : Below w.heap.size w (w.alloc (.cells #[.slice A n c, .slice A' n' c', .int .i64 q, .slice A'' n'' c''] 26)) := (Below.refl _ _).alloc (Nat.le_refl _) _
  have HB := Lib.hid hb
  clear hb
  by_cases h1 : n ≤ 14
  · have e1 : decide ((n : Int) ≤ 14) = true := by simp; omega
    by_cases h2 : n' ≤ 14
    · have e2 : decide ((n' : Int) ≤ 14) = true := by simp; omega
      have HE : Hid (smallB n n' n'' = decide ((n'' : Int) ≤ 14 + 26)) := by show _ = _; unfold smallB; rw [Bool.eq_iff_iff]; simp [h1, h2]; omega
      go_enter Tryz.func5, Tryz.ntmps5
      go_wp2
      go_ret
      exact ⟨ret_bool (by rw [HE.out]; rfl), HB.out⟩
    · have e2 : decide ((n' : Int) ≤ 14) = false := by simp; omega
      have HE : Hid (smallB n n' n'' = false) := by show _ = _; unfold smallB; simp [h2]
      go_enter Tryz.func5, Tryz.ntmps5
      go_wp2
      go_ret
      exact ⟨ret_bool (by rw [HE.out]), HB.out⟩
  · have e1 : decide ((n : Int) ≤ 14) = false := by simp; omega
    have HE : Hid (smallB n n' n'' = false) := by show _ = _; unfold smallB; simp [h1]
    go_enter Tryz.func5, Tryz.ntmps5
    go_wp2
    go_ret
    exact ⟨ret_bool (by rw [HE.out]), HB.out⟩
end Go.Proofs.YtkeicjokekmkpaaGreat
