/- The encoding of a circle, plainly. -/
import Derived.Test.YtkeicjokekmkpaaBu
import Derived.Test.YtkeicjokekmkpaaEm
namespace Go.Proofs.Ytkeicjokekmkpaa
open Go.RowKit Mb
set_option linter.unusedVariables false
set_option linter.unusedSimpArgs false

theorem vOk_of {v : Vlt} {k N : Int} (h : vltB v k N = true) (hp : possB N v = true) (hN : N ≤ 1000) : vOk v := by
  unfold possB at hp
  simp only [Bool.and_eq_true, decide_eq_true_eq] at hp
  unfold vltB restB cutB rulesB inN at h
  simp only [Bool.and_eq_true, decide_eq_true_eq] at h
  obtain ⟨_, _, h3, hw, h4, h5, h6, h7, h8, h9, ⟨c1, c2, c3, c4, c5, c6, c7⟩, _, ⟨r1, r2⟩, ⟨r3, r4⟩, ⟨r5, r6⟩, r7, r8⟩ := h
  refine ⟨h3, fun x hx => ?_, fun x hx => ?_, h9, fun x hx => ?_, fun x hx => ?_⟩
  · obtain ⟨i, hi, rfl⟩ := List.mem_iff_getElem.1 hx
    have := wsB_get hw hi
    exact nOk_of this.1 (by omega)
  · simp only [List.mem_cons, List.not_mem_nil, or_false] at hx
    unfold nOk
    rcases hx with rfl | rfl | rfl <;> omega
  · simp only [List.mem_cons, List.not_mem_nil, or_false] at hx
    unfold nOk
    rcases hx with rfl | rfl | rfl | rfl <;> omega
  · simp only [List.mem_cons, List.not_mem_nil, or_false] at hx
    unfold nOk
    rcases hx with rfl | rfl | rfl | rfl <;> omega
theorem xOk_of {S : Cst} {x : Chn} (hI : Inv S.s) (h0 : playE S.s x = 0) : xOk (chg x) := by
  have h12 := hI.n12
  have hv12 := hI.v12
  have hb : ∀ d, hasB S.s d = true → nOk d := fun d hd => by
    unfold hasB at hd
    simp only [Bool.and_eq_true, decide_eq_true_eq] at hd
    unfold nOk; omega
  unfold playE at h0
  unfold chg
  split at h0
  · next h1 =>
    simp only [h1, if_true]
    unfold admE at h0
    split at h0
    · cases h0
    · split at h0
      · cases h0
      · next h2 => exact mOk_of (by simpa using h2)
  · next h1 =>
    simp only [h1, if_false]
    split at h0
    · next h2 =>
      simp only [h2, if_true]
      unfold votE at h0
      split at h0
      · cases h0
      · next h3 =>
        rw [not_or] at h3
        exact ⟨hb _ (by simpa using h3.1), hb _ (by simpa using h3.2)⟩
    · next h2 =>
      simp only [h2, if_false]
      unfold repE at h0
      cases hv : vltOf S.s x.v with
      | none => rw [hv] at h0; cases h0
      | some z =>
        rw [hv] at h0
        simp only at h0
        split at h0
        · cases h0
        · next h3 =>
          rw [not_or] at h3
          unfold vltOf at hv
          split at hv
          · next hv0 =>
            have hvl := (List.getElem?_eq_some_iff.1 hv).1
            have hz := List.mem_of_getElem? hv
            have ha : x.a ∈ z.ws := by simpa using h3.1
            have har := hI.wsr z hz x.a ha
            refine ⟨⟨hv0, by omega⟩, ⟨har.1, by omega⟩, hb _ (by simpa using h3.2)⟩
          · cases hv
theorem playC_einv {S : Cst} {x : Chn} (h : EInv S) (hI : Inv S.s) : EInv (playC S x) := by
  refine ⟨h.fm, h.ms, h.fv, h.vs, ?_, ?_⟩
  · have : (playC S x).s.q = S.s.q := playS_q
    rw [this]
    exact h.q
  · intro y hy
    have hy : y ∈ S.chs ++ chgs S.s x := hy
    rcases List.mem_append.1 hy with hy | hy
    · exact h.ch y hy
    · unfold chgs at hy
      split at hy
      · next h0 =>
        obtain rfl : y = chg x := by simpa using hy
        exact xOk_of hI h0
      · simp at hy
theorem playsC_einv : ∀ {S : Cst} (h : EInv S) (hI : Inv S.s) (xs : List Chn), EInv (playsC S xs)
  | _, h, _, [] => h
  | S, h, hI, x :: l => playsC_einv (S := playC S x) (playC_einv h hI) (playS_inv hI) l
/-- The circle that New makes. -/
abbrev S00 (ms : List Mem) (vs : List Vlt) (q : Int) : Cst := ⟨⟨ms, vs, q, []⟩, ms, vs, []⟩
theorem newE_einv {ms : List Mem} {vs : List Vlt} {q : Int} (h : newE ms vs q = 0) : EInv (S00 ms vs q) := by
  obtain ⟨h1, h2, h3, h4⟩ := newE_ok h
  unfold headB at h1
  simp only [Bool.and_eq_true, decide_eq_true_eq] at h1
  refine ⟨h1.2.1, fun m hm => ?_, h1.2.2.1, fun v hv => ?_, nOk_of (by have := h1.2.2.2.1; show 0 ≤ q; omega) (by have := h1.2.2.2.2; show q ≤ 100000; omega), fun x hx => by cases hx⟩
  · obtain ⟨i, hi⟩ := List.mem_iff_getElem?.1 hm
    unfold memsB at h2
    have h5 := List.all_eq_true.1 h2 i (List.mem_range.2 (List.getElem?_eq_some_iff.1 hi).1)
    unfold okM at h5
    rw [hi] at h5
    simp only [Bool.and_eq_true] at h5
    exact mOk_of h5.1
  · have hv : v ∈ vs := hv
    obtain ⟨i, hi⟩ := List.mem_iff_getElem?.1 hv
    unfold vltsB at h3
    have h5 := List.all_eq_true.1 h3 i (List.mem_range.2 (List.getElem?_eq_some_iff.1 hi).1)
    unfold okVt at h5
    rw [hi] at h5
    exact vOk_of h5 (List.all_eq_true.1 h4 v hv) (by omega)
theorem playC_no {S : Cst} {x : Chn} (h : playE S.s x ≠ 0) : playC S x = S := by
  unfold playC playS chgs
  rw [if_neg h, if_neg h, List.append_nil]
theorem playC_yes {S : Cst} {x : Chn} (h : playE S.s x = 0) : (playC S x).chs = S.chs ++ [chg x] := by
  unfold playC chgs
  rw [if_pos h]
theorem enc_small {n : Nat} (h : n < 128) : enc n = [(n : Int)] := by unfold enc encF; rw [if_pos h]
/-- A change without an error changes the encoding. -/
theorem encC_turn {S : Cst} {x : Chn} (h : playE S.s x = 0) (hc : S.chs.length < 127) : encC (playC S x) ≠ encC S := by
  intro he
  have hq : (playC S x).s.q = S.s.q := playS_q
  unfold encC at he
  rw [hq, playC_yes h] at he
  have hf : (playC S x).fm = S.fm := rfl
  have hv : (playC S x).fv = S.fv := rfl
  rw [hf, hv] at he
  have h1 := List.append_cancel_left (List.append_cancel_left (List.append_cancel_left (List.append_cancel_left (List.append_cancel_left he))))
  rw [List.length_append, List.length_singleton, enc_small (by omega), enc_small (by omega)] at h1
  simp only [List.cons_append, List.nil_append, List.cons.injEq] at h1
  omega
end Go.Proofs.Ytkeicjokekmkpaa
