/- Decode, the plain law: what was encoded is decoded to the normal form, and only encodings of normal vectors are decoded. -/
import Derived.Test.YtlnaakpcnhnccaaDoorYg
import Derived.Test.YtlnaakpcnhnccaaDoorYe
namespace Go.Proofs.YtlnaakpcnhnccaaDoor
open Go.RowKit
set_option linter.unusedVariables false
set_option linter.unusedSimpArgs false

theorem enc_mid {bs pre mid post : List Int} (h : bs = pre ++ (mid ++ post)) (j : Nat) (hj : j < mid.length) : bs[pre.length + j]? = mid[j]? := by
  rw [h, List.getElem?_append_right (by omega), Nat.add_sub_cancel_left, List.getElem?_append_left hj]
theorem encL_app (xs ys : List Int) : encL (xs ++ ys) = encL xs ++ encL ys := by simp [encL]

theorem decT_enc (bs xs pre : List Int) (hx : ∀ x ∈ xs, 0 ≤ x ∧ x ≤ 1099511627776) (hb : bs = pre ++ encL xs) : ∀ k, k ≤ xs.length →
    decT bs pre.length 0 k = (xs.take k, pre.length + (encL (xs.take k)).length, 0)
  | 0, _ => by simp [decT, encL]
  | k + 1, hk => by
    obtain ⟨x, hxk⟩ := get_ex (xs := xs) (k := k) (by omega)
    obtain ⟨h0, h1⟩ := hx x (List.mem_of_getElem? hxk)
    have hs : xs = xs.take k ++ ([x] ++ xs.drop (k + 1)) := by
      have h := (List.take_append_drop (k + 1) xs).symm
      rw [take_snoc hxk, List.append_assoc] at h
      exact h
    have hm : bs = (pre ++ encL (xs.take k)) ++ (enc x.toNat ++ encL (xs.drop (k + 1))) := by
      rw [hb]
      conv => lhs; rw [hs, encL_app, encL_app]
      simp [encL]
    have hn := numF_enc bs 10 x.toNat 0 0 (pre.length + (encL (xs.take k)).length) (by omega) (by omega) (by omega) (fun j hj => by
      have := enc_mid hm j hj
      rwa [List.length_append] at this) (.inl rfl) (by omega)
    simp only [Nat.sub_zero, Nat.pow_zero, Nat.mul_one, Nat.zero_add] at hn
    have hw : IntKind.i64.wrap ((x.toNat : Nat) : Int) = x := by rw [IntWalk.i64_in _ (by omega)]; omega
    rw [decT, decT_enc bs xs pre hx hb k (by omega)]
    simp only [if_true, hn, hw]
    rw [take_snoc hxk, encL_snoc, List.length_append]
    simp only [enc]
    rw [Nat.add_assoc]

theorem decT_err (bs : List Int) (p0 : Nat) (e0 : Int) (h : e0 ≠ 0) : ∀ k, (decT bs p0 e0 k).2.2 = e0
  | 0 => rfl
  | k + 1 => by
    rw [decT]
    simp only [decT_err bs p0 e0 h k, h, if_false]

theorem decT_only (bs : List Int) (hb : ∀ b ∈ bs, 0 ≤ b ∧ b < 256) (p0 : Nat) : ∀ k, (decT bs p0 0 k).2.2 = 0 → (∀ x ∈ (decT bs p0 0 k).1, 0 ≤ x ∧ x ≤ 1099511627776) →
    (decT bs p0 0 k).2.1 = p0 + (encL (decT bs p0 0 k).1).length ∧ ∀ j, j < (encL (decT bs p0 0 k).1).length → bs[p0 + j]? = (encL (decT bs p0 0 k).1)[j]?
  | 0, _, _ => by simp [decT, encL]
  | k + 1, he, hv => by
    rw [decT] at he hv ⊢
    by_cases h1 : (decT bs p0 0 k).2.2 = 0
    · by_cases h2 : (numF bs 10 0 0 (decT bs p0 0 k).2.1).2.1 = 0
      · simp only [h1, h2, if_true] at hv ⊢
        obtain ⟨ih1, ih2⟩ := decT_only bs hb p0 k h1 (fun x hx => hv x (List.mem_append_left _ hx))
        obtain ⟨n, e1, e2, e3, _, _, e6⟩ := numF_only bs hb 10 0 0 (decT bs p0 0 k).2.1 (numF bs 10 0 0 (decT bs p0 0 k).2.1).2.2 (numF bs 10 0 0 (decT bs p0 0 k).2.1).1 rfl (Prod.ext rfl (Prod.ext h2 rfl))
        simp only [Nat.pow_zero, Nat.mul_one, Nat.zero_add] at e1 e6
        have hz := hv _ (List.mem_append_right _ (List.mem_singleton.2 rfl))
        rw [e1] at hz ⊢
        rw [e2]
        generalize decT bs p0 0 k = s at *
        obtain ⟨v, p, er⟩ := s
        simp only [] at *
        subst ih1
        have hw : IntKind.i64.wrap (n : Int) = n := by
          rcases Nat.lt_or_ge n 9223372036854775808 with h | h
          · exact IntWalk.i64_in _ (by omega)
          · exfalso
            rw [IntKind.wrap_i64] at hz
            omega
        rw [hw, encL_snoc, List.length_append, Int.toNat_natCast]
        refine ⟨by simp only [enc]; omega, fun j hj => ?_⟩
        rcases Nat.lt_or_ge j (encL v).length with h | h
        · rw [List.getElem?_append_left h]; exact ih2 j h
        · rw [List.getElem?_append_right h]
          have := e3 (j - (encL v).length) (by simp only [enc] at hj; omega)
          show _ = (encF 10 n)[j - (encL v).length]?
          rw [← this]
          congr 1
          omega
      · simp only [h1, h2, if_true, if_false] at he
    · exact absurd (by simp only [h1, if_false] at he) h1

theorem valid_in {xs : List Int} (h : validB xs = true) : ∀ x ∈ xs, 0 ≤ x ∧ x ≤ 1099511627776 := fun x hx => by
  obtain ⟨k, hk, rfl⟩ := List.getElem_of_mem hx
  have := valid_getD h k
  rwa [getD_of (List.getElem?_eq_getElem hk)] at this

theorem decV_enc (xs : List Int) (hv : validB xs = true) : decV (encV xs) = some (nrm xs) := by
  have hl : (nrm xs).length ≤ 12 := Nat.le_trans (nrm_len xs) (valid_len hv)
  have hin : ∀ x ∈ nrm xs, 0 ≤ x ∧ x ≤ 1099511627776 := fun x hx => valid_in hv x (List.mem_of_mem_take hx)
  have hn := numF_enc (encV xs) 10 (nrm xs).length 0 0 0 (by omega) (by omega) (by omega) (fun j hj => by
    have := enc_mid (bs := encV xs) (pre := []) rfl j hj
    simpa [enc] using this) (.inl rfl) (by omega)
  simp only [Nat.sub_zero, Nat.pow_zero, Nat.mul_one, Nat.zero_add] at hn
  have hN : decN (encV xs) = (((nrm xs).length : Int), 0, (enc (nrm xs).length).length) := by
    unfold decN
    rw [hn, limF]
    simp only [if_true]
    rw [if_neg (by omega)]
    rfl
  have hE : decE (encV xs) = (nrm xs, (enc (nrm xs).length).length + (encL (nrm xs)).length, 0) := by
    rw [decE, hN]
    simp only [if_true, Int.toNat_natCast]
    rw [decT_enc (encV xs) (nrm xs) (enc (nrm xs).length) hin rfl _ (Nat.le_refl _), List.take_length]
  have hvn : validB (nrm xs) = true := valid_of_getD hl (fun j => by rw [nrm_getD]; exact valid_getD hv j)
  rw [decV, hE]
  simp only []
  rw [if_pos ⟨trivial, by rw [encV, List.length_append]; omega, hvn, nrm_nrm xs⟩]

theorem decV_only (bs : List Int) (hb : ∀ b ∈ bs, 0 ≤ b ∧ b < 256) (v : List Int) (h : decV bs = some v) : validB v = true ∧ nrm v = v ∧ encV v = bs := by
  unfold decV at h
  split at h
  · rename_i hc
    obtain ⟨h1, h2, h3, h4⟩ := hc
    injection h with h
    subst h
    refine ⟨h3, h4, ?_⟩
    have hN0 : (decN bs).2.1 = 0 := by
      rcases Int.decEq (decN bs).2.1 0 with h | h
      · have := decT_err bs (if (decN bs).2.1 = 0 then (decN bs).2.2 else 0) (decN bs).2.1 h (if (decN bs).2.1 = 0 then (decN bs).1.toNat else 0)
        rw [← decE, h1] at this
        exact absurd this.symm h
      · exact h
    have hE : decE bs = decT bs (decN bs).2.2 0 (decN bs).1.toNat := by rw [decE, hN0]; simp only [if_true]
    have hlen : (decE bs).1.length = (decN bs).1.toNat := by rw [hE]; exact decT_len _ _ _ _
    have ho := decT_only bs hb (decN bs).2.2 (decN bs).1.toNat (by rw [← hE]; exact h1) (by rw [← hE]; exact valid_in h3)
    rw [← hE] at ho
    obtain ⟨o1, o2⟩ := ho
    have hcn : ∃ N, numF bs 10 0 0 0 = N := ⟨_, rfl⟩
    obtain ⟨⟨n, e, p⟩, hN⟩ := hcn
    have he0 : e = 0 ∧ decN bs = (n, 0, p) := by
      have := hN0
      rw [decN, hN, limF] at this ⊢
      by_cases he : e = 0
      · simp only [he, if_true] at this ⊢
        split at this
        · simp at this
        · rename_i hle
          rw [if_neg hle]
          exact ⟨trivial, rfl⟩
      · simp only [he, if_false] at this
    obtain ⟨rfl, hD⟩ := he0
    obtain ⟨m, e1, e2, e3, _⟩ := numF_only bs hb 10 0 0 0 _ _ rfl hN
    simp only [Nat.pow_zero, Nat.mul_one, Nat.zero_add] at e1 e2 e3
    subst e1
    subst e2
    rw [hD] at hlen o1 o2
    simp only [Int.toNat_natCast] at hlen o1 o2
    rw [encV, h4, hlen]
    refine List.ext_getElem? fun j => ?_
    have hle : (encF 10 m).length + (encL (decE bs).1).length = bs.length := by
      have h5 : (encF 10 m).length + (encL (decE bs).1).length ≤ bs.length := by
        rcases Nat.eq_zero_or_pos ((encL (decE bs).1).length) with h | h
        · rcases Nat.eq_zero_or_pos ((encF 10 m).length) with h' | h'
          · omega
          · have := (List.getElem?_eq_some_iff.1 ((e3 ((encF 10 m).length - 1) (by omega)).trans (List.getElem?_eq_getElem (by omega)))).1
            omega
        · have := (List.getElem?_eq_some_iff.1 ((o2 ((encL (decE bs).1).length - 1) (by omega)).trans (List.getElem?_eq_getElem (by omega)))).1
          omega
      omega
    rcases Nat.lt_or_ge j (encF 10 m).length with h | h
    · rw [enc, List.getElem?_append_left h]; exact (e3 j h).symm
    · rw [enc, List.getElem?_append_right h]
      rcases Nat.lt_or_ge j bs.length with h' | h'
      · have := o2 (j - (encF 10 m).length) (by omega)
        rw [← this]
        congr 1
        omega
      · rw [List.getElem?_eq_none (by omega), List.getElem?_eq_none (by omega)]
  · simp at h
end Go.Proofs.YtlnaakpcnhnccaaDoor
