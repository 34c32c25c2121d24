/- Plain facts on encodings of numbers: what number reads of them. -/
import Derived.Test.YtlnaakpcnhnccaaDoorWiD
namespace Go.Proofs.YtlnaakpcnhnccaaDoor

theorem split128 (n P : Nat) : n % 128 * P + n / 128 * (P * 128) = n * P := by
  have h := Nat.div_add_mod n 128
  have e : n * P = (128 * (n / 128) + n % 128) * P := by rw [h]
  rw [e, Nat.add_mul, Nat.mul_comm 128 (n / 128), Nat.mul_assoc, Nat.mul_comm 128 P]
  omega
theorem numF_enc (bs : List Int) : ∀ (k n i acc p : Nat), n < 128 ^ k → 0 < k → i < 10 → (∀ j, j < (encF k n).length → bs[p + j]? = (encF k n)[j]?) → (i = 0 ∨ 0 < n) → n * 128 ^ i < 18446744073709551616 →
    numF bs (10 - i) acc i p = (((acc + n * 128 ^ i : Nat) : Int), 0, p + (encF k n).length)
  | 0, _, _, _, _, _, h, _, _, _, _ => absurd h (by omega)
  | k + 1, n, i, acc, p, hn, _, hi, hb, h0, hfit => by
    obtain ⟨m, hm⟩ : ∃ m, 10 - i = m + 1 := ⟨9 - i, by omega⟩
    by_cases hlt : n < 128
    · have he : encF (k + 1) n = [(n : Int)] := by rw [encF, if_pos hlt]
      rw [he] at hb ⊢
      have h1 := hb 0 (by simp)
      simp only [Nat.add_zero, List.getElem?_cons_zero] at h1
      rw [hm, numF, h1]
      simp only []
      rw [if_neg (by omega), if_neg, Int.toNat_natCast]
      · rfl
      · intro hbad
        rcases hbad with ⟨h2, h3⟩ | ⟨h2, h3⟩
        · omega
        · subst h2
          have : 2 * 128 ^ 9 ≤ n * 128 ^ 9 := Nat.mul_le_mul_right _ (by omega)
          omega
    · have he : encF (k + 1) n = ((n % 128 + 128 : Nat) : Int) :: encF k (n / 128) := by rw [encF, if_neg hlt]
      rw [he] at hb ⊢
      have h1 := hb 0 (by simp)
      simp only [Nat.add_zero, List.getElem?_cons_zero] at h1
      have hk : 0 < k := by
        rcases k with _ | k
        · simp at hn; omega
        · omega
      have hd : n / 128 < 128 ^ k := by rw [Nat.pow_succ] at hn; omega
      have hs := split128 n (128 ^ i)
      have hi9 : i < 9 := by
        rcases Nat.lt_or_ge i 9 with h | h
        · exact h
        · obtain rfl : i = 9 := by omega
          have : 128 * 128 ^ 9 ≤ n * 128 ^ 9 := Nat.mul_le_mul_right _ (by omega)
          omega
      have ih := numF_enc bs k (n / 128) (i + 1) (acc + n % 128 * 128 ^ i) (p + 1) hd hk (by omega) (fun j hj => by
        have := hb (j + 1) (by simp; omega)
        rw [List.getElem?_cons_succ] at this
        rw [← this]; congr 1; omega) (.inr (by omega)) (by rw [Nat.pow_succ]; omega)
      rw [hm, numF, h1]
      simp only []
      have e1 : (((n % 128 + 128 : Nat) : Int) % 128).toNat = n % 128 := by omega
      rw [if_pos (by omega), e1, show m = 10 - (i + 1) by omega, ih, List.length_cons, Nat.pow_succ]
      simp only [Prod.mk.injEq, true_and]
      refine ⟨?_, by omega⟩
      congr 1
      omega
theorem numF_only (bs : List Int) (hb : ∀ b ∈ bs, 0 ≤ b ∧ b < 256) : ∀ (k acc i p p' : Nat) (v : Int), k + i = 10 → numF bs k acc i p = (v, 0, p') →
    ∃ n : Nat, v = ((acc + n * 128 ^ i : Nat) : Int) ∧ p' = p + (encF k n).length ∧ (∀ j, j < (encF k n).length → bs[p + j]? = (encF k n)[j]?) ∧ n < 128 ^ k ∧ (i = 0 ∨ 0 < n) ∧ n * 128 ^ i < 18446744073709551616
  | 0, acc, i, p, p', v, _, h => by simp [numF] at h
  | k + 1, acc, i, p, p', v, hki, h => by
    rw [numF] at h
    cases hx : bs[p]? with
    | none => rw [hx] at h; simp at h
    | some b =>
      rw [hx] at h
      simp only [] at h
      obtain ⟨h0, h1⟩ := hb b (List.mem_of_getElem? hx)
      by_cases hge : 128 ≤ b
      · rw [if_pos hge] at h
        obtain ⟨n, e1, e2, e3, e4, e5, e6⟩ := numF_only bs hb k _ _ _ p' v (by omega) h
        obtain ⟨m, hm⟩ : ∃ m : Nat, b = m := ⟨b.toNat, by omega⟩
        subst hm
        have em : ((m : Int) % 128).toNat = m % 128 := by omega
        rw [em] at e1
        have hn0 : 0 < n := by omega
        have hq : (n * 128 + m % 128) / 128 = n := by omega
        have hr : (n * 128 + m % 128) % 128 = m % 128 := by omega
        have hs := split128 (n * 128 + m % 128) (128 ^ i)
        rw [hq, hr] at hs
        have he : encF (k + 1) (n * 128 + m % 128) = ((m : Nat) : Int) :: encF k n := by
          rw [encF, if_neg (by omega), hq, hr]
          congr 1
          omega
        rw [Nat.pow_succ] at e1 e6
        have hi9 : i < 9 := by
          rcases Nat.lt_or_ge i 9 with h | h
          · exact h
          · obtain rfl : i = 9 := by omega
            have : 1 * (128 ^ 9 * 128) ≤ n * (128 ^ 9 * 128) := Nat.mul_le_mul_right _ (by omega)
            omega
        have hfit : (n * 128 + m % 128) * 128 ^ i < 18446744073709551616 := by
          rw [← hs]
          have hP : 128 ^ i ≤ 128 ^ 8 := Nat.pow_le_pow_right (by omega) (by omega)
          have h1 : m % 128 * 128 ^ i + 128 ^ i ≤ 128 ^ i * 128 := by
            have : m % 128 * 128 ^ i ≤ 127 * 128 ^ i := Nat.mul_le_mul_right _ (by omega)
            omega
          have h2 : 128 ^ i * 128 ∣ 18446744073709551616 := by
            have e : 18446744073709551616 = 128 ^ i * 128 * 2 ^ (64 - 7 * (i + 1)) := by
              have e7 : (128 : Nat) ^ i * 128 = 2 ^ (7 * (i + 1)) := by rw [← Nat.pow_succ, Nat.pow_mul]
              rw [e7, ← Nat.pow_add, show 7 * (i + 1) + (64 - 7 * (i + 1)) = 64 by omega]
            exact ⟨_, e⟩
          obtain ⟨c, hc⟩ := h2
          have hPp : 0 < 128 ^ i := Nat.pow_pos (by omega)
          rw [hc] at e6
          have h3 : n < c := by
            rcases Nat.lt_or_ge n c with h | h
            · exact h
            · have : c * (128 ^ i * 128) ≤ n * (128 ^ i * 128) := Nat.mul_le_mul_right _ h
              rw [Nat.mul_comm c] at this
              omega
          have h4 : (n + 1) * (128 ^ i * 128) ≤ c * (128 ^ i * 128) := Nat.mul_le_mul_right _ h3
          rw [Nat.mul_comm c, ← hc, Nat.add_mul, Nat.one_mul] at h4
          omega
        refine ⟨n * 128 + m % 128, ?_, ?_, ?_, ?_, .inr (by omega), hfit⟩
        · rw [e1, ← hs]; congr 1; omega
        · rw [he, e2, List.length_cons]; omega
        · rw [he]
          intro j hj
          rcases j with _ | j
          · simpa using hx
          · rw [List.getElem?_cons_succ, ← e3 j (by simpa using hj)]; congr 1; omega
        · rw [Nat.pow_succ]; omega
      · rw [if_neg hge] at h
        split at h
        · simp at h
        · rename_i hok
          simp only [Prod.mk.injEq, true_and] at h
          obtain ⟨e1, e2⟩ := h
          obtain ⟨m, hm⟩ : ∃ m : Nat, b = m := ⟨b.toNat, by omega⟩
          subst hm
          have he : encF (k + 1) m = [(m : Int)] := by rw [encF, if_pos (by omega)]
          refine ⟨m, by rw [← e1, Int.toNat_natCast], by rw [he]; exact e2.symm, ?_, ?_, ?_, ?_⟩
          · rw [he]
            intro j hj
            obtain rfl : j = 0 := by simpa using hj
            simpa using hx
          · have : 128 ^ 1 ≤ 128 ^ (k + 1) := Nat.pow_le_pow_right (by omega) (by omega)
            omega
          · rcases Nat.eq_zero_or_pos i with h | h
            · exact .inl h
            · right
              rcases Nat.eq_zero_or_pos m with h2 | h2
              · exact absurd (.inl ⟨h, by omega⟩) hok
              · exact h2
          · rcases Nat.lt_or_ge i 9 with h | h
            · have h8 : 128 ^ i ≤ 128 ^ 8 := Nat.pow_le_pow_right (by omega) (by omega)
              have : m * 128 ^ i ≤ 127 * 128 ^ 8 := Nat.mul_le_mul (by omega) h8
              omega
            · obtain rfl : i = 9 := by omega
              have hm1 : m ≤ 1 := by
                rcases Nat.lt_or_ge 1 m with h2 | h2
                · exact absurd (.inr ⟨rfl, by omega⟩) hok
                · exact h2
              have : m * 128 ^ 9 ≤ 1 * 128 ^ 9 := Nat.mul_le_mul_right _ hm1
              omega
end Go.Proofs.YtlnaakpcnhnccaaDoor
