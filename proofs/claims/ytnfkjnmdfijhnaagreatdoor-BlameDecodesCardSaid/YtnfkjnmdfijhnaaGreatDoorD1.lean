/- An acquittal's body, read back. -/
import Derived.Test.YtnfkjnmdfijhnaaGreatDoorMc
import Derived.Test.YtnfkjnmdfijhnaaGreatDoorQ2
import Derived.Test.YtnfkjnmdfijhnaaGreatDoorQ5
namespace Go.Proofs.YtnfkjnmdfijhnaaGreatDoor
open Go.RowKit
set_option linter.unusedVariables false
set_option linter.unusedSimpArgs false

theorem rN_rt {bs : List Int} {a m p n : Nat} (h : AtL bs p (enc n)) (ha : a ≤ n) (hm : n ≤ m) (hn : n < 18446744073709551616) : rN a m bs (p, 0) = ((n : Int), p + (enc n).length, 0) := by
  unfold rN
  rw [rU_rt h hn]
  simp only [and_self, if_true]
  rw [if_pos (by omega)]
theorem rY_rt {bs : List Int} {p m : Nat} {xs : List Int} (h : AtL bs p (enc xs.length ++ xs)) (h0 : 0 < xs.length) (hm : xs.length ≤ m) (hm2 : m ≤ 1000000) : rY bs m (p, 0) = (xs, p + (enc xs.length ++ xs).length, 0) := by
  have h1 := lim_rt h.left hm hm2
  have h2 := h.right.fits h0
  have h3 := h.right.cut
  apply rV_go
  unfold blkL
  simp only
  rw [h1]
  simp only [if_true, Int.toNat_natCast]
  unfold tkL
  rw [if_neg (by omega), h3, List.length_append]
  congr 2
  omega
theorem rId_rt {bs : List Int} {p ix : Nat} {s : ByteArray} (h : AtL bs p (sB s ++ enc ix)) (hs : s.size = 32) (hi : ix ≤ 15) : rId bs (p, 0) = ((s, (ix : Int)), p + (sB s ++ enc ix).length, 0) := by
  unfold rId
  rw [rS_rt h.left hs]
  simp only
  rw [rN_rt h.right (Nat.zero_le _) hi (by omega), List.length_append, Nat.add_assoc]
theorem rSums_rt {bs : List Int} {p : Nat} {ys : List ByteArray} (h : AtL bs p (ys.flatMap sB)) (hs : ∀ s ∈ ys, s.size = 32) : ∀ k, k ≤ ys.length → rSums bs k (p, 0) = (ys.take k, p + 32 * k, 0)
  | 0, _ => by simp [rSums]
  | k + 1, hk => by
    have ih := rSums_rt h hs k (by omega)
    have hk1 : ys[k]? = some ys[k] := List.getElem?_eq_getElem (by omega)
    have hy := hs _ (List.mem_of_getElem? hk1)
    have hcut : ys.flatMap sB = (ys.take k).flatMap sB ++ (sB ys[k] ++ (ys.drop (k + 1)).flatMap sB) := by
      rw [← List.append_assoc, ← flat_snoc hk1, ← List.flatMap_append, List.take_append_drop]
    rw [hcut] at h
    have h1 := h.right.left
    rw [flat_len32 (fun s hs' => hs s (List.mem_of_mem_take hs')), List.length_take, Nat.min_eq_left (by omega)] at h1
    rw [rSums, ih]
    simp only
    rw [rS_rt h1 hy, take_snoc hk1, sB_len, hy, Nat.mul_succ, Nat.add_assoc]
theorem encA_read {d q ix : Nat} {s : ByteArray} {xs : List Int} {ys : List ByteArray} (hd : d ≤ 11) (hq1 : 1 ≤ q) (hq : q ≤ 1099511627776) (hs : s.size = 32) (hi : ix ≤ 15) (hx1 : 1 ≤ xs.length) (hx2 : xs.length ≤ 65536) (hy1 : 1 ≤ ys.length) (hy2 : ys.length ≤ 16) (hys : ∀ z ∈ ys, z.size = 32) :
    okA (encA d q s ix xs ys) = true ∧ (dA1 (encA d q s ix xs ys)).1 = d ∧ (dA2 (encA d q s ix xs ys)).1 = q ∧ (dA3 (encA d q s ix xs ys)).1 = (s, (ix : Int)) ∧ (dA4 (encA d q s ix xs ys)).1 = xs ∧ (dA6 (encA d q s ix xs ys)).1 = ys := by
  have hlen : (encA d q s ix xs ys).length = (enc d).length + (enc q).length + (sB s ++ enc ix).length + (enc xs.length ++ xs).length + (enc ys.length).length + 32 * ys.length := by
    unfold encA
    simp only [List.length_append, flat_len32 hys]
    omega
  obtain ⟨bs, hbs⟩ : ∃ bs, bs = encA d q s ix xs ys := ⟨_, rfl⟩
  rw [← hbs] at hlen ⊢
  have h0 : AtL bs 0 (enc d ++ (enc q ++ ((sB s ++ enc ix) ++ ((enc xs.length ++ xs) ++ (enc ys.length ++ ys.flatMap sB))))) := by
    have := AtL.self bs
    rw [hbs] at this ⊢
    unfold encA at this ⊢
    simp only [List.append_assoc] at this ⊢
    exact this
  have e1 : dA1 bs = ((d : Int), 0 + (enc d).length, 0) := rN_rt h0.left (Nat.zero_le _) hd (by omega)
  have e2 : dA2 bs = ((q : Int), 0 + (enc d).length + (enc q).length, 0) := by unfold dA2; rw [e1]; exact rN_rt h0.right.left hq1 hq (by omega)
  have e3 : dA3 bs = ((s, (ix : Int)), 0 + (enc d).length + (enc q).length + (sB s ++ enc ix).length, 0) := by unfold dA3; rw [e2]; exact rId_rt h0.right.right.left hs hi
  have e4 : dA4 bs = (xs, 0 + (enc d).length + (enc q).length + (sB s ++ enc ix).length + (enc xs.length ++ xs).length, 0) := by unfold dA4; rw [e3]; exact rY_rt h0.right.right.right.left (by omega) hx2 (by decide)
  have e5 : dA5 bs = ((ys.length : Int), 0 + (enc d).length + (enc q).length + (sB s ++ enc ix).length + (enc xs.length ++ xs).length + (enc ys.length).length, 0) := by unfold dA5; rw [e4]; exact rC_rt h0.right.right.right.right.left hy2 (by decide)
  have e6 : dA6 bs = (ys, 0 + (enc d).length + (enc q).length + (sB s ++ enc ix).length + (enc xs.length ++ xs).length + (enc ys.length).length + 32 * ys.length, 0) := by
    unfold dA6
    rw [e5]
    simp only [Int.toNat_natCast]
    rw [rSums_rt h0.right.right.right.right.right hys _ (Nat.le_refl _), List.take_of_length_le (Nat.le_refl _)]
  refine ⟨?_, by rw [e1], by rw [e2], by rw [e3], by rw [e4], by rw [e6]⟩
  unfold okA
  rw [e3, e4, e6]
  simp only
  rw [Bool.and_eq_true]
  refine ⟨decide_eq_true ⟨trivial, by omega⟩, ?_⟩
  unfold shL
  exact decide_eq_true ⟨⟨hs, by omega, by omega⟩, ⟨hx1, hx2⟩, ⟨hy1, hy2⟩, sumsB_iff.2 hys⟩
end Go.Proofs.YtnfkjnmdfijhnaaGreatDoor
