/- The reasons that the walk gives are the reasons: plain. -/
import Derived.Test.YtfffhdclbdmfnaaRsB
namespace Go.Proofs.Ytfffhdclbdmfnaa
open Ret
set_option linter.unusedVariables false
set_option linter.unusedSimpArgs false

theorem keepL_sublist (k : Nat) : ∀ (ds : List Int) (left : Nat) (last : Int), (keepL k ds left last).Sublist ds
  | [], _, _ => by simp [keepL]
  | d :: ds, left, last => by
    unfold keepL
    split
    · exact (keepL_sublist k ds left last).cons d
    · cases left with
      | zero => exact List.nil_sublist _
      | succ n => exact (keepL_sublist k ds n _).cons_cons d
theorem count_nodup {l : List Int} (h : l.Nodup) (x : Int) : (l.count x : Int) = if x ∈ l then 1 else 0 := by
  by_cases hx : x ∈ l
  · rw [if_pos hx]
    have h1 := List.count_pos_iff.2 hx
    have h2 := List.nodup_iff_count.1 h x
    omega
  · rw [if_neg hx, List.count_eq_zero_of_not_mem hx]
    rfl
theorem asc_nodup {l : List Int} (h : Asc l) : l.Nodup := h.imp (fun h => by omega)
theorem kd_count (zs : List Day) (a b c d k : Nat) (hz : Asc (dys zs)) (x : Int) (hx : x ∈ dys zs) : ((kd zs a b c d k).count x : Int) = if By k (nOf a b c d k).toNat (dys zs) x then 1 else 0 := by
  have hok : ∀ y ∈ dys zs, okD y := fun y hy => by obtain ⟨z, _, rfl⟩ := List.mem_map.1 hy; exact z.2
  have hnd : (kd zs a b c d k).Nodup := (keepL_sublist k (dys zs).reverse (nOf a b c d k).toNat (-1)).nodup (by
    have h := asc_nodup hz
    unfold List.Nodup at h ⊢
    rw [List.pairwise_reverse]
    exact h.imp (fun h e => h e.symm))
  rw [count_nodup hnd]
  unfold kd
  have := keepL_By k (nOf a b c d k).toNat (dys zs) hz hok x
  by_cases hb : By k (nOf a b c d k).toNat (dys zs) x
  · rw [if_pos hb, if_pos (this.2 ⟨hx, hb⟩)]
  · rw [if_neg hb, if_neg (fun h => hb (this.1 h).2)]
/-- Of a day among them the map holds the reasons. -/
theorem whyF_rsn (zs hs : List Day) (a b c d : Nat) (hz : Asc (dys zs)) (x : Int) (hx : x ∈ dys zs) : whyF zs hs a b c d x = rsn ⟨a, b, c, d⟩ (dys zs) (dys hs) x := by
  have h0 := kd_count zs a b c d 0 hz x hx
  have h1 := kd_count zs a b c d 1 hz x hx
  have h2 := kd_count zs a b c d 2 hz x hx
  have h3 := kd_count zs a b c d 3 hz x hx
  have h4 : (((dys zs).filter fun y => decide (y ∈ dys hs)).count x : Int) = if x ∈ dys hs then 1 else 0 := by
    rw [count_nodup ((asc_nodup hz).filter _)]
    by_cases hh : x ∈ dys hs
    · rw [if_pos hh, if_pos (List.mem_filter.2 ⟨hx, decide_eq_true hh⟩)]
    · rw [if_neg hh, if_neg (fun h => hh (by simpa using (List.mem_filter.1 h).2))]
  have e0 : (nOf (a : Int) b c d 0).toNat = a := rfl
  have e1 : (nOf (a : Int) b c d 1).toNat = b := rfl
  have e2 : (nOf (a : Int) b c d 2).toNat = c := rfl
  have e3 : (nOf (a : Int) b c d 3).toNat = d := rfl
  rw [e0] at h0
  rw [e1] at h1
  rw [e2] at h2
  rw [e3] at h3
  simp only [whyF, addR, Fk, h0, h1, h2, h3, h4]
  unfold rsn
  simp only [rOf]
  by_cases b0 : By 0 a (dys zs) x <;> by_cases b1 : By 1 b (dys zs) x <;> by_cases b2 : By 2 c (dys zs) x <;> by_cases b3 : By 3 d (dys zs) x <;> by_cases b4 : x ∈ dys hs <;> simp only [b0, b1, b2, b3, b4, if_true, if_false] <;> omega
theorem to_days (xs : List Int) (h : ∀ x ∈ xs, okD x) : ∃ zs : List Day, dys zs = xs := ⟨xs.attach.map fun x => ⟨x.1, h x.1 x.2⟩, by simp [dys]⟩
theorem rules_nat {a b c d : Int} (h : rulesB a b c d = true) : ∃ n : Nums, a = n.a ∧ b = n.b ∧ c = n.c ∧ d = n.d ∧ n.a ≤ 1000 ∧ n.b ≤ 1000 ∧ n.c ≤ 1000 ∧ n.d ≤ 1000 := by
  unfold rulesB at h
  simp only [Bool.and_eq_true] at h
  obtain ⟨h1, h2, h3, h4⟩ := h
  have := inN_of h1
  have := inN_of h2
  have := inN_of h3
  have := inN_of h4
  exact ⟨⟨a.toNat, b.toNat, c.toNat, d.toNat⟩, by simp; omega, by simp; omega, by simp; omega, by simp; omega, by simp; omega, by simp; omega, by simp; omega, by simp; omega⟩
theorem srt_len (xs : List Int) : (srt xs).length ≤ xs.length := nodup_len_le _ _ (asc_nodup (srt_asc xs)) (fun q hq => (srt_mem q xs).1 hq)
end Go.Proofs.Ytfffhdclbdmfnaa
