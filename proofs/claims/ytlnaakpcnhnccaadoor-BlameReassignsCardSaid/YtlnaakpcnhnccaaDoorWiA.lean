/- wire.Reader: number. -/
import Derived.Test.YtlnaakpcnhnccaaDoorWi
import Derived.Laws.Bits64b
namespace Go.Proofs.YtlnaakpcnhnccaaDoor
open Go.RowKit
set_option linter.unusedVariables false
set_option linter.unusedSimpArgs false

theorem and127 (b : Int) (h0 : 0 ≤ b) (h1 : b < 256) : bits .and .u8 b 127 = b % 128 := by
  have hall : ∀ a : Fin 256, bits .and .u8 ((a.val : Nat) : Int) 127 = ((a.val % 128 : Nat) : Int) := by decide +kernel
  have := hall ⟨b.toNat, by omega⟩
  have e : ((b.toNat : Nat) : Int) = b := by omega
  simp only at this
  rw [e] at this
  rw [this]
  omega

theorem orsh (acc j : Nat) (x : Int) (hj : j < 10) (hacc : acc < 128 ^ j) (hx1 : j < 9 ∨ x % 128 ≤ 1) : bits .or .u64 (acc : Int) (IntKind.u64.wrap (x % 128 * 2 ^ (7 * j))) = ((acc + (x % 128).toNat * 128 ^ j : Nat) : Int) := by
  obtain ⟨m, hm⟩ : ∃ m : Nat, x % 128 = m := ⟨(x % 128).toNat, by omega⟩
  have hm128 : m < 128 := by omega
  have hp : (128 : Nat) ^ j = 2 ^ (7 * j) := by rw [Nat.pow_mul]
  have hfit : m * 128 ^ j < 18446744073709551616 := by
    rcases hx1 with h | h
    · have h1 : 128 ^ j ≤ 128 ^ 8 := Nat.pow_le_pow_right (by omega) (by omega)
      have h2 : m * 128 ^ j ≤ 127 * 128 ^ 8 := Nat.mul_le_mul (by omega) h1
      omega
    · have h1 : 128 ^ j ≤ 128 ^ 9 := Nat.pow_le_pow_right (by omega) (by omega)
      have h2 : m * 128 ^ j ≤ 1 * 128 ^ 9 := Nat.mul_le_mul (by omega) h1
      omega
  have hacc2 : acc < 18446744073709551616 := by
    have h1 : 128 ^ j ≤ 128 ^ 9 := Nat.pow_le_pow_right (by omega) (by omega)
    omega
  have e1 : x % 128 * 2 ^ (7 * j) = ((m * 128 ^ j : Nat) : Int) := by rw [hm, hp, Int.natCast_mul, Int.natCast_pow]; rfl
  rw [e1, IntKind.wrap_u64, Int.emod_eq_of_lt (by omega) (by omega), bits_or_u64_nat _ _ hacc2 hfit, hm, Int.toNat_natCast]
  congr 1
  rw [Nat.or_comm, Nat.mul_comm m, hp, ← Nat.two_pow_add_eq_or_of_lt (by rw [← hp]; exact hacc)]
  omega
theorem accn (acc j m : Nat) (hacc : acc < 128 ^ j) (hm : m < 128) : acc + m * 128 ^ j < 128 ^ (j + 1) := by
  have h1 : m * 128 ^ j ≤ 127 * 128 ^ j := Nat.mul_le_mul_right _ (by omega)
  rw [Nat.pow_succ]
  omega

/-- What number reads: the value, the error, the place behind. -/
def numF (bs : List Int) : Nat → Nat → Nat → Nat → Int × Int × Nat
  | 0, _, _, p => (0, 3, p)
  | k + 1, acc, i, p =>
    match bs[p]? with
    | none => (0, 3, p)
    | some b => if 128 ≤ b then numF bs k (acc + (b % 128).toNat * 128 ^ i) (i + 1) (p + 1) else if (0 < i ∧ b = 0) ∨ (i = 9 ∧ 1 < b) then (0, 3, p + 1) else ((acc + b.toNat * 128 ^ i : Nat), 0, p + 1)

/-- A reader's block. -/
def Rd (w : World) (g : Nat) (A : Option Addr) (n c : Nat) (p : Nat) (pv er : Int) : Prop := w.heap[g]? = some (.cells #[.slice A n c, .int .i64 p, .int .i64 pv, .int .i64 er] 85 (0, 0))

set_option maxRecDepth 20000 in
set_option maxHeartbeats 1000000 in
theorem number_any (g : Nat) (A : Option Addr) (n c p : Nat) (pv er : Int) (bs : List Int) (w : World) (hr : Rd w g A n c p pv er) (hx : Sl fB w g A n bs) (hb : ∀ b ∈ bs, 0 ≤ b ∧ b < 256) (hp : p ≤ n) (hn : n ≤ 1000000) :
    Calls Tryd.prog 38 #[.pointer (some ⟨g, 0, none⟩)] w fun e w' => e = .returned (.tuple #[.int .u64 (numF bs 10 0 0 p).1, .int .i64 (numF bs 10 0 0 p).2.1]) ∧ Rd w' g A n c (numF bs 10 0 0 p).2.2 pv er ∧ But (fun k => k = g) w w' := by
  have HR := Lib.hid hr
  have HX := Lib.hid hx
  have HBY := Lib.hid hb
  have HLN : Hid (bs.length = n) := hx.1
  clear hr hx hb
  go_enter Tryd.func38, Tryd.ntmps38
  go_wp2
  go_loopw [2, 6] (fun u i wr => ∃ (j acc : Nat) (av : Int), j ≤ 10 ∧ i = .int .i64 j ∧ u = .int .u64 av ∧ (j < 10 → av = acc ∧ acc < 128 ^ j) ∧ p + j ≤ n ∧ Hid (Rd wr g A n c (p + j) pv er) ∧ Hid (numF bs (10 - j) acc j (p + j) = numF bs 10 0 0 p) ∧ Hid (But (fun k => k = g) w wr)) (fun _ i _ => 10 - (intOf i).toNat)
  case atStart => exact ⟨0, 0, 0, by omega, rfl, rfl, fun _ => ⟨rfl, by simp⟩, by omega, HR, rfl, But.refl _ _⟩
  case round =>
    obtain ⟨j, acc, av, hj, rfl, rfl, hav, hpj, HRj, HE, HBj⟩ := hrel
    by_cases hj10 : j < 10
    · obtain ⟨rfl, hacc⟩ := hav hj10
      have hc0 := cell_of_row wr g 0 _ _ _ HRj.out
      have hc1 := cell_of_row wr g 1 _ _ _ HRj.out
      simp at hc0 hc1
      obtain ⟨k, hk⟩ : ∃ k, 10 - j = k + 1 := ⟨9 - j, by omega⟩
      by_cases hend : p + j = n
      · have hnone : bs[p + j]? = none := List.getElem?_eq_none (by rw [HLN.out]; omega)
        have HF : Hid (numF bs 10 0 0 p = (0, 3, p + j)) := by show _ = _; rw [← HE.out, hk, numF, hnone]
        clear hnone
        have hq1 : (((p + j : Nat) : Int) == (n : Int)) = true := by simp; omega
        go_wp2
        go_quiet (fail)
        go_wp2
        go_ret2
        rw [HF.out]
        exact ⟨rfl, HRj.out, HBj.out.drewN _⟩
      · have hq1 : (((p + j : Nat) : Int) == (n : Int)) = false := by simp; omega
        obtain ⟨bb, off, x0, rfl, hbB, _, _⟩ := SL.at_ HX.out.2 (k := p + j) (by rw [HLN.out]; omega)
        obtain ⟨b2, off2, x, e2, _, hxk, hcx⟩ := SL.at_ (HX.out.2.but HBj.out (by have := lt_of_block HR.out; omega) (fun a ha => by cases ha; show ¬ bb = g; omega)) (k := p + j) (by rw [HLN.out]; omega)
        cases e2
        have hxr := HBY.out x (List.mem_of_getElem? hxk)
        obtain ⟨hx0, hx1⟩ := hxr
        have hand := and127 x hx0 hx1
        have hf1 := frozen_of_row wr g 1 _ _ HRj.out
        have HRn : Hid (∀ q, Rd ((wr.drewN q).setCell ⟨g, 1, none⟩ (.int .i64 ((p : Int) + j + 1))) g (some ⟨bb, off, none⟩) n c (p + j + 1) pv er) := fun q => by
          show _ = _
          rw [show ((p + j + 1 : Nat) : Int) = (p : Int) + j + 1 by omega]
          exact heap_setCell_same (wr.drewN q) _ _ _ _ _ HRj.out
        by_cases hge : 128 ≤ x
        · have HE2 : Hid (numF bs (10 - (j + 1)) (acc + (x % 128).toNat * 128 ^ j) (j + 1) (p + (j + 1)) = numF bs 10 0 0 p) := by
            show _ = _
            rw [← HE.out, hk, numF, hxk]
            simp only []
            rw [if_pos hge, show 10 - (j + 1) = k by omega]
            rfl
          obtain ⟨v, hv⟩ : ∃ v, bits .or .u64 (acc : Int) (IntKind.u64.wrap (x % 128 * 2 ^ (7 * j))) = v := ⟨_, rfl⟩
          have HV : Hid (j + 1 < 10 → v = ((acc + (x % 128).toNat * 128 ^ j : Nat) : Int) ∧ acc + (x % 128).toNat * 128 ^ j < 128 ^ (j + 1)) := fun h => ⟨by rw [← hv, orsh acc j x hj10 hacc (.inl (by omega))], accn acc j _ hacc (by omega)⟩
          clear hxk
          go_wp2
          go_quiet (fail)
          go_wp2
          go_quiet (fail)
          go_wp2
          go_roundw
          case rel => exact ⟨j + 1, acc + (x % 128).toNat * 128 ^ j, v, by omega, by go_num, rfl, HV.out, by omega, HRn.out _, HE2, (HBj.out.drewN _).setCell (.inl rfl) _⟩
          case measure => simp [intOf]; omega
        · have hxm : (x % 128).toNat = x.toNat := by omega
          have HS : Hid (numF bs 10 0 0 p = if (0 < j ∧ x = 0) ∨ (j = 9 ∧ 1 < x) then (0, 3, p + j + 1) else (((acc + x.toNat * 128 ^ j : Nat) : Int), 0, p + j + 1)) := by
            show _ = _
            rw [← HE.out, hk, numF, hxk]
            simp only []
            rw [if_neg hge]
          clear hxk
          by_cases hj0 : (0 : Int) < j
          · by_cases hxz : x = 0
            · obtain ⟨v, hv⟩ : ∃ v, bits .or .u64 (acc : Int) (IntKind.u64.wrap (x % 128 * 2 ^ (7 * j))) = v := ⟨_, rfl⟩
              have hxb : (x == 0) = true := by simp [hxz]
              have HF : Hid (numF bs 10 0 0 p = (0, 3, p + j + 1)) := by show _ = _; rw [HS.out, if_pos (.inl ⟨by omega, hxz⟩)]
              clear hxz
              go_wp2
              go_quiet (fail)
              go_wp2
              go_quiet (fail)
              go_wp2
              go_ret2
              rw [HF.out]
              exact ⟨rfl, HRn.out _, (HBj.out.drewN _).setCell (.inl rfl) _⟩
            · have hxb : (x == 0) = false := by simp [hxz]
              by_cases hj9 : j = 9
              · have hjb : ((j : Int) == 9) = true := by simp; omega
                by_cases hxo : 1 < x
                · obtain ⟨v, hv⟩ : ∃ v, bits .or .u64 (acc : Int) (IntKind.u64.wrap (x % 128 * 2 ^ (7 * j))) = v := ⟨_, rfl⟩
                  have HF : Hid (numF bs 10 0 0 p = (0, 3, p + j + 1)) := by show _ = _; rw [HS.out, if_pos (.inr ⟨hj9, hxo⟩)]
                  clear hj9
                  go_wp2
                  go_quiet (fail)
                  go_wp2
                  go_quiet (fail)
                  go_wp2
                  go_ret2
                  rw [HF.out]
                  exact ⟨rfl, HRn.out _, (HBj.out.drewN _).setCell (.inl rfl) _⟩
                · have _u : True := trivial
                  obtain ⟨v, hv⟩ : ∃ v, bits .or .u64 (acc : Int) (IntKind.u64.wrap (x % 128 * 2 ^ (7 * j))) = v := ⟨_, rfl⟩
                  have HF : Hid (numF bs 10 0 0 p = (v, 0, p + j + 1)) := by show _ = _; rw [HS.out, if_neg (by omega), ← hv, orsh acc j x hj10 hacc (.inr (by omega)), hxm]
                  clear hj9
                  go_wp2
                  go_quiet (fail)
                  go_wp2
                  go_quiet (fail)
                  go_wp2
                  go_ret2
                  rw [HF.out]
                  exact ⟨rfl, HRn.out _, (HBj.out.drewN _).setCell (.inl rfl) _⟩
              · have hjb : ((j : Int) == 9) = false := by simp; omega
                obtain ⟨v, hv⟩ : ∃ v, bits .or .u64 (acc : Int) (IntKind.u64.wrap (x % 128 * 2 ^ (7 * j))) = v := ⟨_, rfl⟩
                have HF : Hid (numF bs 10 0 0 p = (v, 0, p + j + 1)) := by show _ = _; rw [HS.out, if_neg (by omega), ← hv, orsh acc j x hj10 hacc (.inl (by omega)), hxm]
                go_wp2
                go_quiet (fail)
                go_wp2
                go_quiet (fail)
                go_wp2
                go_ret2
                rw [HF.out]
                exact ⟨rfl, HRn.out _, (HBj.out.drewN _).setCell (.inl rfl) _⟩
          · have hjb : ((j : Int) == 9) = false := by simp; omega
            obtain ⟨v, hv⟩ : ∃ v, bits .or .u64 (acc : Int) (IntKind.u64.wrap (x % 128 * 2 ^ (7 * j))) = v := ⟨_, rfl⟩
            have HF : Hid (numF bs 10 0 0 p = (v, 0, p + j + 1)) := by show _ = _; rw [HS.out, if_neg (by omega), ← hv, orsh acc j x hj10 hacc (.inl (by omega)), hxm]
            go_wp2
            go_quiet (fail)
            go_wp2
            go_quiet (fail)
            go_wp2
            go_ret2
            rw [HF.out]
            exact ⟨rfl, HRn.out _, (HBj.out.drewN _).setCell (.inl rfl) _⟩
    · obtain rfl : j = 10 := by omega
      have HF : Hid (numF bs 10 0 0 p = (0, 3, p + 10)) := by show _ = _; rw [← HE.out]; rfl
      go_wp2
      go_ret2
      rw [HF.out]
      exact ⟨rfl, HRj.out, HBj.out⟩
end Go.Proofs.YtlnaakpcnhnccaaDoor
