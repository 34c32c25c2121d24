/- The reference: integer, End, sums. -/
import Derived.Test.YtnfkjnmdfijhnaaGreatDoorT4
namespace Go.Proofs.YtnfkjnmdfijhnaaGreatDoor
open Go.RowKit Go.Lib
set_option linter.unusedVariables false
set_option linter.unusedSimpArgs false

/-- What integer reads: -1 for a great number. -/
def rI2 (bs : List Int) (s : RS) : Int × RS := (if (1099511627776 : Int) < (rU bs s).1 then -1 else (rU bs s).1, (rU bs s).2)
theorem rI2_le {bs : List Int} {s : RS} {n : Nat} (hl : bs.length = n) (h : s.1 ≤ n) : (rI2 bs s).2.1 ≤ n := rU_le hl h
set_option maxRecDepth 100000 in
theorem fld1 (k u n : Int) (s : ByteArray) (m : Int) (w : World) : (Instr.field 90 (.agg (rv k u n s m)) 1).run Tryz.prog w = .ok (.int .u64 u) w := by kernel_rfl
set_option maxRecDepth 100000 in
theorem fld2 (k u n : Int) (s : ByteArray) (m : Int) (w : World) : (Instr.field 90 (.agg (rv k u n s m)) 2).run Tryz.prog w = .ok (.int .i64 n) w := by kernel_rfl
set_option maxRecDepth 100000 in
theorem fld4 (k u n : Int) (s : ByteArray) (m : Int) (w : World) : (Instr.field 90 (.agg (rv k u n s m)) 4).run Tryz.prog w = .ok (.string s) w := by kernel_rfl
set_option maxRecDepth 100000 in
set_option maxHeartbeats 4000000 in
theorem rint_any (g : Nat) (A : Option Addr) (n c : Nat) (bs : List Int) (s : RS) (w : World) (hr : RfS g A n c bs s w) (hk : RK bs n c) (hp : s.1 ≤ n) :
    Calls Tryz.prog 53 #[.pointer (some ⟨g, 0, none⟩)] w (RfPost g A n c bs (.int .i64 (rI2 bs s).1) (rI2 bs s).2 w) := by
  have HC := Lib.hid (rfu_any g A n c bs s w hr hk hp)
  have hnn := rU_nonneg bs s
  unfold rI2
  obtain ⟨z, s', hz⟩ : ∃ z s', rU bs s = (z, s') := ⟨_, _, rfl⟩
  rw [hz] at HC hnn ⊢
  dsimp only at hnn ⊢
  have hfd := fun w => fld1 1 z 0 ⟨#[]⟩ 0 w
  clear hr hz hk hp
  by_cases hb : (1099511627776 : Int) < z
  · rw [if_pos hb]
    go_enter Tryz.func53, Tryz.ntmps53
    go_wp2_with (go_at_call 52; (with_reducible refine HC.out.mono ?_); rintro e w1 ⟨rfl, r1, b1⟩; have R1 := Lib.hid r1; have B1 := Lib.hid b1; clear r1 b1)
    go_ret
    exact ⟨rfl, R1.out, B1.out⟩
  · rw [if_neg hb]
    go_enter Tryz.func53, Tryz.ntmps53
    go_wp2_with (go_at_call 52; (with_reducible refine HC.out.mono ?_); rintro e w1 ⟨rfl, r1, b1⟩; have R1 := Lib.hid r1; have B1 := Lib.hid b1; clear r1 b1)
    go_ret
    exact ⟨by first | rfl | exact ret_int (show wrap64 z = z by unfold wrap64; omega), R1.out, B1.out⟩
/-- The error at the end. -/
def rEnd (bs : List Int) (s : RS) : Int := if s.2 = 0 ∧ s.1 < bs.length then 3 else s.2
theorem rEnd_iff {bs : List Int} {s : RS} : rEnd bs s = 0 ↔ (s.2 = 0 ∧ ¬ s.1 < bs.length) := by
  unfold rEnd
  split
  · next h => exact ⟨fun h2 => absurd h2 (by decide), fun h2 => absurd h.2 h2.2⟩
  · next h => exact ⟨fun h2 => ⟨h2, fun h3 => h ⟨h2, h3⟩⟩, fun h2 => h2.1⟩
set_option maxRecDepth 100000 in
set_option maxHeartbeats 4000000 in
theorem rend01_any (g : Nat) (A : Option Addr) (n c : Nat) (bs : List Int) (s : RS) (w : World) (hr : RfS g A n c bs s w) (hn : n ≤ 1000000) (hp : s.1 ≤ n) :
    Calls Tryz.prog 54 #[.pointer (some ⟨g, 0, none⟩)] w fun e w' => e = .returned (.tuple #[.int .i64 s.1, .int .i64 (rEnd bs s)]) ∧ Below w.heap.size w w' := by
  have hl : bs.length = n := hr.2.1
  obtain ⟨⟨pv, hg⟩, _⟩ := hr
  have c0 : w.cell? ⟨g, 0, none⟩ = some (.slice A n c) := by rw [cell_of_row w _ _ _ _ _ hg]; rfl
  have c1 : w.cell? ⟨g, 1, none⟩ = some (.int .i64 s.1) := by rw [cell_of_row w _ _ _ _ _ hg]; rfl
  have c3 : w.cell? ⟨g, 3, none⟩ = some (.int .i64 s.2) := by rw [cell_of_row w _ _ _ _ _ hg]; rfl
  clear hg
  unfold rEnd
  rw [hl]
  clear hl
  obtain ⟨p, er⟩ := s
  dsimp only at hp c1 c3 ⊢
  by_cases he : er = 0
  · subst he
    by_cases hlt : p < n
    · rw [if_pos ⟨rfl, hlt⟩]
      have hlI : (p : Int) < (n : Int) := by omega
      go_enter Tryz.func54, Tryz.ntmps54
      go_wp2
      go_quiet (fail)
      go_wp2
      go_ret2
      exact ⟨rfl, below_drewN (Below.refl _ _) _⟩
    · rw [if_neg (fun h => hlt h.2)]
      have hlI : ¬ (p : Int) < (n : Int) := by omega
      go_enter Tryz.func54, Tryz.ntmps54
      go_wp2
      go_quiet (fail)
      go_wp2
      go_quiet (fail)
      go_wp2
      go_ret2
      exact ⟨rfl, below_drewN (below_drewN (Below.refl _ _) _) _⟩
  · rw [if_neg (fun h => he h.1)]
    have heb : (er == 0) = false := by simp [he]
    go_enter Tryz.func54, Tryz.ntmps54
    go_wp2
    go_quiet (fail)
    go_wp2
    go_quiet (fail)
    go_wp2
    go_ret2
    exact ⟨rfl, below_drewN (below_drewN (Below.refl _ _) _) _⟩
theorem rS_er {bs : List Int} {s : RS} (h : s.2 ≠ 0) : rS bs s = (baNo, s) := rV_er h
theorem rSums_er {bs : List Int} {s1 : RS} {j : Nat} (h : (rSums bs j s1).2.2 ≠ 0) : ∀ i, (rSums bs (j + i) s1).2 = (rSums bs j s1).2
  | 0 => rfl
  | i + 1 => by
    have ih := rSums_er h i
    show (rS bs (rSums bs (j + i) s1).2).2 = _
    rw [ih, rS_er h]
/-- What sums leaves. -/
def RfLPost (g : Nat) (A : Option Addr) (n c : Nat) (bs : List Int) (L : List ByteArray × RS) (w : World) (e : Ending) (w' : World) : Prop :=
  ∃ A5 k5 c5 ys, e = .returned (.slice A5 k5 c5) ∧ Own fT 9 w' w.heap.size (.slice A5 k5 c5) ys ∧ (L.2.2 = 0 → ys = L.1) ∧ RfS g A n c bs L.2 w' ∧ But (fun k => k = g) w w'
theorem RfS.up {g : Nat} {A : Option Addr} {n c : Nat} {bs : List Int} {s : RS} {w w' : World} {B : Nat} (h : RfS g A n c bs s w) (hb : Below B w w') (hg : g < B) : RfS g A n c bs s w' := by
  obtain ⟨⟨pv, h1⟩, h2⟩ := h
  exact ⟨⟨pv, (hb.block _ hg).trans h1⟩, h2.up hb (Nat.le_of_lt hg)⟩
set_option maxRecDepth 100000 in
set_option maxHeartbeats 8000000 in
theorem rsl_any (g : Nat) (A : Option Addr) (n c : Nat) (bs : List Int) (s : RS) (m : Nat) (hm : m ≤ 1000) (w : World) (hr : RfS g A n c bs s w) (hk : RK bs n c) (hp : s.1 ≤ n) :
    Calls Tryz.prog 56 #[.pointer (some ⟨g, 0, none⟩), .int .i64 m] w (RfLPost g A n c bs (rL bs m s) w) := by
  have hl : bs.length = n := hr.2.1
  have hgl := hr.lt
  have HC := Lib.hid (fun W (h : RfS g A n c bs s W) => rfc_any g A n c bs s W h hk hp m (by omega))
  have hp1 := rC_le (m := m) hl hp
  have hk5 := rC_range (bs := bs) (m := m) (s := s)
  unfold rL
  obtain ⟨z, s1, hz⟩ : ∃ z s', rC bs m s = (z, s') := ⟨_, _, rfl⟩
  rw [hz] at HC hp1 hk5 ⊢
  obtain ⟨k, rfl⟩ : ∃ k : Nat, z = k := ⟨z.toNat, by have := hk5.1; dsimp only at this; omega⟩
  have hkm : k ≤ 1000 := by have h := hk5.2; dsimp only at h; omega
  dsimp only
  rw [Int.toNat_natCast]
  have HS : Hid (∀ j W, RfS g A n c bs (rSums bs j s1).2 W → Calls Tryz.prog 52 #[.pointer (some ⟨g, 0, none⟩), .int .i64 6, .int .i64 0] W (RfPost g A n c bs (.agg (rv 6 0 0 (rS bs (rSums bs j s1).2).1 0)) (rS bs (rSums bs j s1).2).2 W)) := fun j W h => rfs_any g A n c bs _ W h hk (rSums_le hl j hp1)
  have HGL := Lib.hid hgl
  obtain ⟨W1, hW1⟩ : ∃ W1 : World, W1 = w.alloc (.cells #[] 9) := ⟨_, rfl⟩
  have hb1 : Below w.heap.size w W1 := by rw [hW1]; exact (Below.refl _ _).alloc (Nat.le_refl _) _
  have HR1 := Lib.hid (hr.on hb1)
  have HB1 := Lib.hid hb1
  have HO1 : Hid (Own fT 9 W1 w.heap.size (.slice (some ⟨w.heap.size, 0, none⟩) 0 0) []) := by show Own _ _ _ _ _ _; rw [hW1]; exact World.ownsRow_lit w #[] 0 (Nat.le_refl _) (by unfold maxLen; omega) rfl
  have HWE := Lib.hid hW1
  obtain ⟨i0, hi, hz0, hz1, hz2⟩ := info_parts Tryz.infoS
  have HI := Lib.hid hi
  have HZ0 := Lib.hid hz0
  have HZ1 := Lib.hid hz1
  have HZ2 := Lib.hid hz2
  have hfd := fun w => fld2 7 0 (k : Int) ⟨#[]⟩ (m : Int) w
  clear hr hk hz hp hl hp1 hk5 hi hz0 hz1 hz2 hgl hm hb1 hW1
  go_enter Tryz.func56, Tryz.ntmps56
  go_upto_region 2 with fail
  rw [← HWE.out]
  go_wp2_with (go_at_call 52; (with_reducible refine (HC.out _ HR1.out).mono ?_); rintro e w2 ⟨rfl, r2, b2⟩; have R2 := Lib.hid r2; have hbb : But (fun k => k = g) w w2 := (But.of_below (p := fun k => k = g) HB1.out).trans b2 (fun i hi => .inl hi); have HB2 := Lib.hid hbb; have HO2 : Hid (Own fT 9 w2 w.heap.size (.slice (some ⟨w.heap.size, 0, none⟩) 0 0) []) := HO1.out.butG b2 (fun k hk e => by have h1 := (World.ownsRow.lt HO1.out k hk).1; have h3 := HGL.out; omega); clear r2 b2 hbb)
  go_loopw [5, 7] (fun u i wr => ∃ (j : Nat), j ≤ k ∧ i = .int .i64 j ∧ Hid (Own fT 9 wr w.heap.size u (rSums bs j s1).1) ∧ Hid (RfS g A n c bs (rSums bs j s1).2 wr) ∧ Hid (But (fun k => k = g) w wr)) (fun _ i _ => k - (intOf i).toNat)
  case atStart => exact ⟨0, by omega, rfl, HO2, R2, HB2⟩
  case round =>
    obtain ⟨j, hj, rfl, HO, R, HB⟩ := hrel
    obtain ⟨⟨pv, hg⟩, _⟩ := R.out
    have c3 : wr.cell? ⟨g, 3, none⟩ = some (.int .i64 (rSums bs j s1).2.2) := by rw [cell_of_row wr _ _ _ _ _ hg]; rfl
    clear hg
    have HSZ : Hid (w.heap.size ≤ wr.heap.size) := HB.out.size
    by_cases hlt : j < k
    · have hjI : (j : Int) < (k : Int) := by omega
      by_cases her : (rSums bs j s1).2.2 = 0
      · have HRD := Lib.hid (HS.out j wr R.out)
        have HSJ : Hid (rSums bs (j + 1) s1 = ((rSums bs j s1).1 ++ [(rS bs (rSums bs j s1).2).1], (rS bs (rSums bs j s1).2).2)) := rfl
        have HTl : Hid ((rSums bs j s1).1.length = j) := rSums_len bs j s1
        rw [her] at c3
        generalize (rS bs (rSums bs j s1).2).1 = x at HRD HSJ
        have HK1 : Hid (((rSums bs j s1).1.length + 1) * 16 ≤ 140737488355328) := by show _ ≤ _; rw [HTl.out]; omega
        have HK2 : Hid ((rSums bs j s1).1.length + 1 ≤ maxLen) := by show _ ≤ _; rw [HTl.out]; unfold maxLen; omega
        have hf4 := fun w => fld4 6 0 0 x 0 w
        clear her hfd
        go_wp2_with (first
          | ((go_at_call 52; (with_reducible refine HRD.out.mono ?_); rintro e w3 ⟨rfl, r3, b3⟩); (have R3 := Lib.hid r3); (have HB3 : Hid (But (fun k => k = g) w w3) := HB.out.trans b3 (fun i hi => .inl hi)); (have HO3 : Hid (Own fT 9 w3 w.heap.size u5 (rSums bs j s1).1) := HO.out.butG b3 (fun k hk e => by have h1 := (World.ownsRow.lt HO.out k hk).1; have h3 := HGL.out; omega)); (have HS3 : Hid (w.heap.size ≤ w3.heap.size) := HB3.out.size); clear r3 b3 c3)
          | ((with_reducible refine wpList_app1 (o := ⟨some 30, _, _, _, _, _⟩) rfl (.tmp 25) (.tmp 29) 25 rfl 9 i0 (.string ⟨#[]⟩) 16 Tryz.underlying25 HI.out HZ0.out HZ1.out HZ2.out rfl _ (rSums bs j s1).1 w.heap.size rfl HO3.out x 1 rfl fT1 HK1.out HK2.out HS3.out ?_); intro v1 w4 HO4 HG4 HV4))
        have hb4 : Below w.heap.size w3 w4 := grown_below HG4.out (fun k hk => (World.ownsRow.lt HO3.out k hk).1) HS3.out
        go_roundw
        case rel => exact ⟨j + 1, by omega, by go_num, by rw [HSJ.out]; exact HO4, by rw [HSJ.out]; exact R3.out.up hb4 HGL.out, HB3.out.trans (show But (fun k => w.heap.size ≤ k) w3 w4 from ⟨hb4.os, hb4.tape, hb4.output, hb4.size, fun i hi hne => hb4.block i (by omega)⟩) (fun i hi => .inr hi)⟩
        case measure => simp [intOf]; omega
      · have heb : ((rSums bs j s1).2.2 == 0) = false := by simp [her]
        have HE : Hid ((rSums bs k s1).2 = (rSums bs j s1).2) := by
          have := rSums_er her (k - j)
          rw [show j + (k - j) = k by omega] at this
          exact this
        obtain ⟨A5, c5, hv, _, _, _⟩ := HO.out.shape
        have HER : Hid ((rSums bs k s1).2.2 ≠ 0) := by show _ ≠ _; rw [HE.out]; exact her
        rw [hv] at HO
        subst hv
        clear her
        go_wp2
        go_ret
        exact ⟨A5, _, c5, (rSums bs j s1).1, rfl, HO.out, fun h => absurd h HER.out, by rw [HE.out]; exact R.out, HB.out⟩
    · obtain rfl : j = k := by omega
      obtain ⟨A5, c5, hv, _, _, _⟩ := HO.out.shape
      rw [hv] at HO
      subst hv
      go_wp2
      go_ret
      exact ⟨A5, _, c5, (rSums bs j s1).1, rfl, HO.out, fun _ => rfl, R.out, HB.out⟩
theorem rSums_ok {bs : List Int} {s : RS} : ∀ {k : Nat}, (rSums bs k s).2.2 = 0 → s.2 = 0
  | 0, h => h
  | k + 1, h => rSums_ok (k := k) (rV_ok (show (rV (rSums bs k s).2 baNo (tkF bs 32 (rSums bs k s).2.1)).2.2 = 0 from h)).1
theorem rL_ok {bs : List Int} {m : Nat} {s : RS} (h : (rL bs m s).2.2 = 0) : s.2 = 0 := (rV_ok (show (rV s 0 (limF m (numF bs 10 0 0 s.1))).2.2 = 0 from rSums_ok h)).1
theorem rI2_ok {bs : List Int} {s : RS} (h : (rI2 bs s).2.2 = 0) : s.2 = 0 := (rV_ok (show (rV s 0 (numF bs 10 0 0 s.1)).2.2 = 0 from h)).1
theorem rL_len {bs : List Int} {m : Nat} {s : RS} (hm : m ≤ 1000000) : (rL bs m s).1.length ≤ 1000000 := by
  unfold rL
  rw [rSums_len]
  have := (rC_range (bs := bs) (m := m) (s := s)).2
  omega
end Go.Proofs.YtnfkjnmdfijhnaaGreatDoor
