/- Meetings: EncodeMeet, DecodeMeet; the reference's Entry, EncodeMeet. -/
import Derived.Test.YtnfkjnmdfijhnaaGreatDoorZa
import Derived.Test.YtnfkjnmdfijhnaaGreatDoorMh
import Derived.OwnWalk
namespace Go.Proofs.YtnfkjnmdfijhnaaGreatDoor
open Go.RowKit Go.Lib
set_option linter.unusedVariables false
set_option linter.unusedSimpArgs false

def inB (p : Int) : Bool := decide (0 ≤ p ∧ p ≤ 11)
set_option maxRecDepth 100000 in
theorem within_any (x a b : Int) (w : World) : Calls Tryz.prog 69 #[.int .i64 x, .int .i64 a, .int .i64 b] w fun e w' => e = .returned (.bool (decide (a ≤ x ∧ x ≤ b))) ∧ w = w' := by
  by_cases h1 : a ≤ x
  · by_cases h2 : x ≤ b
    · go_enter Tryz.func69, Tryz.ntmps69
      go_wp2
      go_ret
      exact ⟨ret_bool (by simp [h1, h2]), rfl⟩
    · go_enter Tryz.func69, Tryz.ntmps69
      go_wp2
      go_ret
      exact ⟨ret_bool (by simp [h1, h2]), rfl⟩
  · go_enter Tryz.func69, Tryz.ntmps69
    go_wp2
    go_ret
    exact ⟨ret_bool (by have : ¬ a ≤ x := by omega
                        simp [this]), rfl⟩
set_option maxRecDepth 100000 in
theorem entry_one (d : Int) (w : World) : Calls Tryz.prog 8 #[.int .i64 d, .int .i64 1] w fun e w' => e = .returned (.bool (inB d)) ∧ w = w' := by
  by_cases h1 : 0 ≤ d
  · by_cases h2 : d < 12
    · go_enter Tryz.func8, Tryz.ntmps8
      go_wp2
      go_ret
      exact ⟨ret_bool (by have : d ≤ 11 := by omega
                          simp [inB, h1, this]), rfl⟩
    · go_enter Tryz.func8, Tryz.ntmps8
      go_wp2
      go_ret
      exact ⟨ret_bool (by have : ¬ d ≤ 11 := by omega
                          simp [inB, h1, this]), rfl⟩
  · go_enter Tryz.func8, Tryz.ntmps8
    go_wp2
    go_ret
    exact ⟨ret_bool (by have : ¬ 0 ≤ d := by omega
                        simp [inB, this]), rfl⟩
set_option maxRecDepth 100000 in
theorem apU_any (n : Nat) (w : World) (hn : n < 18446744073709551616) :
    Calls Tryz.prog 71 #[.slice none 0 0, .int .u64 n] w fun e w' => ∃ v, e = .returned v ∧ Own fB 5 w' w.heap.size v (enc n) ∧ Below w.heap.size w w' := by
  obtain ⟨i0, hi, hz0, hz1, hz2⟩ := info_parts Tryz.infoB
  have HI := Lib.hid hi
  have HZ0 := Lib.hid hz0
  have HZ1 := Lib.hid hz1
  have HZ2 := Lib.hid hz2
  have HC : Hid (∀ v W, Own fB 5 W w.heap.size v [] → Below w.heap.size w W → Calls Tryz.prog 78 #[v, .int .u64 n] W fun e w' => ∃ v', e = .returned v' ∧ Own fB 5 w' w.heap.size v' (enc n) ∧ Below w.heap.size w w') := fun v W hO hb =>
    (extend_any v [] n W w.heap.size hO hb.size hn (by simp)).mono (fun e w' ⟨v', h1, h2, h3, _⟩ => ⟨v', h1, h2, hb.trans (h3.below hb.size (fun i hi => (World.ownsRow.lt hO i hi).1))⟩)
  clear hi hz0 hz1 hz2
  go_enter Tryz.func71, Tryz.ntmps71
  go_wp2_with (first
    | (at_make
       refine wpList_make_own w (o := ⟨some 8, _, _, _, _, _⟩) rfl _ _ 24 rfl w.heap.size 5 i0 (.int .u8 0) 1 Tryz.underlying24 HI.out HZ0.out HZ1.out _ _ 10 10 rfl rfl rfl (by rw [HZ2.out]; decide) (by unfold maxLen; omega) (Nat.le_refl _) ?_
       intro w1 hO1 hG1
       have HO1 : Hid (Own fB 5 w1 w.heap.size (.slice (some ⟨w.heap.size, 0, none⟩) 0 10) []) := hO1
       have HB1 : Hid (Below w.heap.size w w1) := grown_below hG1 (fun k hk => by cases hk) (Nat.le_refl _)
       have HS1 : Hid (w.heap.size ≤ w1.heap.size) := HB1.out.size
       clear hO1 hG1)
    | (go_at_call 78; (with_reducible refine (HC.out _ w1 HO1.out HB1.out).mono ?_); rintro e w3 ⟨v3, rfl, ho, hb⟩))
  go_ret
  exact ⟨_, rfl, ho, hb⟩
theorem encV_len (xs : List Int) (h : validB xs = true) : (encV xs).length ≤ 130 := by
  unfold encV
  have h1 := enc_len (nrm xs).length
  have h2 := encL_len (nrm xs)
  have h3 := nrm_len xs
  have h4 := valid_len h
  rw [List.length_append]
  omega
theorem encV_byt (xs : List Int) : Byt (encV xs) := by
  unfold encV
  refine Byt.app (enc_rng _) ?_
  intro b hb
  obtain ⟨x, _, h⟩ := List.mem_flatMap.1 hb
  exact enc_rng _ b h
theorem enc_small {p : Nat} (h : p < 128) : enc p = [(p : Int)] := by simp [enc, encF, h]
theorem numF_small {p : Nat} (h : p < 128) (bs : List Int) : numF ((p : Int) :: bs) 10 0 0 0 = ((p : Int), 0, 1) := by
  have h1 : ¬ (128 : Int) ≤ (p : Int) := by omega
  have h2 : (p : Int) % 128 = p := by omega
  simp [numF, h1, h2]
def MeetPost (p : Int) (xs : List Int) (w : World) (e : Ending) (w' : World) : Prop :=
  ((inB p && validB xs) = true ∧ Slc2 fB (p :: encV xs) 0 w e w') ∨ ((inB p && validB xs) = false ∧ e = .returned (.tuple #[.slice none 0 0, .int .i64 1]) ∧ Below w.heap.size w w')
set_option maxRecDepth 100000 in
theorem emeet_any (p : Int) (A : Option Addr) (n : Nat) (xs : List Int) (c : Nat) (w : World) (B : Nat) (hx : Sl I w B A n xs) (hB : B ≤ w.heap.size) (hl : n ≤ 1000000) :
    Calls Tryz.prog 26 #[.int .i64 p, .slice A n c] w (MeetPost p xs w) := by
  obtain ⟨i0, hi, hz0, hz1, hz2⟩ := info_parts Tryz.infoB
  have HI := Lib.hid hi
  have HZ0 := Lib.hid hz0
  have HZ1 := Lib.hid hz1
  have HZ2 := Lib.hid hz2
  have HC := Lib.hid (encode_any A n xs c w B hx hB hl)
  have HW := Lib.hid (fun W => within_any p 0 11 W)
  clear hi hz0 hz1 hz2 hx
  by_cases hp : 0 ≤ p ∧ p ≤ 11
  · obtain ⟨q, rfl⟩ : ∃ q : Nat, p = (q : Int) := ⟨p.toNat, by omega⟩
    have hd : decide ((0 : Int) ≤ (q : Int) ∧ (q : Int) ≤ 11) = true := decide_eq_true hp
    have hq : q < 128 := by omega
    have HIn : Hid (inB (q : Int) = true) := hd
    have HQ : Hid (enc q = [(q : Int)]) := enc_small hq
    rw [hd] at HW
    have hqI : (q : Int) % 18446744073709551616 = (q : Int) := by omega
    have HAU := Lib.hid (fun W => apU_any q W (by omega))
    clear hp hd
    go_enter Tryz.func26, Tryz.ntmps26
    go_upto_region 4 with (first
      | (go_at_call 69; (with_reducible refine (HW.out _).mono ?_); rintro e w1 ⟨rfl, rfl⟩)
      | (go_at_call 70; (with_reducible refine HC.out.mono ?_)
         rintro e w1 (⟨hv, A1, n1, c1, rfl, hc1, hs1, hb1⟩ | ⟨hv, A1, n1, c1, rfl, hc1, hs1, hb1⟩)))
    · have HV := Lib.hid hv
      have HB1 := Lib.hid hb1
      have HS1 := Lib.hid hs1
      have hbl := encV_len xs hv
      have HLe : Hid ((encV xs).length = n1) := hs1.1
      clear hv hb1 hs1
      go_wp2_with (first
        | (go_at_call 71; (with_reducible refine (HAU.out _).mono ?_); rintro e w2 ⟨v2, rfl, ho2, hb2⟩
           have HO2 := Lib.hid ho2
           have HB2 := Lib.hid hb2
           have HS2 : Hid (Sl fB w2 w1.heap.size A1 n1 (encV xs)) := HS1.out.up hb2 (Nat.le_refl _)
           have HL1 : Hid (((enc q).length + (encV xs).length) * 1 ≤ 140737488355328) := by show _ ≤ _; have := enc_len q; omega
           have HL2 : Hid ((enc q).length + (encV xs).length ≤ maxLen) := by show _ ≤ _; have := enc_len q; unfold maxLen; omega
           have HSz : Hid (w1.heap.size ≤ w2.heap.size) := hb2.size
           clear ho2 hb2)
        | (at_builtin; (with_reducible refine wpList_app (o := ⟨some 22, _, _, _, _, _⟩) rfl (.tmp 20) (.tmp 21) 24 rfl 5 i0 (.int .u8 0) 1 Tryz.underlying24 HI.out HZ0.out HZ1.out HZ2.out rfl _ (enc q) w1.heap.size rfl HO2.out _ _ _ w1.heap.size (encV xs) rfl HS2.out fB1 HL1.out HL2.out HSz.out ?_); intro v3 w3 HO3 HG3 HV3
           have HB3 : Hid (Below w1.heap.size w1 w3) := HB2.out.trans (grown_below HG3.out (fun j hj => (World.ownsRow.lt HO2.out j hj).1) HSz.out)))
      go_ret2
      obtain ⟨A3, c3, hv3, hc3, hs3, _⟩ := HO3.out.shape
      refine .inl ⟨by rw [HIn.out, HV.out]; rfl, A3, (enc q ++ encV xs).length, c3, by rw [← hv3]; rfl, hc3, ⟨by rw [HQ.out]; rfl, ?_⟩, HB1.out.trans (HB3.out.mono HB1.out.size)⟩
      rw [HQ.out] at hs3
      exact hs3
    · have HV := Lib.hid hv
      have HB1 := Lib.hid hb1
      clear hv hb1 hs1
      go_wp2
      go_ret2
      exact .inr ⟨by rw [HV.out, Bool.and_false], rfl, HB1.out⟩
  · have hd : decide ((0 : Int) ≤ p ∧ p ≤ 11) = false := decide_eq_false hp
    have HIn : Hid (inB p = false) := hd
    rw [hd] at HW
    clear hp hd HC
    go_enter Tryz.func26, Tryz.ntmps26
    go_wp2_with (first
      | (go_at_call 69; (with_reducible refine (HW.out _).mono ?_); rintro e w1 ⟨rfl, rfl⟩))
    go_ret2
    exact .inr ⟨by rw [HIn.out]; rfl, rfl, Below.refl _ _⟩
end Go.Proofs.YtnfkjnmdfijhnaaGreatDoor
