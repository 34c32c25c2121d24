/- Meetings: EncodeMeet, DecodeMeet; the reference's Entry, EncodeMeet. Numbers, IDs and pieces checked: isNumber, isID, isShown; the reference's Entry, Shaped. The reference's Shaped. Meetings: the reference's EncodeMeet; DecodeMeet of an encoding. -/
import Derived.Test.YtpdledjgbgalcaaGreatDoorZa
import Derived.Test.YtpdledjgbgalcaaGreatDoorMh
import Derived.OwnWalk
import Derived.Test.YtpdledjgbgalcaaGreatDoorMr
namespace Go.Proofs.YtpdledjgbgalcaaGreatDoor
open Go.RowKit Go.Lib
set_option linter.unusedVariables false
set_option linter.unusedSimpArgs false
def inB (p : Int) : Bool := decide (0 ≤ p ∧ p ≤ 11)
set_option maxRecDepth 100000 in
theorem within_any (x a b : Int) (w : World) : Calls Tryz.prog 42 #[.int .i64 x, .int .i64 a, .int .i64 b] w fun e w' => e = .returned (.bool (decide (a ≤ x ∧ x ≤ b))) ∧ w = w' := by
  by_cases h1 : a ≤ x
  · by_cases h2 : x ≤ b
    · go_enter Tryz.func42, Tryz.ntmps42
      go_wp2
      go_ret
      exact ⟨ret_bool (by simp [h1, h2]), rfl⟩
    · go_enter Tryz.func42, Tryz.ntmps42
      go_wp2
      go_ret
      exact ⟨ret_bool (by simp [h1, h2]), rfl⟩
  · go_enter Tryz.func42, Tryz.ntmps42
    go_wp2
    go_ret
    exact ⟨ret_bool (by have : ¬ a ≤ x := by omega
                        simp [this]), rfl⟩
set_option maxRecDepth 100000 in
theorem apU_any (n : Nat) (w : World) (hn : n < 18446744073709551616) :
    Calls Tryz.prog 70 #[.slice none 0 0, .int .u64 n] w fun e w' => ∃ v, e = .returned v ∧ Own fB 5 w' w.heap.size v (enc n) ∧ Below w.heap.size w w' := by
  obtain ⟨i0, hi, hz0, hz1, hz2⟩ := info_parts Tryz.infoB
  have HI := Lib.hid hi
  have HZ0 := Lib.hid hz0
  have HZ1 := Lib.hid hz1
  have HZ2 := Lib.hid hz2
  have HC : Hid (∀ v W, Own fB 5 W w.heap.size v [] → Below w.heap.size w W → Calls Tryz.prog 135 #[v, .int .u64 n] W fun e w' => ∃ v', e = .returned v' ∧ Own fB 5 w' w.heap.size v' (enc n) ∧ Below w.heap.size w w') := fun v W hO hb =>
    (extend_any v [] n W w.heap.size hO hb.size hn (by simp)).mono (fun e w' ⟨v', h1, h2, h3, _⟩ => ⟨v', h1, h2, hb.trans (h3.below hb.size (fun i hi => (World.ownsRow.lt hO i hi).1))⟩)
  clear hi hz0 hz1 hz2
  go_enter Tryz.func70, Tryz.ntmps70
  go_wp2_with (first
    | (at_make
       refine wpList_make_own w (o := ⟨some 8, _, _, _, _, _⟩) rfl _ _ 40 rfl w.heap.size 5 i0 (.int .u8 0) 1 Tryz.underlying40 HI.out HZ0.out HZ1.out _ _ 10 10 rfl rfl rfl (by rw [HZ2.out]; decide) (by unfold maxLen; omega) (Nat.le_refl _) ?_
       intro w1 hO1 hG1
       have HO1 : Hid (Own fB 5 w1 w.heap.size (.slice (some ⟨w.heap.size, 0, none⟩) 0 10) []) := hO1
       have HB1 : Hid (Below w.heap.size w w1) := grown_below hG1 (fun k hk => by cases hk) (Nat.le_refl _)
       have HS1 : Hid (w.heap.size ≤ w1.heap.size) := HB1.out.size
       clear hO1 hG1)
    | (go_at_call 135; (with_reducible refine (HC.out _ w1 HO1.out HB1.out).mono ?_); rintro e w3 ⟨v3, rfl, ho, hb⟩))
  go_ret
  exact ⟨_, rfl, ho, hb⟩
theorem encV_len (xs : List Int) (h : validB xs = true) : (encV xs).length ≤ 130 := by
  unfold encV
  have h1 := enc_len (nrm xs).length
  have h2 := encL_len (nrm xs)
  have h3 := nrm_len xs
  have h4 := valid_len h
  rw [List.length_append]
  omega
theorem encV_byt (xs : List Int) : Byt (encV xs) := by
  unfold encV
  refine Byt.app (enc_rng _) ?_
  intro b hb
  obtain ⟨x, _, h⟩ := List.mem_flatMap.1 hb
  exact enc_rng _ b h
theorem enc_small {p : Nat} (h : p < 128) : enc p = [(p : Int)] := by simp [enc, encF, h]
theorem numF_small {p : Nat} (h : p < 128) (bs : List Int) : numF ((p : Int) :: bs) 10 0 0 0 = ((p : Int), 0, 1) := by
  have h1 : ¬ (128 : Int) ≤ (p : Int) := by omega
  have h2 : (p : Int) % 128 = p := by omega
  simp [numF, h1, h2]
def MeetPost (p : Int) (xs : List Int) (w : World) (e : Ending) (w' : World) : Prop :=
  ((inB p && validB xs) = true ∧ Slc2 fB (p :: encV xs) 0 w e w') ∨ ((inB p && validB xs) = false ∧ e = .returned (.tuple #[.slice none 0 0, .int .i64 1]) ∧ Below w.heap.size w w')
set_option maxRecDepth 100000 in
theorem emeet_any (p : Int) (A : Option Addr) (n : Nat) (xs : List Int) (c : Nat) (w : World) (B : Nat) (hx : Sl I w B A n xs) (hB : B ≤ w.heap.size) (hl : n ≤ 1000000) :
    Calls Tryz.prog 31 #[.int .i64 p, .slice A n c] w (MeetPost p xs w) := by
  obtain ⟨i0, hi, hz0, hz1, hz2⟩ := info_parts Tryz.infoB
  have HI := Lib.hid hi
  have HZ0 := Lib.hid hz0
  have HZ1 := Lib.hid hz1
  have HZ2 := Lib.hid hz2
  have HC := Lib.hid (encode_any A n xs c w B hx hB hl)
  have HW := Lib.hid (fun W => within_any p 0 11 W)
  clear hi hz0 hz1 hz2 hx
  by_cases hp : 0 ≤ p ∧ p ≤ 11
  · obtain ⟨q, rfl⟩ : ∃ q : Nat, p = (q : Int) := ⟨p.toNat, by omega⟩
    have hd : decide ((0 : Int) ≤ (q : Int) ∧ (q : Int) ≤ 11) = true := decide_eq_true hp
    have hq : q < 128 := by omega
    have HIn : Hid (inB (q : Int) = true) := hd
    have HQ : Hid (enc q = [(q : Int)]) := enc_small hq
    rw [hd] at HW
    have hqI : (q : Int) % 18446744073709551616 = (q : Int) := by omega
    have HAU := Lib.hid (fun W => apU_any q W (by omega))
    clear hp hd
    go_enter Tryz.func31, Tryz.ntmps31
    go_upto_region 4 with (first
      | (go_at_call 42; (with_reducible refine (HW.out _).mono ?_); rintro e w1 ⟨rfl, rfl⟩)
      | (go_at_call 69; (with_reducible refine HC.out.mono ?_)
         rintro e w1 (⟨hv, A1, n1, c1, rfl, hc1, hs1, hb1⟩ | ⟨hv, A1, n1, c1, rfl, hc1, hs1, hb1⟩)))
    · have HV := Lib.hid hv
      have HB1 := Lib.hid hb1
      have HS1 := Lib.hid hs1
      have hbl := encV_len xs hv
      have HLe : Hid ((encV xs).length = n1) := hs1.1
      clear hv hb1 hs1
      go_wp2_with (first
        | (go_at_call 70; (with_reducible refine (HAU.out _).mono ?_); rintro e w2 ⟨v2, rfl, ho2, hb2⟩
           have HO2 := Lib.hid ho2
           have HB2 := Lib.hid hb2
           have HS2 : Hid (Sl fB w2 w1.heap.size A1 n1 (encV xs)) := HS1.out.up hb2 (Nat.le_refl _)
           have HL1 : Hid (((enc q).length + (encV xs).length) * 1 ≤ 140737488355328) := by show _ ≤ _; have := enc_len q; omega
           have HL2 : Hid ((enc q).length + (encV xs).length ≤ maxLen) := by show _ ≤ _; have := enc_len q; unfold maxLen; omega
           have HSz : Hid (w1.heap.size ≤ w2.heap.size) := hb2.size
           clear ho2 hb2)
        | (at_builtin; (with_reducible refine wpList_app (o := ⟨some 22, _, _, _, _, _⟩) rfl (.tmp 20) (.tmp 21) 40 rfl 5 i0 (.int .u8 0) 1 Tryz.underlying40 HI.out HZ0.out HZ1.out HZ2.out rfl _ (enc q) w1.heap.size rfl HO2.out _ _ _ w1.heap.size (encV xs) rfl HS2.out fB1 HL1.out HL2.out HSz.out ?_); intro v3 w3 HO3 HG3 HV3
           have HB3 : Hid (Below w1.heap.size w1 w3) := HB2.out.trans (grown_below HG3.out (fun j hj => (World.ownsRow.lt HO2.out j hj).1) HSz.out)))
      go_ret2
      obtain ⟨A3, c3, hv3, hc3, hs3, _⟩ := HO3.out.shape
      refine .inl ⟨by rw [HIn.out, HV.out]; rfl, A3, (enc q ++ encV xs).length, c3, by rw [← hv3]; rfl, hc3, ⟨by rw [HQ.out]; rfl, ?_⟩, HB1.out.trans (HB3.out.mono HB1.out.size)⟩
      rw [HQ.out] at hs3
      exact hs3
    · have HV := Lib.hid hv
      have HB1 := Lib.hid hb1
      clear hv hb1 hs1
      go_wp2
      go_ret2
      exact .inr ⟨by rw [HV.out, Bool.and_false], rfl, HB1.out⟩
  · have hd : decide ((0 : Int) ≤ p ∧ p ≤ 11) = false := decide_eq_false hp
    have HIn : Hid (inB p = false) := hd
    rw [hd] at HW
    clear hp hd HC
    go_enter Tryz.func31, Tryz.ntmps31
    go_wp2_with (first
      | (go_at_call 42; (with_reducible refine (HW.out _).mono ?_); rintro e w1 ⟨rfl, rfl⟩))
    go_ret2
    exact .inr ⟨by rw [HIn.out]; rfl, rfl, Below.refl _ _⟩
end Go.Proofs.YtpdledjgbgalcaaGreatDoor
namespace Go.Proofs.YtpdledjgbgalcaaGreatDoor
open Go.RowKit Go.Lib
set_option linter.unusedVariables false
set_option linter.unusedSimpArgs false
def numB (d q : Int) : Bool := decide ((0 ≤ d ∧ d ≤ 11) ∧ (1 ≤ q ∧ q ≤ 1099511627776))
def idB (s : ByteArray) (ix : Int) : Bool := decide (s.size = 32 ∧ 0 ≤ ix ∧ ix ≤ 15)
def sumsB (ys : List ByteArray) : Bool := ys.all fun s => decide (s.size = 32)
/-- A piece's value: its ID, the headers of its data and sums. -/
structure Pc where
  s : ByteArray
  ix : Int
  d : Hd
  q : Hd
abbrev cPc (p : Pc) : Array Value := #[.string p.s, .int .i64 p.ix, .slice p.d.a p.d.n p.d.c, .slice p.q.a p.q.n p.q.c]
theorem sumsB_iff {ys : List ByteArray} : sumsB ys = true ↔ ∀ s ∈ ys, s.size = 32 := by unfold sumsB; simp
theorem sumsB_of_bad {ys : List ByteArray} {s : ByteArray} (h : s ∈ ys) (hs : s.size ≠ 32) : sumsB ys = false := by
  cases hb : sumsB ys
  · rfl
  · exact absurd (sumsB_iff.1 hb s h) hs
/-- A piece's data and sums in memory. -/
def PcIn (w : World) (B : Nat) (p : Pc) (xs : List Int) (ys : List ByteArray) : Prop := Sl fB w B p.d.a p.d.n xs ∧ Sl fT w B p.q.a p.q.n ys ∧ p.d.n ≤ p.d.c ∧ p.q.n ≤ p.q.c
theorem PcIn.up {w w' : World} {B B' : Nat} {p : Pc} {xs : List Int} {ys : List ByteArray} (h : PcIn w B p xs ys) (hb : Below B' w w') (hB : B ≤ B') : PcIn w' B p xs ys := ⟨h.1.up hb hB, h.2.1.up hb hB, h.2.2⟩
theorem PcIn.more {w : World} {B B' : Nat} {p : Pc} {xs : List Int} {ys : List ByteArray} (h : PcIn w B p xs ys) (hB : B ≤ B') : PcIn w B' p xs ys := ⟨h.1.more' hB, h.2.1.more' hB, h.2.2⟩
set_option maxRecDepth 100000 in
theorem entry_any (d q : Int) (w : World) : Calls Tryz.prog 44 #[.int .i64 d, .int .i64 q] w fun e w' => e = .returned (.bool (numB d q)) ∧ w = w' := by
  by_cases h0 : 0 ≤ d
  · skip
    by_cases h1 : d < 12
    · skip
      by_cases h2 : 1 ≤ q
      · skip
        by_cases h3 : q ≤ 1099511627776
        · skip
          go_enter Tryz.func44, Tryz.ntmps44
          go_wp2
          go_ret
          exact ⟨ret_bool (by first | exact (decide_eq_true (by omega)).symm | exact (decide_eq_false (by omega)).symm), rfl⟩
        · go_enter Tryz.func44, Tryz.ntmps44
          go_wp2
          go_ret
          exact ⟨ret_bool (by first | exact (decide_eq_true (by omega)).symm | exact (decide_eq_false (by omega)).symm), rfl⟩
      · go_enter Tryz.func44, Tryz.ntmps44
        go_wp2
        go_ret
        exact ⟨ret_bool (by first | exact (decide_eq_true (by omega)).symm | exact (decide_eq_false (by omega)).symm), rfl⟩
    · go_enter Tryz.func44, Tryz.ntmps44
      go_wp2
      go_ret
      exact ⟨ret_bool (by first | exact (decide_eq_true (by omega)).symm | exact (decide_eq_false (by omega)).symm), rfl⟩
  · go_enter Tryz.func44, Tryz.ntmps44
    go_wp2
    go_ret
    exact ⟨ret_bool (by first | exact (decide_eq_true (by omega)).symm | exact (decide_eq_false (by omega)).symm), rfl⟩
set_option maxRecDepth 100000 in
theorem isNumber_any (d q : Int) (w : World) : Calls Tryz.prog 37 #[.int .i64 d, .int .i64 q] w fun e w' => e = .returned (.bool (numB d q)) ∧ w = w' := by
  have H1 := Lib.hid (fun W => within_any d 0 11 W)
  have H2 := Lib.hid (fun W => within_any q 1 1099511627776 W)
  have HN : Hid (numB d q = (decide (0 ≤ d ∧ d ≤ 11) && decide (1 ≤ q ∧ q ≤ 1099511627776))) := by show _ = _; unfold numB; rw [Bool.decide_and]
  rw [HN.out]
  cases h1 : decide (0 ≤ d ∧ d ≤ 11)
  all_goals
    rw [h1] at H1
    clear h1 HN
    go_enter Tryz.func37, Tryz.ntmps37
    go_wp2_with (first
      | (go_at_call 42; (with_reducible refine (H1.out _).mono ?_); rintro e w1 ⟨rfl, rfl⟩)
      | (go_at_call 42; (with_reducible refine (H2.out _).mono ?_); rintro e w1 ⟨rfl, rfl⟩))
    go_ret
    exact ⟨ret_bool (by simp), rfl⟩
set_option maxRecDepth 100000 in
theorem isID_any (s : ByteArray) (ix : Int) (w : World) : Calls Tryz.prog 85 #[.agg #[.string s, .int .i64 ix]] w fun e w' => e = .returned (.bool (idB s ix)) ∧ Below w.heap.size w w' := by
  have H1 := Lib.hid (fun W => within_any ix 0 15 W)
  have HN : Hid (idB s ix = (decide (s.size = 32) && decide (0 ≤ ix ∧ ix ≤ 15))) := by show _ = _; unfold idB; rw [Bool.decide_and]
  rw [HN.out]
  by_cases hs : s.size = 32
  · have hsI : ((s.size : Nat) : Int) = 32 := by omega
    have hd : decide (s.size = 32) = true := decide_eq_true hs
    rw [hd]
    clear HN hs hd
    go_enter Tryz.func85, Tryz.ntmps85
    go_wp2_with (first
      | (go_at_call 42; (with_reducible refine (H1.out _).mono ?_); rintro e w1 ⟨rfl, rfl⟩))
    go_ret
    exact ⟨ret_bool (by simp), (Below.refl _ _).alloc (Nat.le_refl _) _⟩
  · have hsI : (((s.size : Nat) : Int) == 32) = false := by simp; omega
    have hd : decide (s.size = 32) = false := decide_eq_false hs
    rw [hd]
    clear HN hs hd H1
    go_enter Tryz.func85, Tryz.ntmps85
    go_wp2
    go_ret
    exact ⟨rfl, (Below.refl _ _).alloc (Nat.le_refl _) _⟩
end Go.Proofs.YtpdledjgbgalcaaGreatDoor
namespace Go.Proofs.YtpdledjgbgalcaaGreatDoor
open Go.RowKit Go.Lib
set_option linter.unusedVariables false
set_option linter.unusedSimpArgs false
end Go.Proofs.YtpdledjgbgalcaaGreatDoor
namespace Go.Proofs.YtpdledjgbgalcaaGreatDoor
open Go.RowKit Go.Lib
set_option linter.unusedVariables false
set_option linter.unusedSimpArgs false
set_option maxRecDepth 100000 in
theorem left_anyZ (g : Nat) (A : Option Addr) (n c p : Nat) (pv er : Int) (w : World) (hr : Rd w g A n c p pv er) (hp : p ≤ n) (hn : n ≤ 1000000) :
    Calls Tryz.prog 83 #[.pointer (some ⟨g, 0, none⟩)] w fun e w' => e = .returned (.int .i64 ((n : Int) - p)) ∧ ∃ m, w' = w.drewN m := by
  have h0 := cell_of_row w g 0 _ _ _ hr
  have h1 := cell_of_row w g 1 _ _ _ hr
  simp at h0 h1
  have hw : IntKind.i64.wrap ((n : Int) - p) = (n : Int) - p := by rw [IntWalk.i64_in _ (by omega)]
  clear hr
  go_enter Tryz.func83, Tryz.ntmps83
  go_wp2
  go_quiet (fail)
  go_wp2
  go_ret
  exact ⟨rfl, _, rfl⟩
theorem results_3 {fn : Func} {a b c : Tmp} (h : fn.results = #[.tmp a, .tmp b, .tmp c]) (tmps : Array Value) (P : Program) (w : World) :
    (results fn tmps).run P w = .ok (.tuple #[tmps.getD a undef, tmps.getD b undef, tmps.getD c undef]) w := by
  simp [results, h]
theorem encV_pos (xs : List Int) : 0 < (encV xs).length := by
  have h0 : ∀ n, 0 < (enc n).length := fun n => by
    unfold enc encF
    split <;> simp
  unfold encV
  rw [List.length_append]
  have := h0 (nrm xs).length
  omega
/-- An entry of a kind with a body. -/
abbrev entryV (k : Int) (A : Option Addr) (n c : Nat) : Value := .agg #[.int .i64 0, .int .i64 0, .int .i64 k, .int .i64 0, .slice A n c, .string ⟨#[]⟩]
set_option maxRecDepth 100000 in
set_option maxHeartbeats 4000000 in
theorem dmeet_enc (q : Nat) (xs : List Int) (A : Option Addr) (n c B : Nat) (w : World) (hx : Sl fB w B A n ((q : Int) :: encV xs)) (hc : n ≤ c) (hB : B ≤ w.heap.size) (hv : validB xs = true) (hq : q ≤ 11) :
    Calls Tryz.prog 35 #[entryV 9 A n c] w fun e w' => ∃ A' n' c', e = .returned (.tuple #[.int .i64 (q : Int), .slice A' n' c', .int .i64 0]) ∧ n' ≤ c' ∧ Sl I w' w'.heap.size A' n' (nrm xs) ∧ Below w.heap.size w w' := by
  have hbs : Byt ((q : Int) :: encV xs) := Byt.app (xs := [(q : Int)]) (fun x hx => by rw [List.mem_singleton.1 hx]; omega) (encV_byt xs)
  have hn1 : n = (encV xs).length + 1 := by rw [← hx.1]; rfl
  have hel := encV_len xs hv
  have hep := encV_pos xs
  obtain ⟨b, off, rfl, hbB⟩ := hx.at0 (by omega)
  have hb1 : Below w.heap.size w (w.alloc (.cells #[.int .i64 0, .int .i64 0, .int .i64 9, .int .i64 0, .slice (some ⟨b, off, none⟩) n c, .string ⟨#[]⟩] 55)) := (Below.refl _ _).alloc (Nat.le_refl _) _
  have HB1 := Lib.hid hb1
  have HX := Lib.hid hx
  have HN := Lib.hid (newReader_any (some ⟨b, off, none⟩) n c ((q : Int) :: encV xs) _ ((hx.up hb1 hB).more' (Nat.le_trans hB hb1.size)) (by omega))
  have HU : Hid (∀ g A1 c1 W, Rd W g A1 n c1 0 0 0 → Sl fB W g A1 n ((q : Int) :: encV xs) → Calls Tryz.prog 82 #[.pointer (some ⟨g, 0, none⟩)] W fun e w' => e = .returned (.int .u64 (q : Int)) ∧ Rd w' g A1 n c1 1 0 0 ∧ But (fun k => k = g) W w') := fun g A1 c1 W hr hs => by
    refine (ruint_ok g A1 n c1 0 0 _ W hr hs hbs (by omega) (by omega)).mono ?_
    rintro e w' ⟨h1, h2, h3⟩
    rw [numF_small (by omega)] at h1 h2
    exact ⟨h1, h2, h3⟩
  have HD : Hid (∀ W, Sl fB W W.heap.size (some ⟨b, off + 1, none⟩) (n - 1) (encV xs) → Calls Tryz.prog 84 #[.slice (some ⟨b, off + 1, none⟩) (n - 1) (c - 1)] W (Slc2 I (nrm xs) 0 W)) := fun W hs => by
    have h := decode_any (some ⟨b, off + 1, none⟩) (n - 1) (c - 1) (encV xs) W hs (by omega) (encV_byt xs)
    unfold DecPost at h
    rw [decV_enc xs hv] at h
    exact h
  obtain ⟨iB, hB0, _, hB1, _⟩ := info_parts Tryz.infoB
  have hs2 : ∀ W, (Instr.slice 40 (.slice (some ⟨b, off, none⟩) n c) (some (.int .i64 1)) none none).run Tryz.prog W = .ok (.slice (some ⟨b, off + 1, none⟩) (n - 1) (c - 1)) W := fun W => by
    rw [run_slice_from (P := Tryz.prog) 40 5 iB Tryz.underlying40 hB0 hB1 (some ⟨b, off, none⟩) n c .i64 1 1 rfl (by omega) hc W, if_neg (by omega)]
    rfl
  have HTl : Hid (∀ W, Below w.heap.size w W → Sl fB W W.heap.size (some ⟨b, off + 1, none⟩) (n - 1) (encV xs)) := fun W hb => by
    refine ⟨by omega, fun _ => ⟨b, off + 1, rfl, Nat.lt_of_lt_of_le (Nat.lt_of_lt_of_le hbB hB) hb.size, fun k x hk => ?_⟩⟩
    obtain ⟨b', off', e, _, hat⟩ := (hx.up hb hB).2 (by rw [hx.1]; omega)
    cases e
    have := hat (k + 1) x hk
    rw [show off + 1 + k = off + (k + 1) by omega]
    exact this
  have hqI : ¬ (12 : Int) ≤ (q : Int) := by omega
  have hlw : IntKind.i64.wrap ((n : Int) - ((n : Int) - 1)) = 1 := by rw [IntWalk.i64_in _ (by omega)]; omega
  have hqw : IntKind.i64.wrap (q : Int) = (q : Int) := IntWalk.i64_in _ (by omega)
  have hnB : n ≤ 131 := by omega
  have hnp : 1 ≤ n := by omega
  clear hx hb1 hbs hn1 hel hep hv hB
  go_enter Tryz.func35, Tryz.ntmps35
  go_upto_region 5 with (first
    | (go_at_call 81; (with_reducible refine HN.out.mono ?_); rintro e w2 ⟨g, A1, c1, rfl, hr2, hs2', hg2, hb2, _⟩
       have HR2 := Lib.hid hr2
       have HS2 := Lib.hid hs2'
       have HGg := Lib.hid hg2
       have HB2 : Hid (Below w.heap.size w w2) := HB1.out.trans (hb2.mono (by simp))
       have HX2 : Hid (w2.heap[w.heap.size]? = some (.cells #[.int .i64 0, .int .i64 0, .int .i64 9, .int .i64 0, .slice (some ⟨b, off, none⟩) n c, .string ⟨#[]⟩] 55 (0, 0))) := (hb2.block _ (by simp)).trans (heap_alloc_new w _)
       clear hr2 hs2' hg2 hb2)
    | (go_at_call 82; (with_reducible refine (HU.out g A1 c1 w2 HR2.out HS2.out).mono ?_); rintro e w3 ⟨rfl, hr3, hb3⟩
       have HR3 := Lib.hid hr3
       have HB3 : Hid (Below w.heap.size w w3) := HB2.out.trans (hb3.below HB2.out.size (fun i hi => by have := HGg.out; simp at this; omega))
       have HX3 : Hid (w3.heap[w.heap.size]? = some (.cells #[.int .i64 0, .int .i64 0, .int .i64 9, .int .i64 0, .slice (some ⟨b, off, none⟩) n c, .string ⟨#[]⟩] 55 (0, 0))) := (hb3.block _ (lt_of_block HX2.out) (by have := HGg.out; simp at this; omega)).trans HX2.out
       clear hr3 hb3))
  have e4 := cell_of_row w3 w.heap.size 4 _ _ _ HX3.out
  simp at e4
  have HLf : Hid (∀ a, Calls Tryz.prog 83 #[.pointer (some ⟨g, 0, none⟩)] (w3.drewN a) fun e w' => e = .returned (.int .i64 ((n : Int) - 1)) ∧ ∃ m, w' = (w3.drewN a).drewN m) := fun a => left_anyZ g A1 n c1 1 0 0 (w3.drewN a) HR3.out hnp (by omega)
  go_quiet ((go_at_call 83; with_reducible exact Calls.quiet_of (HLf.out _)))
  generalize hW : World.drewN w3 _ = W4
  replace e4 : W4.cell? ⟨w.heap.size, 4, none⟩ = some (.slice (some ⟨b, off, none⟩) n c) := by rw [← hW]; exact e4
  have HB4 : Hid (Below w.heap.size w W4) := by show Below ..; rw [← hW]; exact below_drewN' HB3.out _
  clear hW
  go_wp2_with (first
    | (go_at_call 84; (with_reducible refine (HD.out _ (HTl.out _ HB4.out)).mono ?_); rintro e w5 ⟨A5, n5, c5, rfl, hc5, hs5, hb5⟩
       have HS5 := Lib.hid hs5
       have HB5 := Lib.hid hb5
       clear hs5 hb5))
  refine bodyPost_ret (results_3 rfl _ _ _) rfl ⟨A5, n5, c5, rfl, hc5, HS5.out, HB4.out.trans (HB5.out.mono HB4.out.size)⟩
end Go.Proofs.YtpdledjgbgalcaaGreatDoor
