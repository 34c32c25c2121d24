/- split, both. Digits of a digest, plainly. wire.AppendUint and sha256.Sum, any bytes. One-time signatures: parameters. -/
import Derived.Test.YtpdledjgbgalcaaGreatDoorU1
import Derived.Test.YtpdledjgbgalcaaGreatDoorPc
import Derived.Test.YtpdledjgbgalcaaGreatDoorZ9
namespace Go.Proofs.YtpdledjgbgalcaaGreatDoor
open Go.RowKit Go.Lib
set_option linter.unusedVariables false
set_option linter.unusedSimpArgs false
set_option maxRecDepth 100000 in
set_option maxHeartbeats 4000000 in
theorem len64_any (x : Nat) (hx : x < 256) (w : World) : Calls Tryz.prog 230 #[.int .u64 x] w fun e w' => e = .returned (.int .i64 (bitLen x)) ∧ w = w' := by
  have h1 : ¬ (4294967296 : Int) ≤ (x : Int) := by omega
  have h2 : ¬ (65536 : Int) ≤ (x : Int) := by omega
  have h3 : ¬ (256 : Int) ≤ (x : Int) := by omega
  have hw : IntKind.u8.wrap (x : Int) = x := by unfold IntKind.wrap; simp [IntKind.bits, IntKind.signed]; omega
  go_enter Tryz.func230, Tryz.ntmps230
  go_wp2
  go_ret
  refine ⟨?_, rfl⟩
  have ht : ∀ (s : ByteArray) (h : x < s.size), s[x] = s.data.getD x 0 := fun s h => by
    show s.data[x] = _
    rw [Array.getD, dif_pos (show x < s.data.size from h)]
    rfl
  rw [ht]
  clear ht h1 h2 h3 hw
  refine congrArg (fun z : Int => Ending.returned (Value.int .i64 z)) (?_ : _ = ((bitLen x : Nat) : Int))
  obtain ⟨a, rfl⟩ : ∃ a : Fin 256, a.val = x := ⟨⟨x, hx⟩, rfl⟩
  clear hx
  revert a
  decide +kernel
set_option maxRecDepth 100000 in
theorem len_any (x : Nat) (hx : x < 256) (w : World) : Calls Tryz.prog 177 #[.int .u64 x] w fun e w' => e = .returned (.int .i64 (bitLen x)) ∧ w = w' := by
  have HL := Lib.hid (len64_any x hx w)
  go_enter Tryz.func177, Tryz.ntmps177
  go_wp2_with (go_at_call 230; (with_reducible refine HL.out.mono ?_); rintro e w1 ⟨rfl, rfl⟩)
  go_ret
  exact ⟨rfl, rfl⟩
/-- The greatest power of two below n. -/
def spl (n : Nat) : Nat := 2 ^ (bitLen (n - 1) - 1)
theorem spl_facts {n : Nat} (h1 : 2 ≤ n) (h2 : n ≤ 256) : 1 ≤ bitLen (n - 1) ∧ bitLen (n - 1) ≤ 8 ∧ 1 ≤ spl n ∧ spl n < n ∧ n ≤ 2 * spl n := by
  have hall : ∀ a : Fin 257, 2 ≤ a.val → 1 ≤ bitLen (a.val - 1) ∧ bitLen (a.val - 1) ≤ 8 ∧ 1 ≤ spl a.val ∧ spl a.val < a.val ∧ a.val ≤ 2 * spl a.val := by decide +kernel
  exact hall ⟨n, by omega⟩ h1
set_option maxRecDepth 100000 in
set_option maxHeartbeats 4000000 in
theorem msplit_any (n : Nat) (h1 : 2 ≤ n) (h2 : n ≤ 256) (w : World) : Calls Tryz.prog 167 #[.int .i64 n] w fun e w' => e = .returned (.int .i64 (spl n)) ∧ w = w' := by
  obtain ⟨f1, f2, _⟩ := spl_facts h1 h2
  obtain ⟨m, rfl⟩ : ∃ m, n = m + 1 := ⟨n - 1, by omega⟩
  have hw : IntKind.u64.wrap (m : Int) = m := by unfold IntKind.wrap; simp [IntKind.bits, IntKind.signed]; omega
  have HL := Lib.hid (len_any m (by omega) w)
  have hm : ((m + 1 : Nat) : Int) - 1 = m := by omega
  have hs : spl (m + 1) = 2 ^ (bitLen m - 1) := rfl
  rw [Nat.add_sub_cancel] at f1 f2
  rw [hs]
  obtain ⟨L, hL⟩ : ∃ L, bitLen m = L := ⟨_, rfl⟩
  rw [hL] at f1 f2 HL ⊢
  clear hs hL
  have hcases : L = 1 ∨ L = 2 ∨ L = 3 ∨ L = 4 ∨ L = 5 ∨ L = 6 ∨ L = 7 ∨ L = 8 := by omega
  rcases hcases with rfl | rfl | rfl | rfl | rfl | rfl | rfl | rfl
  all_goals
    go_enter Tryz.func167, Tryz.ntmps167
    go_wp2_with (go_at_call 177; (with_reducible refine HL.out.mono ?_); rintro e w1 ⟨rfl, rfl⟩)
    go_ret
    exact ⟨by first | rfl | decide, rfl⟩
set_option maxRecDepth 100000 in
set_option maxHeartbeats 4000000 in
theorem rsplit_any (n : Nat) (h1 : 2 ≤ n) (h2 : n ≤ 256) (w : World) : Calls Tryz.prog 124 #[.int .i64 n] w fun e w' => e = .returned (.int .i64 (spl n)) ∧ w = w' := by
  obtain ⟨f1, f2, _, f4, f5⟩ := spl_facts h1 h2
  have hs : spl n = 2 ^ (bitLen (n - 1) - 1) := rfl
  obtain ⟨l, hl⟩ : ∃ l, bitLen (n - 1) - 1 = l := ⟨_, rfl⟩
  rw [hl] at hs
  have hl7 : l ≤ 7 := by omega
  rw [hs] at f4 f5 ⊢
  obtain ⟨sp, hb⟩ : ∃ sp, 2 ^ l = sp := ⟨_, rfl⟩
  rw [hb] at f4 f5 ⊢
  have HBE : Hid (2 ^ l = sp ∧ sp < n ∧ n ≤ 2 * sp) := ⟨hb, f4, f5⟩
  clear hs hl f1 f2 hb f4 f5
  go_enter Tryz.func124, Tryz.ntmps124
  go_wp2
  go_loopw [3] (fun i wr => ∃ j : Nat, j ≤ l ∧ i = .int .i64 ((2 ^ j : Nat) : Int) ∧ w = wr) (fun i _ => n - (intOf i).toNat)
  case atStart => exact ⟨0, by omega, rfl, rfl⟩
  case round =>
    obtain ⟨j, hj, rfl, rfl⟩ := hrel
    obtain ⟨_, f4, f5⟩ := HBE.out
    have hpj : 2 ^ j ≤ sp := by rw [← HBE.out.1]; exact Nat.pow_le_pow_right (by decide) hj
    have hp1 : 1 ≤ 2 ^ j := Nat.one_le_two_pow
    have hsucc : 2 ^ (j + 1) = 2 ^ j * 2 := Nat.pow_succ 2 j
    by_cases hlt : j < l
    · have hp2 : 2 ^ (j + 1) ≤ 2 ^ l := Nat.pow_le_pow_right (by decide) hlt
      obtain ⟨a, ha⟩ : ∃ a, 2 ^ j = a := ⟨_, rfl⟩
      rw [ha] at hpj hp1 hsucc ⊢
      clear ha
      generalize 2 ^ l = b at *
      have hc : (a : Int) < (n : Int) - (a : Int) := by omega
      go_wp2
      go_roundw
      case rel => exact ⟨j + 1, by omega, by rw [hsucc]; go_num, by first | rfl | trivial⟩
      case measure => simp [intOf]; omega
    · obtain rfl : j = l := by omega
      have hab : 2 ^ j = sp := HBE.out.1
      clear hsucc hpj HBE
      rw [hab] at hp1 ⊢
      clear hab
      have hc : ¬ (sp : Int) < (n : Int) - (sp : Int) := by omega
      go_wp2
      go_ret
      exact ⟨rfl, rfl⟩
end Go.Proofs.YtpdledjgbgalcaaGreatDoor
namespace Go.Proofs.YtpdledjgbgalcaaGreatDoor
set_option linter.unusedVariables false
set_option linter.unusedSimpArgs false
/-- Digits of a byte. -/
def perB (b : Nat) : Nat := 8 / b
/-- A digit. -/
def dig (b : Nat) (xs : List Int) (i : Nat) : Nat := (xs.getD (i / perB b) 0).toNat / 2 ^ (8 - b * (i % perB b + 1)) % 2 ^ b
/-- The first n digits. -/
def digs (b : Nat) (xs : List Int) (n : Nat) : List Int := (List.range n).map fun i => (dig b xs i : Int)
theorem digs_succ (b : Nat) (xs : List Int) (n : Nat) : digs b xs (n + 1) = digs b xs n ++ [(dig b xs n : Int)] := by
  unfold digs; rw [List.range_succ, List.map_append]; rfl
theorem digs_len (b : Nat) (xs : List Int) (n : Nat) : (digs b xs n).length = n := by simp [digs]
theorem dig_lt (b : Nat) (xs : List Int) (i : Nat) : dig b xs i < 2 ^ b := Nat.mod_lt _ (Nat.two_pow_pos b)
/-- The checksum of the first n digits. -/
def cks (b : Nat) (xs : List Int) : Nat → Nat
  | 0 => 0
  | n + 1 => cks b xs n + (2 ^ b - 1 - dig b xs n)
theorem cks_le (b : Nat) (xs : List Int) : ∀ n, cks b xs n ≤ n * (2 ^ b - 1)
  | 0 => by simp [cks]
  | n + 1 => by
    have := cks_le b xs n
    rw [cks, Nat.succ_mul]
    omega
/-- A digit of the checksum. -/
def cdig (b c k j : Nat) : Nat := k / 2 ^ (b * (c - 1 - j)) % 2 ^ b
/-- The first n of c digits of the checksum. -/
def cdigs (b c k n : Nat) : List Int := (List.range n).map fun j => (cdig b c k j : Int)
theorem cdigs_succ (b c k n : Nat) : cdigs b c k (n + 1) = cdigs b c k n ++ [(cdig b c k n : Int)] := by
  unfold cdigs; rw [List.range_succ, List.map_append]; rfl
theorem cdigs_len (b c k n : Nat) : (cdigs b c k n).length = n := by simp [cdigs]
theorem cdig_lt (b c k j : Nat) : cdig b c k j < 2 ^ b := Nat.mod_lt _ (Nat.two_pow_pos b)
/-- How many digits a digest of 32 bytes has. -/
def mN (b : Nat) : Nat := 256 / b
/-- How many digits the checksum has. -/
def cN (b : Nat) : Nat := if b = 1 then 9 else if b = 2 then 5 else 3
/-- All digits. -/
def dgF (b : Nat) (xs : List Int) : List Int := digs b xs (mN b) ++ cdigs b (cN b) (cks b xs (mN b)) (cN b)
theorem dgF_len (b : Nat) (xs : List Int) : (dgF b xs).length = mN b + cN b := by
  unfold dgF; rw [List.length_append, digs_len, cdigs_len]
theorem dgF_rng (b : Nat) (xs : List Int) : ∀ d ∈ dgF b xs, 0 ≤ d ∧ d ≤ 2 ^ b - 1 := by
  intro d hd
  have hp : ((2 ^ b : Nat) : Int) = 2 ^ b := by simp
  unfold dgF digs cdigs at hd
  rw [List.mem_append] at hd
  rcases hd with hd | hd
  · obtain ⟨i, _, rfl⟩ := List.mem_map.1 hd
    have := dig_lt b xs i
    omega
  · obtain ⟨i, _, rfl⟩ := List.mem_map.1 hd
    have := cdig_lt b (cN b) (cks b xs (mN b)) i
    omega
/-- A bit of a digest. -/
def bitN (xs : List Int) (i : Nat) : Nat := (xs.getD (i / 8) 0).toNat / 2 ^ (7 - i % 8) % 2
/-- A digit by its bits. -/
def rdg (b : Nat) (xs : List Int) (i : Nat) : Nat → Nat
  | 0 => 0
  | k + 1 => 2 * rdg b xs i k + bitN xs (i * b + k)
theorem rdg_eq (b : Nat) (xs : List Int) (i : Nat) (hb : b = 1 ∨ b = 2 ∨ b = 4) (hx : ∀ x ∈ xs, 0 ≤ x ∧ x < 256) : rdg b xs i b = dig b xs i := by
  have hz : ∀ q, (xs.getD q 0).toNat < 256 := fun q => by
    rw [List.getD_eq_getElem?_getD]
    cases h : xs[q]? with
    | none => simp
    | some x =>
      have := hx x (List.mem_of_getElem? h)
      simp; omega
  rcases hb with rfl | rfl | rfl
  · have q := hz (i / 8)
    unfold dig perB
    simp only [rdg, bitN]
    have e1 : (i * 1 + 0) / 8 = i / 8 := by omega
    have e2 : (i * 1 + 0) % 8 = i % 8 := by omega
    rw [e1, e2]
    have e3 : 8 - 1 * (i % (8 / 1) + 1) = 7 - i % 8 := by omega
    rw [e3]
    simp
  · have q := hz (i / 4)
    unfold dig perB
    simp only [rdg, bitN]
    have e1 : (i * 2 + 0) / 8 = i / 4 := by omega
    have e2 : (i * 2 + 0) % 8 = 2 * (i % 4) := by omega
    have e3 : (i * 2 + 1) / 8 = i / 4 := by omega
    have e4 : (i * 2 + 1) % 8 = 2 * (i % 4) + 1 := by omega
    rw [e1, e2, e3, e4]
    show 2 * (2 * 0 + _) + _ = (xs.getD (i / 4) 0).toNat / 2 ^ (8 - 2 * (i % 4 + 1)) % 4
    have h4 : i % 4 < 4 := Nat.mod_lt _ (by decide)
    generalize (xs.getD (i / 4) 0).toNat = x at *
    generalize i % 4 = j at *
    have : j = 0 ∨ j = 1 ∨ j = 2 ∨ j = 3 := by omega
    rcases this with rfl | rfl | rfl | rfl <;> (simp only [Nat.reduceMul, Nat.reduceAdd, Nat.reduceSub, Nat.reducePow]; omega)
  · have q := hz (i / 2)
    unfold dig perB
    simp only [rdg, bitN]
    have e1 : (i * 4 + 0) / 8 = i / 2 := by omega
    have e2 : (i * 4 + 0) % 8 = 4 * (i % 2) := by omega
    have e3 : (i * 4 + 1) / 8 = i / 2 := by omega
    have e4 : (i * 4 + 1) % 8 = 4 * (i % 2) + 1 := by omega
    have e5 : (i * 4 + 2) / 8 = i / 2 := by omega
    have e6 : (i * 4 + 2) % 8 = 4 * (i % 2) + 2 := by omega
    have e7 : (i * 4 + 3) / 8 = i / 2 := by omega
    have e8 : (i * 4 + 3) % 8 = 4 * (i % 2) + 3 := by omega
    rw [e1, e2, e3, e4, e5, e6, e7, e8]
    show 2 * (2 * (2 * (2 * 0 + _) + _) + _) + _ = (xs.getD (i / 2) 0).toNat / 2 ^ (8 - 4 * (i % 2 + 1)) % 16
    have h4 : i % 2 < 2 := Nat.mod_lt _ (by decide)
    generalize (xs.getD (i / 2) 0).toNat = x at *
    generalize i % 2 = j at *
    have : j = 0 ∨ j = 1 := by omega
    rcases this with rfl | rfl <;> (simp only [Nat.reduceMul, Nat.reduceAdd, Nat.reduceSub, Nat.reducePow]; omega)
/-- The value of a chain after k steps from step f. -/
def chF (c f : Nat) : Nat → ByteArray → ByteArray
  | 0, x => x
  | k + 1, x => baOf (shaB (sB "chain".toUTF8 ++ enc c ++ enc (f + k) ++ sB (chF c f k x)))
theorem chF_size (c f : Nat) (x : ByteArray) (hx : x.size = 32) : ∀ k, (chF c f k x).size = 32
  | 0 => hx
  | k + 1 => by
    rw [chF, ← sB_len, baOf_sB (shaB_byt _), shaB_len]
/-- The last values of all chains. -/
def endsF (b : Nat) (ds : List Int) (ps : List ByteArray) (n : Nat) : List ByteArray :=
  (List.range n).map fun i => chF i (ds.getD i 0).toNat (2 ^ b - 1 - (ds.getD i 0).toNat) (ps.getD i ⟨#[]⟩)
theorem endsF_succ (b : Nat) (ds : List Int) (ps : List ByteArray) (n : Nat) : endsF b ds ps (n + 1) = endsF b ds ps n ++ [chF n (ds.getD n 0).toNat (2 ^ b - 1 - (ds.getD n 0).toNat) (ps.getD n ⟨#[]⟩)] := by
  unfold endsF; rw [List.range_succ, List.map_append]; rfl
theorem endsF_len (b : Nat) (ds : List Int) (ps : List ByteArray) (n : Nat) : (endsF b ds ps n).length = n := by simp [endsF]
/-- The public key of parts. -/
def pubF (b : Nat) (ds : List Int) (ps : List ByteArray) : ByteArray := baOf (shaB (sB "public".toUTF8 ++ jnL (endsF b ds ps ps.length)))
/-- The root from a leaf of 2^h ones. -/
def clF : ByteArray → Nat → List ByteArray → ByteArray
  | x, _, [] => x
  | x, i, p :: ps => clF (if i % 2 = 0 then ndS x p else ndS p x) (i / 2) ps
/-- The root of a path from below: the last element is the highest. -/
def upF : Nat → ByteArray → Nat → Nat → List ByteArray → ByteArray × Bool
  | k, x, i, n, ps =>
    if n = 1 then (x, decide (ps.length = 0))
    else if ps.length = 0 then (⟨#[]⟩, false)
    else match k with
      | 0 => (⟨#[]⟩, false)
      | k + 1 =>
        if i < spl n then (ndS (upF k x i (spl n) ps.dropLast).1 (ps.getLastD ⟨#[]⟩), (upF k x i (spl n) ps.dropLast).2)
        else (ndS (ps.getLastD ⟨#[]⟩) (upF k x (i - spl n) (n - spl n) ps.dropLast).1, (upF k x (i - spl n) (n - spl n) ps.dropLast).2)
end Go.Proofs.YtpdledjgbgalcaaGreatDoor
namespace Go.Proofs.YtpdledjgbgalcaaGreatDoor
open Go.RowKit Go.Lib
set_option linter.unusedVariables false
set_option linter.unusedSimpArgs false
set_option maxRecDepth 100000 in
theorem apG_any (A : Option Addr) (m c B : Nat) (xs : List Int) (n : Nat) (w : World) (hx : Sl fB w B A m xs) (hB : B ≤ w.heap.size) (hm : m ≤ 1000) (hn : n < 18446744073709551616) :
    Calls Tryz.prog 70 #[.slice A m c, .int .u64 n] w fun e w' => ∃ v, e = .returned v ∧ Own fB 5 w' w.heap.size v (xs ++ enc n) ∧ Below w.heap.size w w' := by
  obtain ⟨i0, hi, hz0, hz1, hz2⟩ := info_parts Tryz.infoB
  have HI := Lib.hid hi
  have HZ0 := Lib.hid hz0
  have HZ1 := Lib.hid hz1
  have HZ2 := Lib.hid hz2
  have hxl : xs.length = m := hx.1
  have HC : Hid (∀ v W, Own fB 5 W w.heap.size v xs → Below w.heap.size w W → Calls Tryz.prog 135 #[v, .int .u64 n] W fun e w' => ∃ v', e = .returned v' ∧ Own fB 5 w' w.heap.size v' (xs ++ enc n) ∧ Below w.heap.size w w') := fun v W hO hb =>
    (extend_any v xs n W w.heap.size hO hb.size hn (by omega)).mono (fun e w' ⟨v', h1, h2, h3, _⟩ => ⟨v', h1, h2, hb.trans (h3.below hb.size (fun i hi => (World.ownsRow.lt hO i hi).1))⟩)
  have HX := Lib.hid (fun W (hb : Below w.heap.size w W) => hx.up hb hB)
  have HL1 : Hid (((([] : List Int)).length + xs.length) * 1 ≤ 140737488355328) := by show _ ≤ _; simp; omega
  have HL2 : Hid ((([] : List Int)).length + xs.length ≤ maxLen) := by show _ ≤ _; simp; unfold maxLen; omega
  have HM : Hid ((m : Int) + 10 = ((m + 10 : Nat) : Int)) := by show _ = _; omega
  have HM2 : Hid (i0.bytes * (m + 10) ≤ 281474976710656) := by show _ ≤ _; rw [hz2]; omega
  have HM3 : Hid (m + 10 ≤ maxLen) := by show _ ≤ _; unfold maxLen; omega
  have hmI : ¬ (9223372036854775807 : Int) < (m : Int) + 10 := by omega
  clear hi hz0 hz1 hz2 hx hxl hB
  go_enter Tryz.func70, Tryz.ntmps70
  go_wp2_with (first
    | (at_make; (refine wpList_make_own w (o := ⟨some 8, _, _, _, _, _⟩) rfl _ _ 40 rfl w.heap.size 5 i0 (.int .u8 0) 1 Tryz.underlying40 HI.out HZ0.out HZ1.out _ _ _ (m + 10) rfl rfl HM.out HM2.out HM3.out (Nat.le_refl _) ?_); intro w1 hO1 hG1; (have HO1 : Hid (Own fB 5 w1 w.heap.size (.slice (some ⟨w.heap.size, 0, none⟩) 0 (m + 10 : Nat)) []) := hO1); (have HB1 : Hid (Below w.heap.size w w1) := grown_below hG1 (fun k hk => by cases hk) (Nat.le_refl _)); (have HS1 : Hid (w.heap.size ≤ w1.heap.size) := HB1.out.size); clear hO1 hG1)
    | (at_builtin; (with_reducible refine wpList_app (o := ⟨some 10, _, _, _, _, _⟩) rfl (.tmp 8) (.tmp 9) 40 rfl 5 i0 (.int .u8 0) 1 Tryz.underlying40 HI.out HZ0.out HZ1.out HZ2.out rfl _ ([] : List Int) w.heap.size rfl HO1.out A m c B xs rfl (HX.out w1 HB1.out) fB1 HL1.out HL2.out HS1.out ?_); intro v2 w2 HO2 HG2 HV2; (have HB2 : Hid (Below w.heap.size w w2) := HB1.out.trans (grown_below HG2.out (fun j hj => (World.ownsRow.lt HO1.out j hj).1) HS1.out)); (have HO2' : Hid (Own fB 5 w2 w.heap.size v2 xs) := HO2.out))
    | (go_at_call 135; (with_reducible refine (HC.out _ w2 HO2'.out HB2.out).mono ?_); rintro e w3 ⟨v3, rfl, ho, hb⟩))
  go_ret
  exact ⟨_, rfl, ho, hb⟩
set_option maxRecDepth 100000 in
theorem ssum_any (A : Option Addr) (n c B : Nat) (xs : List Int) (w : World) (hG : Glob w) (hx : Sl fB w B A n xs) (hc : n ≤ c) (hB : B ≤ w.heap.size) (hl : n ≤ 549755813887) (hxb : Byt xs) (hA : ∀ a, A = some a → a.block < w.heap.size) :
    Calls Tryz.prog 154 #[.slice A n c] w fun e w' => e = .returned (.string (baOf (shaB xs))) ∧ Below w.heap.size w w' := by
  have HC0 := Lib.hid (stNew_any w hG)
  have HXB := Lib.hid hxb
  have hb0 : Below w.heap.size w (w.alloc newSt) := (Below.refl _ _).alloc (Nat.le_refl _) _
  have H2 : Hid (Calls Tryz.prog 199 #[.pointer (some ⟨w.heap.size, 0, none⟩), .slice A n c] (w.alloc newSt) fun e w' => e = .returned (.tuple #[]) ∧ St w' w.heap.size xs ∧ But (fun k => k = w.heap.size) (w.alloc newSt) w') :=
    write_any w.heap.size [] xs A n c B (w.alloc newSt) (newSt_St w) (hx.up hb0 hB) hc (Nat.le_trans hB hb0.size) hxb (fun a ha => Nat.ne_of_lt (hA a ha)) (by rw [hx.1]; simp; omega) (hG.on hb0).1 (hG.on hb0).2.2 (Nat.ne_of_gt hG.2.2)
  have H3 : Hid (∀ w2, St w2 w.heap.size xs → Below w.heap.size w w2 → Calls Tryz.prog 200 #[.pointer (some ⟨w.heap.size, 0, none⟩)] w2 fun e w' => e = .returned (.string (baOf (shaB xs))) ∧ Below w2.heap.size w2 w') := fun w2 h2 hb =>
    sum_any w.heap.size xs w2 h2 (by rw [hx.1]; omega) (hG.on hb).1 (hG.on hb).2.2
  have HB0 := Lib.hid hb0
  clear hG hx hxb hA hb0
  go_enter Tryz.func154, Tryz.ntmps154
  go_wp2_with (first
    | (go_at_call 198; (with_reducible refine HC0.out.mono ?_); rintro e w0 ⟨rfl, hw0⟩; subst hw0)
    | (go_at_call 199; (with_reducible refine H2.out.mono ?_); rintro e w2 ⟨rfl, hs2, hb2⟩; (have HS2 := Lib.hid hs2); (have HB2 : Hid (Below w.heap.size w w2) := HB0.out.trans (hb2.below HB0.out.size (fun i hi => Nat.le_of_eq hi.symm))); clear hs2 hb2)
    | (go_at_call 200; (with_reducible refine (H3.out w2 HS2.out HB2.out).mono ?_); rintro e w3 ⟨rfl, hb3⟩; (have HB3 := Lib.hid hb3); clear hb3))
  go_ret
  exact ⟨rfl, HB2.out.trans (HB3.out.mono HB2.out.size)⟩
end Go.Proofs.YtpdledjgbgalcaaGreatDoor
namespace Go.Proofs.YtpdledjgbgalcaaGreatDoor
open Go.RowKit Go.Lib
set_option linter.unusedVariables false
set_option linter.unusedSimpArgs false
/-- Bits of a digit: one, two or four. -/
def BitN (b : Int) (β : Nat) : Prop := (b = 1 ∧ β = 1) ∨ (b = 2 ∧ β = 2) ∨ (b = 4 ∧ β = 4)
abbrev cPm (b : Int) : Array Value := #[.int .i64 b, .int .i64 32]
/-- The greatest digit. -/
def lsF (β : Nat) : Int := if β = 1 then 1 else if β = 2 then 3 else 15
def cNI (β : Nat) : Int := if β = 1 then 9 else if β = 2 then 5 else 3
def mNI (β : Nat) : Int := if β = 1 then 256 else if β = 2 then 128 else 64
theorem olast_any (b : Int) (β : Nat) (hb : BitN b β) (w : World) : Calls Tryz.prog 245 #[.agg (cPm b)] w fun e w' => e = .returned (.int .i64 (lsF β)) ∧ Below w.heap.size w w' := by
  have HB : Hid (Below w.heap.size w (w.alloc (.cells (cPm b) 268))) := (Below.refl _ _).alloc (Nat.le_refl _) _
  rcases hb with ⟨rfl, rfl⟩ | ⟨rfl, rfl⟩ | ⟨rfl, rfl⟩
  all_goals
    go_enter Tryz.func245, Tryz.ntmps245
    go_wp2
    go_ret
    exact ⟨rfl, HB.out⟩
set_option maxRecDepth 100000 in
theorem ovalid_any (b : Int) (β : Nat) (hb : BitN b β) (w : World) : Calls Tryz.prog 263 #[.agg (cPm b)] w fun e w' => e = .returned (.bool true) ∧ Below w.heap.size w w' := by
  have HB : Hid (Below w.heap.size w (w.alloc (.cells (cPm b) 268))) := (Below.refl _ _).alloc (Nat.le_refl _) _
  have i0 : ∀ w, (Instr.index 324 (.agg #[.int .i64 1, .int .i64 2, .int .i64 4, .int .i64 8]) (.int .i64 0)).run Tryz.prog w = .ok (.int .i64 1) w := fun _ => by kernel_rfl
  have i1 : ∀ w, (Instr.index 324 (.agg #[.int .i64 1, .int .i64 2, .int .i64 4, .int .i64 8]) (.int .i64 1)).run Tryz.prog w = .ok (.int .i64 2) w := fun _ => by kernel_rfl
  have i2 : ∀ w, (Instr.index 324 (.agg #[.int .i64 1, .int .i64 2, .int .i64 4, .int .i64 8]) (.int .i64 2)).run Tryz.prog w = .ok (.int .i64 4) w := fun _ => by kernel_rfl
  rcases hb with ⟨rfl, rfl⟩ | ⟨rfl, rfl⟩ | ⟨rfl, rfl⟩
  all_goals
    go_enter Tryz.func263, Tryz.ntmps263
    go_wp2
    refine wp_loop_rounds 3 ?_
    rw [rounds_succ]
    go_wp2
    (try rw [rounds_succ])
    go_wp2
    (try rw [rounds_succ])
    go_wp2
    go_ret
    exact ⟨rfl, HB.out⟩
set_option maxRecDepth 100000 in
theorem counts_any (b : Int) (β : Nat) (hb : BitN b β) (w : World) : Calls Tryz.prog 264 #[.agg (cPm b)] w fun e w' => e = .returned (.tuple #[.int .i64 (mNI β), .int .i64 (cNI β)]) ∧ Below w.heap.size w w' := by
  have HB : Hid (Below w.heap.size w (w.alloc (.cells (cPm b) 268))) := (Below.refl _ _).alloc (Nat.le_refl _) _
  have HL := Lib.hid (fun W => olast_any b β hb W)
  have hs : (w.alloc (.cells (cPm b) 268)).heap.size = w.heap.size + 1 := by simp
  have HC : Hid (∀ V, Below (w.heap.size + 1) (w.alloc (.cells (cPm b) 268)) V → V.cell? ⟨w.heap.size, 0, none⟩ = some (.int .i64 b) ∧ V.cell? ⟨w.heap.size, 1, none⟩ = some (.int .i64 32)) := fun V hv => by
    have q := (hv.block w.heap.size (Nat.lt_succ_self _)).trans (heap_alloc_new w _)
    refine ⟨?_, ?_⟩ <;> (rw [cell_of_row V _ _ _ _ _ q]; rfl)
  have HS := Lib.hid hs
  rcases hb with ⟨rfl, rfl⟩ | ⟨rfl, rfl⟩ | ⟨rfl, rfl⟩
  all_goals
    clear hs
    first | rw [show lsF 1 = 1 from rfl] at HL | rw [show lsF 2 = 3 from rfl] at HL | rw [show lsF 4 = 15 from rfl] at HL
    go_enter Tryz.func264, Tryz.ntmps264
    go_wp2_with (go_at_call 245; (with_reducible refine (HL.out _).mono ?_); rintro e W1 ⟨rfl, hb1⟩; (have HB1 : Hid (Below (w.heap.size + 1) (w.alloc (.cells (cPm _) 268)) W1) := HS.out ▸ hb1); (have hc := HC.out W1 HB1.out); obtain ⟨c0, c1⟩ := hc; clear hb1)
    refine wp_loop_rounds 10 ?_
    repeat (rw [rounds_succ]; go_wp2)
    go_ret2
    exact ⟨rfl, HB.out.trans (HB1.out.mono (Nat.le_succ _))⟩
end Go.Proofs.YtpdledjgbgalcaaGreatDoor
