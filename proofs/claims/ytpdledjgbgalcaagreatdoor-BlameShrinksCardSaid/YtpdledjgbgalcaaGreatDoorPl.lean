/- The reference's one-time signatures: parameters, bits. The reference's bits and digits of a digest. One-time signatures: a chain. -/
import Derived.Test.YtpdledjgbgalcaaGreatDoorN3
import Derived.Lib.SlBytesConst
namespace Go.Proofs.YtpdledjgbgalcaaGreatDoor
open Go.RowKit Go.Lib
set_option linter.unusedVariables false
set_option linter.unusedSimpArgs false
def bsF (β : Nat) : Int := if β = 1 then 2 else if β = 2 then 4 else 16
end Go.Proofs.YtpdledjgbgalcaaGreatDoor
namespace Go.Proofs.YtpdledjgbgalcaaGreatDoor
open Go.RowKit Go.Lib
set_option linter.unusedVariables false
set_option linter.unusedSimpArgs false
end Go.Proofs.YtpdledjgbgalcaaGreatDoor
namespace Go.Proofs.YtpdledjgbgalcaaGreatDoor
open Go.RowKit Go.Lib
set_option linter.unusedVariables false
set_option linter.unusedSimpArgs false
abbrev chL : List Int := [99, 104, 97, 105, 110]
theorem chL_eq : sB "chain".toUTF8 = chL := by decide +kernel
theorem ovc_any (i : Nat) (hi : i ≤ 999) (w : World) : Calls Tryz.prog 265 #[.int .i64 i] w fun e w' => e = .returned (.bool true) ∧ w = w' := by
  have h1 : (i : Int) ≤ 999 := by omega
  have h0 : (0 : Int) ≤ i := by omega
  go_enter Tryz.func265, Tryz.ntmps265
  go_wp2
  go_ret
  exact ⟨rfl, rfl⟩
theorem ois_any (x : ByteArray) (hx : x.size = 32) (w : World) : Calls Tryz.prog 266 #[.string x] w fun e w' => e = .returned (.bool true) ∧ w = w' := by
  have h1 : ((x.size : Int) == 32) = true := by simp [hx]
  go_enter Tryz.func266, Tryz.ntmps266
  go_wp2
  go_ret
  exact ⟨rfl, rfl⟩
theorem enc_len10 (n : Nat) (h : n < 18446744073709551616) : (enc n).length ≤ 10 := enc_len n
theorem own_hA {w : World} {B n : Nat} {A : Option Addr} {xs : List Int} (h : Sl fB w B A n xs) (h0 : 0 < n) : ∀ a, A = some a → a.block < B := fun a ha => by
  obtain ⟨b, off, e, hlt⟩ := h.at0 h0
  rw [ha] at e
  cases e
  exact hlt
set_option maxRecDepth 100000 in
set_option maxHeartbeats 8000000 in
theorem chain_any (i f t : Nat) (hi : i ≤ 999) (hf : f ≤ t) (ht : t ≤ 255) (x : ByteArray) (hx : x.size = 32) (w : World) (hG : Glob w) :
    Calls Tryz.prog 244 #[.int .i64 i, .int .i64 f, .int .i64 t, .string x] w fun e w' => e = .returned (.tuple #[.string (chF i f (t - f) x), .int .i64 0]) ∧ Below w.heap.size w w' := by
  obtain ⟨i0, hi0, hz0, hz1, hz2⟩ := info_parts Tryz.infoB
  have HI := Lib.hid hi0
  have HZ0 := Lib.hid hz0
  have HZ1 := Lib.hid hz1
  have HZ2 := Lib.hid hz2
  have HG := Lib.hid hG
  have HV := Lib.hid (fun W => ovc_any i hi W)
  have HIS := Lib.hid (fun W => ois_any x hx W)
  have HSZ : Hid (∀ k, (chF i f k x).size = 32) := chF_size i f x hx
  have HEL := Lib.hid (enc_len10 i (by omega))
  have h1 : ¬ (f : Int) < 0 := by omega
  have h2 : ¬ (t : Int) < (f : Int) := by omega
  have h3 : ¬ (255 : Int) < (t : Int) := by omega
  have hwi : IntKind.u64.wrap (i : Int) = i := by unfold IntKind.wrap; simp [IntKind.bits, IntKind.signed]; omega
  have kc : Hid (∀ W : World, Sl fB (W.alloc (.cells #[.int .u8 99, .int .u8 104, .int .u8 97, .int .u8 105, .int .u8 110] 5 (5, 6))) (W.alloc (.cells #[.int .u8 99, .int .u8 104, .int .u8 97, .int .u8 105, .int .u8 110] 5 (5, 6))).heap.size (some ⟨W.heap.size, 0, none⟩) 5 chL) := fun W => ⟨rfl, SL.of_block (t := 5) (fr := (5, 6)) (heap_alloc_new W _) (by simp)⟩
  have HAP : Hid (∀ W : World, Calls Tryz.prog 70 #[.slice (some ⟨W.heap.size, 0, none⟩) 5 5, .int .u64 i] (W.alloc (.cells #[.int .u8 99, .int .u8 104, .int .u8 97, .int .u8 105, .int .u8 110] 5 (5, 6))) fun e w' => ∃ v, e = .returned v ∧ Own fB 5 w' (W.alloc (.cells #[.int .u8 99, .int .u8 104, .int .u8 97, .int .u8 105, .int .u8 110] 5 (5, 6))).heap.size v (chL ++ enc i) ∧ Below (W.alloc (.cells #[.int .u8 99, .int .u8 104, .int .u8 97, .int .u8 105, .int .u8 110] 5 (5, 6))).heap.size (W.alloc (.cells #[.int .u8 99, .int .u8 104, .int .u8 97, .int .u8 105, .int .u8 110] 5 (5, 6))) w') := fun W => apG_any _ 5 5 _ chL i _ (kc.out W) (Nat.le_refl _) (by omega) (by omega)
  have HB0 : Hid (Below w.heap.size w (w.alloc (.cells #[.int .u8 99, .int .u8 104, .int .u8 97, .int .u8 105, .int .u8 110] 5 (5, 6)))) := (Below.refl _ _).alloc (Nat.le_refl _) _
  have kcv := fun (w : World) (C : Array Value) (n c : Nat) => Lib.run_convert_bytes_const (P := Tryz.prog) w 40 5 C n c Tryz.underlying40 Tryz.underlying5
  clear hi0 hz0 hz1 hz2 hG hi hx
  go_enter Tryz.func244, Tryz.ntmps244
  go_upto_region 5 with (first
    | (go_at_call 265; (with_reducible refine (HV.out _).mono ?_); rintro e w1 ⟨rfl, rfl⟩)
    | (go_at_call 266; (with_reducible refine (HIS.out _).mono ?_); rintro e w1 ⟨rfl, rfl⟩)
    | (go_at_call 70; (with_reducible refine (HAP.out _).mono ?_); rintro e w2 ⟨v1, rfl, ho, hb2⟩; (have HO := Lib.hid ho); (have HB2 : Hid (Below w.heap.size w w2) := HB0.out.trans (hb2.mono HB0.out.size)); clear ho hb2))
  obtain ⟨A1, c1, hv1, hc1, hs1, _⟩ := HO.out.shape
  obtain ⟨m1, hm1⟩ : ∃ m, (chL ++ enc i).length = m := ⟨_, rfl⟩
  have HS1 : Hid (Sl fB w2 w2.heap.size A1 m1 (chL ++ enc i)) := ⟨hm1, hs1⟩
  have hm15 : m1 ≤ 15 := by rw [← hm1, List.length_append]; have := HEL.out; show 5 + _ ≤ 15; omega
  rw [hm1] at hv1 hc1
  subst hv1
  clear hs1 kcv HO kc HAP HV HIS
  have HR0 : Hid (chF i f 0 x = x) := rfl
  have HBW : Hid (Below w2.heap.size w2 w2) := Below.refl _ _
  go_loopw [3, 11] (fun v s wr => ∃ (k : Nat) (y : ByteArray), k ≤ t - f ∧ s = .int .i64 ((f + k : Nat) : Int) ∧ v = .string y ∧ Hid (chF i f k x = y) ∧ Hid (Below w2.heap.size w2 wr)) (fun _ s _ => t - (intOf s).toNat)
  case atStart => exact ⟨0, x, by omega, rfl, rfl, HR0, HBW⟩
  case round =>
    obtain ⟨k, y, hk, rfl, rfl, HY, HBr⟩ := hrel
    have hy32 : y.size = 32 := by rw [← HY.out]; exact HSZ.out k
    have HY32 := Lib.hid hy32
    clear hy32
    by_cases hlt : k < t - f
    · obtain ⟨q, hq⟩ : ∃ q, f + k = q := ⟨_, rfl⟩
      have HQ := Lib.hid hq
      have hqt : q < t := by omega
      have hqtI : (q : Int) < (t : Int) := by omega
      have hwq : IntKind.u64.wrap (q : Int) = q := by unfold IntKind.wrap; simp [IntKind.bits, IntKind.signed]; omega
      rw [hq]
      have HEQ := Lib.hid (enc_len10 q (by omega))
      have HAP : Hid (Calls Tryz.prog 70 #[.slice A1 m1 c1, .int .u64 q] wr fun e w' => ∃ v, e = .returned v ∧ Own fB 5 w' wr.heap.size v ((chL ++ enc i) ++ enc q) ∧ Below wr.heap.size wr w') := apG_any A1 m1 c1 w2.heap.size _ q wr (HS1.out.up HBr.out (Nat.le_refl _)) HBr.out.size (by omega) (by omega)
      have HLEN : Hid (((chL ++ enc i) ++ enc q).length + y.size ≤ 60) := by show _ ≤ _; rw [List.length_append, HS1.out.1, HY32.out]; have := HEQ.out; omega
      have HK1 : Hid (((chL ++ enc i) ++ enc q).length + y.size ≤ 140737488355328) := Nat.le_trans HLEN.out (by omega)
      have HBY : Hid (Byt (((chL ++ enc i) ++ enc q) ++ sB y)) := fun z hz => by
        rcases List.mem_append.1 hz with hz | hz
        · rcases List.mem_append.1 hz with hz | hz
          · rcases List.mem_append.1 hz with hz | hz
            · (rcases List.mem_cons.1 hz with rfl | hz; · omega); (rcases List.mem_cons.1 hz with rfl | hz; · omega); (rcases List.mem_cons.1 hz with rfl | hz; · omega); (rcases List.mem_cons.1 hz with rfl | hz; · omega); (rcases List.mem_cons.1 hz with rfl | hz; · omega); cases hz
            · exact enc_rng _ z hz
          · exact enc_rng _ z hz
        · exact sB_rng y z hz
      have HNX : Hid (chF i f (k + 1) x = baOf (shaB (((chL ++ enc i) ++ enc q) ++ sB y))) := by
        show _ = _
        rw [chF, HY.out, chL_eq, HQ.out]
      clear hq
      go_wp2_with (first
        | (go_at_call 70; (with_reducible refine HAP.out.mono ?_); rintro e w3 ⟨v3, rfl, ho, hb3⟩; (have HO3 := Lib.hid ho); (have HB3 : Hid (Below w2.heap.size w2 w3) := HBr.out.trans (hb3.mono HBr.out.size)); (have HZ3 : Hid (wr.heap.size ≤ w3.heap.size) := hb3.size); (have HB3r : Hid (Below wr.heap.size wr w3) := hb3); clear ho hb3)
        | (at_builtin; (refine wpList_app_str (o := ⟨some 49, _, _, _, _, _⟩) rfl (.tmp 47) (.tmp 48) 40 9 rfl 5 i0 Tryz.underlying40 Tryz.underlying9 HI.out HZ0.out HZ1.out HZ2.out v3 ((chL ++ enc i) ++ enc q) wr.heap.size (by rfl) HO3.out y (by rfl) HK1.out HZ3.out ?_); intro v4 w4 HO4 HG4 HV4; (obtain ⟨A4, c4, hv4, hc4, hs4, _⟩ := HO4.out.shape); (obtain ⟨n4, hn4⟩ : ∃ n4, (((chL ++ enc i) ++ enc q) ++ sB y).length = n4 := ⟨_, rfl⟩); (have HN4 := Lib.hid hn4); (rw [hn4] at hv4 hc4); subst hv4; (have HB4 : Hid (Below w2.heap.size w2 w4) := HB3.out.trans (grown_below HG4.out (fun j hj => Nat.le_trans HBr.out.size (World.ownsRow.lt HO3.out j hj).1) HB3.out.size)); (have HS4 : Hid (Sl fB w4 w4.heap.size A4 n4 (((chL ++ enc i) ++ enc q) ++ sB y)) := ⟨hn4, hs4⟩); (have HC4 := Lib.hid hc4); clear hs4 hc4 hn4; (have HSU : Hid (Calls Tryz.prog 154 #[.slice A4 n4 c4] w4 fun e w' => e = .returned (.string (baOf (shaB (((chL ++ enc i) ++ enc q) ++ sB y)))) ∧ Below w4.heap.size w4 w') := ssum_any A4 _ c4 w4.heap.size _ w4 (HG.out.on (HB2.out.trans (HB4.out.mono HB2.out.size))) HS4.out HC4.out (Nat.le_refl _) (by have := HLEN.out; rw [← HN4.out, List.length_append, sB_len]; omega) (HBY.out) (own_hA HS4.out (by rw [← HN4.out, List.length_append, sB_len, HY32.out]; omega))); (rw [← HNX.out] at HSU))
        | (go_at_call 154; (with_reducible refine HSU.out.mono ?_); rintro e w5 ⟨rfl, hb5⟩; (have HB5 : Hid (Below w2.heap.size w2 w5) := HB4.out.trans (hb5.mono HB4.out.size)); clear hb5))
      refine ⟨?rel, ?measure⟩
      case rel => exact ⟨k + 1, _, by omega, (by (have := HQ.out; refine congrArg (Value.int .i64) ?_; omega)), rfl, rfl, HB5⟩
      case measure => (have := HQ.out; simp [intOf] <;> omega)
    · obtain rfl : k = t - f := by omega
      have hge : ¬ ((f + (t - f) : Nat) : Int) < (t : Int) := by omega
      go_wp2
      go_ret2
      exact ⟨by rw [HY.out]; rfl, HB2.out.trans (HBr.out.mono HB2.out.size)⟩
end Go.Proofs.YtpdledjgbgalcaaGreatDoor
