/- The law Periods. -/
import Derived.Test.YtfffhdclbdmfnaaLwC
namespace Go.Proofs.Ytfffhdclbdmfnaa
open Go.RowKit Ret
set_option linter.unusedVariables false
set_option linter.unusedSimpArgs false

/-- What the law has found after j kept days. -/
def fnd (K : List Int) (p0 x : Int) (j : Nat) : Bool := decide (per 2 x < p0) || (K.take j).any fun d => decide (per 2 d = per 2 x) && decide (x ≤ d)
theorem fnd_snoc {K : List Int} {p0 x y : Int} {j : Nat} (h : K[j]? = some y) : fnd K p0 x (j + 1) = (fnd K p0 x j || (decide (per 2 y = per 2 x) && decide (x ≤ y))) := by
  unfold fnd
  rw [take_snoc h, List.any_append]
  simp [Bool.or_assoc]
theorem fnd_all {m : Nat} {xs : List Int} (hok : ∀ x ∈ xs, okD x) {x k0 : Int} (hx : x ∈ xs) (h0 : (keptL (Ret.one m) xs [])[0]? = some k0) : fnd (keptL (Ret.one m) xs []) (per 2 k0) x (keptL (Ret.one m) xs []).length = true := by
  unfold fnd
  rw [List.take_length]
  by_cases h : per 2 x < per 2 k0
  · rw [decide_eq_true h]; rfl
  · obtain ⟨d, hd, h1, h2⟩ := Ret.one_cover hok (List.mem_of_getElem? h0) hx (by omega)
    rw [decide_eq_false h, Bool.false_or, List.any_eq_true]
    exact ⟨d, hd, by rw [decide_eq_true h1, decide_eq_true h2]; rfl⟩
set_option maxRecDepth 20000 in
set_option maxHeartbeats 2000000 in
theorem lawPeriods_many (mo : Int) (A : Option Addr) (n cp : Nat) (w : World) (hf : 40 < n) : Calls Try.prog 8 #[.int .i64 mo, .slice A n cp] w (BoolB true w) := by
  have HB0 : Hid (Below w.heap.size w w) := Below.refl _ _
  have h1 : 40 < (n : Int) := by omega
  go_enter Try.func8, Try.ntmps8
  go_wp2_with fail
  refine (awake_any w).mono ?_
  rintro e w1 ⟨rfl, hb⟩
  have HB1 : Hid (Below w.heap.size w w1) := HB0.out.trans (hb.mono HB0.out.size)
  clear hb
  go_wp2_with fail
  refine (awake_any w1).mono ?_
  rintro e w2 ⟨rfl, hb⟩
  have HB2 : Hid (Below w.heap.size w w2) := HB1.out.trans (hb.mono HB1.out.size)
  clear hb
  go_wp2_with fail
  go_ret
  exact ⟨rfl, HB2.out⟩
set_option maxRecDepth 20000 in
set_option maxHeartbeats 2000000 in
theorem lawPeriods_bad (mo : Int) (A : Option Addr) (n cp : Nat) (w : World) (hf : n ≤ 40) (hk : ∀ W, Below w.heap.size w W → Calls Try.prog 22 #[.agg #[.int .i64 0, .int .i64 0, .int .i64 mo, .int .i64 0], .slice A n cp, .slice none 0 0] W (Slc2 I ([] : List Int) 1 W)) : Calls Try.prog 8 #[.int .i64 mo, .slice A n cp] w (BoolB true w) := by
  have HB0 : Hid (Below w.heap.size w w) := Below.refl _ _
  have h1 : ¬ 40 < (n : Int) := by omega
  have HK := Lib.hid hk
  clear hk
  go_enter Try.func8, Try.ntmps8
  go_wp2_with fail
  refine (awake_any w).mono ?_
  rintro e w1 ⟨rfl, hb⟩
  have HB1 : Hid (Below w.heap.size w w1) := HB0.out.trans (hb.mono HB0.out.size)
  clear hb
  go_wp2_with fail
  refine (HK.out w1 HB1.out).mono ?_
  rintro e w2 ⟨A1, n1, c1, rfl, hc1, hk1, hb⟩
  have HB2 : Hid (Below w.heap.size w w2) := HB1.out.trans (hb.mono HB1.out.size)
  obtain rfl : n1 = 0 := hk1.1.symm
  clear hk1 hc1
  clear hb
  go_wp2_with fail
  go_ret
  exact ⟨rfl, HB2.out⟩
set_option maxRecDepth 20000 in
set_option maxHeartbeats 2000000 in
theorem lawPeriods_good (m : Nat) (A : Option Addr) (n cp : Nat) (xs : List Int) (w : World) (hx : Sl I w w.heap.size A n xs) (hok : ∀ x ∈ xs, okD x) (hm : m ≤ 1000) (hf : n ≤ 40) (hk : ∀ W, Below w.heap.size w W → Calls Try.prog 22 #[.agg #[.int .i64 0, .int .i64 0, .int .i64 m, .int .i64 0], .slice A n cp, .slice none 0 0] W (Slc2 I (keptL (Ret.one m) xs []) 0 W)) : Calls Try.prog 8 #[.int .i64 m, .slice A n cp] w (BoolB true w) := by
  have HB0 : Hid (Below w.heap.size w w) := Below.refl _ _
  have h1 : ¬ 40 < (n : Int) := by omega
  have h1b : decide (40 < (n : Int)) = false := by simp; omega
  have HKC := Lib.hid hk
  have HX0 := Lib.hid hx
  have HOK := Lib.hid hok
  have HXL : Hid (xs.length = n) := hx.1
  have hlen := Ret.one_len (m := m) hok
  have HASC : Hid (∀ (p : Nat) (y z : Int), (keptL (Ret.one m) xs [])[p]? = some z → (keptL (Ret.one m) xs [])[p + 1]? = some y → per 2 z < per 2 y) := fun p y z hz hy => Ret.one_per_lt hok (List.mem_of_getElem? hz) (List.mem_of_getElem? hy) (by
    obtain ⟨h5, rfl⟩ := List.getElem?_eq_some_iff.1 hz
    obtain ⟨h6, rfl⟩ := List.getElem?_eq_some_iff.1 hy
    exact (List.pairwise_iff_getElem.1 (keptL_asc (Ret.one m) xs [])) p (p + 1) h5 h6 (by omega))
  have HKM : Hid (∀ y ∈ keptL (Ret.one m) xs [], okD y) := fun y hy => hok y (keptL_mem.1 hy).1
  have HFA : Hid (∀ x ∈ xs, ∀ k0, (keptL (Ret.one m) xs [])[0]? = some k0 → fnd (keptL (Ret.one m) xs []) (per 2 k0) x (keptL (Ret.one m) xs []).length = true) := fun x hx k0 h0 => fnd_all hok hx h0
  have hkl := keptL_len (Ret.one m) xs []
  rw [hx.1] at hkl
  obtain ⟨K, hK⟩ : ∃ K, keptL (Ret.one m) xs [] = K := ⟨_, rfl⟩
  rw [hK] at hlen HASC HKM HFA HKC hkl
  clear hK hk hx hok
  go_enter Try.func8, Try.ntmps8
  go_wp2_with fail
  refine (awake_any w).mono ?_
  rintro e w1 ⟨rfl, hb⟩
  have HB1 : Hid (Below w.heap.size w w1) := HB0.out.trans (hb.mono HB0.out.size)
  have HX1 : Hid (Sl I w1 w1.heap.size A n xs) := (HX0.out.up hb (Nat.le_refl _)).more' hb.size
  clear hb
  go_wp2_with fail
  refine (HKC.out w1 HB1.out).mono ?_
  rintro e w2 ⟨A1, n1, c1, rfl, hc1, hk1, hb⟩
  have HB2 : Hid (Below w.heap.size w w2) := HB1.out.trans (hb.mono HB1.out.size)
  have HX2 : Hid (Sl I w2 w2.heap.size A n xs) := (HX1.out.up hb (Nat.le_refl _)).more' hb.size
  have HK2 := Lib.hid hk1
  have HKL : Hid (K.length = n1) := hk1.1
  have hn1 : n1 ≤ 40 := by have := hk1.1; omega
  have hnm : ¬ (m : Int) < (n1 : Int) := by have := hk1.1; omega
  have hnd : decide (m < n1) = false := by simp; have := hk1.1; omega
  clear hk1 hc1
  clear hb
  have HWF : Hid (∀ W, Below w2.heap.size w2 W → Sl I W w2.heap.size A n xs ∧ Sl I W w2.heap.size A1 n1 K) := fun W h => ⟨HX2.out.up h (Nat.le_refl _), HK2.out.up h (Nat.le_refl _)⟩
  clear hlen hkl
  go_wp2
  go_loopw [7] (fun i wr => ∃ j : Nat, 1 ≤ j ∧ (j ≤ n1 ∨ j = 1) ∧ i = .int .i64 j ∧ Hid (Below w2.heap.size w2 wr)) (fun i _ => 41 - (intOf i).toNat)
  case atStart => exact ⟨1, by omega, by omega, rfl, Below.refl _ _⟩
  case round =>
    obtain ⟨j, hj1, hj2, rfl, HBr⟩ := hrel
    by_cases hlt : j < n1
    · obtain ⟨p, rfl⟩ : ∃ p, j = p + 1 := ⟨j - 1, by omega⟩
      obtain ⟨hsx, hsk⟩ := HWF.out wr HBr.out
      obtain ⟨b, off, y, rfl, hblt, hyk, hcy⟩ := hsk.2.at_ (k := p + 1) (by have := HKL.out; omega)
      obtain ⟨b', off', z, hA', _, hzk, hcz⟩ := hsk.2.at_ (k := p) (by have := HKL.out; omega)
      have hA'' : b' = b ∧ off' = off := by simpa [eq_comm] using hA'
      obtain ⟨rfl, rfl⟩ := hA''
      have hzy := HASC.out p y z hzk hyk
      have HYO : Hid (okD y) := HKM.out y (List.mem_of_getElem? hyk)
      have HZO : Hid (okD z) := HKM.out z (List.mem_of_getElem? hzk)
      obtain ⟨py, hpy⟩ : ∃ q, per 2 y = q := ⟨_, rfl⟩
      obtain ⟨pz, hpz⟩ : ∃ q, per 2 z = q := ⟨_, rfl⟩
      rw [hpy, hpz] at hzy
      have cY : Hid (∀ W, Calls Try.prog 24 #[.int .i64 y] W (IntB py W)) := fun W => hpy ▸ month_any y W HYO.out
      have cZ : Hid (∀ W, Calls Try.prog 24 #[.int .i64 z] W (IntB pz W)) := fun W => hpz ▸ month_any z W HZO.out
      have hd1 : decide (py ≤ pz) = false := by simp; omega
      have hd2 : ¬ py ≤ pz := by omega
      have HBB : Hid (b' < wr.heap.size) := Nat.lt_of_lt_of_le hblt HBr.out.size
      have hw1 : IntKind.i64.wrap ((p : Int) + 1 - 1) = (p : Int) := by rw [show ((p : Int) + 1 - 1) = (p : Int) from by omega]; exact IntWalk.i64_in _ (by omega)
      have hw3 : IntKind.i64.wrap (p : Int) = (p : Int) := IntWalk.i64_in _ (by omega)
      have hp0 : (0 : Int) ≤ (p : Int) := by omega
      have hp1 : (p : Int) < (n1 : Int) := by omega
      have hp2 : (p : Int) + 1 < (n1 : Int) := by omega
      have hp3 : (0 : Int) ≤ (p : Int) + 1 := by omega
      clear hsx hsk hyk hzk hA' hzy hpy hpz hblt
      go_wp2
      go_region_held3 (fun w' => w'.cell? ⟨b', off' + (p + 1), none⟩ = some (.int .i64 y) ∧ w'.cell? ⟨b', off' + p, none⟩ = some (.int .i64 z)) (first | go_keep | exact ⟨(HBb.out.cell (p := ⟨b', off' + (p + 1), none⟩) HBB.out).trans hcy, (HBb.out.cell (p := ⟨b', off' + p, none⟩) HBB.out).trans hcz⟩ | exact ⟨(HBa.out.cell (p := ⟨b', off' + (p + 1), none⟩) HBB.out).trans hcy, (HBa.out.cell (p := ⟨b', off' + p, none⟩) HBB.out).trans hcz⟩) (first | (go_at_call 24; (with_reducible refine (cY.out _).mono ?_); rintro e va ⟨rfl, hb⟩; (have HBa : Hid (Below wr.heap.size wr va) := Below.trans (by first | exact Below.refl _ _ | exact (Below.refl _ _).drew | exact below_dN (Below.refl _ _) _) hb); clear hb) | (go_at_call 24; (with_reducible refine (cZ.out _).mono ?_); rintro e vb ⟨rfl, hb⟩; (have HBb : Hid (Below wr.heap.size wr vb) := HBa.out.trans (hb.mono HBa.out.size)); clear hb))
      all_goals
        go_wp2
        go_roundw
        case rel => exact ⟨p + 1 + 1, by omega, by omega, by go_num, HBr.out.trans (HBb.out.mono HBr.out.size)⟩
        case measure => simp [intOf]; omega
    · clear hj1 hj2
      obtain ⟨w3, hw3⟩ : ∃ w3 : World, w3 = wr := ⟨_, rfl⟩
      rw [← hw3] at HBr ⊢
      clear hw3
      go_wp2
      go_loopw [8] (fun i wr => ∃ j : Nat, j ≤ n ∧ i = .int .i64 j ∧ Hid (Below w2.heap.size w2 wr)) (fun i _ => n - (intOf i).toNat)
      case atStart => exact ⟨0, Nat.zero_le _, rfl, HBr⟩
      case round =>
        obtain ⟨i, hi, rfl, HBs⟩ := hrel
        by_cases hgo : i < n ∧ 0 < n1
        · obtain ⟨hg1, hg2⟩ := hgo
          obtain ⟨hsx, hsk⟩ := HWF.out wr HBs.out
          obtain ⟨b, off, x, rfl, hblt, hxk, hcx⟩ := hsx.2.at_ (k := i) (by have := HXL.out; omega)
          obtain ⟨b', off', k0, rfl, hblt', hkk, hck⟩ := hsk.2.at_ (k := 0) (by have := HKL.out; omega)
          rw [Nat.add_zero] at hck
          have hxm := List.mem_of_getElem? hxk
          have HXO : Hid (okD x) := HOK.out x hxm
          have HK0 : Hid (okD k0) := HKM.out k0 (List.mem_of_getElem? hkk)
          have HFX : Hid (fnd K (per 2 k0) x K.length = true) := HFA.out x hxm k0 hkk
          obtain ⟨px, hpx⟩ : ∃ q, per 2 x = q := ⟨_, rfl⟩
          obtain ⟨p0, hp0⟩ : ∃ q, per 2 k0 = q := ⟨_, rfl⟩
          rw [hp0] at HFX
          have HPX := Lib.hid hpx
          have HXAT := Lib.hid hxk
          have cX : Hid (∀ W, Calls Try.prog 24 #[.int .i64 x] W (IntB px W)) := fun W => hpx ▸ month_any x W HXO.out
          have c0 : Hid (∀ W, Calls Try.prog 24 #[.int .i64 k0] W (IntB p0 W)) := fun W => hp0 ▸ month_any k0 W HK0.out
          have HBB : Hid (b < wr.heap.size ∧ b' < wr.heap.size) := ⟨Nat.lt_of_lt_of_le hblt HBs.out.size, Nat.lt_of_lt_of_le hblt' HBs.out.size⟩
          have hi0 : (0 : Int) ≤ (i : Int) := by omega
          have hi1 : (i : Int) < (n : Int) := by omega
          have hi2 : (0 : Int) < (n1 : Int) := by omega
          clear hsx hsk hxk hkk hxm hpx hp0 hblt hblt'
          go_wp2
          go_region_held3 (fun w' => w'.cell? ⟨b, off + i, none⟩ = some (.int .i64 x) ∧ w'.cell? ⟨b', off', none⟩ = some (.int .i64 k0)) (first | go_keep | exact ⟨(HBb.out.cell (p := ⟨b, off + i, none⟩) HBB.out.1).trans hcx, (HBb.out.cell (p := ⟨b', off', none⟩) HBB.out.2).trans hck⟩ | exact ⟨(HBa.out.cell (p := ⟨b, off + i, none⟩) HBB.out.1).trans hcx, (HBa.out.cell (p := ⟨b', off', none⟩) HBB.out.2).trans hck⟩) (first | (go_at_call 24; (with_reducible refine (cX.out _).mono ?_); rintro e va ⟨rfl, hb⟩; (have HBa : Hid (Below wr.heap.size wr va) := Below.trans (by first | exact Below.refl _ _ | exact (Below.refl _ _).drew | exact below_dN (Below.refl _ _) _) hb); clear hb) | (go_at_call 24; (with_reducible refine (c0.out _).mono ?_); rintro e vb ⟨rfl, hb⟩; (have HBb : Hid (Below wr.heap.size wr vb) := HBa.out.trans (hb.mono HBa.out.size)); clear hb))
          have HBt : Hid (Below w2.heap.size w2 vb) := HBs.out.trans (HBb.out.mono HBs.out.size)
          have HST : Hid (fnd K p0 x 0 = decide (px < p0)) := by show _ = _; unfold fnd; rw [HPX.out]; simp
          clear hcx hck HBa HBb
          go_wp2
          go_loopw [9, 10] (fun f q wr => ∃ (fb : Bool) (j : Nat), j ≤ n1 ∧ q = .int .i64 j ∧ f = .bool fb ∧ Hid (fnd K p0 x j = fb) ∧ Hid (Below w2.heap.size w2 wr)) (fun _ q _ => n1 - (intOf q).toNat)
          case atStart => exact ⟨decide (px < p0), 0, Nat.zero_le _, rfl, rfl, HST, HBt⟩
          case round =>
            obtain ⟨fb, j, hj, rfl, rfl, HFB, HBu⟩ := hrel
            clear HBt HST
            by_cases hlt2 : j < n1
            · obtain ⟨hsx, hsk⟩ := HWF.out wr HBu.out
              obtain ⟨b9, off9, x9, hA9, hblt, hxk, hcx⟩ := hsx.2.at_ (k := i) (by have := HXL.out; omega)
              obtain ⟨b8, off8, y, hA8, hblt', hyk, hcy⟩ := hsk.2.at_ (k := j) (by have := HKL.out; omega)
              have hA9' : b9 = b ∧ off9 = off := by simpa [eq_comm] using hA9
              have hA8' : b8 = b' ∧ off8 = off' := by simpa [eq_comm] using hA8
              obtain ⟨rfl, rfl⟩ := hA9'
              obtain ⟨rfl, rfl⟩ := hA8'
              obtain rfl : x9 = x := by have h5 := HXAT.out; exact Option.some.inj (hxk.symm.trans h5)
              have HYO : Hid (okD y) := HKM.out y (List.mem_of_getElem? hyk)
              have HNX : Hid (fnd K p0 x9 (j + 1) = (fb || (decide (per 2 y = px) && decide (x9 ≤ y)))) := by show _ = _; rw [fnd_snoc hyk, HFB.out, HPX.out]
              obtain ⟨py, hpy⟩ : ∃ q, per 2 y = q := ⟨_, rfl⟩
              rw [hpy] at HNX
              have cX : Hid (∀ W, Calls Try.prog 24 #[.int .i64 x9] W (IntB px W)) := fun W => HPX.out ▸ month_any x9 W HXO.out
              have cY : Hid (∀ W, Calls Try.prog 24 #[.int .i64 y] W (IntB py W)) := fun W => hpy ▸ month_any y W HYO.out
              have HBB2 : Hid (b9 < wr.heap.size ∧ b8 < wr.heap.size) := ⟨Nat.lt_of_lt_of_le hblt HBu.out.size, Nat.lt_of_lt_of_le hblt' HBu.out.size⟩
              have hj0 : (0 : Int) ≤ (j : Int) := by omega
              have hj1 : (j : Int) < (n1 : Int) := by omega
              clear hsx hsk hxk hyk hpy hblt hblt' hA8 hA9
              cases fb
              · have HNX2 : Hid (fnd K p0 x9 (j + 1) = (decide (py = px) && decide (x9 ≤ y))) := by show _ = _; rw [HNX.out]; rfl
                clear HNX
                by_cases he : py = px
                · by_cases hle : x9 ≤ y
                  · have HNX3 : Hid (fnd K p0 x9 (j + 1) = true) := by show _ = _; rw [HNX2.out, decide_eq_true he, decide_eq_true hle]; rfl
                    have hd1 : (py == px) = true := by simp [he]
                    have hd2 : decide (x9 ≤ y) = true := decide_eq_true hle
                    clear he
                    go_wp2
                    go_region_held3 (fun w' => w'.cell? ⟨b9, off9 + i, none⟩ = some (.int .i64 x9) ∧ w'.cell? ⟨b8, off8 + j, none⟩ = some (.int .i64 y)) (first | go_keep | exact ⟨(HBb.out.cell (p := ⟨b9, off9 + i, none⟩) HBB2.out.1).trans hcx, (HBb.out.cell (p := ⟨b8, off8 + j, none⟩) HBB2.out.2).trans hcy⟩ | exact ⟨(HBa.out.cell (p := ⟨b9, off9 + i, none⟩) HBB2.out.1).trans hcx, (HBa.out.cell (p := ⟨b8, off8 + j, none⟩) HBB2.out.2).trans hcy⟩) (first | (go_at_call 24; (with_reducible refine (cY.out _).mono ?_); rintro e va ⟨rfl, hb⟩; (have HBa : Hid (Below wr.heap.size wr va) := Below.trans (by first | exact Below.refl _ _ | exact (Below.refl _ _).drew | exact below_dN (Below.refl _ _) _) hb); clear hb) | (go_at_call 24; (with_reducible refine (cX.out _).mono ?_); rintro e vb ⟨rfl, hb⟩; (have HBb : Hid (Below wr.heap.size wr vb) := HBa.out.trans (hb.mono HBa.out.size)); clear hb))
                    all_goals
                      go_wp2
                      go_roundw
                      case rel => exact ⟨true, j + 1, by omega, by go_num, rfl, HNX3, HBu.out.trans (HBb.out.mono HBu.out.size)⟩
                      case measure => simp [intOf]; omega
                  · have HNX3 : Hid (fnd K p0 x9 (j + 1) = false) := by show _ = _; rw [HNX2.out, decide_eq_true he, decide_eq_false hle]; rfl
                    have hd1 : (py == px) = true := by simp [he]
                    have hd2 : decide (x9 ≤ y) = false := decide_eq_false hle
                    clear he
                    go_wp2
                    go_region_held3 (fun w' => w'.cell? ⟨b9, off9 + i, none⟩ = some (.int .i64 x9) ∧ w'.cell? ⟨b8, off8 + j, none⟩ = some (.int .i64 y)) (first | go_keep | exact ⟨(HBb.out.cell (p := ⟨b9, off9 + i, none⟩) HBB2.out.1).trans hcx, (HBb.out.cell (p := ⟨b8, off8 + j, none⟩) HBB2.out.2).trans hcy⟩ | exact ⟨(HBa.out.cell (p := ⟨b9, off9 + i, none⟩) HBB2.out.1).trans hcx, (HBa.out.cell (p := ⟨b8, off8 + j, none⟩) HBB2.out.2).trans hcy⟩) (first | (go_at_call 24; (with_reducible refine (cY.out _).mono ?_); rintro e va ⟨rfl, hb⟩; (have HBa : Hid (Below wr.heap.size wr va) := Below.trans (by first | exact Below.refl _ _ | exact (Below.refl _ _).drew | exact below_dN (Below.refl _ _) _) hb); clear hb) | (go_at_call 24; (with_reducible refine (cX.out _).mono ?_); rintro e vb ⟨rfl, hb⟩; (have HBb : Hid (Below wr.heap.size wr vb) := HBa.out.trans (hb.mono HBa.out.size)); clear hb))
                    all_goals
                      go_wp2
                      go_roundw
                      case rel => exact ⟨false, j + 1, by omega, by go_num, rfl, HNX3, HBu.out.trans (HBb.out.mono HBu.out.size)⟩
                      case measure => simp [intOf]; omega
                · have HNX3 : Hid (fnd K p0 x9 (j + 1) = false) := by show _ = _; rw [HNX2.out, decide_eq_false he]; rfl
                  have hd1 : (py == px) = false := by simp [he]
                  clear he
                  go_wp2
                  refine wp_region_noPanic ?_
                  refine wp_region_held_drew (S := (fun w' => w'.cell? ⟨b9, off9 + i, none⟩ = some (.int .i64 x9) ∧ w'.cell? ⟨b8, off8 + j, none⟩ = some (.int .i64 y))) (by kernel_rfl) (⟨hcx, hcy⟩) (fun hHeld => ?_)
                  refine wpAnyH_take (i := 0) (v := ?zv0) (by simp only [List.getElem?_toArray, List.getElem?_cons_zero]; rfl) (by kernel_rfl) (by kernel_rfl) (by kernel_rfl) (by exact fun _ _ _ h => h) (Or.inl ⟨by rfl, ?zy0⟩) (by assumption) ?zr0
                  case zy0 => (intro w hSw; (try dsimp only at hSw); go_simp; try (with_reducible rfl))
                  try simp only [Act.put, List.setIfInBounds_toArray, List.set_cons_zero, List.set_cons_succ]
                  refine wpAnyH_take (i := 1) (v := ?zv1) (by simp only [List.getElem?_toArray, List.getElem?_cons_succ, List.getElem?_cons_zero]; rfl) (by kernel_rfl) (by kernel_rfl) (by kernel_rfl) (by exact fun _ _ _ h => h) (Or.inl ⟨by rfl, ?zy1⟩) (by assumption) ?zr1
                  case zy1 => (intro w hSw; (try dsimp only at hSw); go_simp; try (with_reducible rfl))
                  try simp only [Act.put, List.setIfInBounds_toArray, List.set_cons_zero, List.set_cons_succ]
                  refine wpAnyH_take (i := 2) (v := ?zv2) (by simp only [List.getElem?_toArray, List.getElem?_cons_succ, List.getElem?_cons_zero]; rfl) (by kernel_rfl) (by kernel_rfl) (by kernel_rfl) (by exact fun _ _ _ h => h) (Or.inl ⟨by rfl, ?zy2⟩) (by assumption) ?zr2
                  case zy2 => (intro w hSw; (try dsimp only at hSw); go_simp; try (with_reducible rfl))
                  try simp only [Act.put, List.setIfInBounds_toArray, List.set_cons_zero, List.set_cons_succ]
                  refine wpAnyH_take (i := 3) (v := ?zv3) (by simp only [List.getElem?_toArray, List.getElem?_cons_succ, List.getElem?_cons_zero]; rfl) (by kernel_rfl) (by kernel_rfl) (by kernel_rfl) (by exact fun _ _ _ h => h) (Or.inl ⟨by rfl, ?zy3⟩) (by assumption) ?zr3
                  case zy3 => (intro w hSw; (try dsimp only at hSw); go_simp; try (with_reducible rfl))
                  try simp only [Act.put, List.setIfInBounds_toArray, List.set_cons_zero, List.set_cons_succ]
                  refine wpAnyH_take (i := 4) (v := ?zv4) (by simp only [List.getElem?_toArray, List.getElem?_cons_succ, List.getElem?_cons_zero]; rfl) (by kernel_rfl) (by kernel_rfl) (by kernel_rfl) (by exact fun _ _ _ h => h) (Or.inl ⟨by rfl, ?zy4⟩) (by assumption) ?zr4
                  case zy4 => (intro w hSw; (try dsimp only at hSw); go_simp; try (with_reducible rfl))
                  try simp only [Act.put, List.setIfInBounds_toArray, List.set_cons_zero, List.set_cons_succ]
                  refine wpAnyH_take (i := 5) (v := ?zv5) (by simp only [List.getElem?_toArray, List.getElem?_cons_succ, List.getElem?_cons_zero]; rfl) (by kernel_rfl) (by kernel_rfl) (by kernel_rfl) (by exact fun _ _ _ h => h) (Or.inl ⟨by rfl, ?zy5⟩) (by assumption) ?zr5
                  case zy5 => (intro w hSw; (try dsimp only at hSw); go_simp; try (with_reducible rfl))
                  try simp only [Act.put, List.setIfInBounds_toArray, List.set_cons_zero, List.set_cons_succ]
                  refine wpAnyH_take (i := 7) (v := ?zv7) (by simp only [List.getElem?_toArray, List.getElem?_cons_succ, List.getElem?_cons_zero]; rfl) (by kernel_rfl) (by kernel_rfl) (by kernel_rfl) (by exact fun _ _ _ h => h) (Or.inl ⟨by rfl, ?zy7⟩) (by assumption) ?zr7
                  case zy7 => (intro w hSw; (try dsimp only at hSw); go_simp; try (with_reducible rfl))
                  try simp only [Act.put, List.setIfInBounds_toArray, List.set_cons_zero, List.set_cons_succ]
                  refine wpAnyH_take (i := 8) (v := ?zv8) (by simp only [List.getElem?_toArray, List.getElem?_cons_succ, List.getElem?_cons_zero]; rfl) (by kernel_rfl) (by kernel_rfl) (by kernel_rfl) (by exact fun _ _ _ h => h) (Or.inl ⟨by rfl, ?zy8⟩) (by assumption) ?zr8
                  case zy8 => (intro w hSw; (try dsimp only at hSw); go_simp; try (with_reducible rfl))
                  try simp only [Act.put, List.setIfInBounds_toArray, List.set_cons_zero, List.set_cons_succ]
                  refine wpAnyH_take (i := 9) (v := ?zv9) (by simp only [List.getElem?_toArray, List.getElem?_cons_succ, List.getElem?_cons_zero]; rfl) (by kernel_rfl) (by kernel_rfl) (by kernel_rfl) (by exact fun _ _ _ h => h) (Or.inl ⟨by rfl, ?zy9⟩) (by assumption) ?zr9
                  case zy9 => (intro w hSw; (try dsimp only at hSw); go_simp; try (with_reducible rfl))
                  try simp only [Act.put, List.setIfInBounds_toArray, List.set_cons_zero, List.set_cons_succ]
                  refine wpAnyH_take (i := 10) (v := ?zv10) (by simp only [List.getElem?_toArray, List.getElem?_cons_succ, List.getElem?_cons_zero]; rfl) (by kernel_rfl) (by kernel_rfl) (by kernel_rfl) (by exact fun _ _ _ h => h) (Or.inl ⟨by rfl, ?zy10⟩) (by assumption) ?zr10
                  case zy10 => (intro w hSw; (try dsimp only at hSw); go_simp; try (with_reducible rfl))
                  try simp only [Act.put, List.setIfInBounds_toArray, List.set_cons_zero, List.set_cons_succ]
                  refine wpAnyH_ready (rs := [6]) (by kernel_rfl) (by simp) ?_
                  refine AllReadyH.cons (by simp only [List.getElem?_toArray, List.getElem?_cons_succ, List.getElem?_cons_zero]; rfl) (fun K hK => ?_) AllReadyH.nil
                  go_simp
                  (with_reducible refine (cY.out _).mono ?_)
                  rintro e va ⟨rfl, hb⟩
                  (have HBa : Hid (Below wr.heap.size wr va) := Below.trans (by first | exact Below.refl _ _ | exact (Below.refl _ _).drew | exact below_dN (Below.refl _ _) _) hb)
                  clear hb
                  go_wp2_with fail
                  refine hK.out _ _ ⟨(HBa.out.cell (p := ⟨b9, off9 + i, none⟩) HBB2.out.1).trans hcx, (HBa.out.cell (p := ⟨b8, off8 + j, none⟩) HBB2.out.2).trans hcy⟩ (fun hHeld1 => ?_)
                  clear hK K hHeld
                  try simp only [Act.put, List.setIfInBounds_toArray, List.set_cons_zero, List.set_cons_succ]
                  refine wpAnyH_ready (rs := [11]) (by kernel_rfl) (by simp) ?_
                  refine AllReadyH.cons (by simp only [List.getElem?_toArray, List.getElem?_cons_succ, List.getElem?_cons_zero]; rfl) (fun K hK => ?_) AllReadyH.nil
                  go_simp
                  (with_reducible refine (cX.out _).mono ?_)
                  rintro e vb ⟨rfl, hb⟩
                  (have HBb : Hid (Below wr.heap.size wr vb) := HBa.out.trans (hb.mono HBa.out.size))
                  clear hb
                  go_wp2_with fail
                  refine hK.out _ _ ⟨(HBb.out.cell (p := ⟨b9, off9 + i, none⟩) HBB2.out.1).trans hcx, (HBb.out.cell (p := ⟨b8, off8 + j, none⟩) HBB2.out.2).trans hcy⟩ (fun hHeld2 => ?_)
                  clear hK K hHeld1
                  try simp only [Act.put, List.setIfInBounds_toArray, List.set_cons_zero, List.set_cons_succ]
                  refine wpAnyH_take (i := 12) (v := ?zv12) (by simp only [List.getElem?_toArray, List.getElem?_cons_succ, List.getElem?_cons_zero]; rfl) (by kernel_rfl) (by kernel_rfl) (by kernel_rfl) (by exact fun _ _ _ h => h) (Or.inl ⟨by rfl, ?zy12⟩) (by assumption) ?zr12
                  case zy12 => (intro w hSw; (try dsimp only at hSw); go_simp; try (with_reducible rfl))
                  try simp only [Act.put, List.setIfInBounds_toArray, List.set_cons_zero, List.set_cons_succ]
                  refine wpAnyH_take (i := 13) (v := ?zv13) (by simp only [List.getElem?_toArray, List.getElem?_cons_succ, List.getElem?_cons_zero]; rfl) (by kernel_rfl) (by kernel_rfl) (by kernel_rfl) (by exact fun _ _ _ h => h) (Or.inl ⟨by rfl, ?zy13⟩) (by assumption) ?zr13
                  case zy13 => (intro w hSw; (try dsimp only at hSw); go_simp; try (with_reducible rfl))
                  try simp only [Act.put, List.setIfInBounds_toArray, List.set_cons_zero, List.set_cons_succ]
                  refine wpAnyH_take (i := 14) (v := undef) (by simp only [List.getElem?_toArray, List.getElem?_cons_succ, List.getElem?_cons_zero]; rfl) (by kernel_rfl) (by kernel_rfl) (by kernel_rfl) (by exact fun _ _ _ h => h) (Or.inr ⟨by rfl, rfl⟩) (by assumption) ?_
                  try simp only [Act.put, List.setIfInBounds_toArray, List.set_cons_zero, List.set_cons_succ]
                  refine wpAnyH_take (i := 15) (v := undef) (by simp only [List.getElem?_toArray, List.getElem?_cons_succ, List.getElem?_cons_zero]; rfl) (by kernel_rfl) (by kernel_rfl) (by kernel_rfl) (by exact fun _ _ _ h => h) (Or.inr ⟨by rfl, rfl⟩) (by assumption) ?_
                  try simp only [Act.put, List.setIfInBounds_toArray, List.set_cons_zero, List.set_cons_succ]
                  refine wpAnyH_take (i := 16) (v := undef) (by simp only [List.getElem?_toArray, List.getElem?_cons_succ, List.getElem?_cons_zero]; rfl) (by kernel_rfl) (by kernel_rfl) (by kernel_rfl) (by exact fun _ _ _ h => h) (Or.inr ⟨by rfl, rfl⟩) (by assumption) ?_
                  try simp only [Act.put, List.setIfInBounds_toArray, List.set_cons_zero, List.set_cons_succ]
                  refine wpAnyH_take (i := 17) (v := undef) (by simp only [List.getElem?_toArray, List.getElem?_cons_succ, List.getElem?_cons_zero]; rfl) (by kernel_rfl) (by kernel_rfl) (by kernel_rfl) (by exact fun _ _ _ h => h) (Or.inr ⟨by rfl, rfl⟩) (by assumption) ?_
                  try simp only [Act.put, List.setIfInBounds_toArray, List.set_cons_zero, List.set_cons_succ]
                  refine wpAnyH_take (i := 18) (v := undef) (by simp only [List.getElem?_toArray, List.getElem?_cons_succ, List.getElem?_cons_zero]; rfl) (by kernel_rfl) (by kernel_rfl) (by kernel_rfl) (by exact fun _ _ _ h => h) (Or.inr ⟨by rfl, rfl⟩) (by assumption) ?_
                  try simp only [Act.put, List.setIfInBounds_toArray, List.set_cons_zero, List.set_cons_succ]
                  refine wpAnyH_take (i := 19) (v := undef) (by simp only [List.getElem?_toArray, List.getElem?_cons_succ, List.getElem?_cons_zero]; rfl) (by kernel_rfl) (by kernel_rfl) (by kernel_rfl) (by exact fun _ _ _ h => h) (Or.inr ⟨by rfl, rfl⟩) (by assumption) ?_
                  try simp only [Act.put, List.setIfInBounds_toArray, List.set_cons_zero, List.set_cons_succ]
                  refine wpAnyH_take (i := 20) (v := undef) (by simp only [List.getElem?_toArray, List.getElem?_cons_succ, List.getElem?_cons_zero]; rfl) (by kernel_rfl) (by kernel_rfl) (by kernel_rfl) (by exact fun _ _ _ h => h) (Or.inr ⟨by rfl, rfl⟩) (by assumption) ?_
                  try simp only [Act.put, List.setIfInBounds_toArray, List.set_cons_zero, List.set_cons_succ]
                  refine wpAnyH_take (i := 21) (v := undef) (by simp only [List.getElem?_toArray, List.getElem?_cons_succ, List.getElem?_cons_zero]; rfl) (by kernel_rfl) (by kernel_rfl) (by kernel_rfl) (by exact fun _ _ _ h => h) (Or.inr ⟨by rfl, rfl⟩) (by assumption) ?_
                  try simp only [Act.put, List.setIfInBounds_toArray, List.set_cons_zero, List.set_cons_succ]
                  refine wpAnyH_take (i := 22) (v := undef) (by simp only [List.getElem?_toArray, List.getElem?_cons_succ, List.getElem?_cons_zero]; rfl) (by kernel_rfl) (by kernel_rfl) (by kernel_rfl) (by exact fun _ _ _ h => h) (Or.inr ⟨by rfl, rfl⟩) (by assumption) ?_
                  try simp only [Act.put, List.setIfInBounds_toArray, List.set_cons_zero, List.set_cons_succ]
                  refine wpAnyH_take (i := 23) (v := ?zv23) (by simp only [List.getElem?_toArray, List.getElem?_cons_succ, List.getElem?_cons_zero]; rfl) (by kernel_rfl) (by kernel_rfl) (by kernel_rfl) (by exact fun _ _ _ h => h) (Or.inl ⟨by rfl, ?zy23⟩) (by assumption) ?zr23
                  case zy23 => (intro w hSw; (try dsimp only at hSw); go_simp; try (with_reducible rfl))
                  try simp only [Act.put, List.setIfInBounds_toArray, List.set_cons_zero, List.set_cons_succ]
                  refine wpAnyH_take (i := 24) (v := ?zv24) (by simp only [List.getElem?_toArray, List.getElem?_cons_succ, List.getElem?_cons_zero]; rfl) (by kernel_rfl) (by kernel_rfl) (by kernel_rfl) (by exact fun _ _ _ h => h) (Or.inl ⟨by rfl, ?zy24⟩) (by assumption) ?zr24
                  case zy24 => (intro w hSw; (try dsimp only at hSw); go_simp; try (with_reducible rfl))
                  try simp only [Act.put, List.setIfInBounds_toArray, List.set_cons_zero, List.set_cons_succ]
                  refine wpAnyH_take (i := 25) (v := ?zv25) (by simp only [List.getElem?_toArray, List.getElem?_cons_succ, List.getElem?_cons_zero]; rfl) (by kernel_rfl) (by kernel_rfl) (by kernel_rfl) (by exact fun _ _ _ h => h) (Or.inl ⟨by rfl, ?zy25⟩) (by assumption) ?zr25
                  case zy25 => (intro w hSw; (try dsimp only at hSw); go_simp; try (with_reducible rfl))
                  try simp only [Act.put, List.setIfInBounds_toArray, List.set_cons_zero, List.set_cons_succ]
                  refine wpAnyH_done (by kernel_rfl) ?_ _
                  refine NoPanic.normal ?_
                  go_wp2
                  go_roundw
                  case rel => exact ⟨false, j + 1, by omega, by go_num, rfl, HNX3, HBu.out.trans (HBb.out.mono HBu.out.size)⟩
                  case measure => simp [intOf]; omega
              · have HNX3 : Hid (fnd K p0 x9 (j + 1) = true) := by show _ = _; rw [HNX.out]; rfl
                go_wp2
                go_quiet (fail)
                go_wp2
                go_roundw
                case rel => exact ⟨true, j + 1, by omega, by go_num, rfl, HNX3, below_dN HBu.out _⟩
                case measure => simp [intOf]; omega
            · obtain rfl : n1 = j := by omega
              obtain rfl : fb = true := by have h5 := HFX.out; have h6 := HFB.out; rw [HKL.out] at h5; exact h6.symm.trans h5
              go_wp2
              go_roundw
              case rel => exact ⟨i + 1, by omega, by go_num, HBu⟩
              case measure => simp [intOf]; omega
        · have HBf : Hid (Below w.heap.size w wr) := HB2.out.trans (HBs.out.mono HB2.out.size)
          by_cases hg1 : i < n
          · have hg2 : ¬ 0 < n1 := fun h => hgo ⟨hg1, h⟩
            obtain rfl : n1 = 0 := by omega
            clear hgo
            go_wp2
            go_ret
            exact ⟨rfl, HBf.out⟩
          · clear hgo
            go_wp2
            go_ret
            exact ⟨rfl, HBf.out⟩
theorem lawPeriods_any (mo : Int) (A : Option Addr) (n cp : Nat) (xs : List Int) (w : World) (hx : Sl I w w.heap.size A n xs) : Calls Try.prog 8 #[.int .i64 mo, .slice A n cp] w (BoolB true w) := by
  by_cases hf : 40 < n
  · exact lawPeriods_many mo A n cp w hf
  · cases hb : argB 0 0 mo 0 xs []
    · exact lawPeriods_bad mo A n cp w (by omega) fun W h => keep_no 0 0 mo 0 A none n 0 cp 0 xs [] W ((hx.up h (Nat.le_refl _)).more' h.size) ⟨rfl, SL.nil⟩ (by omega) (by omega) hb
    · obtain ⟨nm, e1, e2, rfl, e4, h1, h2, h3, h4⟩ := argB_nums hb
      have he : nm = Ret.one nm.c := by
        obtain ⟨na, nb, nc, nd⟩ := nm
        simp only at e1 e2 e4
        unfold Ret.one
        congr 1 <;> omega
      refine lawPeriods_good nm.c A n cp xs w hx (argB_days hb) h3 (by omega) fun W h => ?_
      exact keep_yes (Ret.one nm.c) A none n 0 cp 0 xs [] W ((hx.up h (Nat.le_refl _)).more' h.size) ⟨rfl, SL.nil⟩ (by omega) (by omega) hb
end Go.Proofs.Ytfffhdclbdmfnaa
