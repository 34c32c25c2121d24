/- The reference: period, by. -/
import Derived.Test.YtfffhdclbdmfnaaCalD
import Derived.Test.YtfffhdclbdmfnaaLeaf2
import Derived.Test.YtfffhdclbdmfnaaIter
namespace Go.Proofs.Ytfffhdclbdmfnaa
open Go.RowKit Ret
set_option linter.unusedVariables false
set_option linter.unusedSimpArgs false

theorem rper0 (d : Int) (w : World) : Calls Try.prog 63 #[.int .i64 0, .int .i64 d] w (IntB (per 0 d) w) := by
  go_enter Try.func63, Try.ntmps63
  go_wp2
  go_ret
  exact ⟨rfl, Below.refl _ _⟩
theorem rper1 (d : Int) (w : World) (hd : okD d) : Calls Try.prog 63 #[.int .i64 1, .int .i64 d] w (IntB (per 1 d) w) := by
  have HC := Lib.hid (rweek_any d w hd)
  clear hd
  obtain ⟨p, hp⟩ : ∃ p, per 1 d = p := ⟨_, rfl⟩
  rw [hp] at HC ⊢
  clear hp
  go_enter Try.func63, Try.ntmps63
  go_wp2_with fail
  refine HC.out.mono ?_
  rintro e w1 ⟨rfl, hb⟩
  have HB := Lib.hid hb
  clear hb
  go_wp2
  go_ret
  exact ⟨rfl, HB.out⟩
theorem rper2 (d : Int) (w : World) (hd : okD d) : Calls Try.prog 63 #[.int .i64 2, .int .i64 d] w (IntB (per 2 d) w) := by
  have HC := Lib.hid (rmonth_any d w hd)
  clear hd
  obtain ⟨p, hp⟩ : ∃ p, per 2 d = p := ⟨_, rfl⟩
  rw [hp] at HC ⊢
  clear hp
  go_enter Try.func63, Try.ntmps63
  go_wp2_with fail
  refine HC.out.mono ?_
  rintro e w1 ⟨rfl, hb⟩
  have HB := Lib.hid hb
  clear hb
  go_wp2
  go_ret
  exact ⟨rfl, HB.out⟩
theorem rper3 (d : Int) (w : World) (hd : okD d) : Calls Try.prog 63 #[.int .i64 3, .int .i64 d] w (IntB (per 3 d) w) := by
  have HC := Lib.hid (ryear_any d w hd)
  clear hd
  obtain ⟨p, hp⟩ : ∃ p, per 3 d = p := ⟨_, rfl⟩
  rw [hp] at HC ⊢
  clear hp
  go_enter Try.func63, Try.ntmps63
  go_wp2_with fail
  refine HC.out.mono ?_
  rintro e w1 ⟨rfl, hb⟩
  have HB := Lib.hid hb
  clear hb
  go_wp2
  go_ret
  exact ⟨rfl, HB.out⟩
theorem rper_any (k : Nat) (hk : k < 4) (d : Int) (hd : okD d) (w : World) : Calls Try.prog 63 #[.int .i64 k, .int .i64 d] w (IntB (per k d) w) := by
  match k, hk with
  | 0, _ => exact rper0 d w
  | 1, _ => exact rper1 d w hd
  | 2, _ => exact rper2 d w hd
  | 3, _ => exact rper3 d w hd

/-- The walk's list of later periods counts as the plain one does. -/
theorem later_count {k : Nat} {pd : Int} {xs L : List Int} (h0 : 0 ≤ pd) (h : L.Nodup ∧ ∀ q, q ∈ L ↔ (∃ x ∈ xs, per k x = q) ∧ pd < q) : (later k pd (-1) xs).length = L.length :=
  nodup_len (later_nodup _ _ _ _) h.1 fun q => by
    rw [later_mem, h.2]
    constructor
    · rintro ⟨h1, h2, _⟩; exact ⟨h1, h2⟩
    · rintro ⟨h1, h2⟩; exact ⟨h1, h2, by omega⟩
theorem later_len {k : Nat} {pd : Int} {xs L : List Int} (h : L.Nodup ∧ ∀ q, q ∈ L ↔ (∃ x ∈ xs, per k x = q) ∧ pd < q) : L.length ≤ xs.length := by
  have := nodup_len_le L (xs.map (per k)) h.1 (fun q hq => by
    obtain ⟨⟨x, hx, e⟩, _⟩ := (h.2 q).1 hq
    exact List.mem_map.2 ⟨x, hx, e⟩)
  rwa [List.length_map] at this
theorem later_skip {k : Nat} {pd x : Int} {xs L : List Int} (h : L.Nodup ∧ ∀ q, q ∈ L ↔ (∃ x ∈ xs, per k x = q) ∧ pd < q) (hx : per k x ∈ L ∨ ¬ pd < per k x) : L.Nodup ∧ ∀ q, q ∈ L ↔ (∃ y ∈ xs ++ [x], per k y = q) ∧ pd < q :=
  ⟨h.1, fun q => by
    rw [h.2]
    constructor
    · rintro ⟨⟨y, hy, e⟩, h2⟩; exact ⟨⟨y, List.mem_append_left _ hy, e⟩, h2⟩
    · rintro ⟨⟨y, hy, e⟩, h2⟩
      rcases List.mem_append.1 hy with hy | hy
      · exact ⟨⟨y, hy, e⟩, h2⟩
      · obtain rfl := List.mem_singleton.1 hy
        subst e
        rcases hx with hx | hx
        · exact (h.2 _).1 hx
        · exact absurd h2 hx⟩
theorem later_take {k : Nat} {pd x : Int} {xs L : List Int} (h : L.Nodup ∧ ∀ q, q ∈ L ↔ (∃ x ∈ xs, per k x = q) ∧ pd < q) (hx : ¬ per k x ∈ L) (hp : pd < per k x) : (L ++ [per k x]).Nodup ∧ ∀ q, q ∈ L ++ [per k x] ↔ (∃ y ∈ xs ++ [x], per k y = q) ∧ pd < q :=
  ⟨by rw [List.nodup_append]; exact ⟨h.1, by simp, fun a ha b hb e => hx (by rw [List.mem_singleton] at hb; rw [← hb, ← e]; exact ha)⟩, fun q => by
    rw [List.mem_append, h.2, List.mem_singleton]
    constructor
    · rintro (⟨⟨y, hy, e⟩, h2⟩ | rfl)
      · exact ⟨⟨y, List.mem_append_left _ hy, e⟩, h2⟩
      · exact ⟨⟨x, by simp, rfl⟩, hp⟩
    · rintro ⟨⟨y, hy, e⟩, h2⟩
      rcases List.mem_append.1 hy with hy | hy
      · exact .inl ⟨⟨y, hy, e⟩, h2⟩
      · obtain rfl := List.mem_singleton.1 hy
        exact .inr e.symm⟩

set_option maxRecDepth 20000 in
set_option maxHeartbeats 4000000 in
theorem rby_any (k m : Nat) (hk : k < 4) (A : Option Addr) (n c : Nat) (xs : List Int) (day : Int) (w : World) (hx : Sl I w w.heap.size A n xs) (hn : n ≤ 1000000) (hm : m ≤ 1000) (hok : ∀ x ∈ xs, okD x) (hd : okD day) :
    Calls Try.prog 50 #[.int .i64 k, .int .i64 m, .slice A n c, .int .i64 day] w (BoolB (decide (By k m xs day)) w) := by
  obtain ⟨i0, hi, hz0, hz1, hz2⟩ := info_parts Try.infoInt
  have HI := Lib.hid hi
  have HZ0 := Lib.hid hz0
  have HZ1 := Lib.hid hz1
  have HZ2 := Lib.hid hz2
  obtain ⟨pd, hpd⟩ : ∃ p, per k day = p := ⟨_, rfl⟩
  have HPD := Lib.hid hpd
  have HP0 : Hid (0 ≤ pd) := by show 0 ≤ pd; rw [← hpd]; exact per_nonneg k hd
  have CD : Hid (∀ W, Calls Try.prog 63 #[.int .i64 k, .int .i64 day] W (IntB pd W)) := fun W => hpd ▸ rper_any k hk day hd W
  have HOK := Lib.hid hok
  have HX := Lib.hid hx
  have HLEN : Hid (xs.length = n) := hx.1
  have HO : Hid (Own I 3 (w.alloc (.cells #[] 3)) w.heap.size (.slice (some ⟨w.heap.size, 0, none⟩) 0 0) []) := World.ownsRow_lit w #[] 0 (Nat.le_refl _) (by unfold maxLen; omega) rfl
  have HB : Hid (Below w.heap.size w (w.alloc (.cells #[] 3))) := (Below.refl _ _).alloc (Nat.le_refl _) _
  clear hi hz0 hz1 hz2 hpd hok hx hd
  go_enter Try.func50, Try.ntmps50
  go_wp2
  go_loopw [9, 15] (fun v i wr => ∃ (j : Nat) (L : List Int), j ≤ n ∧ i = .int .i64 j ∧ Hid (Own I 3 wr w.heap.size v L) ∧ Hid (L.Nodup ∧ ∀ q, q ∈ L ↔ (∃ x ∈ xs.take j, per k x = q) ∧ pd < q) ∧ Hid (∀ x ∈ xs.take j, per k x = pd → x ≤ day) ∧ Hid (Below w.heap.size w wr)) (fun _ i _ => n - (intOf i).toNat)
  case atStart => exact ⟨0, [], Nat.zero_le _, rfl, HO, by show _ ∧ _; simp, by show ∀ _, _; simp, HB⟩
  case round =>
    obtain ⟨j, L, hj, rfl, HO0, HL, HM, HB0⟩ := hrel
    clear HO HB
    by_cases hlt : j < n
    · have hsl := HX.out.up HB0.out (Nat.le_refl _)
      obtain ⟨b, off, x, rfl, _, hxk, hc⟩ := hsl.2.at_ (k := j) (by have := HLEN.out; omega)
      have hxok := HOK.out x (List.mem_of_getElem? hxk)
      have HXK := Lib.hid hxk
      have HTK : Hid (xs.take (j + 1) = xs.take j ++ [x]) := take_snoc hxk
      obtain ⟨px, hpx⟩ : ∃ p, per k x = p := ⟨_, rfl⟩
      have HPX := Lib.hid hpx
      have CX : Hid (∀ W, Calls Try.prog 63 #[.int .i64 k, .int .i64 x] W (IntB px W)) := fun W => hpx ▸ rper_any k hk x hxok W
      have HLL : Hid (L.length ≤ n) := by
        show _ ≤ _
        have h1 := later_len HL.out
        rw [List.length_take] at h1
        omega
      clear hsl hxk hxok hpx
      by_cases he : px = pd
      · have hb1 : (px == pd) = true := by simp [he]
        have hb2 : decide (pd < px) = false := by simp [he]
        have hb2' : ¬ pd < px := by omega
        by_cases hg : day < x
        · have HF : Hid (decide (By k m xs day) = false) := by
            show _ = _
            refine decide_eq_false (fun h => ?_)
            have h1 := h.1 x (List.mem_of_getElem? HXK.out) (by rw [HPX.out, HPD.out, he])
            omega
          clear he
          go_wp2_with fail
          refine (CX.out wr).mono ?_
          rintro e w1 ⟨rfl, hb⟩
          have HB1 : Hid (Below w.heap.size w w1) := HB0.out.trans (hb.mono HB0.out.size)
          have HO1 := Lib.hid (HO0.out.on hb)
          clear hb
          go_wp2_with fail
          refine (CD.out w1).mono ?_
          rintro e w2 ⟨rfl, hb⟩
          have HB2 : Hid (Below w.heap.size w w2) := HB1.out.trans (hb.mono HB1.out.size)
          have HO2 := Lib.hid (HO1.out.on hb)
          clear hb
          go_wp2
          go_ret
          exact ⟨ret_bool HF.out.symm, HB2.out⟩
        · have HM2 : Hid (∀ y ∈ xs.take (j + 1), per k y = pd → y ≤ day) := by
            show ∀ y ∈ _, _
            rw [HTK.out]
            intro y hy
            rcases List.mem_append.1 hy with hy | hy
            · exact HM.out y hy
            · obtain rfl := List.mem_singleton.1 hy
              intro _
              omega
          have HL2 : Hid (L.Nodup ∧ ∀ q, q ∈ L ↔ (∃ y ∈ xs.take (j + 1), per k y = q) ∧ pd < q) := by
            show _ ∧ _
            rw [HTK.out]
            exact later_skip HL.out (.inr (by rw [HPX.out]; exact hb2'))
          clear he
          go_wp2_with fail
          refine (CX.out wr).mono ?_
          rintro e w1 ⟨rfl, hb⟩
          have HB1 : Hid (Below w.heap.size w w1) := HB0.out.trans (hb.mono HB0.out.size)
          have HO1 := Lib.hid (HO0.out.on hb)
          clear hb
          go_wp2_with fail
          refine (CD.out w1).mono ?_
          rintro e w2 ⟨rfl, hb⟩
          have HB2 : Hid (Below w.heap.size w w2) := HB1.out.trans (hb.mono HB1.out.size)
          have HO2 := Lib.hid (HO1.out.on hb)
          clear hb
          go_wp2_with fail
          refine (CX.out w2).mono ?_
          rintro e w3 ⟨rfl, hb⟩
          have HB3 : Hid (Below w.heap.size w w3) := HB2.out.trans (hb.mono HB2.out.size)
          have HO3 := Lib.hid (HO2.out.on hb)
          clear hb
          go_wp2_with fail
          refine (CD.out w3).mono ?_
          rintro e w4 ⟨rfl, hb⟩
          have HB4 : Hid (Below w.heap.size w w4) := HB3.out.trans (hb.mono HB3.out.size)
          have HO4 := Lib.hid (HO3.out.on hb)
          clear hb
          go_wp2
          have HBE := HB4
          go_roundw
          case rel => exact ⟨j + 1, L, by omega, by go_num, HO4, HL2, HM2, HBE⟩
          case measure => simp [intOf]; omega
      · have hb1 : (px == pd) = false := by simp [he]
        have HM2 : Hid (∀ y ∈ xs.take (j + 1), per k y = pd → y ≤ day) := by
          show ∀ y ∈ _, _
          rw [HTK.out]
          intro y hy
          rcases List.mem_append.1 hy with hy | hy
          · exact HM.out y hy
          · obtain rfl := List.mem_singleton.1 hy
            intro h
            exact absurd (HPX.out.symm.trans h) he
        clear he
        by_cases hp : pd < px
        · have hb2 : decide (pd < px) = true := by simp [hp]
          by_cases hin : px ∈ L
          · have HIN : Hid (decide (px ∈ L) = true) := decide_eq_true hin
            have HL2 : Hid (L.Nodup ∧ ∀ q, q ∈ L ↔ (∃ y ∈ xs.take (j + 1), per k y = q) ∧ pd < q) := by
              show _ ∧ _
              rw [HTK.out]
              exact later_skip HL.out (.inl (by rw [HPX.out]; exact hin))
            clear hin
            obtain ⟨A1, c1, rfl, hc1, hs1, _⟩ := HO0.out.shape
            have HS0 : Hid (Sl I wr wr.heap.size A1 L.length L) := ⟨rfl, hs1⟩
            clear hs1
            go_wp2_with fail
            refine (CX.out wr).mono ?_
            rintro e w1 ⟨rfl, hb⟩
            have HB1 : Hid (Below w.heap.size w w1) := HB0.out.trans (hb.mono HB0.out.size)
            have HO1 := Lib.hid (HO0.out.on hb)
            have HS1 : Hid (Sl I w1 w1.heap.size A1 L.length L) := (HS0.out.up hb (Nat.le_refl _)).more' hb.size
            clear hb
            go_wp2_with fail
            refine (CD.out w1).mono ?_
            rintro e w2 ⟨rfl, hb⟩
            have HB2 : Hid (Below w.heap.size w w2) := HB1.out.trans (hb.mono HB1.out.size)
            have HO2 := Lib.hid (HO1.out.on hb)
            have HS2 : Hid (Sl I w2 w2.heap.size A1 L.length L) := (HS1.out.up hb (Nat.le_refl _)).more' hb.size
            clear hb
            go_wp2_with fail
            refine (CX.out w2).mono ?_
            rintro e w3 ⟨rfl, hb⟩
            have HB3 : Hid (Below w.heap.size w w3) := HB2.out.trans (hb.mono HB2.out.size)
            have HO3 := Lib.hid (HO2.out.on hb)
            have HS3 : Hid (Sl I w3 w3.heap.size A1 L.length L) := (HS2.out.up hb (Nat.le_refl _)).more' hb.size
            clear hb
            go_wp2_with fail
            refine (CD.out w3).mono ?_
            rintro e w4 ⟨rfl, hb⟩
            have HB4 : Hid (Below w.heap.size w w4) := HB3.out.trans (hb.mono HB3.out.size)
            have HO4 := Lib.hid (HO3.out.on hb)
            have HS4 : Hid (Sl I w4 w4.heap.size A1 L.length L) := (HS3.out.up hb (Nat.le_refl _)).more' hb.size
            clear hb
            go_wp2_with fail
            refine (CX.out w4).mono ?_
            rintro e w5 ⟨rfl, hb⟩
            have HB5 : Hid (Below w.heap.size w w5) := HB4.out.trans (hb.mono HB4.out.size)
            have HO5 := Lib.hid (HO4.out.on hb)
            have HS5 : Hid (Sl I w5 w5.heap.size A1 L.length L) := (HS4.out.up hb (Nat.le_refl _)).more' hb.size
            clear hb
            go_wp2_with fail
            refine (rhas_any A1 L.length L c1 px w5 _ HS5.out (by have := HLL.out; omega)).mono ?_
            rintro e w' ⟨rfl, rfl⟩
            rw [HIN.out]
            go_wp2
            have HBE := HB5
            go_roundw
            case rel => exact ⟨j + 1, L, by omega, by go_num, HO5, HL2, HM2, HBE⟩
            case measure => simp [intOf]; omega
          · have HIN : Hid (decide (px ∈ L) = false) := decide_eq_false hin
            have HL2 : Hid ((L ++ [px]).Nodup ∧ ∀ q, q ∈ L ++ [px] ↔ (∃ y ∈ xs.take (j + 1), per k y = q) ∧ pd < q) := by
              show _ ∧ _
              rw [HTK.out, ← HPX.out]
              exact later_take HL.out (by rw [HPX.out]; exact hin) (by rw [HPX.out]; exact hp)
            have HK1 : Hid ((L.length + 1) * 8 ≤ 140737488355328) := by have := HLL.out; show _ ≤ _; omega
            have HK2 : Hid (L.length + 1 ≤ maxLen) := by have := HLL.out; show _ ≤ _; unfold maxLen; omega
            clear hin
            obtain ⟨A1, c1, rfl, hc1, hs1, _⟩ := HO0.out.shape
            have HS0 : Hid (Sl I wr wr.heap.size A1 L.length L) := ⟨rfl, hs1⟩
            clear hs1
            go_wp2_with fail
            refine (CX.out wr).mono ?_
            rintro e w1 ⟨rfl, hb⟩
            have HB1 : Hid (Below w.heap.size w w1) := HB0.out.trans (hb.mono HB0.out.size)
            have HO1 := Lib.hid (HO0.out.on hb)
            have HS1 : Hid (Sl I w1 w1.heap.size A1 L.length L) := (HS0.out.up hb (Nat.le_refl _)).more' hb.size
            clear hb
            go_wp2_with fail
            refine (CD.out w1).mono ?_
            rintro e w2 ⟨rfl, hb⟩
            have HB2 : Hid (Below w.heap.size w w2) := HB1.out.trans (hb.mono HB1.out.size)
            have HO2 := Lib.hid (HO1.out.on hb)
            have HS2 : Hid (Sl I w2 w2.heap.size A1 L.length L) := (HS1.out.up hb (Nat.le_refl _)).more' hb.size
            clear hb
            go_wp2_with fail
            refine (CX.out w2).mono ?_
            rintro e w3 ⟨rfl, hb⟩
            have HB3 : Hid (Below w.heap.size w w3) := HB2.out.trans (hb.mono HB2.out.size)
            have HO3 := Lib.hid (HO2.out.on hb)
            have HS3 : Hid (Sl I w3 w3.heap.size A1 L.length L) := (HS2.out.up hb (Nat.le_refl _)).more' hb.size
            clear hb
            go_wp2_with fail
            refine (CD.out w3).mono ?_
            rintro e w4 ⟨rfl, hb⟩
            have HB4 : Hid (Below w.heap.size w w4) := HB3.out.trans (hb.mono HB3.out.size)
            have HO4 := Lib.hid (HO3.out.on hb)
            have HS4 : Hid (Sl I w4 w4.heap.size A1 L.length L) := (HS3.out.up hb (Nat.le_refl _)).more' hb.size
            clear hb
            go_wp2_with fail
            refine (CX.out w4).mono ?_
            rintro e w5 ⟨rfl, hb⟩
            have HB5 : Hid (Below w.heap.size w w5) := HB4.out.trans (hb.mono HB4.out.size)
            have HO5 := Lib.hid (HO4.out.on hb)
            have HS5 : Hid (Sl I w5 w5.heap.size A1 L.length L) := (HS4.out.up hb (Nat.le_refl _)).more' hb.size
            clear hb
            go_wp2_with fail
            refine (rhas_any A1 L.length L c1 px w5 _ HS5.out (by have := HLL.out; omega)).mono ?_
            rintro e w' ⟨rfl, rfl⟩
            rw [HIN.out]
            go_wp2_with fail
            refine (CX.out w5).mono ?_
            rintro e w6 ⟨rfl, hb⟩
            have HB6 : Hid (Below w.heap.size w w6) := HB5.out.trans (hb.mono HB5.out.size)
            have HO6 := Lib.hid (HO5.out.on hb)
            have HS6 : Hid (Sl I w6 w6.heap.size A1 L.length L) := (HS5.out.up hb (Nat.le_refl _)).more' hb.size
            clear hb
            go_wp2_with (with_reducible refine wpList_app1 (o := ⟨some 51, _, _, _, _, _⟩) rfl (.tmp 46) (.tmp 50) 26 rfl 3 i0 (.int .i64 0) 8 Try.underlying26 HI.out HZ0.out HZ1.out HZ2.out rfl _ _ w.heap.size rfl HO6.out px 1 rfl I1 HK1.out HK2.out HB6.out.size ?_; intro v6 w7 HO7 HG7 HV7)
            have HBE : Hid (Below w.heap.size w w7) := HO6.out.below HB6.out (Nat.le_refl _) HB6.out.size HG7.out
            go_roundw
            case rel => exact ⟨j + 1, L ++ [px], by omega, by go_num, HO7, HL2, HM2, HBE⟩
            case measure => simp [intOf]; omega
        · have hb2 : decide (pd < px) = false := by simp [hp]
          have HL2 : Hid (L.Nodup ∧ ∀ q, q ∈ L ↔ (∃ y ∈ xs.take (j + 1), per k y = q) ∧ pd < q) := by
            show _ ∧ _
            rw [HTK.out]
            exact later_skip HL.out (.inr (by rw [HPX.out]; exact hp))
          go_wp2_with fail
          refine (CX.out wr).mono ?_
          rintro e w1 ⟨rfl, hb⟩
          have HB1 : Hid (Below w.heap.size w w1) := HB0.out.trans (hb.mono HB0.out.size)
          have HO1 := Lib.hid (HO0.out.on hb)
          clear hb
          go_wp2_with fail
          refine (CD.out w1).mono ?_
          rintro e w2 ⟨rfl, hb⟩
          have HB2 : Hid (Below w.heap.size w w2) := HB1.out.trans (hb.mono HB1.out.size)
          have HO2 := Lib.hid (HO1.out.on hb)
          clear hb
          go_wp2_with fail
          refine (CX.out w2).mono ?_
          rintro e w3 ⟨rfl, hb⟩
          have HB3 : Hid (Below w.heap.size w w3) := HB2.out.trans (hb.mono HB2.out.size)
          have HO3 := Lib.hid (HO2.out.on hb)
          clear hb
          go_wp2_with fail
          refine (CD.out w3).mono ?_
          rintro e w4 ⟨rfl, hb⟩
          have HB4 : Hid (Below w.heap.size w w4) := HB3.out.trans (hb.mono HB3.out.size)
          have HO4 := Lib.hid (HO3.out.on hb)
          clear hb
          go_wp2
          have HBE := HB4
          go_roundw
          case rel => exact ⟨j + 1, L, by omega, by go_num, HO4, HL2, HM2, HBE⟩
          case measure => simp [intOf]; omega
    · obtain rfl : j = n := by omega
      obtain ⟨A1, c1, rfl, hc1, hs1, _⟩ := HO0.out.shape
      have HF : Hid (decide (L.length < m) = decide (By k m xs day)) := by
        show _ = _
        have h1 := HL.out
        have h2 := HM.out
        rw [List.take_of_length_le (by have := HLEN.out; omega)] at h1 h2
        have h3 := later_count HP0.out h1
        refine decide_eq_decide.2 ?_
        unfold By
        rw [HPD.out, h3]
        exact ⟨fun h => ⟨h2, h⟩, fun h => h.2⟩
      clear hs1
      go_wp2
      go_ret
      exact ⟨ret_bool (by rw [← HF.out]), HB0.out⟩
end Go.Proofs.Ytfffhdclbdmfnaa
