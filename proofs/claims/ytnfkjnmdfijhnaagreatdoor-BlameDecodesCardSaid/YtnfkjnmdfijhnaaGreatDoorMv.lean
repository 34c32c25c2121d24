/- The reference's DecodeMeet, for any body. The program's DecodeMeet, for any body. -/
import Derived.Test.YtnfkjnmdfijhnaaGreatDoorT5
import Derived.Test.YtnfkjnmdfijhnaaGreatDoorZc
import Derived.Test.YtnfkjnmdfijhnaaGreatDoorMq
import Derived.Test.YtnfkjnmdfijhnaaGreatDoorQ5
namespace Go.Proofs.YtnfkjnmdfijhnaaGreatDoor
open Go.RowKit Go.Lib
set_option linter.unusedVariables false
set_option linter.unusedSimpArgs false

/-- Numbers one after another. -/
def rIs (bs : List Int) : Nat → RS → List Int × RS
  | 0, s => ([], s)
  | k + 1, s => ((rIs bs k s).1 ++ [(rI2 bs (rIs bs k s).2).1], (rI2 bs (rIs bs k s).2).2)
theorem rIs_len (bs : List Int) : ∀ (k : Nat) (s : RS), (rIs bs k s).1.length = k
  | 0, _ => rfl
  | k + 1, s => by rw [rIs, List.length_append, rIs_len bs k s]; rfl
theorem rIs_le {bs : List Int} {n : Nat} (hl : bs.length = n) : ∀ (k : Nat) {s : RS}, s.1 ≤ n → (rIs bs k s).2.1 ≤ n
  | 0, _, h => h
  | k + 1, _, h => rI2_le hl (rIs_le hl k h)
theorem rI2_er {bs : List Int} {s : RS} (h : s.2 ≠ 0) : (rI2 bs s).2 = s := by
  show (rU bs s).2 = s
  unfold rU
  rw [rV_er h]
theorem rIs_er {bs : List Int} {s1 : RS} {j : Nat} (h : (rIs bs j s1).2.2 ≠ 0) : ∀ i, (rIs bs (j + i) s1).2 = (rIs bs j s1).2
  | 0 => rfl
  | i + 1 => by
    have ih := rIs_er h i
    show (rI2 bs (rIs bs (j + i) s1).2).2 = _
    rw [ih, rI2_er h]
def rm1 (bs : List Int) : Int × RS := rI2 bs (0, 0)
def rm2 (bs : List Int) : Int × RS := rC bs 12 (rm1 bs).2
def rm3 (bs : List Int) : List Int × RS := rIs bs (rm2 bs).1.toNat (rm2 bs).2
def okM (bs : List Int) : Bool := decide (rEnd bs (rm3 bs).2 = 0) && (numB (rm1 bs).1 1 && (validB (rm3 bs).1 && decide ((nrm (rm3 bs).1).length = (rm3 bs).1.length)))
/-- What the reference's DecodeMeet hands back. -/
def RMPost (bs : List Int) (w : World) (e : Ending) (w' : World) : Prop :=
  (okM bs = true ∧ ∃ A n c, e = .returned (.tuple #[.int .i64 (rm1 bs).1, .slice A n c, .int .i64 0]) ∧ Sl I w' w'.heap.size A n (rm3 bs).1 ∧ Below w.heap.size w w')
  ∨ (okM bs = false ∧ e = .returned (.tuple #[.int .i64 0, .slice none 0 0, .int .i64 3]) ∧ Below w.heap.size w w')
set_option maxRecDepth 100000 in
set_option maxHeartbeats 4000000 in
theorem rmt_no (dv sq k dy : Int) (pr : ByteArray) (A : Option Addr) (n c : Nat) (w : World) (hk : k ≠ 9) :
    Calls Tryz.prog 18 #[.agg #[.int .i64 dv, .int .i64 sq, .int .i64 k, .int .i64 dy, .slice A n c, .string pr]] w fun e w' => e = .returned (.tuple #[.int .i64 0, .slice none 0 0, .int .i64 1]) ∧ Below w.heap.size w w' := by
  have hkb : (k != 9) = true := by simp [hk]
  go_enter Tryz.func18, Tryz.ntmps18
  go_wp2
  refine bodyPost_ret (results_3 rfl _ _ _) rfl ⟨rfl, (Below.refl _ _).alloc (Nat.le_refl _) _⟩
set_option maxRecDepth 100000 in
set_option maxHeartbeats 16000000 in
theorem rmt_any (dv sq dy : Int) (pr : ByteArray) (A : Option Addr) (n c B : Nat) (bs : List Int) (w : World) (hx : Sl fB w B A n bs) (hB : B ≤ w.heap.size) (hk : RK bs n c) :
    Calls Tryz.prog 18 #[.agg #[.int .i64 dv, .int .i64 sq, .int .i64 9, .int .i64 dy, .slice A n c, .string pr]] w (RMPost bs w) := by
  have hl : bs.length = n := hx.1
  have hp0 : (0, (0 : Int)).1 ≤ n := Nat.zero_le _
  have hp1 : (rm1 bs).2.1 ≤ n := rI2_le hl hp0
  have hp2 : (rm2 bs).2.1 ≤ n := rC_le hl hp1
  have hp3 : (rm3 bs).2.1 ≤ n := rIs_le hl _ hp2
  have hr2 : 0 ≤ (rm2 bs).1 ∧ (rm2 bs).1 ≤ (12 : Nat) := rC_range
  obtain ⟨W1, hW1⟩ : ∃ W1 : World, W1 = w.alloc (.cells #[.int .i64 dv, .int .i64 sq, .int .i64 9, .int .i64 dy, .slice A n c, .string pr] 45) := ⟨_, rfl⟩
  have hb1 : Below w.heap.size w W1 := by rw [hW1]; exact (Below.refl _ _).alloc (Nat.le_refl _) _
  have hs1 : W1.heap.size = w.heap.size + 1 := by rw [hW1]; simp
  have hge : W1.heap[w.heap.size]? = some (.cells #[.int .i64 dv, .int .i64 sq, .int .i64 9, .int .i64 dy, .slice A n c, .string pr] 45 (0, 0)) := by rw [hW1]; exact heap_alloc_new w _
  obtain ⟨W2, hW2⟩ : ∃ W2 : World, W2 = W1.alloc (.cells #[.slice A n c, .int .i64 0, .int .i64 0, .int .i64 0] 101) := ⟨_, rfl⟩
  have h12 : Below W1.heap.size W1 W2 := by rw [hW2]; exact (Below.refl _ _).alloc (Nat.le_refl _) _
  have hb2 : Below w.heap.size w W2 := hb1.trans (h12.mono hb1.size)
  obtain ⟨g, hgW⟩ : ∃ g, g = W1.heap.size := ⟨_, rfl⟩
  have hgg : W2.heap[g]? = some (.cells #[.slice A n c, .int .i64 0, .int .i64 0, .int .i64 0] 101 (0, 0)) := by rw [hW2, hgW]; exact heap_alloc_new W1 _
  have hr0 : RfS g A n c bs (0, 0) W2 := ⟨⟨0, hgg⟩, (hx.up hb2 hB).more' (by omega)⟩
  have k4 : W1.cell? ⟨w.heap.size, 4, none⟩ = some (.slice A n c) := by rw [cell_of_row W1 _ _ _ _ _ hge]; rfl
  have k2 : W1.cell? ⟨w.heap.size, 2, none⟩ = some (.int .i64 9) := by rw [cell_of_row W1 _ _ _ _ _ hge]; rfl
  have HGL : Hid (w.heap.size < g) := by show _ < _; omega
  have HGW := Lib.hid hgW
  have HR0 := Lib.hid hr0
  have HB2 := Lib.hid hb2
  have HWE := Lib.hid hW1
  have HWE2 := Lib.hid hW2
  have H1 : Hid (∀ V, RfS g A n c bs (0, 0) V → Calls Tryz.prog 53 #[.pointer (some ⟨g, 0, none⟩)] V (RfPost g A n c bs (.int .i64 (rm1 bs).1) (rm1 bs).2 V)) := fun V h => rint_any g A n c bs _ V h hk hp0
  have H2 : Hid (∀ V, RfS g A n c bs (rm1 bs).2 V → Calls Tryz.prog 52 #[.pointer (some ⟨g, 0, none⟩), .int .i64 7, .int .i64 12] V (RfPost g A n c bs (.agg (rv 7 0 (rm2 bs).1 ⟨#[]⟩ 12)) (rm2 bs).2 V)) := fun V h => rfc_any g A n c bs _ V h hk hp1 12 (by decide)
  have HEN : Hid (∀ V, RfS g A n c bs (rm3 bs).2 V → Calls Tryz.prog 54 #[.pointer (some ⟨g, 0, none⟩)] V fun e w' => e = .returned (.tuple #[.int .i64 (rm3 bs).2.1, .int .i64 (rEnd bs (rm3 bs).2)]) ∧ Below V.heap.size V w') := fun V h => rend01_any g A n c bs _ V h hk.2.1 hp3
  have H3 : Hid (∀ j V, RfS g A n c bs (rIs bs j (rm2 bs).2).2 V → Calls Tryz.prog 53 #[.pointer (some ⟨g, 0, none⟩)] V (RfPost g A n c bs (.int .i64 (rI2 bs (rIs bs j (rm2 bs).2).2).1) (rI2 bs (rIs bs j (rm2 bs).2).2).2 V)) := fun j V h => rint_any g A n c bs _ V h hk (rIs_le hl j hp2)
  have HOK : Hid (okM bs = (decide (rEnd bs (rm3 bs).2 = 0) && (numB (rm1 bs).1 1 && (validB (rm3 bs).1 && decide ((nrm (rm3 bs).1).length = (rm3 bs).1.length))))) := rfl
  have HEZ : Hid (rEnd bs (rm3 bs).2 = 0 → (rm3 bs).2.2 = 0) := fun h => (rEnd_iff.1 h).1
  have HM3 : Hid (rm3 bs = rIs bs (rm2 bs).1.toNat (rm2 bs).2) := rfl
  unfold RMPost
  generalize rm3 bs = R3 at *
  generalize rm1 bs = R1 at *
  generalize rm2 bs = R2 at *
  obtain ⟨z1, s1⟩ := R1
  obtain ⟨k, s2⟩ := R2
  obtain ⟨vs, s3⟩ := R3
  dsimp only at H1 H2 H3 HEN HOK HEZ HM3 hr2 ⊢
  obtain ⟨k, rfl⟩ : ∃ k' : Nat, k = k' := ⟨k.toNat, by omega⟩
  have hk12 : k ≤ 12 := by omega
  rw [Int.toNat_natCast] at HM3
  obtain ⟨er, hEr⟩ : ∃ er, rEnd bs s3 = er := ⟨_, rfl⟩
  rw [hEr] at HEN HOK HEZ
  have hf2 := fun V => fld2 7 0 (k : Int) ⟨#[]⟩ 12 V
  obtain ⟨i0, hi, hz0, hz1, hz2⟩ := info_parts Tryz.info3
  have HI := Lib.hid hi
  have HZ0 := Lib.hid hz0
  have HZ1 := Lib.hid hz1
  have HZ2 := Lib.hid hz2
  clear hr2 hEr hx hB hl hk hp0 hp1 hp2 hp3 hb1 hs1 hge hW1 hW2 h12 hb2 hgW hgg hr0 hi hz0 hz1 hz2
  go_enter Tryz.func18, Tryz.ntmps18
  go_upto_region 3 with fail
  rw [← HWE.out]
  go_upto_region 4 with fail
  rw [← HWE2.out, ← HGW.out]
  clear k4 k2
  go_upto_region 6 with (first
    | (go_at_call 53; (with_reducible refine (H1.out _ HR0.out).mono ?_); rintro e V3 ⟨rfl, r, bb⟩; (have R3 := Lib.hid r); (have B3 := Lib.hid bb); clear r bb)
    | (go_at_call 52; (with_reducible refine (H2.out _ R3.out).mono ?_); rintro e V4 ⟨rfl, r, bb⟩; (have R4 := Lib.hid r); (have B4 := Lib.hid (B3.out.trans bb (fun i hi => .inl hi))); clear r bb))
  obtain ⟨V5, hV5⟩ : ∃ V5 : World, V5 = V4.alloc (.cells #[] 3) := ⟨_, rfl⟩
  have h45 : Below V4.heap.size V4 V5 := by rw [hV5]; exact (Below.refl _ _).alloc (Nat.le_refl _) _
  have HO5 : Hid (Own I 3 V5 V4.heap.size (.slice (some ⟨V4.heap.size, 0, none⟩) 0 0) []) := by show Own _ _ _ _ _ _; rw [hV5]; exact World.ownsRow_lit V4 #[] 0 (Nat.le_refl _) (by unfold maxLen; omega) rfl
  have R5 := Lib.hid (R4.out.on h45)
  have HG4 : Hid (g < V4.heap.size) := R4.out.lt
  have HB5 : Hid (Below w.heap.size w V5) := by
    have h1 : Below w.heap.size w V4 := HB2.out.trans (B4.out.below HB2.out.size (fun i hi => by subst hi; exact Nat.le_of_lt HGL.out))
    exact h1.trans (h45.mono h1.size)
  have HWV : Hid (w.heap.size ≤ V4.heap.size) := Nat.le_of_lt (Nat.lt_trans HGL.out HG4.out)
  have HV5 := Lib.hid hV5
  have HS5 : Hid (V4.heap.size ≤ V5.heap.size) := h45.size
  obtain ⟨b0, hb0⟩ : ∃ b0, b0 = V4.heap.size := ⟨_, rfl⟩
  have HB0 := Lib.hid hb0
  rw [← hb0] at HO5 HG4 HWV HS5
  clear hV5 h45 hb0 R3 R4 B3 B4 H1 H2 HR0 HB2 HWE HWE2 HGW hf2
  go_upto_region 7 with fail
  rw [← HV5.out, ← HB0.out]
  go_wp2_with fail
  go_loopw [8, 9] (fun u i wr => ∃ (j : Nat), j ≤ k ∧ i = .int .i64 j ∧ Hid (Own I 3 wr b0 u (rIs bs j s2).1) ∧ Hid (RfS g A n c bs (rIs bs j s2).2 wr) ∧ Hid (Below w.heap.size w wr) ∧ Hid (b0 ≤ wr.heap.size)) (fun _ i _ => k - (intOf i).toNat)
  case atStart => exact ⟨0, by omega, rfl, HO5, R5, HB5, HS5⟩
  case round =>
    obtain ⟨j, hj, rfl, HO, R, HB, HSZ⟩ := hrel
    obtain ⟨⟨pv, hg⟩, _⟩ := R.out
    have c3 : wr.cell? ⟨g, 3, none⟩ = some (.int .i64 (rIs bs j s2).2.2) := by rw [cell_of_row wr _ _ _ _ _ hg]; rfl
    clear hg
    by_cases hlt : j < k
    · have hjI : (j : Int) < (k : Int) := by omega
      by_cases her : (rIs bs j s2).2.2 = 0
      · have HRD := Lib.hid (H3.out j wr R.out)
        have HSJ : Hid (rIs bs (j + 1) s2 = ((rIs bs j s2).1 ++ [(rI2 bs (rIs bs j s2).2).1], (rI2 bs (rIs bs j s2).2).2)) := rfl
        have HTl : Hid ((rIs bs j s2).1.length = j) := rIs_len bs j s2
        rw [her] at c3
        generalize (rI2 bs (rIs bs j s2).2).1 = x at HRD HSJ
        have HK1 : Hid (((rIs bs j s2).1.length + 1) * 8 ≤ 140737488355328) := by show _ ≤ _; rw [HTl.out]; omega
        have HK2 : Hid ((rIs bs j s2).1.length + 1 ≤ maxLen) := by show _ ≤ _; rw [HTl.out]; unfold maxLen; omega
        clear her
        go_wp2_with (first
          | (go_at_call 53; (with_reducible refine HRD.out.mono ?_); rintro e w3 ⟨rfl, r3, b3⟩; (have R3 := Lib.hid r3); (have HB3 : Hid (Below w.heap.size w w3) := HB.out.trans (b3.below HB.out.size (fun i hi => by subst hi; exact Nat.le_of_lt HGL.out))); (have HO3 : Hid (Own I 3 w3 b0 u8 (rIs bs j s2).1) := HO.out.butG b3 (fun k hk e => by have h1 := (World.ownsRow.lt HO.out k hk).1; have h3 := HG4.out; omega)); (have HS3 : Hid (b0 ≤ w3.heap.size) := Nat.le_trans HSZ.out b3.size); clear r3 b3 c3)
          | ((with_reducible refine wpList_app1 (o := ⟨some 41, _, _, _, _, _⟩) rfl (.tmp 37) (.tmp 40) 55 rfl 3 i0 (.int .i64 0) 8 Tryz.underlying55 HI.out HZ0.out HZ1.out HZ2.out rfl _ (rIs bs j s2).1 b0 rfl HO3.out x 1 rfl I1 HK1.out HK2.out HS3.out ?_); intro v1 w4 HO4 HG5 HV4))
        have hb4 : Below b0 w3 w4 := grown_below HG5.out (fun k hk => (World.ownsRow.lt HO3.out k hk).1) HS3.out
        go_roundw
        case rel => exact ⟨j + 1, by omega, by go_num, by rw [HSJ.out]; exact HO4, by rw [HSJ.out]; exact R3.out.up hb4 HG4.out, HB3.out.trans (hb4.mono HWV.out), Nat.le_trans HS3.out hb4.size⟩
        case measure => simp [intOf]; omega
      · have heb : ((rIs bs j s2).2.2 == 0) = false := by simp [her]
        have HE : Hid (s3 = (rIs bs j s2).2) := by
          have := rIs_er her (k - j)
          rw [show j + (k - j) = k by omega] at this
          show _ = _
          rw [← this, ← HM3.out]
        have hne : er ≠ 0 := fun h => her (by have := HEZ.out h; rw [HE.out] at this; exact this)
        have heE : (er != 0) = true := by simp [hne]
        have RE : Hid (RfS g A n c bs s3 wr) := by rw [HE.out]; exact R
        clear her
        go_wp2_with (go_at_call 54; (with_reducible refine (HEN.out _ RE.out).mono ?_); rintro e VE ⟨rfl, bb⟩; (have BE := Lib.hid (HB.out.trans (bb.mono HB.out.size))); (have OE := Lib.hid (HO.out.on bb)); clear bb c3)
        refine bodyPost_ret (results_3 rfl _ _ _) rfl (.inr ⟨by rw [HOK.out]; simp_all, rfl, BE.out⟩)
    · obtain rfl : j = k := by omega
      have hv : rIs bs j s2 = (vs, s3) := HM3.out.symm
      rw [hv] at HO R c3
      dsimp only at HO R c3
      obtain ⟨A5, c5, hu, hc5, _, _⟩ := HO.out.shape
      have RE := R
      rw [hu] at HO
      subst hu
      have HLV : Hid (vs.length ≤ 1000000) := by
        have h1 := rIs_len bs j s2
        rw [hv] at h1
        show _ ≤ _
        dsimp only at h1
        omega
      have HLW : Hid (vs.length ≤ 4611686018427387904) := Nat.le_trans HLV.out (by decide)
      clear hv
      by_cases hne : er = 0
      · have heE : (er != 0) = false := by simp [hne]
        have HNB := Lib.hid (fun V => entry_any z1 1 V)
        obtain ⟨nb, hnb⟩ : ∃ nb, numB z1 1 = nb := ⟨_, rfl⟩
        rw [hnb] at HNB HOK
        clear hnb
        cases nb with
        | false =>
          go_wp2_with (first | (go_at_call 54; (with_reducible refine (HEN.out _ RE.out).mono ?_); rintro e VE ⟨rfl, bb⟩; (have BE := Lib.hid (HB.out.trans (bb.mono HB.out.size))); (have OE := Lib.hid (HO.out.on bb)); clear bb c3) | (go_at_call 8; (with_reducible refine (HNB.out _).mono ?_); rintro e VN ⟨rfl, rfl⟩))
          refine bodyPost_ret (results_3 rfl _ _ _) rfl (.inr ⟨by rw [HOK.out]; simp_all, rfl, BE.out⟩)
        | true =>
          obtain ⟨vb, hvb⟩ : ∃ vb, validB vs = vb := ⟨_, rfl⟩
          have HVB := Lib.hid hvb
          rw [hvb] at HOK
          clear hvb
          cases vb with
          | false =>
            go_wp2_with (first | (go_at_call 54; (with_reducible refine (HEN.out _ RE.out).mono ?_); rintro e VE ⟨rfl, bb⟩; (have BE := Lib.hid (HB.out.trans (bb.mono HB.out.size))); (have OE := Lib.hid (HO.out.on bb)); clear bb c3; (have HSV := Lib.hid OE.out.slH); (have HC5 : Hid (vs.length ≤ c5) := hc5)) | (go_at_call 8; (with_reducible refine (HNB.out _).mono ?_); rintro e VN ⟨rfl, rfl⟩) | (go_at_call 59; (refine (rvalid_any A5 vs c5 _ _ HSV.out.2 HLW.out).mono ?_); rintro e VV ⟨rfl, rfl⟩; (rw [HVB.out])))
            refine bodyPost_ret (results_3 rfl _ _ _) rfl (.inr ⟨by rw [HOK.out]; simp_all, rfl, BE.out⟩)
          | true =>
            go_wp2_with (first | (go_at_call 54; (with_reducible refine (HEN.out _ RE.out).mono ?_); rintro e VE ⟨rfl, bb⟩; (have BE := Lib.hid (HB.out.trans (bb.mono HB.out.size))); (have OE := Lib.hid (HO.out.on bb)); clear bb c3; (have HSV := Lib.hid OE.out.slH); (have HC5 : Hid (vs.length ≤ c5) := hc5)) | (go_at_call 8; (with_reducible refine (HNB.out _).mono ?_); rintro e VN ⟨rfl, rfl⟩) | (go_at_call 59; (refine (rvalid_any A5 vs c5 _ _ HSV.out.2 HLW.out).mono ?_); rintro e VV ⟨rfl, rfl⟩; (rw [HVB.out])) | (go_at_call 60; (with_reducible refine (rnormal_any A5 vs.length vs c5 _ _ HSV.out (Nat.le_refl _) HLV.out HC5.out).mono ?_); rintro e VF ⟨A6, n6, c6, rfl, _, hs6, bb⟩; (have HN6 : Hid ((nrm vs).length = n6) := hs6.1); (have BF := Lib.hid (BE.out.trans (bb.mono BE.out.size))); (have OF := Lib.hid (OE.out.on bb)); clear hs6 bb))
            all_goals first
              | (refine bodyPost_ret (results_3 rfl _ _ _) rfl (.inl ⟨?_, A5, vs.length, c5, rfl, OF.out.slH, BF.out⟩); rw [HOK.out, HN6.out]; simp_all; done)
              | (refine bodyPost_ret (results_3 rfl _ _ _) rfl (.inr ⟨?_, rfl, BF.out⟩); rw [HOK.out, HN6.out]; simp_all; done)
              | (refine bodyPost_ret (results_3 rfl _ _ _) rfl (.inl ⟨?_, A5, vs.length, c5, rfl, OF.out.slH, BF.out⟩); rw [HOK.out, HN6.out]; simp_all; omega)
              | (refine bodyPost_ret (results_3 rfl _ _ _) rfl (.inr ⟨?_, rfl, BF.out⟩); rw [HOK.out, HN6.out]; simp_all; omega)
      · have heE : (er != 0) = true := by simp [hne]
        go_wp2_with (go_at_call 54; (with_reducible refine (HEN.out _ RE.out).mono ?_); rintro e VE ⟨rfl, bb⟩; (have BE := Lib.hid (HB.out.trans (bb.mono HB.out.size))); (have OE := Lib.hid (HO.out.on bb)); clear bb c3)
        refine bodyPost_ret (results_3 rfl _ _ _) rfl (.inr ⟨by rw [HOK.out]; simp_all, rfl, BE.out⟩)
end Go.Proofs.YtnfkjnmdfijhnaaGreatDoor
namespace Go.Proofs.YtnfkjnmdfijhnaaGreatDoor
open Go.RowKit Go.Lib
set_option linter.unusedVariables false
set_option linter.unusedSimpArgs false

/-- What the program's DecodeMeet reads. -/
def dmV (bs : List Int) : Option (Int × List Int) := if (rU bs (0, 0)).2.2 = 0 ∧ (rU bs (0, 0)).1 < 12 then (decV (bs.drop (rU bs (0, 0)).2.1)).map (fun v => ((rU bs (0, 0)).1, v)) else none
def DMPost (bs : List Int) (w : World) (e : Ending) (w' : World) : Prop :=
  (∃ q v A n c, dmV bs = some (q, v) ∧ e = .returned (.tuple #[.int .i64 q, .slice A n c, .int .i64 0]) ∧ Sl I w' w'.heap.size A n v ∧ Below w.heap.size w w')
  ∨ (dmV bs = none ∧ e = .returned (.tuple #[.int .i64 0, .slice none 0 0, .int .i64 3]) ∧ Below w.heap.size w w')
set_option maxRecDepth 100000 in
set_option maxHeartbeats 4000000 in
theorem dmt_no (dv sq k dy : Int) (pr : ByteArray) (A : Option Addr) (n c : Nat) (w : World) (hk : k ≠ 9) :
    Calls Tryz.prog 17 #[.agg #[.int .i64 dv, .int .i64 sq, .int .i64 k, .int .i64 dy, .slice A n c, .string pr]] w fun e w' => e = .returned (.tuple #[.int .i64 0, .slice none 0 0, .int .i64 1]) ∧ Below w.heap.size w w' := by
  have hkb : (k != 9) = true := by simp [hk]
  go_enter Tryz.func17, Tryz.ntmps17
  go_wp2
  refine bodyPost_ret (results_3 rfl _ _ _) rfl ⟨rfl, (Below.refl _ _).alloc (Nat.le_refl _) _⟩
theorem left_anyR (g : Nat) (A : Option Addr) (n c : Nat) (bs : List Int) (s : RS) (w : World) (hr : RdS g A n c bs s w) (hp : s.1 ≤ n) (hn : n ≤ 1000000) :
    Calls Tryz.prog 50 #[.pointer (some ⟨g, 0, none⟩)] w fun e w' => e = .returned (.int .i64 ((n : Int) - s.1)) ∧ ∃ m, w' = w.drewN m := by
  obtain ⟨⟨pv, h1⟩, _⟩ := hr
  exact left_anyZ g A n c s.1 pv s.2 w h1 hp hn
theorem RdS.drewN {g : Nat} {A : Option Addr} {n c : Nat} {bs : List Int} {s : RS} {w : World} (h : RdS g A n c bs s w) (m : Nat) : RdS g A n c bs s (w.drewN m) := h
set_option maxRecDepth 100000 in
set_option maxHeartbeats 8000000 in
theorem dmt_any (dv sq dy : Int) (pr : ByteArray) (A : Option Addr) (n c B : Nat) (bs : List Int) (w : World) (hx : Sl fB w B A n bs) (hB : B ≤ w.heap.size) (hk : RK bs n c) :
    Calls Tryz.prog 17 #[.agg #[.int .i64 dv, .int .i64 sq, .int .i64 9, .int .i64 dy, .slice A n c, .string pr]] w (DMPost bs w) := by
  have hl : bs.length = n := hx.1
  have hp1 : (rU bs (0, 0)).2.1 ≤ n := rU_le hl (Nat.zero_le _)
  have hnn := rU_nonneg bs (0, 0)
  have hn := hk.2.1
  have hnc := hk.2.2
  have hbz : (rU bs (0, 0)).2.2 ≠ 0 → (rU bs (0, 0)).2.1 = 0 := fun h => by
    unfold rU at h ⊢
    unfold rV at h ⊢
    simp only [if_true] at h ⊢
    split at h
    · exact absurd rfl h
    · next e => rw [if_neg e]
  have hbp : (rU bs (0, 0)).2.2 = 0 → 0 < (rU bs (0, 0)).2.1 := fun h => by
    obtain ⟨_, m, _, _, h1, _⟩ := rU_only hk.1 h
    have : 0 < (enc m).length := by unfold enc encF; split <;> simp
    rw [h1]; omega
  obtain ⟨W1, hW1⟩ : ∃ W1 : World, W1 = w.alloc (.cells #[.int .i64 dv, .int .i64 sq, .int .i64 9, .int .i64 dy, .slice A n c, .string pr] 45) := ⟨_, rfl⟩
  have hb1 : Below w.heap.size w W1 := by rw [hW1]; exact (Below.refl _ _).alloc (Nat.le_refl _) _
  have hge : W1.heap[w.heap.size]? = some (.cells #[.int .i64 dv, .int .i64 sq, .int .i64 9, .int .i64 dy, .slice A n c, .string pr] 45 (0, 0)) := by rw [hW1]; exact heap_alloc_new w _
  have hs1 : W1.heap.size = w.heap.size + 1 := by rw [hW1]; simp
  have HNR := Lib.hid (newReader2_any A n c bs W1 ((hx.up hb1 hB).more' (Nat.le_trans hB hb1.size)) hn)
  have HU : Hid (∀ g A1 c1 V, n ≤ c1 → RdS g A1 n c1 bs (0, 0) V → Calls Tryz.prog 57 #[.pointer (some ⟨g, 0, none⟩)] V (RPost g A1 n c1 bs (.int .u64 (rU bs (0, 0)).1) (rU bs (0, 0)).2 V)) := fun g A1 c1 V hc h => ru_any g A1 n c1 bs _ V h ⟨hk.1, hn, hc⟩ (Nat.zero_le _)
  have HKc : Hid (∀ V, Below W1.heap.size W1 V → V.cell? ⟨w.heap.size, 4, none⟩ = some (.slice A n c)) := fun V hb => by
    rw [cell_of_row V _ _ _ _ _ ((hb.block _ (by omega)).trans hge)]; rfl
  have k2 : W1.cell? ⟨w.heap.size, 2, none⟩ = some (.int .i64 9) := by rw [cell_of_row W1 _ _ _ _ _ hge]; rfl
  have k4 := HKc.out W1 (Below.refl _ _)
  have HDV : Hid (dmV bs = if (rU bs (0, 0)).2.2 = 0 ∧ (rU bs (0, 0)).1 < 12 then (decV (bs.drop (rU bs (0, 0)).2.1)).map (fun v => ((rU bs (0, 0)).1, v)) else none) := rfl
  have HDC : Hid (∀ p A', p ≤ n → (if c = p then A else A.map (·.add p)) = A' → ∀ V, Below W1.heap.size W1 V → Calls Tryz.prog 58 #[.slice A' (n - p) (c - p)] V (DecPost (bs.drop p) V)) := fun p A' hp hA V hb => by
    have h1 := ((hx.up hb1 hB).up hb (Nat.le_trans hB hb1.size)).part (c := c) p (n - p) (by omega) hnc
    rw [List.take_of_length_le (by rw [List.length_drop]; omega), hA] at h1
    exact decode_any A' (n - p) (c - p) (bs.drop p) V (h1.more' (Nat.le_trans (Nat.le_trans hB hb1.size) hb.size)) (by omega) (fun b hb => hk.1 b (List.mem_of_mem_drop hb))
  obtain ⟨iB, hB0, _, hB1, _⟩ := info_parts Tryz.infoB
  have HSL : Hid (∀ (p : Nat) A', p ≤ n → (if c = p then A else A.map (·.add p)) = A' → ∀ W, (Instr.slice 24 (.slice A n c) (some (.int .i64 (p : Int))) none none).run Tryz.prog W = .ok (.slice A' (n - p) (c - p)) W) := fun p A' hp hA W => by
    rw [run_slice_from (P := Tryz.prog) 24 5 iB Tryz.underlying24 hB0 hB1 A n c .i64 p p rfl hp hnc W, hA]
  have HB1 := Lib.hid hb1
  have HS1 := Lib.hid hs1
  have HWE := Lib.hid hW1
  unfold DMPost
  generalize rU bs (0, 0) = R1 at *
  obtain ⟨z, p, er⟩ := R1
  dsimp only at hp1 hnn hbz hbp HU HDV ⊢
  clear hW1 hb1 hge hs1 hx hB hk hl hB0 hB1
  go_enter Tryz.func17, Tryz.ntmps17
  go_upto_region 3 with fail
  rw [← HWE.out]
  go_upto_region 5 with (first
    | (go_at_call 38; (with_reducible refine HNR.out.mono ?_); rintro e V2 ⟨g, A1, c1, rfl, r0, x0, hg0, hb0, hc0, hA0⟩; (have R2 : Hid (RdS g A1 n c1 bs (0, 0) V2) := ⟨⟨_, r0⟩, x0⟩); (have B2 := Lib.hid hb0); (have HC1 := Lib.hid hc0); (have HG1 := Lib.hid hg0); clear r0 x0 hg0 hb0 hc0 hA0)
    | (go_at_call 57; (with_reducible refine (HU.out g A1 c1 V2 HC1.out R2.out).mono ?_); rintro e V3 ⟨rfl, r, bb⟩; (have R3 := Lib.hid r); (have B3 := Lib.hid (B2.out.trans (bb.below B2.out.size (fun i hi => by subst hi; exact HG1.out)))); clear r bb))
  clear k2 k4
  have e4 := HKc.out V3 B3.out
  have HLf : Hid (∀ a, Calls Tryz.prog 50 #[.pointer (some ⟨g, 0, none⟩)] (V3.drewN a) fun e w' => e = .returned (.int .i64 ((n : Int) - p)) ∧ ∃ m, w' = (V3.drewN a).drewN m) := fun a => left_anyR g A1 n c1 bs _ (V3.drewN a) (R3.out.drewN a) hp1 hn
  have hlw : IntKind.i64.wrap ((n : Int) - ((n : Int) - p)) = p := by rw [IntWalk.i64_in _ (by omega)]; omega
  go_quiet ((go_at_call 50; with_reducible exact Calls.quiet_of (HLf.out _)))
  generalize hW : World.drewN V3 _ = V4
  have HB4 : Hid (Below W1.heap.size W1 V4) := by show Below ..; rw [← hW]; exact below_drewN' B3.out _
  have HBW : Hid (Below w.heap.size w V4) := HB1.out.trans (HB4.out.mono HB1.out.size)
  replace e4 : V4.cell? ⟨w.heap.size, 4, none⟩ = some (.slice A n c) := HKc.out V4 HB4.out
  clear hW
  by_cases her : er = 0
  · subst her
    have hpos := hbp rfl
    have hpb : ((p : Int) == 0) = false := by simp; omega
    by_cases hz : z < 12
    · have HDV2 : Hid (dmV bs = (decV (bs.drop p)).map (fun v => (z, v))) := by show _ = _; rw [HDV.out, if_pos ⟨rfl, hz⟩]
      have hzI : ¬ (12 : Int) ≤ z := by omega
      have hzw : IntKind.i64.wrap z = z := IntWalk.i64_in _ (by omega)
      obtain ⟨A', hA'⟩ : ∃ A', (if c = p then A else A.map (·.add p)) = A' := ⟨_, rfl⟩
      have hsl := HSL.out p A' hp1 hA'
      have HD := Lib.hid (HDC.out p A' hp1 hA' V4 HB4.out)
      clear hA' HSL HDC HDV HU HNR hbz hbp
      unfold DecPost at HD
      obtain ⟨dv0, hdv⟩ : ∃ d, decV (bs.drop p) = d := ⟨_, rfl⟩
      rw [hdv] at HD HDV2
      clear hdv
      cases dv0 with
      | none =>
        go_wp2_with (go_at_call 58; (refine HD.out.mono ?_); rintro e V5 ⟨A5, n5, c5, rfl, hc5, hs5, hb5⟩; (have B5 := Lib.hid (HBW.out.trans (hb5.mono HBW.out.size))); clear hs5 hb5 hc5)
        refine bodyPost_ret (results_3 rfl _ _ _) rfl (.inr ⟨by rw [HDV2.out]; rfl, rfl, B5.out⟩)
      | some v =>
        go_wp2_with (go_at_call 58; (refine HD.out.mono ?_); rintro e V5 ⟨A5, n5, c5, rfl, hc5, hs5, hb5⟩; (have S5 := Lib.hid hs5); (have B5 := Lib.hid (HBW.out.trans (hb5.mono HBW.out.size))); clear hs5 hb5 hc5)
        refine bodyPost_ret (results_3 rfl _ _ _) rfl (.inl ⟨z, v, A5, n5, c5, by rw [HDV2.out]; rfl, rfl, S5.out, B5.out⟩)
    · have HDV2 : Hid (dmV bs = none) := by show _ = _; rw [HDV.out, if_neg (fun h => hz h.2)]
      have hzI : (12 : Int) ≤ z := by omega
      clear HSL HDC HDV HU HNR hbz hbp
      go_wp2
      refine bodyPost_ret (results_3 rfl _ _ _) rfl (.inr ⟨HDV2.out, rfl, HBW.out⟩)
  · have HDV2 : Hid (dmV bs = none) := by show _ = _; rw [HDV.out, if_neg (fun h => her h.1)]
    obtain rfl : p = 0 := hbz her
    clear HSL HDC HDV HU HNR hbz hbp
    go_wp2
    refine bodyPost_ret (results_3 rfl _ _ _) rfl (.inr ⟨HDV2.out, rfl, HBW.out⟩)
end Go.Proofs.YtnfkjnmdfijhnaaGreatDoor
