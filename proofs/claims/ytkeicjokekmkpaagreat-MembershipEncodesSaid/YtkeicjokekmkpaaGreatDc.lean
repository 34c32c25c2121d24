/- Decode: the walk. -/
import Derived.Test.YtkeicjokekmkpaaGreatMo
import Derived.Test.YtkeicjokekmkpaaGreatMf
import Derived.Test.YtkeicjokekmkpaaGreatMk
namespace Go.Proofs.YtkeicjokekmkpaaGreat
open Go.RowKit Mb
set_option linter.unusedVariables false
set_option linter.unusedSimpArgs false

theorem Cir.but {w w' : World} {lab : Nat → Nat} {gc g : Nat} {S : Cst} (h : Cir w lab gc S) (hb : But (fun k => k = g) w w') (h0 : lab g = 0) : Cir w' lab gc S := by
  obtain ⟨vm, vv, bm, vfm, vfv, vc, ps1, ps2, h⟩ := h
  exact ⟨vm, vv, bm, vfm, vfv, vc, ps1, ps2, h.same (fun k hk => hb.block k (h.lt hk) (fun e => hk (by rw [e]; exact h0))) hb.size⟩
theorem RdS.fr {g : Nat} {A : Option Addr} {n c : Nat} {bs : List Int} {s : RS} {w w' : World} {lab lab' : Nat → Nat} (h : RdS g A n c bs s w) (hf : Fr w lab w' lab') (h0 : ∀ k, k ≤ g → lab k = 0) : RdS g A n c bs s w' :=
  h.but (p := fun k => lab k ≠ 0) ⟨hf.os, hf.tape, hf.output, hf.size, fun k hk hn => hf.block k hk (by
    rcases Nat.eq_zero_or_pos (lab k) with h | h
    · exact h
    · exact absurd (by omega) hn)⟩ (fun k hk hn => hn (h0 k hk))
theorem decChs_none {bs : List Int} {y : Cst × RS} {k : Nat} (h : decChs bs y k = none) : ∀ j, k ≤ j → decChs bs y j = none
  | 0, hj => by
    have hk : k = 0 := by omega
    subst hk
    exact h
  | j + 1, hj => by
    rcases Nat.lt_or_ge j k with h1 | h1
    · have hk : k = j + 1 := by omega
      subst hk
      exact h
    · rw [decChs, decChs_none h j h1]; rfl
theorem decChs_rch {bs : List Int} {T : Cst} {s0 : RS} : ∀ (k : Nat) {S : Cst} {s : RS}, decChs bs (T, s0) k = some (S, s) → Rch T S ∧ S.chs.length = T.chs.length + k
  | 0, S, s, h => by
    simp only [decChs, Option.some.injEq, Prod.mk.injEq] at h
    obtain ⟨rfl, rfl⟩ := h
    exact ⟨.zero, rfl⟩
  | k + 1, S, s, h => by
    rw [decChs] at h
    cases hk : decChs bs (T, s0) k with
    | none => rw [hk] at h; cases h
    | some y =>
      obtain ⟨S1, s1⟩ := y
      rw [hk] at h
      obtain ⟨h1, h2⟩ := decChs_rch k hk
      simp only [Option.bind_some, stepX] at h
      cases hx : decX bs S1.s.ms.length s1 with
      | mk o s2 =>
        rw [hx] at h
        cases o with
        | none => cases h
        | some c =>
          simp only at h
          split at h
          · next h0 =>
            simp only [Option.some.injEq, Prod.mk.injEq] at h
            obtain ⟨rfl, rfl⟩ := h
            exact ⟨.step h1 h0, by rw [playC_chs h0, List.length_append, h2, List.length_singleton]; omega⟩
          · cases h
theorem Rch.votes {T S : Cst} (h : Rch T S) : S.s.votes.length + T.chs.length ≤ T.s.votes.length + S.chs.length := by
  induction h with
  | zero => omega
  | @step S c h h0 ih =>
    rw [playC_chs h0, List.length_append, List.length_singleton]
    have h5 : (playC S (toChn c)).s.votes.length ≤ S.s.votes.length + 1 := votes_le S.s (toChn c)
    omega
/-- What Decode hands back. -/
def DecP (bs : List Int) (w : World) (e : Ending) (w' : World) : Prop :=
  (∃ S g lab, dec bs = some S ∧ e = .returned (.tuple #[fG g, .int .i64 0]) ∧ Cir w' lab g S ∧ (∀ k, k < w.heap.size → lab k = 0) ∧ Below w.heap.size w w') ∨
  (dec bs = none ∧ e = .returned (.tuple #[.pointer none, .int .i64 3]) ∧ Below w.heap.size w w')
theorem Tryz.zsMi : (Value.agg #[.int .i64 0, .string ⟨#[]⟩, .string ⟨#[]⟩, .int .i64 0, .bool false]).cells.size = 5 := by kernel_rfl
theorem Tryz.infoMi : (Tryz.prog.info? 40).map (fun i => (i.zero, i.size, i.bytes)) = some (some (.agg #[.int .i64 0, .string ⟨#[]⟩, .string ⟨#[]⟩, .int .i64 0, .bool false]), 5, 56) := by kernel_rfl
set_option maxRecDepth 20000 in
set_option maxHeartbeats 8000000 in
theorem decode_any (A : Option Addr) (n c : Nat) (bs : List Int) (w : World) (hx : Sl fB w w.heap.size A n bs) (hn : n ≤ 1000000) (hb : ∀ b ∈ bs, 0 ≤ b ∧ b < 256) :
    Calls Tryz.prog 11 #[.slice A n c] w (DecP bs w) := by
  have HC0 := Lib.hid (newReader_any A n c bs w hx (by omega))
  have hbl : bs.length = n := hx.1
  have HBL := Lib.hid hbl
  have HBR := Lib.hid hb
  obtain ⟨i0, hi, hz0, hz1, hz2⟩ := info_parts Tryz.infoMi
  have HI := Lib.hid hi
  have HZ0 := Lib.hid hz0
  have HZ1 := Lib.hid hz1
  have HZ2 := Lib.hid hz2
  obtain ⟨j0, hj, hy0, hy1, hy2⟩ := info_parts Tryz.infoV
  have HJ := Lib.hid hj
  have HY0 := Lib.hid hy0
  have HY1 := Lib.hid hy1
  have HY2 := Lib.hid hy2
  -- what is read, plainly
  obtain ⟨cn, hcn, hcn12⟩ := rC_val (bs := bs) (m := 12) (s := (0, 0))
  obtain ⟨s1, e1⟩ : ∃ s', rC bs 12 (0, 0) = ((cn : Int), s') := ⟨(rC bs 12 (0, 0)).2, by rw [← hcn]⟩
  have p1 : s1.1 ≤ n := by have := rC_le (m := 12) (s := (0, 0)) hbl (Nat.zero_le _); rw [e1] at this; exact this
  have p2 : ∀ k, (decLs (fun k => decM bs k) s1 k).2.1 ≤ n := fun k => decLs_le (fun k s h => decM_le hbl h) p1 k
  have hml := decLs_len (fun k => decM bs k) s1 cn
  have hmz := decLs_all (f := fun k => decM bs k) (p := fun m => m.name.size ≤ bs.length ∧ m.pub.size ≤ bs.length) (fun k s => decM_name) s1 cn
  obtain ⟨ms, s2, e2⟩ : ∃ x s', decLs (fun k => decM bs k) s1 cn = (x, s') := ⟨_, _, rfl⟩
  have p2e := p2 cn
  rw [e2] at hml hmz p2e
  obtain ⟨kv, hkv, hkv12⟩ := rC_val (bs := bs) (m := 12) (s := s2)
  obtain ⟨s3, e3⟩ : ∃ s', rC bs 12 s2 = ((kv : Int), s') := ⟨(rC bs 12 s2).2, by rw [← hkv]⟩
  have p3 : s3.1 ≤ n := by have := rC_le (m := 12) (s := s2) hbl p2e; rw [e3] at this; exact this
  have p4 : ∀ k, (decLs (fun k => decVt bs k) s3 k).2.1 ≤ n := fun k => decLs_le (fun k s h => decVt_le hbl h) p3 k
  have hvl := decLs_len (fun k => decVt bs k) s3 kv
  have hvz := decLs_all (f := fun k => decVt bs k) (p := fun v => v.ws.length ≤ 3 ∧ v.print.size ≤ bs.length) (fun k s => ⟨decVt_ws, decVt_print⟩) s3 kv
  obtain ⟨vs, s4, e4⟩ : ∃ x s', decLs (fun k => decVt bs k) s3 kv = (x, s') := ⟨_, _, rfl⟩
  have p4e := p4 kv
  rw [e4] at hvl hvz p4e
  obtain ⟨q, s5, e5⟩ : ∃ x s', rI bs s4 = (x, s') := ⟨_, _, rfl⟩
  have p5 : s5.1 ≤ n := by have := rI_le hbl p4e; rw [e5] at this; exact this
  have HD : Hid (dec bs = if newE ms vs q = 0 then (match decChs bs (S00 ms vs q, (rC bs (bs.length - s5.1) s5).2) (rC bs (bs.length - s5.1) s5).1.toNat with
    | some (S, s) => if s.2 = 0 ∧ ¬ s.1 < bs.length then some S else none
    | none => none) else none) := by
    show _ = _
    unfold dec
    simp only [e1, Int.toNat_natCast, e2, e3, e4, e5]
    rfl
  have P2 := Lib.hid p2
  have P4 := Lib.hid p4
  have HMZ := Lib.hid hmz
  have HVZ := Lib.hid hvz
  have HML : Hid (ms.length = cn) := hml
  have HVL : Hid (vs.length = kv) := hvl
  have E1 := Lib.hid e1
  have E2 := Lib.hid e2
  have E3 := Lib.hid e3
  have E4 := Lib.hid e4
  have E5 := Lib.hid e5
  clear hx hb hbl hi hz0 hz1 hz2 hj hy0 hy1 hy2 hcn e1 p2 hml hmz e2 hkv e3 p4 hvl hvz e4 e5
  simp only at p2e p4e
  go_enter Tryz.func11, Tryz.ntmps11
  go_wp2_with fail
  refine HC0.out.mono ?_
  rintro e w1 ⟨g, A1, c1, rfl, hrd, hsl, hgw, hbw, hnc⟩
  have hR1 : RdS g A1 n c1 bs (0, 0) w1 := ⟨⟨0, hrd⟩, hsl⟩
  have hK : RK bs n c1 := ⟨HBR.out, by omega, hnc⟩
  have HK := Lib.hid hK
  have HBW := Lib.hid hbw
  have hgl := hR1.lt
  have HC1 := Lib.hid (rc_any g A1 n c1 bs (0, 0) 12 (by decide) w1 hR1 hK (Nat.zero_le _))
  rw [E1.out] at HC1
  clear hrd hsl hbw hnc hR1 hK
  go_wp2_with fail
  refine HC1.out.mono ?_
  rintro e w2 ⟨rfl, r2, b2⟩
  have HR2 := Lib.hid r2
  have HB2 : Hid (But (fun k => k = g) w1 w2) := b2
  have hgl2 := r2.lt
  clear r2 b2
  go_wp2_with fail
  go_loopw [5, 19] (fun v i wr => ∃ k : Nat, k ≤ cn ∧ i = .int .i64 k ∧ Hid (OwnN fM 5 40 wr w2.heap.size v (decLs (fun k => decM bs k) s1 k).1) ∧ Hid (RdS g A1 n c1 bs (decLs (fun k => decM bs k) s1 k).2 wr) ∧ Hid (But (fun k => k = g) w2 wr)) (fun _ i _ => cn - (intOf i).toNat)
  case atStart => exact ⟨0, Nat.zero_le _, rfl, OwnN.nil, HR2, But.refl _ _⟩
  case round =>
    obtain ⟨k, hk, rfl, HO, HR, HB⟩ := hrel
    by_cases hlt : k < cn
    · obtain ⟨l, st, el⟩ : ∃ x s', decLs (fun k => decM bs k) s1 k = (x, s') := ⟨_, _, rfl⟩
      have hll := decLs_len (fun k => decM bs k) s1 k
      have hps := P2.out k
      rw [el] at hll hps HO HR
      simp only at hll hps HO HR
      obtain ⟨m, st', em⟩ : ∃ x s', decM bs k st = (x, s') := ⟨_, _, rfl⟩
      have HN : Hid (decLs (fun k => decM bs k) s1 (k + 1) = (l ++ [m], st')) := by show _ = _; rw [decLs, el]; simp only; rw [em]
      have HM := Lib.hid (rdmem_any g A1 n c1 bs st k wr HR.out HK.out hps)
      rw [em] at HM
      have HL1 : Hid ((l.length + 1) * 56 ≤ 140737488355328) := by show _ ≤ _; omega
      have HL2 : Hid (l.length + 1 ≤ maxLen) := by show _ ≤ _; unfold maxLen; omega
      clear el em
      go_wp2_with fail
      refine HM.out.mono ?_
      rintro e w6 ⟨rfl, r6, b6⟩
      have HR6 := Lib.hid r6
      have HB6 : Hid (But (fun k => k = g) w2 w6) := HB.out.trans b6 (fun i hi => .inl hi)
      have HO6 : Hid (OwnN fM 5 40 w6 w2.heap.size u5 l) := HO.out.same fun k hk => b6.block k (World.ownsRow.lt HO.out k hk).2 (by have := (World.ownsRow.lt HO.out k hk).1; omega)
      clear r6 b6
      go_wp2_with (at_builtin; (refine wpList_appN1 fM_len (by omega) (o := ⟨some 27, _, _, _, _, _⟩) rfl (.tmp 22) (.tmp 26) 22 rfl 40 i0 _ 56 Tryz.underlying22 HI.out HZ0.out HZ1.out HZ2.out Tryz.zsMi _ l w2.heap.size (by rfl) HO6.out m 1 (by rfl) fM_one HL1.out HL2.out HB6.out.size ?_); intro v7 w7 HO7 HG7 HV7)
      have hb7 : But (fun k => u5.ownBlock = some k) w6 w7 := (But.refl _ w6).grown HG7.out fun k hk => .inl hk
      have HR7 : Hid (RdS g A1 n c1 bs st' w7) := HR6.out.but hb7 (fun k hk e => by have := (World.ownsRow.lt HO6.out k e).1; omega)
      have HB7 : Hid (But (fun k => k = g) w2 w7) := HB6.out.trans hb7 (fun i hi => .inr (World.ownsRow.lt HO6.out i hi).1)
      clear hb7
      go_roundw
      case rel => exact ⟨k + 1, by omega, by go_num, by show OwnN _ _ _ _ _ _ _; rw [HN.out]; exact HO7.out, by show RdS _ _ _ _ _ _ _; rw [HN.out]; exact HR7.out, HB7⟩
      case measure => simp [intOf]; omega
    · obtain rfl : k = cn := by omega
      rw [E2.out] at HO HR
      simp only at HO HR
      have HC3 := Lib.hid (rc_any g A1 n c1 bs s2 12 (by decide) wr HR.out HK.out p2e)
      rw [E3.out] at HC3
      have hgr := HR.out.lt
      go_wp2_with fail
      refine HC3.out.mono ?_
      rintro e w4 ⟨rfl, r4, b4⟩
      have HR4 := Lib.hid r4
      have HO4 : Hid (OwnN fM 5 40 w4 w2.heap.size u5 ms) := HO.out.same fun k hk => b4.block k (World.ownsRow.lt HO.out k hk).2 (by have := (World.ownsRow.lt HO.out k hk).1; omega)
      have HB4 : Hid (But (fun k => k = g) w1 w4) := (HB2.out.trans HB.out (fun i hi => .inl hi)).trans b4 (fun i hi => .inl hi)
      have hg4 := r4.lt
      clear r4 b4
      go_wp2_with fail
      go_loopw [7, 31] (fun v i wr => ∃ (k : Nat) (ps : List VP), k ≤ kv ∧ i = .int .i64 k ∧ Hid (VRow wr w4.heap.size v ps) ∧ Hid (ps.map Prod.fst = (decLs (fun k => decVt bs k) s3 k).1) ∧ Hid (∀ p ∈ ps, p.2.n = p.1.ws.length) ∧ Hid (RdS g A1 n c1 bs (decLs (fun k => decVt bs k) s3 k).2 wr) ∧ Hid (But (fun k => k = g) w4 wr)) (fun _ i _ => kv - (intOf i).toNat)
      case atStart => exact ⟨0, [], Nat.zero_le _, rfl, VRow.nil, rfl, fun p hp => (by cases hp), HR4, But.refl _ _⟩
      case round =>
        obtain ⟨k, ps, hk, rfl, HV, HPS, HPN, HR, HB⟩ := hrel
        by_cases hlt : k < kv
        · obtain ⟨l, st, el⟩ : ∃ x s', decLs (fun k => decVt bs k) s3 k = (x, s') := ⟨_, _, rfl⟩
          have hll := decLs_len (fun k => decVt bs k) s3 k
          have hps := P4.out k
          rw [el] at hll hps HPS HR
          simp only at hll hps HPS HR
          obtain ⟨x, st', em⟩ : ∃ x s', decVt bs k st = (x, s') := ⟨_, _, rfl⟩
          have HN : Hid (decLs (fun k => decVt bs k) s3 (k + 1) = (l ++ [x], st')) := by show _ = _; rw [decLs, el]; simp only; rw [em]
          have HM := Lib.hid (rvlt_any g A1 n c1 bs st k wr HR.out HK.out hps)
          rw [em] at HM
          have hpl : ps.length = k := by
            have h5 := congrArg List.length HPS.out
            rw [List.length_map] at h5
            omega
          have HL1 : Hid ((ps.length + 1) * 144 ≤ 140737488355328) := by show _ ≤ _; omega
          have HL2 : Hid (ps.length + 1 ≤ maxLen) := by show _ ≤ _; unfold maxLen; omega
          have hsw := HB.out.size
          clear el em
          go_wp2_with fail
          refine HM.out.mono ?_
          rintro e w6 ⟨A6, c6, rfl, o6, r6, b6⟩
          have HR6 := Lib.hid r6
          have HO6 := Lib.hid o6
          have HB6 : Hid (But (fun k => k = g) w4 w6) := HB.out.trans b6 (fun i hi => .inl hi)
          have HV6 : Hid (VRow w6 w4.heap.size u7 ps) := HV.out.up fun k hk => by
            rcases hk with hk | ⟨p, hp, hk⟩
            · exact b6.block k (World.ownsRow.lt HV.out.row k hk).2 (by have := (World.ownsRow.lt HV.out.row k hk).1; omega)
            · exact b6.block k (World.ownsRow.lt (HV.out.ws p hp) k hk).2 (by have := (World.ownsRow.lt (HV.out.ws p hp) k hk).1; omega)
          clear r6 b6 o6
          go_wp2_with (at_builtin; (refine wpList_appN1 fP_len (by omega) (o := ⟨some 39, _, _, _, _, _⟩) rfl (.tmp 34) (.tmp 38) 23 rfl 68 j0 _ 144 Tryz.underlying23 HJ.out HY0.out HY1.out HY2.out Tryz.zsV _ ps w4.heap.size (by rfl) HV6.out.row (x, ⟨A6, x.ws.length, c6⟩) 1 (by rfl) fP_one HL1.out HL2.out HB6.out.size ?_); intro v7 w7 HO7 HG7 HV7)
          have hb7 : But (fun k => u7.ownBlock = some k) w6 w7 := (But.refl _ w6).grown HG7.out fun k hk => .inl hk
          have HR7 : Hid (RdS g A1 n c1 bs st' w7) := HR6.out.but hb7 (fun k hk e => by have := (World.ownsRow.lt HV6.out.row k e).1; omega)
          have HB7 : Hid (But (fun k => k = g) w4 w7) := HB6.out.trans hb7 (fun i hi => .inr (World.ownsRow.lt HV6.out.row i hi).1)
          have HV8 : Hid (VRow w7 w4.heap.size v7 (ps ++ [(x, ⟨A6, x.ws.length, c6⟩)])) := VRow.snoc (y := (x, ⟨A6, x.ws.length, c6⟩)) HV6.out HO6.out hsw (fun g hg => (World.ownsRow.lt HV.out.row g hg).2) (fun p hp g hg => (World.ownsRow.lt (HV.out.ws p hp) g hg).2) HG7.out HO7.out HV7.out
          have HP8 : Hid ((ps ++ [((x, ⟨A6, x.ws.length, c6⟩) : VP)]).map Prod.fst = (decLs (fun k => decVt bs k) s3 (k + 1)).1) := by show _ = _; rw [HN.out, List.map_append, HPS.out]; rfl
          have HPN8 : Hid (∀ p ∈ ps ++ [((x, ⟨A6, x.ws.length, c6⟩) : VP)], p.2.n = p.1.ws.length) := fun p hp => by
            rcases List.mem_append.1 hp with hp | hp
            · exact HPN.out p hp
            · obtain rfl := List.mem_singleton.1 hp; rfl
          clear hb7 HV6 HO6 HO7 HG7 HV7 HV HPS HPN
          go_roundw
          case rel => exact ⟨k + 1, _, by omega, by go_num, HV8, HP8, HPN8, by show RdS _ _ _ _ _ _ _; rw [HN.out]; exact HR7.out, HB7⟩
          case measure => simp [intOf]; omega
        · obtain rfl : k = kv := by omega
          rw [E4.out] at HPS HR
          simp only at HPS HR
          have HC5 := Lib.hid (ri_any g A1 n c1 bs s4 wr HR.out HK.out p4e)
          rw [E5.out] at HC5
          have HO5 : Hid (OwnN fM 5 40 wr w2.heap.size u5 ms) := HO4.out.same fun k hk => HB.out.block k (World.ownsRow.lt HO4.out k hk).2 (by have := (World.ownsRow.lt HO4.out k hk).1; omega)
          have hgr2 := HR.out.lt
          have hwr4 := HB.out.size
          clear HO4
          go_wp2_with fail
          refine HC5.out.mono ?_
          rintro e w9 ⟨rfl, r9, b9⟩
          have HR9 := Lib.hid r9
          have HO9 : Hid (OwnN fM 5 40 w9 w2.heap.size u5 ms) := HO5.out.same fun k hk => b9.block k (World.ownsRow.lt HO5.out k hk).2 (by have := (World.ownsRow.lt HO5.out k hk).1; omega)
          have HV9 : Hid (VRow w9 w4.heap.size u7 ps) := HV.out.up fun k hk => by
            rcases hk with hk | ⟨p, hp, hk⟩
            · exact b9.block k (World.ownsRow.lt HV.out.row k hk).2 (by have := (World.ownsRow.lt HV.out.row k hk).1; omega)
            · exact b9.block k (World.ownsRow.lt (HV.out.ws p hp) k hk).2 (by have := (World.ownsRow.lt (HV.out.ws p hp) k hk).1; omega)
          have HB9 : Hid (But (fun k => k = g) w1 w9) := (HB4.out.trans HB.out (fun i hi => .inl hi)).trans b9 (fun i hi => .inl hi)
          have HW9 : Hid (Below w.heap.size w w9) := HBW.out.trans (HB9.out.below HBW.out.size (fun i hi => by rw [hi]; exact hgw))
          have hg9 := r9.lt
          obtain ⟨A5, c5, hv5, hc5, hs5, _⟩ := HO9.out.shape fM_len
          obtain ⟨A7, c7, hv7, hc7, hvi⟩ := HV9.out.vin
          subst hv5 hv7
          have HNEW := Lib.hid (new_any A5 A7 ms.length ps.length c5 c7 q ms ps w9 hc5 hs5 (fun m hm => ⟨Nat.le_trans (HMZ.out m hm).1 (by have := HBL.out; omega), Nat.le_trans (HMZ.out m hm).2 (by have := HBL.out; omega)⟩) hvi (fun p hp => by
            have h5 := HVZ.out p.1 (by rw [← HPS.out]; exact List.mem_map_of_mem hp)
            rw [HPN.out p hp]
            exact ⟨Nat.le_trans h5.1 (by decide), Nat.le_trans h5.2 (by have := HBL.out; omega)⟩))
          rw [HPS.out] at HNEW
          clear r9 b9 hc5 hs5 hc7 hvi HV HO5 HC5 HC3
          go_wp2_with fail
          refine HNEW.out.mono ?_
          rintro e w10 h1
          rcases h1 with ⟨h0, h1⟩ | ⟨h0, h1, h2⟩
          · obtain ⟨gc, lab0, rfl, hC, hl, hgc, hb⟩ := h1.cir
            have H0 := Lib.hid h0
            have HI0 : Hid (Inv (S00 ms vs q).s) := newE_inv h0
            have HC0' : Hid (Cir w10 lab0 gc (S00 ms vs q)) := hC
            have HL0 : Hid (∀ k, k < w9.heap.size → lab0 k = 0) := hl
            have HR10 := Lib.hid (HR9.out.on hb)
            have HW10 : Hid (Below w.heap.size w w10) := HW9.out.trans (hb.mono HW9.out.size)
            obtain ⟨⟨pv, hrd⟩, hsl⟩ := HR10.out
            have HLF := Lib.hid (left_any g A1 n c1 s5.1 pv s5.2 w10 hrd p5 (by omega))
            have hs910 := hb.size
            clear h1 hC hl hb h0 hrd hsl
            go_wp2_with fail
            refine HLF.out.mono ?_
            rintro e w11 ⟨rfl, hb⟩
            have HR11 := Lib.hid (HR10.out.on hb)
            have HC11 := Lib.hid (HC0'.out.on hb)
            have HW11 : Hid (Below w.heap.size w w11) := HW10.out.trans (hb.mono HW10.out.size)
            obtain ⟨cx, hcx, hcxm⟩ := rC_val (bs := bs) (m := n - s5.1) (s := s5)
            obtain ⟨s6, e6⟩ : ∃ s', rC bs (n - s5.1) s5 = ((cx : Int), s') := ⟨(rC bs (n - s5.1) s5).2, by rw [← hcx]⟩
            have p6 : s6.1 ≤ n := by have := rC_le (m := n - s5.1) (s := s5) HBL.out p5; rw [e6] at this; exact this
            have HD2 : Hid (dec bs = match decChs bs (S00 ms vs q, s6) cx with
                | some (S, s) => if s.2 = 0 ∧ ¬ s.1 < bs.length then some S else none
                | none => none) := by
              show _ = _
              rw [HD.out, if_pos H0.out, HBL.out, e6]
              rfl
            have HCX := Lib.hid (rc_any g A1 n c1 bs s5 (n - s5.1) (by omega) w11 HR11.out HK.out p5)
            rw [e6] at HCX
            have hs11 := hb.size
            clear hb hcx e6
            go_wp2_with fail
            refine HCX.out.mono ?_
            rintro e w12 ⟨rfl, r12, b12⟩
            have HR12 := Lib.hid r12
            have HC12 := Lib.hid (HC11.out.but b12 (HL0.out g (by omega)))
            have HW12 : Hid (Below w.heap.size w w12) := HW11.out.trans (b12.below HW11.out.size (fun i hi => by rw [hi]; exact hgw))
            have hs912 : w9.heap.size ≤ w12.heap.size := by have := b12.size; omega
            clear r12 b12
            go_wp2_with fail
            go_loopw [56] (fun i wr => ∃ (k : Nat) (lab : Nat → Nat) (S : Cst) (st : RS), k ≤ cx ∧ i = .int .i64 k ∧ Hid (decChs bs (S00 ms vs q, s6) k = some (S, st)) ∧ st.1 ≤ n ∧ Hid (Cir wr lab gc S) ∧ Hid (RdS g A1 n c1 bs st wr) ∧ Hid (∀ k, k < w9.heap.size → lab k = 0) ∧ Hid (Below w.heap.size w wr) ∧ w9.heap.size ≤ wr.heap.size) (fun i _ => cx - (intOf i).toNat)
            case atStart => exact ⟨0, lab0, S00 ms vs q, s6, Nat.zero_le _, rfl, rfl, p6, HC12, HR12, HL0, HW12, hs912⟩
            case round =>
              obtain ⟨k, lab, S, st, hk, rfl, HCH, hst, HC, HR, HL, HW, hs9r⟩ := hrel
              obtain ⟨hrch, hchl⟩ := decChs_rch k HCH.out
              have HIV : Hid (Inv S.s) := hrch.inv HI0.out
              have hvot := hrch.votes
              have hchl' : S.chs.length ≤ 1000000 := by rw [hchl]; simp; omega
              have hvot' : S.s.votes.length ≤ 1000000 := by simp at hvot; omega
              have HRC := Lib.hid hrch
              by_cases hlt : k < cx
              · obtain ⟨Am, cm, hcm, _, _⟩ := HC.out.mem
                obtain ⟨o, st', ex⟩ : ∃ x s', decX bs S.s.ms.length st = (x, s') := ⟨_, _, rfl⟩
                have HM := Lib.hid (rchg_any g A1 n c1 bs st S.s.ms.length wr HR.out HK.out hst)
                rw [ex] at HM
                have hst' : st'.1 ≤ n := by have := decX_le (N := S.s.ms.length) HBL.out hst; rw [ex] at this; exact this
                have HX := Lib.hid ex
                clear ex hrch hchl hvot
                go_wp2_with fail
                refine HM.out.mono ?_
                rintro e w6 ⟨rfl, r6, b6⟩
                have hlg : lab g = 0 := HL.out g hg9
                have HC6 := Lib.hid (HC.out.but b6 hlg)
                have HR6 := Lib.hid r6
                have HW6 : Hid (Below w.heap.size w w6) := HW.out.trans (b6.below HW.out.size (fun i hi => by rw [hi]; exact hgw))
                have hs96 : w9.heap.size ≤ w6.heap.size := Nat.le_trans hs9r b6.size
                clear r6 b6 hcm hlg
                cases o with
                | none =>
                  have HDN : Hid (dec bs = none) := by
                    show _ = _
                    have h5 : decChs bs (S00 ms vs q, s6) (k + 1) = none := by rw [decChs, HCH.out]; simp only [Option.bind_some, stepX, HX.out]
                    rw [HD2.out, decChs_none h5 cx hlt]
                  rw [show oC none = Value.nilIface from rfl]
                  go_wp2_with fail
                  go_ret2
                  exact .inr ⟨HDN.out, rfl, HW6.out⟩
                | some cc =>
                  have hsz := decX_size (by have := HBL.out; omega) HX.out
                  have HAP := Lib.hid (apply_any gc lab S cc w6 HC6.out HIV.out hchl' hvot' hsz)
                  clear hsz
                  cases cc with
                  | adm m =>
                    rw [show oC (some (.adm m)) = Value.iface 88 (aM m) from rfl]
                    have hmt := mt_adm (aM m)
                    simp only [Tryz.t88, Array.getD_eq_getD_getElem?, List.getElem?_toArray, List.getElem?_cons_zero, Option.getD_some] at hmt
                    have HAQ : Hid (Calls Tryz.prog 142 #[aM m, fG gc] w6 (MutP (playC S (toChn (.adm m))) lab gc (.int .i64 (playE S.s (toChn (.adm m)))) w6)) := HAP.out
                    go_wp2_with fail
                    clear hmt
                    refine HAQ.out.mono ?_
                    rintro e w7 ⟨rfl, lab7, hC7, hF7⟩
                    have HR7 : Hid (RdS g A1 n c1 bs st' w7) := HR6.out.fr hF7 (fun j hj => HL.out j (by omega))
                    have HL7 : Hid (∀ k, k < w9.heap.size → lab7 k = 0) := fun j hj => (hF7.keep j (Nat.lt_of_lt_of_le hj hs96)).trans (HL.out j hj)
                    have HW7 : Hid (Below w.heap.size w w7) := HW6.out.trans (hF7.below HW6.out.size (fun j hj => HL.out j (Nat.lt_of_lt_of_le hj HW9.out.size)))
                    have HC7 := Lib.hid hC7
                    have hs97 : w9.heap.size ≤ w7.heap.size := Nat.le_trans hs96 hF7.size
                    clear hC7 hF7
                    obtain ⟨pe, hpe⟩ : ∃ z, playE S.s (toChn (.adm m)) = z := ⟨_, rfl⟩
                    rw [hpe]
                    by_cases hz : pe = 0
                    · have HCH7 : Hid (decChs bs (S00 ms vs q, s6) (k + 1) = some (playC S (toChn (.adm m)), st')) := by
                        show _ = _
                        rw [decChs, HCH.out]
                        simp only [Option.bind_some, stepX, HX.out]
                        rw [if_pos (hpe.trans hz)]
                      subst hz
                      clear hpe
                      go_wp2_with fail
                      go_roundw
                      case rel => exact ⟨k + 1, lab7, _, st', by omega, by go_num, HCH7, hst', HC7, HR7, HL7, HW7, hs97⟩
                      case measure => simp [intOf]; omega
                    · have HDN : Hid (dec bs = none) := by
                        show _ = _
                        have h5 : decChs bs (S00 ms vs q, s6) (k + 1) = none := by
                          rw [decChs, HCH.out]
                          simp only [Option.bind_some, stepX, HX.out]
                          rw [if_neg (fun h => hz (hpe.symm.trans h))]
                        rw [HD2.out, decChs_none h5 cx hlt]
                      have hzb : (pe != 0) = true := by simpa using hz
                      clear hpe hz
                      go_wp2_with fail
                      go_ret2
                      exact .inr ⟨HDN.out, rfl, HW7.out⟩
                  | bal a b =>
                    rw [show oC (some (.bal a b)) = Value.iface 90 (.agg #[.int .i64 a, .int .i64 b]) from rfl]
                    have hmt := mt_bal (.agg #[.int .i64 a, .int .i64 b])
                    simp only [Tryz.t90, Array.getD_eq_getD_getElem?, List.getElem?_toArray, List.getElem?_cons_zero, Option.getD_some] at hmt
                    have HAQ : Hid (Calls Tryz.prog 143 #[.agg #[.int .i64 a, .int .i64 b], fG gc] w6 (MutP (playC S (toChn (.bal a b))) lab gc (.int .i64 (playE S.s (toChn (.bal a b)))) w6)) := HAP.out
                    go_wp2_with fail
                    clear hmt
                    refine HAQ.out.mono ?_
                    rintro e w7 ⟨rfl, lab7, hC7, hF7⟩
                    have HR7 : Hid (RdS g A1 n c1 bs st' w7) := HR6.out.fr hF7 (fun j hj => HL.out j (by omega))
                    have HL7 : Hid (∀ k, k < w9.heap.size → lab7 k = 0) := fun j hj => (hF7.keep j (Nat.lt_of_lt_of_le hj hs96)).trans (HL.out j hj)
                    have HW7 : Hid (Below w.heap.size w w7) := HW6.out.trans (hF7.below HW6.out.size (fun j hj => HL.out j (Nat.lt_of_lt_of_le hj HW9.out.size)))
                    have HC7 := Lib.hid hC7
                    have hs97 : w9.heap.size ≤ w7.heap.size := Nat.le_trans hs96 hF7.size
                    clear hC7 hF7
                    obtain ⟨pe, hpe⟩ : ∃ z, playE S.s (toChn (.bal a b)) = z := ⟨_, rfl⟩
                    rw [hpe]
                    by_cases hz : pe = 0
                    · have HCH7 : Hid (decChs bs (S00 ms vs q, s6) (k + 1) = some (playC S (toChn (.bal a b)), st')) := by
                        show _ = _
                        rw [decChs, HCH.out]
                        simp only [Option.bind_some, stepX, HX.out]
                        rw [if_pos (hpe.trans hz)]
                      subst hz
                      clear hpe
                      go_wp2_with fail
                      go_roundw
                      case rel => exact ⟨k + 1, lab7, _, st', by omega, by go_num, HCH7, hst', HC7, HR7, HL7, HW7, hs97⟩
                      case measure => simp [intOf]; omega
                    · have HDN : Hid (dec bs = none) := by
                        show _ = _
                        have h5 : decChs bs (S00 ms vs q, s6) (k + 1) = none := by
                          rw [decChs, HCH.out]
                          simp only [Option.bind_some, stepX, HX.out]
                          rw [if_neg (fun h => hz (hpe.symm.trans h))]
                        rw [HD2.out, decChs_none h5 cx hlt]
                      have hzb : (pe != 0) = true := by simpa using hz
                      clear hpe hz
                      go_wp2_with fail
                      go_ret2
                      exact .inr ⟨HDN.out, rfl, HW7.out⟩
                  | rep v a b =>
                    rw [show oC (some (.rep v a b)) = Value.iface 92 (.agg #[.int .i64 v, .int .i64 a, .int .i64 b]) from rfl]
                    have hmt := mt_rep (.agg #[.int .i64 v, .int .i64 a, .int .i64 b])
                    simp only [Tryz.t92, Array.getD_eq_getD_getElem?, List.getElem?_toArray, List.getElem?_cons_zero, Option.getD_some] at hmt
                    have HAQ : Hid (Calls Tryz.prog 144 #[.agg #[.int .i64 v, .int .i64 a, .int .i64 b], fG gc] w6 (MutP (playC S (toChn (.rep v a b))) lab gc (.int .i64 (playE S.s (toChn (.rep v a b)))) w6)) := HAP.out
                    go_wp2_with fail
                    clear hmt
                    refine HAQ.out.mono ?_
                    rintro e w7 ⟨rfl, lab7, hC7, hF7⟩
                    have HR7 : Hid (RdS g A1 n c1 bs st' w7) := HR6.out.fr hF7 (fun j hj => HL.out j (by omega))
                    have HL7 : Hid (∀ k, k < w9.heap.size → lab7 k = 0) := fun j hj => (hF7.keep j (Nat.lt_of_lt_of_le hj hs96)).trans (HL.out j hj)
                    have HW7 : Hid (Below w.heap.size w w7) := HW6.out.trans (hF7.below HW6.out.size (fun j hj => HL.out j (Nat.lt_of_lt_of_le hj HW9.out.size)))
                    have HC7 := Lib.hid hC7
                    have hs97 : w9.heap.size ≤ w7.heap.size := Nat.le_trans hs96 hF7.size
                    clear hC7 hF7
                    obtain ⟨pe, hpe⟩ : ∃ z, playE S.s (toChn (.rep v a b)) = z := ⟨_, rfl⟩
                    rw [hpe]
                    by_cases hz : pe = 0
                    · have HCH7 : Hid (decChs bs (S00 ms vs q, s6) (k + 1) = some (playC S (toChn (.rep v a b)), st')) := by
                        show _ = _
                        rw [decChs, HCH.out]
                        simp only [Option.bind_some, stepX, HX.out]
                        rw [if_pos (hpe.trans hz)]
                      subst hz
                      clear hpe
                      go_wp2_with fail
                      go_roundw
                      case rel => exact ⟨k + 1, lab7, _, st', by omega, by go_num, HCH7, hst', HC7, HR7, HL7, HW7, hs97⟩
                      case measure => simp [intOf]; omega
                    · have HDN : Hid (dec bs = none) := by
                        show _ = _
                        have h5 : decChs bs (S00 ms vs q, s6) (k + 1) = none := by
                          rw [decChs, HCH.out]
                          simp only [Option.bind_some, stepX, HX.out]
                          rw [if_neg (fun h => hz (hpe.symm.trans h))]
                        rw [HD2.out, decChs_none h5 cx hlt]
                      have hzb : (pe != 0) = true := by simpa using hz
                      clear hpe hz
                      go_wp2_with fail
                      go_ret2
                      exact .inr ⟨HDN.out, rfl, HW7.out⟩
              · obtain rfl : k = cx := by omega
                obtain ⟨⟨pv, hrd⟩, hsl⟩ := HR.out
                have HEN := Lib.hid (rend_any g A1 n c1 st.1 pv st.2 wr hrd)
                clear hrch hchl hvot hrd hsl
                by_cases hok : st.2 = 0 ∧ ¬ st.1 < bs.length
                · have HDS : Hid (dec bs = some S) := by show _ = _; rw [HD2.out, HCH.out]; simp only; rw [if_pos hok]
                  have hz : (if st.2 = 0 then (if st.1 < n then (3 : Int) else 0) else st.2) = 0 := by rw [if_pos hok.1, if_neg (by rw [← HBL.out]; exact hok.2)]
                  rw [hz] at HEN
                  clear hok hz
                  go_wp2_with fail
                  refine HEN.out.mono ?_
                  rintro e w13 ⟨rfl, hb⟩
                  have HC13 := Lib.hid (HC.out.on hb)
                  have HW13 : Hid (Below w.heap.size w w13) := HW.out.trans (hb.mono HW.out.size)
                  clear hb
                  go_wp2_with fail
                  go_ret2
                  exact .inl ⟨S, gc, lab, HDS.out, rfl, HC13.out, fun j hj => HL.out j (Nat.lt_of_lt_of_le hj HW9.out.size), HW13.out⟩
                · have HDN : Hid (dec bs = none) := by show _ = _; rw [HD2.out, HCH.out]; simp only; rw [if_neg hok]
                  obtain ⟨z, hz⟩ : ∃ z : Int, (if st.2 = 0 then (if st.1 < n then (3 : Int) else 0) else st.2) = z := ⟨_, rfl⟩
                  have hzb : (z != 0) = true := by
                    have : z ≠ 0 := by
                      rw [← hz]
                      intro h
                      apply hok
                      by_cases h1 : st.2 = 0
                      · rw [if_pos h1] at h
                        by_cases h2 : st.1 < n
                        · rw [if_pos h2] at h; cases h
                        · exact ⟨h1, by rw [HBL.out]; exact h2⟩
                      · rw [if_neg h1] at h; exact absurd h h1
                    simpa using this
                  rw [hz] at HEN
                  clear hok hz
                  go_wp2_with fail
                  refine HEN.out.mono ?_
                  rintro e w13 ⟨rfl, hb⟩
                  have HW13 : Hid (Below w.heap.size w w13) := HW.out.trans (hb.mono HW.out.size)
                  clear hb
                  go_wp2_with fail
                  go_ret2
                  exact .inr ⟨HDN.out, rfl, HW13.out⟩
          · subst h1
            have he0 : (newE ms vs q != 0) = true := by simpa using h0
            have HDN : Hid (dec bs = none) := by show _ = _; rw [HD.out, if_neg h0]
            have HW10 : Hid (Below w.heap.size w w10) := HW9.out.trans (h2.mono HW9.out.size)
            clear h0 h2
            go_wp2_with fail
            go_ret2
            exact .inr ⟨HDN.out, rfl, HW10.out⟩
end Go.Proofs.YtkeicjokekmkpaaGreat
