/- Signatures verified; the reference's root. -/
import Derived.Test.YtpdledjgbgalcaaGreatDoorND
namespace Go.Proofs.YtpdledjgbgalcaaGreatDoor
open Go.RowKit Go.Lib
set_option linter.unusedVariables false
set_option linter.unusedSimpArgs false
theorem beqN (a b : ByteArray) : decide (a = b) = (a.toList == b.toList) := by
  rw [← beq_toListBytes]
  show decide (a = b) = (a.data == b.data)
  by_cases h : a = b
  · subst h; simp
  · rw [decide_eq_false h]
    symm
    rw [beq_eq_false_iff_ne]
    exact fun h2 => h (ByteArray.ext h2)
set_option maxRecDepth 100000 in
set_option maxHeartbeats 4000000 in
theorem sgverify_any (b h : Int) (dg : ByteArray) (hdg : dg.size = 32) (ix : Nat) (hix : ix < 256) (Ap Aq : Option Addr) (np nq cp cq B : Nat) (ps qs : List ByteArray) (w : World) (hG : Glob w) (hp : Sl fT w B Ap np ps) (hq : Sl fT w B Aq nq qs) (hB : B ≤ w.heap.size) (hn : np ≤ 300) (hm : nq ≤ 8) (hps : ∀ s ∈ ps, s.size = 32) (hqs : ∀ s ∈ qs, s.size = 32) (pub : ByteArray) :
    Calls Tryz.prog 90 #[.agg (cSc b h), .string pub, .string dg, .agg (cSg ix Ap np cp Aq nq cq)] w fun e w' => e = .returned (.bool (sgF b h ix np nq && decide (sgR b dg ix ps qs = pub))) ∧ Below w.heap.size w w' := by
  have HR : Hid (∀ V, Below w.heap.size w V → Calls Tryz.prog 152 #[.agg (cSc b h), .string dg, .agg (cSg ix Ap np cp Aq nq cq)] V fun e w' => ∃ r er, e = .returned (.tuple #[.string r, .int .i64 er]) ∧ (er = 0 ∧ sgF b h ix np nq = true ∧ r = sgR b dg ix ps qs ∨ er = 1 ∧ sgF b h ix np nq = false) ∧ Below V.heap.size V w') := fun V hb => sgroot_any b h dg hdg ix hix Ap Aq np nq cp cq B ps qs V (hG.on hb) (hp.up hb hB) (hq.up hb hB) (Nat.le_trans hB hb.size) hn hm hps hqs
  have HB : Hid (Below w.heap.size w ((w.alloc (.cells (cSc b h) 26)).alloc (.cells (cSg ix Ap np cp Aq nq cq) 33))) := ((Below.refl _ _).alloc (Nat.le_refl _) _).alloc (by simp) _
  have HC := Lib.hid (HR.out _ HB.out)
  clear hp hq hps hqs hG HR
  go_enter Tryz.func90, Tryz.ntmps90
  go_wp2_with (go_at_call 152; (with_reducible refine HC.out.mono ?_); rintro e w4 ⟨r, er, rfl, hr, hb4⟩; (have HB4 := Lib.hid (HB.out.trans (hb4.mono HB.out.size))); clear hb4; rcases hr with ⟨rfl, hf, rfl⟩ | ⟨rfl, hf⟩)
  all_goals
    have HF := Lib.hid hf
    clear hf
    go_wp2
    go_ret
    exact ⟨by rw [HF.out]; first | rfl | (rw [beqN]; rfl), HB4.out⟩
set_option maxRecDepth 100000 in
theorem rgpar_any (b h : Int) (w : World) : Calls Tryz.prog 162 #[.agg (cSc b h)] w fun e w' => e = .returned (.agg (cPm b)) ∧ Below w.heap.size w w' := by
  have HB : Hid (Below w.heap.size w (w.alloc (.cells (cSc b h) 26))) := (Below.refl _ _).alloc (Nat.le_refl _) _
  go_enter Tryz.func162, Tryz.ntmps162
  go_wp2
  exact bodyPost_ret (v := .agg (cPm b)) (by simp [results, Tryz.results162, go_sem]) rfl ⟨rfl, HB.out.alloc HB.out.size _⟩
set_option maxRecDepth 100000 in
set_option maxHeartbeats 4000000 in
theorem rsums_any (A : Option Addr) (n c B : Nat) (ys : List ByteArray) (w : World) (hx : Sl fT w B A n ys) (hn : n ≤ 1000000) (hy : ∀ s ∈ ys, s.size = 32) :
    Calls Tryz.prog 155 #[.slice A n c] w fun e w' => e = .returned (.bool true) ∧ w = w' := by
  have HX := Lib.hid hx
  have HXN : Hid (ys.length = n) := hx.1
  have HY := Lib.hid hy
  clear hx hy
  go_enter Tryz.func155, Tryz.ntmps155
  go_wp2
  go_loopw [7] (fun i wr => (∃ k : Nat, k ≤ n ∧ i = .int .i64 k) ∧ w = wr) (fun i _ => n - (intOf i).toNat)
  case atStart => exact ⟨⟨0, by omega, rfl⟩, rfl⟩
  case round =>
    obtain ⟨⟨k, hk, rfl⟩, rfl⟩ := hrel
    by_cases hlt : k < n
    · obtain ⟨b1, o1, x, rfl, _, hg, hc⟩ := HX.out.2.at_ (k := k) (by rw [HXN.out]; exact hlt)
      have hkI : (k : Int) < (n : Int) := by omega
      have hk0 : (0 : Int) ≤ (k : Int) := by omega
      have hxI : ((x.size : Int) != 32) = false := by simp [HY.out x (List.mem_of_getElem? hg)]
      clear hg
      go_wp2
      refine ⟨?rel, ?measure⟩
      case rel => exact ⟨⟨k + 1, by omega, by go_num⟩, by first | rfl | trivial⟩
      case measure => (simp [intOf] <;> omega)
    · obtain rfl : k = n := by omega
      go_wp2
      go_ret
      exact ⟨rfl, by first | rfl | trivial⟩
set_option maxRecDepth 100000 in
set_option maxHeartbeats 8000000 in
theorem rclimb_any (L : ByteArray) (hL : L.size = 32) (ix : Nat) (hix : ix < 256) (Aq : Option Addr) (nq cq B : Nat) (qs : List ByteArray) (w : World) (hq : Sl fT w B Aq nq qs) (hB : B ≤ w.heap.size) (hm : nq ≤ 8) (hqs : ∀ s ∈ qs, s.size = 32) :
    Calls Tryz.prog 160 #[.string L, .int .i64 ix, .slice Aq nq cq] w fun e w' => e = .returned (.string (clF L ix qs)) ∧ Below w.heap.size w w' := by
  have HQ : Hid (∀ V, Below w.heap.size w V → Sl fT V B Aq nq qs) := fun V hv => hq.up hv hB
  have HQL : Hid (qs.length = nq) := hq.1
  have HQS := Lib.hid hqs
  have HL32 := Lib.hid hL
  have HB0 : Hid (Below w.heap.size w w) := Below.refl _ _
  have HCL0 : Hid (clF L ix qs = clF L (ix / 2 ^ 0) (qs.drop 0)) := by show _ = _; rw [Nat.pow_zero, Nat.div_one, List.drop_zero]
  have HT0 : Hid (ix / 2 ^ 0 = ix) := by show _ = _; rw [Nat.pow_zero, Nat.div_one]
  clear hq hqs hL
  go_enter Tryz.func160, Tryz.ntmps160
  go_upto_region 2 with fail
  go_loopw [0, 1, 11] (fun v j i wr => ∃ (m t : Nat) (cur : ByteArray), m ≤ nq ∧ i = .int .i64 m ∧ j = .int .i64 t ∧ t < 256 ∧ v = .string cur ∧ Hid (ix / 2 ^ m = t) ∧ Hid (cur.size = 32) ∧ Hid (clF L ix qs = clF cur (ix / 2 ^ m) (qs.drop m)) ∧ Hid (Below w.heap.size w wr)) (fun _ _ i _ => nq - (intOf i).toNat)
  case atStart => exact ⟨0, ix, L, by omega, rfl, rfl, hix, rfl, HT0, HL32, HCL0, HB0⟩
  case round =>
    clear HB0 HCL0 HT0
    obtain ⟨m, t, cur, hm', rfl, rfl, ht, rfl, HT, HC32, HCL, HBr⟩ := hrel
    by_cases hml : m < nq
    · have hmI : (m : Int) < (nq : Int) := by omega
      have hm0 : (0 : Int) ≤ (m : Int) := by omega
      obtain ⟨bq, oq, x, hAq, _, hgq, hcq⟩ := (HQ.out wr HBr.out).2.at_ (k := m) (by rw [HQL.out]; exact hml)
      have hx32 := HQS.out x (List.mem_of_getElem? hgq)
      subst hAq
      have HSTEP : Hid (clF L ix qs = clF (if t % 2 = 0 then ndS cur x else ndS x cur) (ix / 2 ^ (m + 1)) (qs.drop (m + 1))) := by
        show _ = _
        rw [HCL.out, HT.out, List.drop_eq_getElem_cons (by rw [HQL.out]; exact hml)]
        have hx : qs[m]'(by rw [HQL.out]; exact hml) = x := by
          have := List.getElem?_eq_getElem (l := qs) (i := m) (by rw [HQL.out]; exact hml)
          rw [hgq] at this
          exact (Option.some.inj this).symm
        rw [hx, clF, Nat.pow_succ, ← Nat.div_div_eq_div_mul, HT.out]
      have HT2 : Hid (ix / 2 ^ (m + 1) = t / 2) := by show _ = _; rw [Nat.pow_succ, ← Nat.div_div_eq_div_mul, HT.out]
      have HN1 : Hid (Calls Tryz.prog 125 #[.string cur, .string x] wr fun e w' => e = .returned (.string (ndS cur x)) ∧ Below wr.heap.size wr w') := rnode_any cur x wr (by rw [HC32.out]; omega) (by rw [hx32]; omega)
      have HN2 : Hid (Calls Tryz.prog 125 #[.string x, .string cur] wr fun e w' => e = .returned (.string (ndS x cur)) ∧ Below wr.heap.size wr w') := rnode_any x cur wr (by rw [hx32]; omega) (by rw [HC32.out]; omega)
      have hpar : t % 2 = 0 ∨ t % 2 = 1 := by omega
      have HM1 : Hid (m + 1 ≤ nq) := hml
      have htd : (t : Int) / 2 = ((t / 2 : Nat) : Int) := by omega
      have HTD : Hid (t / 2 < 256) := by show _ < _; omega
      obtain ⟨t2, ht2⟩ : ∃ t2, t / 2 = t2 := ⟨_, rfl⟩
      rw [ht2] at htd HTD HT2
      clear hgq hx32 ht2
      rcases hpar with hp | hp
      · have hpI : (t : Int) % 2 = 0 := by omega
        rw [hp, if_pos rfl] at HSTEP
        clear hp
        go_wp2_with (go_at_call 125; (with_reducible refine HN1.out.mono ?_); rintro e w10 ⟨rfl, hb10⟩; (have HB10 : Hid (Below w.heap.size w w10) := HBr.out.trans (Below.mono hb10 HBr.out.size)); clear hb10)
        refine ⟨?rel, ?measure⟩
        case rel => exact ⟨m + 1, t2, _, HM1.out, by go_num, rfl, HTD.out, rfl, HT2, ndS_size _ _, HSTEP, HB10⟩
        case measure => (have := HM1.out; clear htd hpI; simp [intOf] <;> omega)
      · have hpI : (t : Int) % 2 = 1 := by omega
        rw [hp, if_neg (by decide)] at HSTEP
        clear hp
        go_wp2_with (go_at_call 125; (with_reducible refine HN2.out.mono ?_); rintro e w10 ⟨rfl, hb10⟩; (have HB10 : Hid (Below w.heap.size w w10) := HBr.out.trans (Below.mono hb10 HBr.out.size)); clear hb10)
        refine ⟨?rel, ?measure⟩
        case rel => exact ⟨m + 1, t2, _, HM1.out, by go_num, rfl, HTD.out, rfl, HT2, ndS_size _ _, HSTEP, HB10⟩
        case measure => (have := HM1.out; clear htd hpI; simp [intOf] <;> omega)
    · obtain rfl : m = nq := by omega
      have HE : Hid (clF L ix qs = cur) := by show _ = _; rw [HCL.out, List.drop_eq_nil_of_le (by rw [HQL.out]; exact Nat.le_refl _)]; rfl
      go_wp2
      go_ret
      exact ⟨by rw [HE.out]; rfl, HBr.out⟩
end Go.Proofs.YtpdledjgbgalcaaGreatDoor
