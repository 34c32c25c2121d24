/- The reference's Token; the law's short; an accusation's body read back. -/
import Derived.Test.YtnfkjnmdfijhnaaGreatDoorS8
import Derived.Test.YtnfkjnmdfijhnaaGreatDoorD1
namespace Go.Proofs.YtnfkjnmdfijhnaaGreatDoor
open Go.RowKit Go.Lib
set_option linter.unusedVariables false
set_option linter.unusedSimpArgs false

set_option maxRecDepth 100000 in
set_option maxHeartbeats 4000000 in
theorem token_any (s : ByteArray) (ix : Int) (no an : ByteArray) (w : World) : Calls Tryz.prog 23 #[.agg #[.string s, .int .i64 ix, .string no, .string an]] w fun e w' => e = .returned (.bool (tkB s ix no an)) ∧ Below w.heap.size w w' := by
  have HR : Hid (tkB s ix no an = decide ((s.size = 32 ∧ 0 ≤ ix ∧ ix ≤ 15) ∧ no.size = 32 ∧ an.size = 32)) := by
    show _ = _
    unfold tkB idB
    simp only [Bool.decide_and, Bool.and_assoc]
  by_cases h0 : ((s.size : Nat) : Int) = 32
  · skip
    by_cases h1 : 0 ≤ ix
    · skip
      by_cases h2 : ix < 16
      · skip
        by_cases h3 : ((no.size : Nat) : Int) = 32
        · skip
          by_cases h4 : ((an.size : Nat) : Int) = 32
          · skip
            go_enter Tryz.func23, Tryz.ntmps23
            go_wp2
            go_ret
            exact ⟨ret_bool (by rw [HR.out]; first | exact (decide_eq_true (by omega)).symm | exact (decide_eq_false (by omega)).symm), (Below.refl _ _).alloc (Nat.le_refl _) _⟩
          · have hz2 : (((an.size : Nat) : Int) == 32) = false := by simp; omega
            go_enter Tryz.func23, Tryz.ntmps23
            go_wp2
            go_ret
            exact ⟨ret_bool (by rw [HR.out]; first | exact (decide_eq_true (by omega)).symm | exact (decide_eq_false (by omega)).symm), (Below.refl _ _).alloc (Nat.le_refl _) _⟩
        · have hz1 : (((no.size : Nat) : Int) == 32) = false := by simp; omega
          go_enter Tryz.func23, Tryz.ntmps23
          go_wp2
          go_ret
          exact ⟨ret_bool (by rw [HR.out]; first | exact (decide_eq_true (by omega)).symm | exact (decide_eq_false (by omega)).symm), (Below.refl _ _).alloc (Nat.le_refl _) _⟩
      · skip
        go_enter Tryz.func23, Tryz.ntmps23
        go_wp2
        go_ret
        exact ⟨ret_bool (by rw [HR.out]; first | exact (decide_eq_true (by omega)).symm | exact (decide_eq_false (by omega)).symm), (Below.refl _ _).alloc (Nat.le_refl _) _⟩
    · skip
      go_enter Tryz.func23, Tryz.ntmps23
      go_wp2
      go_ret
      exact ⟨ret_bool (by rw [HR.out]; first | exact (decide_eq_true (by omega)).symm | exact (decide_eq_false (by omega)).symm), (Below.refl _ _).alloc (Nat.le_refl _) _⟩
  · have hz0 : (((s.size : Nat) : Int) == 32) = false := by simp; omega
    go_enter Tryz.func23, Tryz.ntmps23
    go_wp2
    go_ret
    exact ⟨ret_bool (by rw [HR.out]; first | exact (decide_eq_true (by omega)).symm | exact (decide_eq_false (by omega)).symm), (Below.refl _ _).alloc (Nat.le_refl _) _⟩
set_option maxRecDepth 100000 in
set_option maxHeartbeats 4000000 in
theorem short_any (r : Rcp) (w : World) : Calls Tryz.prog 20 #[.agg #[.int .i64 r.hd, .int .i64 r.vt, .string r.s, .int .i64 r.ix, .int .i64 r.sz, .int .i64 r.dy, .int .i64 r.sr, .int .i64 r.ct, .int .i64 r.pl, .string r.rt, .slice r.pa.a r.pa.n r.pa.c, .int .i64 r.si, .slice r.pb.a r.pb.n r.pb.c, .slice r.pc.a r.pc.n r.pc.c]] w fun e w' => e = .returned (.bool (decide (r.pa.n ≤ 20 ∧ r.pb.n ≤ 310 ∧ r.pc.n ≤ 20))) ∧ Below w.heap.size w w' := by
  obtain ⟨z, hz⟩ : ∃ z : Bool, z = decide (r.pa.n ≤ 20 ∧ r.pb.n ≤ 310 ∧ r.pc.n ≤ 20) := ⟨_, rfl⟩
  have HR : Hid (z = decide (r.pa.n ≤ 20 ∧ r.pb.n ≤ 310 ∧ r.pc.n ≤ 20)) := hz
  rw [← hz]
  clear hz
  by_cases h0 : (r.pa.n : Int) ≤ 20
  · skip
    by_cases h1 : (r.pb.n : Int) ≤ 310
    · skip
      by_cases h2 : (r.pc.n : Int) ≤ 20
      · skip
        go_enter Tryz.func20, Tryz.ntmps20
        go_wp2
        go_ret
        exact ⟨ret_bool (by rw [HR.out]; first | exact (decide_eq_true (by omega)).symm | exact (decide_eq_false (by omega)).symm), (Below.refl _ _).alloc (Nat.le_refl _) _⟩
      · skip
        go_enter Tryz.func20, Tryz.ntmps20
        go_wp2
        go_ret
        exact ⟨ret_bool (by rw [HR.out]; first | exact (decide_eq_true (by omega)).symm | exact (decide_eq_false (by omega)).symm), (Below.refl _ _).alloc (Nat.le_refl _) _⟩
    · skip
      go_enter Tryz.func20, Tryz.ntmps20
      go_wp2
      go_ret
      exact ⟨ret_bool (by rw [HR.out]; first | exact (decide_eq_true (by omega)).symm | exact (decide_eq_false (by omega)).symm), (Below.refl _ _).alloc (Nat.le_refl _) _⟩
  · skip
    go_enter Tryz.func20, Tryz.ntmps20
    go_wp2
    go_ret
    exact ⟨ret_bool (by rw [HR.out]; first | exact (decide_eq_true (by omega)).symm | exact (decide_eq_false (by omega)).symm), (Below.refl _ _).alloc (Nat.le_refl _) _⟩
theorem zM_rt {bs : List Int} {p n : Nat} (h : AtL bs p (enc n)) (hn : n ≤ 1099511627776) : zM bs (p, 0) = ((n : Int), p + (enc n).length, 0) := rN_rt h (Nat.zero_le _) hn (by omega)
theorem rL_rt {bs : List Int} {p m : Nat} {ys : List ByteArray} (h : AtL bs p (encLs ys)) (hs : ∀ s ∈ ys, s.size = 32) (hm : ys.length ≤ m) (hm2 : m ≤ 1000000) : rL bs m (p, 0) = (ys, p + (encLs ys).length, 0) := by
  unfold encLs at h ⊢
  unfold rL
  rw [rC_rt h.left hm hm2]
  simp only [Int.toNat_natCast]
  rw [rSums_rt h.right hs _ (Nat.le_refl _), List.take_of_length_le (Nat.le_refl _), List.length_append, flat_len32 hs, Nat.add_assoc]
set_option maxHeartbeats 1000000 in
theorem encRc_read {r : Rcp} {ps qs rs : List ByteArray} (hv : vaB r ps qs rs = true) : okR (encRc r ps qs rs) = true ∧ (∀ pa pb pc, rcV (encRc r ps qs rs) pa pb pc = { r with pa := pa, pb := pb, pc := pc }) ∧ (rc5 (encRc r ps qs rs)).1 = ps ∧ (rc9 (encRc r ps qs rs)).1 = qs ∧ (rcA (encRc r ps qs rs)).1 = rs := by
  have hv' := hv
  obtain ⟨y0, y1, y2, y3, y4, y5, y6, y7, y8, y9, ⟨y10, y11⟩, ⟨y12, y13⟩, ⟨y14, y15⟩, y16⟩ := vaB_facts hv
  obtain ⟨hd, vt, s, ix, sz, dy, sr, ct, pl, rt, pa, si, pb, pc⟩ := r
  dsimp only at y0 y1 y2 y3 y4 y5 y6 y7 y8 y9 y16
  obtain ⟨hd, rfl⟩ : ∃ k : Nat, hd = k := ⟨hd.toNat, by omega⟩
  obtain ⟨vt, rfl⟩ : ∃ k : Nat, vt = k := ⟨vt.toNat, by omega⟩
  obtain ⟨ix, rfl⟩ : ∃ k : Nat, ix = k := ⟨ix.toNat, by omega⟩
  obtain ⟨sz, rfl⟩ : ∃ k : Nat, sz = k := ⟨sz.toNat, by omega⟩
  obtain ⟨dy, rfl⟩ : ∃ k : Nat, dy = k := ⟨dy.toNat, by omega⟩
  obtain ⟨sr, rfl⟩ : ∃ k : Nat, sr = k := ⟨sr.toNat, by omega⟩
  obtain ⟨ct, rfl⟩ : ∃ k : Nat, ct = k := ⟨ct.toNat, by omega⟩
  obtain ⟨pl, rfl⟩ : ∃ k : Nat, pl = k := ⟨pl.toNat, by omega⟩
  obtain ⟨si, rfl⟩ : ∃ k : Nat, si = k := ⟨si.toNat, by omega⟩
  obtain ⟨bs, hbs⟩ : ∃ bs, bs = encRc ⟨(hd : Int), (vt : Int), s, (ix : Int), (sz : Int), (dy : Int), (sr : Int), (ct : Int), (pl : Int), rt, pa, (si : Int), pb, pc⟩ ps qs rs := ⟨_, rfl⟩
  have hcat : bs = enc hd ++ (enc vt ++ (sB s ++ (enc ix ++ (enc sz ++ (enc dy ++ (enc sr ++ (enc ct ++ (enc pl ++ (encLs ps ++ (sB rt ++ (enc si ++ (encLs qs ++ (encLs rs))))))))))))) := by
    rw [hbs]
    unfold encRc encSg
    simp only [Int.toNat_natCast, List.append_assoc]
  rw [← hbs]
  have h0 : AtL bs 0 (enc hd ++ (enc vt ++ (sB s ++ (enc ix ++ (enc sz ++ (enc dy ++ (enc sr ++ (enc ct ++ (enc pl ++ (encLs ps ++ (sB rt ++ (enc si ++ (encLs qs ++ (encLs rs)))))))))))))) := by rw [← hcat]; exact AtL.self bs
  have hlen : bs.length = (enc hd).length + (enc vt).length + (sB s).length + (enc ix).length + (enc sz).length + (enc dy).length + (enc sr).length + (enc ct).length + (enc pl).length + (encLs ps).length + (sB rt).length + (enc si).length + (encLs qs).length + (encLs rs).length := by
    rw [hcat]
    simp only [List.length_append]
    omega
  have e0 : rc1 bs = ((hd : Int), 0 + (enc hd).length, 0) := by unfold rc1; exact zM_rt h0.left (by omega)
  have e1 : rc2 bs = ((vt : Int), 0 + (enc hd).length + (enc vt).length, 0) := by unfold rc2; rw [e0]; exact zM_rt h0.right.left (by omega)
  have e2 : rc3 bs = (s, 0 + (enc hd).length + (enc vt).length + (sB s).length, 0) := by unfold rc3; rw [e1]; exact rS_rt h0.right.right.left y2
  have e3 : ri1 bs = ((ix : Int), 0 + (enc hd).length + (enc vt).length + (sB s).length + (enc ix).length, 0) := by unfold ri1; rw [e2]; exact zM_rt h0.right.right.right.left (by omega)
  have e4 : ri2 bs = ((sz : Int), 0 + (enc hd).length + (enc vt).length + (sB s).length + (enc ix).length + (enc sz).length, 0) := by unfold ri2; rw [e3]; exact zM_rt h0.right.right.right.right.left (by omega)
  have e5 : ri3 bs = ((dy : Int), 0 + (enc hd).length + (enc vt).length + (sB s).length + (enc ix).length + (enc sz).length + (enc dy).length, 0) := by unfold ri3; rw [e4]; exact zM_rt h0.right.right.right.right.right.left (by omega)
  have e6 : ri4 bs = ((sr : Int), 0 + (enc hd).length + (enc vt).length + (sB s).length + (enc ix).length + (enc sz).length + (enc dy).length + (enc sr).length, 0) := by unfold ri4; rw [e5]; exact zM_rt h0.right.right.right.right.right.right.left (by omega)
  have e7 : ri5 bs = ((ct : Int), 0 + (enc hd).length + (enc vt).length + (sB s).length + (enc ix).length + (enc sz).length + (enc dy).length + (enc sr).length + (enc ct).length, 0) := by unfold ri5; rw [e6]; exact zM_rt h0.right.right.right.right.right.right.right.left (by omega)
  have e8 : ri6 bs = ((pl : Int), 0 + (enc hd).length + (enc vt).length + (sB s).length + (enc ix).length + (enc sz).length + (enc dy).length + (enc sr).length + (enc ct).length + (enc pl).length, 0) := by unfold ri6; rw [e7]; exact zM_rt h0.right.right.right.right.right.right.right.right.left (by omega)
  have e9 : rc5 bs = (ps, 0 + (enc hd).length + (enc vt).length + (sB s).length + (enc ix).length + (enc sz).length + (enc dy).length + (enc sr).length + (enc ct).length + (enc pl).length + (encLs ps).length, 0) := by unfold rc5; rw [e8]; exact rL_rt h0.right.right.right.right.right.right.right.right.right.left y11 (by omega) (by decide)
  have e10 : rc7 bs = (rt, 0 + (enc hd).length + (enc vt).length + (sB s).length + (enc ix).length + (enc sz).length + (enc dy).length + (enc sr).length + (enc ct).length + (enc pl).length + (encLs ps).length + (sB rt).length, 0) := by unfold rc7; rw [e9]; exact rS_rt h0.right.right.right.right.right.right.right.right.right.right.left y9
  have e11 : rc8 bs = ((si : Int), 0 + (enc hd).length + (enc vt).length + (sB s).length + (enc ix).length + (enc sz).length + (enc dy).length + (enc sr).length + (enc ct).length + (enc pl).length + (encLs ps).length + (sB rt).length + (enc si).length, 0) := by unfold rc8; rw [e10]; exact zM_rt h0.right.right.right.right.right.right.right.right.right.right.right.left (by omega)
  have e12 : rc9 bs = (qs, 0 + (enc hd).length + (enc vt).length + (sB s).length + (enc ix).length + (enc sz).length + (enc dy).length + (enc sr).length + (enc ct).length + (enc pl).length + (encLs ps).length + (sB rt).length + (enc si).length + (encLs qs).length, 0) := by unfold rc9; rw [e11]; exact rL_rt h0.right.right.right.right.right.right.right.right.right.right.right.right.left y15 (by omega) (by decide)
  have e13 : rcA bs = (rs, 0 + (enc hd).length + (enc vt).length + (sB s).length + (enc ix).length + (enc sz).length + (enc dy).length + (enc sr).length + (enc ct).length + (enc pl).length + (encLs ps).length + (sB rt).length + (enc si).length + (encLs qs).length + (encLs rs).length, 0) := by unfold rcA; rw [e12]; exact rL_rt h0.right.right.right.right.right.right.right.right.right.right.right.right.right y13 (by omega) (by decide)
  refine ⟨?_, fun pa' pb' pc' => ?_, by rw [e9], by rw [e12], by rw [e13]⟩
  · unfold okR rcV
    rw [e0, e1, e2, e3, e4, e5, e6, e7, e8, e9, e10, e11, e12, e13]
    simp only
    rw [Bool.and_eq_true]
    exact ⟨decide_eq_true ⟨trivial, by omega⟩, hv'⟩
  · unfold rcV
    rw [e0, e1, e2, e3, e4, e5, e6, e7, e8, e10, e11]
theorem encAc_read {r : Rcp} {ps qs rs : List ByteArray} {st : ByteArray} {ix : Nat} {no an : ByteArray} (hv : vaB r ps qs rs = true) (h1 : st.size = 32) (h2 : ix ≤ 15) (h3 : no.size = 32) (h4 : an.size = 32) :
    okT (encAc r ps qs rs st ix no an) = true ∧ (dT1 (encAc r ps qs rs st ix no an)).1 = encRc r ps qs rs ∧ (dT2 (encAc r ps qs rs st ix no an)).1 = (st, (ix : Int)) ∧ (dT3 (encAc r ps qs rs st ix no an)).1 = no ∧ (dT4 (encAc r ps qs rs st ix no an)).1 = an := by
  have hok := (encRc_read hv).1
  have hlr := encRc_len hv
  have hpos : 0 < (encRc r ps qs rs).length := by
    obtain ⟨y0, y1, y2, _⟩ := vaB_facts hv
    unfold encRc encSg
    have := sB_len r.s
    simp only [List.length_append]
    omega
  obtain ⟨L, hL⟩ : ∃ L, L = encRc r ps qs rs := ⟨_, rfl⟩
  obtain ⟨bs, hbs⟩ : ∃ bs, bs = encAc r ps qs rs st ix no an := ⟨_, rfl⟩
  have hcat : bs = (enc L.length ++ L) ++ ((sB st ++ enc ix) ++ (sB no ++ sB an)) := by rw [hbs, hL]; rfl
  rw [← hbs, ← hL]
  rw [← hL] at hok hlr hpos
  have h0 : AtL bs 0 ((enc L.length ++ L) ++ ((sB st ++ enc ix) ++ (sB no ++ sB an))) := by rw [← hcat]; exact AtL.self bs
  have hlen : bs.length = (enc L.length ++ L).length + (sB st ++ enc ix).length + (sB no).length + (sB an).length := by
    rw [hcat]
    simp only [List.length_append]
    omega
  have hbl : L.length ≤ bs.length := by rw [hlen, List.length_append]; omega
  have hb2 : bs.length ≤ 1000000 := by
    rw [hlen]
    have e1 := enc_len L.length
    have e2 := enc_len ix
    have e3 := sB_len st
    have e4 := sB_len no
    have e5 := sB_len an
    simp only [List.length_append]
    omega
  have e1 : dT1 bs = (L, 0 + (enc L.length ++ L).length, 0) := rY_rt h0.left hpos hbl hb2
  have e2 : dT2 bs = ((st, (ix : Int)), 0 + (enc L.length ++ L).length + (sB st ++ enc ix).length, 0) := by unfold dT2; rw [e1]; exact rId_rt h0.right.left h1 h2
  have e3 : dT3 bs = (no, 0 + (enc L.length ++ L).length + (sB st ++ enc ix).length + (sB no).length, 0) := by unfold dT3; rw [e2]; exact rS_rt h0.right.right.left h3
  have e4 : dT4 bs = (an, 0 + (enc L.length ++ L).length + (sB st ++ enc ix).length + (sB no).length + (sB an).length, 0) := by unfold dT4; rw [e3]; exact rS_rt h0.right.right.right h4
  refine ⟨?_, by rw [e1], by rw [e2], by rw [e3], by rw [e4]⟩
  unfold okT
  rw [e4, e1]
  simp only
  rw [Bool.and_eq_true]
  exact ⟨decide_eq_true ⟨trivial, by omega⟩, hok⟩
end Go.Proofs.YtnfkjnmdfijhnaaGreatDoor
