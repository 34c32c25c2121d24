/- has, active, Members. Vaults. devices: the members that a function selects. -/
import Derived.Test.YtkeicjokekmkpaaGreatCs
namespace Go.Proofs.YtkeicjokekmkpaaGreat
open Go.RowKit Mb
set_option linter.unusedVariables false
set_option linter.unusedSimpArgs false

abbrev fG (g : Nat) : Value := .pointer (some ⟨g, 0, none⟩)
theorem has_any (g : Nat) (A : Option Addr) (n c : Nat) (d : Int) (w : World) (hg : w.cell? ⟨g, 0, none⟩ = some (.slice A n c)) (hn : n ≤ 1000000) :
    Calls Tryz.prog 61 #[fG g, .int .i64 d] w fun e w' => e = .returned (.bool (decide (0 ≤ d) && decide (d < n))) ∧ w = w' := by
  by_cases h0 : 0 ≤ d
  · have e0 : decide (0 ≤ d) = true := decide_eq_true h0
    go_enter Tryz.func61, Tryz.ntmps61
    go_wp2
    go_ret
    exact ⟨ret_bool (by first | rfl | (rw [e0]; simp) | simp [e0]), rfl⟩
  · have e0 : decide (0 ≤ d) = false := decide_eq_false h0
    go_enter Tryz.func61, Tryz.ntmps61
    go_wp2
    go_ret
    exact ⟨ret_bool (by first | rfl | (rw [e0]; simp) | simp [e0]), rfl⟩
theorem active_any (g : Nat) (A : Option Addr) (n c d : Nat) (ms : List Mem) (m : Mem) (w : World) (B : Nat) (hg : w.cell? ⟨g, 0, none⟩ = some (.slice A n c)) (hx : SlN fM 5 w B A n ms) (hn : n ≤ 1000000) (hm : ms[d]? = some m) :
    Calls Tryz.prog 59 #[fG g, .int .i64 d] w fun e w' => e = .returned (.bool (!m.exp)) ∧ w = w' := by
  have hlt : d < n := by
    have h1 := (List.getElem?_eq_some_iff.1 hm).1
    have h2 := hx.1
    omega
  obtain ⟨b, off, x, rfl, hbB, hxk, hcell⟩ := hx.at_ hlt
  obtain rfl : x = m := Option.some.inj (hxk.symm.trans hm)
  obtain ⟨c0, c1, c2, c3, c4⟩ := five hcell
  clear hcell hxk hm hx
  go_enter Tryz.func59, Tryz.ntmps59
  go_wp2
  go_ret
  exact ⟨rfl, rfl⟩
theorem members_any (g : Nat) (A : Option Addr) (n c : Nat) (ms : List Mem) (w : World) (hg : w.cell? ⟨g, 0, none⟩ = some (.slice A n c)) (hx : SlN fM 5 w w.heap.size A n ms) (hn : n ≤ 1000000) :
    Calls Tryz.prog 45 #[fG g] w (OwnR fM 5 40 ms w) := by
  have HC := Lib.hid (mclone_any A n c ms w hx hn)
  clear hx
  go_enter Tryz.func45, Tryz.ntmps45
  go_wp2_with fail
  refine HC.out.mono ?_
  rintro e w1 ⟨v, rfl, ho, hb⟩
  have HO := Lib.hid ho
  have HB := Lib.hid hb
  clear ho hb
  go_wp2
  go_ret
  exact ⟨v, rfl, HO.out, HB.out⟩
end Go.Proofs.YtkeicjokekmkpaaGreat
namespace Go.Proofs.YtkeicjokekmkpaaGreat
open Go.RowKit Mb
set_option linter.unusedVariables false
set_option linter.unusedSimpArgs false

theorem vaults_any (g : Nat) (A : Option Addr) (n c : Nat) (ps : List VP) (w : World) (hg : w.cell? ⟨g, 1, none⟩ = some (.slice A n c)) (hx : VIn w w.heap.size A n ps) (hn : n ≤ 1000) (hws : ∀ p ∈ ps, p.2.n ≤ 1000000) :
    Calls Tryz.prog 46 #[fG g] w (CopVs (ps.map Prod.fst) w) := by
  have HC := Lib.hid (copyVs_any A n c ps w hx hn hws)
  clear hx hws
  go_enter Tryz.func46, Tryz.ntmps46
  go_wp2_with fail
  refine HC.out.mono ?_
  rintro e w1 ⟨v, ps1, rfl, hr, hp, hb⟩
  have HR := Lib.hid hr
  have HP := Lib.hid hp
  have HB := Lib.hid hb
  clear hr hp hb
  go_wp2
  go_ret
  exact ⟨v, ps1, rfl, HR.out, HP.out, HB.out⟩
/-- The rows that a circle holds read as vaults that came in. -/
theorem VRow.vin {w : World} {base : Nat} {v : Value} {ps : List VP} (h : VRow w base v ps) : ∃ A c, v = .slice A ps.length c ∧ ps.length ≤ c ∧ VIn w w.heap.size A ps.length ps := by
  obtain ⟨A, c, rfl, hc, hs, _⟩ := h.row.shape fP_len
  refine ⟨A, c, rfl, hc, hs, fun p hp => ?_⟩
  obtain ⟨A', c', e, _, hs', _⟩ := (h.ws p hp).shape
  have e1 : p.2.a = A' ∧ p.2.n = p.1.ws.length ∧ p.2.c = c' := by simpa [fS] using e
  rw [e1.1, e1.2.1]
  exact ⟨rfl, hs'⟩
end Go.Proofs.YtkeicjokekmkpaaGreat
namespace Go.Proofs.YtkeicjokekmkpaaGreat
open Go.RowKit Mb
set_option linter.unusedVariables false
set_option linter.unusedSimpArgs false

theorem Tryz.infoInt : (Tryz.prog.info? 3).map (fun i => (i.zero, i.size, i.bytes)) = some (some (.int .i64 0), 1, 8) := by kernel_rfl
def selN (p : Nat → Bool) (k : Nat) : List Int := ((List.range k).filter p).map fun j : Nat => (j : Int)
theorem selN_succ (p : Nat → Bool) (k : Nat) : selN p (k + 1) = selN p k ++ (if p k = true then [(k : Int)] else []) := by
  unfold selN
  rw [List.range_succ, List.filter_append, List.map_append]
  cases h : p k <;> simp [h]
theorem selN_len (p : Nat → Bool) (k : Nat) : (selN p k).length ≤ k := by
  unfold selN
  rw [List.length_map]
  have := List.length_filter_le p (List.range k)
  rwa [List.length_range] at this

set_option maxRecDepth 20000 in
set_option maxHeartbeats 2000000 in
theorem devices_count (g : Nat) (A : Option Addr) (n c : Nat) (x y : Nat) (p : Nat → Bool) (w : World) (hg : w.cell? ⟨g, 0, none⟩ = some (.slice A n c)) (hn : n ≤ 1000)
    (hc : ∀ (W : World) (k : Nat), Below w.heap.size w W → k < n → Calls Tryz.prog 88 #[.int .i64 (k : Int), fG x, fG y] W (BoolB (p k) W)) :
    Calls Tryz.prog 57 #[fG g, .func (.func 88) #[] #[fG x, fG y]] w (OwnI (selN p n) w) := by
  obtain ⟨i0, hi, hz0, hz1, hz2⟩ := info_parts Tryz.infoInt
  have HI := Lib.hid hi
  have HZ0 := Lib.hid hz0
  have HZ1 := Lib.hid hz1
  have HZ2 := Lib.hid hz2
  have HC := Lib.hid hc
  have HB : Hid (Below w.heap.size w w) := Below.refl _ _
  clear hi hz0 hz1 hz2 hc
  go_enter Tryz.func57, Tryz.ntmps57
  go_wp2
  clear hg
  go_loopw [5, 12] (fun v i wr => ∃ k : Nat, k ≤ n ∧ i = .int .i64 k ∧ Hid (Own I 3 wr w.heap.size v (selN p k)) ∧ Hid (Below w.heap.size w wr)) (fun _ i _ => n - (intOf i).toNat)
  case atStart => exact ⟨0, Nat.zero_le _, rfl, Own.nil, HB⟩
  case round =>
    obtain ⟨k, hk, rfl, HO0, HB0⟩ := hrel
    clear HB
    by_cases hlt : k < n
    · obtain ⟨b, hb0⟩ : ∃ z, p k = z := ⟨_, rfl⟩
      have HCK : Hid (Calls Tryz.prog 88 #[.int .i64 (k : Int), fG x, fG y] wr (BoolB b wr)) := hb0 ▸ HC.out wr k HB0.out hlt
      have HS : Hid (selN p (k + 1) = selN p k ++ (if b = true then [(k : Int)] else [])) := by show _ = _; rw [selN_succ, hb0]
      have hsl := selN_len p k
      have HK1 : Hid (((selN p k).length + 1) * 8 ≤ 140737488355328) := by show _ ≤ _; omega
      have HK2 : Hid ((selN p k).length + 1 ≤ maxLen) := by show _ ≤ _; unfold maxLen; omega
      clear hb0 hsl
      go_wp2_with fail
      refine HCK.out.mono ?_
      rintro e w1 ⟨rfl, hb⟩
      have HB1 : Hid (Below w.heap.size w w1) := HB0.out.trans (hb.mono HB0.out.size)
      have HO1 := Lib.hid (HO0.out.on hb)
      clear hb
      cases b
      · have HN : Hid (selN p (k + 1) = selN p k) := by show _ = _; rw [HS.out]; simp
        go_wp2
        go_roundw
        case rel => exact ⟨k + 1, by omega, by go_num, by show Own _ _ _ _ _ _; rw [HN.out]; exact HO1.out, HB1⟩
        case measure => simp [intOf]; omega
      · have HN : Hid (selN p (k + 1) = selN p k ++ [(k : Int)]) := by show _ = _; rw [HS.out]; simp
        go_wp2_with ((with_reducible refine wpList_app1 (o := ⟨some 21, _, _, _, _, _⟩) rfl (.tmp 18) (.tmp 20) 49 rfl 3 i0 (.int .i64 0) 8 Tryz.underlying49 HI.out HZ0.out HZ1.out HZ2.out rfl _ _ w.heap.size rfl HO1.out (k : Int) 1 rfl I1 HK1.out HK2.out HB1.out.size ?_); intro v6 w6 HO6 HG6 HV6)
        go_roundw
        case rel => exact ⟨k + 1, by omega, by go_num, by show Own _ _ _ _ _ _; rw [HN.out]; exact HO6.out, HO1.out.below HB1.out (Nat.le_refl _) HB1.out.size HG6.out⟩
        case measure => simp [intOf]; omega
    · obtain rfl : n = k := by omega
      go_wp2
      go_ret
      exact ⟨_, rfl, HO0.out, HB0.out⟩

set_option maxRecDepth 20000 in
set_option maxHeartbeats 2000000 in
theorem devices_writers (g : Nat) (A : Option Addr) (n c : Nat) (x y : Nat) (p : Nat → Bool) (w : World) (hg : w.cell? ⟨g, 0, none⟩ = some (.slice A n c)) (hn : n ≤ 1000)
    (hc : ∀ (W : World) (k : Nat), Below w.heap.size w W → k < n → Calls Tryz.prog 87 #[.int .i64 (k : Int), fG x, fG y] W (BoolB (p k) W)) :
    Calls Tryz.prog 57 #[fG g, .func (.func 87) #[] #[fG x, fG y]] w (OwnI (selN p n) w) := by
  obtain ⟨i0, hi, hz0, hz1, hz2⟩ := info_parts Tryz.infoInt
  have HI := Lib.hid hi
  have HZ0 := Lib.hid hz0
  have HZ1 := Lib.hid hz1
  have HZ2 := Lib.hid hz2
  have HC := Lib.hid hc
  have HB : Hid (Below w.heap.size w w) := Below.refl _ _
  clear hi hz0 hz1 hz2 hc
  go_enter Tryz.func57, Tryz.ntmps57
  go_wp2
  clear hg
  go_loopw [5, 12] (fun v i wr => ∃ k : Nat, k ≤ n ∧ i = .int .i64 k ∧ Hid (Own I 3 wr w.heap.size v (selN p k)) ∧ Hid (Below w.heap.size w wr)) (fun _ i _ => n - (intOf i).toNat)
  case atStart => exact ⟨0, Nat.zero_le _, rfl, Own.nil, HB⟩
  case round =>
    obtain ⟨k, hk, rfl, HO0, HB0⟩ := hrel
    clear HB
    by_cases hlt : k < n
    · obtain ⟨b, hb0⟩ : ∃ z, p k = z := ⟨_, rfl⟩
      have HCK : Hid (Calls Tryz.prog 87 #[.int .i64 (k : Int), fG x, fG y] wr (BoolB b wr)) := hb0 ▸ HC.out wr k HB0.out hlt
      have HS : Hid (selN p (k + 1) = selN p k ++ (if b = true then [(k : Int)] else [])) := by show _ = _; rw [selN_succ, hb0]
      have hsl := selN_len p k
      have HK1 : Hid (((selN p k).length + 1) * 8 ≤ 140737488355328) := by show _ ≤ _; omega
      have HK2 : Hid ((selN p k).length + 1 ≤ maxLen) := by show _ ≤ _; unfold maxLen; omega
      clear hb0 hsl
      go_wp2_with fail
      refine HCK.out.mono ?_
      rintro e w1 ⟨rfl, hb⟩
      have HB1 : Hid (Below w.heap.size w w1) := HB0.out.trans (hb.mono HB0.out.size)
      have HO1 := Lib.hid (HO0.out.on hb)
      clear hb
      cases b
      · have HN : Hid (selN p (k + 1) = selN p k) := by show _ = _; rw [HS.out]; simp
        go_wp2
        go_roundw
        case rel => exact ⟨k + 1, by omega, by go_num, by show Own _ _ _ _ _ _; rw [HN.out]; exact HO1.out, HB1⟩
        case measure => simp [intOf]; omega
      · have HN : Hid (selN p (k + 1) = selN p k ++ [(k : Int)]) := by show _ = _; rw [HS.out]; simp
        go_wp2_with ((with_reducible refine wpList_app1 (o := ⟨some 21, _, _, _, _, _⟩) rfl (.tmp 18) (.tmp 20) 49 rfl 3 i0 (.int .i64 0) 8 Tryz.underlying49 HI.out HZ0.out HZ1.out HZ2.out rfl _ _ w.heap.size rfl HO1.out (k : Int) 1 rfl I1 HK1.out HK2.out HB1.out.size ?_); intro v6 w6 HO6 HG6 HV6)
        go_roundw
        case rel => exact ⟨k + 1, by omega, by go_num, by show Own _ _ _ _ _ _; rw [HN.out]; exact HO6.out, HO1.out.below HB1.out (Nat.le_refl _) HB1.out.size HG6.out⟩
        case measure => simp [intOf]; omega
    · obtain rfl : n = k := by omega
      go_wp2
      go_ret
      exact ⟨_, rfl, HO0.out, HB0.out⟩

set_option maxRecDepth 20000 in
set_option maxHeartbeats 2000000 in
theorem devices_holders (g : Nat) (A : Option Addr) (n c : Nat) (x y : Nat) (p : Nat → Bool) (w : World) (hg : w.cell? ⟨g, 0, none⟩ = some (.slice A n c)) (hn : n ≤ 1000)
    (hc : ∀ (W : World) (k : Nat), Below w.heap.size w W → k < n → Calls Tryz.prog 58 #[.int .i64 (k : Int), fG x, fG y] W (BoolB (p k) W)) :
    Calls Tryz.prog 57 #[fG g, .func (.func 58) #[] #[fG x, fG y]] w (OwnI (selN p n) w) := by
  obtain ⟨i0, hi, hz0, hz1, hz2⟩ := info_parts Tryz.infoInt
  have HI := Lib.hid hi
  have HZ0 := Lib.hid hz0
  have HZ1 := Lib.hid hz1
  have HZ2 := Lib.hid hz2
  have HC := Lib.hid hc
  have HB : Hid (Below w.heap.size w w) := Below.refl _ _
  clear hi hz0 hz1 hz2 hc
  go_enter Tryz.func57, Tryz.ntmps57
  go_wp2
  clear hg
  go_loopw [5, 12] (fun v i wr => ∃ k : Nat, k ≤ n ∧ i = .int .i64 k ∧ Hid (Own I 3 wr w.heap.size v (selN p k)) ∧ Hid (Below w.heap.size w wr)) (fun _ i _ => n - (intOf i).toNat)
  case atStart => exact ⟨0, Nat.zero_le _, rfl, Own.nil, HB⟩
  case round =>
    obtain ⟨k, hk, rfl, HO0, HB0⟩ := hrel
    clear HB
    by_cases hlt : k < n
    · obtain ⟨b, hb0⟩ : ∃ z, p k = z := ⟨_, rfl⟩
      have HCK : Hid (Calls Tryz.prog 58 #[.int .i64 (k : Int), fG x, fG y] wr (BoolB b wr)) := hb0 ▸ HC.out wr k HB0.out hlt
      have HS : Hid (selN p (k + 1) = selN p k ++ (if b = true then [(k : Int)] else [])) := by show _ = _; rw [selN_succ, hb0]
      have hsl := selN_len p k
      have HK1 : Hid (((selN p k).length + 1) * 8 ≤ 140737488355328) := by show _ ≤ _; omega
      have HK2 : Hid ((selN p k).length + 1 ≤ maxLen) := by show _ ≤ _; unfold maxLen; omega
      clear hb0 hsl
      go_wp2_with fail
      refine HCK.out.mono ?_
      rintro e w1 ⟨rfl, hb⟩
      have HB1 : Hid (Below w.heap.size w w1) := HB0.out.trans (hb.mono HB0.out.size)
      have HO1 := Lib.hid (HO0.out.on hb)
      clear hb
      cases b
      · have HN : Hid (selN p (k + 1) = selN p k) := by show _ = _; rw [HS.out]; simp
        go_wp2
        go_roundw
        case rel => exact ⟨k + 1, by omega, by go_num, by show Own _ _ _ _ _ _; rw [HN.out]; exact HO1.out, HB1⟩
        case measure => simp [intOf]; omega
      · have HN : Hid (selN p (k + 1) = selN p k ++ [(k : Int)]) := by show _ = _; rw [HS.out]; simp
        go_wp2_with ((with_reducible refine wpList_app1 (o := ⟨some 21, _, _, _, _, _⟩) rfl (.tmp 18) (.tmp 20) 49 rfl 3 i0 (.int .i64 0) 8 Tryz.underlying49 HI.out HZ0.out HZ1.out HZ2.out rfl _ _ w.heap.size rfl HO1.out (k : Int) 1 rfl I1 HK1.out HK2.out HB1.out.size ?_); intro v6 w6 HO6 HG6 HV6)
        go_roundw
        case rel => exact ⟨k + 1, by omega, by go_num, by show Own _ _ _ _ _ _; rw [HN.out]; exact HO6.out, HO1.out.below HB1.out (Nat.le_refl _) HB1.out.size HG6.out⟩
        case measure => simp [intOf]; omega
    · obtain rfl : n = k := by omega
      go_wp2
      go_ret
      exact ⟨_, rfl, HO0.out, HB0.out⟩

set_option maxRecDepth 20000 in
set_option maxHeartbeats 2000000 in
theorem devices_active (g : Nat) (A : Option Addr) (n c : Nat) (x : Nat) (p : Nat → Bool) (w : World) (hg : w.cell? ⟨g, 0, none⟩ = some (.slice A n c)) (hn : n ≤ 1000)
    (hc : ∀ (W : World) (k : Nat), Below w.heap.size w W → k < n → Calls Tryz.prog 59 #[fG x, .int .i64 (k : Int)] W (BoolB (p k) W)) :
    Calls Tryz.prog 57 #[fG g, .func (.func 59) #[fG x] #[]] w (OwnI (selN p n) w) := by
  obtain ⟨i0, hi, hz0, hz1, hz2⟩ := info_parts Tryz.infoInt
  have HI := Lib.hid hi
  have HZ0 := Lib.hid hz0
  have HZ1 := Lib.hid hz1
  have HZ2 := Lib.hid hz2
  have HC := Lib.hid hc
  have HB : Hid (Below w.heap.size w w) := Below.refl _ _
  clear hi hz0 hz1 hz2 hc
  go_enter Tryz.func57, Tryz.ntmps57
  go_wp2
  clear hg
  go_loopw [5, 12] (fun v i wr => ∃ k : Nat, k ≤ n ∧ i = .int .i64 k ∧ Hid (Own I 3 wr w.heap.size v (selN p k)) ∧ Hid (Below w.heap.size w wr)) (fun _ i _ => n - (intOf i).toNat)
  case atStart => exact ⟨0, Nat.zero_le _, rfl, Own.nil, HB⟩
  case round =>
    obtain ⟨k, hk, rfl, HO0, HB0⟩ := hrel
    clear HB
    by_cases hlt : k < n
    · obtain ⟨b, hb0⟩ : ∃ z, p k = z := ⟨_, rfl⟩
      have HCK : Hid (Calls Tryz.prog 59 #[fG x, .int .i64 (k : Int)] wr (BoolB b wr)) := hb0 ▸ HC.out wr k HB0.out hlt
      have HS : Hid (selN p (k + 1) = selN p k ++ (if b = true then [(k : Int)] else [])) := by show _ = _; rw [selN_succ, hb0]
      have hsl := selN_len p k
      have HK1 : Hid (((selN p k).length + 1) * 8 ≤ 140737488355328) := by show _ ≤ _; omega
      have HK2 : Hid ((selN p k).length + 1 ≤ maxLen) := by show _ ≤ _; unfold maxLen; omega
      clear hb0 hsl
      go_wp2_with fail
      refine HCK.out.mono ?_
      rintro e w1 ⟨rfl, hb⟩
      have HB1 : Hid (Below w.heap.size w w1) := HB0.out.trans (hb.mono HB0.out.size)
      have HO1 := Lib.hid (HO0.out.on hb)
      clear hb
      cases b
      · have HN : Hid (selN p (k + 1) = selN p k) := by show _ = _; rw [HS.out]; simp
        go_wp2
        go_roundw
        case rel => exact ⟨k + 1, by omega, by go_num, by show Own _ _ _ _ _ _; rw [HN.out]; exact HO1.out, HB1⟩
        case measure => simp [intOf]; omega
      · have HN : Hid (selN p (k + 1) = selN p k ++ [(k : Int)]) := by show _ = _; rw [HS.out]; simp
        go_wp2_with ((with_reducible refine wpList_app1 (o := ⟨some 21, _, _, _, _, _⟩) rfl (.tmp 18) (.tmp 20) 49 rfl 3 i0 (.int .i64 0) 8 Tryz.underlying49 HI.out HZ0.out HZ1.out HZ2.out rfl _ _ w.heap.size rfl HO1.out (k : Int) 1 rfl I1 HK1.out HK2.out HB1.out.size ?_); intro v6 w6 HO6 HG6 HV6)
        go_roundw
        case rel => exact ⟨k + 1, by omega, by go_num, by show Own _ _ _ _ _ _; rw [HN.out]; exact HO6.out, HO1.out.below HB1.out (Nat.le_refl _) HB1.out.size HG6.out⟩
        case measure => simp [intOf]; omega
    · obtain rfl : n = k := by omega
      go_wp2
      go_ret
      exact ⟨_, rfl, HO0.out, HB0.out⟩

theorem active_list (g : Nat) (A : Option Addr) (n c : Nat) (ms : List Mem) (w : World) (hg : w.cell? ⟨g, 0, none⟩ = some (.slice A n c)) (hgl : g < w.heap.size) (hx : SlN fM 5 w w.heap.size A n ms) (hn : n ≤ 1000) :
    Calls Tryz.prog 18 #[fG g] w (OwnI (selN (fun k => match ms[k]? with | some m => !m.exp | none => false) n) w) := by
  have HD := Lib.hid (devices_active g A n c g (fun k => match ms[k]? with | some m => !m.exp | none => false) w hg hn (fun W k h hk => by
    obtain ⟨m, hm⟩ := get_ex (xs := ms) (k := k) (by rw [hx.1]; exact hk)
    rw [hm]
    exact (active_any g A n c k ms m W w.heap.size ((h.cell (p := ⟨g, 0, none⟩) hgl).trans hg) (hx.up h (Nat.le_refl _)) (by omega) hm).mono fun e w' h5 => ⟨h5.1, h5.2 ▸ Below.refl _ _⟩))
  clear hx
  go_enter Tryz.func18, Tryz.ntmps18
  go_wp2_with fail
  refine HD.out.mono ?_
  rintro e w1 ⟨v, rfl, ho, hb⟩
  have HO := Lib.hid ho
  have HB := Lib.hid hb
  clear ho hb
  go_wp2
  go_ret
  exact ⟨v, rfl, HO.out, HB.out⟩
end Go.Proofs.YtkeicjokekmkpaaGreat
