/- copiedVaults: a row of vaults, each with a writers' row of its own. -/
import Derived.Test.YtkeicjokekmkpaaGreatMd
namespace Go.Proofs.YtkeicjokekmkpaaGreat
open Go.RowKit Mb
set_option linter.unusedVariables false
set_option linter.unusedSimpArgs false

/-- A vault and the head of its writers. -/
abbrev VP := Vlt × Hd
def fP (p : VP) : List Value := fVc p.1 p.2.a p.2.n p.2.c
theorem fP_len : ∀ p, (fP p).length = 15 := fun _ => rfl
theorem fP_one : ∀ p, ∀ u ∈ fP p, u.oneCell' = true := fun p u hu => by
  simp only [fP, fVc, List.mem_cons, List.not_mem_nil, or_false] at hu
  rcases hu with rfl | rfl | rfl | rfl | rfl | rfl | rfl | rfl | rfl | rfl | rfl | rfl | rfl | rfl | rfl <;> rfl
theorem Tryz.infoV : (Tryz.prog.info? 68).map (fun i => (i.zero, i.size, i.bytes)) = some (some (.agg #[.int .i64 0, .slice none 0 0, .int .i64 0, .int .i64 0, .int .i64 0, .string ⟨#[]⟩, .int .i64 0, .int .i64 0, .int .i64 0, .int .i64 0, .int .u64 0, .int .i64 0, .int .i64 0, .int .i64 0, .int .i64 0]), 15, 144) := by kernel_rfl
theorem Tryz.zsV : (Value.agg #[.int .i64 0, .slice none 0 0, .int .i64 0, .int .i64 0, .int .i64 0, .string ⟨#[]⟩, .int .i64 0, .int .i64 0, .int .i64 0, .int .i64 0, .int .u64 0, .int .i64 0, .int .i64 0, .int .i64 0, .int .i64 0]).cells.size = 15 := by kernel_rfl
/-- A row of vaults that the call owns, with their writers' rows, all apart. -/
structure VRow (w : World) (base : Nat) (v : Value) (ps : List VP) : Prop where
  row : OwnN fP 15 68 w base v ps
  ws : ∀ p ∈ ps, Own I 3 w base (fS p.2) p.1.ws
  far : ∀ p ∈ ps, (fS p.2).ownBlock = none ∨ (fS p.2).ownBlock ≠ v.ownBlock
  apart : ps.Pairwise fun p q => (fS p.2).ownBlock = none ∨ (fS p.2).ownBlock ≠ (fS q.2).ownBlock
theorem VRow.nil {w : World} {base : Nat} : VRow w base (.slice none 0 0) [] := ⟨OwnN.nil, by simp, by simp, List.Pairwise.nil⟩
theorem VRow.on {w w' : World} {base : Nat} {v : Value} {ps : List VP} (h : VRow w base v ps) (hb : Below w.heap.size w w') : VRow w' base v ps :=
  ⟨h.row.on hb, fun p hp => (h.ws p hp).on hb, h.far, h.apart⟩
/-- One vault more. -/
theorem VRow.snoc {w w' : World} {base b6 : Nat} {v v' : Value} {ps : List VP} {y : VP} (h : VRow w base v ps) (hy : Own I 3 w b6 (fS y.2) y.1.ws) (hb : base ≤ b6)
    (hlt : ∀ g, v.ownBlock = some g → g < b6) (hltp : ∀ p ∈ ps, ∀ g, (fS p.2).ownBlock = some g → g < b6)
    (hg : w.grownBy w' v.ownBlock) (ho : OwnN fP 15 68 w' base v' (ps ++ [y])) (hv : v'.ownBlock = v.ownBlock ∨ ∃ g, v'.ownBlock = some g ∧ w.heap.size ≤ g) : VRow w' base v' (ps ++ [y]) := by
  have hyb : ∀ g, (fS y.2).ownBlock = some g → b6 ≤ g ∧ g < w.heap.size := fun g hk => World.ownsRow.lt hy g hk
  have hyv : (fS y.2).ownBlock = none ∨ (fS y.2).ownBlock ≠ v.ownBlock := by
    rcases hk : (fS y.2).ownBlock with _ | k
    · exact .inl rfl
    · refine .inr (fun e => ?_)
      have h1 := hyb k hk
      have h2 := hlt k e.symm
      omega
  refine ⟨ho, fun p hp => ?_, fun p hp => ?_, ?_⟩
  · rcases List.mem_append.1 hp with hp | hp
    · exact (h.ws p hp).kept hg (h.far p hp)
    · obtain rfl := List.mem_singleton.1 hp
      exact (World.ownsRow.mono hy hb : Own I _ _ _ _ _).kept hg hyv
  · rcases hv with hv | ⟨g, hv, hgl⟩
    · rw [hv]
      rcases List.mem_append.1 hp with hp | hp
      · exact h.far p hp
      · obtain rfl := List.mem_singleton.1 hp
        exact hyv
    · rcases hk : (fS p.2).ownBlock with _ | k
      · exact .inl rfl
      · refine .inr (fun e => ?_)
        rw [hv] at e
        injection e with e
        rcases List.mem_append.1 hp with hp | hp
        · have := (World.ownsRow.lt (h.ws p hp) k hk).2
          omega
        · obtain rfl := List.mem_singleton.1 hp
          have := (hyb k hk).2
          omega
  · rw [List.pairwise_append]
    refine ⟨h.apart, by simp, fun p hp q hq => ?_⟩
    obtain rfl := List.mem_singleton.1 hq
    rcases hk : (fS p.2).ownBlock with _ | k
    · exact .inl rfl
    · refine .inr (fun e => ?_)
      have h1 := hltp p hp k hk
      have h2 := (hyb k e.symm).1
      omega
/-- The vaults that a slice leads to. -/
def VIn (w : World) (B : Nat) (A : Option Addr) (n : Nat) (ps : List VP) : Prop := SlN fP 15 w B A n ps ∧ ∀ p ∈ ps, Sl I w B p.2.a p.2.n p.1.ws
theorem VIn.up {w w' : World} {B B' n : Nat} {A : Option Addr} {ps : List VP} (h : VIn w B A n ps) (hb : Below B' w w') (hB : B ≤ B') : VIn w' B A n ps := ⟨h.1.up hb hB, fun p hp => (h.2 p hp).up hb hB⟩
theorem VIn.more {w : World} {B B' n : Nat} {A : Option Addr} {ps : List VP} (h : VIn w B A n ps) (hB : B ≤ B') : VIn w B' A n ps := ⟨h.1.more hB, fun p hp => (h.2 p hp).more' hB⟩
def CopVs (vs : List Vlt) (w : World) (e : Ending) (w' : World) : Prop := ∃ v ps, e = .returned v ∧ VRow w' w.heap.size v ps ∧ ps.map Prod.fst = vs ∧ Below w.heap.size w w'
/-- The fifteen cells of a vault in a row. -/
theorem fifteen {w : World} {b off k : Nat} {x : VP} (h : ∀ j v, (fP x)[j]? = some v → w.cell? ⟨b, off + (k * 15 + j), none⟩ = some v) :
    w.cell? ⟨b, off + k * 15, none⟩ = some (.int .i64 x.1.num) ∧ w.cell? ⟨b, off + k * 15 + 1, none⟩ = some (.slice x.2.a x.2.n x.2.c) ∧ w.cell? ⟨b, off + k * 15 + 2, none⟩ = some (.int .i64 x.1.data) ∧ w.cell? ⟨b, off + k * 15 + 3, none⟩ = some (.int .i64 x.1.total) ∧ w.cell? ⟨b, off + k * 15 + 4, none⟩ = some (.int .i64 x.1.thr) ∧ w.cell? ⟨b, off + k * 15 + 5, none⟩ = some (.string x.1.print) ∧ w.cell? ⟨b, off + k * 15 + 6, none⟩ = some (.int .i64 x.1.cmin) ∧ w.cell? ⟨b, off + k * 15 + 7, none⟩ = some (.int .i64 x.1.cmax) ∧ w.cell? ⟨b, off + k * 15 + 8, none⟩ = some (.int .i64 x.1.cwin) ∧ w.cell? ⟨b, off + k * 15 + 9, none⟩ = some (.int .i64 x.1.cbits) ∧ w.cell? ⟨b, off + k * 15 + 10, none⟩ = some (.int .u64 x.1.cseed) ∧ w.cell? ⟨b, off + k * 15 + 11, none⟩ = some (.int .i64 x.1.ra) ∧ w.cell? ⟨b, off + k * 15 + 12, none⟩ = some (.int .i64 x.1.rb) ∧ w.cell? ⟨b, off + k * 15 + 13, none⟩ = some (.int .i64 x.1.rc) ∧ w.cell? ⟨b, off + k * 15 + 14, none⟩ = some (.int .i64 x.1.rd) := by
  refine ⟨?_, ?_, ?_, ?_, ?_, ?_, ?_, ?_, ?_, ?_, ?_, ?_, ?_, ?_, ?_⟩
  · exact h 0 _ rfl
  · rw [Nat.add_assoc]; exact h 1 _ rfl
  · rw [Nat.add_assoc]; exact h 2 _ rfl
  · rw [Nat.add_assoc]; exact h 3 _ rfl
  · rw [Nat.add_assoc]; exact h 4 _ rfl
  · rw [Nat.add_assoc]; exact h 5 _ rfl
  · rw [Nat.add_assoc]; exact h 6 _ rfl
  · rw [Nat.add_assoc]; exact h 7 _ rfl
  · rw [Nat.add_assoc]; exact h 8 _ rfl
  · rw [Nat.add_assoc]; exact h 9 _ rfl
  · rw [Nat.add_assoc]; exact h 10 _ rfl
  · rw [Nat.add_assoc]; exact h 11 _ rfl
  · rw [Nat.add_assoc]; exact h 12 _ rfl
  · rw [Nat.add_assoc]; exact h 13 _ rfl
  · rw [Nat.add_assoc]; exact h 14 _ rfl

set_option maxRecDepth 20000 in
set_option maxHeartbeats 4000000 in
theorem copyVs_any (A : Option Addr) (n c : Nat) (ps0 : List VP) (w : World) (hx : VIn w w.heap.size A n ps0) (hn : n ≤ 1000) (hws : ∀ p ∈ ps0, p.2.n ≤ 1000000) :
    Calls Tryz.prog 69 #[.slice A n c] w (CopVs (ps0.map Prod.fst) w) := by
  obtain ⟨i0, hi, hz0, hz1, hz2⟩ := info_parts Tryz.infoV
  have HI := Lib.hid hi
  have HZ0 := Lib.hid hz0
  have HZ1 := Lib.hid hz1
  have HZ2 := Lib.hid hz2
  have HX := Lib.hid hx
  have HWS := Lib.hid hws
  have HLEN : Hid (ps0.length = n) := hx.1.1
  have HB : Hid (Below w.heap.size w w) := Below.refl _ _
  have HV : Hid (VRow w w.heap.size (.slice none 0 0) []) := VRow.nil
  clear hi hz0 hz1 hz2 hx hws
  go_enter Tryz.func69, Tryz.ntmps69
  go_wp2
  go_loopw [3, 8] (fun v i wr => ∃ (k : Nat) (ps : List VP), k ≤ n ∧ i = .int .i64 k ∧ Hid (VRow wr w.heap.size v ps) ∧ Hid (ps.map Prod.fst = (ps0.take k).map Prod.fst) ∧ Hid (Below w.heap.size w wr)) (fun _ i _ => n - (intOf i).toNat)
  case atStart => exact ⟨0, [], Nat.zero_le _, rfl, HV, by show _ = _; simp, HB⟩
  case round =>
    obtain ⟨k, ps, hk, rfl, HV0, HP0, HB0⟩ := hrel
    clear HV HB
    by_cases hlt : k < n
    · have hin := HX.out.up HB0.out (Nat.le_refl _)
      obtain ⟨b, off, x, rfl, hbB, hxk, hcell⟩ := hin.1.at_ hlt
      have hxm := List.mem_of_getElem? hxk
      have HSW := Lib.hid (hin.2 x hxm)
      have HXN := Lib.hid (HWS.out x hxm)
      have HTK : Hid ((ps0.take (k + 1)).map Prod.fst = (ps0.take k).map Prod.fst ++ [x.1]) := by show _ = _; rw [take_snoc hxk, List.map_append]; rfl
      obtain ⟨c0, c1, c2, c3, c4, c5, c6, c7, c8, c9, c10, c11, c12, c13, c14⟩ := fifteen hcell
      obtain ⟨vk, A0, n0, cc0⟩ := x
      simp only at HSW HXN HTK c0 c1 c2 c3 c4 c5 c6 c7 c8 c9 c10 c11 c12 c13 c14
      have HPL : Hid (ps.length = k) := by
        have h5 := congrArg List.length HP0.out
        simp at h5
        have := HLEN.out
        show _ = _
        omega
      have HK1 : Hid ((ps.length + 1) * 144 ≤ 140737488355328) := by have := HPL.out; show _ ≤ _; omega
      have HK2 : Hid (ps.length + 1 ≤ maxLen) := by have := HPL.out; show _ ≤ _; unfold maxLen; omega
      have HBA : Hid (Below wr.heap.size wr (wr.alloc (oV vk A0 n0 cc0))) := (Below.refl _ _).alloc (Nat.le_refl _) _
      have HC5 : Hid (Calls Tryz.prog 86 #[aV vk A0 n0 cc0] (wr.alloc (oV vk A0 n0 cc0)) (CopV vk (wr.alloc (oV vk A0 n0 cc0)))) := copyV_any vk A0 n0 cc0 _ ((HSW.out.up HBA.out HB0.out.size).more' (Nat.le_trans HB0.out.size HBA.out.size)) HXN.out
      clear hin hxk hxm hcell
      go_wp2_with (first
        | ((refine wpList_store_new (o := ⟨none, .store 68 (.tmp 5) (.tmp 11), _, _, _, _⟩) rfl 68 (.tmp 5) (.tmp 11) rfl 68 _ (cV vk A0 n0 cc0) rfl rfl Tryz.sizeV rfl (cV_one _ _ _ _) ?_); clear c0 c1 c2 c3 c4 c5 c6 c7 c8 c9 c10 c11 c12 c13 c14)
        | (refine wpList_load_row (o := ⟨some 13, _, _, _, _, _⟩) rfl 68 (.tmp 5) rfl wr.heap.size rfl 68 (cV vk A0 n0 cc0) (0, 0) _ (heap_alloc_new wr _) Tryz.underlying68 rfl Tryz.sizeV ?_)
        | (go_at_call 86; (refine HC5.out.mono ?_); rintro e w6 ⟨A1, n1, cc1, rfl, ho, hb⟩; (have HO6 := Lib.hid ho); (have HB6 : Hid (Below wr.heap.size wr w6) := HBA.out.trans (hb.mono HBA.out.size)); (have HV6 := Lib.hid (HV0.out.on HB6.out)); (have HS6 : Hid (w.heap.size ≤ w6.heap.size) := Nat.le_trans HB0.out.size HB6.out.size); clear ho hb)
        | ((refine wpList_appN1 fP_len (by omega) (o := ⟨some 16, _, _, _, _, _⟩) rfl (.tmp 12) (.tmp 15) 23 rfl 68 i0 _ 144 Tryz.underlying23 HI.out HZ0.out HZ1.out HZ2.out Tryz.zsV _ ps w.heap.size (by rfl) HV6.out.row (vk, ⟨A1, n1, cc1⟩) 1 (by rfl) fP_one HK1.out HK2.out HS6.out ?_); intro v7 w7 HO7 HG7 HV7))
      have HV8 : Hid (VRow w7 w.heap.size v7 (ps ++ [(vk, ⟨A1, n1, cc1⟩)])) := VRow.snoc (y := (vk, ⟨A1, n1, cc1⟩)) HV6.out HO6.out (Nat.le_trans HB0.out.size HBA.out.size) (fun g hg => Nat.lt_of_lt_of_le (World.ownsRow.lt HV0.out.row g hg).2 HBA.out.size) (fun p hp g hg => Nat.lt_of_lt_of_le (World.ownsRow.lt (HV0.out.ws p hp) g hg).2 HBA.out.size) HG7.out HO7.out HV7.out
      have HP8 : Hid ((ps ++ [((vk, ⟨A1, n1, cc1⟩) : VP)]).map Prod.fst = (ps0.take (k + 1)).map Prod.fst) := by show _ = _; rw [HTK.out, List.map_append, HP0.out]; rfl
      have HB8 : Hid (Below w.heap.size w w7) := HV6.out.row.below (HB0.out.trans (HB6.out.mono HB0.out.size)) (Nat.le_refl _) HS6.out HG7.out
      clear HV6 HO6 HO7 HG7 HV7 HV0 HP0
      go_roundw
      case rel => exact ⟨k + 1, _, by omega, by go_num, HV8, HP8, HB8⟩
      case measure => simp [intOf]; omega
    · obtain rfl : n = k := by omega
      have HPE : Hid (ps.map Prod.fst = ps0.map Prod.fst) := by
        show _ = _
        rw [HP0.out, List.take_of_length_le (by have := HLEN.out; omega)]
      go_wp2
      go_ret
      exact ⟨_, ps, rfl, HV0.out, HPE.out, HB0.out⟩
end Go.Proofs.YtkeicjokekmkpaaGreat
