/- The reference's Count. The same vault; the same member. -/
import Derived.Test.YtkeicjokekmkpaaGreatRc
import Derived.Laws.StructEq
namespace Go.Proofs.YtkeicjokekmkpaaGreat
open Go.RowKit Mb
set_option linter.unusedVariables false
set_option linter.unusedSimpArgs false

def extL (S : St) (ba : Bool) (k : Nat) (dev : Int) (j : Nat) : List Int := if (ba && (S.votes.take j).contains ((k : Int), dev)) = true then [(k : Int)] else []
theorem extL_len (S : St) (ba : Bool) (k : Nat) (dev : Int) (j : Nat) : (extL S ba k dev j).length ≤ 1 := by unfold extL; split <;> simp
theorem extL_zero (S : St) (ba : Bool) (k : Nat) (dev : Int) : extL S ba k dev 0 = [] := by unfold extL; simp
theorem extL_false (S : St) (k : Nat) (dev : Int) (j : Nat) : extL S false k dev j = [] := by unfold extL; simp
theorem extL_ne {S : St} {k : Nat} {dev : Int} {j : Nat} {p : Int × Int} (h : S.votes[j]? = some p) (hp : p ≠ ((k : Int), dev)) (ba : Bool) : extL S ba k dev (j + 1) = extL S ba k dev j := by
  unfold extL
  rw [take_snoc h]
  have : (List.take j S.votes ++ [p]).contains ((k : Int), dev) = (List.take j S.votes).contains ((k : Int), dev) := by
    rw [Bool.eq_iff_iff]
    simp only [List.contains_iff_mem, List.mem_append, List.mem_singleton]
    constructor
    · rintro (h | h)
      · exact h
      · exact absurd h.symm hp
    · exact .inl
  rw [this]
theorem extL_eq {S : St} {k : Nat} {dev : Int} {j : Nat} (hn : S.votes.Nodup) (h : S.votes[j]? = some ((k : Int), dev)) : extL S true k dev (j + 1) = [(k : Int)] ∧ extL S true k dev j = [] := by
  unfold extL
  rw [take_snoc h]
  constructor
  · simp
  · rw [if_neg]
    simp only [Bool.true_and, List.contains_iff_mem]
    intro hm
    obtain ⟨i, hi⟩ := List.mem_iff_getElem?.1 hm
    rw [List.getElem?_take] at hi
    split at hi
    · next hij =>
      obtain ⟨h1, h2⟩ := List.getElem?_eq_some_iff.1 hi
      obtain ⟨h3, h4⟩ := List.getElem?_eq_some_iff.1 h
      have := (List.nodup_iff_pairwise_ne.1 hn)
      rw [List.pairwise_iff_getElem] at this
      exact this i j h1 h3 hij (h2.trans h4.symm)
    · cases hi
theorem eqT (a b c d : Int) (w : World) : (Op.equalIn 10000 70 (.agg #[.int .i64 a, .int .i64 b]) (.agg #[.int .i64 c, .int .i64 d])).run Tryz.prog w = .ok (a == c && b == d) w := by
  have u3 := Tryz.underlying3
  have a3 := Tryz.isAgg3
  have z3 := Tryz.sizeOf3
  rw [show (10000 : Nat) = 9999 + 1 from rfl, Op.equalIn]
  simp only [Sem.run_bind, run_underlying Tryz.underlying70, Result.andThen_ok]
  simp only [Std.Legacy.Range.forIn_eq_forIn_range', Std.Legacy.Range.size, Nat.sub_zero, Nat.add_sub_cancel, Nat.div_one, List.range'_succ, List.range'_zero, List.forIn_cons, List.forIn_nil]
  go_simp
  by_cases h1 : a = c <;> by_cases h2 : b = d <;> simp [h1, h2]
theorem two {w : World} {b off k : Nat} {x : Int × Int} (h : ∀ j v, (fT x)[j]? = some v → w.cell? ⟨b, off + (k * 2 + j), none⟩ = some v) : w.cell? ⟨b, off + k * 2, none⟩ = some (.int .i64 x.1) ∧ w.cell? ⟨b, off + k * 2 + 1, none⟩ = some (.int .i64 x.2) := by
  refine ⟨?_, ?_⟩
  · exact h 0 _ rfl
  · rw [Nat.add_assoc]; exact h 1 _ rfl
set_option maxRecDepth 20000 in
set_option maxHeartbeats 4000000 in
theorem rCount_any (r : RV) (S : St) (dev : Int) (w : World) (hC : RefC w w.heap.size r S) (hn : S.ms.length ≤ 1000) (hv : S.votes.length ≤ 1000) (hnd : S.votes.Nodup) : Calls Tryz.prog 25 #[r.val, .int .i64 dev] w (OwnI (counting S dev) w) := by
  obtain ⟨W, hW⟩ : ∃ W : World, W = w.alloc r.obj := ⟨_, rfl⟩
  have hB : Below w.heap.size w W := by rw [hW]; exact (Below.refl _ _).alloc (Nat.le_refl _) _
  have hG : W.heap[w.heap.size]? = some r.obj := by rw [hW]; exact heap_alloc_new w _
  have HW := Lib.hid hW
  have HB := Lib.hid hB
  have HG := Lib.hid hG
  obtain ⟨i0, hi, hz0, hz1, hz2⟩ := info_parts Tryz.infoInt
  have HI := Lib.hid hi
  have HZ0 := Lib.hid hz0
  have HZ1 := Lib.hid hz1
  have HZ2 := Lib.hid hz2
  clear hi hz0 hz1 hz2
  have hO : Own I 3 (W.alloc (.cells #[] 3)) W.heap.size (.slice (some ⟨w.heap.size + 1, 0, none⟩) 0 0) [] := by
    rw [← show W.heap.size = w.heap.size + 1 from by rw [hW]; simp]
    exact World.ownsRow_lit W #[] 0 (Nat.le_refl _) (by unfold maxLen; omega) rfl
  have HO := Lib.hid hO
  have HBW : Hid (Below W.heap.size W (W.alloc (.cells #[] 3))) := (Below.refl _ _).alloc (Nat.le_refl _) _
  have HC := Lib.hid hC
  have HNL : Hid (S.ms.length = r.a4.n) := hC.ms.1
  have HVL : Hid (S.votes.length = r.a6.n) := hC.vt.1
  have hv6 : r.a6.n ≤ 1000 := by rw [← hC.vt.1]; exact hv
  have HND := Lib.hid hnd
  clear hC hB hG hO hW hnd hv
  go_enter Tryz.func25, Tryz.ntmps25
  go_wp2_with fail
  rw [show w.alloc (.cells r.cells 34) = W from HW.out.symm]
  go_loopw [5, 6] (fun u i wr => ∃ k : Nat, k ≤ S.ms.length ∧ i = .int .i64 k ∧ Hid (Own I 3 wr W.heap.size u (selN (fun k => actB S k && votedB S (k : Int) dev) k)) ∧ Hid (Below W.heap.size W wr)) (fun _ i _ => S.ms.length - (intOf i).toNat)
  case atStart => exact ⟨0, Nat.zero_le _, rfl, HO, HBW⟩
  case round =>
    obtain ⟨k, hk, rfl, HO0, HB0⟩ := hrel
    clear HO HBW
    obtain ⟨z0, z1, z2, z3, z4, z5, z6⟩ := seven_of ((HB0.out.block _ (lt_of_block HG.out)).trans HG.out)
    by_cases hlt : k < S.ms.length
    · have hkn : k < r.a4.n := by rw [← HNL.out]; exact hlt
      obtain ⟨ba, hba⟩ : ∃ z, actB S k = z := ⟨_, rfl⟩
      have HA : Hid (∀ V, Below W.heap.size W V → Calls Tryz.prog 74 #[r.val, .int .i64 (k : Int)] V (BoolB ba V)) := fun V hV => by
        have h5 := ractive_any r S k V (HC.out.on (HB.out.trans (hV.mono HB.out.size))) hn
        rw [hasB_iff.2 ⟨by omega, by omega⟩, show actI S (k : Int) = ba from hba, Bool.true_and] at h5
        exact h5
      have HBA0 := Lib.hid hba
      have HOI : Hid (Own I 3 wr W.heap.size u5 (selN (fun k => actB S k && votedB S (k : Int) dev) k ++ extL S ba k dev 0)) := by show Own _ _ _ _ _ _; rw [extL_zero, List.append_nil]; exact HO0.out
      clear hba
      go_wp2_with fail
      clear z0 z1 z2 z3 z4 z5 z6
      go_loopw [5, 7] (fun u i w' => ∃ j : Nat, j ≤ r.a6.n ∧ i = .int .i64 j ∧ Hid (Own I 3 w' W.heap.size u (selN (fun k => actB S k && votedB S (k : Int) dev) k ++ extL S ba k dev j)) ∧ Hid (Below W.heap.size W w')) (fun _ i _ => r.a6.n - (intOf i).toNat)
      case atStart => exact ⟨0, Nat.zero_le _, rfl, HOI, HB0⟩
      case round =>
        obtain ⟨j, hj, rfl, HO2, HB2⟩ := hrel
        clear HOI HO0
        obtain ⟨z0, z1, z2, z3, z4, z5, z6⟩ := seven_of ((HB2.out.block _ (lt_of_block HG.out)).trans HG.out)
        by_cases hlt2 : j < r.a6.n
        · have HAJ := Lib.hid (HA.out wr HB2.out)
          go_wp2_with fail
          refine HAJ.out.mono ?_
          rintro e w5 ⟨rfl, hb⟩
          have HB5 : Hid (Below W.heap.size W w5) := HB2.out.trans (hb.mono HB2.out.size)
          have HO5 := Lib.hid (HO2.out.on hb)
          clear z0 z1 z2 z3 z4 z5 z6
          obtain ⟨z0, z1, z2, z3, z4, z5, z6⟩ := seven_of ((HB5.out.block _ (lt_of_block HG.out)).trans HG.out)
          obtain ⟨bt, ot, pt, ha6, hbt, hpt, hcell⟩ := (HC.out.on (HB.out.trans (HB5.out.mono HB.out.size))).vt.at_ hlt2
          obtain ⟨d0, d1⟩ := two hcell
          obtain ⟨pa, pb⟩ := pt
          simp only at d0 d1
          rw [ha6] at z6
          have HPT := Lib.hid hpt
          have hsl := selN_len (fun k => actB S k && votedB S (k : Int) dev) k
          have hel := extL_len S ba k dev j
          have HK1 : Hid (((selN (fun k => actB S k && votedB S (k : Int) dev) k ++ extL S ba k dev j).length + 1) * 8 ≤ 140737488355328) := by show _ ≤ _; rw [List.length_append]; omega
          have HK2 : Hid ((selN (fun k => actB S k && votedB S (k : Int) dev) k ++ extL S ba k dev j).length + 1 ≤ maxLen) := by show _ ≤ _; rw [List.length_append]; unfold maxLen; omega
          clear hsl hel
          clear hb hcell ha6 hbt hpt
          cases ba
          · have HE : Hid (extL S false k dev (j + 1) = extL S false k dev j) := by show _ = _; rw [extL_false, extL_false]
            go_wp2_with fail
            go_roundw
            case rel => exact ⟨j + 1, by omega, by go_num, by show Own _ _ _ _ _ _; rw [HE.out]; exact HO5.out, HB5⟩
            case measure => simp [intOf]; omega
          · by_cases hq : pa = k ∧ pb = dev
            · obtain ⟨hq1, hq2⟩ := hq
              subst hq1
              obtain rfl := hq2.symm
              have heq : ∀ w, (Op.equalIn 10000 70 (.agg #[.int .i64 (k : Int), .int .i64 dev]) (.agg #[.int .i64 (k : Int), .int .i64 dev])).run Tryz.prog w = .ok true w := fun w => by rw [eqT]; simp
              obtain ⟨h1, h2⟩ := extL_eq HND.out HPT.out
              have HE : Hid (selN (fun k => actB S k && votedB S (k : Int) dev) k ++ extL S true k dev (j + 1) = (selN (fun k => actB S k && votedB S (k : Int) dev) k ++ extL S true k dev j) ++ [(k : Int)]) := by show _ = _; rw [h1, h2]; simp
              clear h1 h2
              go_wp2_with ((with_reducible refine wpList_app1 (o := ⟨some 40, _, _, _, _, _⟩) rfl (.tmp 37) (.tmp 39) 49 rfl 3 i0 (.int .i64 0) 8 Tryz.underlying49 HI.out HZ0.out HZ1.out HZ2.out rfl _ _ W.heap.size rfl HO5.out (k : Int) 1 rfl I1 HK1.out HK2.out HB5.out.size ?_); intro v6 w6 HO6 HG6 HV6)
              go_roundw
              case rel => exact ⟨j + 1, by omega, by go_num, by show Own _ _ _ _ _ _; rw [HE.out]; exact HO6.out, HO5.out.below HB5.out (Nat.le_refl _) HB5.out.size HG6.out⟩
              case measure => simp [intOf]; omega
            · have HE : Hid (extL S true k dev (j + 1) = extL S true k dev j) := extL_ne HPT.out (fun e => hq (by injection e with e1 e2; exact ⟨e1, e2⟩)) true
              have heq : ∀ w, (Op.equalIn 10000 70 (.agg #[.int .i64 pa, .int .i64 pb]) (.agg #[.int .i64 (k : Int), .int .i64 dev])).run Tryz.prog w = .ok false w := fun w => by
                rw [eqT]
                have h5 : (pa == (k : Int) && pb == dev) = false := by
                  cases h6 : (pa == (k : Int) && pb == dev)
                  · rfl
                  · simp at h6; exact absurd h6 hq
                rw [h5]
              go_wp2_with fail
              go_roundw
              case rel => exact ⟨j + 1, by omega, by go_num, by show Own _ _ _ _ _ _; rw [HE.out]; exact HO5.out, HB5⟩
              case measure => simp [intOf]; omega
        · obtain rfl : j = r.a6.n := by omega
          have HN : Hid (selN (fun k => actB S k && votedB S (k : Int) dev) (k + 1) = selN (fun k => actB S k && votedB S (k : Int) dev) k ++ extL S ba k dev r.a6.n) := by
            show _ = _
            rw [selN_succ]
            unfold extL
            rw [List.take_of_length_le (by rw [HVL.out]; exact Nat.le_refl _), HBA0.out]
            rfl
          go_wp2_with fail
          go_roundw
          case rel => exact ⟨k + 1, by omega, by go_num, by show Own _ _ _ _ _ _; rw [HN.out]; exact HO2.out, HB2⟩
          case measure => simp [intOf]; omega
    · obtain rfl : k = r.a4.n := by have := HNL.out; omega
      have HOF : Hid (Own I 3 wr w.heap.size u5 (counting S dev)) := by
        have h5 := HO0.out
        rw [← HNL.out] at h5
        exact World.ownsRow.mono h5 HB.out.size
      go_wp2
      go_ret
      exact ⟨_, rfl, HOF.out, HB.out.trans (HB0.out.mono HB.out.size)⟩
end Go.Proofs.YtkeicjokekmkpaaGreat
namespace Go.Proofs.YtkeicjokekmkpaaGreat
open Go.RowKit Mb
set_option linter.unusedVariables false
set_option linter.unusedSimpArgs false

set_option maxRecDepth 20000 in
theorem eqSelfM (m : Mem) (w : World) : (Op.equalIn 10000 40 (aM m) (aM m)).run Tryz.prog w = .ok true w := by
  have u3 := Tryz.underlying3
  have a3 := Tryz.isAgg3
  have z3 := Tryz.sizeOf3
  have u9 := Tryz.underlying9
  have a9 := Tryz.isAgg9
  have z9 := Tryz.sizeOf9
  have u4 := Tryz.underlying4
  have a4 := Tryz.isAgg4
  have z4 := Tryz.sizeOf4
  have hS : Tryz.prog.underlying 40 = some (.struct (Tryz.prog.fieldsOf 40)) := by kernel_rfl
  have hp : Tryz.prog.stoodInHeld 40 = false := by kernel_rfl
  rw [show (10000 : Nat) = 9999 + 1 from rfl, run_equalIn_agg w 9999 40 _ _ hS hp]
  simp only [Program.fieldsOf, Tryz.underlying40]
  go_simp
set_option maxRecDepth 20000 in
theorem eqSelfC (a b c d e : Int) (w : World) : (Op.equalIn 10000 64 (aC a b c d e) (aC a b c d e)).run Tryz.prog w = .ok true w := by
  have u3 := Tryz.underlying3
  have a3 := Tryz.isAgg3
  have z3 := Tryz.sizeOf3
  have u4 := Tryz.underlying62
  have a4 := Tryz.isAgg62
  have z4 := Tryz.sizeOf62
  have hS : Tryz.prog.underlying 64 = some (.struct (Tryz.prog.fieldsOf 64)) := by kernel_rfl
  have hp : Tryz.prog.stoodInHeld 64 = false := by kernel_rfl
  rw [show (10000 : Nat) = 9999 + 1 from rfl, run_equalIn_agg w 9999 64 _ _ hS hp]
  simp only [Program.fieldsOf, Tryz.underlying64]
  go_simp
set_option maxRecDepth 20000 in
theorem eqSelfR (a b c d : Int) (w : World) : (Op.equalIn 10000 66 (fR a b c d) (fR a b c d)).run Tryz.prog w = .ok true w := by
  have u3 := Tryz.underlying3
  have a3 := Tryz.isAgg3
  have z3 := Tryz.sizeOf3
  have hS : Tryz.prog.underlying 66 = some (.struct (Tryz.prog.fieldsOf 66)) := by kernel_rfl
  have hp : Tryz.prog.stoodInHeld 66 = false := by kernel_rfl
  rw [show (10000 : Nat) = 9999 + 1 from rfl, run_equalIn_agg w 9999 66 _ _ hS hp]
  simp only [Program.fieldsOf, Tryz.underlying66]
  go_simp
set_option maxRecDepth 20000 in
set_option maxHeartbeats 4000000 in
theorem sameV_any (v : Vlt) (A A' : Option Addr) (n c n' c' : Nat) (w : World) (h : Sl I w w.heap.size A n v.ws) (h' : Sl I w w.heap.size A' n' v.ws) (hl : v.ws.length ≤ 1000) :
    Calls Tryz.prog 54 #[aV v A n c, aV v A' n' c'] w (BoolB true w) := by
  obtain ⟨W, hW⟩ : ∃ W : World, W = (w.alloc (oV v A n c)).alloc (oV v A' n' c') := ⟨_, rfl⟩
  have hB : Below w.heap.size w W := by rw [hW]; exact ((Below.refl _ _).alloc (Nat.le_refl _) _).alloc (by simp) _
  have hg0 : W.heap[w.heap.size]? = some (oV v A n c) := by rw [hW]; exact (Below.heap_alloc _ _ _ (by simp)).trans (heap_alloc_new w _)
  have hg1 : W.heap[w.heap.size + 1]? = some (oV v A' n' c') := by rw [hW]; exact heap_new_at (w := w.alloc _) (by simp)
  have e1 := h.1
  have e2 := h'.1
  have HS := Lib.hid (sameI_any A A' n n' v.ws v.ws c c' W _ (h.up hB (Nat.le_refl _)) (h'.up hB (Nat.le_refl _)) (by omega) (by omega))
  have HB := Lib.hid hB
  have HG0 := Lib.hid hg0
  have HG1 := Lib.hid hg1
  have HW := Lib.hid hW
  have hc := eqSelfC v.cmin v.cmax v.cwin v.cbits v.cseed
  have hr := eqSelfR v.ra v.rb v.rc v.rd
  have t0 : (v.num == v.num) = true := by simp
  have t1 : (v.data == v.data) = true := by simp
  have t2 : (v.total == v.total) = true := by simp
  have t3 : (v.thr == v.thr) = true := by simp
  have t4 : (v.print.toList == v.print.toList) = true := by simp
  clear h h' hB hg0 hg1 hW e1 e2
  go_enter Tryz.func54, Tryz.ntmps54
  go_wp2_with fail
  rw [← HW.out]
  refine HS.out.mono ?_
  rintro e w1 ⟨he, r, h1⟩
  have he' : e = .returned (.bool true) := by rw [he]; simp
  subst he'
  have hB1 : Below W.heap.size W w1 := by rw [h1]; exact below_dN' (Below.refl _ _) _
  have HB1 : Hid (Below w.heap.size w w1) := HB.out.trans (hB1.mono HB.out.size)
  obtain ⟨x0, x1, x2, x3, x4, x5, x6, x7, x8, x9, x10, x11, x12, x13, x14⟩ := vfifteen_of ((hB1.block _ (lt_of_block HG0.out)).trans HG0.out)
  obtain ⟨y0, y1, y2, y3, y4, y5, y6, y7, y8, y9, y10, y11, y12, y13, y14⟩ := vfifteen_of ((hB1.block _ (lt_of_block HG1.out)).trans HG1.out)
  clear h1 hB1
  go_wp2
  go_ret
  exact ⟨rfl, HB1.out⟩
end Go.Proofs.YtkeicjokekmkpaaGreat
