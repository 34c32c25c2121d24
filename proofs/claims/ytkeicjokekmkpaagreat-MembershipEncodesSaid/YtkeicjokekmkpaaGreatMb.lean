/- Circles, plainly: no program in sight. Leaves: chunker.Valid, validMember, taken. taken: the name or the key of another one. The map of votes: who has voted to expel whom. -/
import Derived.Test.YtkeicjokekmkpaaGreatMa
import Derived.Test.YtkeicjokekmkpaaGreatProg
import Derived.Test.YtkeicjokekmkpaaGreatChecked
import Derived.DeepKeys4
import Derived.WideKeyArgs2
import Derived.Maps.Own
import Derived.Maps.OwnIn
import Derived.Maps.OwnSet
import Derived.Maps.Views
namespace Go.Proofs.YtkeicjokekmkpaaGreat
namespace Mb
set_option linter.unusedVariables false
set_option linter.unusedSimpArgs false

/-- A member. -/
structure Mem where
  dev : Int
  name : ByteArray
  pub : ByteArray
  quota : Int
  exp : Bool
/-- A vault with its writers. -/
structure Vlt where
  num : Int
  ws : List Int
  data : Int
  total : Int
  thr : Int
  print : ByteArray
  cmin : Int
  cmax : Int
  cwin : Int
  cbits : Int
  cseed : Int
  ra : Int
  rb : Int
  rc : Int
  rd : Int
/-- A circle's state. -/
structure St where
  ms : List Mem
  vs : List Vlt
  q : Int
  votes : List (Int × Int)
def letB (c : UInt8) : Bool := decide (97 ≤ c.toNat) && decide (c.toNat ≤ 122)
def nameB (s : ByteArray) : Bool := decide (1 ≤ s.size) && (decide (s.size ≤ 16) && s.data.toList.all letB)
def memB (m : Mem) (d : Int) : Bool := decide (m.dev = d) && (nameB m.name && (decide (m.pub.size = 32) && (decide (0 ≤ m.quota) && (decide (m.quota ≤ 1099511627776) && !m.exp))))
/-- The name or the key is the same. -/
def likeB (m x : Mem) : Bool := x.name.toList == m.name.toList || x.pub.toList == m.pub.toList
def takenB (ms : List Mem) (m : Mem) : Bool := ms.any (likeB m)
def hasB (S : St) (d : Int) : Bool := decide (0 ≤ d) && decide (d < S.ms.length)
def actB (S : St) (d : Nat) : Bool := match S.ms[d]? with
  | some m => !m.exp
  | none => false
def votedB (S : St) (v d : Int) : Bool := S.votes.contains (v, d)
/-- The members whose votes count. -/
def counting (S : St) (d : Int) : List Int := ((List.range S.ms.length).filter fun v => actB S v && votedB S v d).map fun v : Nat => (v : Int)
def activeL (S : St) : List Int := ((List.range S.ms.length).filter fun v => actB S v).map fun v : Nat => (v : Int)
/-- A member expelled. -/
def Mem.out (m : Mem) : Mem := { m with exp := true }
def expel (ms : List Mem) (d : Nat) : List Mem := ms.modify d Mem.out
end Mb
end Go.Proofs.YtkeicjokekmkpaaGreat
namespace Go.Proofs.YtkeicjokekmkpaaGreat
open Go.RowKit Mb
set_option linter.unusedVariables false
set_option linter.unusedSimpArgs false

def BoolB (v : Bool) (w : World) (e : Ending) (w' : World) : Prop := e = .returned (.bool v) ∧ Below w.heap.size w w'
/-- A member's cells. -/
def fM (m : Mem) : List Value := [.int .i64 m.dev, .string m.name, .string m.pub, .int .i64 m.quota, .bool m.exp]
theorem fM_len : ∀ m, (fM m).length = 5 := fun _ => rfl
theorem fM_one : ∀ m, ∀ u ∈ fM m, u.oneCell' = true := fun m u hu => by
  simp only [fM, List.mem_cons, List.not_mem_nil, or_false] at hu
  rcases hu with rfl | rfl | rfl | rfl | rfl <;> rfl
abbrev aM (m : Mem) : Value := .agg #[.int .i64 m.dev, .string m.name, .string m.pub, .int .i64 m.quota, .bool m.exp]

theorem name_snoc (s : ByteArray) (k : Nat) (h : k < s.size) : s.data.toList.take (k + 1) = s.data.toList.take k ++ [s[k]] := by
  rw [List.take_succ_eq_append_getElem (by simpa using h)]; rfl
set_option maxRecDepth 20000 in
set_option maxHeartbeats 2000000 in
theorem vmem_any (m : Mem) (d : Int) (w : World) (hs : m.name.size ≤ 9223372036854775807) (hp : m.pub.size ≤ 9223372036854775807) : Calls Tryz.prog 65 #[aM m, .int .i64 d] w (BoolB (memB m d) w) := by
  have hb0 : Below w.heap.size w (w.alloc (.cells #[.int .i64 m.dev, .string m.name, .string m.pub, .int .i64 m.quota, .bool m.exp] 40)) := (Below.refl _ _).alloc (Nat.le_refl _) _
  have HB0 := Lib.hid hb0
  clear hb0
  by_cases h1 : m.dev = d
  · have d1 : (m.dev != d) = false := by simp [h1]
    by_cases h2 : 1 ≤ m.name.size
    · have d2' : ¬ (m.name.size : Int) < 1 := by omega
      have d2'' : decide ((m.name.size : Int) < 1) = false := by simp; omega
      by_cases h3 : m.name.size ≤ 16
      · have d3' : ¬ (16 : Int) < m.name.size := by omega
        have d3'' : decide ((16 : Int) < m.name.size) = false := by simp; omega
        have HM : Hid (memB m d = (m.name.data.toList.all letB && (decide (m.pub.size = 32) && (decide (0 ≤ m.quota) && (decide (m.quota ≤ 1099511627776) && !m.exp))))) := by
          show _ = _
          unfold memB nameB
          simp [h1, h2, h3]
        clear h1
        go_enter Tryz.func65, Tryz.ntmps65
        go_wp2
        go_loop [25] (fun i => ∃ k : Nat, k ≤ m.name.size ∧ i = .int .i64 k ∧ Hid ((m.name.data.toList.take k).all letB = true)) (fun i => m.name.size - (intOf i).toNat)
        case atStart => exact ⟨0, Nat.zero_le _, rfl, by show _ = _; simp⟩
        case round =>
          obtain ⟨k, hk, rfl, HL⟩ := hrel
          by_cases hlt : k < m.name.size
          · by_cases hc : letB m.name[k] = true
            · have hcc : 97 ≤ m.name[k].toNat ∧ m.name[k].toNat ≤ 122 := by simpa [letB] using hc
              obtain ⟨c1, c2⟩ := hcc
              have HN : Hid ((m.name.data.toList.take (k + 1)).all letB = true) := by show _ = _; rw [name_snoc m.name k hlt, List.all_append, HL.out]; simp [hc]
              have e1 : ¬ (m.name[k].toNat : Int) < 97 := by omega
              have e2 : ¬ (122 : Int) < (m.name[k].toNat : Int) := by omega
              clear hc
              go_wp2
              go_round
              case rel => exact ⟨k + 1, by omega, by go_num, HN⟩
              case measure => simp [intOf]; omega
            · have hcc : m.name[k].toNat < 97 ∨ 122 < m.name[k].toNat := by
                have : ¬ (97 ≤ m.name[k].toNat ∧ m.name[k].toNat ≤ 122) := by simpa [letB] using hc
                omega
              have HF : Hid (memB m d = false) := by
                show _ = _
                rw [HM.out]
                have : m.name.data.toList.all letB = false := by
                  rw [List.all_eq_false]
                  exact ⟨m.name[k], by simp [ByteArray.getElem_eq_getElem_data], by simpa using hc⟩
                rw [this]; rfl
              clear hc
              rcases hcc with c1 | c1
              · have e1 : (m.name[k].toNat : Int) < 97 := by omega
                go_wp2
                go_ret
                exact ⟨ret_bool HF.out.symm, HB0.out⟩
              · have e1 : ¬ (m.name[k].toNat : Int) < 97 := by omega
                have e2 : (122 : Int) < (m.name[k].toNat : Int) := by omega
                go_wp2
                go_ret
                exact ⟨ret_bool HF.out.symm, HB0.out⟩
          · obtain rfl : k = m.name.size := by omega
            have HM2 : Hid (memB m d = (decide (m.pub.size = 32) && (decide (0 ≤ m.quota) && (decide (m.quota ≤ 1099511627776) && !m.exp)))) := by
              show _ = _
              rw [HM.out]
              have h5 := HL.out
              rw [List.take_of_length_le (by simp)] at h5
              rw [h5, Bool.true_and]
            clear HM
            by_cases q1 : m.pub.size = 32
            · have f1 : ((m.pub.size : Int) == 32) = true := by simp; omega
              by_cases q2 : 0 ≤ m.quota
              · have f2 : decide (0 ≤ m.quota) = true := decide_eq_true q2
                by_cases q3 : m.quota ≤ 1099511627776
                · have f3 : decide (m.quota ≤ 1099511627776) = true := decide_eq_true q3
                  have HR : Hid (memB m d = !m.exp) := by show _ = _; rw [HM2.out, decide_eq_true q1, f2, f3]; rfl
                  go_wp2
                  go_ret
                  exact ⟨ret_bool HR.out.symm, HB0.out⟩
                · have f3 : decide (m.quota ≤ 1099511627776) = false := decide_eq_false q3
                  have HR : Hid (memB m d = false) := by show _ = _; rw [HM2.out, decide_eq_true q1, f2, f3]; rfl
                  go_wp2
                  go_ret
                  exact ⟨ret_bool HR.out.symm, HB0.out⟩
              · have f2 : decide (0 ≤ m.quota) = false := decide_eq_false q2
                have HR : Hid (memB m d = false) := by show _ = _; rw [HM2.out, decide_eq_true q1, f2]; rfl
                go_wp2
                go_ret
                exact ⟨ret_bool HR.out.symm, HB0.out⟩
            · have f1 : ((m.pub.size : Int) == 32) = false := by simp; omega
              have HR : Hid (memB m d = false) := by show _ = _; rw [HM2.out, decide_eq_false q1]; rfl
              go_wp2
              go_ret
              exact ⟨ret_bool HR.out.symm, HB0.out⟩
      · have d3' : (16 : Int) < m.name.size := by omega
        have HM : Hid (memB m d = false) := by show _ = _; unfold memB nameB; simp [h3]
        clear h1
        go_enter Tryz.func65, Tryz.ntmps65
        go_wp2
        go_ret
        exact ⟨ret_bool HM.out.symm, HB0.out⟩
    · have d2' : (m.name.size : Int) < 1 := by omega
      have HM : Hid (memB m d = false) := by show _ = _; unfold memB nameB; simp [h2]
      clear h1
      go_enter Tryz.func65, Tryz.ntmps65
      go_wp2
      go_ret
      exact ⟨ret_bool HM.out.symm, HB0.out⟩
  · have HM : Hid (memB m d = false) := by show _ = _; unfold memB; simp [h1]
    have d1 : (m.dev != d) = true := by simp [h1]
    clear h1
    go_enter Tryz.func65, Tryz.ntmps65
    go_wp2
    go_ret
    exact ⟨ret_bool HM.out.symm, HB0.out⟩
end Go.Proofs.YtkeicjokekmkpaaGreat
namespace Go.Proofs.YtkeicjokekmkpaaGreat
open Go.RowKit Mb
set_option linter.unusedVariables false
set_option linter.unusedSimpArgs false

abbrev cM (m : Mem) : Obj := .cells #[.int .i64 m.dev, .string m.name, .string m.pub, .int .i64 m.quota, .bool m.exp] 40 (0, 0)
/-- The five cells of a member in a row. -/
theorem five {w : World} {b off k : Nat} {x : Mem} (h : ∀ j v, (fM x)[j]? = some v → w.cell? ⟨b, off + (k * 5 + j), none⟩ = some v) :
    w.cell? ⟨b, off + k * 5, none⟩ = some (.int .i64 x.dev) ∧ w.cell? ⟨b, off + k * 5 + 1, none⟩ = some (.string x.name) ∧ w.cell? ⟨b, off + k * 5 + 2, none⟩ = some (.string x.pub) ∧ w.cell? ⟨b, off + k * 5 + 3, none⟩ = some (.int .i64 x.quota) ∧ w.cell? ⟨b, off + k * 5 + 4, none⟩ = some (.bool x.exp) := by
  refine ⟨?_, ?_, ?_, ?_, ?_⟩
  · exact h 0 _ rfl
  · rw [Nat.add_assoc]; exact h 1 _ rfl
  · rw [Nat.add_assoc]; exact h 2 _ rfl
  · rw [Nat.add_assoc]; exact h 3 _ rfl
  · rw [Nat.add_assoc]; exact h 4 _ rfl

set_option maxRecDepth 20000 in
set_option maxHeartbeats 1000000 in
theorem like_any (m x : Mem) (gm : Nat) (w : World) (hg : w.heap[gm]? = some (cM m)) : Calls Tryz.prog 92 #[aM x, .pointer (some ⟨gm, 0, none⟩)] w (BoolB (likeB m x) w) := by
  have hlt := lt_of_block hg
  have hb0 : Below w.heap.size w (w.alloc (cM x)) := (Below.refl _ _).alloc (Nat.le_refl _) _
  have HB0 := Lib.hid hb0
  have hg1 := (hb0.block _ hlt).trans hg
  have g1 := cell_of_row (w.alloc (cM x)) gm 1 _ _ _ hg1
  have g2 := cell_of_row (w.alloc (cM x)) gm 2 _ _ _ hg1
  simp at g1 g2
  clear hb0 hg1 hg
  cases hq : (x.name.toList == m.name.toList)
  · have HR : Hid (likeB m x = (x.pub.toList == m.pub.toList)) := by show _ = _; unfold likeB; rw [hq]; rfl
    go_enter Tryz.func92, Tryz.ntmps92
    go_wp2
    go_ret
    exact ⟨ret_bool HR.out.symm, HB0.out⟩
  · have HR : Hid (likeB m x = true) := by show _ = _; unfold likeB; rw [hq]; rfl
    go_enter Tryz.func92, Tryz.ntmps92
    go_wp2
    go_ret
    exact ⟨ret_bool HR.out.symm, HB0.out⟩

def IdxB (b : Bool) (w : World) (e : Ending) (w' : World) : Prop := ∃ r : Int, e = .returned (.int .i64 r) ∧ decide (0 ≤ r) = b ∧ Below w.heap.size w w'
set_option maxRecDepth 20000 in
set_option maxHeartbeats 1000000 in
theorem mindex_any (f : Mem → Bool) (cap : Array Value) (A : Option Addr) (n c : Nat) (ms : List Mem) (w : World) (hx : SlN fM 5 w w.heap.size A n ms) (hn : n ≤ 1000000)
    (hc : ∀ W x, Below w.heap.size w W → Calls Tryz.prog 92 (#[aM x] ++ cap) W (BoolB (f x) W)) (gm : Nat) (hcap : cap = #[.pointer (some ⟨gm, 0, none⟩)]) :
    Calls Tryz.prog 116 #[.slice A n c, .func (.func 92) #[] cap] w (IdxB (ms.any f) w) := by
  subst hcap
  have HX := Lib.hid hx
  have HC := Lib.hid hc
  have HLEN : Hid (ms.length = n) := hx.1
  have HB : Hid (Below w.heap.size w w) := Below.refl _ _
  clear hx hc
  go_enter Tryz.func116, Tryz.ntmps116
  go_wp2
  go_loopw [8] (fun i wr => ∃ k : Nat, k ≤ n ∧ i = .int .i64 k ∧ Hid ((ms.take k).any f = false) ∧ Hid (Below w.heap.size w wr)) (fun i _ => n - (intOf i).toNat)
  case atStart => exact ⟨0, Nat.zero_le _, rfl, by show _ = _; simp, HB⟩
  case round =>
    obtain ⟨k, hk, rfl, HF, HBr⟩ := hrel
    by_cases hlt : k < n
    · obtain ⟨b, off, x, rfl, hbB, hxk, hcell⟩ := (HX.out.up HBr.out (Nat.le_refl _)).at_ hlt
      obtain ⟨c0, c1, c2, c3, c4⟩ := five hcell
      have HXK := Lib.hid hxk
      obtain ⟨bx, hbx⟩ : ∃ z, f x = z := ⟨_, rfl⟩
      have HCX : Hid (Calls Tryz.prog 92 #[aM x, .pointer (some ⟨gm, 0, none⟩)] wr (BoolB bx wr)) := by
        have h5 := HC.out wr x HBr.out
        rw [hbx] at h5
        exact h5
      have HN : Hid ((ms.take (k + 1)).any f = bx) := by show _ = _; rw [take_snoc hxk, List.any_append, HF.out, ← hbx]; simp
      have HM : Hid (bx = true → ms.any f = true) := fun h => List.any_eq_true.2 ⟨x, List.mem_of_getElem? hxk, by rw [hbx]; exact h⟩
      clear hcell hxk hbx
      go_wp2_with fail
      refine HCX.out.mono ?_
      rintro e w1 ⟨rfl, hb⟩
      have HB2 : Hid (Below w.heap.size w w1) := HBr.out.trans (hb.mono HBr.out.size)
      clear hb
      cases bx
      · go_wp2
        go_roundw
        case rel => exact ⟨k + 1, by omega, by go_num, HN, HB2⟩
        case measure => simp [intOf]; omega
      · have HT := Lib.hid (HM.out rfl)
        go_wp2
        go_ret
        exact ⟨_, rfl, by rw [HT.out]; simp, HB2.out⟩
    · have HT : Hid (ms.any f = false) := by
        show _ = _
        have h5 := HF.out
        rw [List.take_of_length_le (by have := HLEN.out; omega)] at h5
        exact h5
      go_wp2
      go_ret
      exact ⟨_, rfl, by rw [HT.out]; rfl, HBr.out⟩

theorem mcont_any (args : Array Value) (b : Bool) (w : World) (hsz : ∃ x y, args = #[x, y])
    (hi : Calls Tryz.prog 116 args w (IdxB b w)) :
    Calls Tryz.prog 91 args w (BoolB b w) := by
  obtain ⟨x, y, rfl⟩ := hsz
  have HI := Lib.hid hi
  clear hi
  go_enter Tryz.func91, Tryz.ntmps91
  go_wp2_with fail
  refine HI.out.mono ?_
  rintro e w1 ⟨r, rfl, hr, hb⟩
  have HR := Lib.hid hr
  have HB := Lib.hid hb
  clear hr hb
  go_wp2
  go_ret
  exact ⟨ret_bool (by rw [← HR.out]), HB.out⟩

set_option maxRecDepth 20000 in
theorem taken_any (m : Mem) (A : Option Addr) (n c : Nat) (ms : List Mem) (w : World) (hx : SlN fM 5 w w.heap.size A n ms) (hn : n ≤ 1000000) :
    Calls Tryz.prog 66 #[.slice A n c, aM m] w (BoolB (takenB ms m) w) := by
  obtain ⟨W0, hW0⟩ : ∃ W0 : World, W0 = w.alloc (cM m) := ⟨_, rfl⟩
  have hb0 : Below w.heap.size w W0 := by rw [hW0]; exact (Below.refl _ _).alloc (Nat.le_refl _) _
  have hg0 : W0.heap[w.heap.size]? = some (cM m) := by rw [hW0]; exact heap_alloc_new w _
  have HB0 := Lib.hid hb0
  have HI : Hid (Calls Tryz.prog 116 #[.slice A n c, .func (.func 92) #[] #[.pointer (some ⟨w.heap.size, 0, none⟩)]] W0 (IdxB (takenB ms m) W0)) := by
    refine mindex_any (likeB m) _ A n c ms W0 ((hx.up hb0 (Nat.le_refl _)).more hb0.size) hn (fun W x h => ?_) w.heap.size rfl
    exact like_any m x w.heap.size W ((h.block _ (lt_of_block hg0)).trans hg0)
  have HCF := Lib.hid (mcont_any _ _ _ ⟨_, _, rfl⟩ HI.out)
  clear hx hb0 hg0
  go_enter Tryz.func66, Tryz.ntmps66
  go_wp2_with fail
  rw [← hW0]
  clear hW0
  refine HCF.out.mono ?_
  rintro e w1 ⟨rfl, hb⟩
  have HB := Lib.hid hb
  clear hb
  go_wp2
  go_ret
  exact ⟨rfl, HB0.out.trans (HB.out.mono HB0.out.size)⟩
end Go.Proofs.YtkeicjokekmkpaaGreat
namespace Go.Proofs.YtkeicjokekmkpaaGreat
open Go.RowKit Mb
set_option linter.unusedVariables false
set_option linter.unusedSimpArgs false

theorem Vote.laid : laidOutB Tryz.prog = true := by kernel_rfl
theorem Vote.law : Maps.Keyed Tryz.prog 124 := Maps.Keyed.of_law (deep_law_laid Vote.laid (m := 2) (by omega) (of_decide_eq_true (by kernel_rfl)) (by kernel_rfl) (by kernel_rfl))
theorem Vote.size : Tryz.prog.types.size = Tryz.prog.types.size - 2 + 1 + 1 := by
  have h : 2 ≤ Tryz.prog.types.size := of_decide_eq_true (by kernel_rfl)
  omega
theorem Vote.keyT : Tryz.prog.keyType 124 = true := by kernel_rfl
theorem Vote.cells : Tryz.prog.cellsOf 124 = 2 := by kernel_rfl
theorem Vote.icells : Tryz.prog.cellsOf 3 = 1 := by kernel_rfl
/-- The key of a vote, read. -/
noncomputable def kV (x y : Int) : Lit := .string (keyBytes [.int .i64 x, .int .i64 y])
def pV (x y : Int) : Value := .agg #[.int .i64 x, .int .i64 y]
theorem kV_of {x y : Int} (hx : (Lit.int .i64 x).wf = true) (hy : (Lit.int .i64 y).wf = true) : keyOf Tryz.prog 124 (pV x y) = some (kV x y) := by
  have hf : (pV x y).formed Tryz.prog 124 = true := by simp [pV, Value.formed, Tryz.underlying124, Vote.cells]
  unfold keyOf
  simp only [Tryz.underlying124]
  rw [if_pos (by simp [Vote.keyT, hf]), Vote.size]
  unfold Program.keyLits
  simp only [Tryz.underlying124, Value.cells, pV]
  rw [if_pos (by simp [Vote.cells])]
  unfold Program.keyLits
  simp [Tryz.underlying3, Vote.icells, hx, hy, kV]
/-- Ints that Go can hold. -/
def int64 (x : Int) : Prop := -9223372036854775808 ≤ x ∧ x ≤ 9223372036854775807
theorem int64.wf {x : Int} (h : int64 x) : (Lit.int .i64 x).wf = true := WalkArith.wf_i64 h
theorem kV_inj {x y x' y' : Int} (hx : int64 x) (hy : int64 y) (hx' : int64 x') (hy' : int64 y') (h : kV x y = kV x' y') : x = x' ∧ y = y' := by
  have h1 := Vote.law.inj (kV_of hx.wf hy.wf) (h ▸ kV_of hx'.wf hy'.wf)
  simp [pV] at h1
  exact h1
theorem kV_key {x y : Int} (hx : int64 x) (hy : int64 y) : WideAt.IsKeyLit (kV x y) := Vote.law.key (kV_of hx.wf hy.wf)
theorem Vote.zero (w : World) : (zeroValue 4).run Tryz.prog w = .ok (.bool false) w := by kernel_rfl
/-- Block b is a map of votes that reads as F. -/
def MapV (w : World) (b n : Nat) (F : Int → Int → Bool) : Prop :=
  ∃ D : DataW Unit, w.ownsMap Tryz.prog 124 (plainElem Tryz.prog 4) b n D ∧ ∀ x y, int64 x → int64 y → D.atKey (kV x y) (.lit (.bool false)) = .lit (.bool (F x y))
theorem MapV.made (w : World) : MapV (w.alloc (.map #[] 0)) w.heap.size 0 (fun _ _ => false) := ⟨_, World.ownsMap_made w Tryz.prog _ _, fun x y _ _ => by simp [DataW.atKey]⟩
theorem MapV.empty {w : World} {b : Nat} (h : w.heap[b]? = some (.map #[] 0)) : MapV w b 0 (fun x y => ([] : List (Int × Int)).contains (x, y)) :=
  ⟨.map [], ⟨#[], 0, h, ⟨by simp, (by exact ⟨by simp, by simp, by simp⟩), by simp⟩, Nat.le_refl _, rfl⟩, fun x y _ _ => by simp [DataW.atKey]⟩
section
variable {w w' : World} {b n : Nat} {F G : Int → Int → Bool}
theorem MapV.kept {row : Option Nat} (h : MapV w b n F) (hg : w.grownBy w' row) (hne : some b ≠ row) : MapV w' b n F := by
  obtain ⟨D, h1, h2⟩ := h
  exact ⟨D, h1.kept hg hne, h2⟩
theorem MapV.block (h : MapV w b n F) (hb : w'.heap[b]? = w.heap[b]?) : MapV w' b n F := by
  obtain ⟨D, ⟨es, ck, h1, h2⟩, h3⟩ := h
  exact ⟨D, ⟨es, ck, hb.trans h1, h2⟩, h3⟩
theorem MapV.lt (h : MapV w b n F) : b < w.heap.size := by
  obtain ⟨D, h1, _⟩ := h
  exact h1.lt
theorem MapV.mono {n' : Nat} (h : MapV w b n F) (hn : n ≤ n') : MapV w b n' F := by
  obtain ⟨D, h1, h5⟩ := h
  exact ⟨D, h1.mono hn, h5⟩
theorem MapV.congr (h : MapV w b n F) (he : ∀ x y, F x y = G x y) : MapV w b n G := by
  obtain ⟨D, h1, h2⟩ := h
  exact ⟨D, h1, fun x y hx hy => by rw [← he]; exact h2 x y hx hy⟩
theorem elem_bool_inv {H : Type} {P : Program} {e : TypeId} (he : P.underlying e = some .bool) {v : Value} {r : DataW H × List MemPlace} (h : plainElem P e v = some r) : ∃ x, v = .bool x ∧ r = (.lit (.bool x), []) := by
  unfold plainElem at h
  rw [he] at h
  cases v <;> simp at h
  exact ⟨_, rfl, h.symm⟩
theorem look_gen {P : Program} {kt et mt : TypeId} {D : DataW Unit} (h1 : w.ownsMap P kt (plainElem P et) b n D) (law : Maps.Keyed P kt) (ht : P.underlying mt = some (.map kt et)) (he : P.underlying et = some .bool)
    (hz : (zeroValue et).run P w = .ok (.bool false) w) {key : Value} {l : Lit} (hk : keyOf P kt key = some l) {x : Bool} (h2 : D.atKey l (.lit (.bool false)) = .lit (.bool x)) : (Instr.lookup mt (.map (some b)) key false).run P w = .ok (.bool x) w := by
  obtain ⟨v, ps, hrun, hv⟩ := h1.lookup law ht hz (plainElem_bool he false) hk
  obtain ⟨c, rfl, hc⟩ := elem_bool_inv he hv
  rw [h2] at hc
  injection hc with hc _
  injection hc with hc
  injection hc with hc
  rw [hrun, ← hc]
/-- A look-up, as an equation on the operation. -/
theorem MapV.look (h : MapV w b n F) (x y : Int) (hx : int64 x) (hy : int64 y) : (Instr.lookup 78 (.map (some b)) (pV x y) false).run Tryz.prog w = .ok (.bool (F x y)) w := by
  obtain ⟨D, h1, h2⟩ := h
  exact look_gen h1 Vote.law Tryz.underlying78 Tryz.underlying4 (Vote.zero w) (kV_of hx.wf hy.wf) (h2 x y hx hy)
theorem MapV.store (h : MapV w b n F) (hn : n < maxLen) (x y : Int) (hx : int64 x) (hy : int64 y) (c : Bool) :
    ∃ w', (Instr.mapUpdate 78 (.map (some b)) (pV x y) (.bool c)).run Tryz.prog w = .ok () w' ∧ MapV w' b (n + 1) (fun u v => if u = x ∧ v = y then c else F u v) ∧ w.grownBy w' (some b) := by
  obtain ⟨D, h1, h2⟩ := h
  obtain ⟨w', r1, r2, r3⟩ := h1.update Vote.law Tryz.underlying78 hn (kV_of hx.wf hy.wf) (plainElem_bool Tryz.underlying4 c)
  refine ⟨w', r1, ⟨_, r2, fun u v hu hv => ?_⟩, r3⟩
  show _ = DataW.lit (.bool (if u = x ∧ v = y then c else F u v))
  by_cases he : u = x ∧ v = y
  · obtain ⟨rfl, rfl⟩ := he
    rw [if_pos ⟨rfl, rfl⟩]
    exact Maps.atKey_put_same h1.isMap (kV_key hu hv) _ _
  · rw [if_neg he, Maps.atKey_put_other (fun e => he (kV_inj hu hv hx hy e))]
    exact h2 u v hu hv
end
end Go.Proofs.YtkeicjokekmkpaaGreat
