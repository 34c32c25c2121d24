/- Signatures: schemes. Contracts of library functions at this translation (printed by the kit's lay-shelf and lay-plain). One-time signatures: the public key of values. -/
import Derived.Test.YtpdledjgbgalcaaGreatDoorN8
import Derived.Shelf.Strings.Builder1
import Derived.Shelf.Strings.Builder2
import Derived.Shelf.Strings.OnBuilder
import Derived.Shelf.Small.Bits
import Derived.Shelf.Small.Wraps
import Derived.Shelf.Strings.BuilderF
import Derived.Shelf.Strings.BuilderK
import Derived.Shelf.Strings.Builder2Cap
import Derived.Shelf.Strconv.Itoa0
import Derived.Shelf.Sort.Plain
import Derived.Shelf.Strings.BuilderCap
import Derived.Shelf.Slices.Turned
import Derived.Ground.Names2Prog
import Derived.Shelf.Slices.Clone
import Derived.Shelf.Slices.SearchI
import Derived.Shelf.Slices.In.SortNone
import Derived.Ground.SlgnProg
import Derived.Shelf.SlicesE.Clone
import Derived.Test.YtpdledjgbgalcaaGreatDoorProg
namespace Go.Proofs.YtpdledjgbgalcaaGreatDoor
open Go.RowKit Go.Lib
set_option linter.unusedVariables false
set_option linter.unusedSimpArgs false
/-- Is it a scheme? -/
def sgOk (b h : Int) : Bool := decide ((b = 1 ∨ b = 2 ∨ b = 4) ∧ 0 ≤ h ∧ h ≤ 8)
abbrev cSc (b h : Int) : Array Value := #[.int .i64 b, .int .i64 h]
set_option maxRecDepth 100000 in
set_option maxHeartbeats 4000000 in
theorem sgvalid_any (b h : Int) (w : World) : Calls Tryz.prog 201 #[.agg (cSc b h)] w fun e w' => e = .returned (.bool (sgOk b h)) ∧ Below w.heap.size w w' := by
  have HB : Hid (Below w.heap.size w (w.alloc (.cells (cSc b h) 26))) := (Below.refl _ _).alloc (Nat.le_refl _) _
  have i0 : ∀ w, (Instr.index 303 (.agg #[.int .i64 1, .int .i64 2, .int .i64 4]) (.int .i64 0)).run Tryz.prog w = .ok (.int .i64 1) w := fun _ => by kernel_rfl
  have i1 : ∀ w, (Instr.index 303 (.agg #[.int .i64 1, .int .i64 2, .int .i64 4]) (.int .i64 1)).run Tryz.prog w = .ok (.int .i64 2) w := fun _ => by kernel_rfl
  have i2 : ∀ w, (Instr.index 303 (.agg #[.int .i64 1, .int .i64 2, .int .i64 4]) (.int .i64 2)).run Tryz.prog w = .ok (.int .i64 4) w := fun _ => by kernel_rfl
  by_cases h0 : h < 0
  · have HV : Hid (sgOk b h = false) := by show _ = _; unfold sgOk; rw [decide_eq_false]; omega
    rw [HV.out]
    go_enter Tryz.func201, Tryz.ntmps201
    go_wp2
    go_ret
    exact ⟨rfl, HB.out⟩
  · by_cases h8 : 8 < h
    · have HV : Hid (sgOk b h = false) := by show _ = _; unfold sgOk; rw [decide_eq_false]; omega
      rw [HV.out]
      go_enter Tryz.func201, Tryz.ntmps201
      go_wp2
      go_ret
      exact ⟨rfl, HB.out⟩
    · by_cases hb : b = 1 ∨ b = 2 ∨ b = 4
      · have HV : Hid (sgOk b h = true) := by show _ = _; unfold sgOk; rw [decide_eq_true]; omega
        rw [HV.out]
        rcases hb with rfl | rfl | rfl
        all_goals
          go_enter Tryz.func201, Tryz.ntmps201
          go_wp2
          refine wp_loop_rounds 3 ?_
          rw [rounds_succ]
          go_wp2
          (try rw [rounds_succ])
          go_wp2
          (try rw [rounds_succ])
          go_wp2
          go_ret
          exact ⟨rfl, HB.out⟩
      · have HV : Hid (sgOk b h = false) := by show _ = _; unfold sgOk; rw [decide_eq_false]; omega
        rw [HV.out]
        have hb1 : ¬ b = 1 := by omega
        have hb2 : ¬ b = 2 := by omega
        have hb4 : ¬ b = 4 := by omega
        have hc1 : (b == 1) = false := by simp [hb1]
        have hc2 : (b == 2) = false := by simp [hb2]
        have hc4 : (b == 4) = false := by simp [hb4]
        go_enter Tryz.func201, Tryz.ntmps201
        go_wp2
        refine wp_loop_rounds 4 ?_
        rw [rounds_succ]
        go_wp2
        rw [rounds_succ]
        go_wp2
        rw [rounds_succ]
        go_wp2
        rw [rounds_succ]
        go_wp2
        go_ret
        exact ⟨rfl, HB.out⟩
set_option maxRecDepth 100000 in
set_option maxHeartbeats 4000000 in
theorem rgvalid_any (b h : Int) (w : World) : Calls Tryz.prog 205 #[.agg (cSc b h)] w fun e w' => e = .returned (.bool (sgOk b h)) ∧ Below w.heap.size w w' := by
  have HB : Hid (Below w.heap.size w (w.alloc (.cells (cSc b h) 26))) := (Below.refl _ _).alloc (Nat.le_refl _) _
  have hb : b = 1 ∨ b = 2 ∨ b = 4 ∨ (¬ b = 1 ∧ ¬ b = 2 ∧ ¬ b = 4) := by omega
  have HV : Hid (sgOk b h = ((b == 1 || b == 2 || b == 4) && decide (0 ≤ h) && decide (h ≤ 8))) := by
    show _ = _
    unfold sgOk
    rw [Bool.eq_iff_iff]
    simp [or_assoc, and_assoc]
  rw [HV.out]
  rcases hb with rfl | rfl | rfl | ⟨hb1, hb2, hb4⟩
  all_goals
    by_cases hd : 0 ≤ h
    · by_cases he : h ≤ 8
      · have hd1 : decide (0 ≤ h) = true := by simp [hd]
        have he1 : decide (h ≤ 8) = true := by simp [he]
        go_enter Tryz.func205, Tryz.ntmps205
        go_wp2
        go_ret
        exact ⟨by (try simp only [HV.out]); simp [*], HB.out⟩
      · have hd1 : decide (0 ≤ h) = true := by simp [hd]
        have he1 : decide (h ≤ 8) = false := by simp; omega
        go_enter Tryz.func205, Tryz.ntmps205
        go_wp2
        go_ret
        exact ⟨by simp [hd, he1], HB.out⟩
    · have hd1 : decide (0 ≤ h) = false := by simp; omega
      go_enter Tryz.func205, Tryz.ntmps205
      go_wp2
      go_ret
      exact ⟨by simp [hd1], HB.out⟩
end Go.Proofs.YtpdledjgbgalcaaGreatDoor
namespace Go.Proofs.YtpdledjgbgalcaaGreatDoor
open Go.Shelf
def Tryz.lays156_ren : Go.Shelf.Ren := ⟨fun | 156 => 267 | 165 => 272 | 166 => 273 | 169 => 274 | 240 => 275 | 241 => 276 | 276 => 277 | 277 => 278 | n => n, fun | 31 => 24 | 9 => 9 | 3 => 3 | 4 => 4 | 0 => 0 | 20 => 20 | 72 => 327 | 76 => 330 | 70 => 325 | 37 => 40 | 75 => 329 | 127 => 332 | 164 => 333 | 5 => 5 | 80 => 240 | n => n, fun | n => n⟩
theorem Tryz.lays156 : Go.Proofs.Lays.n156 Tryz.prog Tryz.lays156_ren := {
  mixed := by kernel_rfl
  f156 := Tryz.func267.trans (congrArg some (by kernel_rfl))
  f165 := Tryz.func272.trans (congrArg some (by kernel_rfl))
  f166 := Tryz.func273.trans (congrArg some (by kernel_rfl))
  f169 := Tryz.func274.trans (congrArg some (by kernel_rfl))
  f240 := Tryz.func275.trans (congrArg some (by kernel_rfl))
  f241 := Tryz.func276.trans (congrArg some (by kernel_rfl))
  f276 := Tryz.func277.trans (congrArg some (by kernel_rfl))
  f277 := Tryz.func278.trans (congrArg some (by kernel_rfl))
  t0 := Tryz.underlying0
  a0 := Tryz.isAgg0
  z0 := Tryz.sizeOf0
  v0 := Tryz.zeroValue0
  t3 := Tryz.underlying3
  a3 := Tryz.isAgg3
  z3 := Tryz.sizeOf3
  v3 := Tryz.zeroValue3
  t4 := Tryz.underlying4
  a4 := Tryz.isAgg4
  z4 := Tryz.sizeOf4
  v4 := Tryz.zeroValue4
  t9 := Tryz.underlying9
  a9 := Tryz.isAgg9
  z9 := Tryz.sizeOf9
  v9 := Tryz.zeroValue9
  t20 := Tryz.underlying20
  a20 := Tryz.isAgg20
  z20 := Tryz.sizeOf20
  v20 := Tryz.zeroValue20
  t31 := Tryz.underlying24
  a31 := Tryz.isAgg24
  z31 := Tryz.sizeOf24
  v31 := Tryz.zeroValue24
  t37 := Tryz.underlying40
  a37 := Tryz.isAgg40
  z37 := Tryz.sizeOf40
  v37 := Tryz.zeroValue40
  t70 := Tryz.underlying325
  a70 := Tryz.isAgg325
  z70 := Tryz.sizeOf325
  v70 := Tryz.zeroValue325
  t72 := Tryz.underlying327
  a72 := Tryz.isAgg327
  z72 := Tryz.sizeOf327
  v72 := Tryz.zeroValue327
  t75 := Tryz.underlying329
  a75 := Tryz.isAgg329
  z75 := Tryz.sizeOf329
  v75 := Tryz.zeroValue329
  t76 := Tryz.underlying330
  a76 := Tryz.isAgg330
  z76 := Tryz.sizeOf330
  v76 := Tryz.zeroValue330
  t127 := Tryz.underlying332
  a127 := Tryz.isAgg332
  z127 := Tryz.sizeOf332
  v127 := Tryz.zeroValue332
  t164 := Tryz.underlying333
  a164 := Tryz.isAgg333
  z164 := Tryz.sizeOf333
  v164 := Tryz.zeroValue333 }
theorem Tryz.Builder_Extra_156 : Builder.Extra Tryz.prog Tryz.lays156_ren := {
  sizeBuilder := by kernel_rfl
  liesBuilder := by kernel_rfl
  t5 := Tryz.underlying5
  a5 := Tryz.isAgg5
  z5 := Tryz.sizeOf5
  v5 := Tryz.zeroValue5
  infoByte := by kernel_rfl
  cellsByte := by kernel_rfl
  sizeByte := by kernel_rfl
  neB5 := by decide }
open Go.RowKit in
open Go.RowKit in
theorem Tryz.strings_Join (bk o c : Nat) (xs : List ByteArray) (sep : ByteArray) (w : World) (hcells : ∀ (j : Nat) x, xs[j]? = some x → w.cell? ⟨bk, o + j, none⟩ = some (.string x)) (hbk : bk < w.heap.size) (hN : xs.length ≤ 140737488355328) (hcap : xs.length ≤ c) (hlen : (Lib.join (xs.map (·.data.toList)) sep.data.toList).length ≤ 140737488355328) :
    Calls Tryz.prog 267 #[.slice (some ⟨bk, o, none⟩) xs.length c, .string sep] w fun e w' => e = .returned (.string ⟨(Lib.join (xs.map (·.data.toList)) sep.data.toList).toArray⟩) ∧ Below w.heap.size w w' := Any.strings_Join Tryz.lays156 Tryz.Builder_Extra_156 bk o c xs sep w hcells hbk hN hcap hlen
end Go.Proofs.YtpdledjgbgalcaaGreatDoor
namespace Go.Proofs.YtpdledjgbgalcaaGreatDoor
open Go.RowKit Go.Lib
set_option linter.unusedVariables false
set_option linter.unusedSimpArgs false
theorem join_emp : ∀ (xs : List (List UInt8)), Lib.join xs [] = xs.flatten
  | [] => rfl
  | a :: t => by
    rw [Lib.join_cons]
    simp [Lib.joinTail]
theorem sB_mk (l : List UInt8) : sB ⟨l.toArray⟩ = l.map fun b => (b.toNat : Int) := by unfold sB; simp
theorem join_jnL (vs : List ByteArray) : sB ⟨(Lib.join (vs.map (·.data.toList)) []).toArray⟩ = jnL vs := by
  rw [join_emp, sB_mk]
  induction vs with
  | nil => rfl
  | cons a t ih =>
    rw [List.map_cons, List.flatten_cons, List.map_append, ih]
    rfl
theorem join_len (vs : List ByteArray) : (Lib.join (vs.map (·.data.toList)) []).length = (jnL vs).length := by
  rw [← join_jnL, sB_mk, List.length_map]
theorem two_sl (w : World) (a b : ByteArray) : Sl fT (w.alloc (.cells #[.string a, .string b] 9)) (w.alloc (.cells #[.string a, .string b] 9)).heap.size (some ⟨w.heap.size, 0, none⟩) 2 [a, b] :=
  ⟨rfl, SL.of_block (t := 9) (fr := (0, 0)) (heap_alloc_new w _) (by simp)⟩
set_option maxRecDepth 100000 in
set_option maxHeartbeats 4000000 in
theorem pubkey_any (A : Option Addr) (n c B : Nat) (vs : List ByteArray) (w : World) (hG : Glob w) (hx : Sl fT w B A n vs) (hB : B ≤ w.heap.size) (hc : n ≤ c) (h1 : 1 ≤ n) (hn : n ≤ 300) (hv : ∀ s ∈ vs, s.size = 32) :
    Calls Tryz.prog 246 #[.slice A n c] w fun e w' => e = .returned (.string (baOf (shaB (pbL ++ jnL vs)))) ∧ Below w.heap.size w w' := by
  have hvl : vs.length = n := hx.1
  have hln := jnL_len32 vs hv
  rw [hvl] at hln
  obtain ⟨b1, o1, x, rfl, hb1, _, _⟩ := hx.2.at_ (k := 0) (by omega)
  have HJ : Hid (Calls Tryz.prog 267 #[.slice (some ⟨b1, o1, none⟩) n c, .string ⟨#[]⟩] w fun e w' => e = .returned (.string ⟨(Lib.join (vs.map (·.data.toList)) []).toArray⟩) ∧ Below w.heap.size w w') := by
    have h := Tryz.strings_Join b1 o1 c vs ⟨#[]⟩ w (fun j y hj => by
      obtain ⟨b2, o2, x2, e2, _, g2, k2⟩ := hx.2.at_ (k := j) (List.getElem?_eq_some_iff.1 hj).1
      cases e2
      rw [hj] at g2
      cases g2
      exact k2) (Nat.lt_of_lt_of_le hb1 hB) (by omega) (by omega) (by show (Lib.join _ []).length ≤ _; rw [join_len, hln]; omega)
    rw [hvl] at h
    exact h
  obtain ⟨js, hjs⟩ : ∃ s, (⟨(Lib.join (vs.map (·.data.toList)) []).toArray⟩ : ByteArray) = s := ⟨_, rfl⟩
  have hsb : sB js = jnL vs := by rw [← hjs, join_jnL]
  rw [hjs] at HJ
  have hjn : jnL [⟨#[112, 117, 98, 108, 105, 99]⟩, js] = pbL ++ jnL vs := by
    show sB ⟨#[112, 117, 98, 108, 105, 99]⟩ ++ (sB js ++ []) = _
    rw [hsb, List.append_nil]
    rfl
  have HM : Hid (∀ W, Below w.heap.size w W → Calls Tryz.prog 209 #[.slice (some ⟨W.heap.size, 0, none⟩) 2 2] (W.alloc (.cells #[.string ⟨#[112, 117, 98, 108, 105, 99]⟩, .string js] 9)) fun e w' => e = .returned (.string (baOf (shaB (pbL ++ jnL vs)))) ∧ Below W.heap.size W w') := fun W hb => by
    have hba := (Below.refl W.heap.size W).alloc (Nat.le_refl _) (.cells #[.string ⟨#[112, 117, 98, 108, 105, 99]⟩, .string js] 9)
    have h := mjoin_any _ 2 2 _ [⟨#[112, 117, 98, 108, 105, 99]⟩, js] _ (hG.on (hb.trans (hba.mono hb.size))) (two_sl W _ _) (Nat.le_refl _) (by omega) (by rw [hjn, List.length_append, hln]; show 6 + _ ≤ _; omega)
    rw [hjn] at h
    exact h.mono fun e w' ⟨h1, h2⟩ => ⟨h1, hba.trans (h2.mono hba.size)⟩
  clear hG hx hB hv hvl hln hb1 hjs hsb hjn
  go_enter Tryz.func246, Tryz.ntmps246
  go_wp2_with (first
    | (go_at_call 267; (with_reducible refine HJ.out.mono ?_); rintro e w1 ⟨rfl, hb1⟩; (have HB1 := Lib.hid hb1); (have HM1 := Lib.hid (HM.out w1 hb1)); clear hb1)
    | (go_at_call 209; (with_reducible refine HM1.out.mono ?_); rintro e w2 ⟨rfl, hb2⟩; (have HB2 := Lib.hid (HB1.out.trans (hb2.mono HB1.out.size))); clear hb2))
  go_ret
  exact ⟨rfl, HB2.out⟩
end Go.Proofs.YtpdledjgbgalcaaGreatDoor
