/- sha256.Join, the reference's Join, Node, both. -/
import Derived.Test.YtpdledjgbgalcaaGreatDoorZ9
import Derived.Laws.IdiomStrings
namespace Go.Proofs.YtpdledjgbgalcaaGreatDoor
open Go.RowKit Go.Lib
set_option linter.unusedVariables false
set_option linter.unusedSimpArgs false
theorem sl_bytesRowU {w : World} {b : Nat} {t : TypeId} {fr : Nat × Nat} {s : ByteArray} {cap B : Nat} (h : w.heap[b]? = some (.cells (bytesRow s cap) t fr)) (hb : b < B) : Sl fB w B (some ⟨b, 0, none⟩) s.size (sB s) :=
  ⟨sB_len s, fun _ => ⟨b, 0, rfl, hb, fun k x hx => by
    rw [Nat.zero_add, cell_of_row w b k _ _ _ h]
    unfold sB at hx
    rw [List.getElem?_map, Array.getElem?_toList] at hx
    have hk : k < s.data.size := by
      rcases Nat.lt_or_ge k s.data.size with c | c
      · exact c
      · rw [Array.getElem?_eq_none c] at hx; cases hx
    rw [Array.getElem?_eq_getElem hk] at hx
    cases hx
    exact bytesRow_at s cap k hk⟩⟩
/-- A string as bytes of its own. -/
theorem wpList_conv_sbU {w : World} {ops : Array Oper} {rest : List Oper} {o : Oper} {a : Act} {Q : Exit → Act → World → Prop} (hgd : o.guard = none) (x : Operand) (ho : o.op = .convert 9 40 x) (s : ByteArray) (hx : a.eval x = .string s)
    (h : ∀ c W, Hid (Sl fB W W.heap.size (some ⟨w.heap.size, 0, none⟩) s.size (sB s)) → Hid (s.size ≤ c) → Hid (Below w.heap.size w W) → wpList Tryz.prog ops Q rest (a.put o.dst (.slice (some ⟨w.heap.size, 0, none⟩) s.size c)) W) : wpList Tryz.prog ops Q (o :: rest) a w := by
  refine wpList_plain hgd fun _ hK => ?_
  unfold Oper.wp execOp
  simp only [ho, hx, Sem.run_bind, run_bytes_of_string (P := Tryz.prog) w 9 40 5 s Tryz.underlying9 Tryz.underlying40 Tryz.underlying5, Result.andThen_ok]
  refine hK _ _ (h _ _ (sl_bytesRowU (heap_alloc_new w.drew _) (by simp)) (grownCap_ge w s.size 0 _) ?_)
  exact (Below.drew (Below.refl _ _)).alloc (Nat.le_refl _) _
/-- The bytes of strings, one behind the other. -/
def jnL (ps : List ByteArray) : List Int := ps.flatMap sB
theorem jnL_snoc (ps : List ByteArray) (x : ByteArray) : jnL (ps ++ [x]) = jnL ps ++ sB x := by simp [jnL]
theorem jnL_byt (ps : List ByteArray) : Byt (jnL ps) := fun x hx => by
  obtain ⟨s, _, h2⟩ := List.mem_flatMap.1 hx
  exact sB_rng s x h2
theorem jnL_take_le (ps : List ByteArray) (k : Nat) : (jnL (ps.take k)).length ≤ (jnL ps).length := by
  have h : jnL ps = jnL (ps.take k) ++ jnL (ps.drop k) := by
    unfold jnL
    rw [← List.flatMap_append, List.take_append_drop]
  rw [h, List.length_append]
  omega
set_option maxRecDepth 100000 in
set_option maxHeartbeats 4000000 in
theorem mjoin_any (A : Option Addr) (n c B : Nat) (ps : List ByteArray) (w : World) (hG : Glob w) (hx : Sl fT w B A n ps) (hB : B ≤ w.heap.size) (hn : n ≤ 1000000) (hl : (jnL ps).length ≤ 549755813887) :
    Calls Tryz.prog 209 #[.slice A n c] w fun e w' => e = .returned (.string (baOf (shaB (jnL ps)))) ∧ Below w.heap.size w w' := by
  have HC0 := Lib.hid (stNew_any w hG)
  have HX := Lib.hid hx
  have HXN : Hid (ps.length = n) := hx.1
  have HBB := Lib.hid hB
  have HL := Lib.hid hl
  have H2 : Hid (∀ w1 bs x cb W, St W w.heap.size bs → Below w.heap.size w W → w.heap.size < w1 → Sl fB W W.heap.size (some ⟨w1, 0, none⟩) x.size (sB x) → x.size ≤ cb → (bs ++ sB x).length ≤ 549755813887 → Calls Tryz.prog 199 #[.pointer (some ⟨w.heap.size, 0, none⟩), .slice (some ⟨w1, 0, none⟩) x.size cb] W fun e w' => e = .returned (.tuple #[]) ∧ St w' w.heap.size (bs ++ sB x) ∧ But (fun k => k = w.heap.size) W w') := fun w1 bs x cb W hs hb hlt hsl hc hln =>
    write_any w.heap.size bs (sB x) _ x.size cb W.heap.size W hs hsl hc (Nat.le_refl _) (sB_rng x) (fun a ha => by injection ha with ha; subst ha; exact Nat.ne_of_gt hlt) (by rw [List.length_append] at hln; omega) (hG.on hb).1 (hG.on hb).2.2 (Nat.ne_of_gt hG.2.2)
  have H3 : Hid (∀ W, St W w.heap.size (jnL ps) → Below w.heap.size w W → Calls Tryz.prog 200 #[.pointer (some ⟨w.heap.size, 0, none⟩)] W fun e w' => e = .returned (.string (baOf (shaB (jnL ps)))) ∧ Below W.heap.size W w') := fun W h2 hb =>
    sum_any w.heap.size (jnL ps) W h2 (by omega) (hG.on hb).1 (hG.on hb).2.2
  clear hG hx hB hl
  go_enter Tryz.func209, Tryz.ntmps209
  go_wp2_with (go_at_call 198; (with_reducible refine HC0.out.mono ?_); rintro e w0 ⟨rfl, hw0⟩; subst hw0)
  go_loopw [9] (fun i wr => ∃ k : Nat, k ≤ n ∧ i = .int .i64 k ∧ Hid (St wr w.heap.size (jnL (ps.take k))) ∧ Hid (Below w.heap.size w wr) ∧ Hid (w.heap.size < wr.heap.size)) (fun i _ => n - (intOf i).toNat)
  case atStart => exact ⟨0, by omega, rfl, newSt_St w, (Below.refl _ _).alloc (Nat.le_refl _) _, by show _ < _; simp⟩
  case round =>
    obtain ⟨k, hk, rfl, HS, HR, HLT⟩ := hrel
    by_cases hlt : k < n
    · obtain ⟨b1, o1, x, rfl, _, hg, hc⟩ := (HX.out.up HR.out HBB.out).2.at_ (k := k) (by rw [HXN.out]; exact hlt)
      have hkI : (k : Int) < (n : Int) := by omega
      have hk0 : (0 : Int) ≤ (k : Int) := by omega
      have HT : Hid (jnL (ps.take (k + 1)) = jnL (ps.take k) ++ sB x) := by show _ = _; rw [take_snoc hg, jnL_snoc]
      have HLE : Hid ((jnL (ps.take k) ++ sB x).length ≤ 549755813887) := by show _ ≤ _; rw [← HT.out]; exact Nat.le_trans (jnL_take_le ps (k + 1)) HL.out
      clear hg
      go_wp2_with (first
        | ((with_reducible refine wpList_conv_sbU (o := ⟨some 15, _, _, _, _, _⟩) rfl (.tmp 14) rfl x rfl ?_); intro cb W1 hsl hcb hbl; (have HW1 : Hid (Below w.heap.size w W1) := HR.out.trans (hbl.out.mono HR.out.size)); (have HC1 := Lib.hid (H2.out _ (jnL (ps.take k)) x cb W1 (HS.out.but (But.of_below (p := fun _ => False) hbl.out) (fun h => h)) HW1.out HLT.out hsl.out hcb.out HLE.out)); (have HZ1 : Hid (wr.heap.size ≤ W1.heap.size) := hbl.out.size); clear hsl hcb hbl)
        | (go_at_call 199; (with_reducible refine HC1.out.mono ?_); rintro e W2 ⟨rfl, hs2, hb2⟩; (have HS2 := Lib.hid hs2); (have HW2 : Hid (Below w.heap.size w W2) := HW1.out.trans (hb2.below HW1.out.size (fun i hi => Nat.le_of_eq hi.symm))); (have HLT2 : Hid (w.heap.size < W2.heap.size) := Nat.lt_of_lt_of_le (Nat.lt_of_lt_of_le HLT.out HZ1.out) hb2.size); clear hs2 hb2))
      go_roundw
      case rel => exact ⟨k + 1, by omega, by go_num, by rw [HT.out]; exact HS2, HW2, HLT2⟩
      case measure => simp [intOf]; omega
    · obtain rfl : k = n := by omega
      have HE : Hid (jnL (ps.take k) = jnL ps) := by show _ = _; rw [List.take_of_length_le (by rw [HXN.out]; exact Nat.le_refl _)]
      rw [HE.out] at HS
      go_wp2_with (go_at_call 200; (with_reducible refine (H3.out _ HS.out HR.out).mono ?_); rintro e w3 ⟨rfl, hb3⟩; have HB3 := Lib.hid hb3; clear hb3)
      go_ret
      exact ⟨rfl, HR.out.trans (HB3.out.mono HR.out.size)⟩
theorem sB_app (a b : ByteArray) : sB (a ++ b) = sB a ++ sB b := by
  unfold sB
  rw [ByteArray.data_append, Array.toList_append, List.map_append]
theorem ba_eqU {a b : ByteArray} (h : sB a = sB b) : a = b := by
  obtain ⟨⟨x⟩⟩ := a
  obtain ⟨⟨y⟩⟩ := b
  unfold sB at h
  simp only at h
  congr 2
  exact List.map_inj_right (f := fun b : UInt8 => (b.toNat : Int)) (fun u v huv => by
    have : u.toNat = v.toNat := by omega
    exact UInt8.toNat_inj.1 this) |>.1 h
theorem baOf_snoc (ps : List ByteArray) (x : ByteArray) : baOf (jnL ps) ++ x = baOf (jnL (ps ++ [x])) := by
  apply ba_eqU
  rw [sB_app, baOf_sB (jnL_byt _), baOf_sB (jnL_byt _), jnL_snoc]
theorem baOf_lenU (ps : List ByteArray) : (baOf (jnL ps)).size = (jnL ps).length := by rw [← sB_len, baOf_sB (jnL_byt _)]
set_option maxRecDepth 100000 in
set_option maxHeartbeats 4000000 in
theorem rjoin_any (A : Option Addr) (n c B : Nat) (ps : List ByteArray) (w : World) (hx : Sl fT w B A n ps) (hB : B ≤ w.heap.size) (hn : n ≤ 1000000) (hl : (jnL ps).length ≤ 1000000) :
    Calls Tryz.prog 183 #[.slice A n c] w fun e w' => e = .returned (.string (baOf (shaB (jnL ps)))) ∧ Below w.heap.size w w' := by
  have HX := Lib.hid hx
  have HXN : Hid (ps.length = n) := hx.1
  have HBB := Lib.hid hB
  have HL := Lib.hid hl
  have H3 : Hid (∀ W A' c', Sl fB W W.heap.size A' (baOf (jnL ps)).size (sB (baOf (jnL ps))) → Calls Tryz.prog 123 #[.slice A' (baOf (jnL ps)).size c'] W fun e w' => e = .returned (.string (baOf (shaB (jnL ps)))) ∧ Below W.heap.size W w') := fun W A' c' h => by
    rw [baOf_sB (jnL_byt _)] at h
    exact rsum_any A' _ c' W.heap.size (jnL ps) W h (Nat.le_refl _) (by rw [baOf_lenU]; omega) (jnL_byt _)
  clear hx hB hl
  go_enter Tryz.func183, Tryz.ntmps183
  go_wp2
  go_loopw [3, 8] (fun u i wr => ∃ k : Nat, k ≤ n ∧ i = .int .i64 k ∧ Hid (u = .string (baOf (jnL (ps.take k)))) ∧ Hid (Below w.heap.size w wr)) (fun _ i _ => n - (intOf i).toNat)
  case atStart => exact ⟨0, by omega, rfl, by show _ = _; rfl, Below.refl _ _⟩
  case round =>
    obtain ⟨k, hk, rfl, HU, HR⟩ := hrel
    by_cases hlt : k < n
    · obtain ⟨b1, o1, x, rfl, _, hg, hc⟩ := (HX.out.up HR.out HBB.out).2.at_ (k := k) (by rw [HXN.out]; exact hlt)
      have hkI : (k : Int) < (n : Int) := by omega
      have hk0 : (0 : Int) ≤ (k : Int) := by omega
      have HT : Hid (baOf (jnL (ps.take k)) ++ x = baOf (jnL (ps.take (k + 1)))) := by show _ = _; rw [take_snoc hg, baOf_snoc]
      have hsz : ¬ 9223372036854775807 < (baOf (jnL (ps.take k))).size + x.size := by
        have h1 := Nat.le_trans (jnL_take_le ps (k + 1)) HL.out
        rw [take_snoc hg, jnL_snoc, List.length_append, sB_len] at h1
        rw [baOf_lenU]
        omega
      obtain rfl := HU.out
      clear hg
      generalize baOf (jnL (ps.take k)) = acc at HT hsz
      go_wp2
      go_roundw
      case rel => exact ⟨k + 1, by omega, by go_num, by show _ = _; rw [← HT.out], HR⟩
      case measure => simp [intOf]; omega
    · obtain rfl : k = n := by omega
      have HE : Hid (jnL (ps.take k) = jnL ps) := by show _ = _; rw [List.take_of_length_le (by rw [HXN.out]; exact Nat.le_refl _)]
      rw [HE.out] at HU
      obtain rfl := HU.out
      go_wp2_with (first
        | ((with_reducible refine wpList_conv_sbU (o := ⟨some 17, _, _, _, _, _⟩) rfl (.tmp 16) rfl (baOf (jnL ps)) rfl ?_); intro cb W1 hsl hcb hbl; (have HW1 : Hid (Below w.heap.size w W1) := HR.out.trans (hbl.out.mono HR.out.size)); (have HC1 := Lib.hid (H3.out W1 _ cb hsl.out)); clear hsl hcb hbl)
        | (go_at_call 123; (with_reducible refine HC1.out.mono ?_); rintro e W2 ⟨rfl, hb2⟩; (have HW2 : Hid (Below w.heap.size w W2) := HW1.out.trans (hb2.mono HW1.out.size)); clear hb2))
      go_ret
      exact ⟨rfl, HW2.out⟩
/-- The sum of two sums. -/
def ndS (a b : ByteArray) : ByteArray := baOf (shaB (jnL [⟨#[1]⟩, a, b]))
theorem nd_sl (w : World) (a b : ByteArray) : Sl fT (w.alloc (.cells #[.string ⟨#[1]⟩, .string a, .string b] 9)) (w.alloc (.cells #[.string ⟨#[1]⟩, .string a, .string b] 9)).heap.size (some ⟨w.heap.size, 0, none⟩) 3 [⟨#[1]⟩, a, b] :=
  ⟨rfl, SL.of_block (t := 9) (fr := (0, 0)) (heap_alloc_new w _) (by simp)⟩
theorem jn3 (a b : ByteArray) : (jnL [⟨#[1]⟩, a, b]).length = 1 + a.size + b.size := by
  unfold jnL
  simp only [List.flatMap_cons, List.flatMap_nil, List.length_append, List.length_nil, sB_len]
  show 1 + (a.size + (b.size + 0)) = _
  omega
set_option maxRecDepth 100000 in
theorem mnode_any (a b : ByteArray) (w : World) (hG : Glob w) (ha : a.size ≤ 400000) (hb : b.size ≤ 400000) :
    Calls Tryz.prog 168 #[.string a, .string b] w fun e w' => e = .returned (.string (ndS a b)) ∧ Below w.heap.size w w' := by
  have hbl : Below w.heap.size w (w.alloc (.cells #[.string ⟨#[1]⟩, .string a, .string b] 9)) := (Below.refl _ _).alloc (Nat.le_refl _) _
  have HJ := Lib.hid (mjoin_any _ 3 3 _ _ _ (hG.on hbl) (nd_sl w a b) (Nat.le_refl _) (by decide) (by rw [jn3]; omega))
  have HB := Lib.hid hbl
  clear hG hbl
  go_enter Tryz.func168, Tryz.ntmps168
  go_wp2_with (go_at_call 209; (with_reducible refine HJ.out.mono ?_); rintro e W2 ⟨rfl, hb2⟩; have HB2 := Lib.hid hb2; clear hb2)
  go_ret
  exact ⟨rfl, HB.out.trans (HB2.out.mono HB.out.size)⟩
set_option maxRecDepth 100000 in
theorem rnode_any (a b : ByteArray) (w : World) (ha : a.size ≤ 400000) (hb : b.size ≤ 400000) :
    Calls Tryz.prog 125 #[.string a, .string b] w fun e w' => e = .returned (.string (ndS a b)) ∧ Below w.heap.size w w' := by
  have hbl : Below w.heap.size w (w.alloc (.cells #[.string ⟨#[1]⟩, .string a, .string b] 9)) := (Below.refl _ _).alloc (Nat.le_refl _) _
  have HJ := Lib.hid (rjoin_any _ 3 3 _ _ _ (nd_sl w a b) (Nat.le_refl _) (by decide) (by rw [jn3]; omega))
  have HB := Lib.hid hbl
  clear hbl
  go_enter Tryz.func125, Tryz.ntmps125
  go_wp2_with (go_at_call 183; (with_reducible refine HJ.out.mono ?_); rintro e W2 ⟨rfl, hb2⟩; have HB2 := Lib.hid hb2; clear hb2)
  go_ret
  exact ⟨rfl, HB.out.trans (HB2.out.mono HB.out.size)⟩
theorem ndS_size (a b : ByteArray) : (ndS a b).size = 32 := by
  unfold ndS
  rw [← sB_len, baOf_sB (shaB_byt _), shaB_len]
end Go.Proofs.YtpdledjgbgalcaaGreatDoor
