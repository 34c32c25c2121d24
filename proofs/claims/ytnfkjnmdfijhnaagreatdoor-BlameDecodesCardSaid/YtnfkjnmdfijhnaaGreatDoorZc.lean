/- Meetings: the reference's EncodeMeet; DecodeMeet of an encoding. -/
import Derived.Test.YtnfkjnmdfijhnaaGreatDoorZb
import Derived.Test.YtnfkjnmdfijhnaaGreatDoorMr
namespace Go.Proofs.YtnfkjnmdfijhnaaGreatDoor
open Go.RowKit Go.Lib
set_option linter.unusedVariables false
set_option linter.unusedSimpArgs false

set_option maxRecDepth 100000 in
theorem left_anyZ (g : Nat) (A : Option Addr) (n c p : Nat) (pv er : Int) (w : World) (hr : Rd w g A n c p pv er) (hp : p ≤ n) (hn : n ≤ 1000000) :
    Calls Tryz.prog 50 #[.pointer (some ⟨g, 0, none⟩)] w fun e w' => e = .returned (.int .i64 ((n : Int) - p)) ∧ ∃ m, w' = w.drewN m := by
  have h0 := cell_of_row w g 0 _ _ _ hr
  have h1 := cell_of_row w g 1 _ _ _ hr
  simp at h0 h1
  have hw : IntKind.i64.wrap ((n : Int) - p) = (n : Int) - p := by rw [IntWalk.i64_in _ (by omega)]
  clear hr
  go_enter Tryz.func50, Tryz.ntmps50
  go_wp2
  go_quiet (fail)
  go_wp2
  go_ret
  exact ⟨rfl, _, rfl⟩
theorem results_3 {fn : Func} {a b c : Tmp} (h : fn.results = #[.tmp a, .tmp b, .tmp c]) (tmps : Array Value) (P : Program) (w : World) :
    (results fn tmps).run P w = .ok (.tuple #[tmps.getD a undef, tmps.getD b undef, tmps.getD c undef]) w := by
  simp [results, h]
theorem encV_pos (xs : List Int) : 0 < (encV xs).length := by
  have h0 : ∀ n, 0 < (enc n).length := fun n => by
    unfold enc encF
    split <;> simp
  unfold encV
  rw [List.length_append]
  have := h0 (nrm xs).length
  omega
/-- An entry of a kind with a body. -/
abbrev entryV (k : Int) (A : Option Addr) (n c : Nat) : Value := .agg #[.int .i64 0, .int .i64 0, .int .i64 k, .int .i64 0, .slice A n c, .string ⟨#[]⟩]
set_option maxRecDepth 100000 in
set_option maxHeartbeats 4000000 in
theorem dmeet_no (k : Int) (A : Option Addr) (n c : Nat) (w : World) (hk : k ≠ 9) :
    Calls Tryz.prog 17 #[entryV k A n c] w fun e w' => e = .returned (.tuple #[.int .i64 0, .slice none 0 0, .int .i64 1]) ∧ Below w.heap.size w w' := by
  go_enter Tryz.func17, Tryz.ntmps17
  go_wp2
  refine bodyPost_ret (results_3 rfl _ _ _) rfl ⟨rfl, (Below.refl _ _).alloc (Nat.le_refl _) _⟩
set_option maxRecDepth 100000 in
set_option maxHeartbeats 4000000 in
theorem dmeet_enc (q : Nat) (xs : List Int) (A : Option Addr) (n c B : Nat) (w : World) (hx : Sl fB w B A n ((q : Int) :: encV xs)) (hc : n ≤ c) (hB : B ≤ w.heap.size) (hv : validB xs = true) (hq : q ≤ 11) :
    Calls Tryz.prog 17 #[entryV 9 A n c] w fun e w' => ∃ A' n' c', e = .returned (.tuple #[.int .i64 (q : Int), .slice A' n' c', .int .i64 0]) ∧ n' ≤ c' ∧ Sl I w' w'.heap.size A' n' (nrm xs) ∧ Below w.heap.size w w' := by
  have hbs : Byt ((q : Int) :: encV xs) := Byt.app (xs := [(q : Int)]) (fun x hx => by rw [List.mem_singleton.1 hx]; omega) (encV_byt xs)
  have hn1 : n = (encV xs).length + 1 := by rw [← hx.1]; rfl
  have hel := encV_len xs hv
  have hep := encV_pos xs
  obtain ⟨b, off, rfl, hbB⟩ := hx.at0 (by omega)
  have hb1 : Below w.heap.size w (w.alloc (.cells #[.int .i64 0, .int .i64 0, .int .i64 9, .int .i64 0, .slice (some ⟨b, off, none⟩) n c, .string ⟨#[]⟩] 45)) := (Below.refl _ _).alloc (Nat.le_refl _) _
  have HB1 := Lib.hid hb1
  have HX := Lib.hid hx
  have HN := Lib.hid (newReader_any (some ⟨b, off, none⟩) n c ((q : Int) :: encV xs) _ ((hx.up hb1 hB).more' (Nat.le_trans hB hb1.size)) (by omega))
  have HU : Hid (∀ g A1 c1 W, Rd W g A1 n c1 0 0 0 → Sl fB W g A1 n ((q : Int) :: encV xs) → Calls Tryz.prog 57 #[.pointer (some ⟨g, 0, none⟩)] W fun e w' => e = .returned (.int .u64 (q : Int)) ∧ Rd w' g A1 n c1 1 0 0 ∧ But (fun k => k = g) W w') := fun g A1 c1 W hr hs => by
    refine (ruint_ok g A1 n c1 0 0 _ W hr hs hbs (by omega) (by omega)).mono ?_
    rintro e w' ⟨h1, h2, h3⟩
    rw [numF_small (by omega)] at h1 h2
    exact ⟨h1, h2, h3⟩
  have HD : Hid (∀ W, Sl fB W W.heap.size (some ⟨b, off + 1, none⟩) (n - 1) (encV xs) → Calls Tryz.prog 58 #[.slice (some ⟨b, off + 1, none⟩) (n - 1) (c - 1)] W (Slc2 I (nrm xs) 0 W)) := fun W hs => by
    have h := decode_any (some ⟨b, off + 1, none⟩) (n - 1) (c - 1) (encV xs) W hs (by omega) (encV_byt xs)
    unfold DecPost at h
    rw [decV_enc xs hv] at h
    exact h
  obtain ⟨iB, hB0, _, hB1, _⟩ := info_parts Tryz.infoB
  have hs2 : ∀ W, (Instr.slice 24 (.slice (some ⟨b, off, none⟩) n c) (some (.int .i64 1)) none none).run Tryz.prog W = .ok (.slice (some ⟨b, off + 1, none⟩) (n - 1) (c - 1)) W := fun W => by
    rw [run_slice_from (P := Tryz.prog) 24 5 iB Tryz.underlying24 hB0 hB1 (some ⟨b, off, none⟩) n c .i64 1 1 rfl (by omega) hc W, if_neg (by omega)]
    rfl
  have HTl : Hid (∀ W, Below w.heap.size w W → Sl fB W W.heap.size (some ⟨b, off + 1, none⟩) (n - 1) (encV xs)) := fun W hb => by
    refine ⟨by omega, fun _ => ⟨b, off + 1, rfl, Nat.lt_of_lt_of_le (Nat.lt_of_lt_of_le hbB hB) hb.size, fun k x hk => ?_⟩⟩
    obtain ⟨b', off', e, _, hat⟩ := (hx.up hb hB).2 (by rw [hx.1]; omega)
    cases e
    have := hat (k + 1) x hk
    rw [show off + 1 + k = off + (k + 1) by omega]
    exact this
  have hqI : ¬ (12 : Int) ≤ (q : Int) := by omega
  have hlw : IntKind.i64.wrap ((n : Int) - ((n : Int) - 1)) = 1 := by rw [IntWalk.i64_in _ (by omega)]; omega
  have hqw : IntKind.i64.wrap (q : Int) = (q : Int) := IntWalk.i64_in _ (by omega)
  have hnB : n ≤ 131 := by omega
  have hnp : 1 ≤ n := by omega
  clear hx hb1 hbs hn1 hel hep hv hB
  go_enter Tryz.func17, Tryz.ntmps17
  go_upto_region 5 with (first
    | (go_at_call 38; (with_reducible refine HN.out.mono ?_); rintro e w2 ⟨g, A1, c1, rfl, hr2, hs2', hg2, hb2, _⟩
       have HR2 := Lib.hid hr2
       have HS2 := Lib.hid hs2'
       have HGg := Lib.hid hg2
       have HB2 : Hid (Below w.heap.size w w2) := HB1.out.trans (hb2.mono (by simp))
       have HX2 : Hid (w2.heap[w.heap.size]? = some (.cells #[.int .i64 0, .int .i64 0, .int .i64 9, .int .i64 0, .slice (some ⟨b, off, none⟩) n c, .string ⟨#[]⟩] 45 (0, 0))) := (hb2.block _ (by simp)).trans (heap_alloc_new w _)
       clear hr2 hs2' hg2 hb2)
    | (go_at_call 57; (with_reducible refine (HU.out g A1 c1 w2 HR2.out HS2.out).mono ?_); rintro e w3 ⟨rfl, hr3, hb3⟩
       have HR3 := Lib.hid hr3
       have HB3 : Hid (Below w.heap.size w w3) := HB2.out.trans (hb3.below HB2.out.size (fun i hi => by have := HGg.out; simp at this; omega))
       have HX3 : Hid (w3.heap[w.heap.size]? = some (.cells #[.int .i64 0, .int .i64 0, .int .i64 9, .int .i64 0, .slice (some ⟨b, off, none⟩) n c, .string ⟨#[]⟩] 45 (0, 0))) := (hb3.block _ (lt_of_block HX2.out) (by have := HGg.out; simp at this; omega)).trans HX2.out
       clear hr3 hb3))
  have e4 := cell_of_row w3 w.heap.size 4 _ _ _ HX3.out
  simp at e4
  have HLf : Hid (∀ a, Calls Tryz.prog 50 #[.pointer (some ⟨g, 0, none⟩)] (w3.drewN a) fun e w' => e = .returned (.int .i64 ((n : Int) - 1)) ∧ ∃ m, w' = (w3.drewN a).drewN m) := fun a => left_anyZ g A1 n c1 1 0 0 (w3.drewN a) HR3.out hnp (by omega)
  go_quiet ((go_at_call 50; with_reducible exact Calls.quiet_of (HLf.out _)))
  generalize hW : World.drewN w3 _ = W4
  replace e4 : W4.cell? ⟨w.heap.size, 4, none⟩ = some (.slice (some ⟨b, off, none⟩) n c) := by rw [← hW]; exact e4
  have HB4 : Hid (Below w.heap.size w W4) := by show Below ..; rw [← hW]; exact below_drewN' HB3.out _
  clear hW
  go_wp2_with (first
    | (go_at_call 58; (with_reducible refine (HD.out _ (HTl.out _ HB4.out)).mono ?_); rintro e w5 ⟨A5, n5, c5, rfl, hc5, hs5, hb5⟩
       have HS5 := Lib.hid hs5
       have HB5 := Lib.hid hb5
       clear hs5 hb5))
  refine bodyPost_ret (results_3 rfl _ _ _) rfl ⟨A5, n5, c5, rfl, hc5, HS5.out, HB4.out.trans (HB5.out.mono HB4.out.size)⟩
end Go.Proofs.YtnfkjnmdfijhnaaGreatDoor
