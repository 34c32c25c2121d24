/- matrix: Apply, Mul. -/
import Derived.Test.YtpbeaghghlfiaaaB2
namespace Go.Proofs.Ytpbeaghghlfiaaa
open Go.RowKit Go.Lib
set_option linter.unusedVariables false
set_option linter.unusedSimpArgs false
/-- A matrix that is handed back, and no error. -/
def MaP2 (m : Mt) (w : World) (e : Ending) (w' : World) : Prop := ∃ g hs, e = .returned (.tuple #[.slice (some ⟨g, 0, none⟩) m.length m.length, .int .i64 0]) ∧ w.heap.size ≤ g ∧ Mat w' g hs m ∧ Below w.heap.size w w'
theorem colsN_eq {m : Mt} {n : Nat} (h0 : 0 < m.length) (h : ∀ r ∈ m, r.length = n) : colsN m = n := by
  cases m with
  | nil => simp at h0
  | cons r m => exact h r (List.mem_cons_self ..)
set_option maxRecDepth 20000 in
theorem apply_any (A1 A2 : Option Addr) (n1 c1 d c2 len B : Nat) (m bl : Mt) (w : World) (h1 : SLL fN w B A1 n1 m) (h2 : SLL fN w B A2 d bl) (hB : B ≤ w.heap.size) (hm : MtOk d m) (hb : MtOk len bl) (hn0 : 0 < n1) (hn : n1 ≤ 64) (hd0 : 0 < d) (hd : d ≤ 64) (hl : len ≤ 65536) :
    Calls Try.prog 18 #[.slice A1 n1 c1, .slice A2 d c2] w (MaP2 (mulP len m bl) w) := by
  have HV := Lib.hid (valid_yes A1 n1 c1 B d m w h1 (fun r hr => (hm r hr).1) hn hd)
  have hml : m.length = n1 := h1.choose_spec.2.1
  have hbl : bl.length = d := h2.choose_spec.2.1
  have HC1 : Hid (Calls Try.prog 33 #[.slice A1 n1 c1] w fun e w' => e = .returned (.int .i64 d) ∧ w = w') := by
    have h := columns_any A1 n1 c1 B m w h1
    rw [colsN_eq (by omega) (fun r hr => (hm r hr).1)] at h
    exact h
  have HC2 : Hid (Calls Try.prog 33 #[.slice A2 d c2] w fun e w' => e = .returned (.int .i64 len) ∧ w = w') := by
    have h := columns_any A2 d c2 B bl w h2
    rw [colsN_eq (by omega) (fun r hr => (hb r hr).1)] at h
    exact h
  have HCO := Lib.hid (combine_any A1 A2 n1 c1 d c2 len B m bl w h1 h2 hB hm hb hn hd hl)
  have HM := Lib.hid h2
  have HR := Lib.hid (fun r hr => (hb r hr).1)
  have hdI : (d : Int) ≤ 64 := by omega
  have hd0I : (0 : Int) < (d : Int) := by omega
  have hlI : (len : Int) ≤ 65536 := by omega
  clear h1 h2 hm hb hml hbl hB hl
  go_enter Try.func18, Try.ntmps18
  go_wp2_with (first
    | (go_at_call 28; (with_reducible refine HV.out.mono ?_); rintro e w' ⟨rfl, rfl⟩)
    | (go_at_call 33; (with_reducible refine HC1.out.mono ?_); rintro e w' ⟨rfl, rfl⟩))
  go_loop [20] (fun i => ∃ k : Nat, k ≤ d ∧ i = .int .i64 k) (fun i => d - (intOf i).toNat)
  case atStart => exact ⟨0, Nat.zero_le _, rfl⟩
  case round =>
    obtain ⟨k, hk, rfl⟩ := hrel
    by_cases hlt : k < d
    · have hkI : (k : Int) < (d : Int) := by omega
      obtain ⟨b, off, a, cc, r, rfl, hrk, hck, _⟩ := HM.out.cell hlt
      obtain ⟨b', off', a0, c0, r0, hA, hr0, hc0, _⟩ := HM.out.cell (k := 0) (by omega)
      injection hA with hA
      injection hA with e1 e2 _
      subst e1 e2
      rw [HR.out r (List.mem_of_getElem? hrk)] at hck
      rw [HR.out r0 (List.mem_of_getElem? hr0)] at hc0
      simp only [Nat.add_zero] at hc0
      clear hrk hr0
      go_wp2_with fail
      go_round
      case rel => exact ⟨k + 1, by omega, by go_num⟩
      case measure => simp [intOf]; omega
    · obtain rfl : k = d := by omega
      go_wp2_with (first
        | (go_at_call 33; (with_reducible refine HC2.out.mono ?_); rintro e w' ⟨rfl, rfl⟩)
        | (go_at_call 34; (with_reducible refine HCO.out.mono ?_); rintro e w' ⟨hs, rfl, hm, hb⟩; (have HM2 := Lib.hid hm); (have HB2 := Lib.hid hb); clear hm hb))
      go_ret2
      exact ⟨_, hs, rfl, Nat.le_refl _, HM2.out, HB2.out⟩
set_option maxRecDepth 20000 in
theorem mmul_any (A1 A2 : Option Addr) (n1 c1 d c2 len B : Nat) (m bl : Mt) (w : World) (h1 : SLL fN w B A1 n1 m) (h2 : SLL fN w B A2 d bl) (hB : B ≤ w.heap.size) (hm : MtOk d m) (hb : MtOk len bl) (hn0 : 0 < n1) (hn : n1 ≤ 64) (hd0 : 0 < d) (hd : d ≤ 64) (hl : len ≤ 64) :
    Calls Try.prog 39 #[.slice A1 n1 c1, .slice A2 d c2] w (MaP2 (mulP len m bl) w) := by
  have HV1 := Lib.hid (valid_yes A1 n1 c1 B d m w h1 (fun r hr => (hm r hr).1) hn hd)
  have HV2 := Lib.hid (valid_yes A2 d c2 B len bl w h2 (fun r hr => (hb r hr).1) hd hl)
  have hml : m.length = n1 := h1.choose_spec.2.1
  have hbl : bl.length = d := h2.choose_spec.2.1
  have HC1 : Hid (Calls Try.prog 33 #[.slice A1 n1 c1] w fun e w' => e = .returned (.int .i64 d) ∧ w = w') := by
    have h := columns_any A1 n1 c1 B m w h1
    rw [colsN_eq (by omega) (fun r hr => (hm r hr).1)] at h
    exact h
  have HC2 : Hid (Calls Try.prog 33 #[.slice A2 d c2] w fun e w' => e = .returned (.int .i64 len) ∧ w = w') := by
    have h := columns_any A2 d c2 B bl w h2
    rw [colsN_eq (by omega) (fun r hr => (hb r hr).1)] at h
    exact h
  have HCO := Lib.hid (combine_any A1 A2 n1 c1 d c2 len B m bl w h1 h2 hB hm hb hn hd (by omega))
  have hdI : (d : Int) ≤ 64 := by omega
  clear h1 h2 hm hb hml hbl hB hl
  go_enter Try.func39, Try.ntmps39
  go_upto_region 3 with (first
    | (go_at_call 28; (with_reducible refine HV1.out.mono ?_); rintro e w' ⟨rfl, rfl⟩)
    | (go_at_call 28; (with_reducible refine HV2.out.mono ?_); rintro e w' ⟨rfl, rfl⟩)
    | (go_at_call 33; (with_reducible refine HC1.out.mono ?_); rintro e w' ⟨rfl, rfl⟩))
  clear HC1
  go_wp2_with (first
    | (go_at_call 33; (with_reducible refine HC2.out.mono ?_); rintro e w' ⟨rfl, rfl⟩)
    | (go_at_call 34; (with_reducible refine HCO.out.mono ?_); rintro e w' ⟨hs, rfl, hm, hb⟩; (have HM2 := Lib.hid hm); (have HB2 := Lib.hid hb); clear hm hb))
  go_ret2
  exact ⟨_, hs, rfl, Nat.le_refl _, HM2.out, HB2.out⟩
end Go.Proofs.Ytpbeaghghlfiaaa
