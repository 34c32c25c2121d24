/- matrix: reduce's search. -/
import Derived.Test.YtpbeaghghlfiaaaB4
namespace Go.Proofs.Ytpbeaghghlfiaaa
open Go.RowKit Go.Lib
set_option linter.unusedVariables false
set_option linter.unusedSimpArgs false
abbrev TI : TypeId := 3
abbrev TPE : TypeId := 61
def fdV : Option Nat → Int
  | none => -1
  | some f => (f : Int)
theorem drewN2 (w : World) (a b : Nat) : ∃ q, (w.drewN a).drewN b = w.drewN q := ⟨a + b, by simp [World.drewN, Nat.add_assoc]⟩
def FdP (r : Int) (w : World) (e : Ending) (w' : World) : Prop := e = .returned (.int .i64 r) ∧ ∃ q, w' = w.drewN q
theorem one_cell {w : World} {b : Nat} {v : Value} {t : TypeId} (h : w.heap[b]? = some (.cells #[v] t (0, 0))) : w.cell? ⟨b, 0, none⟩ = some v := by rw [cell_of_row w b _ _ _ _ h]; rfl
set_option maxRecDepth 100000 in
set_option maxHeartbeats 4000000 in
theorem find_any (bt be bc h g N c p n top col : Nat) (pv : Value) (hs : List Hd) (m : Mt) (w : World) (h1 : w.heap[bt]? = some (.cells #[.int .i64 top] TI (0, 0))) (h2 : w.heap[be]? = some (.cells #[.pointer (some ⟨h, 0, none⟩)] TPE (0, 0))) (h3 : w.heap[bc]? = some (.cells #[.int .i64 col] TI (0, 0))) (hE : w.heap[h]? = some (.cells (cE g N c pv p) TE (0, 0))) (hM : Mat w g hs m) (hN : m.length = N) (hok : MtOk n m) (ht : top ≤ N) (hc : col < n) (hn : n ≤ 1000) (hN2 : N ≤ 64) :
    Calls Try.prog 49 #[.pointer (some ⟨bt, 0, none⟩), .pointer (some ⟨be, 0, none⟩), .pointer (some ⟨bc, 0, none⟩)] w (FdP (fdV (findP m col (N - top) top)) w) := by
  have c1 := one_cell h1
  have c2 := one_cell h2
  have c3 := one_cell h3
  have c4 : w.cell? ⟨h, 0, none⟩ = some (.slice (some ⟨g, 0, none⟩) N c) := by rw [cell_of_row w h _ _ _ _ hE]; rfl
  obtain ⟨r, hr⟩ : ∃ r, findP m col (N - top) top = r := ⟨_, rfl⟩
  have HR0 := Lib.hid hr
  rw [hr]
  have HM := Lib.hid hM
  have HN := Lib.hid hN
  have HOK := Lib.hid hok
  have htI : (top : Int) ≤ (N : Int) := by omega
  have hcI : (col : Int) < (n : Int) := by omega
  have hnI : (n : Int) ≤ 1000 := by omega
  have hNI : (N : Int) ≤ 64 := by omega
  have HW : Hid (w = w.drewN 0) := rfl
  clear h1 h2 h3 hE hM hN hok hr
  go_enter Try.func49, Try.ntmps49
  go_wp2_with fail
  go_loopw [4] (fun i wr => ∃ (k q : Nat), k ≤ N ∧ i = .int .i64 k ∧ wr = w.drewN q ∧ Hid (findP m col (N - k) k = r)) (fun i _ => N - (intOf i).toNat)
  case atStart => exact ⟨top, 0, ht, rfl, rfl, HR0⟩
  case round =>
    clear HR0
    obtain ⟨k, q, hk, rfl, rfl, HF⟩ := hrel
    by_cases hlt : k < N
    · have hkI : (k : Int) < (N : Int) := by omega
      obtain ⟨ra, rn, rc, rk, hhk, hrk, hck, hxk⟩ := HM.out.at_ (k := k) (by rw [HN.out]; exact hlt)
      have hro := HOK.out.get hrk
      obtain rfl : n = rn := hro.1.symm.trans hxk.2.1
      obtain ⟨y, hy⟩ := get_ex (xs := rk) (k := col) (by rw [hro.1]; omega)
      obtain ⟨rb, ro, rfl, hrb, hrat⟩ := hxk.sl.2 (by omega)
      have hcy : w.cell? ⟨rb, ro + col, none⟩ = some (fN y) := hrat col y hy
      have hst : findP m col (N - k) k = if y = 0 then findP m col (N - (k + 1)) (k + 1) else some k := by
        rw [show N - k = (N - (k + 1)) + 1 by omega, findP_step, getD_some hrk, getD_some hy]
      have HRk := HF.out
      rw [hst] at HRk
      by_cases h0 : y = 0
      · rw [if_pos h0] at HRk
        have HF2 := Lib.hid HRk
        subst h0
        clear HRk hst hrk hro hy hrb hrat hhk hxk
        go_wp2_with fail
        go_quiet (fail)
        go_wp2_with fail
        go_roundw
        case rel => exact ⟨k + 1, _, by omega, by go_num, rfl, HF2⟩
        case measure => simp [intOf]; omega
      · rw [if_neg h0] at HRk
        have HF2 := Lib.hid HRk
        have h2a : ((y : Int) == 0) = false := by simp; omega
        have h2b : ((y : Int) != 0) = true := by simp; omega
        clear HRk hst hrk hro hy hrb hrat hhk hxk
        go_wp2_with fail
        go_quiet (fail)
        go_wp2_with fail
        go_ret
        exact ⟨by rw [← HF2.out]; rfl, by first | exact ⟨_, rfl⟩ | exact drewN2 _ _ _⟩
    · obtain rfl : k = N := by omega
      have HF2 : Hid (none = r) := by have := HF.out; rw [Nat.sub_self] at this; exact this
      go_wp2_with fail
      go_ret
      exact ⟨by rw [← HF2.out]; rfl, q, rfl⟩
end Go.Proofs.Ytpbeaghghlfiaaa
