/- Vaults. -/
import Derived.Test.YtkeicjokekmkpaaHs
namespace Go.Proofs.Ytkeicjokekmkpaa
open Go.RowKit Mb
set_option linter.unusedVariables false
set_option linter.unusedSimpArgs false

theorem vaults_any (g : Nat) (A : Option Addr) (n c : Nat) (ps : List VP) (w : World) (hg : w.cell? ⟨g, 1, none⟩ = some (.slice A n c)) (hx : VIn w w.heap.size A n ps) (hn : n ≤ 1000) (hws : ∀ p ∈ ps, p.2.n ≤ 1000000) :
    Calls Try.prog 10 #[fG g] w (CopVs (ps.map Prod.fst) w) := by
  have HC := Lib.hid (copyVs_any A n c ps w hx hn hws)
  clear hx hws
  go_enter Try.func10, Try.ntmps10
  go_wp2_with fail
  refine HC.out.mono ?_
  rintro e w1 ⟨v, ps1, rfl, hr, hp, hb⟩
  have HR := Lib.hid hr
  have HP := Lib.hid hp
  have HB := Lib.hid hb
  clear hr hp hb
  go_wp2
  go_ret
  exact ⟨v, ps1, rfl, HR.out, HP.out, HB.out⟩
/-- The rows that a circle holds read as vaults that came in. -/
theorem VRow.vin {w : World} {base : Nat} {v : Value} {ps : List VP} (h : VRow w base v ps) : ∃ A c, v = .slice A ps.length c ∧ ps.length ≤ c ∧ VIn w w.heap.size A ps.length ps := by
  obtain ⟨A, c, rfl, hc, hs, _⟩ := h.row.shape fP_len
  refine ⟨A, c, rfl, hc, hs, fun p hp => ?_⟩
  obtain ⟨A', c', e, _, hs', _⟩ := (h.ws p hp).shape
  have e1 : p.2.a = A' ∧ p.2.n = p.1.ws.length ∧ p.2.c = c' := by simpa [fS] using e
  rw [e1.1, e1.2.1]
  exact ⟨rfl, hs'⟩
end Go.Proofs.Ytkeicjokekmkpaa
