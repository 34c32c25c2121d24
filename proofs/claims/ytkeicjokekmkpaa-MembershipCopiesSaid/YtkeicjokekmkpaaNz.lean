/- New, whole. -/
import Derived.Test.YtkeicjokekmkpaaNx
import Derived.Test.YtkeicjokekmkpaaNy
import Derived.Test.YtkeicjokekmkpaaNv
namespace Go.Proofs.Ytkeicjokekmkpaa
open Go.RowKit Mb
set_option linter.unusedVariables false
set_option linter.unusedSimpArgs false

/-- What New does. -/
def NewP (ms : List Mem) (vs : List Vlt) (q : Int) (w : World) (e : Ending) (w' : World) : Prop :=
  (newE ms vs q = 0 ∧ NewC ms vs q w e w') ∨ (newE ms vs q ≠ 0 ∧ ErrP (newE ms vs q) w e w')
theorem new_any (A A' : Option Addr) (n n' c c' : Nat) (q : Int) (ms : List Mem) (ps : List VP) (w : World) (hcap : n ≤ c) (hx : SlN fM 5 w w.heap.size A n ms) (hsz : ∀ m ∈ ms, m.name.size ≤ 9223372036854775807 ∧ m.pub.size ≤ 9223372036854775807) (hv : VIn w w.heap.size A' n' ps)
    (hvz : ∀ p ∈ ps, p.2.n ≤ 9223372036854775807 ∧ p.1.print.size ≤ 9223372036854775807) :
    Calls Try.prog 8 #[.slice A n c, .slice A' n' c', .int .i64 q] w (NewP ms (ps.map Prod.fst) q w) := by
  have hl := hx.1
  have hl' := hv.1.1
  cases hh : headB n n' q
  · have he : newE ms (ps.map Prod.fst) q = 1 := by unfold newE; rw [List.length_map, hl, hl', hh]; rfl
    exact (new_head A A' n n' c c' q ms ps w hh).mono fun e w' h => .inr ⟨by rw [he]; decide, by rw [he]; exact h⟩
  · cases hm : memsB ms
    · have he : newE ms (ps.map Prod.fst) q = 1 := by unfold newE; rw [List.length_map, hl, hl', hh, hm]; rfl
      exact (new_mem A A' n n' c c' q ms ps w hh hcap hx hsz hm).mono fun e w' h => .inr ⟨by rw [he]; decide, by rw [he]; exact h⟩
    · cases hvm : vltsB (ps.map Prod.fst) n
      · have he : newE ms (ps.map Prod.fst) q = 1 := by unfold newE; rw [List.length_map, hl, hl', hh, hm, hvm]; rfl
        exact (new_vlt A A' n n' c c' q ms ps w hh hcap hx hsz hv hvz hm hvm).mono fun e w' h => .inr ⟨by rw [he]; decide, by rw [he]; exact h⟩
      · cases hps : (ps.map Prod.fst).all (possB n)
        · have he : newE ms (ps.map Prod.fst) q = 14 := by unfold newE; rw [List.length_map, hl, hl', hh, hm, hvm, hps]; rfl
          exact (new_pos A A' n n' c c' q ms ps w hh hcap hx hsz hv hvz hm hvm hps).mono fun e w' h => .inr ⟨by rw [he]; decide, by rw [he]; exact h⟩
        · have he : newE ms (ps.map Prod.fst) q = 0 := by unfold newE; rw [List.length_map, hl, hl', hh, hm, hvm, hps]; rfl
          exact (new_yes A A' n n' c c' q ms ps w hh hcap hx hsz hv hvz hm hvm hps).mono fun e w' h => .inl ⟨he, h⟩
end Go.Proofs.Ytkeicjokekmkpaa
