/- Member, Vault, Writers, Holders. -/
import Derived.Test.YtkeicjokekmkpaaCo
import Derived.Test.YtkeicjokekmkpaaPl2
import Derived.Test.YtkeicjokekmkpaaNw
namespace Go.Proofs.Ytkeicjokekmkpaa
open Go.RowKit Mb
set_option linter.unusedVariables false
set_option linter.unusedSimpArgs false

theorem ret_cell_tmpS {P : Program} {w : World} {fn : Func} {p u : Tmp} {ty : TypeId} (hr : fn.results = #[.cell p ty, .tmp u]) {tmps : Array Value} {g : Nat} {t : TypeId} {cs : Array Value} {fr : Nat × Nat} {d : TypeDesc}
    (hp : tmps.getD p undef = .pointer (some ⟨g, 0, none⟩)) (hg : w.heap[g]? = some (.cells cs t fr)) (hu : P.underlying ty = some d) (hd : (match d with | .struct _ | .array _ _ => true | _ => false) = true) (hi : (P.info? ty).map (·.size) = some cs.size) :
    (results fn tmps).run P w = .ok (.tuple #[.agg cs, tmps.getD u undef]) w := by
  rw [results_cell_tmp hr, hp]
  simp [asAddr, Result.andThen, run_loadVar_row w g t ty cs fr d hg hu hd hi]
def zM : Mem := ⟨0, ⟨#[]⟩, ⟨#[]⟩, 0, false⟩
def zV : Vlt := ⟨0, [], 0, 0, 0, ⟨#[]⟩, 0, 0, 0, 0, 0, 0, 0, 0, 0⟩
def MemP (m : Mem) (r : Int) (w : World) (e : Ending) (w' : World) : Prop := e = .returned (.tuple #[aM m, .int .i64 r]) ∧ Below w.heap.size w w'
end Go.Proofs.Ytkeicjokekmkpaa
