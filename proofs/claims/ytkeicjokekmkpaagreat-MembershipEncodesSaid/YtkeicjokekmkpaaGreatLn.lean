/- The law New. -/
import Derived.Test.YtkeicjokekmkpaaGreatMk
import Derived.Test.YtkeicjokekmkpaaGreatRn
import Derived.Test.YtkeicjokekmkpaaGreatSm
namespace Go.Proofs.YtkeicjokekmkpaaGreat
open Go.RowKit Mb
set_option linter.unusedVariables false
set_option linter.unusedSimpArgs false

section
variable {W V : World} {A A' A'' : Option Addr} {n c n' c' n'' c'' : Nat} {ms : List Mem} {ps : List VP} {xs : List Chn}
theorem rnew_set (q : Int) (h : InSet V A n c A' n' c' A'' n'' c'' ms ps xs) : Calls Tryz.prog 7 #[.slice A n c, .slice A' n' c', .int .i64 q] V (RNewP ms (ps.map Prod.fst) ps q V) := by
  cases hh : headB n n' q
  · exact rnew_head A A' n n' c c' q ms ps V hh h.fms.1 h.fvs.1
  · exact rnew_go A A' n n' c c' q ms ps V hh h.cap h.fms (fun m hm => h.sz m hm) ⟨h.fvs, fun p hp => (h.vk p hp).1⟩ (fun p hp => ⟨Nat.le_trans (h.vk p hp).2.1 (h.vk p hp).2.2.1, (h.vk p hp).2.2.2⟩)
end
end Go.Proofs.YtkeicjokekmkpaaGreat
