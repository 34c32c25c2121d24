/- The law Decodes. -/
import Derived.Test.YtkeicjokekmkpaaGreatDc
import Derived.Test.YtkeicjokekmkpaaGreatEc
import Derived.Test.YtkeicjokekmkpaaGreatLk
namespace Go.Proofs.YtkeicjokekmkpaaGreat
open Go.RowKit Mb
set_option linter.unusedVariables false
set_option linter.unusedSimpArgs false

theorem conv_bytes {w : World} {B : Nat} {A : Option Addr} {n c : Nat} {xs : List Int} (h : Sl fB w B A n xs) : (convert 43 9 (.slice A n c)).run Tryz.prog w = .ok (.string (baOf xs)) w :=
  run_conv_sl (P := Tryz.prog) 43 5 9 Tryz.underlying43 Tryz.underlying5 Tryz.underlying9 w B A n c xs h
/-- What law Decodes is handed. -/
structure InDec (W : World) (A : Option Addr) (n c : Nat) (A'' : Option Addr) (n'' c'' : Nat) (bs : List Int) (xs : List Chn) : Prop where
  fb : Sl fB W W.heap.size A n bs
  rb : ∀ b ∈ bs, 0 ≤ b ∧ b < 256
  fxs : SlN fX 9 W W.heap.size A'' n'' xs
  xz : ∀ x ∈ xs, x.m.name.size ≤ maxLen ∧ x.m.pub.size ≤ maxLen
theorem InDec.on {W V : World} {A A'' : Option Addr} {n c n'' c'' : Nat} {bs : List Int} {xs : List Chn} (h : InDec W A n c A'' n'' c'' bs xs) (hb : Below W.heap.size W V) : InDec V A n c A'' n'' c'' bs xs :=
  ⟨(h.fb.up hb (Nat.le_refl _)).more' hb.size, h.rb, (h.fxs.up hb (Nat.le_refl _)).more hb.size, h.xz⟩
end Go.Proofs.YtkeicjokekmkpaaGreat
