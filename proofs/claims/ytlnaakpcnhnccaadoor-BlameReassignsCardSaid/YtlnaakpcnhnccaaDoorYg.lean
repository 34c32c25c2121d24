/- Decode: what it computes. -/
import Derived.Test.YtlnaakpcnhnccaaDoorWiF
import Derived.Test.YtlnaakpcnhnccaaDoorWiP
import Derived.Test.YtlnaakpcnhnccaaDoorYr
namespace Go.Proofs.YtlnaakpcnhnccaaDoor
open Go.RowKit
set_option linter.unusedVariables false
set_option linter.unusedSimpArgs false

/-- The reader's state behind k numbers: the numbers, the place, the error. -/
def decT (bs : List Int) (p0 : Nat) (e0 : Int) : Nat → List Int × Nat × Int
  | 0 => ([], p0, e0)
  | k + 1 =>
    let s := decT bs p0 e0 k
    if s.2.2 = 0 then
      (if (numF bs 10 0 0 s.2.1).2.1 = 0 then (s.1 ++ [IntKind.i64.wrap (numF bs 10 0 0 s.2.1).1], (numF bs 10 0 0 s.2.1).2.2, 0)
       else (s.1 ++ [0], s.2.1, (numF bs 10 0 0 s.2.1).2.1))
    else (s.1 ++ [0], s.2.1, s.2.2)
theorem decT_len (bs : List Int) (p0 : Nat) (e0 : Int) (k : Nat) : (decT bs p0 e0 k).1.length = k := by
  induction k with
  | zero => rfl
  | succ k ih =>
    rw [decT]
    split
    · split
      · simp [ih]
      · simp [ih]
    · simp [ih]
/-- How many numbers are read. -/
def decN (bs : List Int) : Int × Int × Nat := limF 12 (numF bs 10 0 0 0)
/-- The state at the end. -/
def decE (bs : List Int) : List Int × Nat × Int := decT bs (if (decN bs).2.1 = 0 then (decN bs).2.2 else 0) (decN bs).2.1 (if (decN bs).2.1 = 0 then (decN bs).1.toNat else 0)
/-- What Decode hands back: the vector, or nothing. -/
def decV (bs : List Int) : Option (List Int) :=
  if (decE bs).2.2 = 0 ∧ ¬ (decE bs).2.1 < bs.length ∧ validB (decE bs).1 = true ∧ nrm (decE bs).1 = (decE bs).1 then some (decE bs).1 else none
end Go.Proofs.YtlnaakpcnhnccaaDoor
