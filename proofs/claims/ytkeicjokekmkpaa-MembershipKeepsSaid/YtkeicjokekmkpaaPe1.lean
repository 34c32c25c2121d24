/- The encoding of a circle: what it is, how long it is. -/
import Derived.Test.YtkeicjokekmkpaaCir
import Derived.Test.YtkeicjokekmkpaaPe0
namespace Go.Proofs.Ytkeicjokekmkpaa
open Go.RowKit Mb
set_option linter.unusedVariables false
set_option linter.unusedSimpArgs false

def encX : Chg → List Int
  | .adm m => encL [1] ++ encM m
  | .bal a b => encL [2, a, b]
  | .rep v a b => encL [3, v, a, b]
def encC (S : Cst) : List Int := enc S.fm.length ++ (S.fm.flatMap encM ++ (enc S.fv.length ++ (S.fv.flatMap encVt ++ (encL [S.s.q] ++ (enc S.chs.length ++ S.chs.flatMap encX)))))
def xOk : Chg → Prop
  | .adm m => mOk m
  | .bal a b => nOk a ∧ nOk b
  | .rep v a b => nOk v ∧ nOk a ∧ nOk b
/-- What may be encoded. -/
structure EInv (S : Cst) : Prop where
  fm : S.fm.length ≤ 12
  ms : ∀ m ∈ S.fm, mOk m
  fv : S.fv.length ≤ 12
  vs : ∀ v ∈ S.fv, vOk v
  q : nOk S.s.q
  ch : ∀ x ∈ S.chs, xOk x
theorem encX_len {x : Chg} (h : xOk x) : (encX x).length ≤ 78 := by
  cases x with
  | adm m =>
    have h1 := encL_len [1]
    have h2 := encM_len h
    simp only [encX, List.length_append, List.length_cons, List.length_nil] at *
    omega
  | bal a b => have h1 := encL_len [2, a, b]; simp only [encX, List.length_cons, List.length_nil] at *; omega
  | rep v a b => have h1 := encL_len [3, v, a, b]; simp only [encX, List.length_cons, List.length_nil] at *; omega
theorem encC_len {S : Cst} (h : EInv S) (hc : S.chs.length ≤ 5000) : (encC S).length ≤ 400000 := by
  have h1 := flat_le encM 68 S.fm fun m hm => encM_len (h.ms m hm)
  have h2 := flat_le encVt 200 S.fv fun v hv => encVt_len (h.vs v hv)
  have h3 := flat_le encX 78 S.chs fun x hx => encX_len (h.ch x hx)
  have h4 := enc_len S.fm.length
  have h5 := enc_len S.fv.length
  have h6 := enc_len S.chs.length
  have h7 := encL_len [S.s.q]
  have := h.fm
  have := h.fv
  unfold encC
  simp only [List.length_append, List.length_cons, List.length_nil] at *
  omega
end Go.Proofs.Ytkeicjokekmkpaa
