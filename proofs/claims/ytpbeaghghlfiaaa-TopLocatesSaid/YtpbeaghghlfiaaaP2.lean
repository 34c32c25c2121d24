/- Elimination, and the code's tables, as the program computes them, plainly; what their inverses give is checked for all codes with at most 8 pieces. -/
import Derived.Test.YtpbeaghghlfiaaaP1
namespace Go.Proofs.Ytpbeaghghlfiaaa
set_option linter.unusedVariables false
set_option linter.unusedSimpArgs false
/-- A matrix. -/
abbrev Mt := List (List Nat)
/-- The first row from i on, of k, that is not 0 in a column. -/
def findP (rows : Mt) (col : Nat) : Nat → Nat → Option Nat
  | 0, _ => none
  | k + 1, i => if (rows.getD i []).getD col 0 = 0 then findP rows col k (i + 1) else some i
def swapP (rows : Mt) (i j : Nat) : Mt := (rows.set i (rows.getD j [])).set j (rows.getD i [])
/-- The rows after row i is done: all rows from i on, of k. -/
def clrP (t : List Nat) (top col : Nat) : Nat → Mt → Mt
  | _, [] => []
  | i, row :: rs => (if i = top ∨ row.getD col 0 = 0 then row else addv (sclv (row.getD col 0) t) row) :: clrP t top col (i + 1) rs
def pivP (rows : Mt) (top col : Nat) : List Nat := sclv (invN ((rows.getD top []).getD col 0)) (rows.getD top [])
def clearP (rows : Mt) (top col : Nat) : Mt := clrP (pivP rows top col) top col 0 (rows.set top (pivP rows top col))
/-- k columns from col on are reduced; piv: the pivots. -/
def redP : Nat → Nat → Mt → List Nat → Mt × List Nat
  | 0, _, rows, piv => (rows, piv)
  | k + 1, col, rows, piv =>
    match findP rows col (rows.length - piv.length) piv.length with
    | none => redP k (col + 1) rows piv
    | some f => redP k (col + 1) (clearP (swapP rows piv.length f) piv.length col) (piv ++ [col])
def idP (n : Nat) : Mt := (List.range n).map (unitv n)
def joinP (m r : Mt) : Mt := List.zipWith (· ++ ·) m r
/-- What the elimination of a square matrix beside the identity leaves. -/
def elimP (m : Mt) : Mt × List Nat := redP m.length 0 (joinP m (idP m.length)) []
def invP (m : Mt) : Mt := (elimP m).1.map (List.drop m.length)
/-- The coefficients of a piece. -/
def rowP (d i : Nat) : List Nat := if i < d then unitv d i else (List.range d).map (fun c => invN (i ^^^ c))
def ofP (d : Nat) (l : List Nat) : Mt := l.map (rowP d)
def mulP (n : Nat) (a b : Mt) : Mt := a.map (fun r => comb n r b)
def bysB (m : Mt) (n : Nat) : Bool := m.all (fun r => r.length == n && r.all (fun x => decide (x < 256)))
/-- The inverse of the coefficients of pieces is one from both sides. -/
def chkP (l : List Nat) : Bool :=
  let d := l.length
  let m := ofP d l
  let e := elimP m
  let r := e.1.map (List.drop d)
  e.2.length == d && e.1.length == d && r.length == d && bysB r d && bysB m d && mulP d r m == idP d && mulP d m r == idP d
def setP (s : Nat) : List Nat := (List.range 8).filter (fun i => s.testBit i)
theorem chk_all : ∀ s < 256, s = 0 ∨ chkP (setP s) = true := by decide +kernel
end Go.Proofs.Ytpbeaghghlfiaaa
