/-
  No cell of these rows narrows 'for every input' (looked for: loops, veiled, ifaces, maps, wideKeys, modest, calm, conditions, laid).
  DERIVED. THE GIVEN ROWS OF THIS SEAT. 3 by the template 'for every input the law returns true; each argument reads behind the call as it read before'; 0 by the template 'total and deterministic' (their statements: YtkeicjokekmkpaaTotals.lean).
  GIVEN WITH THE SEED: the statements are not yours to turn. If you find one false, say at which input.
  Laid BY PROGRAM, IN A SANDBOX (cutbox-rows.mjs): the forced cells as the released guide's own fill.sh prints them over the translation 4a7af46cff48c5ef… (all of the seat's roots in one cut). By AI agents, Wed Nov 11 2026. No macro, syntax, notation, axiom, sorry.
-/
import Derived.Test.YtkeicjokekmkpaaChecked
import GoSem.Claim
import GoSem.ClaimJoined
import GoSem.ClaimMapViews
import Derived.JoinedTies
import Derived.KernelRfl
namespace Go.Proofs.Ytkeicjokekmkpaa
/- THE CELL 'sum', in the pinned program and in every row, IS THE sha256 OF THE DUMP (.gsa) THAT YtkeicjokekmkpaaProg.lean LOADS. Nothing in Lean hashes anything: it is a label: what it is worth is what the hold of that sum in a sandbox is worth. -/
noncomputable def Try.pinned : Pinned := { name := "ytkeicjokekmkpaa", sum := "4a7af46cff48c5ef3d9af5db6e33668419d4f8b0bfb166022fdcfc2e2997ac03", checked := Try.checked }
namespace Rows
def none {H : Type} : Left H := { results := [], args := [] }

/-- 'kinkeeplaw29.MembershipCopies': WHATEVER THE INPUT: true; the input reads as it did. -/
def membershipCopiesSpec : ChangeSpec := { name := "membershipCopies", fn := fun _ => fun
  | [d] => { results := [.lit (.bool true)], args := [d] }
  | _ => none }
def membershipCopiesRow : OpenClaim := { program := "ytkeicjokekmkpaa", sum := "4a7af46cff48c5ef3d9af5db6e33668419d4f8b0bfb166022fdcfc2e2997ac03", func := "kinkeep/kinkeeplaw29.MembershipCopies", spec := "membershipCopies", unfollowed := true, recurses := true, plainKeys := false, apart := false }
def MembershipCopiesSaid : Prop := membershipCopiesRow.holds Try.pinned (OpenSpec.ofChange membershipCopiesSpec)

/-- ITS FALSE NEIGHBOUR: 'it returns false'. Refute it at one input. -/
def membershipCopiesWrong : ChangeSpec := { name := "membershipCopies", fn := fun _ => fun
  | [d] => { results := [.lit (.bool false)], args := [d] }
  | _ => none }
def MembershipCopiesWrongFalsely : Prop := membershipCopiesRow.holds Try.pinned (OpenSpec.ofChange membershipCopiesWrong)

/-- 'kinkeeplaw29.MembershipKeeps': WHATEVER THE INPUT: true; the input reads as it did. -/
def membershipKeepsSpec : ChangeSpec := { name := "membershipKeeps", fn := fun _ => fun
  | [d] => { results := [.lit (.bool true)], args := [d] }
  | _ => none }
def membershipKeepsRow : OpenClaim := { program := "ytkeicjokekmkpaa", sum := "4a7af46cff48c5ef3d9af5db6e33668419d4f8b0bfb166022fdcfc2e2997ac03", func := "kinkeep/kinkeeplaw29.MembershipKeeps", spec := "membershipKeeps", unfollowed := true, recurses := true, plainKeys := false, apart := false }
def MembershipKeepsSaid : Prop := membershipKeepsRow.holds Try.pinned (OpenSpec.ofChange membershipKeepsSpec)

/-- ITS FALSE NEIGHBOUR: 'it returns false'. Refute it at one input. -/
def membershipKeepsWrong : ChangeSpec := { name := "membershipKeeps", fn := fun _ => fun
  | [d] => { results := [.lit (.bool false)], args := [d] }
  | _ => none }
def MembershipKeepsWrongFalsely : Prop := membershipKeepsRow.holds Try.pinned (OpenSpec.ofChange membershipKeepsWrong)

/-- 'kinkeeplaw29.MembershipDecodes': WHATEVER THE INPUT: true; the input reads as it did. -/
def membershipDecodesSpec : ChangeSpec := { name := "membershipDecodes", fn := fun _ => fun
  | [d1, d2] => { results := [.lit (.bool true)], args := [d1, d2] }
  | _ => none }
def membershipDecodesRow : OpenClaim := { program := "ytkeicjokekmkpaa", sum := "4a7af46cff48c5ef3d9af5db6e33668419d4f8b0bfb166022fdcfc2e2997ac03", func := "kinkeep/kinkeeplaw29.MembershipDecodes", spec := "membershipDecodes", unfollowed := true, recurses := true, plainKeys := false, apart := false }
def MembershipDecodesSaid : Prop := membershipDecodesRow.holds Try.pinned (OpenSpec.ofChange membershipDecodesSpec)

/-- ITS FALSE NEIGHBOUR: 'it returns false'. Refute it at one input. -/
def membershipDecodesWrong : ChangeSpec := { name := "membershipDecodes", fn := fun _ => fun
  | [d1, d2] => { results := [.lit (.bool false)], args := [d1, d2] }
  | _ => none }
def MembershipDecodesWrongFalsely : Prop := membershipDecodesRow.holds Try.pinned (OpenSpec.ofChange membershipDecodesWrong)

/- THE SECOND FORM. 'bulk': how many values and letters a reading holds, each counted each time it is reached (what is shared counts as often as it is met; a slice's spare places count too). A statement '..UptoSaid' is the law's where the arguments, and the package variables that the reading takes, are together of bulk at most 1048576: NARROWER than '..Said'. Prove '..Said' where nothing that the law and all that it calls make is longer than what came in: it says more and counts as full. Else prove '..UptoSaid'. A law counts once. -/
mutual
def uptoBulk {H : Type} : DataW H → Nat
  | .lit (.string bytes) => bytes.length + 1
  | .lit _ => 1
  | .nil => 1
  | .ptr d => uptoBulk d + 1
  | .slice elems spare => uptoBulkAll elems + uptoBulkAll spare + 1
  | .agg parts => uptoBulkAll parts + 1
  | .iface _ d => uptoBulk d + 1
  | .map entries => uptoBulkEntries entries + 1
  | .held _ => 1
def uptoBulkAll {H : Type} : List (DataW H) → Nat
  | [] => 0
  | d :: r => uptoBulk d + uptoBulkAll r
def uptoBulkEntries {H : Type} : List (Lit × DataW H) → Nat
  | [] => 0
  | x :: r => uptoBulkEntry x + uptoBulkEntries r
def uptoBulkEntry {H : Type} : Lit × DataW H → Nat
  | (.string bytes, d) => bytes.length + uptoBulk d + 1
  | (_, d) => uptoBulk d + 1
 end
def uptoSmall : (H : Type) → List (DataW H) → Bool := fun _ ds => decide (uptoBulkAll ds ≤ 1048576)
def OpenSpec.upto (s : _root_.Go.ChangeSpec) : _root_.Go.OpenSpec := { _root_.Go.OpenSpec.ofChange s with cond := some uptoSmall }

/-- 'kinkeeplaw29.MembershipCopies', WHERE WHAT IT READS IS OF BULK AT MOST 1048576: true; the input reads as it did. -/
def membershipCopiesUptoRow : OpenClaim := { program := "ytkeicjokekmkpaa", sum := "4a7af46cff48c5ef3d9af5db6e33668419d4f8b0bfb166022fdcfc2e2997ac03", func := "kinkeep/kinkeeplaw29.MembershipCopies", spec := "membershipCopies", unfollowed := true, recurses := true, plainKeys := false, apart := false, narrowed := true }
def MembershipCopiesUptoSaid : Prop := membershipCopiesUptoRow.holds Try.pinned (OpenSpec.upto membershipCopiesSpec)

/-- 'kinkeeplaw29.MembershipKeeps', WHERE WHAT IT READS IS OF BULK AT MOST 1048576: true; the input reads as it did. -/
def membershipKeepsUptoRow : OpenClaim := { program := "ytkeicjokekmkpaa", sum := "4a7af46cff48c5ef3d9af5db6e33668419d4f8b0bfb166022fdcfc2e2997ac03", func := "kinkeep/kinkeeplaw29.MembershipKeeps", spec := "membershipKeeps", unfollowed := true, recurses := true, plainKeys := false, apart := false, narrowed := true }
def MembershipKeepsUptoSaid : Prop := membershipKeepsUptoRow.holds Try.pinned (OpenSpec.upto membershipKeepsSpec)

/-- 'kinkeeplaw29.MembershipDecodes', WHERE WHAT IT READS IS OF BULK AT MOST 1048576: true; the input reads as it did. -/
def membershipDecodesUptoRow : OpenClaim := { program := "ytkeicjokekmkpaa", sum := "4a7af46cff48c5ef3d9af5db6e33668419d4f8b0bfb166022fdcfc2e2997ac03", func := "kinkeep/kinkeeplaw29.MembershipDecodes", spec := "membershipDecodes", unfollowed := true, recurses := true, plainKeys := false, apart := false, narrowed := true }
def MembershipDecodesUptoSaid : Prop := membershipDecodesUptoRow.holds Try.pinned (OpenSpec.upto membershipDecodesSpec)

end Rows
end Go.Proofs.Ytkeicjokekmkpaa
