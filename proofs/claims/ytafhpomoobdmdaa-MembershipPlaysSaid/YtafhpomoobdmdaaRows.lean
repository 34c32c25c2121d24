/-
  No cell of these rows narrows 'for every input' (looked for: loops, veiled, ifaces, maps, wideKeys, modest, calm, conditions, laid).
  DERIVED. THE GIVEN ROWS OF THIS SEAT. 4 by the template 'for every input the law returns true; each argument reads behind the call as it read before'; 0 by the template 'total and deterministic' (their statements: YtafhpomoobdmdaaTotals.lean).
  GIVEN WITH THE SEED: the statements are not yours to turn. If you find one false, say at which input.
  Laid BY PROGRAM, IN A SANDBOX (cutbox-rows.mjs): the forced cells as the released guide's own fill.sh prints them over the translation 0c039170294766b3… (all of the seat's roots in one cut). By AI agents, Wed Nov 11 2026. No macro, syntax, notation, axiom, sorry.
-/
import Derived.Test.YtafhpomoobdmdaaChecked
import GoSem.Claim
import GoSem.ClaimJoined
import GoSem.ClaimMapViews
import Derived.JoinedTies
import Derived.KernelRfl
namespace Go.Proofs.Ytafhpomoobdmdaa
/- THE CELL 'sum', in the pinned program and in every row, IS THE sha256 OF THE DUMP (.gsa) THAT YtafhpomoobdmdaaProg.lean LOADS. Nothing in Lean hashes anything: it is a label: what it is worth is what the hold of that sum in a sandbox is worth. -/
noncomputable def Try.pinned : Pinned := { name := "ytafhpomoobdmdaa", sum := "0c039170294766b347e0564bec8a28ed0d77c8067662bcdd226925881427ab40", checked := Try.checked }
namespace Rows
def none {H : Type} : Left H := { results := [], args := [] }

/-- 'kinkeeplaw29.MembershipExpels': WHATEVER THE INPUT: true; the input reads as it did. -/
def membershipExpelsSpec : ChangeSpec := { name := "membershipExpels", fn := fun _ => fun
  | [d] => { results := [.lit (.bool true)], args := [d] }
  | _ => none }
def membershipExpelsRow : OpenClaim := { program := "ytafhpomoobdmdaa", sum := "0c039170294766b347e0564bec8a28ed0d77c8067662bcdd226925881427ab40", func := "kinkeep/kinkeeplaw29.MembershipExpels", spec := "membershipExpels", unfollowed := true, recurses := true, plainKeys := false, apart := false }
def MembershipExpelsSaid : Prop := membershipExpelsRow.holds Try.pinned (OpenSpec.ofChange membershipExpelsSpec)

/-- ITS FALSE NEIGHBOUR: 'it returns false'. Refute it at one input. -/
def membershipExpelsWrong : ChangeSpec := { name := "membershipExpels", fn := fun _ => fun
  | [d] => { results := [.lit (.bool false)], args := [d] }
  | _ => none }
def MembershipExpelsWrongFalsely : Prop := membershipExpelsRow.holds Try.pinned (OpenSpec.ofChange membershipExpelsWrong)

/-- 'kinkeeplaw29.MembershipRoles': WHATEVER THE INPUT: true; the input reads as it did. -/
def membershipRolesSpec : ChangeSpec := { name := "membershipRoles", fn := fun _ => fun
  | [d] => { results := [.lit (.bool true)], args := [d] }
  | _ => none }
def membershipRolesRow : OpenClaim := { program := "ytafhpomoobdmdaa", sum := "0c039170294766b347e0564bec8a28ed0d77c8067662bcdd226925881427ab40", func := "kinkeep/kinkeeplaw29.MembershipRoles", spec := "membershipRoles", unfollowed := true, recurses := true, plainKeys := false, apart := false }
def MembershipRolesSaid : Prop := membershipRolesRow.holds Try.pinned (OpenSpec.ofChange membershipRolesSpec)

/-- ITS FALSE NEIGHBOUR: 'it returns false'. Refute it at one input. -/
def membershipRolesWrong : ChangeSpec := { name := "membershipRoles", fn := fun _ => fun
  | [d] => { results := [.lit (.bool false)], args := [d] }
  | _ => none }
def MembershipRolesWrongFalsely : Prop := membershipRolesRow.holds Try.pinned (OpenSpec.ofChange membershipRolesWrong)

/-- 'kinkeeplaw29.MembershipNew': WHATEVER THE INPUT: true; the input reads as it did. -/
def membershipNewSpec : ChangeSpec := { name := "membershipNew", fn := fun _ => fun
  | [d] => { results := [.lit (.bool true)], args := [d] }
  | _ => none }
def membershipNewRow : OpenClaim := { program := "ytafhpomoobdmdaa", sum := "0c039170294766b347e0564bec8a28ed0d77c8067662bcdd226925881427ab40", func := "kinkeep/kinkeeplaw29.MembershipNew", spec := "membershipNew", unfollowed := true, recurses := true, plainKeys := false, apart := false }
def MembershipNewSaid : Prop := membershipNewRow.holds Try.pinned (OpenSpec.ofChange membershipNewSpec)

/-- ITS FALSE NEIGHBOUR: 'it returns false'. Refute it at one input. -/
def membershipNewWrong : ChangeSpec := { name := "membershipNew", fn := fun _ => fun
  | [d] => { results := [.lit (.bool false)], args := [d] }
  | _ => none }
def MembershipNewWrongFalsely : Prop := membershipNewRow.holds Try.pinned (OpenSpec.ofChange membershipNewWrong)

/-- 'kinkeeplaw29.MembershipPlays': WHATEVER THE INPUT: true; the input reads as it did. -/
def membershipPlaysSpec : ChangeSpec := { name := "membershipPlays", fn := fun _ => fun
  | [d] => { results := [.lit (.bool true)], args := [d] }
  | _ => none }
def membershipPlaysRow : OpenClaim := { program := "ytafhpomoobdmdaa", sum := "0c039170294766b347e0564bec8a28ed0d77c8067662bcdd226925881427ab40", func := "kinkeep/kinkeeplaw29.MembershipPlays", spec := "membershipPlays", unfollowed := true, recurses := true, plainKeys := false, apart := false }
def MembershipPlaysSaid : Prop := membershipPlaysRow.holds Try.pinned (OpenSpec.ofChange membershipPlaysSpec)

/-- ITS FALSE NEIGHBOUR: 'it returns false'. Refute it at one input. -/
def membershipPlaysWrong : ChangeSpec := { name := "membershipPlays", fn := fun _ => fun
  | [d] => { results := [.lit (.bool false)], args := [d] }
  | _ => none }
def MembershipPlaysWrongFalsely : Prop := membershipPlaysRow.holds Try.pinned (OpenSpec.ofChange membershipPlaysWrong)

/- THE SECOND FORM. 'bulk': how many values and letters a reading holds, each counted each time it is reached (what is shared counts as often as it is met; a slice's spare places count too). A statement '..UptoSaid' is the law's where the arguments, and the package variables that the reading takes, are together of bulk at most 1048576: NARROWER than '..Said'. Prove '..Said' where nothing that the law and all that it calls make is longer than what came in: it says more and counts as full. Else prove '..UptoSaid'. A law counts once. -/
mutual
def uptoBulk {H : Type} : DataW H → Nat
  | .lit (.string bytes) => bytes.length + 1
  | .lit _ => 1
  | .nil => 1
  | .ptr d => uptoBulk d + 1
  | .slice elems spare => uptoBulkAll elems + uptoBulkAll spare + 1
  | .agg parts => uptoBulkAll parts + 1
  | .iface _ d => uptoBulk d + 1
  | .map entries => uptoBulkEntries entries + 1
  | .held _ => 1
def uptoBulkAll {H : Type} : List (DataW H) → Nat
  | [] => 0
  | d :: r => uptoBulk d + uptoBulkAll r
def uptoBulkEntries {H : Type} : List (Lit × DataW H) → Nat
  | [] => 0
  | x :: r => uptoBulkEntry x + uptoBulkEntries r
def uptoBulkEntry {H : Type} : Lit × DataW H → Nat
  | (.string bytes, d) => bytes.length + uptoBulk d + 1
  | (_, d) => uptoBulk d + 1
 end
def uptoSmall : (H : Type) → List (DataW H) → Bool := fun _ ds => decide (uptoBulkAll ds ≤ 1048576)
def OpenSpec.upto (s : _root_.Go.ChangeSpec) : _root_.Go.OpenSpec := { _root_.Go.OpenSpec.ofChange s with cond := some uptoSmall }

/-- 'kinkeeplaw29.MembershipExpels', WHERE WHAT IT READS IS OF BULK AT MOST 1048576: true; the input reads as it did. -/
def membershipExpelsUptoRow : OpenClaim := { program := "ytafhpomoobdmdaa", sum := "0c039170294766b347e0564bec8a28ed0d77c8067662bcdd226925881427ab40", func := "kinkeep/kinkeeplaw29.MembershipExpels", spec := "membershipExpels", unfollowed := true, recurses := true, plainKeys := false, apart := false, narrowed := true }
def MembershipExpelsUptoSaid : Prop := membershipExpelsUptoRow.holds Try.pinned (OpenSpec.upto membershipExpelsSpec)

/-- 'kinkeeplaw29.MembershipRoles', WHERE WHAT IT READS IS OF BULK AT MOST 1048576: true; the input reads as it did. -/
def membershipRolesUptoRow : OpenClaim := { program := "ytafhpomoobdmdaa", sum := "0c039170294766b347e0564bec8a28ed0d77c8067662bcdd226925881427ab40", func := "kinkeep/kinkeeplaw29.MembershipRoles", spec := "membershipRoles", unfollowed := true, recurses := true, plainKeys := false, apart := false, narrowed := true }
def MembershipRolesUptoSaid : Prop := membershipRolesUptoRow.holds Try.pinned (OpenSpec.upto membershipRolesSpec)

/-- 'kinkeeplaw29.MembershipNew', WHERE WHAT IT READS IS OF BULK AT MOST 1048576: true; the input reads as it did. -/
def membershipNewUptoRow : OpenClaim := { program := "ytafhpomoobdmdaa", sum := "0c039170294766b347e0564bec8a28ed0d77c8067662bcdd226925881427ab40", func := "kinkeep/kinkeeplaw29.MembershipNew", spec := "membershipNew", unfollowed := true, recurses := true, plainKeys := false, apart := false, narrowed := true }
def MembershipNewUptoSaid : Prop := membershipNewUptoRow.holds Try.pinned (OpenSpec.upto membershipNewSpec)

/-- 'kinkeeplaw29.MembershipPlays', WHERE WHAT IT READS IS OF BULK AT MOST 1048576: true; the input reads as it did. -/
def membershipPlaysUptoRow : OpenClaim := { program := "ytafhpomoobdmdaa", sum := "0c039170294766b347e0564bec8a28ed0d77c8067662bcdd226925881427ab40", func := "kinkeep/kinkeeplaw29.MembershipPlays", spec := "membershipPlays", unfollowed := true, recurses := true, plainKeys := false, apart := false, narrowed := true }
def MembershipPlaysUptoSaid : Prop := membershipPlaysUptoRow.holds Try.pinned (OpenSpec.upto membershipPlaysSpec)

end Rows
end Go.Proofs.Ytafhpomoobdmdaa
