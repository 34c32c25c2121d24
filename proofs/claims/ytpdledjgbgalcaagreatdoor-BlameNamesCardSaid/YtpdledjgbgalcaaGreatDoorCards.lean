/-
  DERIVED. GIVEN WITH THE SEED: THE CARDS: each row of YtpdledjgbgalcaaGreatDoorRows.lean that lists a variable, with what it lists TIED to the program's text (the seventh form; the later family's looks); each row that meets fmt, with fmt's text TOLD by the authors' own Lean function (tested against real Go, not proved from fmt's source: count such statements apart). THE CARD IS WHAT COUNTS. Prove the row's statement (the work); the ties are given (YtpdledjgbgalcaaGreatDoorTie.lean); close each card by the builder's one call (the guide's Derived/Test/ToyasCard.lean, 'card_holds'). Laid BY PROGRAM, IN A SANDBOX (cutbox-door.mjs). By AI agents, Wed Nov 11 2026. No macro, syntax, notation, axiom, sorry.
-/
import Derived.Test.YtpdledjgbgalcaaGreatDoorRows
import GoSem.ClaimSeven
namespace Go.Proofs.YtpdledjgbgalcaaGreatDoor
namespace Rows

/-- THE TIED CARD OF 'kinkeeplaw45.BlameCounts'. -/
def blameCountsCard : Claim7 := { stood := { row := blameCountsRow, standIns := [], harness := (true, "7e57fa1df068c5d389eb20bc42a3df8c84f9f7e0f2acddd367ad054c82902a08"), looks := false }, kinds := [], alts := [], laidByText := true, laidKinds := [.data, .data], laidTests := true, laidLooks := .later }
def BlameCountsCardSaid : Prop := Claim7.holds Tryz.pinned (.plain (OpenSpec.ofChange blameCountsSpec)) blameCountsCard

/-- THE TIED CARD OF 'kinkeeplaw45.BlameShrinks'. -/
def blameShrinksCard : Claim7 := { stood := { row := blameShrinksRow, standIns := [], harness := (true, "7e57fa1df068c5d389eb20bc42a3df8c84f9f7e0f2acddd367ad054c82902a08"), looks := false }, kinds := [], alts := [], laidByText := true, laidKinds := [.data, .data], laidTests := true, laidLooks := .later }
def BlameShrinksCardSaid : Prop := Claim7.holds Tryz.pinned (.plain (OpenSpec.ofChange blameShrinksSpec)) blameShrinksCard

/-- THE TIED CARD OF 'kinkeeplaw45.BlameOpen'. -/
def blameOpenCard : Claim7 := { stood := { row := blameOpenRow, standIns := [], harness := (true, "7e57fa1df068c5d389eb20bc42a3df8c84f9f7e0f2acddd367ad054c82902a08"), looks := false }, kinds := [], alts := [], laidByText := true, laidKinds := [.data, .data], laidTests := true, laidLooks := .later }
def BlameOpenCardSaid : Prop := Claim7.holds Tryz.pinned (.plain (OpenSpec.ofChange blameOpenSpec)) blameOpenCard

/-- THE TIED CARD OF 'kinkeeplaw45.BlameNames'. -/
def blameNamesCard : Claim7 := { stood := { row := blameNamesRow, standIns := [], harness := (true, "7e57fa1df068c5d389eb20bc42a3df8c84f9f7e0f2acddd367ad054c82902a08"), looks := false }, kinds := [], alts := [], laidByText := true, laidKinds := [.data, .data], laidTests := true, laidLooks := .later }
def BlameNamesCardSaid : Prop := Claim7.holds Tryz.pinned (.plain (OpenSpec.ofChange blameNamesSpec)) blameNamesCard

/-- THE TIED CARD OF 'kinkeeplaw45.BlameForgets'. -/
def blameForgetsCard : Claim7 := { stood := { row := blameForgetsRow, standIns := [], harness := (true, "7e57fa1df068c5d389eb20bc42a3df8c84f9f7e0f2acddd367ad054c82902a08"), looks := false }, kinds := [], alts := [], laidByText := true, laidKinds := [.data, .data], laidTests := true, laidLooks := .later }
def BlameForgetsCardSaid : Prop := Claim7.holds Tryz.pinned (.plain (OpenSpec.ofChange blameForgetsSpec)) blameForgetsCard

/-- THE TIED CARD OF 'kinkeeplaw45.BlameHonest'. -/
def blameHonestCard : Claim7 := { stood := { row := blameHonestRow, standIns := [], harness := (true, "7e57fa1df068c5d389eb20bc42a3df8c84f9f7e0f2acddd367ad054c82902a08"), looks := false }, kinds := [], alts := [], laidByText := true, laidKinds := [.data, .data], laidTests := true, laidLooks := .later }
def BlameHonestCardSaid : Prop := Claim7.holds Tryz.pinned (.plain (OpenSpec.ofChange blameHonestSpec)) blameHonestCard

/-- THE SECOND FORM's CARD OF 'kinkeeplaw45.BlameCounts'. -/
def blameCountsUptoCard : Claim7 := { stood := { row := blameCountsUptoRow, standIns := [], harness := (true, "7e57fa1df068c5d389eb20bc42a3df8c84f9f7e0f2acddd367ad054c82902a08"), looks := false }, kinds := [], alts := [], laidByText := true, laidKinds := [.data, .data], laidTests := true, laidLooks := .later }
def BlameCountsUptoCardSaid : Prop := Claim7.holds Tryz.pinned (.plain (OpenSpec.upto blameCountsSpec)) blameCountsUptoCard

/-- THE SECOND FORM's CARD OF 'kinkeeplaw45.BlameShrinks'. -/
def blameShrinksUptoCard : Claim7 := { stood := { row := blameShrinksUptoRow, standIns := [], harness := (true, "7e57fa1df068c5d389eb20bc42a3df8c84f9f7e0f2acddd367ad054c82902a08"), looks := false }, kinds := [], alts := [], laidByText := true, laidKinds := [.data, .data], laidTests := true, laidLooks := .later }
def BlameShrinksUptoCardSaid : Prop := Claim7.holds Tryz.pinned (.plain (OpenSpec.upto blameShrinksSpec)) blameShrinksUptoCard

/-- THE SECOND FORM's CARD OF 'kinkeeplaw45.BlameOpen'. -/
def blameOpenUptoCard : Claim7 := { stood := { row := blameOpenUptoRow, standIns := [], harness := (true, "7e57fa1df068c5d389eb20bc42a3df8c84f9f7e0f2acddd367ad054c82902a08"), looks := false }, kinds := [], alts := [], laidByText := true, laidKinds := [.data, .data], laidTests := true, laidLooks := .later }
def BlameOpenUptoCardSaid : Prop := Claim7.holds Tryz.pinned (.plain (OpenSpec.upto blameOpenSpec)) blameOpenUptoCard

/-- THE SECOND FORM's CARD OF 'kinkeeplaw45.BlameNames'. -/
def blameNamesUptoCard : Claim7 := { stood := { row := blameNamesUptoRow, standIns := [], harness := (true, "7e57fa1df068c5d389eb20bc42a3df8c84f9f7e0f2acddd367ad054c82902a08"), looks := false }, kinds := [], alts := [], laidByText := true, laidKinds := [.data, .data], laidTests := true, laidLooks := .later }
def BlameNamesUptoCardSaid : Prop := Claim7.holds Tryz.pinned (.plain (OpenSpec.upto blameNamesSpec)) blameNamesUptoCard

/-- THE SECOND FORM's CARD OF 'kinkeeplaw45.BlameForgets'. -/
def blameForgetsUptoCard : Claim7 := { stood := { row := blameForgetsUptoRow, standIns := [], harness := (true, "7e57fa1df068c5d389eb20bc42a3df8c84f9f7e0f2acddd367ad054c82902a08"), looks := false }, kinds := [], alts := [], laidByText := true, laidKinds := [.data, .data], laidTests := true, laidLooks := .later }
def BlameForgetsUptoCardSaid : Prop := Claim7.holds Tryz.pinned (.plain (OpenSpec.upto blameForgetsSpec)) blameForgetsUptoCard

/-- THE SECOND FORM's CARD OF 'kinkeeplaw45.BlameHonest'. -/
def blameHonestUptoCard : Claim7 := { stood := { row := blameHonestUptoRow, standIns := [], harness := (true, "7e57fa1df068c5d389eb20bc42a3df8c84f9f7e0f2acddd367ad054c82902a08"), looks := false }, kinds := [], alts := [], laidByText := true, laidKinds := [.data, .data], laidTests := true, laidLooks := .later }
def BlameHonestUptoCardSaid : Prop := Claim7.holds Tryz.pinned (.plain (OpenSpec.upto blameHonestSpec)) blameHonestUptoCard
end Rows
end Go.Proofs.YtpdledjgbgalcaaGreatDoor
