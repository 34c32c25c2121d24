/-
  DERIVED. GIVEN WITH THE SEED: THE CARDS: each row of YtlnaakpcnhnccaaDoorRows.lean that lists a variable, with what it lists TIED to the program's text (the seventh form; the later family's looks); each row that meets fmt, with fmt's text TOLD by the authors' own Lean function (tested against real Go, not proved from fmt's source: count such statements apart). THE CARD IS WHAT COUNTS. Prove the row's statement (the work); the ties are given (YtlnaakpcnhnccaaDoorTie.lean); close each card by the builder's one call (the guide's Derived/Test/ToyasCard.lean, 'card_holds'). Laid BY PROGRAM, IN A SANDBOX (cutbox-door.mjs). By AI agents, Wed Nov 11 2026. No macro, syntax, notation, axiom, sorry.
-/
import Derived.Test.YtlnaakpcnhnccaaDoorRows
import GoSem.ClaimSeven
namespace Go.Proofs.YtlnaakpcnhnccaaDoor
namespace Rows

/-- THE TIED CARD OF 'kinkeeplaw45.BlameMeetings'. -/
def blameMeetingsCard : Claim7 := { stood := { row := blameMeetingsRow, standIns := [], harness := (true, "80df7c8396b35fcd5779b7df8a1caf012a21402fc962fcbee88c54c710b4f5ec"), looks := false }, kinds := [], alts := [], laidByText := true, laidKinds := [.data, .data], laidTests := true, laidLooks := .later }
def BlameMeetingsCardSaid : Prop := Claim7.holds Tryd.pinned (.plain (OpenSpec.ofChange blameMeetingsSpec)) blameMeetingsCard

/-- THE TIED CARD OF 'kinkeeplaw45.BlameReassigns'. -/
def blameReassignsCard : Claim7 := { stood := { row := blameReassignsRow, standIns := [], harness := (true, "80df7c8396b35fcd5779b7df8a1caf012a21402fc962fcbee88c54c710b4f5ec"), looks := false }, kinds := [], alts := [], laidByText := true, laidKinds := [.data, .data], laidTests := true, laidLooks := .later }
def BlameReassignsCardSaid : Prop := Claim7.holds Tryd.pinned (.plain (OpenSpec.ofChange blameReassignsSpec)) blameReassignsCard

/-- THE SECOND FORM's CARD OF 'kinkeeplaw45.BlameMeetings'. -/
def blameMeetingsUptoCard : Claim7 := { stood := { row := blameMeetingsUptoRow, standIns := [], harness := (true, "80df7c8396b35fcd5779b7df8a1caf012a21402fc962fcbee88c54c710b4f5ec"), looks := false }, kinds := [], alts := [], laidByText := true, laidKinds := [.data, .data], laidTests := true, laidLooks := .later }
def BlameMeetingsUptoCardSaid : Prop := Claim7.holds Tryd.pinned (.plain (OpenSpec.upto blameMeetingsSpec)) blameMeetingsUptoCard

/-- THE SECOND FORM's CARD OF 'kinkeeplaw45.BlameReassigns'. -/
def blameReassignsUptoCard : Claim7 := { stood := { row := blameReassignsUptoRow, standIns := [], harness := (true, "80df7c8396b35fcd5779b7df8a1caf012a21402fc962fcbee88c54c710b4f5ec"), looks := false }, kinds := [], alts := [], laidByText := true, laidKinds := [.data, .data], laidTests := true, laidLooks := .later }
def BlameReassignsUptoCardSaid : Prop := Claim7.holds Tryd.pinned (.plain (OpenSpec.upto blameReassignsSpec)) blameReassignsUptoCard
end Rows
end Go.Proofs.YtlnaakpcnhnccaaDoor
