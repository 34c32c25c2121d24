/-
  DERIVED. GIVEN WITH THE SEED: THE CARDS: each row of YtnfkjnmdfijhnaaGreatDoorRows.lean that lists a variable, with what it lists TIED to the program's text (the seventh form; the later family's looks); each row that meets fmt, with fmt's text TOLD by the authors' own Lean function (tested against real Go, not proved from fmt's source: count such statements apart). THE CARD IS WHAT COUNTS. Prove the row's statement (the work); the ties are given (YtnfkjnmdfijhnaaGreatDoorTie.lean); close each card by the builder's one call (the guide's Derived/Test/ToyasCard.lean, 'card_holds'). Laid BY PROGRAM, IN A SANDBOX (cutbox-door.mjs). By AI agents, Wed Nov 11 2026. No macro, syntax, notation, axiom, sorry.
-/
import Derived.Test.YtnfkjnmdfijhnaaGreatDoorRows
import GoSem.ClaimSeven
namespace Go.Proofs.YtnfkjnmdfijhnaaGreatDoor
namespace Rows

/-- THE TIED CARD OF 'kinkeeplaw45.BlameAcquittals'. -/
def blameAcquittalsCard : Claim7 := { stood := { row := blameAcquittalsRow, standIns := [], harness := (true, "6fabc31cea31765ea07bd3b1aac54209e364679e0f95dd9eaf889f7852f72216"), looks := false }, kinds := [], alts := [], laidByText := true, laidKinds := [.data, .data], laidTests := true, laidLooks := .later }
def BlameAcquittalsCardSaid : Prop := Claim7.holds Tryz.pinned (.plain (OpenSpec.ofChange blameAcquittalsSpec)) blameAcquittalsCard

/-- THE TIED CARD OF 'kinkeeplaw45.BlameDecodes'. -/
def blameDecodesCard : Claim7 := { stood := { row := blameDecodesRow, standIns := [], harness := (true, "6fabc31cea31765ea07bd3b1aac54209e364679e0f95dd9eaf889f7852f72216"), looks := false }, kinds := [], alts := [], laidByText := true, laidKinds := [.data, .data], laidTests := true, laidLooks := .later }
def BlameDecodesCardSaid : Prop := Claim7.holds Tryz.pinned (.plain (OpenSpec.ofChange blameDecodesSpec)) blameDecodesCard

/-- THE TIED CARD OF 'kinkeeplaw45.BlameAccusations'. -/
def blameAccusationsCard : Claim7 := { stood := { row := blameAccusationsRow, standIns := [], harness := (true, "6fabc31cea31765ea07bd3b1aac54209e364679e0f95dd9eaf889f7852f72216"), looks := false }, kinds := [], alts := [], laidByText := true, laidKinds := [.data, .data], laidTests := true, laidLooks := .later }
def BlameAccusationsCardSaid : Prop := Claim7.holds Tryz.pinned (.plain (OpenSpec.ofChange blameAccusationsSpec)) blameAccusationsCard

/-- THE SECOND FORM's CARD OF 'kinkeeplaw45.BlameAcquittals'. -/
def blameAcquittalsUptoCard : Claim7 := { stood := { row := blameAcquittalsUptoRow, standIns := [], harness := (true, "6fabc31cea31765ea07bd3b1aac54209e364679e0f95dd9eaf889f7852f72216"), looks := false }, kinds := [], alts := [], laidByText := true, laidKinds := [.data, .data], laidTests := true, laidLooks := .later }
def BlameAcquittalsUptoCardSaid : Prop := Claim7.holds Tryz.pinned (.plain (OpenSpec.upto blameAcquittalsSpec)) blameAcquittalsUptoCard

/-- THE SECOND FORM's CARD OF 'kinkeeplaw45.BlameDecodes'. -/
def blameDecodesUptoCard : Claim7 := { stood := { row := blameDecodesUptoRow, standIns := [], harness := (true, "6fabc31cea31765ea07bd3b1aac54209e364679e0f95dd9eaf889f7852f72216"), looks := false }, kinds := [], alts := [], laidByText := true, laidKinds := [.data, .data], laidTests := true, laidLooks := .later }
def BlameDecodesUptoCardSaid : Prop := Claim7.holds Tryz.pinned (.plain (OpenSpec.upto blameDecodesSpec)) blameDecodesUptoCard

/-- THE SECOND FORM's CARD OF 'kinkeeplaw45.BlameAccusations'. -/
def blameAccusationsUptoCard : Claim7 := { stood := { row := blameAccusationsUptoRow, standIns := [], harness := (true, "6fabc31cea31765ea07bd3b1aac54209e364679e0f95dd9eaf889f7852f72216"), looks := false }, kinds := [], alts := [], laidByText := true, laidKinds := [.data, .data], laidTests := true, laidLooks := .later }
def BlameAccusationsUptoCardSaid : Prop := Claim7.holds Tryz.pinned (.plain (OpenSpec.upto blameAccusationsSpec)) blameAccusationsUptoCard
end Rows
end Go.Proofs.YtnfkjnmdfijhnaaGreatDoor
