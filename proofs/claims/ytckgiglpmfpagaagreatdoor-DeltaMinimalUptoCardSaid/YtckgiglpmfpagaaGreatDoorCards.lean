/-
  DERIVED. GIVEN WITH THE SEED: THE CARDS: each row of YtckgiglpmfpagaaGreatDoorRows.lean that lists a variable, with what it lists TIED to the program's text (the seventh form; the later family's looks); each row that meets fmt, with fmt's text TOLD by the authors' own Lean function (tested against real Go, not proved from fmt's source: count such statements apart). THE CARD IS WHAT COUNTS. Prove the row's statement (the work); the ties are given (YtckgiglpmfpagaaGreatDoorTie.lean); close each card by the builder's one call (the guide's Derived/Test/ToyasCard.lean, 'card_holds'). Laid BY PROGRAM, IN A SANDBOX (cutbox-door.mjs). By AI agents, Wed Nov 11 2026. No macro, syntax, notation, axiom, sorry.
-/
import Derived.Test.YtckgiglpmfpagaaGreatDoorRows
import GoSem.ClaimSeven
namespace Go.Proofs.YtckgiglpmfpagaaGreatDoor
namespace Rows

/-- THE TIED CARD OF 'bitemporallaw32.DeltaFacts'. -/
def deltaFactsCard : Claim7 := { stood := { row := deltaFactsRow, standIns := [], harness := (true, "ae65c9b4381a8829ceccb9895bedb7740a1b1e4984fb81e9af0d802d242c1282"), looks := false }, kinds := [], alts := [], laidByText := true, laidKinds := [.data, .data, .data], laidTests := true, laidLooks := .later }
def DeltaFactsCardSaid : Prop := Claim7.holds Tryz.pinned (.plain (OpenSpec.ofChange deltaFactsSpec)) deltaFactsCard

/-- THE TIED CARD OF 'bitemporallaw32.DeltaBetween'. -/
def deltaBetweenCard : Claim7 := { stood := { row := deltaBetweenRow, standIns := [], harness := (true, "ae65c9b4381a8829ceccb9895bedb7740a1b1e4984fb81e9af0d802d242c1282"), looks := false }, kinds := [], alts := [], laidByText := true, laidKinds := [.data, .data, .data], laidTests := true, laidLooks := .later }
def DeltaBetweenCardSaid : Prop := Claim7.holds Tryz.pinned (.plain (OpenSpec.ofChange deltaBetweenSpec)) deltaBetweenCard

/-- THE TIED CARD OF 'bitemporallaw32.DeltaApplies'. -/
def deltaAppliesCard : Claim7 := { stood := { row := deltaAppliesRow, standIns := [], harness := (true, "ae65c9b4381a8829ceccb9895bedb7740a1b1e4984fb81e9af0d802d242c1282"), looks := false }, kinds := [], alts := [], laidByText := true, laidKinds := [.data, .data, .data], laidTests := true, laidLooks := .later }
def DeltaAppliesCardSaid : Prop := Claim7.holds Tryz.pinned (.plain (OpenSpec.ofChange deltaAppliesSpec)) deltaAppliesCard

/-- THE TIED CARD OF 'bitemporallaw32.DeltaUndoes'. -/
def deltaUndoesCard : Claim7 := { stood := { row := deltaUndoesRow, standIns := [], harness := (true, "ae65c9b4381a8829ceccb9895bedb7740a1b1e4984fb81e9af0d802d242c1282"), looks := false }, kinds := [], alts := [], laidByText := true, laidKinds := [.data, .data, .data], laidTests := true, laidLooks := .later }
def DeltaUndoesCardSaid : Prop := Claim7.holds Tryz.pinned (.plain (OpenSpec.ofChange deltaUndoesSpec)) deltaUndoesCard

/-- THE TIED CARD OF 'bitemporallaw32.DeltaMinimal'. -/
def deltaMinimalCard : Claim7 := { stood := { row := deltaMinimalRow, standIns := [], harness := (true, "ae65c9b4381a8829ceccb9895bedb7740a1b1e4984fb81e9af0d802d242c1282"), looks := false }, kinds := [], alts := [], laidByText := true, laidKinds := [.data, .data, .data], laidTests := true, laidLooks := .later }
def DeltaMinimalCardSaid : Prop := Claim7.holds Tryz.pinned (.plain (OpenSpec.ofChange deltaMinimalSpec)) deltaMinimalCard

/-- THE TIED CARD OF 'bitemporallaw32.DeltaBeliefs'. -/
def deltaBeliefsCard : Claim7 := { stood := { row := deltaBeliefsRow, standIns := [], harness := (true, "ae65c9b4381a8829ceccb9895bedb7740a1b1e4984fb81e9af0d802d242c1282"), looks := false }, kinds := [], alts := [], laidByText := true, laidKinds := [.data, .data, .data], laidTests := true, laidLooks := .later }
def DeltaBeliefsCardSaid : Prop := Claim7.holds Tryz.pinned (.plain (OpenSpec.ofChange deltaBeliefsSpec)) deltaBeliefsCard

/-- THE SECOND FORM's CARD OF 'bitemporallaw32.DeltaFacts'. -/
def deltaFactsUptoCard : Claim7 := { stood := { row := deltaFactsUptoRow, standIns := [], harness := (true, "ae65c9b4381a8829ceccb9895bedb7740a1b1e4984fb81e9af0d802d242c1282"), looks := false }, kinds := [], alts := [], laidByText := true, laidKinds := [.data, .data, .data], laidTests := true, laidLooks := .later }
def DeltaFactsUptoCardSaid : Prop := Claim7.holds Tryz.pinned (.plain (OpenSpec.upto deltaFactsSpec)) deltaFactsUptoCard

/-- THE SECOND FORM's CARD OF 'bitemporallaw32.DeltaBetween'. -/
def deltaBetweenUptoCard : Claim7 := { stood := { row := deltaBetweenUptoRow, standIns := [], harness := (true, "ae65c9b4381a8829ceccb9895bedb7740a1b1e4984fb81e9af0d802d242c1282"), looks := false }, kinds := [], alts := [], laidByText := true, laidKinds := [.data, .data, .data], laidTests := true, laidLooks := .later }
def DeltaBetweenUptoCardSaid : Prop := Claim7.holds Tryz.pinned (.plain (OpenSpec.upto deltaBetweenSpec)) deltaBetweenUptoCard

/-- THE SECOND FORM's CARD OF 'bitemporallaw32.DeltaApplies'. -/
def deltaAppliesUptoCard : Claim7 := { stood := { row := deltaAppliesUptoRow, standIns := [], harness := (true, "ae65c9b4381a8829ceccb9895bedb7740a1b1e4984fb81e9af0d802d242c1282"), looks := false }, kinds := [], alts := [], laidByText := true, laidKinds := [.data, .data, .data], laidTests := true, laidLooks := .later }
def DeltaAppliesUptoCardSaid : Prop := Claim7.holds Tryz.pinned (.plain (OpenSpec.upto deltaAppliesSpec)) deltaAppliesUptoCard

/-- THE SECOND FORM's CARD OF 'bitemporallaw32.DeltaUndoes'. -/
def deltaUndoesUptoCard : Claim7 := { stood := { row := deltaUndoesUptoRow, standIns := [], harness := (true, "ae65c9b4381a8829ceccb9895bedb7740a1b1e4984fb81e9af0d802d242c1282"), looks := false }, kinds := [], alts := [], laidByText := true, laidKinds := [.data, .data, .data], laidTests := true, laidLooks := .later }
def DeltaUndoesUptoCardSaid : Prop := Claim7.holds Tryz.pinned (.plain (OpenSpec.upto deltaUndoesSpec)) deltaUndoesUptoCard

/-- THE SECOND FORM's CARD OF 'bitemporallaw32.DeltaMinimal'. -/
def deltaMinimalUptoCard : Claim7 := { stood := { row := deltaMinimalUptoRow, standIns := [], harness := (true, "ae65c9b4381a8829ceccb9895bedb7740a1b1e4984fb81e9af0d802d242c1282"), looks := false }, kinds := [], alts := [], laidByText := true, laidKinds := [.data, .data, .data], laidTests := true, laidLooks := .later }
def DeltaMinimalUptoCardSaid : Prop := Claim7.holds Tryz.pinned (.plain (OpenSpec.upto deltaMinimalSpec)) deltaMinimalUptoCard

/-- THE SECOND FORM's CARD OF 'bitemporallaw32.DeltaBeliefs'. -/
def deltaBeliefsUptoCard : Claim7 := { stood := { row := deltaBeliefsUptoRow, standIns := [], harness := (true, "ae65c9b4381a8829ceccb9895bedb7740a1b1e4984fb81e9af0d802d242c1282"), looks := false }, kinds := [], alts := [], laidByText := true, laidKinds := [.data, .data, .data], laidTests := true, laidLooks := .later }
def DeltaBeliefsUptoCardSaid : Prop := Claim7.holds Tryz.pinned (.plain (OpenSpec.upto deltaBeliefsSpec)) deltaBeliefsUptoCard
end Rows
end Go.Proofs.YtckgiglpmfpagaaGreatDoor
