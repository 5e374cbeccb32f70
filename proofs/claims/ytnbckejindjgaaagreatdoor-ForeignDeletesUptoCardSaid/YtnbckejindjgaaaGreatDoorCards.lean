/-
  DERIVED. GIVEN WITH THE SEED: THE CARDS: each row of YtnbckejindjgaaaGreatDoorRows.lean that lists a variable, with what it lists TIED to the program's text (the seventh form; the later family's looks); each row that meets fmt, with fmt's text TOLD by the authors' own Lean function (tested against real Go, not proved from fmt's source: count such statements apart). THE CARD IS WHAT COUNTS. Prove the row's statement (the work); the ties are given (YtnbckejindjgaaaGreatDoorTie.lean); close each card by the builder's one call (the guide's Derived/Test/ToyasCard.lean, 'card_holds'). Laid BY PROGRAM, IN A SANDBOX (cutbox-door.mjs). By AI agents, Wed Nov 11 2026. No macro, syntax, notation, axiom, sorry.
-/
import Derived.Test.YtnbckejindjgaaaGreatDoorRows
import GoSem.ClaimSeven
namespace Go.Proofs.YtnbckejindjgaaaGreatDoor
namespace Rows

/-- THE TIED CARD OF 'bitemporallaw44.ForeignMissing'. -/
def foreignMissingCard : Claim7 := { stood := { row := foreignMissingRow, standIns := [], harness := (true, "d6021ec42b3e3c1ded4b6442756f0fbb333fb1dbd6a2aab682d5ff79012f89cc"), looks := false }, kinds := [], alts := [], laidByText := true, laidKinds := [.data, .data, .data], laidTests := true, laidLooks := .later }
def ForeignMissingCardSaid : Prop := Claim7.holds Tryz.pinned (.plain (OpenSpec.ofChange foreignMissingSpec)) foreignMissingCard

/-- THE TIED CARD OF 'bitemporallaw44.ForeignDepends'. -/
def foreignDependsCard : Claim7 := { stood := { row := foreignDependsRow, standIns := [], harness := (true, "d6021ec42b3e3c1ded4b6442756f0fbb333fb1dbd6a2aab682d5ff79012f89cc"), looks := false }, kinds := [], alts := [], laidByText := true, laidKinds := [.data, .data, .data], laidTests := true, laidLooks := .later }
def ForeignDependsCardSaid : Prop := Claim7.holds Tryz.pinned (.plain (OpenSpec.ofChange foreignDependsSpec)) foreignDependsCard

/-- THE TIED CARD OF 'bitemporallaw44.ForeignInstants'. -/
def foreignInstantsCard : Claim7 := { stood := { row := foreignInstantsRow, standIns := [], harness := (true, "d6021ec42b3e3c1ded4b6442756f0fbb333fb1dbd6a2aab682d5ff79012f89cc"), looks := false }, kinds := [], alts := [], laidByText := true, laidKinds := [.data, .data, .data], laidTests := true, laidLooks := .later }
def ForeignInstantsCardSaid : Prop := Claim7.holds Tryz.pinned (.plain (OpenSpec.ofChange foreignInstantsSpec)) foreignInstantsCard

/-- THE TIED CARD OF 'bitemporallaw44.ForeignDeletes'. -/
def foreignDeletesCard : Claim7 := { stood := { row := foreignDeletesRow, standIns := [], harness := (true, "d6021ec42b3e3c1ded4b6442756f0fbb333fb1dbd6a2aab682d5ff79012f89cc"), looks := false }, kinds := [], alts := [], laidByText := true, laidKinds := [.data, .data, .data], laidTests := true, laidLooks := .later }
def ForeignDeletesCardSaid : Prop := Claim7.holds Tryz.pinned (.plain (OpenSpec.ofChange foreignDeletesSpec)) foreignDeletesCard

/-- THE TIED CARD OF 'bitemporallaw44.ForeignGrows'. -/
def foreignGrowsCard : Claim7 := { stood := { row := foreignGrowsRow, standIns := [], harness := (true, "d6021ec42b3e3c1ded4b6442756f0fbb333fb1dbd6a2aab682d5ff79012f89cc"), looks := false }, kinds := [], alts := [], laidByText := true, laidKinds := [.data, .data, .data], laidTests := true, laidLooks := .later }
def ForeignGrowsCardSaid : Prop := Claim7.holds Tryz.pinned (.plain (OpenSpec.ofChange foreignGrowsSpec)) foreignGrowsCard

/-- THE SECOND FORM's CARD OF 'bitemporallaw44.ForeignMissing'. -/
def foreignMissingUptoCard : Claim7 := { stood := { row := foreignMissingUptoRow, standIns := [], harness := (true, "d6021ec42b3e3c1ded4b6442756f0fbb333fb1dbd6a2aab682d5ff79012f89cc"), looks := false }, kinds := [], alts := [], laidByText := true, laidKinds := [.data, .data, .data], laidTests := true, laidLooks := .later }
def ForeignMissingUptoCardSaid : Prop := Claim7.holds Tryz.pinned (.plain (OpenSpec.upto foreignMissingSpec)) foreignMissingUptoCard

/-- THE SECOND FORM's CARD OF 'bitemporallaw44.ForeignDepends'. -/
def foreignDependsUptoCard : Claim7 := { stood := { row := foreignDependsUptoRow, standIns := [], harness := (true, "d6021ec42b3e3c1ded4b6442756f0fbb333fb1dbd6a2aab682d5ff79012f89cc"), looks := false }, kinds := [], alts := [], laidByText := true, laidKinds := [.data, .data, .data], laidTests := true, laidLooks := .later }
def ForeignDependsUptoCardSaid : Prop := Claim7.holds Tryz.pinned (.plain (OpenSpec.upto foreignDependsSpec)) foreignDependsUptoCard

/-- THE SECOND FORM's CARD OF 'bitemporallaw44.ForeignInstants'. -/
def foreignInstantsUptoCard : Claim7 := { stood := { row := foreignInstantsUptoRow, standIns := [], harness := (true, "d6021ec42b3e3c1ded4b6442756f0fbb333fb1dbd6a2aab682d5ff79012f89cc"), looks := false }, kinds := [], alts := [], laidByText := true, laidKinds := [.data, .data, .data], laidTests := true, laidLooks := .later }
def ForeignInstantsUptoCardSaid : Prop := Claim7.holds Tryz.pinned (.plain (OpenSpec.upto foreignInstantsSpec)) foreignInstantsUptoCard

/-- THE SECOND FORM's CARD OF 'bitemporallaw44.ForeignDeletes'. -/
def foreignDeletesUptoCard : Claim7 := { stood := { row := foreignDeletesUptoRow, standIns := [], harness := (true, "d6021ec42b3e3c1ded4b6442756f0fbb333fb1dbd6a2aab682d5ff79012f89cc"), looks := false }, kinds := [], alts := [], laidByText := true, laidKinds := [.data, .data, .data], laidTests := true, laidLooks := .later }
def ForeignDeletesUptoCardSaid : Prop := Claim7.holds Tryz.pinned (.plain (OpenSpec.upto foreignDeletesSpec)) foreignDeletesUptoCard

/-- THE SECOND FORM's CARD OF 'bitemporallaw44.ForeignGrows'. -/
def foreignGrowsUptoCard : Claim7 := { stood := { row := foreignGrowsUptoRow, standIns := [], harness := (true, "d6021ec42b3e3c1ded4b6442756f0fbb333fb1dbd6a2aab682d5ff79012f89cc"), looks := false }, kinds := [], alts := [], laidByText := true, laidKinds := [.data, .data, .data], laidTests := true, laidLooks := .later }
def ForeignGrowsUptoCardSaid : Prop := Claim7.holds Tryz.pinned (.plain (OpenSpec.upto foreignGrowsSpec)) foreignGrowsUptoCard
end Rows
end Go.Proofs.YtnbckejindjgaaaGreatDoor
