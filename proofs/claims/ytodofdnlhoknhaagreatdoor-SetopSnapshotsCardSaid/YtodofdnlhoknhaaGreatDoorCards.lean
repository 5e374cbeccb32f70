/-
  DERIVED. GIVEN WITH THE SEED: THE CARDS: each row of YtodofdnlhoknhaaGreatDoorRows.lean that lists a variable, with what it lists TIED to the program's text (the seventh form; the later family's looks); each row that meets fmt, with fmt's text TOLD by the authors' own Lean function (tested against real Go, not proved from fmt's source: count such statements apart). THE CARD IS WHAT COUNTS. Prove the row's statement (the work); the ties are given (YtodofdnlhoknhaaGreatDoorTie.lean); close each card by the builder's one call (the guide's Derived/Test/ToyasCard.lean, 'card_holds'). Laid BY PROGRAM, IN A SANDBOX (cutbox-door.mjs). By AI agents, Wed Nov 11 2026. No macro, syntax, notation, axiom, sorry.
-/
import Derived.Test.YtodofdnlhoknhaaGreatDoorRows
import GoSem.ClaimSeven
namespace Go.Proofs.YtodofdnlhoknhaaGreatDoor
namespace Rows

/-- THE TIED CARD OF 'bitemporallaw25.SetopCombines'. -/
def setopCombinesCard : Claim7 := { stood := { row := setopCombinesRow, standIns := [], harness := (true, "d2a8083ddde14847c02283179da569cfaf047739a6fca7fb85546c1c1d91ca5f"), looks := false }, kinds := [], alts := [], laidByText := true, laidKinds := [.data, .data, .data], laidTests := true, laidLooks := .later }
def SetopCombinesCardSaid : Prop := Claim7.holds Tryz.pinned (.plain (OpenSpec.ofChange setopCombinesSpec)) setopCombinesCard

/-- THE TIED CARD OF 'bitemporallaw25.SetopDivides'. -/
def setopDividesCard : Claim7 := { stood := { row := setopDividesRow, standIns := [], harness := (true, "d2a8083ddde14847c02283179da569cfaf047739a6fca7fb85546c1c1d91ca5f"), looks := false }, kinds := [], alts := [], laidByText := true, laidKinds := [.data, .data, .data], laidTests := true, laidLooks := .later }
def SetopDividesCardSaid : Prop := Claim7.holds Tryz.pinned (.plain (OpenSpec.ofChange setopDividesSpec)) setopDividesCard

/-- THE TIED CARD OF 'bitemporallaw25.SetopSnapshots'. -/
def setopSnapshotsCard : Claim7 := { stood := { row := setopSnapshotsRow, standIns := [], harness := (true, "d2a8083ddde14847c02283179da569cfaf047739a6fca7fb85546c1c1d91ca5f"), looks := false }, kinds := [], alts := [], laidByText := true, laidKinds := [.data, .data, .data], laidTests := true, laidLooks := .later }
def SetopSnapshotsCardSaid : Prop := Claim7.holds Tryz.pinned (.plain (OpenSpec.ofChange setopSnapshotsSpec)) setopSnapshotsCard

/-- THE TIED CARD OF 'bitemporallaw25.SetopQuotients'. -/
def setopQuotientsCard : Claim7 := { stood := { row := setopQuotientsRow, standIns := [], harness := (true, "d2a8083ddde14847c02283179da569cfaf047739a6fca7fb85546c1c1d91ca5f"), looks := false }, kinds := [], alts := [], laidByText := true, laidKinds := [.data, .data, .data], laidTests := true, laidLooks := .later }
def SetopQuotientsCardSaid : Prop := Claim7.holds Tryz.pinned (.plain (OpenSpec.ofChange setopQuotientsSpec)) setopQuotientsCard

/-- THE TIED CARD OF 'bitemporallaw25.SetopDifferences'. -/
def setopDifferencesCard : Claim7 := { stood := { row := setopDifferencesRow, standIns := [], harness := (true, "d2a8083ddde14847c02283179da569cfaf047739a6fca7fb85546c1c1d91ca5f"), looks := false }, kinds := [], alts := [], laidByText := true, laidKinds := [.data, .data, .data], laidTests := true, laidLooks := .later }
def SetopDifferencesCardSaid : Prop := Claim7.holds Tryz.pinned (.plain (OpenSpec.ofChange setopDifferencesSpec)) setopDifferencesCard

/-- THE TIED CARD OF 'bitemporallaw25.SetopDuplicates'. -/
def setopDuplicatesCard : Claim7 := { stood := { row := setopDuplicatesRow, standIns := [], harness := (true, "d2a8083ddde14847c02283179da569cfaf047739a6fca7fb85546c1c1d91ca5f"), looks := false }, kinds := [], alts := [], laidByText := true, laidKinds := [.data, .data, .data], laidTests := true, laidLooks := .later }
def SetopDuplicatesCardSaid : Prop := Claim7.holds Tryz.pinned (.plain (OpenSpec.ofChange setopDuplicatesSpec)) setopDuplicatesCard

/-- THE TIED CARD OF 'bitemporallaw25.SetopProducts'. -/
def setopProductsCard : Claim7 := { stood := { row := setopProductsRow, standIns := [], harness := (true, "d2a8083ddde14847c02283179da569cfaf047739a6fca7fb85546c1c1d91ca5f"), looks := false }, kinds := [], alts := [], laidByText := true, laidKinds := [.data, .data, .data], laidTests := true, laidLooks := .later }
def SetopProductsCardSaid : Prop := Claim7.holds Tryz.pinned (.plain (OpenSpec.ofChange setopProductsSpec)) setopProductsCard

/-- THE SECOND FORM's CARD OF 'bitemporallaw25.SetopCombines'. -/
def setopCombinesUptoCard : Claim7 := { stood := { row := setopCombinesUptoRow, standIns := [], harness := (true, "d2a8083ddde14847c02283179da569cfaf047739a6fca7fb85546c1c1d91ca5f"), looks := false }, kinds := [], alts := [], laidByText := true, laidKinds := [.data, .data, .data], laidTests := true, laidLooks := .later }
def SetopCombinesUptoCardSaid : Prop := Claim7.holds Tryz.pinned (.plain (OpenSpec.upto setopCombinesSpec)) setopCombinesUptoCard

/-- THE SECOND FORM's CARD OF 'bitemporallaw25.SetopDivides'. -/
def setopDividesUptoCard : Claim7 := { stood := { row := setopDividesUptoRow, standIns := [], harness := (true, "d2a8083ddde14847c02283179da569cfaf047739a6fca7fb85546c1c1d91ca5f"), looks := false }, kinds := [], alts := [], laidByText := true, laidKinds := [.data, .data, .data], laidTests := true, laidLooks := .later }
def SetopDividesUptoCardSaid : Prop := Claim7.holds Tryz.pinned (.plain (OpenSpec.upto setopDividesSpec)) setopDividesUptoCard

/-- THE SECOND FORM's CARD OF 'bitemporallaw25.SetopSnapshots'. -/
def setopSnapshotsUptoCard : Claim7 := { stood := { row := setopSnapshotsUptoRow, standIns := [], harness := (true, "d2a8083ddde14847c02283179da569cfaf047739a6fca7fb85546c1c1d91ca5f"), looks := false }, kinds := [], alts := [], laidByText := true, laidKinds := [.data, .data, .data], laidTests := true, laidLooks := .later }
def SetopSnapshotsUptoCardSaid : Prop := Claim7.holds Tryz.pinned (.plain (OpenSpec.upto setopSnapshotsSpec)) setopSnapshotsUptoCard

/-- THE SECOND FORM's CARD OF 'bitemporallaw25.SetopQuotients'. -/
def setopQuotientsUptoCard : Claim7 := { stood := { row := setopQuotientsUptoRow, standIns := [], harness := (true, "d2a8083ddde14847c02283179da569cfaf047739a6fca7fb85546c1c1d91ca5f"), looks := false }, kinds := [], alts := [], laidByText := true, laidKinds := [.data, .data, .data], laidTests := true, laidLooks := .later }
def SetopQuotientsUptoCardSaid : Prop := Claim7.holds Tryz.pinned (.plain (OpenSpec.upto setopQuotientsSpec)) setopQuotientsUptoCard

/-- THE SECOND FORM's CARD OF 'bitemporallaw25.SetopDifferences'. -/
def setopDifferencesUptoCard : Claim7 := { stood := { row := setopDifferencesUptoRow, standIns := [], harness := (true, "d2a8083ddde14847c02283179da569cfaf047739a6fca7fb85546c1c1d91ca5f"), looks := false }, kinds := [], alts := [], laidByText := true, laidKinds := [.data, .data, .data], laidTests := true, laidLooks := .later }
def SetopDifferencesUptoCardSaid : Prop := Claim7.holds Tryz.pinned (.plain (OpenSpec.upto setopDifferencesSpec)) setopDifferencesUptoCard

/-- THE SECOND FORM's CARD OF 'bitemporallaw25.SetopDuplicates'. -/
def setopDuplicatesUptoCard : Claim7 := { stood := { row := setopDuplicatesUptoRow, standIns := [], harness := (true, "d2a8083ddde14847c02283179da569cfaf047739a6fca7fb85546c1c1d91ca5f"), looks := false }, kinds := [], alts := [], laidByText := true, laidKinds := [.data, .data, .data], laidTests := true, laidLooks := .later }
def SetopDuplicatesUptoCardSaid : Prop := Claim7.holds Tryz.pinned (.plain (OpenSpec.upto setopDuplicatesSpec)) setopDuplicatesUptoCard

/-- THE SECOND FORM's CARD OF 'bitemporallaw25.SetopProducts'. -/
def setopProductsUptoCard : Claim7 := { stood := { row := setopProductsUptoRow, standIns := [], harness := (true, "d2a8083ddde14847c02283179da569cfaf047739a6fca7fb85546c1c1d91ca5f"), looks := false }, kinds := [], alts := [], laidByText := true, laidKinds := [.data, .data, .data], laidTests := true, laidLooks := .later }
def SetopProductsUptoCardSaid : Prop := Claim7.holds Tryz.pinned (.plain (OpenSpec.upto setopProductsSpec)) setopProductsUptoCard
end Rows
end Go.Proofs.YtodofdnlhoknhaaGreatDoor
