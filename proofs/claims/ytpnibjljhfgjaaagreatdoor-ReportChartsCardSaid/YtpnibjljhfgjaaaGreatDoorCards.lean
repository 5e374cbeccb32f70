/-
  DERIVED. GIVEN WITH THE SEED: THE CARDS: each row of YtpnibjljhfgjaaaGreatDoorRows.lean that lists a variable, with what it lists TIED to the program's text (the seventh form; the later family's looks); each row that meets fmt, with fmt's text TOLD by the authors' own Lean function (tested against real Go, not proved from fmt's source: count such statements apart). THE CARD IS WHAT COUNTS. Prove the row's statement (the work); the ties are given (YtpnibjljhfgjaaaGreatDoorTie.lean); close each card by the builder's one call (the guide's Derived/Test/ToyasCard.lean, 'card_holds'). Laid BY PROGRAM, IN A SANDBOX (cutbox-door.mjs). By AI agents, Wed Nov 11 2026. No macro, syntax, notation, axiom, sorry.
-/
import Derived.Test.YtpnibjljhfgjaaaGreatDoorRows
import GoSem.ClaimSeven
namespace Go.Proofs.YtpnibjljhfgjaaaGreatDoor
namespace Rows

/-- THE TIED CARD OF 'bitemporallaw55.ReportResults'. -/
def reportResultsCard : Claim7 := { stood := { row := reportResultsRow, standIns := [], harness := (true, "64629e09bf9d45500d1d8d3c4f0fcd2dbeb63fd0914be747a383735bbf4c926f"), looks := false }, kinds := [], alts := [], laidByText := true, laidKinds := [.data, .data, .data, .data, .pinned], laidTests := true, laidLooks := .later }
def ReportResultsCardSaid : Prop := Claim7.holds Tryz.pinned (.plain (OpenSpec.ofChange reportResultsSpec)) reportResultsCard

/-- THE TIED CARD OF 'bitemporallaw55.ReportCharts'. -/
def reportChartsCard : Claim7 := { stood := { row := reportChartsRow, standIns := [], harness := (true, "64629e09bf9d45500d1d8d3c4f0fcd2dbeb63fd0914be747a383735bbf4c926f"), looks := false }, kinds := [], alts := [], laidByText := true, laidKinds := [.data, .data, .data, .data, .pinned], laidTests := true, laidLooks := .later }
def ReportChartsCardSaid : Prop := Claim7.holds Tryz.pinned (.plain (OpenSpec.ofChange reportChartsSpec)) reportChartsCard

/-- THE TIED CARD OF 'bitemporallaw55.ReportViolations'. -/
def reportViolationsCard : Claim7 := { stood := { row := reportViolationsRow, standIns := [], harness := (true, "64629e09bf9d45500d1d8d3c4f0fcd2dbeb63fd0914be747a383735bbf4c926f"), looks := false }, kinds := [], alts := [], laidByText := true, laidKinds := [.data, .data, .data, .data, .pinned], laidTests := true, laidLooks := .later }
def ReportViolationsCardSaid : Prop := Claim7.holds Tryz.pinned (.plain (OpenSpec.ofChange reportViolationsSpec)) reportViolationsCard

/-- THE TIED CARD OF 'bitemporallaw55.ReportVersions'. -/
def reportVersionsCard : Claim7 := { stood := { row := reportVersionsRow, standIns := [], harness := (true, "64629e09bf9d45500d1d8d3c4f0fcd2dbeb63fd0914be747a383735bbf4c926f"), looks := false }, kinds := [], alts := [], laidByText := true, laidKinds := [.data, .data, .data, .data, .pinned], laidTests := true, laidLooks := .later }
def ReportVersionsCardSaid : Prop := Claim7.holds Tryz.pinned (.plain (OpenSpec.ofChange reportVersionsSpec)) reportVersionsCard

/-- THE TIED CARD OF 'bitemporallaw55.ReportShape'. -/
def reportShapeCard : Claim7 := { stood := { row := reportShapeRow, standIns := [], harness := (true, "64629e09bf9d45500d1d8d3c4f0fcd2dbeb63fd0914be747a383735bbf4c926f"), looks := false }, kinds := [], alts := [], laidByText := true, laidKinds := [.data, .data, .data, .data, .pinned], laidTests := true, laidLooks := .later }
def ReportShapeCardSaid : Prop := Claim7.holds Tryz.pinned (.plain (OpenSpec.ofChange reportShapeSpec)) reportShapeCard

/-- THE SECOND FORM's CARD OF 'bitemporallaw55.ReportResults'. -/
def reportResultsUptoCard : Claim7 := { stood := { row := reportResultsUptoRow, standIns := [], harness := (true, "64629e09bf9d45500d1d8d3c4f0fcd2dbeb63fd0914be747a383735bbf4c926f"), looks := false }, kinds := [], alts := [], laidByText := true, laidKinds := [.data, .data, .data, .data, .pinned], laidTests := true, laidLooks := .later }
def ReportResultsUptoCardSaid : Prop := Claim7.holds Tryz.pinned (.plain (OpenSpec.upto reportResultsSpec)) reportResultsUptoCard

/-- THE SECOND FORM's CARD OF 'bitemporallaw55.ReportCharts'. -/
def reportChartsUptoCard : Claim7 := { stood := { row := reportChartsUptoRow, standIns := [], harness := (true, "64629e09bf9d45500d1d8d3c4f0fcd2dbeb63fd0914be747a383735bbf4c926f"), looks := false }, kinds := [], alts := [], laidByText := true, laidKinds := [.data, .data, .data, .data, .pinned], laidTests := true, laidLooks := .later }
def ReportChartsUptoCardSaid : Prop := Claim7.holds Tryz.pinned (.plain (OpenSpec.upto reportChartsSpec)) reportChartsUptoCard

/-- THE SECOND FORM's CARD OF 'bitemporallaw55.ReportViolations'. -/
def reportViolationsUptoCard : Claim7 := { stood := { row := reportViolationsUptoRow, standIns := [], harness := (true, "64629e09bf9d45500d1d8d3c4f0fcd2dbeb63fd0914be747a383735bbf4c926f"), looks := false }, kinds := [], alts := [], laidByText := true, laidKinds := [.data, .data, .data, .data, .pinned], laidTests := true, laidLooks := .later }
def ReportViolationsUptoCardSaid : Prop := Claim7.holds Tryz.pinned (.plain (OpenSpec.upto reportViolationsSpec)) reportViolationsUptoCard

/-- THE SECOND FORM's CARD OF 'bitemporallaw55.ReportVersions'. -/
def reportVersionsUptoCard : Claim7 := { stood := { row := reportVersionsUptoRow, standIns := [], harness := (true, "64629e09bf9d45500d1d8d3c4f0fcd2dbeb63fd0914be747a383735bbf4c926f"), looks := false }, kinds := [], alts := [], laidByText := true, laidKinds := [.data, .data, .data, .data, .pinned], laidTests := true, laidLooks := .later }
def ReportVersionsUptoCardSaid : Prop := Claim7.holds Tryz.pinned (.plain (OpenSpec.upto reportVersionsSpec)) reportVersionsUptoCard

/-- THE SECOND FORM's CARD OF 'bitemporallaw55.ReportShape'. -/
def reportShapeUptoCard : Claim7 := { stood := { row := reportShapeUptoRow, standIns := [], harness := (true, "64629e09bf9d45500d1d8d3c4f0fcd2dbeb63fd0914be747a383735bbf4c926f"), looks := false }, kinds := [], alts := [], laidByText := true, laidKinds := [.data, .data, .data, .data, .pinned], laidTests := true, laidLooks := .later }
def ReportShapeUptoCardSaid : Prop := Claim7.holds Tryz.pinned (.plain (OpenSpec.upto reportShapeSpec)) reportShapeUptoCard
end Rows
end Go.Proofs.YtpnibjljhfgjaaaGreatDoor
