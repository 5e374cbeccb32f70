/-
  DERIVED. GIVEN WITH THE SEED: THE CARDS: each row of YtoemghmemdnelaaGreatDoorRows.lean that lists a variable, with what it lists TIED to the program's text (the seventh form; the later family's looks); each row that meets fmt, with fmt's text TOLD by the authors' own Lean function (tested against real Go, not proved from fmt's source: count such statements apart). THE CARD IS WHAT COUNTS. Prove the row's statement (the work); the ties are given (YtoemghmemdnelaaGreatDoorTie.lean); close each card by the builder's one call (the guide's Derived/Test/ToyasCard.lean, 'card_holds'). Laid BY PROGRAM, IN A SANDBOX (cutbox-door.mjs). By AI agents, Wed Nov 11 2026. No macro, syntax, notation, axiom, sorry.
-/
import Derived.Test.YtoemghmemdnelaaGreatDoorRows
import GoSem.ClaimSeven
namespace Go.Proofs.YtoemghmemdnelaaGreatDoor
namespace Rows

/-- THE TIED CARD OF 'bitemporallaw26.AggregateGroups'. -/
def aggregateGroupsCard : Claim7 := { stood := { row := aggregateGroupsRow, standIns := [], harness := (true, "d0585a8e1c88b3bba8fb8f239d90a46de050320a21a2ad25518b65a63899d9a8"), looks := false }, kinds := [], alts := [], laidByText := true, laidKinds := [.data, .data, .data], laidTests := true, laidLooks := .later }
def AggregateGroupsCardSaid : Prop := Claim7.holds Tryz.pinned (.plain (OpenSpec.ofChange aggregateGroupsSpec)) aggregateGroupsCard

/-- THE TIED CARD OF 'bitemporallaw26.AggregateMoves'. -/
def aggregateMovesCard : Claim7 := { stood := { row := aggregateMovesRow, standIns := [], harness := (true, "d0585a8e1c88b3bba8fb8f239d90a46de050320a21a2ad25518b65a63899d9a8"), looks := false }, kinds := [], alts := [], laidByText := true, laidKinds := [.data, .data, .data], laidTests := true, laidLooks := .later }
def AggregateMovesCardSaid : Prop := Claim7.holds Tryz.pinned (.plain (OpenSpec.ofChange aggregateMovesSpec)) aggregateMovesCard

/-- THE TIED CARD OF 'bitemporallaw26.AggregateSteps'. -/
def aggregateStepsCard : Claim7 := { stood := { row := aggregateStepsRow, standIns := [], harness := (true, "d0585a8e1c88b3bba8fb8f239d90a46de050320a21a2ad25518b65a63899d9a8"), looks := false }, kinds := [], alts := [], laidByText := true, laidKinds := [.data, .data, .data], laidTests := true, laidLooks := .later }
def AggregateStepsCardSaid : Prop := Claim7.holds Tryz.pinned (.plain (OpenSpec.ofChange aggregateStepsSpec)) aggregateStepsCard

/-- THE TIED CARD OF 'bitemporallaw26.AggregateSnapshots'. -/
def aggregateSnapshotsCard : Claim7 := { stood := { row := aggregateSnapshotsRow, standIns := [], harness := (true, "d0585a8e1c88b3bba8fb8f239d90a46de050320a21a2ad25518b65a63899d9a8"), looks := false }, kinds := [], alts := [], laidByText := true, laidKinds := [.data, .data, .data], laidTests := true, laidLooks := .later }
def AggregateSnapshotsCardSaid : Prop := Claim7.holds Tryz.pinned (.plain (OpenSpec.ofChange aggregateSnapshotsSpec)) aggregateSnapshotsCard

/-- THE TIED CARD OF 'bitemporallaw26.AggregateWindows'. -/
def aggregateWindowsCard : Claim7 := { stood := { row := aggregateWindowsRow, standIns := [], harness := (true, "d0585a8e1c88b3bba8fb8f239d90a46de050320a21a2ad25518b65a63899d9a8"), looks := false }, kinds := [], alts := [], laidByText := true, laidKinds := [.data, .data, .data], laidTests := true, laidLooks := .later }
def AggregateWindowsCardSaid : Prop := Claim7.holds Tryz.pinned (.plain (OpenSpec.ofChange aggregateWindowsSpec)) aggregateWindowsCard

/-- THE TIED CARD OF 'bitemporallaw26.AggregateTotals'. -/
def aggregateTotalsCard : Claim7 := { stood := { row := aggregateTotalsRow, standIns := [], harness := (true, "d0585a8e1c88b3bba8fb8f239d90a46de050320a21a2ad25518b65a63899d9a8"), looks := false }, kinds := [], alts := [], laidByText := true, laidKinds := [.data, .data, .data], laidTests := true, laidLooks := .later }
def AggregateTotalsCardSaid : Prop := Claim7.holds Tryz.pinned (.plain (OpenSpec.ofChange aggregateTotalsSpec)) aggregateTotalsCard

/-- THE TIED CARD OF 'bitemporallaw26.AggregatePeaks'. -/
def aggregatePeaksCard : Claim7 := { stood := { row := aggregatePeaksRow, standIns := [], harness := (true, "d0585a8e1c88b3bba8fb8f239d90a46de050320a21a2ad25518b65a63899d9a8"), looks := false }, kinds := [], alts := [], laidByText := true, laidKinds := [.data, .data, .data], laidTests := true, laidLooks := .later }
def AggregatePeaksCardSaid : Prop := Claim7.holds Tryz.pinned (.plain (OpenSpec.ofChange aggregatePeaksSpec)) aggregatePeaksCard

/-- THE SECOND FORM's CARD OF 'bitemporallaw26.AggregateGroups'. -/
def aggregateGroupsUptoCard : Claim7 := { stood := { row := aggregateGroupsUptoRow, standIns := [], harness := (true, "d0585a8e1c88b3bba8fb8f239d90a46de050320a21a2ad25518b65a63899d9a8"), looks := false }, kinds := [], alts := [], laidByText := true, laidKinds := [.data, .data, .data], laidTests := true, laidLooks := .later }
def AggregateGroupsUptoCardSaid : Prop := Claim7.holds Tryz.pinned (.plain (OpenSpec.upto aggregateGroupsSpec)) aggregateGroupsUptoCard

/-- THE SECOND FORM's CARD OF 'bitemporallaw26.AggregateMoves'. -/
def aggregateMovesUptoCard : Claim7 := { stood := { row := aggregateMovesUptoRow, standIns := [], harness := (true, "d0585a8e1c88b3bba8fb8f239d90a46de050320a21a2ad25518b65a63899d9a8"), looks := false }, kinds := [], alts := [], laidByText := true, laidKinds := [.data, .data, .data], laidTests := true, laidLooks := .later }
def AggregateMovesUptoCardSaid : Prop := Claim7.holds Tryz.pinned (.plain (OpenSpec.upto aggregateMovesSpec)) aggregateMovesUptoCard

/-- THE SECOND FORM's CARD OF 'bitemporallaw26.AggregateSteps'. -/
def aggregateStepsUptoCard : Claim7 := { stood := { row := aggregateStepsUptoRow, standIns := [], harness := (true, "d0585a8e1c88b3bba8fb8f239d90a46de050320a21a2ad25518b65a63899d9a8"), looks := false }, kinds := [], alts := [], laidByText := true, laidKinds := [.data, .data, .data], laidTests := true, laidLooks := .later }
def AggregateStepsUptoCardSaid : Prop := Claim7.holds Tryz.pinned (.plain (OpenSpec.upto aggregateStepsSpec)) aggregateStepsUptoCard

/-- THE SECOND FORM's CARD OF 'bitemporallaw26.AggregateSnapshots'. -/
def aggregateSnapshotsUptoCard : Claim7 := { stood := { row := aggregateSnapshotsUptoRow, standIns := [], harness := (true, "d0585a8e1c88b3bba8fb8f239d90a46de050320a21a2ad25518b65a63899d9a8"), looks := false }, kinds := [], alts := [], laidByText := true, laidKinds := [.data, .data, .data], laidTests := true, laidLooks := .later }
def AggregateSnapshotsUptoCardSaid : Prop := Claim7.holds Tryz.pinned (.plain (OpenSpec.upto aggregateSnapshotsSpec)) aggregateSnapshotsUptoCard

/-- THE SECOND FORM's CARD OF 'bitemporallaw26.AggregateWindows'. -/
def aggregateWindowsUptoCard : Claim7 := { stood := { row := aggregateWindowsUptoRow, standIns := [], harness := (true, "d0585a8e1c88b3bba8fb8f239d90a46de050320a21a2ad25518b65a63899d9a8"), looks := false }, kinds := [], alts := [], laidByText := true, laidKinds := [.data, .data, .data], laidTests := true, laidLooks := .later }
def AggregateWindowsUptoCardSaid : Prop := Claim7.holds Tryz.pinned (.plain (OpenSpec.upto aggregateWindowsSpec)) aggregateWindowsUptoCard

/-- THE SECOND FORM's CARD OF 'bitemporallaw26.AggregateTotals'. -/
def aggregateTotalsUptoCard : Claim7 := { stood := { row := aggregateTotalsUptoRow, standIns := [], harness := (true, "d0585a8e1c88b3bba8fb8f239d90a46de050320a21a2ad25518b65a63899d9a8"), looks := false }, kinds := [], alts := [], laidByText := true, laidKinds := [.data, .data, .data], laidTests := true, laidLooks := .later }
def AggregateTotalsUptoCardSaid : Prop := Claim7.holds Tryz.pinned (.plain (OpenSpec.upto aggregateTotalsSpec)) aggregateTotalsUptoCard

/-- THE SECOND FORM's CARD OF 'bitemporallaw26.AggregatePeaks'. -/
def aggregatePeaksUptoCard : Claim7 := { stood := { row := aggregatePeaksUptoRow, standIns := [], harness := (true, "d0585a8e1c88b3bba8fb8f239d90a46de050320a21a2ad25518b65a63899d9a8"), looks := false }, kinds := [], alts := [], laidByText := true, laidKinds := [.data, .data, .data], laidTests := true, laidLooks := .later }
def AggregatePeaksUptoCardSaid : Prop := Claim7.holds Tryz.pinned (.plain (OpenSpec.upto aggregatePeaksSpec)) aggregatePeaksUptoCard
end Rows
end Go.Proofs.YtoemghmemdnelaaGreatDoor
