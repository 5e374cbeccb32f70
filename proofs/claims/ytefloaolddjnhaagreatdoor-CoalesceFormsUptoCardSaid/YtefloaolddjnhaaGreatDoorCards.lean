/-
  DERIVED. GIVEN WITH THE SEED: THE CARDS: each row of YtefloaolddjnhaaGreatDoorRows.lean that lists a variable, with what it lists TIED to the program's text (the seventh form; the later family's looks); each row that meets fmt, with fmt's text TOLD by the authors' own Lean function (tested against real Go, not proved from fmt's source: count such statements apart). THE CARD IS WHAT COUNTS. Prove the row's statement (the work); the ties are given (YtefloaolddjnhaaGreatDoorTie.lean); close each card by the builder's one call (the guide's Derived/Test/ToyasCard.lean, 'card_holds'). Laid BY PROGRAM, IN A SANDBOX (cutbox-door.mjs). By AI agents, Wed Nov 11 2026. No macro, syntax, notation, axiom, sorry.
-/
import Derived.Test.YtefloaolddjnhaaGreatDoorRows
import GoSem.ClaimSeven
namespace Go.Proofs.YtefloaolddjnhaaGreatDoor
namespace Rows

/-- THE TIED CARD OF 'bitemporallaw22.CoalesceForms'. -/
def coalesceFormsCard : Claim7 := { stood := { row := coalesceFormsRow, standIns := [], harness := (true, "14dd43859ef551b20e248d10e7a0020c62a07f203985725609ab9f682ae4078e"), looks := false }, kinds := [], alts := [], laidByText := true, laidKinds := [.data, .data, .data], laidTests := true, laidLooks := .later }
def CoalesceFormsCardSaid : Prop := Claim7.holds Tryz.pinned (.plain (OpenSpec.ofChange coalesceFormsSpec)) coalesceFormsCard

/-- THE TIED CARD OF 'bitemporallaw22.CoalesceRestricts'. -/
def coalesceRestrictsCard : Claim7 := { stood := { row := coalesceRestrictsRow, standIns := [], harness := (true, "14dd43859ef551b20e248d10e7a0020c62a07f203985725609ab9f682ae4078e"), looks := false }, kinds := [], alts := [], laidByText := true, laidKinds := [.data, .data, .data], laidTests := true, laidLooks := .later }
def CoalesceRestrictsCardSaid : Prop := Claim7.holds Tryz.pinned (.plain (OpenSpec.ofChange coalesceRestrictsSpec)) coalesceRestrictsCard

/-- THE TIED CARD OF 'bitemporallaw22.CoalesceSnapshots'. -/
def coalesceSnapshotsCard : Claim7 := { stood := { row := coalesceSnapshotsRow, standIns := [], harness := (true, "14dd43859ef551b20e248d10e7a0020c62a07f203985725609ab9f682ae4078e"), looks := false }, kinds := [], alts := [], laidByText := true, laidKinds := [.data, .data, .data], laidTests := true, laidLooks := .later }
def CoalesceSnapshotsCardSaid : Prop := Claim7.holds Tryz.pinned (.plain (OpenSpec.ofChange coalesceSnapshotsSpec)) coalesceSnapshotsCard

/-- THE TIED CARD OF 'bitemporallaw22.CoalesceDivided'. -/
def coalesceDividedCard : Claim7 := { stood := { row := coalesceDividedRow, standIns := [], harness := (true, "14dd43859ef551b20e248d10e7a0020c62a07f203985725609ab9f682ae4078e"), looks := false }, kinds := [], alts := [], laidByText := true, laidKinds := [.data, .data, .data], laidTests := true, laidLooks := .later }
def CoalesceDividedCardSaid : Prop := Claim7.holds Tryz.pinned (.plain (OpenSpec.ofChange coalesceDividedSpec)) coalesceDividedCard

/-- THE TIED CARD OF 'bitemporallaw22.CoalesceConstant'. -/
def coalesceConstantCard : Claim7 := { stood := { row := coalesceConstantRow, standIns := [], harness := (true, "14dd43859ef551b20e248d10e7a0020c62a07f203985725609ab9f682ae4078e"), looks := false }, kinds := [], alts := [], laidByText := true, laidKinds := [.data, .data, .data], laidTests := true, laidLooks := .later }
def CoalesceConstantCardSaid : Prop := Claim7.holds Tryz.pinned (.plain (OpenSpec.ofChange coalesceConstantSpec)) coalesceConstantCard

/-- THE TIED CARD OF 'bitemporallaw22.CoalesceMaximal'. -/
def coalesceMaximalCard : Claim7 := { stood := { row := coalesceMaximalRow, standIns := [], harness := (true, "14dd43859ef551b20e248d10e7a0020c62a07f203985725609ab9f682ae4078e"), looks := false }, kinds := [], alts := [], laidByText := true, laidKinds := [.data, .data, .data], laidTests := true, laidLooks := .later }
def CoalesceMaximalCardSaid : Prop := Claim7.holds Tryz.pinned (.plain (OpenSpec.ofChange coalesceMaximalSpec)) coalesceMaximalCard

/-- THE TIED CARD OF 'bitemporallaw22.CoalesceSame'. -/
def coalesceSameCard : Claim7 := { stood := { row := coalesceSameRow, standIns := [], harness := (true, "14dd43859ef551b20e248d10e7a0020c62a07f203985725609ab9f682ae4078e"), looks := false }, kinds := [], alts := [], laidByText := true, laidKinds := [.data, .data, .data], laidTests := true, laidLooks := .later }
def CoalesceSameCardSaid : Prop := Claim7.holds Tryz.pinned (.plain (OpenSpec.ofChange coalesceSameSpec)) coalesceSameCard

/-- THE TIED CARD OF 'bitemporallaw22.CoalesceAt'. -/
def coalesceAtCard : Claim7 := { stood := { row := coalesceAtRow, standIns := [], harness := (true, "14dd43859ef551b20e248d10e7a0020c62a07f203985725609ab9f682ae4078e"), looks := false }, kinds := [], alts := [], laidByText := true, laidKinds := [.data, .data, .data], laidTests := true, laidLooks := .later }
def CoalesceAtCardSaid : Prop := Claim7.holds Tryz.pinned (.plain (OpenSpec.ofChange coalesceAtSpec)) coalesceAtCard

/-- THE SECOND FORM's CARD OF 'bitemporallaw22.CoalesceForms'. -/
def coalesceFormsUptoCard : Claim7 := { stood := { row := coalesceFormsUptoRow, standIns := [], harness := (true, "14dd43859ef551b20e248d10e7a0020c62a07f203985725609ab9f682ae4078e"), looks := false }, kinds := [], alts := [], laidByText := true, laidKinds := [.data, .data, .data], laidTests := true, laidLooks := .later }
def CoalesceFormsUptoCardSaid : Prop := Claim7.holds Tryz.pinned (.plain (OpenSpec.upto coalesceFormsSpec)) coalesceFormsUptoCard

/-- THE SECOND FORM's CARD OF 'bitemporallaw22.CoalesceRestricts'. -/
def coalesceRestrictsUptoCard : Claim7 := { stood := { row := coalesceRestrictsUptoRow, standIns := [], harness := (true, "14dd43859ef551b20e248d10e7a0020c62a07f203985725609ab9f682ae4078e"), looks := false }, kinds := [], alts := [], laidByText := true, laidKinds := [.data, .data, .data], laidTests := true, laidLooks := .later }
def CoalesceRestrictsUptoCardSaid : Prop := Claim7.holds Tryz.pinned (.plain (OpenSpec.upto coalesceRestrictsSpec)) coalesceRestrictsUptoCard

/-- THE SECOND FORM's CARD OF 'bitemporallaw22.CoalesceSnapshots'. -/
def coalesceSnapshotsUptoCard : Claim7 := { stood := { row := coalesceSnapshotsUptoRow, standIns := [], harness := (true, "14dd43859ef551b20e248d10e7a0020c62a07f203985725609ab9f682ae4078e"), looks := false }, kinds := [], alts := [], laidByText := true, laidKinds := [.data, .data, .data], laidTests := true, laidLooks := .later }
def CoalesceSnapshotsUptoCardSaid : Prop := Claim7.holds Tryz.pinned (.plain (OpenSpec.upto coalesceSnapshotsSpec)) coalesceSnapshotsUptoCard

/-- THE SECOND FORM's CARD OF 'bitemporallaw22.CoalesceDivided'. -/
def coalesceDividedUptoCard : Claim7 := { stood := { row := coalesceDividedUptoRow, standIns := [], harness := (true, "14dd43859ef551b20e248d10e7a0020c62a07f203985725609ab9f682ae4078e"), looks := false }, kinds := [], alts := [], laidByText := true, laidKinds := [.data, .data, .data], laidTests := true, laidLooks := .later }
def CoalesceDividedUptoCardSaid : Prop := Claim7.holds Tryz.pinned (.plain (OpenSpec.upto coalesceDividedSpec)) coalesceDividedUptoCard

/-- THE SECOND FORM's CARD OF 'bitemporallaw22.CoalesceConstant'. -/
def coalesceConstantUptoCard : Claim7 := { stood := { row := coalesceConstantUptoRow, standIns := [], harness := (true, "14dd43859ef551b20e248d10e7a0020c62a07f203985725609ab9f682ae4078e"), looks := false }, kinds := [], alts := [], laidByText := true, laidKinds := [.data, .data, .data], laidTests := true, laidLooks := .later }
def CoalesceConstantUptoCardSaid : Prop := Claim7.holds Tryz.pinned (.plain (OpenSpec.upto coalesceConstantSpec)) coalesceConstantUptoCard

/-- THE SECOND FORM's CARD OF 'bitemporallaw22.CoalesceMaximal'. -/
def coalesceMaximalUptoCard : Claim7 := { stood := { row := coalesceMaximalUptoRow, standIns := [], harness := (true, "14dd43859ef551b20e248d10e7a0020c62a07f203985725609ab9f682ae4078e"), looks := false }, kinds := [], alts := [], laidByText := true, laidKinds := [.data, .data, .data], laidTests := true, laidLooks := .later }
def CoalesceMaximalUptoCardSaid : Prop := Claim7.holds Tryz.pinned (.plain (OpenSpec.upto coalesceMaximalSpec)) coalesceMaximalUptoCard

/-- THE SECOND FORM's CARD OF 'bitemporallaw22.CoalesceSame'. -/
def coalesceSameUptoCard : Claim7 := { stood := { row := coalesceSameUptoRow, standIns := [], harness := (true, "14dd43859ef551b20e248d10e7a0020c62a07f203985725609ab9f682ae4078e"), looks := false }, kinds := [], alts := [], laidByText := true, laidKinds := [.data, .data, .data], laidTests := true, laidLooks := .later }
def CoalesceSameUptoCardSaid : Prop := Claim7.holds Tryz.pinned (.plain (OpenSpec.upto coalesceSameSpec)) coalesceSameUptoCard

/-- THE SECOND FORM's CARD OF 'bitemporallaw22.CoalesceAt'. -/
def coalesceAtUptoCard : Claim7 := { stood := { row := coalesceAtUptoRow, standIns := [], harness := (true, "14dd43859ef551b20e248d10e7a0020c62a07f203985725609ab9f682ae4078e"), looks := false }, kinds := [], alts := [], laidByText := true, laidKinds := [.data, .data, .data], laidTests := true, laidLooks := .later }
def CoalesceAtUptoCardSaid : Prop := Claim7.holds Tryz.pinned (.plain (OpenSpec.upto coalesceAtSpec)) coalesceAtUptoCard
end Rows
end Go.Proofs.YtefloaolddjnhaaGreatDoor
