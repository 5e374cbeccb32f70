/-
  DERIVED. GIVEN WITH THE SEED: THE CARDS: each row of YtpnibjljhfgjaaaDoorRows.lean that lists a variable, with what it lists TIED to the program's text (the seventh form; the later family's looks); each row that meets fmt, with fmt's text TOLD by the authors' own Lean function (tested against real Go, not proved from fmt's source: count such statements apart). THE CARD IS WHAT COUNTS. Prove the row's statement (the work); the ties are given (YtpnibjljhfgjaaaDoorTie.lean); close each card by the builder's one call (the guide's Derived/Test/ToyasCard.lean, 'card_holds'). Laid BY PROGRAM, IN A SANDBOX (cutbox-door.mjs). By AI agents, Wed Nov 11 2026. No macro, syntax, notation, axiom, sorry.
-/
import Derived.Test.YtpnibjljhfgjaaaDoorRows
import GoSem.ClaimSeven
namespace Go.Proofs.YtpnibjljhfgjaaaDoor
namespace Rows

/-- THE TIED CARD OF 'bitemporallaw55.ReportErrors'. -/
def reportErrorsCard : Claim7 := { stood := { row := reportErrorsRow, standIns := [], harness := (true, "fd6ee8df6e32f71a5e048983bc487652ca0cc231acf9edf80d5a010cf932b9e9"), looks := false }, kinds := [], alts := [], laidByText := true, laidKinds := [.data, .data, .data, .data, .pinned], laidTests := true, laidLooks := .later }
def ReportErrorsCardSaid : Prop := Claim7.holds Tryd.pinned (.plain (OpenSpec.ofChange reportErrorsSpec)) reportErrorsCard

/-- THE TIED CARD OF 'bitemporallaw55.ReportEmpty'. -/
def reportEmptyCard : Claim7 := { stood := { row := reportEmptyRow, standIns := [], harness := (true, "fd6ee8df6e32f71a5e048983bc487652ca0cc231acf9edf80d5a010cf932b9e9"), looks := false }, kinds := [], alts := [], laidByText := true, laidKinds := [.data, .data, .data, .data, .pinned], laidTests := true, laidLooks := .later }
def ReportEmptyCardSaid : Prop := Claim7.holds Tryd.pinned (.plain (OpenSpec.ofChange reportEmptySpec)) reportEmptyCard

/-- THE SECOND FORM's CARD OF 'bitemporallaw55.ReportErrors'. -/
def reportErrorsUptoCard : Claim7 := { stood := { row := reportErrorsUptoRow, standIns := [], harness := (true, "fd6ee8df6e32f71a5e048983bc487652ca0cc231acf9edf80d5a010cf932b9e9"), looks := false }, kinds := [], alts := [], laidByText := true, laidKinds := [.data, .data, .data, .data, .pinned], laidTests := true, laidLooks := .later }
def ReportErrorsUptoCardSaid : Prop := Claim7.holds Tryd.pinned (.plain (OpenSpec.upto reportErrorsSpec)) reportErrorsUptoCard

/-- THE SECOND FORM's CARD OF 'bitemporallaw55.ReportEmpty'. -/
def reportEmptyUptoCard : Claim7 := { stood := { row := reportEmptyUptoRow, standIns := [], harness := (true, "fd6ee8df6e32f71a5e048983bc487652ca0cc231acf9edf80d5a010cf932b9e9"), looks := false }, kinds := [], alts := [], laidByText := true, laidKinds := [.data, .data, .data, .data, .pinned], laidTests := true, laidLooks := .later }
def ReportEmptyUptoCardSaid : Prop := Claim7.holds Tryd.pinned (.plain (OpenSpec.upto reportEmptySpec)) reportEmptyUptoCard
end Rows
end Go.Proofs.YtpnibjljhfgjaaaDoor
