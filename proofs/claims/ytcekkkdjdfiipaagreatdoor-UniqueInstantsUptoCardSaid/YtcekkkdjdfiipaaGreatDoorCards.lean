/-
  DERIVED. GIVEN WITH THE SEED: THE CARDS: each row of YtcekkkdjdfiipaaGreatDoorRows.lean that lists a variable, with what it lists TIED to the program's text (the seventh form; the later family's looks); each row that meets fmt, with fmt's text TOLD by the authors' own Lean function (tested against real Go, not proved from fmt's source: count such statements apart). THE CARD IS WHAT COUNTS. Prove the row's statement (the work); the ties are given (YtcekkkdjdfiipaaGreatDoorTie.lean); close each card by the builder's one call (the guide's Derived/Test/ToyasCard.lean, 'card_holds'). Laid BY PROGRAM, IN A SANDBOX (cutbox-door.mjs). By AI agents, Wed Nov 11 2026. No macro, syntax, notation, axiom, sorry.
-/
import Derived.Test.YtcekkkdjdfiipaaGreatDoorRows
import GoSem.ClaimSeven
namespace Go.Proofs.YtcekkkdjdfiipaaGreatDoor
namespace Rows

/-- THE TIED CARD OF 'bitemporallaw43.UniqueViolations'. -/
def uniqueViolationsCard : Claim7 := { stood := { row := uniqueViolationsRow, standIns := [], harness := (true, "450993088617629cf2276657f9a43f1d752a4252ba1029c07ecddb19b8d89912"), looks := false }, kinds := [], alts := [], laidByText := true, laidKinds := [.data, .data, .data], laidTests := true, laidLooks := .later }
def UniqueViolationsCardSaid : Prop := Claim7.holds Tryz.pinned (.plain (OpenSpec.ofChange uniqueViolationsSpec)) uniqueViolationsCard

/-- THE TIED CARD OF 'bitemporallaw43.UniqueFinds'. -/
def uniqueFindsCard : Claim7 := { stood := { row := uniqueFindsRow, standIns := [], harness := (true, "450993088617629cf2276657f9a43f1d752a4252ba1029c07ecddb19b8d89912"), looks := false }, kinds := [], alts := [], laidByText := true, laidKinds := [.data, .data, .data], laidTests := true, laidLooks := .later }
def UniqueFindsCardSaid : Prop := Claim7.holds Tryz.pinned (.plain (OpenSpec.ofChange uniqueFindsSpec)) uniqueFindsCard

/-- THE TIED CARD OF 'bitemporallaw43.UniqueInstants'. -/
def uniqueInstantsCard : Claim7 := { stood := { row := uniqueInstantsRow, standIns := [], harness := (true, "450993088617629cf2276657f9a43f1d752a4252ba1029c07ecddb19b8d89912"), looks := false }, kinds := [], alts := [], laidByText := true, laidKinds := [.data, .data, .data], laidTests := true, laidLooks := .later }
def UniqueInstantsCardSaid : Prop := Claim7.holds Tryz.pinned (.plain (OpenSpec.ofChange uniqueInstantsSpec)) uniqueInstantsCard

/-- THE TIED CARD OF 'bitemporallaw43.UniqueRows'. -/
def uniqueRowsCard : Claim7 := { stood := { row := uniqueRowsRow, standIns := [], harness := (true, "450993088617629cf2276657f9a43f1d752a4252ba1029c07ecddb19b8d89912"), looks := false }, kinds := [], alts := [], laidByText := true, laidKinds := [.data, .data, .data], laidTests := true, laidLooks := .later }
def UniqueRowsCardSaid : Prop := Claim7.holds Tryz.pinned (.plain (OpenSpec.ofChange uniqueRowsSpec)) uniqueRowsCard

/-- THE TIED CARD OF 'bitemporallaw43.UniqueParts'. -/
def uniquePartsCard : Claim7 := { stood := { row := uniquePartsRow, standIns := [], harness := (true, "450993088617629cf2276657f9a43f1d752a4252ba1029c07ecddb19b8d89912"), looks := false }, kinds := [], alts := [], laidByText := true, laidKinds := [.data, .data, .data], laidTests := true, laidLooks := .later }
def UniquePartsCardSaid : Prop := Claim7.holds Tryz.pinned (.plain (OpenSpec.ofChange uniquePartsSpec)) uniquePartsCard

/-- THE SECOND FORM's CARD OF 'bitemporallaw43.UniqueViolations'. -/
def uniqueViolationsUptoCard : Claim7 := { stood := { row := uniqueViolationsUptoRow, standIns := [], harness := (true, "450993088617629cf2276657f9a43f1d752a4252ba1029c07ecddb19b8d89912"), looks := false }, kinds := [], alts := [], laidByText := true, laidKinds := [.data, .data, .data], laidTests := true, laidLooks := .later }
def UniqueViolationsUptoCardSaid : Prop := Claim7.holds Tryz.pinned (.plain (OpenSpec.upto uniqueViolationsSpec)) uniqueViolationsUptoCard

/-- THE SECOND FORM's CARD OF 'bitemporallaw43.UniqueFinds'. -/
def uniqueFindsUptoCard : Claim7 := { stood := { row := uniqueFindsUptoRow, standIns := [], harness := (true, "450993088617629cf2276657f9a43f1d752a4252ba1029c07ecddb19b8d89912"), looks := false }, kinds := [], alts := [], laidByText := true, laidKinds := [.data, .data, .data], laidTests := true, laidLooks := .later }
def UniqueFindsUptoCardSaid : Prop := Claim7.holds Tryz.pinned (.plain (OpenSpec.upto uniqueFindsSpec)) uniqueFindsUptoCard

/-- THE SECOND FORM's CARD OF 'bitemporallaw43.UniqueInstants'. -/
def uniqueInstantsUptoCard : Claim7 := { stood := { row := uniqueInstantsUptoRow, standIns := [], harness := (true, "450993088617629cf2276657f9a43f1d752a4252ba1029c07ecddb19b8d89912"), looks := false }, kinds := [], alts := [], laidByText := true, laidKinds := [.data, .data, .data], laidTests := true, laidLooks := .later }
def UniqueInstantsUptoCardSaid : Prop := Claim7.holds Tryz.pinned (.plain (OpenSpec.upto uniqueInstantsSpec)) uniqueInstantsUptoCard

/-- THE SECOND FORM's CARD OF 'bitemporallaw43.UniqueRows'. -/
def uniqueRowsUptoCard : Claim7 := { stood := { row := uniqueRowsUptoRow, standIns := [], harness := (true, "450993088617629cf2276657f9a43f1d752a4252ba1029c07ecddb19b8d89912"), looks := false }, kinds := [], alts := [], laidByText := true, laidKinds := [.data, .data, .data], laidTests := true, laidLooks := .later }
def UniqueRowsUptoCardSaid : Prop := Claim7.holds Tryz.pinned (.plain (OpenSpec.upto uniqueRowsSpec)) uniqueRowsUptoCard

/-- THE SECOND FORM's CARD OF 'bitemporallaw43.UniqueParts'. -/
def uniquePartsUptoCard : Claim7 := { stood := { row := uniquePartsUptoRow, standIns := [], harness := (true, "450993088617629cf2276657f9a43f1d752a4252ba1029c07ecddb19b8d89912"), looks := false }, kinds := [], alts := [], laidByText := true, laidKinds := [.data, .data, .data], laidTests := true, laidLooks := .later }
def UniquePartsUptoCardSaid : Prop := Claim7.holds Tryz.pinned (.plain (OpenSpec.upto uniquePartsSpec)) uniquePartsUptoCard
end Rows
end Go.Proofs.YtcekkkdjdfiipaaGreatDoor
