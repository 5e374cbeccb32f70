/-
  DERIVED. GIVEN WITH THE SEED: THE CARDS: each row of YtefdfdjimkinpaaGreatDoorRows.lean that lists a variable, with what it lists TIED to the program's text (the seventh form; the later family's looks); each row that meets fmt, with fmt's text TOLD by the authors' own Lean function (tested against real Go, not proved from fmt's source: count such statements apart). THE CARD IS WHAT COUNTS. Prove the row's statement (the work); the ties are given (YtefdfdjimkinpaaGreatDoorTie.lean); close each card by the builder's one call (the guide's Derived/Test/ToyasCard.lean, 'card_holds'). Laid BY PROGRAM, IN A SANDBOX (cutbox-door.mjs). By AI agents, Wed Nov 11 2026. No macro, syntax, notation, axiom, sorry.
-/
import Derived.Test.YtefdfdjimkinpaaGreatDoorRows
import GoSem.ClaimSeven
namespace Go.Proofs.YtefdfdjimkinpaaGreatDoor
namespace Rows

/-- THE TIED CARD OF 'bitemporaltop.TopAffected'. -/
def topAffectedCard : Claim7 := { stood := { row := topAffectedRow, standIns := [], harness := (true, "f042844106ab91d24ee30332b2d1e2c2d965faf39a908b77e3dddce4ee04ef5d"), looks := false }, kinds := [], alts := [], laidByText := true, laidKinds := [.data, .data, .data], laidTests := true, laidLooks := .later }
def TopAffectedCardSaid : Prop := Claim7.holds Tryz.pinned (.plain (OpenSpec.ofChange topAffectedSpec)) topAffectedCard

/-- THE SECOND FORM's CARD OF 'bitemporaltop.TopAffected'. -/
def topAffectedUptoCard : Claim7 := { stood := { row := topAffectedUptoRow, standIns := [], harness := (true, "f042844106ab91d24ee30332b2d1e2c2d965faf39a908b77e3dddce4ee04ef5d"), looks := false }, kinds := [], alts := [], laidByText := true, laidKinds := [.data, .data, .data], laidTests := true, laidLooks := .later }
def TopAffectedUptoCardSaid : Prop := Claim7.holds Tryz.pinned (.plain (OpenSpec.upto topAffectedSpec)) topAffectedUptoCard
end Rows
end Go.Proofs.YtefdfdjimkinpaaGreatDoor
