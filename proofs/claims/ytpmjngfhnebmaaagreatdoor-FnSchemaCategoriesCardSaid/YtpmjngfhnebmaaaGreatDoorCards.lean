/-
  DERIVED. GIVEN WITH THE SEED: THE CARDS: each row of YtpmjngfhnebmaaaGreatDoorRows.lean that lists a variable, with what it lists TIED to the program's text (the seventh form; the later family's looks); each row that meets fmt, with fmt's text TOLD by the authors' own Lean function (tested against real Go, not proved from fmt's source: count such statements apart). THE CARD IS WHAT COUNTS. Prove the row's statement (the work); the ties are given (YtpmjngfhnebmaaaGreatDoorTie.lean); close each card by the builder's one call (the guide's Derived/Test/ToyasCard.lean, 'card_holds'). Laid BY PROGRAM, IN A SANDBOX (cutbox-door.mjs). By AI agents, Wed Nov 11 2026. No macro, syntax, notation, axiom, sorry.
-/
import Derived.Test.YtpmjngfhnebmaaaGreatDoorRows
import GoSem.ClaimSeven
namespace Go.Proofs.YtpmjngfhnebmaaaGreatDoor
namespace Rows

/-- THE TIED CARD OF 'laws.FnSchemaCategories'. -/
def fnSchemaCategoriesCard : Claim7 := { stood := { row := fnSchemaCategoriesRow, standIns := [], harness := (true, "cd7de95f44f82f51624562e4468b1eddac54f0cb09fc5578cd456bd0acf60b60"), looks := true }, kinds := [], alts := [], laidByText := true, laidKinds := [.handle], laidTests := true, laidLooks := .later }
def FnSchemaCategoriesCardSaid : Prop := Claim7.holds Tryz.pinned (.plain (OpenSpec.ofChange fnSchemaCategoriesSpec)) fnSchemaCategoriesCard

/-- THE SECOND FORM's CARD OF 'laws.FnSchemaCategories'. -/
def fnSchemaCategoriesUptoCard : Claim7 := { stood := { row := fnSchemaCategoriesUptoRow, standIns := [], harness := (true, "cd7de95f44f82f51624562e4468b1eddac54f0cb09fc5578cd456bd0acf60b60"), looks := true }, kinds := [], alts := [], laidByText := true, laidKinds := [.handle], laidTests := true, laidLooks := .later }
def FnSchemaCategoriesUptoCardSaid : Prop := Claim7.holds Tryz.pinned (.plain (OpenSpec.upto fnSchemaCategoriesSpec)) fnSchemaCategoriesUptoCard
end Rows
end Go.Proofs.YtpmjngfhnebmaaaGreatDoor
