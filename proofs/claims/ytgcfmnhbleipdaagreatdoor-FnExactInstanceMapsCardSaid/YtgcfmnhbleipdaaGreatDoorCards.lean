/-
  DERIVED. GIVEN WITH THE SEED: THE CARDS: each row of YtgcfmnhbleipdaaGreatDoorRows.lean that lists a variable, with what it lists TIED to the program's text (the seventh form; the later family's looks); each row that meets fmt, with fmt's text TOLD by the authors' own Lean function (tested against real Go, not proved from fmt's source: count such statements apart). THE CARD IS WHAT COUNTS. Prove the row's statement (the work); the ties are given (YtgcfmnhbleipdaaGreatDoorTie.lean); close each card by the builder's one call (the guide's Derived/Test/ToyasCard.lean, 'card_holds'). Laid BY PROGRAM, IN A SANDBOX (cutbox-door.mjs). By AI agents, Wed Nov 11 2026. No macro, syntax, notation, axiom, sorry.
-/
import Derived.Test.YtgcfmnhbleipdaaGreatDoorRows
import GoSem.ClaimSeven
namespace Go.Proofs.YtgcfmnhbleipdaaGreatDoor
namespace Rows

/-- THE TIED CARD OF 'laws.FnExactSchemaCategory'. -/
def fnExactSchemaCategoryCard : Claim7 := { stood := { row := fnExactSchemaCategoryRow, standIns := [], harness := (true, "9ef9d04c43c5b5d4ceea217e1215322113c11618863b845d41e7e190a6757713"), looks := true }, kinds := [], alts := [], laidByText := true, laidKinds := [.handle], laidTests := true, laidLooks := .later }
def FnExactSchemaCategoryCardSaid : Prop := Claim7.holds Tryz.pinned (.plain (OpenSpec.ofChange fnExactSchemaCategorySpec)) fnExactSchemaCategoryCard

/-- THE TIED CARD OF 'laws.FnExactPathArrow'. -/
def fnExactPathArrowCard : Claim7 := { stood := { row := fnExactPathArrowRow, standIns := [], harness := (true, "9ef9d04c43c5b5d4ceea217e1215322113c11618863b845d41e7e190a6757713"), looks := true }, kinds := [], alts := [], laidByText := true, laidKinds := [.handle], laidTests := true, laidLooks := .later }
def FnExactPathArrowCardSaid : Prop := Claim7.holds Tryz.pinned (.plain (OpenSpec.ofChange fnExactPathArrowSpec)) fnExactPathArrowCard

/-- THE TIED CARD OF 'laws.FnExactAreEqualPaths'. -/
def fnExactAreEqualPathsCard : Claim7 := { stood := { row := fnExactAreEqualPathsRow, standIns := [], harness := (true, "9ef9d04c43c5b5d4ceea217e1215322113c11618863b845d41e7e190a6757713"), looks := true }, kinds := [], alts := [], laidByText := true, laidKinds := [.handle], laidTests := true, laidLooks := .later }
def FnExactAreEqualPathsCardSaid : Prop := Claim7.holds Tryz.pinned (.plain (OpenSpec.ofChange fnExactAreEqualPathsSpec)) fnExactAreEqualPathsCard

/-- THE TIED CARD OF 'laws.FnExactInstanceMaps'. -/
def fnExactInstanceMapsCard : Claim7 := { stood := { row := fnExactInstanceMapsRow, standIns := [], harness := (true, "9ef9d04c43c5b5d4ceea217e1215322113c11618863b845d41e7e190a6757713"), looks := true }, kinds := [], alts := [], laidByText := true, laidKinds := [.handle], laidTests := true, laidLooks := .later }
def FnExactInstanceMapsCardSaid : Prop := Claim7.holds Tryz.pinned (.plain (OpenSpec.ofChange fnExactInstanceMapsSpec)) fnExactInstanceMapsCard

/-- THE SECOND FORM's CARD OF 'laws.FnExactSchemaCategory'. -/
def fnExactSchemaCategoryUptoCard : Claim7 := { stood := { row := fnExactSchemaCategoryUptoRow, standIns := [], harness := (true, "9ef9d04c43c5b5d4ceea217e1215322113c11618863b845d41e7e190a6757713"), looks := true }, kinds := [], alts := [], laidByText := true, laidKinds := [.handle], laidTests := true, laidLooks := .later }
def FnExactSchemaCategoryUptoCardSaid : Prop := Claim7.holds Tryz.pinned (.plain (OpenSpec.upto fnExactSchemaCategorySpec)) fnExactSchemaCategoryUptoCard

/-- THE SECOND FORM's CARD OF 'laws.FnExactPathArrow'. -/
def fnExactPathArrowUptoCard : Claim7 := { stood := { row := fnExactPathArrowUptoRow, standIns := [], harness := (true, "9ef9d04c43c5b5d4ceea217e1215322113c11618863b845d41e7e190a6757713"), looks := true }, kinds := [], alts := [], laidByText := true, laidKinds := [.handle], laidTests := true, laidLooks := .later }
def FnExactPathArrowUptoCardSaid : Prop := Claim7.holds Tryz.pinned (.plain (OpenSpec.upto fnExactPathArrowSpec)) fnExactPathArrowUptoCard

/-- THE SECOND FORM's CARD OF 'laws.FnExactAreEqualPaths'. -/
def fnExactAreEqualPathsUptoCard : Claim7 := { stood := { row := fnExactAreEqualPathsUptoRow, standIns := [], harness := (true, "9ef9d04c43c5b5d4ceea217e1215322113c11618863b845d41e7e190a6757713"), looks := true }, kinds := [], alts := [], laidByText := true, laidKinds := [.handle], laidTests := true, laidLooks := .later }
def FnExactAreEqualPathsUptoCardSaid : Prop := Claim7.holds Tryz.pinned (.plain (OpenSpec.upto fnExactAreEqualPathsSpec)) fnExactAreEqualPathsUptoCard

/-- THE SECOND FORM's CARD OF 'laws.FnExactInstanceMaps'. -/
def fnExactInstanceMapsUptoCard : Claim7 := { stood := { row := fnExactInstanceMapsUptoRow, standIns := [], harness := (true, "9ef9d04c43c5b5d4ceea217e1215322113c11618863b845d41e7e190a6757713"), looks := true }, kinds := [], alts := [], laidByText := true, laidKinds := [.handle], laidTests := true, laidLooks := .later }
def FnExactInstanceMapsUptoCardSaid : Prop := Claim7.holds Tryz.pinned (.plain (OpenSpec.upto fnExactInstanceMapsSpec)) fnExactInstanceMapsUptoCard
end Rows
end Go.Proofs.YtgcfmnhbleipdaaGreatDoor
