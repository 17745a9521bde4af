/-
  NARROWER THAN 'FOR EVERY INPUT', by the rows' own cells (each row's printed sentence says how): FnExactSchemaCategory: laid · FnExactPathArrow: laid · FnExactAreEqualPaths: laid · FnExactInstanceMaps: laid.
  DERIVED. THE GIVEN ROWS OF THIS SEAT. 4 by the template 'for every input the law returns true; each argument reads behind the call as it read before'; 0 by the template 'total and deterministic' (their statements: YtgcfmnhbleipdaaGreatDoorTotals.lean).
  GIVEN WITH THE SEED: the statements are not yours to turn. If you find one false, say at which input.
  Laid BY PROGRAM, IN A SANDBOX (cutbox-rows.mjs): the forced cells as the released guide's own fill.sh prints them over the translation 9869ebe33d248022… (all of the seat's roots in one cut). By AI agents, Wed Nov 11 2026. No macro, syntax, notation, axiom, sorry.
-/
import Derived.Test.YtgcfmnhbleipdaaGreatDoorChecked
import GoSem.Claim
import GoSem.ClaimJoined
import GoSem.ClaimMapViews
import Derived.JoinedTies
import Derived.KernelRfl
namespace Go.Proofs.YtgcfmnhbleipdaaGreatDoor
/- THE CELL 'sum', in the pinned program and in every row, IS THE sha256 OF THE DUMP (.gsa) THAT YtgcfmnhbleipdaaGreatDoorProg.lean LOADS. Nothing in Lean hashes anything: it is a label: what it is worth is what the hold of that sum in a sandbox is worth. -/
noncomputable def Tryz.pinned : Pinned := { name := "ytgcfmnhbleipdaagreatdoor", sum := "9869ebe33d2480228e765d25ecc399b7f24bbc8691e2936567280e2849e9a29d", checked := Tryz.checked }
namespace Rows
def none {H : Type} : Left H := { results := [], args := [] }

/- WHAT THE LISTED PACKAGE-LEVEL VARIABLES READ AS WHEN THE CALL BEGINS. Each datum BY PROGRAM (the guide's laid-datum.mjs) off the statement by which the dump's own 'gosem.cut.vars' lays the variable. In a bare row this is a premise. The card (YtgcfmnhbleipdaaGreatDoorCards.lean) ties it to the program's text. -/
def laid_errors_errorType {H : Type} : DataW H := .iface "internal/reflectlite.rtype" (.agg [.ptr (.lit (.string [101, 114, 114, 111, 114]))])

/-- 'laws.FnExactSchemaCategory': WHATEVER THE INPUT: true; the input reads as it did. -/
def fnExactSchemaCategorySpec : ChangeSpec := { name := "fnExactSchemaCategory", fn := fun _ => fun
  | [d] => { results := [.lit (.bool true)], args := [d] }
  | _ => none }
def fnExactSchemaCategoryRow : OpenClaim := { program := "ytgcfmnhbleipdaagreatdoor", sum := "9869ebe33d2480228e765d25ecc399b7f24bbc8691e2936567280e2849e9a29d", func := "loop.example/g01083/laws.FnExactSchemaCategory", spec := "fnExactSchemaCategory", inPlace := ["internal/reflectlite.ValueOf", "(internal/reflectlite.Value).Type", "(internal/reflectlite.Value).IsNil", "internal/reflectlite.TypeOf", "(internal/reflectlite.Value).Elem", "(internal/reflectlite.Value).Set"], unfollowed := true, recurses := true, named := ["errors.errorType"], apart := false, laid := [("errors.errorType", laid_errors_errorType)] }
def FnExactSchemaCategorySaid : Prop := fnExactSchemaCategoryRow.holds Tryz.pinned (OpenSpec.ofChange fnExactSchemaCategorySpec)

/-- ITS FALSE NEIGHBOUR: 'it returns false'. Refute it at one input. -/
def fnExactSchemaCategoryWrong : ChangeSpec := { name := "fnExactSchemaCategory", fn := fun _ => fun
  | [d] => { results := [.lit (.bool false)], args := [d] }
  | _ => none }
def FnExactSchemaCategoryWrongFalsely : Prop := fnExactSchemaCategoryRow.holds Tryz.pinned (OpenSpec.ofChange fnExactSchemaCategoryWrong)

/-- 'laws.FnExactPathArrow': WHATEVER THE INPUT: true; the input reads as it did. -/
def fnExactPathArrowSpec : ChangeSpec := { name := "fnExactPathArrow", fn := fun _ => fun
  | [d1, d2] => { results := [.lit (.bool true)], args := [d1, d2] }
  | _ => none }
def fnExactPathArrowRow : OpenClaim := { program := "ytgcfmnhbleipdaagreatdoor", sum := "9869ebe33d2480228e765d25ecc399b7f24bbc8691e2936567280e2849e9a29d", func := "loop.example/g01083/laws.FnExactPathArrow", spec := "fnExactPathArrow", inPlace := ["internal/reflectlite.ValueOf", "(internal/reflectlite.Value).Type", "(internal/reflectlite.Value).IsNil", "internal/reflectlite.TypeOf", "(internal/reflectlite.Value).Elem", "(internal/reflectlite.Value).Set"], unfollowed := true, recurses := true, named := ["errors.errorType"], apart := false, laid := [("errors.errorType", laid_errors_errorType)] }
def FnExactPathArrowSaid : Prop := fnExactPathArrowRow.holds Tryz.pinned (OpenSpec.ofChange fnExactPathArrowSpec)

/-- ITS FALSE NEIGHBOUR: 'it returns false'. Refute it at one input. -/
def fnExactPathArrowWrong : ChangeSpec := { name := "fnExactPathArrow", fn := fun _ => fun
  | [d1, d2] => { results := [.lit (.bool false)], args := [d1, d2] }
  | _ => none }
def FnExactPathArrowWrongFalsely : Prop := fnExactPathArrowRow.holds Tryz.pinned (OpenSpec.ofChange fnExactPathArrowWrong)

/-- 'laws.FnExactAreEqualPaths': WHATEVER THE INPUT: true; the input reads as it did. -/
def fnExactAreEqualPathsSpec : ChangeSpec := { name := "fnExactAreEqualPaths", fn := fun _ => fun
  | [d1, d2, d3] => { results := [.lit (.bool true)], args := [d1, d2, d3] }
  | _ => none }
def fnExactAreEqualPathsRow : OpenClaim := { program := "ytgcfmnhbleipdaagreatdoor", sum := "9869ebe33d2480228e765d25ecc399b7f24bbc8691e2936567280e2849e9a29d", func := "loop.example/g01083/laws.FnExactAreEqualPaths", spec := "fnExactAreEqualPaths", inPlace := ["internal/reflectlite.ValueOf", "(internal/reflectlite.Value).Type", "(internal/reflectlite.Value).IsNil", "internal/reflectlite.TypeOf", "(internal/reflectlite.Value).Elem", "(internal/reflectlite.Value).Set"], unfollowed := true, recurses := true, named := ["errors.errorType"], apart := false, laid := [("errors.errorType", laid_errors_errorType)] }
def FnExactAreEqualPathsSaid : Prop := fnExactAreEqualPathsRow.holds Tryz.pinned (OpenSpec.ofChange fnExactAreEqualPathsSpec)

/-- ITS FALSE NEIGHBOUR: 'it returns false'. Refute it at one input. -/
def fnExactAreEqualPathsWrong : ChangeSpec := { name := "fnExactAreEqualPaths", fn := fun _ => fun
  | [d1, d2, d3] => { results := [.lit (.bool false)], args := [d1, d2, d3] }
  | _ => none }
def FnExactAreEqualPathsWrongFalsely : Prop := fnExactAreEqualPathsRow.holds Tryz.pinned (OpenSpec.ofChange fnExactAreEqualPathsWrong)

/-- 'laws.FnExactInstanceMaps': WHATEVER THE INPUT: true; the input reads as it did. -/
def fnExactInstanceMapsSpec : ChangeSpec := { name := "fnExactInstanceMaps", fn := fun _ => fun
  | [d1, d2] => { results := [.lit (.bool true)], args := [d1, d2] }
  | _ => none }
def fnExactInstanceMapsRow : OpenClaim := { program := "ytgcfmnhbleipdaagreatdoor", sum := "9869ebe33d2480228e765d25ecc399b7f24bbc8691e2936567280e2849e9a29d", func := "loop.example/g01083/laws.FnExactInstanceMaps", spec := "fnExactInstanceMaps", inPlace := ["internal/reflectlite.ValueOf", "(internal/reflectlite.Value).Type", "(internal/reflectlite.Value).IsNil", "internal/reflectlite.TypeOf", "(internal/reflectlite.Value).Elem", "(internal/reflectlite.Value).Set"], unfollowed := true, recurses := true, named := ["errors.errorType"], apart := false, laid := [("errors.errorType", laid_errors_errorType)] }
def FnExactInstanceMapsSaid : Prop := fnExactInstanceMapsRow.holds Tryz.pinned (OpenSpec.ofChange fnExactInstanceMapsSpec)

/-- ITS FALSE NEIGHBOUR: 'it returns false'. Refute it at one input. -/
def fnExactInstanceMapsWrong : ChangeSpec := { name := "fnExactInstanceMaps", fn := fun _ => fun
  | [d1, d2] => { results := [.lit (.bool false)], args := [d1, d2] }
  | _ => none }
def FnExactInstanceMapsWrongFalsely : Prop := fnExactInstanceMapsRow.holds Tryz.pinned (OpenSpec.ofChange fnExactInstanceMapsWrong)

/- THE SECOND FORM. 'bulk': how many values and letters a reading holds, each counted each time it is reached (what is shared counts as often as it is met; a slice's spare places count too). A statement '..UptoSaid' is the law's where the arguments, and the package variables that the reading takes, are together of bulk at most 1048576: NARROWER than '..Said'. Prove '..Said' where nothing that the law and all that it calls make is longer than what came in: it says more and counts as full. Else prove '..UptoSaid'. A law counts once. -/
mutual
def uptoBulk {H : Type} : DataW H → Nat
  | .lit (.string bytes) => bytes.length + 1
  | .lit _ => 1
  | .nil => 1
  | .ptr d => uptoBulk d + 1
  | .slice elems spare => uptoBulkAll elems + uptoBulkAll spare + 1
  | .agg parts => uptoBulkAll parts + 1
  | .iface _ d => uptoBulk d + 1
  | .map entries => uptoBulkEntries entries + 1
  | .held _ => 1
def uptoBulkAll {H : Type} : List (DataW H) → Nat
  | [] => 0
  | d :: r => uptoBulk d + uptoBulkAll r
def uptoBulkEntries {H : Type} : List (Lit × DataW H) → Nat
  | [] => 0
  | x :: r => uptoBulkEntry x + uptoBulkEntries r
def uptoBulkEntry {H : Type} : Lit × DataW H → Nat
  | (.string bytes, d) => bytes.length + uptoBulk d + 1
  | (_, d) => uptoBulk d + 1
 end
def uptoSmall : (H : Type) → List (DataW H) → Bool := fun _ ds => decide (uptoBulkAll ds ≤ 1048576)
def OpenSpec.upto (s : _root_.Go.ChangeSpec) : _root_.Go.OpenSpec := { _root_.Go.OpenSpec.ofChange s with cond := some uptoSmall }

/-- 'laws.FnExactSchemaCategory', WHERE WHAT IT READS IS OF BULK AT MOST 1048576: true; the input reads as it did. -/
def fnExactSchemaCategoryUptoRow : OpenClaim := { program := "ytgcfmnhbleipdaagreatdoor", sum := "9869ebe33d2480228e765d25ecc399b7f24bbc8691e2936567280e2849e9a29d", func := "loop.example/g01083/laws.FnExactSchemaCategory", spec := "fnExactSchemaCategory", inPlace := ["internal/reflectlite.ValueOf", "(internal/reflectlite.Value).Type", "(internal/reflectlite.Value).IsNil", "internal/reflectlite.TypeOf", "(internal/reflectlite.Value).Elem", "(internal/reflectlite.Value).Set"], unfollowed := true, recurses := true, named := ["errors.errorType"], apart := false, laid := [("errors.errorType", laid_errors_errorType)], narrowed := true }
def FnExactSchemaCategoryUptoSaid : Prop := fnExactSchemaCategoryUptoRow.holds Tryz.pinned (OpenSpec.upto fnExactSchemaCategorySpec)

/-- 'laws.FnExactPathArrow', WHERE WHAT IT READS IS OF BULK AT MOST 1048576: true; the input reads as it did. -/
def fnExactPathArrowUptoRow : OpenClaim := { program := "ytgcfmnhbleipdaagreatdoor", sum := "9869ebe33d2480228e765d25ecc399b7f24bbc8691e2936567280e2849e9a29d", func := "loop.example/g01083/laws.FnExactPathArrow", spec := "fnExactPathArrow", inPlace := ["internal/reflectlite.ValueOf", "(internal/reflectlite.Value).Type", "(internal/reflectlite.Value).IsNil", "internal/reflectlite.TypeOf", "(internal/reflectlite.Value).Elem", "(internal/reflectlite.Value).Set"], unfollowed := true, recurses := true, named := ["errors.errorType"], apart := false, laid := [("errors.errorType", laid_errors_errorType)], narrowed := true }
def FnExactPathArrowUptoSaid : Prop := fnExactPathArrowUptoRow.holds Tryz.pinned (OpenSpec.upto fnExactPathArrowSpec)

/-- 'laws.FnExactAreEqualPaths', WHERE WHAT IT READS IS OF BULK AT MOST 1048576: true; the input reads as it did. -/
def fnExactAreEqualPathsUptoRow : OpenClaim := { program := "ytgcfmnhbleipdaagreatdoor", sum := "9869ebe33d2480228e765d25ecc399b7f24bbc8691e2936567280e2849e9a29d", func := "loop.example/g01083/laws.FnExactAreEqualPaths", spec := "fnExactAreEqualPaths", inPlace := ["internal/reflectlite.ValueOf", "(internal/reflectlite.Value).Type", "(internal/reflectlite.Value).IsNil", "internal/reflectlite.TypeOf", "(internal/reflectlite.Value).Elem", "(internal/reflectlite.Value).Set"], unfollowed := true, recurses := true, named := ["errors.errorType"], apart := false, laid := [("errors.errorType", laid_errors_errorType)], narrowed := true }
def FnExactAreEqualPathsUptoSaid : Prop := fnExactAreEqualPathsUptoRow.holds Tryz.pinned (OpenSpec.upto fnExactAreEqualPathsSpec)

/-- 'laws.FnExactInstanceMaps', WHERE WHAT IT READS IS OF BULK AT MOST 1048576: true; the input reads as it did. -/
def fnExactInstanceMapsUptoRow : OpenClaim := { program := "ytgcfmnhbleipdaagreatdoor", sum := "9869ebe33d2480228e765d25ecc399b7f24bbc8691e2936567280e2849e9a29d", func := "loop.example/g01083/laws.FnExactInstanceMaps", spec := "fnExactInstanceMaps", inPlace := ["internal/reflectlite.ValueOf", "(internal/reflectlite.Value).Type", "(internal/reflectlite.Value).IsNil", "internal/reflectlite.TypeOf", "(internal/reflectlite.Value).Elem", "(internal/reflectlite.Value).Set"], unfollowed := true, recurses := true, named := ["errors.errorType"], apart := false, laid := [("errors.errorType", laid_errors_errorType)], narrowed := true }
def FnExactInstanceMapsUptoSaid : Prop := fnExactInstanceMapsUptoRow.holds Tryz.pinned (OpenSpec.upto fnExactInstanceMapsSpec)

end Rows
end Go.Proofs.YtgcfmnhbleipdaaGreatDoor
