/-
  No cell of these rows narrows 'for every input' (looked for: loops, veiled, ifaces, maps, wideKeys, modest, calm, conditions, laid).
  DERIVED. THE GIVEN ROWS OF THIS SEAT. 3 by the template 'for every input the law returns true; each argument reads behind the call as it read before'; 0 by the template 'total and deterministic' (their statements: YtfknijkkogmidaaTotals.lean).
  GIVEN WITH THE SEED: the statements are not yours to turn. If you find one false, say at which input.
  Laid BY PROGRAM, IN A SANDBOX (cutbox-rows.mjs): the forced cells as the released guide's own fill.sh prints them over the translation a42fb2466bd09d5a… (all of the seat's roots in one cut). By AI agents, Wed Nov 11 2026. No macro, syntax, notation, axiom, sorry.
-/
import Derived.Test.YtfknijkkogmidaaChecked
import GoSem.Claim
import GoSem.ClaimJoined
import GoSem.ClaimMapViews
import Derived.JoinedTies
import Derived.KernelRfl
namespace Go.Proofs.Ytfknijkkogmidaa
/- THE CELL 'sum', in the pinned program and in every row, IS THE sha256 OF THE DUMP (.gsa) THAT YtfknijkkogmidaaProg.lean LOADS. Nothing in Lean hashes anything: it is a label: what it is worth is what the hold of that sum in a sandbox is worth. -/
noncomputable def Try.pinned : Pinned := { name := "ytfknijkkogmidaa", sum := "a42fb2466bd09d5a736b72936c2b4105bc3c95173438d5678a56bab31b31026f", checked := Try.checked }
namespace Rows
def none {H : Type} : Left H := { results := [], args := [] }

/-- 'laws.FnExactRenumberCategory': WHATEVER THE INPUT: true; the input reads as it did. -/
def fnExactRenumberCategorySpec : ChangeSpec := { name := "fnExactRenumberCategory", fn := fun _ => fun
  | [d1, d2, d3] => { results := [.lit (.bool true)], args := [d1, d2, d3] }
  | _ => none }
def fnExactRenumberCategoryRow : OpenClaim := { program := "ytfknijkkogmidaa", sum := "a42fb2466bd09d5a736b72936c2b4105bc3c95173438d5678a56bab31b31026f", func := "loop.example/g01083/laws.FnExactRenumberCategory", spec := "fnExactRenumberCategory", unfollowed := true, recurses := true, plainKeys := false, apart := false }
def FnExactRenumberCategorySaid : Prop := fnExactRenumberCategoryRow.holds Try.pinned (OpenSpec.ofChange fnExactRenumberCategorySpec)

/-- ITS FALSE NEIGHBOUR: 'it returns false'. Refute it at one input. -/
def fnExactRenumberCategoryWrong : ChangeSpec := { name := "fnExactRenumberCategory", fn := fun _ => fun
  | [d1, d2, d3] => { results := [.lit (.bool false)], args := [d1, d2, d3] }
  | _ => none }
def FnExactRenumberCategoryWrongFalsely : Prop := fnExactRenumberCategoryRow.holds Try.pinned (OpenSpec.ofChange fnExactRenumberCategoryWrong)

/-- 'laws.FnExactQuotientsOf': WHATEVER THE INPUT: true; the input reads as it did. -/
def fnExactQuotientsOfSpec : ChangeSpec := { name := "fnExactQuotientsOf", fn := fun _ => fun
  | [d1, d2] => { results := [.lit (.bool true)], args := [d1, d2] }
  | _ => none }
def fnExactQuotientsOfRow : OpenClaim := { program := "ytfknijkkogmidaa", sum := "a42fb2466bd09d5a736b72936c2b4105bc3c95173438d5678a56bab31b31026f", func := "loop.example/g01083/laws.FnExactQuotientsOf", spec := "fnExactQuotientsOf", unfollowed := true, recurses := true, plainKeys := false, apart := false }
def FnExactQuotientsOfSaid : Prop := fnExactQuotientsOfRow.holds Try.pinned (OpenSpec.ofChange fnExactQuotientsOfSpec)

/-- ITS FALSE NEIGHBOUR: 'it returns false'. Refute it at one input. -/
def fnExactQuotientsOfWrong : ChangeSpec := { name := "fnExactQuotientsOf", fn := fun _ => fun
  | [d1, d2] => { results := [.lit (.bool false)], args := [d1, d2] }
  | _ => none }
def FnExactQuotientsOfWrongFalsely : Prop := fnExactQuotientsOfRow.holds Try.pinned (OpenSpec.ofChange fnExactQuotientsOfWrong)

/-- 'laws.FnExactGeneratedPart': WHATEVER THE INPUT: true; the input reads as it did. -/
def fnExactGeneratedPartSpec : ChangeSpec := { name := "fnExactGeneratedPart", fn := fun _ => fun
  | [d1, d2] => { results := [.lit (.bool true)], args := [d1, d2] }
  | _ => none }
def fnExactGeneratedPartRow : OpenClaim := { program := "ytfknijkkogmidaa", sum := "a42fb2466bd09d5a736b72936c2b4105bc3c95173438d5678a56bab31b31026f", func := "loop.example/g01083/laws.FnExactGeneratedPart", spec := "fnExactGeneratedPart", unfollowed := true, recurses := true, plainKeys := false, apart := false }
def FnExactGeneratedPartSaid : Prop := fnExactGeneratedPartRow.holds Try.pinned (OpenSpec.ofChange fnExactGeneratedPartSpec)

/-- ITS FALSE NEIGHBOUR: 'it returns false'. Refute it at one input. -/
def fnExactGeneratedPartWrong : ChangeSpec := { name := "fnExactGeneratedPart", fn := fun _ => fun
  | [d1, d2] => { results := [.lit (.bool false)], args := [d1, d2] }
  | _ => none }
def FnExactGeneratedPartWrongFalsely : Prop := fnExactGeneratedPartRow.holds Try.pinned (OpenSpec.ofChange fnExactGeneratedPartWrong)

/- THE SECOND FORM. 'bulk': how many values and letters a reading holds, each counted each time it is reached (what is shared counts as often as it is met; a slice's spare places count too). A statement '..UptoSaid' is the law's where the arguments, and the package variables that the reading takes, are together of bulk at most 1048576: NARROWER than '..Said'. Prove '..Said' where nothing that the law and all that it calls make is longer than what came in: it says more and counts as full. Else prove '..UptoSaid'. A law counts once. -/
mutual
def uptoBulk {H : Type} : DataW H → Nat
  | .lit (.string bytes) => bytes.length + 1
  | .lit _ => 1
  | .nil => 1
  | .ptr d => uptoBulk d + 1
  | .slice elems spare => uptoBulkAll elems + uptoBulkAll spare + 1
  | .agg parts => uptoBulkAll parts + 1
  | .iface _ d => uptoBulk d + 1
  | .map entries => uptoBulkEntries entries + 1
  | .held _ => 1
def uptoBulkAll {H : Type} : List (DataW H) → Nat
  | [] => 0
  | d :: r => uptoBulk d + uptoBulkAll r
def uptoBulkEntries {H : Type} : List (Lit × DataW H) → Nat
  | [] => 0
  | x :: r => uptoBulkEntry x + uptoBulkEntries r
def uptoBulkEntry {H : Type} : Lit × DataW H → Nat
  | (.string bytes, d) => bytes.length + uptoBulk d + 1
  | (_, d) => uptoBulk d + 1
 end
def uptoSmall : (H : Type) → List (DataW H) → Bool := fun _ ds => decide (uptoBulkAll ds ≤ 1048576)
def OpenSpec.upto (s : _root_.Go.ChangeSpec) : _root_.Go.OpenSpec := { _root_.Go.OpenSpec.ofChange s with cond := some uptoSmall }

/-- 'laws.FnExactRenumberCategory', WHERE WHAT IT READS IS OF BULK AT MOST 1048576: true; the input reads as it did. -/
def fnExactRenumberCategoryUptoRow : OpenClaim := { program := "ytfknijkkogmidaa", sum := "a42fb2466bd09d5a736b72936c2b4105bc3c95173438d5678a56bab31b31026f", func := "loop.example/g01083/laws.FnExactRenumberCategory", spec := "fnExactRenumberCategory", unfollowed := true, recurses := true, plainKeys := false, apart := false, narrowed := true }
def FnExactRenumberCategoryUptoSaid : Prop := fnExactRenumberCategoryUptoRow.holds Try.pinned (OpenSpec.upto fnExactRenumberCategorySpec)

/-- 'laws.FnExactQuotientsOf', WHERE WHAT IT READS IS OF BULK AT MOST 1048576: true; the input reads as it did. -/
def fnExactQuotientsOfUptoRow : OpenClaim := { program := "ytfknijkkogmidaa", sum := "a42fb2466bd09d5a736b72936c2b4105bc3c95173438d5678a56bab31b31026f", func := "loop.example/g01083/laws.FnExactQuotientsOf", spec := "fnExactQuotientsOf", unfollowed := true, recurses := true, plainKeys := false, apart := false, narrowed := true }
def FnExactQuotientsOfUptoSaid : Prop := fnExactQuotientsOfUptoRow.holds Try.pinned (OpenSpec.upto fnExactQuotientsOfSpec)

/-- 'laws.FnExactGeneratedPart', WHERE WHAT IT READS IS OF BULK AT MOST 1048576: true; the input reads as it did. -/
def fnExactGeneratedPartUptoRow : OpenClaim := { program := "ytfknijkkogmidaa", sum := "a42fb2466bd09d5a736b72936c2b4105bc3c95173438d5678a56bab31b31026f", func := "loop.example/g01083/laws.FnExactGeneratedPart", spec := "fnExactGeneratedPart", unfollowed := true, recurses := true, plainKeys := false, apart := false, narrowed := true }
def FnExactGeneratedPartUptoSaid : Prop := fnExactGeneratedPartUptoRow.holds Try.pinned (OpenSpec.upto fnExactGeneratedPartSpec)

end Rows
end Go.Proofs.Ytfknijkkogmidaa
