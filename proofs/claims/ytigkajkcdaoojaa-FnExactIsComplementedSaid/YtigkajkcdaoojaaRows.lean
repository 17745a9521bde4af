/-
  No cell of these rows narrows 'for every input' (looked for: loops, veiled, ifaces, maps, wideKeys, modest, calm, conditions, laid).
  DERIVED. THE GIVEN ROWS OF THIS SEAT. 8 by the template 'for every input the law returns true; each argument reads behind the call as it read before'; 0 by the template 'total and deterministic' (their statements: YtigkajkcdaoojaaTotals.lean).
  GIVEN WITH THE SEED: the statements are not yours to turn. If you find one false, say at which input.
  Laid BY PROGRAM, IN A SANDBOX (cutbox-rows.mjs): the forced cells as the released guide's own fill.sh prints them over the translation 280eedbf8e079dc0… (all of the seat's roots in one cut). By AI agents, Wed Nov 11 2026. No macro, syntax, notation, axiom, sorry.
-/
import Derived.Test.YtigkajkcdaoojaaChecked
import GoSem.Claim
import GoSem.ClaimJoined
import GoSem.ClaimMapViews
import Derived.JoinedTies
import Derived.KernelRfl
namespace Go.Proofs.Ytigkajkcdaoojaa
/- THE CELL 'sum', in the pinned program and in every row, IS THE sha256 OF THE DUMP (.gsa) THAT YtigkajkcdaoojaaProg.lean LOADS. Nothing in Lean hashes anything: it is a label: what it is worth is what the hold of that sum in a sandbox is worth. -/
noncomputable def Try.pinned : Pinned := { name := "ytigkajkcdaoojaa", sum := "280eedbf8e079dc00eb609b5a9a061fadcc9df4338e91ad07e44036fb29ab2ff", checked := Try.checked }
namespace Rows
def none {H : Type} : Left H := { results := [], args := [] }

/-- 'laws.FnExactIsOpfibration': WHATEVER THE INPUT: true; the input reads as it did. -/
def fnExactIsOpfibrationSpec : ChangeSpec := { name := "fnExactIsOpfibration", fn := fun _ => fun
  | [d] => { results := [.lit (.bool true)], args := [d] }
  | _ => none }
def fnExactIsOpfibrationRow : OpenClaim := { program := "ytigkajkcdaoojaa", sum := "280eedbf8e079dc00eb609b5a9a061fadcc9df4338e91ad07e44036fb29ab2ff", func := "loop.example/g01083/laws.FnExactIsOpfibration", spec := "fnExactIsOpfibration", unfollowed := true, recurses := true, apart := false }
def FnExactIsOpfibrationSaid : Prop := fnExactIsOpfibrationRow.holds Try.pinned (OpenSpec.ofChange fnExactIsOpfibrationSpec)

/-- ITS FALSE NEIGHBOUR: 'it returns false'. Refute it at one input. -/
def fnExactIsOpfibrationWrong : ChangeSpec := { name := "fnExactIsOpfibration", fn := fun _ => fun
  | [d] => { results := [.lit (.bool false)], args := [d] }
  | _ => none }
def FnExactIsOpfibrationWrongFalsely : Prop := fnExactIsOpfibrationRow.holds Try.pinned (OpenSpec.ofChange fnExactIsOpfibrationWrong)

/-- 'laws.FnExactIsInjectiveMap': WHATEVER THE INPUT: true; the input reads as it did. -/
def fnExactIsInjectiveMapSpec : ChangeSpec := { name := "fnExactIsInjectiveMap", fn := fun _ => fun
  | [d] => { results := [.lit (.bool true)], args := [d] }
  | _ => none }
def fnExactIsInjectiveMapRow : OpenClaim := { program := "ytigkajkcdaoojaa", sum := "280eedbf8e079dc00eb609b5a9a061fadcc9df4338e91ad07e44036fb29ab2ff", func := "loop.example/g01083/laws.FnExactIsInjectiveMap", spec := "fnExactIsInjectiveMap", apart := false }
def FnExactIsInjectiveMapSaid : Prop := fnExactIsInjectiveMapRow.holds Try.pinned (OpenSpec.ofChange fnExactIsInjectiveMapSpec)

/-- ITS FALSE NEIGHBOUR: 'it returns false'. Refute it at one input. -/
def fnExactIsInjectiveMapWrong : ChangeSpec := { name := "fnExactIsInjectiveMap", fn := fun _ => fun
  | [d] => { results := [.lit (.bool false)], args := [d] }
  | _ => none }
def FnExactIsInjectiveMapWrongFalsely : Prop := fnExactIsInjectiveMapRow.holds Try.pinned (OpenSpec.ofChange fnExactIsInjectiveMapWrong)

/-- 'laws.FnExactIsSurjectiveMap': WHATEVER THE INPUT: true; the input reads as it did. -/
def fnExactIsSurjectiveMapSpec : ChangeSpec := { name := "fnExactIsSurjectiveMap", fn := fun _ => fun
  | [d] => { results := [.lit (.bool true)], args := [d] }
  | _ => none }
def fnExactIsSurjectiveMapRow : OpenClaim := { program := "ytigkajkcdaoojaa", sum := "280eedbf8e079dc00eb609b5a9a061fadcc9df4338e91ad07e44036fb29ab2ff", func := "loop.example/g01083/laws.FnExactIsSurjectiveMap", spec := "fnExactIsSurjectiveMap", apart := false }
def FnExactIsSurjectiveMapSaid : Prop := fnExactIsSurjectiveMapRow.holds Try.pinned (OpenSpec.ofChange fnExactIsSurjectiveMapSpec)

/-- ITS FALSE NEIGHBOUR: 'it returns false'. Refute it at one input. -/
def fnExactIsSurjectiveMapWrong : ChangeSpec := { name := "fnExactIsSurjectiveMap", fn := fun _ => fun
  | [d] => { results := [.lit (.bool false)], args := [d] }
  | _ => none }
def FnExactIsSurjectiveMapWrongFalsely : Prop := fnExactIsSurjectiveMapRow.holds Try.pinned (OpenSpec.ofChange fnExactIsSurjectiveMapWrong)

/-- 'laws.FnExactDiagramValue': WHATEVER THE INPUT: true; the input reads as it did. -/
def fnExactDiagramValueSpec : ChangeSpec := { name := "fnExactDiagramValue", fn := fun _ => fun
  | [d1, d2] => { results := [.lit (.bool true)], args := [d1, d2] }
  | _ => none }
def fnExactDiagramValueRow : OpenClaim := { program := "ytigkajkcdaoojaa", sum := "280eedbf8e079dc00eb609b5a9a061fadcc9df4338e91ad07e44036fb29ab2ff", func := "loop.example/g01083/laws.FnExactDiagramValue", spec := "fnExactDiagramValue", recurses := true, apart := false }
def FnExactDiagramValueSaid : Prop := fnExactDiagramValueRow.holds Try.pinned (OpenSpec.ofChange fnExactDiagramValueSpec)

/-- ITS FALSE NEIGHBOUR: 'it returns false'. Refute it at one input. -/
def fnExactDiagramValueWrong : ChangeSpec := { name := "fnExactDiagramValue", fn := fun _ => fun
  | [d1, d2] => { results := [.lit (.bool false)], args := [d1, d2] }
  | _ => none }
def FnExactDiagramValueWrongFalsely : Prop := fnExactDiagramValueRow.holds Try.pinned (OpenSpec.ofChange fnExactDiagramValueWrong)

/-- 'laws.FnExactIsDensePart': WHATEVER THE INPUT: true; the input reads as it did. -/
def fnExactIsDensePartSpec : ChangeSpec := { name := "fnExactIsDensePart", fn := fun _ => fun
  | [d1, d2] => { results := [.lit (.bool true)], args := [d1, d2] }
  | _ => none }
def fnExactIsDensePartRow : OpenClaim := { program := "ytigkajkcdaoojaa", sum := "280eedbf8e079dc00eb609b5a9a061fadcc9df4338e91ad07e44036fb29ab2ff", func := "loop.example/g01083/laws.FnExactIsDensePart", spec := "fnExactIsDensePart", unfollowed := true, recurses := true, apart := false }
def FnExactIsDensePartSaid : Prop := fnExactIsDensePartRow.holds Try.pinned (OpenSpec.ofChange fnExactIsDensePartSpec)

/-- ITS FALSE NEIGHBOUR: 'it returns false'. Refute it at one input. -/
def fnExactIsDensePartWrong : ChangeSpec := { name := "fnExactIsDensePart", fn := fun _ => fun
  | [d1, d2] => { results := [.lit (.bool false)], args := [d1, d2] }
  | _ => none }
def FnExactIsDensePartWrongFalsely : Prop := fnExactIsDensePartRow.holds Try.pinned (OpenSpec.ofChange fnExactIsDensePartWrong)

/-- 'laws.FnExactIsComplemented': WHATEVER THE INPUT: true; the input reads as it did. -/
def fnExactIsComplementedSpec : ChangeSpec := { name := "fnExactIsComplemented", fn := fun _ => fun
  | [d1, d2] => { results := [.lit (.bool true)], args := [d1, d2] }
  | _ => none }
def fnExactIsComplementedRow : OpenClaim := { program := "ytigkajkcdaoojaa", sum := "280eedbf8e079dc00eb609b5a9a061fadcc9df4338e91ad07e44036fb29ab2ff", func := "loop.example/g01083/laws.FnExactIsComplemented", spec := "fnExactIsComplemented", unfollowed := true, recurses := true, apart := false }
def FnExactIsComplementedSaid : Prop := fnExactIsComplementedRow.holds Try.pinned (OpenSpec.ofChange fnExactIsComplementedSpec)

/-- ITS FALSE NEIGHBOUR: 'it returns false'. Refute it at one input. -/
def fnExactIsComplementedWrong : ChangeSpec := { name := "fnExactIsComplemented", fn := fun _ => fun
  | [d1, d2] => { results := [.lit (.bool false)], args := [d1, d2] }
  | _ => none }
def FnExactIsComplementedWrongFalsely : Prop := fnExactIsComplementedRow.holds Try.pinned (OpenSpec.ofChange fnExactIsComplementedWrong)

/-- 'laws.FnExactImplyParts': WHATEVER THE INPUT: true; the input reads as it did. -/
def fnExactImplyPartsSpec : ChangeSpec := { name := "fnExactImplyParts", fn := fun _ => fun
  | [d1, d2, d3] => { results := [.lit (.bool true)], args := [d1, d2, d3] }
  | _ => none }
def fnExactImplyPartsRow : OpenClaim := { program := "ytigkajkcdaoojaa", sum := "280eedbf8e079dc00eb609b5a9a061fadcc9df4338e91ad07e44036fb29ab2ff", func := "loop.example/g01083/laws.FnExactImplyParts", spec := "fnExactImplyParts", unfollowed := true, recurses := true, apart := false }
def FnExactImplyPartsSaid : Prop := fnExactImplyPartsRow.holds Try.pinned (OpenSpec.ofChange fnExactImplyPartsSpec)

/-- ITS FALSE NEIGHBOUR: 'it returns false'. Refute it at one input. -/
def fnExactImplyPartsWrong : ChangeSpec := { name := "fnExactImplyParts", fn := fun _ => fun
  | [d1, d2, d3] => { results := [.lit (.bool false)], args := [d1, d2, d3] }
  | _ => none }
def FnExactImplyPartsWrongFalsely : Prop := fnExactImplyPartsRow.holds Try.pinned (OpenSpec.ofChange fnExactImplyPartsWrong)

/-- 'laws.FnExactNegatePart': WHATEVER THE INPUT: true; the input reads as it did. -/
def fnExactNegatePartSpec : ChangeSpec := { name := "fnExactNegatePart", fn := fun _ => fun
  | [d1, d2] => { results := [.lit (.bool true)], args := [d1, d2] }
  | _ => none }
def fnExactNegatePartRow : OpenClaim := { program := "ytigkajkcdaoojaa", sum := "280eedbf8e079dc00eb609b5a9a061fadcc9df4338e91ad07e44036fb29ab2ff", func := "loop.example/g01083/laws.FnExactNegatePart", spec := "fnExactNegatePart", unfollowed := true, recurses := true, apart := false }
def FnExactNegatePartSaid : Prop := fnExactNegatePartRow.holds Try.pinned (OpenSpec.ofChange fnExactNegatePartSpec)

/-- ITS FALSE NEIGHBOUR: 'it returns false'. Refute it at one input. -/
def fnExactNegatePartWrong : ChangeSpec := { name := "fnExactNegatePart", fn := fun _ => fun
  | [d1, d2] => { results := [.lit (.bool false)], args := [d1, d2] }
  | _ => none }
def FnExactNegatePartWrongFalsely : Prop := fnExactNegatePartRow.holds Try.pinned (OpenSpec.ofChange fnExactNegatePartWrong)

/- THE SECOND FORM. 'bulk': how many values and letters a reading holds, each counted each time it is reached (what is shared counts as often as it is met; a slice's spare places count too). A statement '..UptoSaid' is the law's where the arguments, and the package variables that the reading takes, are together of bulk at most 1048576: NARROWER than '..Said'. Prove '..Said' where nothing that the law and all that it calls make is longer than what came in: it says more and counts as full. Else prove '..UptoSaid'. A law counts once. -/
mutual
def uptoBulk {H : Type} : DataW H → Nat
  | .lit (.string bytes) => bytes.length + 1
  | .lit _ => 1
  | .nil => 1
  | .ptr d => uptoBulk d + 1
  | .slice elems spare => uptoBulkAll elems + uptoBulkAll spare + 1
  | .agg parts => uptoBulkAll parts + 1
  | .iface _ d => uptoBulk d + 1
  | .map entries => uptoBulkEntries entries + 1
  | .held _ => 1
def uptoBulkAll {H : Type} : List (DataW H) → Nat
  | [] => 0
  | d :: r => uptoBulk d + uptoBulkAll r
def uptoBulkEntries {H : Type} : List (Lit × DataW H) → Nat
  | [] => 0
  | x :: r => uptoBulkEntry x + uptoBulkEntries r
def uptoBulkEntry {H : Type} : Lit × DataW H → Nat
  | (.string bytes, d) => bytes.length + uptoBulk d + 1
  | (_, d) => uptoBulk d + 1
 end
def uptoSmall : (H : Type) → List (DataW H) → Bool := fun _ ds => decide (uptoBulkAll ds ≤ 1048576)
def OpenSpec.upto (s : _root_.Go.ChangeSpec) : _root_.Go.OpenSpec := { _root_.Go.OpenSpec.ofChange s with cond := some uptoSmall }

/-- 'laws.FnExactIsOpfibration', WHERE WHAT IT READS IS OF BULK AT MOST 1048576: true; the input reads as it did. -/
def fnExactIsOpfibrationUptoRow : OpenClaim := { program := "ytigkajkcdaoojaa", sum := "280eedbf8e079dc00eb609b5a9a061fadcc9df4338e91ad07e44036fb29ab2ff", func := "loop.example/g01083/laws.FnExactIsOpfibration", spec := "fnExactIsOpfibration", unfollowed := true, recurses := true, apart := false, narrowed := true }
def FnExactIsOpfibrationUptoSaid : Prop := fnExactIsOpfibrationUptoRow.holds Try.pinned (OpenSpec.upto fnExactIsOpfibrationSpec)

/-- 'laws.FnExactIsInjectiveMap', WHERE WHAT IT READS IS OF BULK AT MOST 1048576: true; the input reads as it did. -/
def fnExactIsInjectiveMapUptoRow : OpenClaim := { program := "ytigkajkcdaoojaa", sum := "280eedbf8e079dc00eb609b5a9a061fadcc9df4338e91ad07e44036fb29ab2ff", func := "loop.example/g01083/laws.FnExactIsInjectiveMap", spec := "fnExactIsInjectiveMap", apart := false, narrowed := true }
def FnExactIsInjectiveMapUptoSaid : Prop := fnExactIsInjectiveMapUptoRow.holds Try.pinned (OpenSpec.upto fnExactIsInjectiveMapSpec)

/-- 'laws.FnExactIsSurjectiveMap', WHERE WHAT IT READS IS OF BULK AT MOST 1048576: true; the input reads as it did. -/
def fnExactIsSurjectiveMapUptoRow : OpenClaim := { program := "ytigkajkcdaoojaa", sum := "280eedbf8e079dc00eb609b5a9a061fadcc9df4338e91ad07e44036fb29ab2ff", func := "loop.example/g01083/laws.FnExactIsSurjectiveMap", spec := "fnExactIsSurjectiveMap", apart := false, narrowed := true }
def FnExactIsSurjectiveMapUptoSaid : Prop := fnExactIsSurjectiveMapUptoRow.holds Try.pinned (OpenSpec.upto fnExactIsSurjectiveMapSpec)

/-- 'laws.FnExactDiagramValue', WHERE WHAT IT READS IS OF BULK AT MOST 1048576: true; the input reads as it did. -/
def fnExactDiagramValueUptoRow : OpenClaim := { program := "ytigkajkcdaoojaa", sum := "280eedbf8e079dc00eb609b5a9a061fadcc9df4338e91ad07e44036fb29ab2ff", func := "loop.example/g01083/laws.FnExactDiagramValue", spec := "fnExactDiagramValue", recurses := true, apart := false, narrowed := true }
def FnExactDiagramValueUptoSaid : Prop := fnExactDiagramValueUptoRow.holds Try.pinned (OpenSpec.upto fnExactDiagramValueSpec)

/-- 'laws.FnExactIsDensePart', WHERE WHAT IT READS IS OF BULK AT MOST 1048576: true; the input reads as it did. -/
def fnExactIsDensePartUptoRow : OpenClaim := { program := "ytigkajkcdaoojaa", sum := "280eedbf8e079dc00eb609b5a9a061fadcc9df4338e91ad07e44036fb29ab2ff", func := "loop.example/g01083/laws.FnExactIsDensePart", spec := "fnExactIsDensePart", unfollowed := true, recurses := true, apart := false, narrowed := true }
def FnExactIsDensePartUptoSaid : Prop := fnExactIsDensePartUptoRow.holds Try.pinned (OpenSpec.upto fnExactIsDensePartSpec)

/-- 'laws.FnExactIsComplemented', WHERE WHAT IT READS IS OF BULK AT MOST 1048576: true; the input reads as it did. -/
def fnExactIsComplementedUptoRow : OpenClaim := { program := "ytigkajkcdaoojaa", sum := "280eedbf8e079dc00eb609b5a9a061fadcc9df4338e91ad07e44036fb29ab2ff", func := "loop.example/g01083/laws.FnExactIsComplemented", spec := "fnExactIsComplemented", unfollowed := true, recurses := true, apart := false, narrowed := true }
def FnExactIsComplementedUptoSaid : Prop := fnExactIsComplementedUptoRow.holds Try.pinned (OpenSpec.upto fnExactIsComplementedSpec)

/-- 'laws.FnExactImplyParts', WHERE WHAT IT READS IS OF BULK AT MOST 1048576: true; the input reads as it did. -/
def fnExactImplyPartsUptoRow : OpenClaim := { program := "ytigkajkcdaoojaa", sum := "280eedbf8e079dc00eb609b5a9a061fadcc9df4338e91ad07e44036fb29ab2ff", func := "loop.example/g01083/laws.FnExactImplyParts", spec := "fnExactImplyParts", unfollowed := true, recurses := true, apart := false, narrowed := true }
def FnExactImplyPartsUptoSaid : Prop := fnExactImplyPartsUptoRow.holds Try.pinned (OpenSpec.upto fnExactImplyPartsSpec)

/-- 'laws.FnExactNegatePart', WHERE WHAT IT READS IS OF BULK AT MOST 1048576: true; the input reads as it did. -/
def fnExactNegatePartUptoRow : OpenClaim := { program := "ytigkajkcdaoojaa", sum := "280eedbf8e079dc00eb609b5a9a061fadcc9df4338e91ad07e44036fb29ab2ff", func := "loop.example/g01083/laws.FnExactNegatePart", spec := "fnExactNegatePart", unfollowed := true, recurses := true, apart := false, narrowed := true }
def FnExactNegatePartUptoSaid : Prop := fnExactNegatePartUptoRow.holds Try.pinned (OpenSpec.upto fnExactNegatePartSpec)

end Rows
end Go.Proofs.Ytigkajkcdaoojaa
