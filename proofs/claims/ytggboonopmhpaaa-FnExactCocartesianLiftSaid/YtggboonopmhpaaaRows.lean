/-
  No cell of these rows narrows 'for every input' (looked for: loops, veiled, ifaces, maps, wideKeys, modest, calm, conditions, laid).
  DERIVED. THE GIVEN ROWS OF THIS SEAT. 8 by the template 'for every input the law returns true; each argument reads behind the call as it read before'; 0 by the template 'total and deterministic' (their statements: YtggboonopmhpaaaTotals.lean).
  GIVEN WITH THE SEED: the statements are not yours to turn. If you find one false, say at which input.
  Laid BY PROGRAM, IN A SANDBOX (cutbox-rows.mjs): the forced cells as the released guide's own fill.sh prints them over the translation fcc182989feeda32… (all of the seat's roots in one cut). By AI agents, Wed Nov 11 2026. No macro, syntax, notation, axiom, sorry.
-/
import Derived.Test.YtggboonopmhpaaaChecked
import GoSem.Claim
import GoSem.ClaimJoined
import GoSem.ClaimMapViews
import Derived.JoinedTies
import Derived.KernelRfl
namespace Go.Proofs.Ytggboonopmhpaaa
/- THE CELL 'sum', in the pinned program and in every row, IS THE sha256 OF THE DUMP (.gsa) THAT YtggboonopmhpaaaProg.lean LOADS. Nothing in Lean hashes anything: it is a label: what it is worth is what the hold of that sum in a sandbox is worth. -/
noncomputable def Try.pinned : Pinned := { name := "ytggboonopmhpaaa", sum := "fcc182989feeda3244e5c156155c4dffb07d95e6cb72eaef58549d544cbc103d", checked := Try.checked }
namespace Rows
def none {H : Type} : Left H := { results := [], args := [] }

/-- 'laws.FnExactLiftAt': WHATEVER THE INPUT: true; the input reads as it did. -/
def fnExactLiftAtSpec : ChangeSpec := { name := "fnExactLiftAt", fn := fun _ => fun
  | [d1, d2, d3] => { results := [.lit (.bool true)], args := [d1, d2, d3] }
  | _ => none }
def fnExactLiftAtRow : OpenClaim := { program := "ytggboonopmhpaaa", sum := "fcc182989feeda3244e5c156155c4dffb07d95e6cb72eaef58549d544cbc103d", func := "loop.example/g01083/laws.FnExactLiftAt", spec := "fnExactLiftAt", apart := false }
def FnExactLiftAtSaid : Prop := fnExactLiftAtRow.holds Try.pinned (OpenSpec.ofChange fnExactLiftAtSpec)

/-- ITS FALSE NEIGHBOUR: 'it returns false'. Refute it at one input. -/
def fnExactLiftAtWrong : ChangeSpec := { name := "fnExactLiftAt", fn := fun _ => fun
  | [d1, d2, d3] => { results := [.lit (.bool false)], args := [d1, d2, d3] }
  | _ => none }
def FnExactLiftAtWrongFalsely : Prop := fnExactLiftAtRow.holds Try.pinned (OpenSpec.ofChange fnExactLiftAtWrong)

/-- 'laws.FnExactTensorArrows': WHATEVER THE INPUT: true; the input reads as it did. -/
def fnExactTensorArrowsSpec : ChangeSpec := { name := "fnExactTensorArrows", fn := fun _ => fun
  | [d1, d2] => { results := [.lit (.bool true)], args := [d1, d2] }
  | _ => none }
def fnExactTensorArrowsRow : OpenClaim := { program := "ytggboonopmhpaaa", sum := "fcc182989feeda3244e5c156155c4dffb07d95e6cb72eaef58549d544cbc103d", func := "loop.example/g01083/laws.FnExactTensorArrows", spec := "fnExactTensorArrows", apart := false }
def FnExactTensorArrowsSaid : Prop := fnExactTensorArrowsRow.holds Try.pinned (OpenSpec.ofChange fnExactTensorArrowsSpec)

/-- ITS FALSE NEIGHBOUR: 'it returns false'. Refute it at one input. -/
def fnExactTensorArrowsWrong : ChangeSpec := { name := "fnExactTensorArrows", fn := fun _ => fun
  | [d1, d2] => { results := [.lit (.bool false)], args := [d1, d2] }
  | _ => none }
def FnExactTensorArrowsWrongFalsely : Prop := fnExactTensorArrowsRow.holds Try.pinned (OpenSpec.ofChange fnExactTensorArrowsWrong)

/-- 'laws.FnExactTensorObjects': WHATEVER THE INPUT: true; the input reads as it did. -/
def fnExactTensorObjectsSpec : ChangeSpec := { name := "fnExactTensorObjects", fn := fun _ => fun
  | [d1, d2] => { results := [.lit (.bool true)], args := [d1, d2] }
  | _ => none }
def fnExactTensorObjectsRow : OpenClaim := { program := "ytggboonopmhpaaa", sum := "fcc182989feeda3244e5c156155c4dffb07d95e6cb72eaef58549d544cbc103d", func := "loop.example/g01083/laws.FnExactTensorObjects", spec := "fnExactTensorObjects", apart := false }
def FnExactTensorObjectsSaid : Prop := fnExactTensorObjectsRow.holds Try.pinned (OpenSpec.ofChange fnExactTensorObjectsSpec)

/-- ITS FALSE NEIGHBOUR: 'it returns false'. Refute it at one input. -/
def fnExactTensorObjectsWrong : ChangeSpec := { name := "fnExactTensorObjects", fn := fun _ => fun
  | [d1, d2] => { results := [.lit (.bool false)], args := [d1, d2] }
  | _ => none }
def FnExactTensorObjectsWrongFalsely : Prop := fnExactTensorObjectsRow.holds Try.pinned (OpenSpec.ofChange fnExactTensorObjectsWrong)

/-- 'laws.FnExactIsCocartesian': WHATEVER THE INPUT: true; the input reads as it did. -/
def fnExactIsCocartesianSpec : ChangeSpec := { name := "fnExactIsCocartesian", fn := fun _ => fun
  | [d1, d2] => { results := [.lit (.bool true)], args := [d1, d2] }
  | _ => none }
def fnExactIsCocartesianRow : OpenClaim := { program := "ytggboonopmhpaaa", sum := "fcc182989feeda3244e5c156155c4dffb07d95e6cb72eaef58549d544cbc103d", func := "loop.example/g01083/laws.FnExactIsCocartesian", spec := "fnExactIsCocartesian", apart := false }
def FnExactIsCocartesianSaid : Prop := fnExactIsCocartesianRow.holds Try.pinned (OpenSpec.ofChange fnExactIsCocartesianSpec)

/-- ITS FALSE NEIGHBOUR: 'it returns false'. Refute it at one input. -/
def fnExactIsCocartesianWrong : ChangeSpec := { name := "fnExactIsCocartesian", fn := fun _ => fun
  | [d1, d2] => { results := [.lit (.bool false)], args := [d1, d2] }
  | _ => none }
def FnExactIsCocartesianWrongFalsely : Prop := fnExactIsCocartesianRow.holds Try.pinned (OpenSpec.ofChange fnExactIsCocartesianWrong)

/-- 'laws.FnExactIsMonoidObject': WHATEVER THE INPUT: true; the input reads as it did. -/
def fnExactIsMonoidObjectSpec : ChangeSpec := { name := "fnExactIsMonoidObject", fn := fun _ => fun
  | [d1, d2, d3, d4] => { results := [.lit (.bool true)], args := [d1, d2, d3, d4] }
  | _ => none }
def fnExactIsMonoidObjectRow : OpenClaim := { program := "ytggboonopmhpaaa", sum := "fcc182989feeda3244e5c156155c4dffb07d95e6cb72eaef58549d544cbc103d", func := "loop.example/g01083/laws.FnExactIsMonoidObject", spec := "fnExactIsMonoidObject", apart := false }
def FnExactIsMonoidObjectSaid : Prop := fnExactIsMonoidObjectRow.holds Try.pinned (OpenSpec.ofChange fnExactIsMonoidObjectSpec)

/-- ITS FALSE NEIGHBOUR: 'it returns false'. Refute it at one input. -/
def fnExactIsMonoidObjectWrong : ChangeSpec := { name := "fnExactIsMonoidObject", fn := fun _ => fun
  | [d1, d2, d3, d4] => { results := [.lit (.bool false)], args := [d1, d2, d3, d4] }
  | _ => none }
def FnExactIsMonoidObjectWrongFalsely : Prop := fnExactIsMonoidObjectRow.holds Try.pinned (OpenSpec.ofChange fnExactIsMonoidObjectWrong)

/-- 'laws.FnExactCocartesianLift': WHATEVER THE INPUT: true; the input reads as it did. -/
def fnExactCocartesianLiftSpec : ChangeSpec := { name := "fnExactCocartesianLift", fn := fun _ => fun
  | [d1, d2, d3] => { results := [.lit (.bool true)], args := [d1, d2, d3] }
  | _ => none }
def fnExactCocartesianLiftRow : OpenClaim := { program := "ytggboonopmhpaaa", sum := "fcc182989feeda3244e5c156155c4dffb07d95e6cb72eaef58549d544cbc103d", func := "loop.example/g01083/laws.FnExactCocartesianLift", spec := "fnExactCocartesianLift", apart := false }
def FnExactCocartesianLiftSaid : Prop := fnExactCocartesianLiftRow.holds Try.pinned (OpenSpec.ofChange fnExactCocartesianLiftSpec)

/-- ITS FALSE NEIGHBOUR: 'it returns false'. Refute it at one input. -/
def fnExactCocartesianLiftWrong : ChangeSpec := { name := "fnExactCocartesianLift", fn := fun _ => fun
  | [d1, d2, d3] => { results := [.lit (.bool false)], args := [d1, d2, d3] }
  | _ => none }
def FnExactCocartesianLiftWrongFalsely : Prop := fnExactCocartesianLiftRow.holds Try.pinned (OpenSpec.ofChange fnExactCocartesianLiftWrong)

/-- 'laws.FnExactIsBraiding': WHATEVER THE INPUT: true; the input reads as it did. -/
def fnExactIsBraidingSpec : ChangeSpec := { name := "fnExactIsBraiding", fn := fun _ => fun
  | [d1, d2] => { results := [.lit (.bool true)], args := [d1, d2] }
  | _ => none }
def fnExactIsBraidingRow : OpenClaim := { program := "ytggboonopmhpaaa", sum := "fcc182989feeda3244e5c156155c4dffb07d95e6cb72eaef58549d544cbc103d", func := "loop.example/g01083/laws.FnExactIsBraiding", spec := "fnExactIsBraiding", apart := false }
def FnExactIsBraidingSaid : Prop := fnExactIsBraidingRow.holds Try.pinned (OpenSpec.ofChange fnExactIsBraidingSpec)

/-- ITS FALSE NEIGHBOUR: 'it returns false'. Refute it at one input. -/
def fnExactIsBraidingWrong : ChangeSpec := { name := "fnExactIsBraiding", fn := fun _ => fun
  | [d1, d2] => { results := [.lit (.bool false)], args := [d1, d2] }
  | _ => none }
def FnExactIsBraidingWrongFalsely : Prop := fnExactIsBraidingRow.holds Try.pinned (OpenSpec.ofChange fnExactIsBraidingWrong)

/-- 'laws.FnExactIsSymmetry': WHATEVER THE INPUT: true; the input reads as it did. -/
def fnExactIsSymmetrySpec : ChangeSpec := { name := "fnExactIsSymmetry", fn := fun _ => fun
  | [d1, d2] => { results := [.lit (.bool true)], args := [d1, d2] }
  | _ => none }
def fnExactIsSymmetryRow : OpenClaim := { program := "ytggboonopmhpaaa", sum := "fcc182989feeda3244e5c156155c4dffb07d95e6cb72eaef58549d544cbc103d", func := "loop.example/g01083/laws.FnExactIsSymmetry", spec := "fnExactIsSymmetry", apart := false }
def FnExactIsSymmetrySaid : Prop := fnExactIsSymmetryRow.holds Try.pinned (OpenSpec.ofChange fnExactIsSymmetrySpec)

/-- ITS FALSE NEIGHBOUR: 'it returns false'. Refute it at one input. -/
def fnExactIsSymmetryWrong : ChangeSpec := { name := "fnExactIsSymmetry", fn := fun _ => fun
  | [d1, d2] => { results := [.lit (.bool false)], args := [d1, d2] }
  | _ => none }
def FnExactIsSymmetryWrongFalsely : Prop := fnExactIsSymmetryRow.holds Try.pinned (OpenSpec.ofChange fnExactIsSymmetryWrong)

/- THE SECOND FORM. 'bulk': how many values and letters a reading holds, each counted each time it is reached (what is shared counts as often as it is met; a slice's spare places count too). A statement '..UptoSaid' is the law's where the arguments, and the package variables that the reading takes, are together of bulk at most 1048576: NARROWER than '..Said'. Prove '..Said' where nothing that the law and all that it calls make is longer than what came in: it says more and counts as full. Else prove '..UptoSaid'. A law counts once. -/
mutual
def uptoBulk {H : Type} : DataW H → Nat
  | .lit (.string bytes) => bytes.length + 1
  | .lit _ => 1
  | .nil => 1
  | .ptr d => uptoBulk d + 1
  | .slice elems spare => uptoBulkAll elems + uptoBulkAll spare + 1
  | .agg parts => uptoBulkAll parts + 1
  | .iface _ d => uptoBulk d + 1
  | .map entries => uptoBulkEntries entries + 1
  | .held _ => 1
def uptoBulkAll {H : Type} : List (DataW H) → Nat
  | [] => 0
  | d :: r => uptoBulk d + uptoBulkAll r
def uptoBulkEntries {H : Type} : List (Lit × DataW H) → Nat
  | [] => 0
  | x :: r => uptoBulkEntry x + uptoBulkEntries r
def uptoBulkEntry {H : Type} : Lit × DataW H → Nat
  | (.string bytes, d) => bytes.length + uptoBulk d + 1
  | (_, d) => uptoBulk d + 1
 end
def uptoSmall : (H : Type) → List (DataW H) → Bool := fun _ ds => decide (uptoBulkAll ds ≤ 1048576)
def OpenSpec.upto (s : _root_.Go.ChangeSpec) : _root_.Go.OpenSpec := { _root_.Go.OpenSpec.ofChange s with cond := some uptoSmall }

/-- 'laws.FnExactLiftAt', WHERE WHAT IT READS IS OF BULK AT MOST 1048576: true; the input reads as it did. -/
def fnExactLiftAtUptoRow : OpenClaim := { program := "ytggboonopmhpaaa", sum := "fcc182989feeda3244e5c156155c4dffb07d95e6cb72eaef58549d544cbc103d", func := "loop.example/g01083/laws.FnExactLiftAt", spec := "fnExactLiftAt", apart := false, narrowed := true }
def FnExactLiftAtUptoSaid : Prop := fnExactLiftAtUptoRow.holds Try.pinned (OpenSpec.upto fnExactLiftAtSpec)

/-- 'laws.FnExactTensorArrows', WHERE WHAT IT READS IS OF BULK AT MOST 1048576: true; the input reads as it did. -/
def fnExactTensorArrowsUptoRow : OpenClaim := { program := "ytggboonopmhpaaa", sum := "fcc182989feeda3244e5c156155c4dffb07d95e6cb72eaef58549d544cbc103d", func := "loop.example/g01083/laws.FnExactTensorArrows", spec := "fnExactTensorArrows", apart := false, narrowed := true }
def FnExactTensorArrowsUptoSaid : Prop := fnExactTensorArrowsUptoRow.holds Try.pinned (OpenSpec.upto fnExactTensorArrowsSpec)

/-- 'laws.FnExactTensorObjects', WHERE WHAT IT READS IS OF BULK AT MOST 1048576: true; the input reads as it did. -/
def fnExactTensorObjectsUptoRow : OpenClaim := { program := "ytggboonopmhpaaa", sum := "fcc182989feeda3244e5c156155c4dffb07d95e6cb72eaef58549d544cbc103d", func := "loop.example/g01083/laws.FnExactTensorObjects", spec := "fnExactTensorObjects", apart := false, narrowed := true }
def FnExactTensorObjectsUptoSaid : Prop := fnExactTensorObjectsUptoRow.holds Try.pinned (OpenSpec.upto fnExactTensorObjectsSpec)

/-- 'laws.FnExactIsCocartesian', WHERE WHAT IT READS IS OF BULK AT MOST 1048576: true; the input reads as it did. -/
def fnExactIsCocartesianUptoRow : OpenClaim := { program := "ytggboonopmhpaaa", sum := "fcc182989feeda3244e5c156155c4dffb07d95e6cb72eaef58549d544cbc103d", func := "loop.example/g01083/laws.FnExactIsCocartesian", spec := "fnExactIsCocartesian", apart := false, narrowed := true }
def FnExactIsCocartesianUptoSaid : Prop := fnExactIsCocartesianUptoRow.holds Try.pinned (OpenSpec.upto fnExactIsCocartesianSpec)

/-- 'laws.FnExactIsMonoidObject', WHERE WHAT IT READS IS OF BULK AT MOST 1048576: true; the input reads as it did. -/
def fnExactIsMonoidObjectUptoRow : OpenClaim := { program := "ytggboonopmhpaaa", sum := "fcc182989feeda3244e5c156155c4dffb07d95e6cb72eaef58549d544cbc103d", func := "loop.example/g01083/laws.FnExactIsMonoidObject", spec := "fnExactIsMonoidObject", apart := false, narrowed := true }
def FnExactIsMonoidObjectUptoSaid : Prop := fnExactIsMonoidObjectUptoRow.holds Try.pinned (OpenSpec.upto fnExactIsMonoidObjectSpec)

/-- 'laws.FnExactCocartesianLift', WHERE WHAT IT READS IS OF BULK AT MOST 1048576: true; the input reads as it did. -/
def fnExactCocartesianLiftUptoRow : OpenClaim := { program := "ytggboonopmhpaaa", sum := "fcc182989feeda3244e5c156155c4dffb07d95e6cb72eaef58549d544cbc103d", func := "loop.example/g01083/laws.FnExactCocartesianLift", spec := "fnExactCocartesianLift", apart := false, narrowed := true }
def FnExactCocartesianLiftUptoSaid : Prop := fnExactCocartesianLiftUptoRow.holds Try.pinned (OpenSpec.upto fnExactCocartesianLiftSpec)

/-- 'laws.FnExactIsBraiding', WHERE WHAT IT READS IS OF BULK AT MOST 1048576: true; the input reads as it did. -/
def fnExactIsBraidingUptoRow : OpenClaim := { program := "ytggboonopmhpaaa", sum := "fcc182989feeda3244e5c156155c4dffb07d95e6cb72eaef58549d544cbc103d", func := "loop.example/g01083/laws.FnExactIsBraiding", spec := "fnExactIsBraiding", apart := false, narrowed := true }
def FnExactIsBraidingUptoSaid : Prop := fnExactIsBraidingUptoRow.holds Try.pinned (OpenSpec.upto fnExactIsBraidingSpec)

/-- 'laws.FnExactIsSymmetry', WHERE WHAT IT READS IS OF BULK AT MOST 1048576: true; the input reads as it did. -/
def fnExactIsSymmetryUptoRow : OpenClaim := { program := "ytggboonopmhpaaa", sum := "fcc182989feeda3244e5c156155c4dffb07d95e6cb72eaef58549d544cbc103d", func := "loop.example/g01083/laws.FnExactIsSymmetry", spec := "fnExactIsSymmetry", apart := false, narrowed := true }
def FnExactIsSymmetryUptoSaid : Prop := fnExactIsSymmetryUptoRow.holds Try.pinned (OpenSpec.upto fnExactIsSymmetrySpec)

end Rows
end Go.Proofs.Ytggboonopmhpaaa
