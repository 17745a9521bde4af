/-
  No cell of these rows narrows 'for every input' (looked for: loops, veiled, ifaces, maps, wideKeys, modest, calm, conditions, laid).
  DERIVED. THE GIVEN ROWS OF THIS SEAT. 4 by the template 'for every input the law returns true; each argument reads behind the call as it read before'; 0 by the template 'total and deterministic' (their statements: YtdcandojebpfnaaTotals.lean).
  GIVEN WITH THE SEED: the statements are not yours to turn. If you find one false, say at which input.
  Laid BY PROGRAM, IN A SANDBOX (cutbox-rows.mjs): the forced cells as the released guide's own fill.sh prints them over the translation f1de0f3ebe74cd7d… (all of the seat's roots in one cut). By AI agents, Wed Nov 11 2026. No macro, syntax, notation, axiom, sorry.
-/
import Derived.Test.YtdcandojebpfnaaChecked
import GoSem.Claim
import GoSem.ClaimJoined
import GoSem.ClaimMapViews
import Derived.JoinedTies
import Derived.KernelRfl
namespace Go.Proofs.Ytdcandojebpfnaa
/- THE CELL 'sum', in the pinned program and in every row, IS THE sha256 OF THE DUMP (.gsa) THAT YtdcandojebpfnaaProg.lean LOADS. Nothing in Lean hashes anything: it is a label: what it is worth is what the hold of that sum in a sandbox is worth. -/
noncomputable def Try.pinned : Pinned := { name := "ytdcandojebpfnaa", sum := "f1de0f3ebe74cd7df9666e547435b2e541c85d20725ef3dfb5f48388202bac13", checked := Try.checked }
namespace Rows
def none {H : Type} : Left H := { results := [], args := [] }

/-- 'laws.FnTensors': WHATEVER THE INPUT: true; the input reads as it did. -/
def fnTensorsSpec : ChangeSpec := { name := "fnTensors", fn := fun _ => fun
  | [d] => { results := [.lit (.bool true)], args := [d] }
  | _ => none }
def fnTensorsRow : OpenClaim := { program := "ytdcandojebpfnaa", sum := "f1de0f3ebe74cd7df9666e547435b2e541c85d20725ef3dfb5f48388202bac13", func := "loop.example/g01083/laws.FnTensors", spec := "fnTensors", apart := false }
def FnTensorsSaid : Prop := fnTensorsRow.holds Try.pinned (OpenSpec.ofChange fnTensorsSpec)

/-- ITS FALSE NEIGHBOUR: 'it returns false'. Refute it at one input. -/
def fnTensorsWrong : ChangeSpec := { name := "fnTensors", fn := fun _ => fun
  | [d] => { results := [.lit (.bool false)], args := [d] }
  | _ => none }
def FnTensorsWrongFalsely : Prop := fnTensorsRow.holds Try.pinned (OpenSpec.ofChange fnTensorsWrong)

/-- 'laws.FnExactCompletionOf': WHATEVER THE INPUT: true; the input reads as it did. -/
def fnExactCompletionOfSpec : ChangeSpec := { name := "fnExactCompletionOf", fn := fun _ => fun
  | [d] => { results := [.lit (.bool true)], args := [d] }
  | _ => none }
def fnExactCompletionOfRow : OpenClaim := { program := "ytdcandojebpfnaa", sum := "f1de0f3ebe74cd7df9666e547435b2e541c85d20725ef3dfb5f48388202bac13", func := "loop.example/g01083/laws.FnExactCompletionOf", spec := "fnExactCompletionOf", unfollowed := true, recurses := true, apart := false }
def FnExactCompletionOfSaid : Prop := fnExactCompletionOfRow.holds Try.pinned (OpenSpec.ofChange fnExactCompletionOfSpec)

/-- ITS FALSE NEIGHBOUR: 'it returns false'. Refute it at one input. -/
def fnExactCompletionOfWrong : ChangeSpec := { name := "fnExactCompletionOf", fn := fun _ => fun
  | [d] => { results := [.lit (.bool false)], args := [d] }
  | _ => none }
def FnExactCompletionOfWrongFalsely : Prop := fnExactCompletionOfRow.holds Try.pinned (OpenSpec.ofChange fnExactCompletionOfWrong)

/-- 'laws.FnExactSchemaOf': WHATEVER THE INPUT: true; the input reads as it did. -/
def fnExactSchemaOfSpec : ChangeSpec := { name := "fnExactSchemaOf", fn := fun _ => fun
  | [d] => { results := [.lit (.bool true)], args := [d] }
  | _ => none }
def fnExactSchemaOfRow : OpenClaim := { program := "ytdcandojebpfnaa", sum := "f1de0f3ebe74cd7df9666e547435b2e541c85d20725ef3dfb5f48388202bac13", func := "loop.example/g01083/laws.FnExactSchemaOf", spec := "fnExactSchemaOf", apart := false }
def FnExactSchemaOfSaid : Prop := fnExactSchemaOfRow.holds Try.pinned (OpenSpec.ofChange fnExactSchemaOfSpec)

/-- ITS FALSE NEIGHBOUR: 'it returns false'. Refute it at one input. -/
def fnExactSchemaOfWrong : ChangeSpec := { name := "fnExactSchemaOf", fn := fun _ => fun
  | [d] => { results := [.lit (.bool false)], args := [d] }
  | _ => none }
def FnExactSchemaOfWrongFalsely : Prop := fnExactSchemaOfRow.holds Try.pinned (OpenSpec.ofChange fnExactSchemaOfWrong)

/-- 'laws.FnPathsComposed': WHATEVER THE INPUT: true; the input reads as it did. -/
def fnPathsComposedSpec : ChangeSpec := { name := "fnPathsComposed", fn := fun _ => fun
  | [d] => { results := [.lit (.bool true)], args := [d] }
  | _ => none }
def fnPathsComposedRow : OpenClaim := { program := "ytdcandojebpfnaa", sum := "f1de0f3ebe74cd7df9666e547435b2e541c85d20725ef3dfb5f48388202bac13", func := "loop.example/g01083/laws.FnPathsComposed", spec := "fnPathsComposed", unfollowed := true, recurses := true, apart := false }
def FnPathsComposedSaid : Prop := fnPathsComposedRow.holds Try.pinned (OpenSpec.ofChange fnPathsComposedSpec)

/-- ITS FALSE NEIGHBOUR: 'it returns false'. Refute it at one input. -/
def fnPathsComposedWrong : ChangeSpec := { name := "fnPathsComposed", fn := fun _ => fun
  | [d] => { results := [.lit (.bool false)], args := [d] }
  | _ => none }
def FnPathsComposedWrongFalsely : Prop := fnPathsComposedRow.holds Try.pinned (OpenSpec.ofChange fnPathsComposedWrong)

/- THE SECOND FORM. 'bulk': how many values and letters a reading holds, each counted each time it is reached (what is shared counts as often as it is met; a slice's spare places count too). A statement '..UptoSaid' is the law's where the arguments, and the package variables that the reading takes, are together of bulk at most 1048576: NARROWER than '..Said'. Prove '..Said' where nothing that the law and all that it calls make is longer than what came in: it says more and counts as full. Else prove '..UptoSaid'. A law counts once. -/
mutual
def uptoBulk {H : Type} : DataW H → Nat
  | .lit (.string bytes) => bytes.length + 1
  | .lit _ => 1
  | .nil => 1
  | .ptr d => uptoBulk d + 1
  | .slice elems spare => uptoBulkAll elems + uptoBulkAll spare + 1
  | .agg parts => uptoBulkAll parts + 1
  | .iface _ d => uptoBulk d + 1
  | .map entries => uptoBulkEntries entries + 1
  | .held _ => 1
def uptoBulkAll {H : Type} : List (DataW H) → Nat
  | [] => 0
  | d :: r => uptoBulk d + uptoBulkAll r
def uptoBulkEntries {H : Type} : List (Lit × DataW H) → Nat
  | [] => 0
  | x :: r => uptoBulkEntry x + uptoBulkEntries r
def uptoBulkEntry {H : Type} : Lit × DataW H → Nat
  | (.string bytes, d) => bytes.length + uptoBulk d + 1
  | (_, d) => uptoBulk d + 1
 end
def uptoSmall : (H : Type) → List (DataW H) → Bool := fun _ ds => decide (uptoBulkAll ds ≤ 1048576)
def OpenSpec.upto (s : _root_.Go.ChangeSpec) : _root_.Go.OpenSpec := { _root_.Go.OpenSpec.ofChange s with cond := some uptoSmall }

/-- 'laws.FnTensors', WHERE WHAT IT READS IS OF BULK AT MOST 1048576: true; the input reads as it did. -/
def fnTensorsUptoRow : OpenClaim := { program := "ytdcandojebpfnaa", sum := "f1de0f3ebe74cd7df9666e547435b2e541c85d20725ef3dfb5f48388202bac13", func := "loop.example/g01083/laws.FnTensors", spec := "fnTensors", apart := false, narrowed := true }
def FnTensorsUptoSaid : Prop := fnTensorsUptoRow.holds Try.pinned (OpenSpec.upto fnTensorsSpec)

/-- 'laws.FnExactCompletionOf', WHERE WHAT IT READS IS OF BULK AT MOST 1048576: true; the input reads as it did. -/
def fnExactCompletionOfUptoRow : OpenClaim := { program := "ytdcandojebpfnaa", sum := "f1de0f3ebe74cd7df9666e547435b2e541c85d20725ef3dfb5f48388202bac13", func := "loop.example/g01083/laws.FnExactCompletionOf", spec := "fnExactCompletionOf", unfollowed := true, recurses := true, apart := false, narrowed := true }
def FnExactCompletionOfUptoSaid : Prop := fnExactCompletionOfUptoRow.holds Try.pinned (OpenSpec.upto fnExactCompletionOfSpec)

/-- 'laws.FnExactSchemaOf', WHERE WHAT IT READS IS OF BULK AT MOST 1048576: true; the input reads as it did. -/
def fnExactSchemaOfUptoRow : OpenClaim := { program := "ytdcandojebpfnaa", sum := "f1de0f3ebe74cd7df9666e547435b2e541c85d20725ef3dfb5f48388202bac13", func := "loop.example/g01083/laws.FnExactSchemaOf", spec := "fnExactSchemaOf", apart := false, narrowed := true }
def FnExactSchemaOfUptoSaid : Prop := fnExactSchemaOfUptoRow.holds Try.pinned (OpenSpec.upto fnExactSchemaOfSpec)

/-- 'laws.FnPathsComposed', WHERE WHAT IT READS IS OF BULK AT MOST 1048576: true; the input reads as it did. -/
def fnPathsComposedUptoRow : OpenClaim := { program := "ytdcandojebpfnaa", sum := "f1de0f3ebe74cd7df9666e547435b2e541c85d20725ef3dfb5f48388202bac13", func := "loop.example/g01083/laws.FnPathsComposed", spec := "fnPathsComposed", unfollowed := true, recurses := true, apart := false, narrowed := true }
def FnPathsComposedUptoSaid : Prop := fnPathsComposedUptoRow.holds Try.pinned (OpenSpec.upto fnPathsComposedSpec)

end Rows
end Go.Proofs.Ytdcandojebpfnaa
