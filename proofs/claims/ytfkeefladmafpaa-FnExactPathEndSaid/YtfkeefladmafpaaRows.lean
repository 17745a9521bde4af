/-
  No cell of these rows narrows 'for every input' (looked for: loops, veiled, ifaces, maps, wideKeys, modest, calm, conditions, laid).
  DERIVED. THE GIVEN ROWS OF THIS SEAT. 6 by the template 'for every input the law returns true; each argument reads behind the call as it read before'; 0 by the template 'total and deterministic' (their statements: YtfkeefladmafpaaTotals.lean).
  GIVEN WITH THE SEED: the statements are not yours to turn. If you find one false, say at which input.
  Laid BY PROGRAM, IN A SANDBOX (cutbox-rows.mjs): the forced cells as the released guide's own fill.sh prints them over the translation bb83738dd2a4e71a… (all of the seat's roots in one cut). By AI agents, Wed Nov 11 2026. No macro, syntax, notation, axiom, sorry.
-/
import Derived.Test.YtfkeefladmafpaaChecked
import GoSem.Claim
import GoSem.ClaimJoined
import GoSem.ClaimMapViews
import Derived.JoinedTies
import Derived.KernelRfl
namespace Go.Proofs.Ytfkeefladmafpaa
/- THE CELL 'sum', in the pinned program and in every row, IS THE sha256 OF THE DUMP (.gsa) THAT YtfkeefladmafpaaProg.lean LOADS. Nothing in Lean hashes anything: it is a label: what it is worth is what the hold of that sum in a sandbox is worth. -/
noncomputable def Try.pinned : Pinned := { name := "ytfkeefladmafpaa", sum := "bb83738dd2a4e71a6a71ed75c80d892acd0d4f1d5dad2d83a754e38b3420bc61", checked := Try.checked }
namespace Rows
def none {H : Type} : Left H := { results := [], args := [] }

/-- 'laws.FnExactImageOf': WHATEVER THE INPUT: true; the input reads as it did. -/
def fnExactImageOfSpec : ChangeSpec := { name := "fnExactImageOf", fn := fun _ => fun
  | [d1, d2] => { results := [.lit (.bool true)], args := [d1, d2] }
  | _ => none }
def fnExactImageOfRow : OpenClaim := { program := "ytfkeefladmafpaa", sum := "bb83738dd2a4e71a6a71ed75c80d892acd0d4f1d5dad2d83a754e38b3420bc61", func := "loop.example/g01083/laws.FnExactImageOf", spec := "fnExactImageOf", apart := false }
def FnExactImageOfSaid : Prop := fnExactImageOfRow.holds Try.pinned (OpenSpec.ofChange fnExactImageOfSpec)

/-- ITS FALSE NEIGHBOUR: 'it returns false'. Refute it at one input. -/
def fnExactImageOfWrong : ChangeSpec := { name := "fnExactImageOf", fn := fun _ => fun
  | [d1, d2] => { results := [.lit (.bool false)], args := [d1, d2] }
  | _ => none }
def FnExactImageOfWrongFalsely : Prop := fnExactImageOfRow.holds Try.pinned (OpenSpec.ofChange fnExactImageOfWrong)

/-- 'laws.FnExactFactorMap': WHATEVER THE INPUT: true; the input reads as it did. -/
def fnExactFactorMapSpec : ChangeSpec := { name := "fnExactFactorMap", fn := fun _ => fun
  | [d1, d2] => { results := [.lit (.bool true)], args := [d1, d2] }
  | _ => none }
def fnExactFactorMapRow : OpenClaim := { program := "ytfkeefladmafpaa", sum := "bb83738dd2a4e71a6a71ed75c80d892acd0d4f1d5dad2d83a754e38b3420bc61", func := "loop.example/g01083/laws.FnExactFactorMap", spec := "fnExactFactorMap", apart := false }
def FnExactFactorMapSaid : Prop := fnExactFactorMapRow.holds Try.pinned (OpenSpec.ofChange fnExactFactorMapSpec)

/-- ITS FALSE NEIGHBOUR: 'it returns false'. Refute it at one input. -/
def fnExactFactorMapWrong : ChangeSpec := { name := "fnExactFactorMap", fn := fun _ => fun
  | [d1, d2] => { results := [.lit (.bool false)], args := [d1, d2] }
  | _ => none }
def FnExactFactorMapWrongFalsely : Prop := fnExactFactorMapRow.holds Try.pinned (OpenSpec.ofChange fnExactFactorMapWrong)

/-- 'laws.FnExactIsSchema': WHATEVER THE INPUT: true; the input reads as it did. -/
def fnExactIsSchemaSpec : ChangeSpec := { name := "fnExactIsSchema", fn := fun _ => fun
  | [d] => { results := [.lit (.bool true)], args := [d] }
  | _ => none }
def fnExactIsSchemaRow : OpenClaim := { program := "ytfkeefladmafpaa", sum := "bb83738dd2a4e71a6a71ed75c80d892acd0d4f1d5dad2d83a754e38b3420bc61", func := "loop.example/g01083/laws.FnExactIsSchema", spec := "fnExactIsSchema", apart := false }
def FnExactIsSchemaSaid : Prop := fnExactIsSchemaRow.holds Try.pinned (OpenSpec.ofChange fnExactIsSchemaSpec)

/-- ITS FALSE NEIGHBOUR: 'it returns false'. Refute it at one input. -/
def fnExactIsSchemaWrong : ChangeSpec := { name := "fnExactIsSchema", fn := fun _ => fun
  | [d] => { results := [.lit (.bool false)], args := [d] }
  | _ => none }
def FnExactIsSchemaWrongFalsely : Prop := fnExactIsSchemaRow.holds Try.pinned (OpenSpec.ofChange fnExactIsSchemaWrong)

/-- 'laws.FnExactIsPathOf': WHATEVER THE INPUT: true; the input reads as it did. -/
def fnExactIsPathOfSpec : ChangeSpec := { name := "fnExactIsPathOf", fn := fun _ => fun
  | [d1, d2] => { results := [.lit (.bool true)], args := [d1, d2] }
  | _ => none }
def fnExactIsPathOfRow : OpenClaim := { program := "ytfkeefladmafpaa", sum := "bb83738dd2a4e71a6a71ed75c80d892acd0d4f1d5dad2d83a754e38b3420bc61", func := "loop.example/g01083/laws.FnExactIsPathOf", spec := "fnExactIsPathOf", apart := false }
def FnExactIsPathOfSaid : Prop := fnExactIsPathOfRow.holds Try.pinned (OpenSpec.ofChange fnExactIsPathOfSpec)

/-- ITS FALSE NEIGHBOUR: 'it returns false'. Refute it at one input. -/
def fnExactIsPathOfWrong : ChangeSpec := { name := "fnExactIsPathOf", fn := fun _ => fun
  | [d1, d2] => { results := [.lit (.bool false)], args := [d1, d2] }
  | _ => none }
def FnExactIsPathOfWrongFalsely : Prop := fnExactIsPathOfRow.holds Try.pinned (OpenSpec.ofChange fnExactIsPathOfWrong)

/-- 'laws.FnFactored': WHATEVER THE INPUT: true; the input reads as it did. -/
def fnFactoredSpec : ChangeSpec := { name := "fnFactored", fn := fun _ => fun
  | [d] => { results := [.lit (.bool true)], args := [d] }
  | _ => none }
def fnFactoredRow : OpenClaim := { program := "ytfkeefladmafpaa", sum := "bb83738dd2a4e71a6a71ed75c80d892acd0d4f1d5dad2d83a754e38b3420bc61", func := "loop.example/g01083/laws.FnFactored", spec := "fnFactored", apart := false }
def FnFactoredSaid : Prop := fnFactoredRow.holds Try.pinned (OpenSpec.ofChange fnFactoredSpec)

/-- ITS FALSE NEIGHBOUR: 'it returns false'. Refute it at one input. -/
def fnFactoredWrong : ChangeSpec := { name := "fnFactored", fn := fun _ => fun
  | [d] => { results := [.lit (.bool false)], args := [d] }
  | _ => none }
def FnFactoredWrongFalsely : Prop := fnFactoredRow.holds Try.pinned (OpenSpec.ofChange fnFactoredWrong)

/-- 'laws.FnExactPathEnd': WHATEVER THE INPUT: true; the input reads as it did. -/
def fnExactPathEndSpec : ChangeSpec := { name := "fnExactPathEnd", fn := fun _ => fun
  | [d1, d2] => { results := [.lit (.bool true)], args := [d1, d2] }
  | _ => none }
def fnExactPathEndRow : OpenClaim := { program := "ytfkeefladmafpaa", sum := "bb83738dd2a4e71a6a71ed75c80d892acd0d4f1d5dad2d83a754e38b3420bc61", func := "loop.example/g01083/laws.FnExactPathEnd", spec := "fnExactPathEnd", apart := false }
def FnExactPathEndSaid : Prop := fnExactPathEndRow.holds Try.pinned (OpenSpec.ofChange fnExactPathEndSpec)

/-- ITS FALSE NEIGHBOUR: 'it returns false'. Refute it at one input. -/
def fnExactPathEndWrong : ChangeSpec := { name := "fnExactPathEnd", fn := fun _ => fun
  | [d1, d2] => { results := [.lit (.bool false)], args := [d1, d2] }
  | _ => none }
def FnExactPathEndWrongFalsely : Prop := fnExactPathEndRow.holds Try.pinned (OpenSpec.ofChange fnExactPathEndWrong)

/- THE SECOND FORM. 'bulk': how many values and letters a reading holds, each counted each time it is reached (what is shared counts as often as it is met; a slice's spare places count too). A statement '..UptoSaid' is the law's where the arguments, and the package variables that the reading takes, are together of bulk at most 1048576: NARROWER than '..Said'. Prove '..Said' where nothing that the law and all that it calls make is longer than what came in: it says more and counts as full. Else prove '..UptoSaid'. A law counts once. -/
mutual
def uptoBulk {H : Type} : DataW H → Nat
  | .lit (.string bytes) => bytes.length + 1
  | .lit _ => 1
  | .nil => 1
  | .ptr d => uptoBulk d + 1
  | .slice elems spare => uptoBulkAll elems + uptoBulkAll spare + 1
  | .agg parts => uptoBulkAll parts + 1
  | .iface _ d => uptoBulk d + 1
  | .map entries => uptoBulkEntries entries + 1
  | .held _ => 1
def uptoBulkAll {H : Type} : List (DataW H) → Nat
  | [] => 0
  | d :: r => uptoBulk d + uptoBulkAll r
def uptoBulkEntries {H : Type} : List (Lit × DataW H) → Nat
  | [] => 0
  | x :: r => uptoBulkEntry x + uptoBulkEntries r
def uptoBulkEntry {H : Type} : Lit × DataW H → Nat
  | (.string bytes, d) => bytes.length + uptoBulk d + 1
  | (_, d) => uptoBulk d + 1
 end
def uptoSmall : (H : Type) → List (DataW H) → Bool := fun _ ds => decide (uptoBulkAll ds ≤ 1048576)
def OpenSpec.upto (s : _root_.Go.ChangeSpec) : _root_.Go.OpenSpec := { _root_.Go.OpenSpec.ofChange s with cond := some uptoSmall }

/-- 'laws.FnExactImageOf', WHERE WHAT IT READS IS OF BULK AT MOST 1048576: true; the input reads as it did. -/
def fnExactImageOfUptoRow : OpenClaim := { program := "ytfkeefladmafpaa", sum := "bb83738dd2a4e71a6a71ed75c80d892acd0d4f1d5dad2d83a754e38b3420bc61", func := "loop.example/g01083/laws.FnExactImageOf", spec := "fnExactImageOf", apart := false, narrowed := true }
def FnExactImageOfUptoSaid : Prop := fnExactImageOfUptoRow.holds Try.pinned (OpenSpec.upto fnExactImageOfSpec)

/-- 'laws.FnExactFactorMap', WHERE WHAT IT READS IS OF BULK AT MOST 1048576: true; the input reads as it did. -/
def fnExactFactorMapUptoRow : OpenClaim := { program := "ytfkeefladmafpaa", sum := "bb83738dd2a4e71a6a71ed75c80d892acd0d4f1d5dad2d83a754e38b3420bc61", func := "loop.example/g01083/laws.FnExactFactorMap", spec := "fnExactFactorMap", apart := false, narrowed := true }
def FnExactFactorMapUptoSaid : Prop := fnExactFactorMapUptoRow.holds Try.pinned (OpenSpec.upto fnExactFactorMapSpec)

/-- 'laws.FnExactIsSchema', WHERE WHAT IT READS IS OF BULK AT MOST 1048576: true; the input reads as it did. -/
def fnExactIsSchemaUptoRow : OpenClaim := { program := "ytfkeefladmafpaa", sum := "bb83738dd2a4e71a6a71ed75c80d892acd0d4f1d5dad2d83a754e38b3420bc61", func := "loop.example/g01083/laws.FnExactIsSchema", spec := "fnExactIsSchema", apart := false, narrowed := true }
def FnExactIsSchemaUptoSaid : Prop := fnExactIsSchemaUptoRow.holds Try.pinned (OpenSpec.upto fnExactIsSchemaSpec)

/-- 'laws.FnExactIsPathOf', WHERE WHAT IT READS IS OF BULK AT MOST 1048576: true; the input reads as it did. -/
def fnExactIsPathOfUptoRow : OpenClaim := { program := "ytfkeefladmafpaa", sum := "bb83738dd2a4e71a6a71ed75c80d892acd0d4f1d5dad2d83a754e38b3420bc61", func := "loop.example/g01083/laws.FnExactIsPathOf", spec := "fnExactIsPathOf", apart := false, narrowed := true }
def FnExactIsPathOfUptoSaid : Prop := fnExactIsPathOfUptoRow.holds Try.pinned (OpenSpec.upto fnExactIsPathOfSpec)

/-- 'laws.FnFactored', WHERE WHAT IT READS IS OF BULK AT MOST 1048576: true; the input reads as it did. -/
def fnFactoredUptoRow : OpenClaim := { program := "ytfkeefladmafpaa", sum := "bb83738dd2a4e71a6a71ed75c80d892acd0d4f1d5dad2d83a754e38b3420bc61", func := "loop.example/g01083/laws.FnFactored", spec := "fnFactored", apart := false, narrowed := true }
def FnFactoredUptoSaid : Prop := fnFactoredUptoRow.holds Try.pinned (OpenSpec.upto fnFactoredSpec)

/-- 'laws.FnExactPathEnd', WHERE WHAT IT READS IS OF BULK AT MOST 1048576: true; the input reads as it did. -/
def fnExactPathEndUptoRow : OpenClaim := { program := "ytfkeefladmafpaa", sum := "bb83738dd2a4e71a6a71ed75c80d892acd0d4f1d5dad2d83a754e38b3420bc61", func := "loop.example/g01083/laws.FnExactPathEnd", spec := "fnExactPathEnd", apart := false, narrowed := true }
def FnExactPathEndUptoSaid : Prop := fnExactPathEndUptoRow.holds Try.pinned (OpenSpec.upto fnExactPathEndSpec)

end Rows
end Go.Proofs.Ytfkeefladmafpaa
