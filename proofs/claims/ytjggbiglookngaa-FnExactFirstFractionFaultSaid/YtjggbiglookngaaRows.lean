/-
  No cell of these rows narrows 'for every input' (looked for: loops, veiled, ifaces, maps, wideKeys, modest, calm, conditions, laid).
  DERIVED. THE GIVEN ROWS OF THIS SEAT. 7 by the template 'for every input the law returns true; each argument reads behind the call as it read before'; 0 by the template 'total and deterministic' (their statements: YtjggbiglookngaaTotals.lean).
  GIVEN WITH THE SEED: the statements are not yours to turn. If you find one false, say at which input.
  Laid BY PROGRAM, IN A SANDBOX (cutbox-rows.mjs): the forced cells as the released guide's own fill.sh prints them over the translation 540895ebc035dec1… (all of the seat's roots in one cut). By AI agents, Wed Nov 11 2026. No macro, syntax, notation, axiom, sorry.
-/
import Derived.Test.YtjggbiglookngaaChecked
import GoSem.Claim
import GoSem.ClaimJoined
import GoSem.ClaimMapViews
import Derived.JoinedTies
import Derived.KernelRfl
namespace Go.Proofs.Ytjggbiglookngaa
/- THE CELL 'sum', in the pinned program and in every row, IS THE sha256 OF THE DUMP (.gsa) THAT YtjggbiglookngaaProg.lean LOADS. Nothing in Lean hashes anything: it is a label: what it is worth is what the hold of that sum in a sandbox is worth. -/
noncomputable def Try.pinned : Pinned := { name := "ytjggbiglookngaa", sum := "540895ebc035dec17a3077ebb04713ca70c7dd2d544dfd71000ffd5c42b1e918", checked := Try.checked }
namespace Rows
def none {H : Type} : Left H := { results := [], args := [] }

/-- 'laws.FnExactUniversalElements': WHATEVER THE INPUT: true; the input reads as it did. -/
def fnExactUniversalElementsSpec : ChangeSpec := { name := "fnExactUniversalElements", fn := fun _ => fun
  | [d] => { results := [.lit (.bool true)], args := [d] }
  | _ => none }
def fnExactUniversalElementsRow : OpenClaim := { program := "ytjggbiglookngaa", sum := "540895ebc035dec17a3077ebb04713ca70c7dd2d544dfd71000ffd5c42b1e918", func := "loop.example/g01083/laws.FnExactUniversalElements", spec := "fnExactUniversalElements", plainKeys := false, apart := false }
def FnExactUniversalElementsSaid : Prop := fnExactUniversalElementsRow.holds Try.pinned (OpenSpec.ofChange fnExactUniversalElementsSpec)

/-- ITS FALSE NEIGHBOUR: 'it returns false'. Refute it at one input. -/
def fnExactUniversalElementsWrong : ChangeSpec := { name := "fnExactUniversalElements", fn := fun _ => fun
  | [d] => { results := [.lit (.bool false)], args := [d] }
  | _ => none }
def FnExactUniversalElementsWrongFalsely : Prop := fnExactUniversalElementsRow.holds Try.pinned (OpenSpec.ofChange fnExactUniversalElementsWrong)

/-- 'laws.FnExactIsRegularMono': WHATEVER THE INPUT: true; the input reads as it did. -/
def fnExactIsRegularMonoSpec : ChangeSpec := { name := "fnExactIsRegularMono", fn := fun _ => fun
  | [d1, d2] => { results := [.lit (.bool true)], args := [d1, d2] }
  | _ => none }
def fnExactIsRegularMonoRow : OpenClaim := { program := "ytjggbiglookngaa", sum := "540895ebc035dec17a3077ebb04713ca70c7dd2d544dfd71000ffd5c42b1e918", func := "loop.example/g01083/laws.FnExactIsRegularMono", spec := "fnExactIsRegularMono", unfollowed := true, recurses := true, plainKeys := false, apart := false }
def FnExactIsRegularMonoSaid : Prop := fnExactIsRegularMonoRow.holds Try.pinned (OpenSpec.ofChange fnExactIsRegularMonoSpec)

/-- ITS FALSE NEIGHBOUR: 'it returns false'. Refute it at one input. -/
def fnExactIsRegularMonoWrong : ChangeSpec := { name := "fnExactIsRegularMono", fn := fun _ => fun
  | [d1, d2] => { results := [.lit (.bool false)], args := [d1, d2] }
  | _ => none }
def FnExactIsRegularMonoWrongFalsely : Prop := fnExactIsRegularMonoRow.holds Try.pinned (OpenSpec.ofChange fnExactIsRegularMonoWrong)

/-- 'laws.FnExactIsRegularEpi': WHATEVER THE INPUT: true; the input reads as it did. -/
def fnExactIsRegularEpiSpec : ChangeSpec := { name := "fnExactIsRegularEpi", fn := fun _ => fun
  | [d1, d2] => { results := [.lit (.bool true)], args := [d1, d2] }
  | _ => none }
def fnExactIsRegularEpiRow : OpenClaim := { program := "ytjggbiglookngaa", sum := "540895ebc035dec17a3077ebb04713ca70c7dd2d544dfd71000ffd5c42b1e918", func := "loop.example/g01083/laws.FnExactIsRegularEpi", spec := "fnExactIsRegularEpi", unfollowed := true, recurses := true, plainKeys := false, apart := false }
def FnExactIsRegularEpiSaid : Prop := fnExactIsRegularEpiRow.holds Try.pinned (OpenSpec.ofChange fnExactIsRegularEpiSpec)

/-- ITS FALSE NEIGHBOUR: 'it returns false'. Refute it at one input. -/
def fnExactIsRegularEpiWrong : ChangeSpec := { name := "fnExactIsRegularEpi", fn := fun _ => fun
  | [d1, d2] => { results := [.lit (.bool false)], args := [d1, d2] }
  | _ => none }
def FnExactIsRegularEpiWrongFalsely : Prop := fnExactIsRegularEpiRow.holds Try.pinned (OpenSpec.ofChange fnExactIsRegularEpiWrong)

/-- 'laws.FnExactIsTwoValued': WHATEVER THE INPUT: true; the input reads as it did. -/
def fnExactIsTwoValuedSpec : ChangeSpec := { name := "fnExactIsTwoValued", fn := fun _ => fun
  | [d] => { results := [.lit (.bool true)], args := [d] }
  | _ => none }
def fnExactIsTwoValuedRow : OpenClaim := { program := "ytjggbiglookngaa", sum := "540895ebc035dec17a3077ebb04713ca70c7dd2d544dfd71000ffd5c42b1e918", func := "loop.example/g01083/laws.FnExactIsTwoValued", spec := "fnExactIsTwoValued", unfollowed := true, recurses := true, plainKeys := false, apart := false }
def FnExactIsTwoValuedSaid : Prop := fnExactIsTwoValuedRow.holds Try.pinned (OpenSpec.ofChange fnExactIsTwoValuedSpec)

/-- ITS FALSE NEIGHBOUR: 'it returns false'. Refute it at one input. -/
def fnExactIsTwoValuedWrong : ChangeSpec := { name := "fnExactIsTwoValued", fn := fun _ => fun
  | [d] => { results := [.lit (.bool false)], args := [d] }
  | _ => none }
def FnExactIsTwoValuedWrongFalsely : Prop := fnExactIsTwoValuedRow.holds Try.pinned (OpenSpec.ofChange fnExactIsTwoValuedWrong)

/-- 'laws.FnExactFirstFractionFault': WHATEVER THE INPUT: true; the input reads as it did. -/
def fnExactFirstFractionFaultSpec : ChangeSpec := { name := "fnExactFirstFractionFault", fn := fun _ => fun
  | [d1, d2] => { results := [.lit (.bool true)], args := [d1, d2] }
  | _ => none }
def fnExactFirstFractionFaultRow : OpenClaim := { program := "ytjggbiglookngaa", sum := "540895ebc035dec17a3077ebb04713ca70c7dd2d544dfd71000ffd5c42b1e918", func := "loop.example/g01083/laws.FnExactFirstFractionFault", spec := "fnExactFirstFractionFault", plainKeys := false, apart := false }
def FnExactFirstFractionFaultSaid : Prop := fnExactFirstFractionFaultRow.holds Try.pinned (OpenSpec.ofChange fnExactFirstFractionFaultSpec)

/-- ITS FALSE NEIGHBOUR: 'it returns false'. Refute it at one input. -/
def fnExactFirstFractionFaultWrong : ChangeSpec := { name := "fnExactFirstFractionFault", fn := fun _ => fun
  | [d1, d2] => { results := [.lit (.bool false)], args := [d1, d2] }
  | _ => none }
def FnExactFirstFractionFaultWrongFalsely : Prop := fnExactFirstFractionFaultRow.holds Try.pinned (OpenSpec.ofChange fnExactFirstFractionFaultWrong)

/-- 'laws.FnExactCompletionOf': WHATEVER THE INPUT: true; the input reads as it did. -/
def fnExactCompletionOfSpec : ChangeSpec := { name := "fnExactCompletionOf", fn := fun _ => fun
  | [d] => { results := [.lit (.bool true)], args := [d] }
  | _ => none }
def fnExactCompletionOfRow : OpenClaim := { program := "ytjggbiglookngaa", sum := "540895ebc035dec17a3077ebb04713ca70c7dd2d544dfd71000ffd5c42b1e918", func := "loop.example/g01083/laws.FnExactCompletionOf", spec := "fnExactCompletionOf", unfollowed := true, recurses := true, plainKeys := false, apart := false }
def FnExactCompletionOfSaid : Prop := fnExactCompletionOfRow.holds Try.pinned (OpenSpec.ofChange fnExactCompletionOfSpec)

/-- ITS FALSE NEIGHBOUR: 'it returns false'. Refute it at one input. -/
def fnExactCompletionOfWrong : ChangeSpec := { name := "fnExactCompletionOf", fn := fun _ => fun
  | [d] => { results := [.lit (.bool false)], args := [d] }
  | _ => none }
def FnExactCompletionOfWrongFalsely : Prop := fnExactCompletionOfRow.holds Try.pinned (OpenSpec.ofChange fnExactCompletionOfWrong)

/-- 'laws.FnExactIsFinal': WHATEVER THE INPUT: true; the input reads as it did. -/
def fnExactIsFinalSpec : ChangeSpec := { name := "fnExactIsFinal", fn := fun _ => fun
  | [d] => { results := [.lit (.bool true)], args := [d] }
  | _ => none }
def fnExactIsFinalRow : OpenClaim := { program := "ytjggbiglookngaa", sum := "540895ebc035dec17a3077ebb04713ca70c7dd2d544dfd71000ffd5c42b1e918", func := "loop.example/g01083/laws.FnExactIsFinal", spec := "fnExactIsFinal", unfollowed := true, recurses := true, plainKeys := false, apart := false }
def FnExactIsFinalSaid : Prop := fnExactIsFinalRow.holds Try.pinned (OpenSpec.ofChange fnExactIsFinalSpec)

/-- ITS FALSE NEIGHBOUR: 'it returns false'. Refute it at one input. -/
def fnExactIsFinalWrong : ChangeSpec := { name := "fnExactIsFinal", fn := fun _ => fun
  | [d] => { results := [.lit (.bool false)], args := [d] }
  | _ => none }
def FnExactIsFinalWrongFalsely : Prop := fnExactIsFinalRow.holds Try.pinned (OpenSpec.ofChange fnExactIsFinalWrong)

/- THE SECOND FORM. 'bulk': how many values and letters a reading holds, each counted each time it is reached (what is shared counts as often as it is met; a slice's spare places count too). A statement '..UptoSaid' is the law's where the arguments, and the package variables that the reading takes, are together of bulk at most 1048576: NARROWER than '..Said'. Prove '..Said' where nothing that the law and all that it calls make is longer than what came in: it says more and counts as full. Else prove '..UptoSaid'. A law counts once. -/
mutual
def uptoBulk {H : Type} : DataW H → Nat
  | .lit (.string bytes) => bytes.length + 1
  | .lit _ => 1
  | .nil => 1
  | .ptr d => uptoBulk d + 1
  | .slice elems spare => uptoBulkAll elems + uptoBulkAll spare + 1
  | .agg parts => uptoBulkAll parts + 1
  | .iface _ d => uptoBulk d + 1
  | .map entries => uptoBulkEntries entries + 1
  | .held _ => 1
def uptoBulkAll {H : Type} : List (DataW H) → Nat
  | [] => 0
  | d :: r => uptoBulk d + uptoBulkAll r
def uptoBulkEntries {H : Type} : List (Lit × DataW H) → Nat
  | [] => 0
  | x :: r => uptoBulkEntry x + uptoBulkEntries r
def uptoBulkEntry {H : Type} : Lit × DataW H → Nat
  | (.string bytes, d) => bytes.length + uptoBulk d + 1
  | (_, d) => uptoBulk d + 1
 end
def uptoSmall : (H : Type) → List (DataW H) → Bool := fun _ ds => decide (uptoBulkAll ds ≤ 1048576)
def OpenSpec.upto (s : _root_.Go.ChangeSpec) : _root_.Go.OpenSpec := { _root_.Go.OpenSpec.ofChange s with cond := some uptoSmall }

/-- 'laws.FnExactUniversalElements', WHERE WHAT IT READS IS OF BULK AT MOST 1048576: true; the input reads as it did. -/
def fnExactUniversalElementsUptoRow : OpenClaim := { program := "ytjggbiglookngaa", sum := "540895ebc035dec17a3077ebb04713ca70c7dd2d544dfd71000ffd5c42b1e918", func := "loop.example/g01083/laws.FnExactUniversalElements", spec := "fnExactUniversalElements", plainKeys := false, apart := false, narrowed := true }
def FnExactUniversalElementsUptoSaid : Prop := fnExactUniversalElementsUptoRow.holds Try.pinned (OpenSpec.upto fnExactUniversalElementsSpec)

/-- 'laws.FnExactIsRegularMono', WHERE WHAT IT READS IS OF BULK AT MOST 1048576: true; the input reads as it did. -/
def fnExactIsRegularMonoUptoRow : OpenClaim := { program := "ytjggbiglookngaa", sum := "540895ebc035dec17a3077ebb04713ca70c7dd2d544dfd71000ffd5c42b1e918", func := "loop.example/g01083/laws.FnExactIsRegularMono", spec := "fnExactIsRegularMono", unfollowed := true, recurses := true, plainKeys := false, apart := false, narrowed := true }
def FnExactIsRegularMonoUptoSaid : Prop := fnExactIsRegularMonoUptoRow.holds Try.pinned (OpenSpec.upto fnExactIsRegularMonoSpec)

/-- 'laws.FnExactIsRegularEpi', WHERE WHAT IT READS IS OF BULK AT MOST 1048576: true; the input reads as it did. -/
def fnExactIsRegularEpiUptoRow : OpenClaim := { program := "ytjggbiglookngaa", sum := "540895ebc035dec17a3077ebb04713ca70c7dd2d544dfd71000ffd5c42b1e918", func := "loop.example/g01083/laws.FnExactIsRegularEpi", spec := "fnExactIsRegularEpi", unfollowed := true, recurses := true, plainKeys := false, apart := false, narrowed := true }
def FnExactIsRegularEpiUptoSaid : Prop := fnExactIsRegularEpiUptoRow.holds Try.pinned (OpenSpec.upto fnExactIsRegularEpiSpec)

/-- 'laws.FnExactIsTwoValued', WHERE WHAT IT READS IS OF BULK AT MOST 1048576: true; the input reads as it did. -/
def fnExactIsTwoValuedUptoRow : OpenClaim := { program := "ytjggbiglookngaa", sum := "540895ebc035dec17a3077ebb04713ca70c7dd2d544dfd71000ffd5c42b1e918", func := "loop.example/g01083/laws.FnExactIsTwoValued", spec := "fnExactIsTwoValued", unfollowed := true, recurses := true, plainKeys := false, apart := false, narrowed := true }
def FnExactIsTwoValuedUptoSaid : Prop := fnExactIsTwoValuedUptoRow.holds Try.pinned (OpenSpec.upto fnExactIsTwoValuedSpec)

/-- 'laws.FnExactFirstFractionFault', WHERE WHAT IT READS IS OF BULK AT MOST 1048576: true; the input reads as it did. -/
def fnExactFirstFractionFaultUptoRow : OpenClaim := { program := "ytjggbiglookngaa", sum := "540895ebc035dec17a3077ebb04713ca70c7dd2d544dfd71000ffd5c42b1e918", func := "loop.example/g01083/laws.FnExactFirstFractionFault", spec := "fnExactFirstFractionFault", plainKeys := false, apart := false, narrowed := true }
def FnExactFirstFractionFaultUptoSaid : Prop := fnExactFirstFractionFaultUptoRow.holds Try.pinned (OpenSpec.upto fnExactFirstFractionFaultSpec)

/-- 'laws.FnExactCompletionOf', WHERE WHAT IT READS IS OF BULK AT MOST 1048576: true; the input reads as it did. -/
def fnExactCompletionOfUptoRow : OpenClaim := { program := "ytjggbiglookngaa", sum := "540895ebc035dec17a3077ebb04713ca70c7dd2d544dfd71000ffd5c42b1e918", func := "loop.example/g01083/laws.FnExactCompletionOf", spec := "fnExactCompletionOf", unfollowed := true, recurses := true, plainKeys := false, apart := false, narrowed := true }
def FnExactCompletionOfUptoSaid : Prop := fnExactCompletionOfUptoRow.holds Try.pinned (OpenSpec.upto fnExactCompletionOfSpec)

/-- 'laws.FnExactIsFinal', WHERE WHAT IT READS IS OF BULK AT MOST 1048576: true; the input reads as it did. -/
def fnExactIsFinalUptoRow : OpenClaim := { program := "ytjggbiglookngaa", sum := "540895ebc035dec17a3077ebb04713ca70c7dd2d544dfd71000ffd5c42b1e918", func := "loop.example/g01083/laws.FnExactIsFinal", spec := "fnExactIsFinal", unfollowed := true, recurses := true, plainKeys := false, apart := false, narrowed := true }
def FnExactIsFinalUptoSaid : Prop := fnExactIsFinalUptoRow.holds Try.pinned (OpenSpec.upto fnExactIsFinalSpec)

end Rows
end Go.Proofs.Ytjggbiglookngaa
