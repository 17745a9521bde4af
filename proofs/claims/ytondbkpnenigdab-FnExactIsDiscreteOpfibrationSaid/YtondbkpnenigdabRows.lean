/-
  No cell of these rows narrows 'for every input' (looked for: loops, veiled, ifaces, maps, wideKeys, modest, calm, conditions, laid).
  DERIVED. THE GIVEN ROWS OF THIS SEAT. 6 by the template 'for every input the law returns true; each argument reads behind the call as it read before'; 0 by the template 'total and deterministic' (their statements: YtondbkpnenigdabTotals.lean).
  GIVEN WITH THE SEED: the statements are not yours to turn. If you find one false, say at which input.
  Laid BY PROGRAM, IN A SANDBOX (cutbox-rows.mjs): the forced cells as the released guide's own fill.sh prints them over the translation eebcb5495662d653… (all of the seat's roots in one cut). By AI agents, Wed Nov 11 2026. No macro, syntax, notation, axiom, sorry.
-/
import Derived.Test.YtondbkpnenigdabChecked
import GoSem.Claim
import GoSem.ClaimJoined
import GoSem.ClaimMapViews
import Derived.JoinedTies
import Derived.KernelRfl
namespace Go.Proofs.Ytondbkpnenigdab
/- THE CELL 'sum', in the pinned program and in every row, IS THE sha256 OF THE DUMP (.gsa) THAT YtondbkpnenigdabProg.lean LOADS. Nothing in Lean hashes anything: it is a label: what it is worth is what the hold of that sum in a sandbox is worth. -/
noncomputable def Try.pinned : Pinned := { name := "ytondbkpnenigdab", sum := "eebcb5495662d65374780ced332395a980b210c396dee3c293e2df6985e7710b", checked := Try.checked }
namespace Rows
def none {H : Type} : Left H := { results := [], args := [] }

/-- 'laws.FnExactIsDiscreteOpfibration': WHATEVER THE INPUT: true; the input reads as it did. -/
def fnExactIsDiscreteOpfibrationSpec : ChangeSpec := { name := "fnExactIsDiscreteOpfibration", fn := fun _ => fun
  | [d] => { results := [.lit (.bool true)], args := [d] }
  | _ => none }
def fnExactIsDiscreteOpfibrationRow : OpenClaim := { program := "ytondbkpnenigdab", sum := "eebcb5495662d65374780ced332395a980b210c396dee3c293e2df6985e7710b", func := "loop.example/g01083/laws.FnExactIsDiscreteOpfibration", spec := "fnExactIsDiscreteOpfibration", unfollowed := true, recurses := true, plainKeys := false, apart := false }
def FnExactIsDiscreteOpfibrationSaid : Prop := fnExactIsDiscreteOpfibrationRow.holds Try.pinned (OpenSpec.ofChange fnExactIsDiscreteOpfibrationSpec)

/-- ITS FALSE NEIGHBOUR: 'it returns false'. Refute it at one input. -/
def fnExactIsDiscreteOpfibrationWrong : ChangeSpec := { name := "fnExactIsDiscreteOpfibration", fn := fun _ => fun
  | [d] => { results := [.lit (.bool false)], args := [d] }
  | _ => none }
def FnExactIsDiscreteOpfibrationWrongFalsely : Prop := fnExactIsDiscreteOpfibrationRow.holds Try.pinned (OpenSpec.ofChange fnExactIsDiscreteOpfibrationWrong)

/-- 'laws.FnExactImplySieves': WHATEVER THE INPUT: true; the input reads as it did. -/
def fnExactImplySievesSpec : ChangeSpec := { name := "fnExactImplySieves", fn := fun _ => fun
  | [d1, d2, d3, d4] => { results := [.lit (.bool true)], args := [d1, d2, d3, d4] }
  | _ => none }
def fnExactImplySievesRow : OpenClaim := { program := "ytondbkpnenigdab", sum := "eebcb5495662d65374780ced332395a980b210c396dee3c293e2df6985e7710b", func := "loop.example/g01083/laws.FnExactImplySieves", spec := "fnExactImplySieves", plainKeys := false, apart := false }
def FnExactImplySievesSaid : Prop := fnExactImplySievesRow.holds Try.pinned (OpenSpec.ofChange fnExactImplySievesSpec)

/-- ITS FALSE NEIGHBOUR: 'it returns false'. Refute it at one input. -/
def fnExactImplySievesWrong : ChangeSpec := { name := "fnExactImplySieves", fn := fun _ => fun
  | [d1, d2, d3, d4] => { results := [.lit (.bool false)], args := [d1, d2, d3, d4] }
  | _ => none }
def FnExactImplySievesWrongFalsely : Prop := fnExactImplySievesRow.holds Try.pinned (OpenSpec.ofChange fnExactImplySievesWrong)

/-- 'laws.FnExactRenumberCategory': WHATEVER THE INPUT: true; the input reads as it did. -/
def fnExactRenumberCategorySpec : ChangeSpec := { name := "fnExactRenumberCategory", fn := fun _ => fun
  | [d1, d2, d3] => { results := [.lit (.bool true)], args := [d1, d2, d3] }
  | _ => none }
def fnExactRenumberCategoryRow : OpenClaim := { program := "ytondbkpnenigdab", sum := "eebcb5495662d65374780ced332395a980b210c396dee3c293e2df6985e7710b", func := "loop.example/g01083/laws.FnExactRenumberCategory", spec := "fnExactRenumberCategory", unfollowed := true, recurses := true, plainKeys := false, apart := false }
def FnExactRenumberCategorySaid : Prop := fnExactRenumberCategoryRow.holds Try.pinned (OpenSpec.ofChange fnExactRenumberCategorySpec)

/-- ITS FALSE NEIGHBOUR: 'it returns false'. Refute it at one input. -/
def fnExactRenumberCategoryWrong : ChangeSpec := { name := "fnExactRenumberCategory", fn := fun _ => fun
  | [d1, d2, d3] => { results := [.lit (.bool false)], args := [d1, d2, d3] }
  | _ => none }
def FnExactRenumberCategoryWrongFalsely : Prop := fnExactRenumberCategoryRow.holds Try.pinned (OpenSpec.ofChange fnExactRenumberCategoryWrong)

/-- 'laws.FnExactIsMonoidal': WHATEVER THE INPUT: true; the input reads as it did. -/
def fnExactIsMonoidalSpec : ChangeSpec := { name := "fnExactIsMonoidal", fn := fun _ => fun
  | [d] => { results := [.lit (.bool true)], args := [d] }
  | _ => none }
def fnExactIsMonoidalRow : OpenClaim := { program := "ytondbkpnenigdab", sum := "eebcb5495662d65374780ced332395a980b210c396dee3c293e2df6985e7710b", func := "loop.example/g01083/laws.FnExactIsMonoidal", spec := "fnExactIsMonoidal", plainKeys := false, apart := false }
def FnExactIsMonoidalSaid : Prop := fnExactIsMonoidalRow.holds Try.pinned (OpenSpec.ofChange fnExactIsMonoidalSpec)

/-- ITS FALSE NEIGHBOUR: 'it returns false'. Refute it at one input. -/
def fnExactIsMonoidalWrong : ChangeSpec := { name := "fnExactIsMonoidal", fn := fun _ => fun
  | [d] => { results := [.lit (.bool false)], args := [d] }
  | _ => none }
def FnExactIsMonoidalWrongFalsely : Prop := fnExactIsMonoidalRow.holds Try.pinned (OpenSpec.ofChange fnExactIsMonoidalWrong)

/-- 'laws.FnExactIsRegularEpi': WHATEVER THE INPUT: true; the input reads as it did. -/
def fnExactIsRegularEpiSpec : ChangeSpec := { name := "fnExactIsRegularEpi", fn := fun _ => fun
  | [d1, d2] => { results := [.lit (.bool true)], args := [d1, d2] }
  | _ => none }
def fnExactIsRegularEpiRow : OpenClaim := { program := "ytondbkpnenigdab", sum := "eebcb5495662d65374780ced332395a980b210c396dee3c293e2df6985e7710b", func := "loop.example/g01083/laws.FnExactIsRegularEpi", spec := "fnExactIsRegularEpi", unfollowed := true, recurses := true, plainKeys := false, apart := false }
def FnExactIsRegularEpiSaid : Prop := fnExactIsRegularEpiRow.holds Try.pinned (OpenSpec.ofChange fnExactIsRegularEpiSpec)

/-- ITS FALSE NEIGHBOUR: 'it returns false'. Refute it at one input. -/
def fnExactIsRegularEpiWrong : ChangeSpec := { name := "fnExactIsRegularEpi", fn := fun _ => fun
  | [d1, d2] => { results := [.lit (.bool false)], args := [d1, d2] }
  | _ => none }
def FnExactIsRegularEpiWrongFalsely : Prop := fnExactIsRegularEpiRow.holds Try.pinned (OpenSpec.ofChange fnExactIsRegularEpiWrong)

/-- 'laws.FnExactQuotientsOf': WHATEVER THE INPUT: true; the input reads as it did. -/
def fnExactQuotientsOfSpec : ChangeSpec := { name := "fnExactQuotientsOf", fn := fun _ => fun
  | [d1, d2] => { results := [.lit (.bool true)], args := [d1, d2] }
  | _ => none }
def fnExactQuotientsOfRow : OpenClaim := { program := "ytondbkpnenigdab", sum := "eebcb5495662d65374780ced332395a980b210c396dee3c293e2df6985e7710b", func := "loop.example/g01083/laws.FnExactQuotientsOf", spec := "fnExactQuotientsOf", unfollowed := true, recurses := true, plainKeys := false, apart := false }
def FnExactQuotientsOfSaid : Prop := fnExactQuotientsOfRow.holds Try.pinned (OpenSpec.ofChange fnExactQuotientsOfSpec)

/-- ITS FALSE NEIGHBOUR: 'it returns false'. Refute it at one input. -/
def fnExactQuotientsOfWrong : ChangeSpec := { name := "fnExactQuotientsOf", fn := fun _ => fun
  | [d1, d2] => { results := [.lit (.bool false)], args := [d1, d2] }
  | _ => none }
def FnExactQuotientsOfWrongFalsely : Prop := fnExactQuotientsOfRow.holds Try.pinned (OpenSpec.ofChange fnExactQuotientsOfWrong)

/- THE SECOND FORM. 'bulk': how many values and letters a reading holds, each counted each time it is reached (what is shared counts as often as it is met; a slice's spare places count too). A statement '..UptoSaid' is the law's where the arguments, and the package variables that the reading takes, are together of bulk at most 1048576: NARROWER than '..Said'. Prove '..Said' where nothing that the law and all that it calls make is longer than what came in: it says more and counts as full. Else prove '..UptoSaid'. A law counts once. -/
mutual
def uptoBulk {H : Type} : DataW H → Nat
  | .lit (.string bytes) => bytes.length + 1
  | .lit _ => 1
  | .nil => 1
  | .ptr d => uptoBulk d + 1
  | .slice elems spare => uptoBulkAll elems + uptoBulkAll spare + 1
  | .agg parts => uptoBulkAll parts + 1
  | .iface _ d => uptoBulk d + 1
  | .map entries => uptoBulkEntries entries + 1
  | .held _ => 1
def uptoBulkAll {H : Type} : List (DataW H) → Nat
  | [] => 0
  | d :: r => uptoBulk d + uptoBulkAll r
def uptoBulkEntries {H : Type} : List (Lit × DataW H) → Nat
  | [] => 0
  | x :: r => uptoBulkEntry x + uptoBulkEntries r
def uptoBulkEntry {H : Type} : Lit × DataW H → Nat
  | (.string bytes, d) => bytes.length + uptoBulk d + 1
  | (_, d) => uptoBulk d + 1
 end
def uptoSmall : (H : Type) → List (DataW H) → Bool := fun _ ds => decide (uptoBulkAll ds ≤ 1048576)
def OpenSpec.upto (s : _root_.Go.ChangeSpec) : _root_.Go.OpenSpec := { _root_.Go.OpenSpec.ofChange s with cond := some uptoSmall }

/-- 'laws.FnExactIsDiscreteOpfibration', WHERE WHAT IT READS IS OF BULK AT MOST 1048576: true; the input reads as it did. -/
def fnExactIsDiscreteOpfibrationUptoRow : OpenClaim := { program := "ytondbkpnenigdab", sum := "eebcb5495662d65374780ced332395a980b210c396dee3c293e2df6985e7710b", func := "loop.example/g01083/laws.FnExactIsDiscreteOpfibration", spec := "fnExactIsDiscreteOpfibration", unfollowed := true, recurses := true, plainKeys := false, apart := false, narrowed := true }
def FnExactIsDiscreteOpfibrationUptoSaid : Prop := fnExactIsDiscreteOpfibrationUptoRow.holds Try.pinned (OpenSpec.upto fnExactIsDiscreteOpfibrationSpec)

/-- 'laws.FnExactImplySieves', WHERE WHAT IT READS IS OF BULK AT MOST 1048576: true; the input reads as it did. -/
def fnExactImplySievesUptoRow : OpenClaim := { program := "ytondbkpnenigdab", sum := "eebcb5495662d65374780ced332395a980b210c396dee3c293e2df6985e7710b", func := "loop.example/g01083/laws.FnExactImplySieves", spec := "fnExactImplySieves", plainKeys := false, apart := false, narrowed := true }
def FnExactImplySievesUptoSaid : Prop := fnExactImplySievesUptoRow.holds Try.pinned (OpenSpec.upto fnExactImplySievesSpec)

/-- 'laws.FnExactRenumberCategory', WHERE WHAT IT READS IS OF BULK AT MOST 1048576: true; the input reads as it did. -/
def fnExactRenumberCategoryUptoRow : OpenClaim := { program := "ytondbkpnenigdab", sum := "eebcb5495662d65374780ced332395a980b210c396dee3c293e2df6985e7710b", func := "loop.example/g01083/laws.FnExactRenumberCategory", spec := "fnExactRenumberCategory", unfollowed := true, recurses := true, plainKeys := false, apart := false, narrowed := true }
def FnExactRenumberCategoryUptoSaid : Prop := fnExactRenumberCategoryUptoRow.holds Try.pinned (OpenSpec.upto fnExactRenumberCategorySpec)

/-- 'laws.FnExactIsMonoidal', WHERE WHAT IT READS IS OF BULK AT MOST 1048576: true; the input reads as it did. -/
def fnExactIsMonoidalUptoRow : OpenClaim := { program := "ytondbkpnenigdab", sum := "eebcb5495662d65374780ced332395a980b210c396dee3c293e2df6985e7710b", func := "loop.example/g01083/laws.FnExactIsMonoidal", spec := "fnExactIsMonoidal", plainKeys := false, apart := false, narrowed := true }
def FnExactIsMonoidalUptoSaid : Prop := fnExactIsMonoidalUptoRow.holds Try.pinned (OpenSpec.upto fnExactIsMonoidalSpec)

/-- 'laws.FnExactIsRegularEpi', WHERE WHAT IT READS IS OF BULK AT MOST 1048576: true; the input reads as it did. -/
def fnExactIsRegularEpiUptoRow : OpenClaim := { program := "ytondbkpnenigdab", sum := "eebcb5495662d65374780ced332395a980b210c396dee3c293e2df6985e7710b", func := "loop.example/g01083/laws.FnExactIsRegularEpi", spec := "fnExactIsRegularEpi", unfollowed := true, recurses := true, plainKeys := false, apart := false, narrowed := true }
def FnExactIsRegularEpiUptoSaid : Prop := fnExactIsRegularEpiUptoRow.holds Try.pinned (OpenSpec.upto fnExactIsRegularEpiSpec)

/-- 'laws.FnExactQuotientsOf', WHERE WHAT IT READS IS OF BULK AT MOST 1048576: true; the input reads as it did. -/
def fnExactQuotientsOfUptoRow : OpenClaim := { program := "ytondbkpnenigdab", sum := "eebcb5495662d65374780ced332395a980b210c396dee3c293e2df6985e7710b", func := "loop.example/g01083/laws.FnExactQuotientsOf", spec := "fnExactQuotientsOf", unfollowed := true, recurses := true, plainKeys := false, apart := false, narrowed := true }
def FnExactQuotientsOfUptoSaid : Prop := fnExactQuotientsOfUptoRow.holds Try.pinned (OpenSpec.upto fnExactQuotientsOfSpec)

end Rows
end Go.Proofs.Ytondbkpnenigdab
