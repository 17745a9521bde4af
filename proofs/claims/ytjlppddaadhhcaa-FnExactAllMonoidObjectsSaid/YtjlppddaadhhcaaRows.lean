/-
  No cell of these rows narrows 'for every input' (looked for: loops, veiled, ifaces, maps, wideKeys, modest, calm, conditions, laid).
  DERIVED. THE GIVEN ROWS OF THIS SEAT. 10 by the template 'for every input the law returns true; each argument reads behind the call as it read before'; 0 by the template 'total and deterministic' (their statements: YtjlppddaadhhcaaTotals.lean).
  GIVEN WITH THE SEED: the statements are not yours to turn. If you find one false, say at which input.
  Laid BY PROGRAM, IN A SANDBOX (cutbox-rows.mjs): the forced cells as the released guide's own fill.sh prints them over the translation 7dfa4ed13711ab46… (all of the seat's roots in one cut). By AI agents, Wed Nov 11 2026. No macro, syntax, notation, axiom, sorry.
-/
import Derived.Test.YtjlppddaadhhcaaChecked
import GoSem.Claim
import GoSem.ClaimJoined
import GoSem.ClaimMapViews
import Derived.JoinedTies
import Derived.KernelRfl
namespace Go.Proofs.Ytjlppddaadhhcaa
/- THE CELL 'sum', in the pinned program and in every row, IS THE sha256 OF THE DUMP (.gsa) THAT YtjlppddaadhhcaaProg.lean LOADS. Nothing in Lean hashes anything: it is a label: what it is worth is what the hold of that sum in a sandbox is worth. -/
noncomputable def Try.pinned : Pinned := { name := "ytjlppddaadhhcaa", sum := "7dfa4ed13711ab464b38c32943f60390f1f2ce0e566594a352e01859667a0214", checked := Try.checked }
namespace Rows
def none {H : Type} : Left H := { results := [], args := [] }

/-- 'laws.FnExactSieveOf': WHATEVER THE INPUT: true; the input reads as it did. -/
def fnExactSieveOfSpec : ChangeSpec := { name := "fnExactSieveOf", fn := fun _ => fun
  | [d1, d2, d3] => { results := [.lit (.bool true)], args := [d1, d2, d3] }
  | _ => none }
def fnExactSieveOfRow : OpenClaim := { program := "ytjlppddaadhhcaa", sum := "7dfa4ed13711ab464b38c32943f60390f1f2ce0e566594a352e01859667a0214", func := "loop.example/g01083/laws.FnExactSieveOf", spec := "fnExactSieveOf", apart := false }
def FnExactSieveOfSaid : Prop := fnExactSieveOfRow.holds Try.pinned (OpenSpec.ofChange fnExactSieveOfSpec)

/-- ITS FALSE NEIGHBOUR: 'it returns false'. Refute it at one input. -/
def fnExactSieveOfWrong : ChangeSpec := { name := "fnExactSieveOf", fn := fun _ => fun
  | [d1, d2, d3] => { results := [.lit (.bool false)], args := [d1, d2, d3] }
  | _ => none }
def FnExactSieveOfWrongFalsely : Prop := fnExactSieveOfRow.holds Try.pinned (OpenSpec.ofChange fnExactSieveOfWrong)

/-- 'laws.FnExactPullSieve': WHATEVER THE INPUT: true; the input reads as it did. -/
def fnExactPullSieveSpec : ChangeSpec := { name := "fnExactPullSieve", fn := fun _ => fun
  | [d1, d2, d3] => { results := [.lit (.bool true)], args := [d1, d2, d3] }
  | _ => none }
def fnExactPullSieveRow : OpenClaim := { program := "ytjlppddaadhhcaa", sum := "7dfa4ed13711ab464b38c32943f60390f1f2ce0e566594a352e01859667a0214", func := "loop.example/g01083/laws.FnExactPullSieve", spec := "fnExactPullSieve", apart := false }
def FnExactPullSieveSaid : Prop := fnExactPullSieveRow.holds Try.pinned (OpenSpec.ofChange fnExactPullSieveSpec)

/-- ITS FALSE NEIGHBOUR: 'it returns false'. Refute it at one input. -/
def fnExactPullSieveWrong : ChangeSpec := { name := "fnExactPullSieve", fn := fun _ => fun
  | [d1, d2, d3] => { results := [.lit (.bool false)], args := [d1, d2, d3] }
  | _ => none }
def FnExactPullSieveWrongFalsely : Prop := fnExactPullSieveRow.holds Try.pinned (OpenSpec.ofChange fnExactPullSieveWrong)

/-- 'laws.FnExactImplySieves': WHATEVER THE INPUT: true; the input reads as it did. -/
def fnExactImplySievesSpec : ChangeSpec := { name := "fnExactImplySieves", fn := fun _ => fun
  | [d1, d2, d3, d4] => { results := [.lit (.bool true)], args := [d1, d2, d3, d4] }
  | _ => none }
def fnExactImplySievesRow : OpenClaim := { program := "ytjlppddaadhhcaa", sum := "7dfa4ed13711ab464b38c32943f60390f1f2ce0e566594a352e01859667a0214", func := "loop.example/g01083/laws.FnExactImplySieves", spec := "fnExactImplySieves", apart := false }
def FnExactImplySievesSaid : Prop := fnExactImplySievesRow.holds Try.pinned (OpenSpec.ofChange fnExactImplySievesSpec)

/-- ITS FALSE NEIGHBOUR: 'it returns false'. Refute it at one input. -/
def fnExactImplySievesWrong : ChangeSpec := { name := "fnExactImplySieves", fn := fun _ => fun
  | [d1, d2, d3, d4] => { results := [.lit (.bool false)], args := [d1, d2, d3, d4] }
  | _ => none }
def FnExactImplySievesWrongFalsely : Prop := fnExactImplySievesRow.holds Try.pinned (OpenSpec.ofChange fnExactImplySievesWrong)

/-- 'laws.FnExactLeftClass': WHATEVER THE INPUT: true; the input reads as it did. -/
def fnExactLeftClassSpec : ChangeSpec := { name := "fnExactLeftClass", fn := fun _ => fun
  | [d1, d2] => { results := [.lit (.bool true)], args := [d1, d2] }
  | _ => none }
def fnExactLeftClassRow : OpenClaim := { program := "ytjlppddaadhhcaa", sum := "7dfa4ed13711ab464b38c32943f60390f1f2ce0e566594a352e01859667a0214", func := "loop.example/g01083/laws.FnExactLeftClass", spec := "fnExactLeftClass", apart := false }
def FnExactLeftClassSaid : Prop := fnExactLeftClassRow.holds Try.pinned (OpenSpec.ofChange fnExactLeftClassSpec)

/-- ITS FALSE NEIGHBOUR: 'it returns false'. Refute it at one input. -/
def fnExactLeftClassWrong : ChangeSpec := { name := "fnExactLeftClass", fn := fun _ => fun
  | [d1, d2] => { results := [.lit (.bool false)], args := [d1, d2] }
  | _ => none }
def FnExactLeftClassWrongFalsely : Prop := fnExactLeftClassRow.holds Try.pinned (OpenSpec.ofChange fnExactLeftClassWrong)

/-- 'laws.FnExactRightClass': WHATEVER THE INPUT: true; the input reads as it did. -/
def fnExactRightClassSpec : ChangeSpec := { name := "fnExactRightClass", fn := fun _ => fun
  | [d1, d2] => { results := [.lit (.bool true)], args := [d1, d2] }
  | _ => none }
def fnExactRightClassRow : OpenClaim := { program := "ytjlppddaadhhcaa", sum := "7dfa4ed13711ab464b38c32943f60390f1f2ce0e566594a352e01859667a0214", func := "loop.example/g01083/laws.FnExactRightClass", spec := "fnExactRightClass", apart := false }
def FnExactRightClassSaid : Prop := fnExactRightClassRow.holds Try.pinned (OpenSpec.ofChange fnExactRightClassSpec)

/-- ITS FALSE NEIGHBOUR: 'it returns false'. Refute it at one input. -/
def fnExactRightClassWrong : ChangeSpec := { name := "fnExactRightClass", fn := fun _ => fun
  | [d1, d2] => { results := [.lit (.bool false)], args := [d1, d2] }
  | _ => none }
def FnExactRightClassWrongFalsely : Prop := fnExactRightClassRow.holds Try.pinned (OpenSpec.ofChange fnExactRightClassWrong)

/-- 'laws.FnExactSlicesValue': WHATEVER THE INPUT: true; the input reads as it did. -/
def fnExactSlicesValueSpec : ChangeSpec := { name := "fnExactSlicesValue", fn := fun _ => fun
  | [d1, d2, d3] => { results := [.lit (.bool true)], args := [d1, d2, d3] }
  | _ => none }
def fnExactSlicesValueRow : OpenClaim := { program := "ytjlppddaadhhcaa", sum := "7dfa4ed13711ab464b38c32943f60390f1f2ce0e566594a352e01859667a0214", func := "loop.example/g01083/laws.FnExactSlicesValue", spec := "fnExactSlicesValue", apart := false }
def FnExactSlicesValueSaid : Prop := fnExactSlicesValueRow.holds Try.pinned (OpenSpec.ofChange fnExactSlicesValueSpec)

/-- ITS FALSE NEIGHBOUR: 'it returns false'. Refute it at one input. -/
def fnExactSlicesValueWrong : ChangeSpec := { name := "fnExactSlicesValue", fn := fun _ => fun
  | [d1, d2, d3] => { results := [.lit (.bool false)], args := [d1, d2, d3] }
  | _ => none }
def FnExactSlicesValueWrongFalsely : Prop := fnExactSlicesValueRow.holds Try.pinned (OpenSpec.ofChange fnExactSlicesValueWrong)

/-- 'laws.FnExactIsFactorizationSystem': WHATEVER THE INPUT: true; the input reads as it did. -/
def fnExactIsFactorizationSystemSpec : ChangeSpec := { name := "fnExactIsFactorizationSystem", fn := fun _ => fun
  | [d1, d2, d3] => { results := [.lit (.bool true)], args := [d1, d2, d3] }
  | _ => none }
def fnExactIsFactorizationSystemRow : OpenClaim := { program := "ytjlppddaadhhcaa", sum := "7dfa4ed13711ab464b38c32943f60390f1f2ce0e566594a352e01859667a0214", func := "loop.example/g01083/laws.FnExactIsFactorizationSystem", spec := "fnExactIsFactorizationSystem", apart := false }
def FnExactIsFactorizationSystemSaid : Prop := fnExactIsFactorizationSystemRow.holds Try.pinned (OpenSpec.ofChange fnExactIsFactorizationSystemSpec)

/-- ITS FALSE NEIGHBOUR: 'it returns false'. Refute it at one input. -/
def fnExactIsFactorizationSystemWrong : ChangeSpec := { name := "fnExactIsFactorizationSystem", fn := fun _ => fun
  | [d1, d2, d3] => { results := [.lit (.bool false)], args := [d1, d2, d3] }
  | _ => none }
def FnExactIsFactorizationSystemWrongFalsely : Prop := fnExactIsFactorizationSystemRow.holds Try.pinned (OpenSpec.ofChange fnExactIsFactorizationSystemWrong)

/-- 'laws.FnExactSystemOf': WHATEVER THE INPUT: true; the input reads as it did. -/
def fnExactSystemOfSpec : ChangeSpec := { name := "fnExactSystemOf", fn := fun _ => fun
  | [d1, d2] => { results := [.lit (.bool true)], args := [d1, d2] }
  | _ => none }
def fnExactSystemOfRow : OpenClaim := { program := "ytjlppddaadhhcaa", sum := "7dfa4ed13711ab464b38c32943f60390f1f2ce0e566594a352e01859667a0214", func := "loop.example/g01083/laws.FnExactSystemOf", spec := "fnExactSystemOf", apart := false }
def FnExactSystemOfSaid : Prop := fnExactSystemOfRow.holds Try.pinned (OpenSpec.ofChange fnExactSystemOfSpec)

/-- ITS FALSE NEIGHBOUR: 'it returns false'. Refute it at one input. -/
def fnExactSystemOfWrong : ChangeSpec := { name := "fnExactSystemOf", fn := fun _ => fun
  | [d1, d2] => { results := [.lit (.bool false)], args := [d1, d2] }
  | _ => none }
def FnExactSystemOfWrongFalsely : Prop := fnExactSystemOfRow.holds Try.pinned (OpenSpec.ofChange fnExactSystemOfWrong)

/-- 'laws.FnExactAllMonoidObjects': WHATEVER THE INPUT: true; the input reads as it did. -/
def fnExactAllMonoidObjectsSpec : ChangeSpec := { name := "fnExactAllMonoidObjects", fn := fun _ => fun
  | [d] => { results := [.lit (.bool true)], args := [d] }
  | _ => none }
def fnExactAllMonoidObjectsRow : OpenClaim := { program := "ytjlppddaadhhcaa", sum := "7dfa4ed13711ab464b38c32943f60390f1f2ce0e566594a352e01859667a0214", func := "loop.example/g01083/laws.FnExactAllMonoidObjects", spec := "fnExactAllMonoidObjects", apart := false }
def FnExactAllMonoidObjectsSaid : Prop := fnExactAllMonoidObjectsRow.holds Try.pinned (OpenSpec.ofChange fnExactAllMonoidObjectsSpec)

/-- ITS FALSE NEIGHBOUR: 'it returns false'. Refute it at one input. -/
def fnExactAllMonoidObjectsWrong : ChangeSpec := { name := "fnExactAllMonoidObjects", fn := fun _ => fun
  | [d] => { results := [.lit (.bool false)], args := [d] }
  | _ => none }
def FnExactAllMonoidObjectsWrongFalsely : Prop := fnExactAllMonoidObjectsRow.holds Try.pinned (OpenSpec.ofChange fnExactAllMonoidObjectsWrong)

/-- 'laws.FnExactUniversalElements': WHATEVER THE INPUT: true; the input reads as it did. -/
def fnExactUniversalElementsSpec : ChangeSpec := { name := "fnExactUniversalElements", fn := fun _ => fun
  | [d] => { results := [.lit (.bool true)], args := [d] }
  | _ => none }
def fnExactUniversalElementsRow : OpenClaim := { program := "ytjlppddaadhhcaa", sum := "7dfa4ed13711ab464b38c32943f60390f1f2ce0e566594a352e01859667a0214", func := "loop.example/g01083/laws.FnExactUniversalElements", spec := "fnExactUniversalElements", apart := false }
def FnExactUniversalElementsSaid : Prop := fnExactUniversalElementsRow.holds Try.pinned (OpenSpec.ofChange fnExactUniversalElementsSpec)

/-- ITS FALSE NEIGHBOUR: 'it returns false'. Refute it at one input. -/
def fnExactUniversalElementsWrong : ChangeSpec := { name := "fnExactUniversalElements", fn := fun _ => fun
  | [d] => { results := [.lit (.bool false)], args := [d] }
  | _ => none }
def FnExactUniversalElementsWrongFalsely : Prop := fnExactUniversalElementsRow.holds Try.pinned (OpenSpec.ofChange fnExactUniversalElementsWrong)

/- THE SECOND FORM. 'bulk': how many values and letters a reading holds, each counted each time it is reached (what is shared counts as often as it is met; a slice's spare places count too). A statement '..UptoSaid' is the law's where the arguments, and the package variables that the reading takes, are together of bulk at most 1048576: NARROWER than '..Said'. Prove '..Said' where nothing that the law and all that it calls make is longer than what came in: it says more and counts as full. Else prove '..UptoSaid'. A law counts once. -/
mutual
def uptoBulk {H : Type} : DataW H → Nat
  | .lit (.string bytes) => bytes.length + 1
  | .lit _ => 1
  | .nil => 1
  | .ptr d => uptoBulk d + 1
  | .slice elems spare => uptoBulkAll elems + uptoBulkAll spare + 1
  | .agg parts => uptoBulkAll parts + 1
  | .iface _ d => uptoBulk d + 1
  | .map entries => uptoBulkEntries entries + 1
  | .held _ => 1
def uptoBulkAll {H : Type} : List (DataW H) → Nat
  | [] => 0
  | d :: r => uptoBulk d + uptoBulkAll r
def uptoBulkEntries {H : Type} : List (Lit × DataW H) → Nat
  | [] => 0
  | x :: r => uptoBulkEntry x + uptoBulkEntries r
def uptoBulkEntry {H : Type} : Lit × DataW H → Nat
  | (.string bytes, d) => bytes.length + uptoBulk d + 1
  | (_, d) => uptoBulk d + 1
 end
def uptoSmall : (H : Type) → List (DataW H) → Bool := fun _ ds => decide (uptoBulkAll ds ≤ 1048576)
def OpenSpec.upto (s : _root_.Go.ChangeSpec) : _root_.Go.OpenSpec := { _root_.Go.OpenSpec.ofChange s with cond := some uptoSmall }

/-- 'laws.FnExactSieveOf', WHERE WHAT IT READS IS OF BULK AT MOST 1048576: true; the input reads as it did. -/
def fnExactSieveOfUptoRow : OpenClaim := { program := "ytjlppddaadhhcaa", sum := "7dfa4ed13711ab464b38c32943f60390f1f2ce0e566594a352e01859667a0214", func := "loop.example/g01083/laws.FnExactSieveOf", spec := "fnExactSieveOf", apart := false, narrowed := true }
def FnExactSieveOfUptoSaid : Prop := fnExactSieveOfUptoRow.holds Try.pinned (OpenSpec.upto fnExactSieveOfSpec)

/-- 'laws.FnExactPullSieve', WHERE WHAT IT READS IS OF BULK AT MOST 1048576: true; the input reads as it did. -/
def fnExactPullSieveUptoRow : OpenClaim := { program := "ytjlppddaadhhcaa", sum := "7dfa4ed13711ab464b38c32943f60390f1f2ce0e566594a352e01859667a0214", func := "loop.example/g01083/laws.FnExactPullSieve", spec := "fnExactPullSieve", apart := false, narrowed := true }
def FnExactPullSieveUptoSaid : Prop := fnExactPullSieveUptoRow.holds Try.pinned (OpenSpec.upto fnExactPullSieveSpec)

/-- 'laws.FnExactImplySieves', WHERE WHAT IT READS IS OF BULK AT MOST 1048576: true; the input reads as it did. -/
def fnExactImplySievesUptoRow : OpenClaim := { program := "ytjlppddaadhhcaa", sum := "7dfa4ed13711ab464b38c32943f60390f1f2ce0e566594a352e01859667a0214", func := "loop.example/g01083/laws.FnExactImplySieves", spec := "fnExactImplySieves", apart := false, narrowed := true }
def FnExactImplySievesUptoSaid : Prop := fnExactImplySievesUptoRow.holds Try.pinned (OpenSpec.upto fnExactImplySievesSpec)

/-- 'laws.FnExactLeftClass', WHERE WHAT IT READS IS OF BULK AT MOST 1048576: true; the input reads as it did. -/
def fnExactLeftClassUptoRow : OpenClaim := { program := "ytjlppddaadhhcaa", sum := "7dfa4ed13711ab464b38c32943f60390f1f2ce0e566594a352e01859667a0214", func := "loop.example/g01083/laws.FnExactLeftClass", spec := "fnExactLeftClass", apart := false, narrowed := true }
def FnExactLeftClassUptoSaid : Prop := fnExactLeftClassUptoRow.holds Try.pinned (OpenSpec.upto fnExactLeftClassSpec)

/-- 'laws.FnExactRightClass', WHERE WHAT IT READS IS OF BULK AT MOST 1048576: true; the input reads as it did. -/
def fnExactRightClassUptoRow : OpenClaim := { program := "ytjlppddaadhhcaa", sum := "7dfa4ed13711ab464b38c32943f60390f1f2ce0e566594a352e01859667a0214", func := "loop.example/g01083/laws.FnExactRightClass", spec := "fnExactRightClass", apart := false, narrowed := true }
def FnExactRightClassUptoSaid : Prop := fnExactRightClassUptoRow.holds Try.pinned (OpenSpec.upto fnExactRightClassSpec)

/-- 'laws.FnExactSlicesValue', WHERE WHAT IT READS IS OF BULK AT MOST 1048576: true; the input reads as it did. -/
def fnExactSlicesValueUptoRow : OpenClaim := { program := "ytjlppddaadhhcaa", sum := "7dfa4ed13711ab464b38c32943f60390f1f2ce0e566594a352e01859667a0214", func := "loop.example/g01083/laws.FnExactSlicesValue", spec := "fnExactSlicesValue", apart := false, narrowed := true }
def FnExactSlicesValueUptoSaid : Prop := fnExactSlicesValueUptoRow.holds Try.pinned (OpenSpec.upto fnExactSlicesValueSpec)

/-- 'laws.FnExactIsFactorizationSystem', WHERE WHAT IT READS IS OF BULK AT MOST 1048576: true; the input reads as it did. -/
def fnExactIsFactorizationSystemUptoRow : OpenClaim := { program := "ytjlppddaadhhcaa", sum := "7dfa4ed13711ab464b38c32943f60390f1f2ce0e566594a352e01859667a0214", func := "loop.example/g01083/laws.FnExactIsFactorizationSystem", spec := "fnExactIsFactorizationSystem", apart := false, narrowed := true }
def FnExactIsFactorizationSystemUptoSaid : Prop := fnExactIsFactorizationSystemUptoRow.holds Try.pinned (OpenSpec.upto fnExactIsFactorizationSystemSpec)

/-- 'laws.FnExactSystemOf', WHERE WHAT IT READS IS OF BULK AT MOST 1048576: true; the input reads as it did. -/
def fnExactSystemOfUptoRow : OpenClaim := { program := "ytjlppddaadhhcaa", sum := "7dfa4ed13711ab464b38c32943f60390f1f2ce0e566594a352e01859667a0214", func := "loop.example/g01083/laws.FnExactSystemOf", spec := "fnExactSystemOf", apart := false, narrowed := true }
def FnExactSystemOfUptoSaid : Prop := fnExactSystemOfUptoRow.holds Try.pinned (OpenSpec.upto fnExactSystemOfSpec)

/-- 'laws.FnExactAllMonoidObjects', WHERE WHAT IT READS IS OF BULK AT MOST 1048576: true; the input reads as it did. -/
def fnExactAllMonoidObjectsUptoRow : OpenClaim := { program := "ytjlppddaadhhcaa", sum := "7dfa4ed13711ab464b38c32943f60390f1f2ce0e566594a352e01859667a0214", func := "loop.example/g01083/laws.FnExactAllMonoidObjects", spec := "fnExactAllMonoidObjects", apart := false, narrowed := true }
def FnExactAllMonoidObjectsUptoSaid : Prop := fnExactAllMonoidObjectsUptoRow.holds Try.pinned (OpenSpec.upto fnExactAllMonoidObjectsSpec)

/-- 'laws.FnExactUniversalElements', WHERE WHAT IT READS IS OF BULK AT MOST 1048576: true; the input reads as it did. -/
def fnExactUniversalElementsUptoRow : OpenClaim := { program := "ytjlppddaadhhcaa", sum := "7dfa4ed13711ab464b38c32943f60390f1f2ce0e566594a352e01859667a0214", func := "loop.example/g01083/laws.FnExactUniversalElements", spec := "fnExactUniversalElements", apart := false, narrowed := true }
def FnExactUniversalElementsUptoSaid : Prop := fnExactUniversalElementsUptoRow.holds Try.pinned (OpenSpec.upto fnExactUniversalElementsSpec)

end Rows
end Go.Proofs.Ytjlppddaadhhcaa
