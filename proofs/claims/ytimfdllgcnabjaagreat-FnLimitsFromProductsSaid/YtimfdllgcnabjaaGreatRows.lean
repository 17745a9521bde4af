/-
  No cell of these rows narrows 'for every input' (looked for: loops, veiled, ifaces, maps, wideKeys, modest, calm, conditions, laid).
  DERIVED. THE GIVEN ROWS OF THIS SEAT. 3 by the template 'for every input the law returns true; each argument reads behind the call as it read before'; 0 by the template 'total and deterministic' (their statements: YtimfdllgcnabjaaGreatTotals.lean).
  GIVEN WITH THE SEED: the statements are not yours to turn. If you find one false, say at which input.
  Laid BY PROGRAM, IN A SANDBOX (cutbox-rows.mjs): the forced cells as the released guide's own fill.sh prints them over the translation e38256a35d183c19… (all of the seat's roots in one cut). By AI agents, Wed Nov 11 2026. No macro, syntax, notation, axiom, sorry.
-/
import Derived.Test.YtimfdllgcnabjaaGreatChecked
import GoSem.Claim
import GoSem.ClaimJoined
import GoSem.ClaimMapViews
import Derived.JoinedTies
import Derived.KernelRfl
namespace Go.Proofs.YtimfdllgcnabjaaGreat
/- THE CELL 'sum', in the pinned program and in every row, IS THE sha256 OF THE DUMP (.gsa) THAT YtimfdllgcnabjaaGreatProg.lean LOADS. Nothing in Lean hashes anything: it is a label: what it is worth is what the hold of that sum in a sandbox is worth. -/
noncomputable def Tryz.pinned : Pinned := { name := "ytimfdllgcnabjaagreat", sum := "e38256a35d183c19613f5f4ada77f138f6c976362d9f022b0eca51b324aed1f4", checked := Tryz.checked }
namespace Rows
def none {H : Type} : Left H := { results := [], args := [] }

/-- 'laws.FnLimitsFromProducts': WHATEVER THE INPUT: true; the input reads as it did. -/
def fnLimitsFromProductsSpec : ChangeSpec := { name := "fnLimitsFromProducts", fn := fun _ => fun
  | [d] => { results := [.lit (.bool true)], args := [d] }
  | _ => none }
def fnLimitsFromProductsRow : OpenClaim := { program := "ytimfdllgcnabjaagreat", sum := "e38256a35d183c19613f5f4ada77f138f6c976362d9f022b0eca51b324aed1f4", func := "loop.example/g01083/laws.FnLimitsFromProducts", spec := "fnLimitsFromProducts", unfollowed := true, recurses := true, plainKeys := false, apart := false }
def FnLimitsFromProductsSaid : Prop := fnLimitsFromProductsRow.holds Tryz.pinned (OpenSpec.ofChange fnLimitsFromProductsSpec)

/-- ITS FALSE NEIGHBOUR: 'it returns false'. Refute it at one input. -/
def fnLimitsFromProductsWrong : ChangeSpec := { name := "fnLimitsFromProducts", fn := fun _ => fun
  | [d] => { results := [.lit (.bool false)], args := [d] }
  | _ => none }
def FnLimitsFromProductsWrongFalsely : Prop := fnLimitsFromProductsRow.holds Tryz.pinned (OpenSpec.ofChange fnLimitsFromProductsWrong)

/-- 'laws.FnLimitsTerminal': WHATEVER THE INPUT: true; the input reads as it did. -/
def fnLimitsTerminalSpec : ChangeSpec := { name := "fnLimitsTerminal", fn := fun _ => fun
  | [d] => { results := [.lit (.bool true)], args := [d] }
  | _ => none }
def fnLimitsTerminalRow : OpenClaim := { program := "ytimfdllgcnabjaagreat", sum := "e38256a35d183c19613f5f4ada77f138f6c976362d9f022b0eca51b324aed1f4", func := "loop.example/g01083/laws.FnLimitsTerminal", spec := "fnLimitsTerminal", unfollowed := true, recurses := true, plainKeys := false, apart := false }
def FnLimitsTerminalSaid : Prop := fnLimitsTerminalRow.holds Tryz.pinned (OpenSpec.ofChange fnLimitsTerminalSpec)

/-- ITS FALSE NEIGHBOUR: 'it returns false'. Refute it at one input. -/
def fnLimitsTerminalWrong : ChangeSpec := { name := "fnLimitsTerminal", fn := fun _ => fun
  | [d] => { results := [.lit (.bool false)], args := [d] }
  | _ => none }
def FnLimitsTerminalWrongFalsely : Prop := fnLimitsTerminalRow.holds Tryz.pinned (OpenSpec.ofChange fnLimitsTerminalWrong)

/-- 'laws.FnMediators': WHATEVER THE INPUT: true; the input reads as it did. -/
def fnMediatorsSpec : ChangeSpec := { name := "fnMediators", fn := fun _ => fun
  | [d] => { results := [.lit (.bool true)], args := [d] }
  | _ => none }
def fnMediatorsRow : OpenClaim := { program := "ytimfdllgcnabjaagreat", sum := "e38256a35d183c19613f5f4ada77f138f6c976362d9f022b0eca51b324aed1f4", func := "loop.example/g01083/laws.FnMediators", spec := "fnMediators", unfollowed := true, recurses := true, plainKeys := false, apart := false }
def FnMediatorsSaid : Prop := fnMediatorsRow.holds Tryz.pinned (OpenSpec.ofChange fnMediatorsSpec)

/-- ITS FALSE NEIGHBOUR: 'it returns false'. Refute it at one input. -/
def fnMediatorsWrong : ChangeSpec := { name := "fnMediators", fn := fun _ => fun
  | [d] => { results := [.lit (.bool false)], args := [d] }
  | _ => none }
def FnMediatorsWrongFalsely : Prop := fnMediatorsRow.holds Tryz.pinned (OpenSpec.ofChange fnMediatorsWrong)

/- THE SECOND FORM. 'bulk': how many values and letters a reading holds, each counted each time it is reached (what is shared counts as often as it is met; a slice's spare places count too). A statement '..UptoSaid' is the law's where the arguments, and the package variables that the reading takes, are together of bulk at most 1048576: NARROWER than '..Said'. Prove '..Said' where nothing that the law and all that it calls make is longer than what came in: it says more and counts as full. Else prove '..UptoSaid'. A law counts once. -/
mutual
def uptoBulk {H : Type} : DataW H → Nat
  | .lit (.string bytes) => bytes.length + 1
  | .lit _ => 1
  | .nil => 1
  | .ptr d => uptoBulk d + 1
  | .slice elems spare => uptoBulkAll elems + uptoBulkAll spare + 1
  | .agg parts => uptoBulkAll parts + 1
  | .iface _ d => uptoBulk d + 1
  | .map entries => uptoBulkEntries entries + 1
  | .held _ => 1
def uptoBulkAll {H : Type} : List (DataW H) → Nat
  | [] => 0
  | d :: r => uptoBulk d + uptoBulkAll r
def uptoBulkEntries {H : Type} : List (Lit × DataW H) → Nat
  | [] => 0
  | x :: r => uptoBulkEntry x + uptoBulkEntries r
def uptoBulkEntry {H : Type} : Lit × DataW H → Nat
  | (.string bytes, d) => bytes.length + uptoBulk d + 1
  | (_, d) => uptoBulk d + 1
 end
def uptoSmall : (H : Type) → List (DataW H) → Bool := fun _ ds => decide (uptoBulkAll ds ≤ 1048576)
def OpenSpec.upto (s : _root_.Go.ChangeSpec) : _root_.Go.OpenSpec := { _root_.Go.OpenSpec.ofChange s with cond := some uptoSmall }

/-- 'laws.FnLimitsFromProducts', WHERE WHAT IT READS IS OF BULK AT MOST 1048576: true; the input reads as it did. -/
def fnLimitsFromProductsUptoRow : OpenClaim := { program := "ytimfdllgcnabjaagreat", sum := "e38256a35d183c19613f5f4ada77f138f6c976362d9f022b0eca51b324aed1f4", func := "loop.example/g01083/laws.FnLimitsFromProducts", spec := "fnLimitsFromProducts", unfollowed := true, recurses := true, plainKeys := false, apart := false, narrowed := true }
def FnLimitsFromProductsUptoSaid : Prop := fnLimitsFromProductsUptoRow.holds Tryz.pinned (OpenSpec.upto fnLimitsFromProductsSpec)

/-- 'laws.FnLimitsTerminal', WHERE WHAT IT READS IS OF BULK AT MOST 1048576: true; the input reads as it did. -/
def fnLimitsTerminalUptoRow : OpenClaim := { program := "ytimfdllgcnabjaagreat", sum := "e38256a35d183c19613f5f4ada77f138f6c976362d9f022b0eca51b324aed1f4", func := "loop.example/g01083/laws.FnLimitsTerminal", spec := "fnLimitsTerminal", unfollowed := true, recurses := true, plainKeys := false, apart := false, narrowed := true }
def FnLimitsTerminalUptoSaid : Prop := fnLimitsTerminalUptoRow.holds Tryz.pinned (OpenSpec.upto fnLimitsTerminalSpec)

/-- 'laws.FnMediators', WHERE WHAT IT READS IS OF BULK AT MOST 1048576: true; the input reads as it did. -/
def fnMediatorsUptoRow : OpenClaim := { program := "ytimfdllgcnabjaagreat", sum := "e38256a35d183c19613f5f4ada77f138f6c976362d9f022b0eca51b324aed1f4", func := "loop.example/g01083/laws.FnMediators", spec := "fnMediators", unfollowed := true, recurses := true, plainKeys := false, apart := false, narrowed := true }
def FnMediatorsUptoSaid : Prop := fnMediatorsUptoRow.holds Tryz.pinned (OpenSpec.upto fnMediatorsSpec)

end Rows
end Go.Proofs.YtimfdllgcnabjaaGreat
