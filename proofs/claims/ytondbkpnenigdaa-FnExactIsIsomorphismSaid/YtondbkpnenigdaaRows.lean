/-
  No cell of these rows narrows 'for every input' (looked for: loops, veiled, ifaces, maps, wideKeys, modest, calm, conditions, laid).
  DERIVED. THE GIVEN ROWS OF THIS SEAT. 6 by the template 'for every input the law returns true; each argument reads behind the call as it read before'; 0 by the template 'total and deterministic' (their statements: YtondbkpnenigdaaTotals.lean).
  GIVEN WITH THE SEED: the statements are not yours to turn. If you find one false, say at which input.
  Laid BY PROGRAM, IN A SANDBOX (cutbox-rows.mjs): the forced cells as the released guide's own fill.sh prints them over the translation ba7dc05758c6310b… (all of the seat's roots in one cut). By AI agents, Wed Nov 11 2026. No macro, syntax, notation, axiom, sorry.
-/
import Derived.Test.YtondbkpnenigdaaChecked
import GoSem.Claim
import GoSem.ClaimJoined
import GoSem.ClaimMapViews
import Derived.JoinedTies
import Derived.KernelRfl
namespace Go.Proofs.Ytondbkpnenigdaa
/- THE CELL 'sum', in the pinned program and in every row, IS THE sha256 OF THE DUMP (.gsa) THAT YtondbkpnenigdaaProg.lean LOADS. Nothing in Lean hashes anything: it is a label: what it is worth is what the hold of that sum in a sandbox is worth. -/
noncomputable def Try.pinned : Pinned := { name := "ytondbkpnenigdaa", sum := "ba7dc05758c6310b21465e017a8c9b8bd9e0042fe535942662e58320f1f6457b", checked := Try.checked }
namespace Rows
def none {H : Type} : Left H := { results := [], args := [] }

/-- 'laws.FnExactIsTwoValued': WHATEVER THE INPUT: true; the input reads as it did. -/
def fnExactIsTwoValuedSpec : ChangeSpec := { name := "fnExactIsTwoValued", fn := fun _ => fun
  | [d] => { results := [.lit (.bool true)], args := [d] }
  | _ => none }
def fnExactIsTwoValuedRow : OpenClaim := { program := "ytondbkpnenigdaa", sum := "ba7dc05758c6310b21465e017a8c9b8bd9e0042fe535942662e58320f1f6457b", func := "loop.example/g01083/laws.FnExactIsTwoValued", spec := "fnExactIsTwoValued", unfollowed := true, recurses := true, plainKeys := false, apart := false }
def FnExactIsTwoValuedSaid : Prop := fnExactIsTwoValuedRow.holds Try.pinned (OpenSpec.ofChange fnExactIsTwoValuedSpec)

/-- ITS FALSE NEIGHBOUR: 'it returns false'. Refute it at one input. -/
def fnExactIsTwoValuedWrong : ChangeSpec := { name := "fnExactIsTwoValued", fn := fun _ => fun
  | [d] => { results := [.lit (.bool false)], args := [d] }
  | _ => none }
def FnExactIsTwoValuedWrongFalsely : Prop := fnExactIsTwoValuedRow.holds Try.pinned (OpenSpec.ofChange fnExactIsTwoValuedWrong)

/-- 'laws.FnExactIsSieve': WHATEVER THE INPUT: true; the input reads as it did. -/
def fnExactIsSieveSpec : ChangeSpec := { name := "fnExactIsSieve", fn := fun _ => fun
  | [d1, d2, d3] => { results := [.lit (.bool true)], args := [d1, d2, d3] }
  | _ => none }
def fnExactIsSieveRow : OpenClaim := { program := "ytondbkpnenigdaa", sum := "ba7dc05758c6310b21465e017a8c9b8bd9e0042fe535942662e58320f1f6457b", func := "loop.example/g01083/laws.FnExactIsSieve", spec := "fnExactIsSieve", plainKeys := false, apart := false }
def FnExactIsSieveSaid : Prop := fnExactIsSieveRow.holds Try.pinned (OpenSpec.ofChange fnExactIsSieveSpec)

/-- ITS FALSE NEIGHBOUR: 'it returns false'. Refute it at one input. -/
def fnExactIsSieveWrong : ChangeSpec := { name := "fnExactIsSieve", fn := fun _ => fun
  | [d1, d2, d3] => { results := [.lit (.bool false)], args := [d1, d2, d3] }
  | _ => none }
def FnExactIsSieveWrongFalsely : Prop := fnExactIsSieveRow.holds Try.pinned (OpenSpec.ofChange fnExactIsSieveWrong)

/-- 'laws.FnExactSieveOf': WHATEVER THE INPUT: true; the input reads as it did. -/
def fnExactSieveOfSpec : ChangeSpec := { name := "fnExactSieveOf", fn := fun _ => fun
  | [d1, d2, d3] => { results := [.lit (.bool true)], args := [d1, d2, d3] }
  | _ => none }
def fnExactSieveOfRow : OpenClaim := { program := "ytondbkpnenigdaa", sum := "ba7dc05758c6310b21465e017a8c9b8bd9e0042fe535942662e58320f1f6457b", func := "loop.example/g01083/laws.FnExactSieveOf", spec := "fnExactSieveOf", plainKeys := false, apart := false }
def FnExactSieveOfSaid : Prop := fnExactSieveOfRow.holds Try.pinned (OpenSpec.ofChange fnExactSieveOfSpec)

/-- ITS FALSE NEIGHBOUR: 'it returns false'. Refute it at one input. -/
def fnExactSieveOfWrong : ChangeSpec := { name := "fnExactSieveOf", fn := fun _ => fun
  | [d1, d2, d3] => { results := [.lit (.bool false)], args := [d1, d2, d3] }
  | _ => none }
def FnExactSieveOfWrongFalsely : Prop := fnExactSieveOfRow.holds Try.pinned (OpenSpec.ofChange fnExactSieveOfWrong)

/-- 'laws.FnExactIsRegularMono': WHATEVER THE INPUT: true; the input reads as it did. -/
def fnExactIsRegularMonoSpec : ChangeSpec := { name := "fnExactIsRegularMono", fn := fun _ => fun
  | [d1, d2] => { results := [.lit (.bool true)], args := [d1, d2] }
  | _ => none }
def fnExactIsRegularMonoRow : OpenClaim := { program := "ytondbkpnenigdaa", sum := "ba7dc05758c6310b21465e017a8c9b8bd9e0042fe535942662e58320f1f6457b", func := "loop.example/g01083/laws.FnExactIsRegularMono", spec := "fnExactIsRegularMono", unfollowed := true, recurses := true, plainKeys := false, apart := false }
def FnExactIsRegularMonoSaid : Prop := fnExactIsRegularMonoRow.holds Try.pinned (OpenSpec.ofChange fnExactIsRegularMonoSpec)

/-- ITS FALSE NEIGHBOUR: 'it returns false'. Refute it at one input. -/
def fnExactIsRegularMonoWrong : ChangeSpec := { name := "fnExactIsRegularMono", fn := fun _ => fun
  | [d1, d2] => { results := [.lit (.bool false)], args := [d1, d2] }
  | _ => none }
def FnExactIsRegularMonoWrongFalsely : Prop := fnExactIsRegularMonoRow.holds Try.pinned (OpenSpec.ofChange fnExactIsRegularMonoWrong)

/-- 'laws.FnExactPullSieve': WHATEVER THE INPUT: true; the input reads as it did. -/
def fnExactPullSieveSpec : ChangeSpec := { name := "fnExactPullSieve", fn := fun _ => fun
  | [d1, d2, d3] => { results := [.lit (.bool true)], args := [d1, d2, d3] }
  | _ => none }
def fnExactPullSieveRow : OpenClaim := { program := "ytondbkpnenigdaa", sum := "ba7dc05758c6310b21465e017a8c9b8bd9e0042fe535942662e58320f1f6457b", func := "loop.example/g01083/laws.FnExactPullSieve", spec := "fnExactPullSieve", plainKeys := false, apart := false }
def FnExactPullSieveSaid : Prop := fnExactPullSieveRow.holds Try.pinned (OpenSpec.ofChange fnExactPullSieveSpec)

/-- ITS FALSE NEIGHBOUR: 'it returns false'. Refute it at one input. -/
def fnExactPullSieveWrong : ChangeSpec := { name := "fnExactPullSieve", fn := fun _ => fun
  | [d1, d2, d3] => { results := [.lit (.bool false)], args := [d1, d2, d3] }
  | _ => none }
def FnExactPullSieveWrongFalsely : Prop := fnExactPullSieveRow.holds Try.pinned (OpenSpec.ofChange fnExactPullSieveWrong)

/-- 'laws.FnExactIsIsomorphism': WHATEVER THE INPUT: true; the input reads as it did. -/
def fnExactIsIsomorphismSpec : ChangeSpec := { name := "fnExactIsIsomorphism", fn := fun _ => fun
  | [d] => { results := [.lit (.bool true)], args := [d] }
  | _ => none }
def fnExactIsIsomorphismRow : OpenClaim := { program := "ytondbkpnenigdaa", sum := "ba7dc05758c6310b21465e017a8c9b8bd9e0042fe535942662e58320f1f6457b", func := "loop.example/g01083/laws.FnExactIsIsomorphism", spec := "fnExactIsIsomorphism", unfollowed := true, recurses := true, plainKeys := false, apart := false }
def FnExactIsIsomorphismSaid : Prop := fnExactIsIsomorphismRow.holds Try.pinned (OpenSpec.ofChange fnExactIsIsomorphismSpec)

/-- ITS FALSE NEIGHBOUR: 'it returns false'. Refute it at one input. -/
def fnExactIsIsomorphismWrong : ChangeSpec := { name := "fnExactIsIsomorphism", fn := fun _ => fun
  | [d] => { results := [.lit (.bool false)], args := [d] }
  | _ => none }
def FnExactIsIsomorphismWrongFalsely : Prop := fnExactIsIsomorphismRow.holds Try.pinned (OpenSpec.ofChange fnExactIsIsomorphismWrong)

/- THE SECOND FORM. 'bulk': how many values and letters a reading holds, each counted each time it is reached (what is shared counts as often as it is met; a slice's spare places count too). A statement '..UptoSaid' is the law's where the arguments, and the package variables that the reading takes, are together of bulk at most 1048576: NARROWER than '..Said'. Prove '..Said' where nothing that the law and all that it calls make is longer than what came in: it says more and counts as full. Else prove '..UptoSaid'. A law counts once. -/
mutual
def uptoBulk {H : Type} : DataW H → Nat
  | .lit (.string bytes) => bytes.length + 1
  | .lit _ => 1
  | .nil => 1
  | .ptr d => uptoBulk d + 1
  | .slice elems spare => uptoBulkAll elems + uptoBulkAll spare + 1
  | .agg parts => uptoBulkAll parts + 1
  | .iface _ d => uptoBulk d + 1
  | .map entries => uptoBulkEntries entries + 1
  | .held _ => 1
def uptoBulkAll {H : Type} : List (DataW H) → Nat
  | [] => 0
  | d :: r => uptoBulk d + uptoBulkAll r
def uptoBulkEntries {H : Type} : List (Lit × DataW H) → Nat
  | [] => 0
  | x :: r => uptoBulkEntry x + uptoBulkEntries r
def uptoBulkEntry {H : Type} : Lit × DataW H → Nat
  | (.string bytes, d) => bytes.length + uptoBulk d + 1
  | (_, d) => uptoBulk d + 1
 end
def uptoSmall : (H : Type) → List (DataW H) → Bool := fun _ ds => decide (uptoBulkAll ds ≤ 1048576)
def OpenSpec.upto (s : _root_.Go.ChangeSpec) : _root_.Go.OpenSpec := { _root_.Go.OpenSpec.ofChange s with cond := some uptoSmall }

/-- 'laws.FnExactIsTwoValued', WHERE WHAT IT READS IS OF BULK AT MOST 1048576: true; the input reads as it did. -/
def fnExactIsTwoValuedUptoRow : OpenClaim := { program := "ytondbkpnenigdaa", sum := "ba7dc05758c6310b21465e017a8c9b8bd9e0042fe535942662e58320f1f6457b", func := "loop.example/g01083/laws.FnExactIsTwoValued", spec := "fnExactIsTwoValued", unfollowed := true, recurses := true, plainKeys := false, apart := false, narrowed := true }
def FnExactIsTwoValuedUptoSaid : Prop := fnExactIsTwoValuedUptoRow.holds Try.pinned (OpenSpec.upto fnExactIsTwoValuedSpec)

/-- 'laws.FnExactIsSieve', WHERE WHAT IT READS IS OF BULK AT MOST 1048576: true; the input reads as it did. -/
def fnExactIsSieveUptoRow : OpenClaim := { program := "ytondbkpnenigdaa", sum := "ba7dc05758c6310b21465e017a8c9b8bd9e0042fe535942662e58320f1f6457b", func := "loop.example/g01083/laws.FnExactIsSieve", spec := "fnExactIsSieve", plainKeys := false, apart := false, narrowed := true }
def FnExactIsSieveUptoSaid : Prop := fnExactIsSieveUptoRow.holds Try.pinned (OpenSpec.upto fnExactIsSieveSpec)

/-- 'laws.FnExactSieveOf', WHERE WHAT IT READS IS OF BULK AT MOST 1048576: true; the input reads as it did. -/
def fnExactSieveOfUptoRow : OpenClaim := { program := "ytondbkpnenigdaa", sum := "ba7dc05758c6310b21465e017a8c9b8bd9e0042fe535942662e58320f1f6457b", func := "loop.example/g01083/laws.FnExactSieveOf", spec := "fnExactSieveOf", plainKeys := false, apart := false, narrowed := true }
def FnExactSieveOfUptoSaid : Prop := fnExactSieveOfUptoRow.holds Try.pinned (OpenSpec.upto fnExactSieveOfSpec)

/-- 'laws.FnExactIsRegularMono', WHERE WHAT IT READS IS OF BULK AT MOST 1048576: true; the input reads as it did. -/
def fnExactIsRegularMonoUptoRow : OpenClaim := { program := "ytondbkpnenigdaa", sum := "ba7dc05758c6310b21465e017a8c9b8bd9e0042fe535942662e58320f1f6457b", func := "loop.example/g01083/laws.FnExactIsRegularMono", spec := "fnExactIsRegularMono", unfollowed := true, recurses := true, plainKeys := false, apart := false, narrowed := true }
def FnExactIsRegularMonoUptoSaid : Prop := fnExactIsRegularMonoUptoRow.holds Try.pinned (OpenSpec.upto fnExactIsRegularMonoSpec)

/-- 'laws.FnExactPullSieve', WHERE WHAT IT READS IS OF BULK AT MOST 1048576: true; the input reads as it did. -/
def fnExactPullSieveUptoRow : OpenClaim := { program := "ytondbkpnenigdaa", sum := "ba7dc05758c6310b21465e017a8c9b8bd9e0042fe535942662e58320f1f6457b", func := "loop.example/g01083/laws.FnExactPullSieve", spec := "fnExactPullSieve", plainKeys := false, apart := false, narrowed := true }
def FnExactPullSieveUptoSaid : Prop := fnExactPullSieveUptoRow.holds Try.pinned (OpenSpec.upto fnExactPullSieveSpec)

/-- 'laws.FnExactIsIsomorphism', WHERE WHAT IT READS IS OF BULK AT MOST 1048576: true; the input reads as it did. -/
def fnExactIsIsomorphismUptoRow : OpenClaim := { program := "ytondbkpnenigdaa", sum := "ba7dc05758c6310b21465e017a8c9b8bd9e0042fe535942662e58320f1f6457b", func := "loop.example/g01083/laws.FnExactIsIsomorphism", spec := "fnExactIsIsomorphism", unfollowed := true, recurses := true, plainKeys := false, apart := false, narrowed := true }
def FnExactIsIsomorphismUptoSaid : Prop := fnExactIsIsomorphismUptoRow.holds Try.pinned (OpenSpec.upto fnExactIsIsomorphismSpec)

end Rows
end Go.Proofs.Ytondbkpnenigdaa
