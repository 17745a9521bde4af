/- What the functions that FnExactDiagramValue reaches give: for each its contract, what it asks, and the proof. No condition. -/
import Derived.Test.YtigkajkcdaoojaaFnExactDiagramValueFnsA
namespace Go.Bm
open Go.Proofs
set_option maxRecDepth 100000
set_option maxHeartbeats 1000000
set_option linter.unusedVariables false
set_option linter.unusedSimpArgs false
def c_spec_l35Is : Ct := ⟨[MonoidalT], [true], fun x => [], [(false, (.fz .bool))], fun x => (monR x.1, ()), false, none⟩
def W_spec_l35Is (m : MonoidalD) (K : Bool × Unit → Prop) : Prop := (cnd ((((!(catR m.1)) || (!((decide ((0 : Int) ≤ m.2.1)) && (decide (m.2.1 < m.1.1))))) || (!((decide ((((List.length m.2.2.1) : Nat) : Int) = m.1.1)) && (squareR m.2.2.1 m.1.1)))) || (!((decide ((((List.length m.2.2.2) : Nat) : Int) = (((List.length m.1.2.1) : Nat) : Int))) && (squareR m.2.2.2 (((List.length m.1.2.1) : Nat) : Int))))) (K (Bool.false, ())) ((ShapeP m.1) ∧ (((tabR m.2.2.1 m.1.1) = Bool.true) ∧ (((tabR m.2.2.2 (((List.length m.1.2.1) : Nat) : Int)) = Bool.true) ∧ ((((!(endsR m)) = Bool.false) → (((List.length m.2.2.1) ≤ 40) ∧ (((0 : Int) ≤ m.2.1) ∧ ((m.2.1 < (((List.length m.2.2.1) : Nat) : Int)) ∧ ((tabR m.2.2.1 (((List.length m.2.2.1) : Nat) : Int)) = Bool.true))))) ∧ (((((!(endsR m)) || (!(assocR m.2.2.1 m.2.1))) = Bool.false) → ((m.2.1 < (((List.length m.1.2.2.2.1) : Nat) : Int)) ∧ ((0 : Int) ≤ m.2.1))) ∧ (((((!(endsR m)) || (!(assocR m.2.2.1 m.2.1))) = Bool.false) → (((List.length m.2.2.2) ≤ 40) ∧ (((0 : Int) ≤ (List.getD m.1.2.2.2.1 (Int.toNat m.2.1) (0 : Int))) ∧ (((List.getD m.1.2.2.2.1 (Int.toNat m.2.1) (0 : Int)) < (((List.length m.2.2.2) : Nat) : Int)) ∧ ((tabR m.2.2.2 (((List.length m.2.2.2) : Nat) : Int)) = Bool.true))))) ∧ (cnd (((!(endsR m)) || (!(assocR m.2.2.1 m.2.1))) || (!(assocR m.2.2.2 (List.getD m.1.2.2.2.1 (Int.toNat m.2.1) (0 : Int))))) (K (Bool.false, ())) (loopW (S := ((Unit × (Int × Unit)) × ((Int × ((List Int) × ((List Int) × ((List Int) × (List (List Int)))))) × Unit))) (fun s => (fun next => ((inK IntKind.i64 s.1.2.1) → ((inK IntKind.i64 s.2.1.1) → ((T.ok (T.sl (T.int IntKind.i64)) s.2.1.2.1) → ((T.ok (T.sl (T.int IntKind.i64)) s.2.1.2.2.1) → ((T.ok (T.sl (T.int IntKind.i64)) s.2.1.2.2.2.1) → ((T.ok (T.sl (T.sl (T.int IntKind.i64))) s.2.1.2.2.2.2) → (cnd (decide (s.1.2.1 < s.2.1.1)) (loopW (S := ((Unit × (Int × Unit)) × ((Int × ((List Int) × ((List Int) × ((List Int) × (List (List Int)))))) × Unit))) (fun s1 => (fun next1 => ((inK IntKind.i64 s1.1.2.1) → ((inK IntKind.i64 s1.2.1.1) → ((T.ok (T.sl (T.int IntKind.i64)) s1.2.1.2.1) → ((T.ok (T.sl (T.int IntKind.i64)) s1.2.1.2.2.1) → ((T.ok (T.sl (T.int IntKind.i64)) s1.2.1.2.2.2.1) → ((T.ok (T.sl (T.sl (T.int IntKind.i64))) s1.2.1.2.2.2.2) → (cnd (decide (s1.1.2.1 < s1.2.1.1)) (((0 : Int) ≤ s.1.2.1) ∧ ((s.1.2.1 < (((List.length s1.2.1.2.2.2.1) : Nat) : Int)) ∧ (((0 : Int) ≤ (List.getD s1.2.1.2.2.2.1 (Int.toNat s.1.2.1) (0 : Int))) ∧ (((List.getD s1.2.1.2.2.2.1 (Int.toNat s.1.2.1) (0 : Int)) < (((List.length m.2.2.2) : Nat) : Int)) ∧ (((0 : Int) ≤ s1.1.2.1) ∧ ((s1.1.2.1 < (((List.length s1.2.1.2.2.2.1) : Nat) : Int)) ∧ (((0 : Int) ≤ (List.getD s1.2.1.2.2.2.1 (Int.toNat s1.1.2.1) (0 : Int))) ∧ (((List.getD s1.2.1.2.2.2.1 (Int.toNat s1.1.2.1) (0 : Int)) < (((List.length (List.getD m.2.2.2 (Int.toNat (List.getD s1.2.1.2.2.2.1 (Int.toNat s.1.2.1) (0 : Int))) ([] : List Int))) : Nat) : Int)) ∧ (((0 : Int) ≤ s.1.2.1) ∧ ((s.1.2.1 < (((List.length m.2.2.1) : Nat) : Int)) ∧ (((0 : Int) ≤ s1.1.2.1) ∧ ((s1.1.2.1 < (((List.length (List.getD m.2.2.1 (Int.toNat s.1.2.1) ([] : List Int))) : Nat) : Int)) ∧ (((0 : Int) ≤ (List.getD (List.getD m.2.2.1 (Int.toNat s.1.2.1) ([] : List Int)) (Int.toNat s1.1.2.1) (0 : Int))) ∧ (((List.getD (List.getD m.2.2.1 (Int.toNat s.1.2.1) ([] : List Int)) (Int.toNat s1.1.2.1) (0 : Int)) < (((List.length s1.2.1.2.2.2.1) : Nat) : Int)) ∧ (cnd ((List.getD (List.getD m.2.2.2 (Int.toNat (List.getD s1.2.1.2.2.2.1 (Int.toNat s.1.2.1) (0 : Int))) ([] : List Int)) (Int.toNat (List.getD s1.2.1.2.2.2.1 (Int.toNat s1.1.2.1) (0 : Int))) (0 : Int)) != (List.getD s1.2.1.2.2.2.1 (Int.toNat (List.getD (List.getD m.2.2.1 (Int.toNat s.1.2.1) ([] : List Int)) (Int.toNat s1.1.2.1) (0 : Int))) (0 : Int))) (K (Bool.false, ())) ((inK IntKind.i64 (s1.1.2.1 + (1 : Int))) ∧ (next1 (((), ((s1.1.2.1 + (1 : Int)), ())), (s1.2.1, ()))))))))))))))))))) ((inK IntKind.i64 (s.1.2.1 + (1 : Int))) ∧ (next (((), ((s.1.2.1 + (1 : Int)), ())), (s1.2.1, ()))))))))))))) (((), ((0 : Int), ())), (s.2.1, ()))) (loopW (S := ((Unit × (Int × Unit)) × ((Int × ((List Int) × ((List Int) × ((List Int) × (List (List Int)))))) × Unit))) (fun s1 => (fun next1 => ((inK IntKind.i64 s1.1.2.1) → ((inK IntKind.i64 s1.2.1.1) → ((T.ok (T.sl (T.int IntKind.i64)) s1.2.1.2.1) → ((T.ok (T.sl (T.int IntKind.i64)) s1.2.1.2.2.1) → ((T.ok (T.sl (T.int IntKind.i64)) s1.2.1.2.2.2.1) → ((T.ok (T.sl (T.sl (T.int IntKind.i64))) s1.2.1.2.2.2.2) → (cnd (decide (s1.1.2.1 < (((List.length s1.2.1.2.1) : Nat) : Int))) (loopW (S := ((Unit × (Int × Unit)) × ((Int × ((List Int) × ((List Int) × ((List Int) × (List (List Int)))))) × Unit))) (fun s2 => (fun next2 => ((inK IntKind.i64 s2.1.2.1) → ((inK IntKind.i64 s2.2.1.1) → ((T.ok (T.sl (T.int IntKind.i64)) s2.2.1.2.1) → ((T.ok (T.sl (T.int IntKind.i64)) s2.2.1.2.2.1) → ((T.ok (T.sl (T.int IntKind.i64)) s2.2.1.2.2.2.1) → ((T.ok (T.sl (T.sl (T.int IntKind.i64))) s2.2.1.2.2.2.2) → (cnd (decide (s2.1.2.1 < (((List.length s2.2.1.2.1) : Nat) : Int))) (joinW (S := ((Unit × Unit) × ((Int × ((List Int) × ((List Int) × ((List Int) × (List (List Int)))))) × Unit))) (fun s3 => ((inK IntKind.i64 s3.2.1.1) → ((T.ok (T.sl (T.int IntKind.i64)) s3.2.1.2.1) → ((T.ok (T.sl (T.int IntKind.i64)) s3.2.1.2.2.1) → ((T.ok (T.sl (T.int IntKind.i64)) s3.2.1.2.2.2.1) → ((T.ok (T.sl (T.sl (T.int IntKind.i64))) s3.2.1.2.2.2.2) → ((inK IntKind.i64 (s2.1.2.1 + (1 : Int))) ∧ (next2 (((), ((s2.1.2.1 + (1 : Int)), ())), (s3.2.1, ())))))))))) (fun k => (((0 : Int) ≤ s1.1.2.1) ∧ ((s1.1.2.1 < (((List.length s2.2.1.2.2.2.2) : Nat) : Int)) ∧ (((0 : Int) ≤ s2.1.2.1) ∧ ((s2.1.2.1 < (((List.length (List.getD s2.2.1.2.2.2.2 (Int.toNat s1.1.2.1) ([] : List Int))) : Nat) : Int)) ∧ (cnd (decide ((List.getD (List.getD s2.2.1.2.2.2.2 (Int.toNat s1.1.2.1) ([] : List Int)) (Int.toNat s2.1.2.1) (0 : Int)) < (0 : Int))) (k (((), ()), (s2.2.1, ()))) (loopW (S := ((Unit × (Int × Unit)) × ((Int × ((List Int) × ((List Int) × ((List Int) × (List (List Int)))))) × Unit))) (fun s3 => (fun next3 => ((inK IntKind.i64 s3.1.2.1) → ((inK IntKind.i64 s3.2.1.1) → ((T.ok (T.sl (T.int IntKind.i64)) s3.2.1.2.1) → ((T.ok (T.sl (T.int IntKind.i64)) s3.2.1.2.2.1) → ((T.ok (T.sl (T.int IntKind.i64)) s3.2.1.2.2.2.1) → ((T.ok (T.sl (T.sl (T.int IntKind.i64))) s3.2.1.2.2.2.2) → (cnd (decide (s3.1.2.1 < (((List.length s3.2.1.2.1) : Nat) : Int))) (loopW (S := ((Unit × (Int × Unit)) × ((Int × ((List Int) × ((List Int) × ((List Int) × (List (List Int)))))) × Unit))) (fun s4 => (fun next4 => ((inK IntKind.i64 s4.1.2.1) → ((inK IntKind.i64 s4.2.1.1) → ((T.ok (T.sl (T.int IntKind.i64)) s4.2.1.2.1) → ((T.ok (T.sl (T.int IntKind.i64)) s4.2.1.2.2.1) → ((T.ok (T.sl (T.int IntKind.i64)) s4.2.1.2.2.2.1) → ((T.ok (T.sl (T.sl (T.int IntKind.i64))) s4.2.1.2.2.2.2) → (cnd (decide (s4.1.2.1 < (((List.length s4.2.1.2.1) : Nat) : Int))) (((0 : Int) ≤ s3.1.2.1) ∧ ((s3.1.2.1 < (((List.length s4.2.1.2.2.2.2) : Nat) : Int)) ∧ (((0 : Int) ≤ s4.1.2.1) ∧ ((s4.1.2.1 < (((List.length (List.getD s4.2.1.2.2.2.2 (Int.toNat s3.1.2.1) ([] : List Int))) : Nat) : Int)) ∧ ((((decide ((0 : Int) ≤ (List.getD (List.getD s4.2.1.2.2.2.2 (Int.toNat s3.1.2.1) ([] : List Int)) (Int.toNat s4.1.2.1) (0 : Int)))) = Bool.true) → ((s1.1.2.1 < (((List.length s4.2.1.2.2.2.2) : Nat) : Int)) ∧ ((0 : Int) ≤ s1.1.2.1))) ∧ ((((decide ((0 : Int) ≤ (List.getD (List.getD s4.2.1.2.2.2.2 (Int.toNat s3.1.2.1) ([] : List Int)) (Int.toNat s4.1.2.1) (0 : Int)))) = Bool.true) → ((s2.1.2.1 < (((List.length (List.getD s4.2.1.2.2.2.2 (Int.toNat s1.1.2.1) ([] : List Int))) : Nat) : Int)) ∧ ((0 : Int) ≤ s2.1.2.1))) ∧ ((((decide ((0 : Int) ≤ (List.getD (List.getD s4.2.1.2.2.2.2 (Int.toNat s3.1.2.1) ([] : List Int)) (Int.toNat s4.1.2.1) (0 : Int)))) = Bool.true) → (((List.getD (List.getD s4.2.1.2.2.2.2 (Int.toNat s1.1.2.1) ([] : List Int)) (Int.toNat s2.1.2.1) (0 : Int)) < (((List.length m.2.2.2) : Nat) : Int)) ∧ ((0 : Int) ≤ (List.getD (List.getD s4.2.1.2.2.2.2 (Int.toNat s1.1.2.1) ([] : List Int)) (Int.toNat s2.1.2.1) (0 : Int))))) ∧ ((((decide ((0 : Int) ≤ (List.getD (List.getD s4.2.1.2.2.2.2 (Int.toNat s3.1.2.1) ([] : List Int)) (Int.toNat s4.1.2.1) (0 : Int)))) = Bool.true) → ((s3.1.2.1 < (((List.length s4.2.1.2.2.2.2) : Nat) : Int)) ∧ ((0 : Int) ≤ s3.1.2.1))) ∧ ((((decide ((0 : Int) ≤ (List.getD (List.getD s4.2.1.2.2.2.2 (Int.toNat s3.1.2.1) ([] : List Int)) (Int.toNat s4.1.2.1) (0 : Int)))) = Bool.true) → ((s4.1.2.1 < (((List.length (List.getD s4.2.1.2.2.2.2 (Int.toNat s3.1.2.1) ([] : List Int))) : Nat) : Int)) ∧ ((0 : Int) ≤ s4.1.2.1))) ∧ ((((decide ((0 : Int) ≤ (List.getD (List.getD s4.2.1.2.2.2.2 (Int.toNat s3.1.2.1) ([] : List Int)) (Int.toNat s4.1.2.1) (0 : Int)))) = Bool.true) → (((List.getD (List.getD s4.2.1.2.2.2.2 (Int.toNat s3.1.2.1) ([] : List Int)) (Int.toNat s4.1.2.1) (0 : Int)) < (((List.length (List.getD m.2.2.2 (Int.toNat (List.getD (List.getD s4.2.1.2.2.2.2 (Int.toNat s1.1.2.1) ([] : List Int)) (Int.toNat s2.1.2.1) (0 : Int))) ([] : List Int))) : Nat) : Int)) ∧ ((0 : Int) ≤ (List.getD (List.getD s4.2.1.2.2.2.2 (Int.toNat s3.1.2.1) ([] : List Int)) (Int.toNat s4.1.2.1) (0 : Int))))) ∧ ((((decide ((0 : Int) ≤ (List.getD (List.getD s4.2.1.2.2.2.2 (Int.toNat s3.1.2.1) ([] : List Int)) (Int.toNat s4.1.2.1) (0 : Int)))) = Bool.true) → ((s1.1.2.1 < (((List.length m.2.2.2) : Nat) : Int)) ∧ ((0 : Int) ≤ s1.1.2.1))) ∧ ((((decide ((0 : Int) ≤ (List.getD (List.getD s4.2.1.2.2.2.2 (Int.toNat s3.1.2.1) ([] : List Int)) (Int.toNat s4.1.2.1) (0 : Int)))) = Bool.true) → ((s3.1.2.1 < (((List.length (List.getD m.2.2.2 (Int.toNat s1.1.2.1) ([] : List Int))) : Nat) : Int)) ∧ ((0 : Int) ≤ s3.1.2.1))) ∧ ((((decide ((0 : Int) ≤ (List.getD (List.getD s4.2.1.2.2.2.2 (Int.toNat s3.1.2.1) ([] : List Int)) (Int.toNat s4.1.2.1) (0 : Int)))) = Bool.true) → (((List.getD (List.getD m.2.2.2 (Int.toNat s1.1.2.1) ([] : List Int)) (Int.toNat s3.1.2.1) (0 : Int)) < (((List.length s4.2.1.2.2.2.2) : Nat) : Int)) ∧ ((0 : Int) ≤ (List.getD (List.getD m.2.2.2 (Int.toNat s1.1.2.1) ([] : List Int)) (Int.toNat s3.1.2.1) (0 : Int))))) ∧ ((((decide ((0 : Int) ≤ (List.getD (List.getD s4.2.1.2.2.2.2 (Int.toNat s3.1.2.1) ([] : List Int)) (Int.toNat s4.1.2.1) (0 : Int)))) = Bool.true) → ((s2.1.2.1 < (((List.length m.2.2.2) : Nat) : Int)) ∧ ((0 : Int) ≤ s2.1.2.1))) ∧ ((((decide ((0 : Int) ≤ (List.getD (List.getD s4.2.1.2.2.2.2 (Int.toNat s3.1.2.1) ([] : List Int)) (Int.toNat s4.1.2.1) (0 : Int)))) = Bool.true) → ((s4.1.2.1 < (((List.length (List.getD m.2.2.2 (Int.toNat s2.1.2.1) ([] : List Int))) : Nat) : Int)) ∧ ((0 : Int) ≤ s4.1.2.1))) ∧ ((((decide ((0 : Int) ≤ (List.getD (List.getD s4.2.1.2.2.2.2 (Int.toNat s3.1.2.1) ([] : List Int)) (Int.toNat s4.1.2.1) (0 : Int)))) = Bool.true) → (((List.getD (List.getD m.2.2.2 (Int.toNat s2.1.2.1) ([] : List Int)) (Int.toNat s4.1.2.1) (0 : Int)) < (((List.length (List.getD s4.2.1.2.2.2.2 (Int.toNat (List.getD (List.getD m.2.2.2 (Int.toNat s1.1.2.1) ([] : List Int)) (Int.toNat s3.1.2.1) (0 : Int))) ([] : List Int))) : Nat) : Int)) ∧ ((0 : Int) ≤ (List.getD (List.getD m.2.2.2 (Int.toNat s2.1.2.1) ([] : List Int)) (Int.toNat s4.1.2.1) (0 : Int))))) ∧ (cnd ((decide ((0 : Int) ≤ (List.getD (List.getD s4.2.1.2.2.2.2 (Int.toNat s3.1.2.1) ([] : List Int)) (Int.toNat s4.1.2.1) (0 : Int)))) && ((List.getD (List.getD m.2.2.2 (Int.toNat (List.getD (List.getD s4.2.1.2.2.2.2 (Int.toNat s1.1.2.1) ([] : List Int)) (Int.toNat s2.1.2.1) (0 : Int))) ([] : List Int)) (Int.toNat (List.getD (List.getD s4.2.1.2.2.2.2 (Int.toNat s3.1.2.1) ([] : List Int)) (Int.toNat s4.1.2.1) (0 : Int))) (0 : Int)) != (List.getD (List.getD s4.2.1.2.2.2.2 (Int.toNat (List.getD (List.getD m.2.2.2 (Int.toNat s1.1.2.1) ([] : List Int)) (Int.toNat s3.1.2.1) (0 : Int))) ([] : List Int)) (Int.toNat (List.getD (List.getD m.2.2.2 (Int.toNat s2.1.2.1) ([] : List Int)) (Int.toNat s4.1.2.1) (0 : Int))) (0 : Int)))) (K (Bool.false, ())) ((inK IntKind.i64 (s4.1.2.1 + (1 : Int))) ∧ (next4 (((), ((s4.1.2.1 + (1 : Int)), ())), (s4.2.1, ()))))))))))))))))))))) ((inK IntKind.i64 (s3.1.2.1 + (1 : Int))) ∧ (next3 (((), ((s3.1.2.1 + (1 : Int)), ())), (s4.2.1, ()))))))))))))) (((), ((0 : Int), ())), (s3.2.1, ()))) (k (((), ()), (s3.2.1, ())))))))))))) (((), ((0 : Int), ())), (s2.2.1, ())))))))))) ((inK IntKind.i64 (s1.1.2.1 + (1 : Int))) ∧ (next1 (((), ((s1.1.2.1 + (1 : Int)), ())), (s2.2.1, ()))))))))))))) (((), ((0 : Int), ())), (s1.2.1, ()))) (K (Bool.true, ()))))))))))) (((), ((0 : Int), ())), (s.2.1, ())))))))))))) (((), ((0 : Int), ())), (m.1, ())))))))))))
theorem w_spec_l35Is (x : denL c_spec_l35Is.args) (K : Bool × Unit → Prop) : evF tab (lkp [(89, c_spec_l02Is), (106, c_spec_l02Object), (140, c_spec_l35Ends), (139, c_spec_l35Table), (141, c_spec_l35Whole)]) (cutL [(4, 23), (27, 56), (12, 29)]) Try.f103 (bodyOf Try.f103) (.s .n (.s .n (.s .n (.s .n (.s (.s .n (.l [(3, (.ad 3 [.de])), (4, (.d (.int .i64)))] [(3, (.pt (.fz (.p (.int .i64) (.p (.sl (.int .i64)) (.p (.sl (.int .i64)) (.p (.sl (.int .i64)) (.sl (.sl (.int .i64))))))))))] [1] (.s .n (.s (.s .n (.l [(3, (.ad 3 [.de])), (5, (.d (.int .i64)))] [(3, (.pt (.fz (.p (.int .i64) (.p (.sl (.int .i64)) (.p (.sl (.int .i64)) (.p (.sl (.int .i64)) (.sl (.sl (.int .i64))))))))))] [1, 4] .n)) .n)))) (.s (.s .n (.l [(3, (.ad 3 [.de])), (6, (.d (.int .i64)))] [(3, (.pt (.fz (.p (.int .i64) (.p (.sl (.int .i64)) (.p (.sl (.int .i64)) (.p (.sl (.int .i64)) (.sl (.sl (.int .i64))))))))))] [1] (.s .n (.s (.s .n (.l [(3, (.ad 3 [.de])), (7, (.d (.int .i64)))] [(3, (.pt (.fz (.p (.int .i64) (.p (.sl (.int .i64)) (.p (.sl (.int .i64)) (.p (.sl (.int .i64)) (.sl (.sl (.int .i64))))))))))] [1, 6] (.s .n (.s (.j [(3, (.ad 3 [.de]))] [(3, (.pt (.fz (.p (.int .i64) (.p (.sl (.int .i64)) (.p (.sl (.int .i64)) (.p (.sl (.int .i64)) (.sl (.sl (.int .i64))))))))))] [1, 6, 7] (.s .n (.s .n (.l [(3, (.ad 3 [.de])), (8, (.d (.int .i64)))] [(3, (.pt (.fz (.p (.int .i64) (.p (.sl (.int .i64)) (.p (.sl (.int .i64)) (.p (.sl (.int .i64)) (.sl (.sl (.int .i64))))))))))] [1, 6, 7] (.s .n (.s (.s .n (.l [(3, (.ad 3 [.de])), (9, (.d (.int .i64)))] [(3, (.pt (.fz (.p (.int .i64) (.p (.sl (.int .i64)) (.p (.sl (.int .i64)) (.p (.sl (.int .i64)) (.sl (.sl (.int .i64))))))))))] [1, 6, 7, 8] .n)) .n)))))) .n)))) .n)))) .n)))))) c_spec_l35Is x K = W_spec_l35Is x.1 K := by kernel_rfl
theorem k_spec_l35Is : okC Try.f103.ntmps (cutL [(4, 23), (27, 56), (12, 29)]) (bodyOf Try.f103) = true := by kernel_rfl
theorem m_spec_l35Is (m : MonoidalD) (hok : allP (okL c_spec_l35Is.args (m, ()))) (hpre : allP (c_spec_l35Is.pre (m, ()))) : W_spec_l35Is m (fun r => r = c_spec_l35Is.res (m, ())) := by
  simp only [c_spec_l35Is, okL, T.oks, T.ok, ap, allP, true_and, and_true, implies_true] at hok hpre
  try dsimp only [T.den] at hok
  try dsimp only [T.den] at hpre
  unfold W_spec_l35Is
  have bad : ¬ MonP m → (false, ()) = c_spec_l35Is.res (m, ()) := fun h => by
    simp only [c_spec_l35Is]
    cases hs : monR m with
    | false => rfl
    | true => exact absurd (mon_iff.1 hs) h
  refine cnd_of (fun hc => bad fun h => ?_) (fun hc => ?_)
  · have h1 := h.cat; have h2 := h.u; have h3 := h.ot; have h4 := h.at_
    simp only [tabR] at h3 h4
    simp only [h1, h3, h4] at hc
    grind [cnd, nb_eq, inK64]
  simp only [Bool.or_eq_false_iff, Bool.not_eq_false'] at hc
  obtain ⟨⟨⟨hcat, hu⟩, hot⟩, hat⟩ := hc
  simp only [Bool.and_eq_true, decide_eq_true_eq] at hu
  have hot : tabR m.2.2.1 m.1.1 = true := hot
  have hat : tabR m.2.2.2 m.1.2.1.length = true := hat
  have S := cat_shape hcat
  have O := tab_at hot
  have A := tab_at hat
  have hlt := S.lt
  have hli := S.li
  have hlc := S.lc
  have hmm := S.m
  have hob := S.ob
  have iu := S.idn hu.1 hu.2
  have e1 : (m.2.2.1.length : Int) = m.1.1 := O.1
  have e2 : (m.2.2.2.length : Int) = m.1.2.1.length := A.1
  refine ⟨S, hot, hat, fun _ => ⟨by omega, hu.1, by omega, by rw [e1]; exact hot⟩, fun _ => ⟨by omega, hu.1⟩, fun _ => ⟨by omega, iu.1, by omega, by rw [e2]; exact hat⟩, cnd_of (fun hd => bad fun h => ?_) (fun hd => ?_)⟩
  · rw [h.ends, h.oa, h.aa] at hd; cases hd
  simp only [Bool.or_eq_false_iff, Bool.not_eq_false'] at hd
  obtain ⟨⟨hE, hoa⟩, haa⟩ := hd
  have at1 : ∀ i j : Int, (m.2.2.2.getD i.toNat []).getD j.toNat 0 = atR m.2.2.2 i j := fun _ _ => rfl
  have at2 : ∀ i j : Int, (m.2.2.1.getD i.toNat []).getD j.toNat 0 = atR m.2.2.1 i j := fun _ _ => rfl
  have at3 : ∀ i j : Int, (m.1.2.2.2.2.getD i.toNat []).getD j.toNat 0 = compR m.1 i j := fun _ _ => rfl
  refine loop_ix1 (n := m.1.1) (fun x => ∀ x' : Int, 0 ≤ x' → x' < x → ∀ y : Int, 0 ≤ y → y < m.1.1 →
    atR m.2.2.2 (m.1.2.2.2.1.getD x'.toNat 0) (m.1.2.2.2.1.getD y.toNat 0) = m.1.2.2.2.1.getD (atR m.2.2.1 x' y).toNat 0) (by omega) (by intro y h0 h1; omega) ?_ ?_
  · intro x next x0 x1 hP hn _ _ _ _ _ _
    try dsimp only
    refine cnd_d (fun _ => ?_) (fun h => absurd x1 h)
    have ix := S.idn x0 x1
    have r1 := A.2.1 _ ix.1 ix.2.1
    have r2 := O.2.1 x x0 x1
    refine loop_ix1 (n := m.1.1) (fun y => ∀ y' : Int, 0 ≤ y' → y' < y →
      atR m.2.2.2 (m.1.2.2.2.1.getD x.toNat 0) (m.1.2.2.2.1.getD y'.toNat 0) = m.1.2.2.2.1.getD (atR m.2.2.1 x y').toNat 0) (by omega) (by intro y h0 h1; omega) ?_ ?_
    · intro y next2 y0 y1 hP2 hn2 _ _ _ _ _ _
      try dsimp only
      simp only [at1, at2]
      have iy := S.idn y0 y1
      have oxy := O.2.2 x y x0 x1 y0 y1
      refine cnd_d (fun _ => ⟨x0, by omega, ix.1, by omega, y0, by omega, iy.1, by omega, x0, by omega, y0, by omega, oxy.1, by omega, cnd_of (fun hx => bad fun h => ?_) (fun hx => ⟨by rw [inK64]; (try dsimp only); omega, hn2 fun y' a0 a1 => ?_⟩)⟩) (fun h => absurd y1 h)
      · rw [(ids_iff S).1 h.ids x x0 x1 y y0 y1] at hx; simp at hx
      · by_cases e : y' = y
        · rw [e]; simpa using hx
        · exact hP2 y' a0 (by omega)
    · intro next2 hP2 _ _ _ _ _ _
      refine cnd_d (fun h => absurd h (by dsimp only; omega)) (fun _ => ⟨by rw [inK64]; (try dsimp only); omega, hn fun x' a0 a1 => ?_⟩)
      by_cases e : x' = x
      · rw [e]; exact hP2
      · exact hP x' a0 (by omega)
  intro next hI _ _ _ _ _ _
  refine cnd_d (fun h => absurd h (by dsimp only; omega)) (fun _ => ?_)
  have hI : monIds m = true := (ids_iff S).2 hI
  clear next
  refine loop_ix1 (n := m.1.2.1.length) (fun f => ∀ f' : Int, 0 ≤ f' → f' < f → ∀ h : Int, 0 ≤ h → h < m.1.2.1.length → m.1.2.2.1.getD f'.toNat 0 = m.1.2.1.getD h.toNat 0 → ∀ g : Int, 0 ≤ g → g < m.1.2.1.length → ∀ k : Int, 0 ≤ k → k < m.1.2.1.length → m.1.2.2.1.getD g.toNat 0 = m.1.2.1.getD k.toNat 0 →
    atR m.2.2.2 (compR m.1 f' h) (compR m.1 g k) = compR m.1 (atR m.2.2.2 f' g) (atR m.2.2.2 h k)) (by omega) (by intro y h0 h1; omega) ?_ ?_
  · intro f next f0 f1 hP hn _ _ _ _ _ _
    try dsimp only
    refine cnd_d (fun _ => ?_) (fun h => absurd f1 h)
    have rf := S.row f f0 f1
    have af := A.2.1 f f0 f1
    refine loop_ix1 (n := m.1.2.1.length) (fun h => ∀ h' : Int, 0 ≤ h' → h' < h → m.1.2.2.1.getD f.toNat 0 = m.1.2.1.getD h'.toNat 0 → ∀ g : Int, 0 ≤ g → g < m.1.2.1.length → ∀ k : Int, 0 ≤ k → k < m.1.2.1.length → m.1.2.2.1.getD g.toNat 0 = m.1.2.1.getD k.toNat 0 →
      atR m.2.2.2 (compR m.1 f h') (compR m.1 g k) = compR m.1 (atR m.2.2.2 f g) (atR m.2.2.2 h' k)) (by omega) (by intro y h0 h1; omega) ?_ ?_
    · intro h next2 h0 h1 hP2 hn2 _ _ _ _ _ _
      try dsimp only
      refine cnd_d (fun _ => ?_) (fun q => absurd h1 q)
      have cfh := S.comp f0 f1 h0 h1
      have yfh := @ShapeP.yes m.1 S f h f0 f1 h0 h1
      have ah := A.2.1 h h0 h1
      refine join_of (fun s3 => s3.2.1 = m.1 ∧ (m.1.2.2.1.getD f.toNat 0 = m.1.2.1.getD h.toNat 0 → ∀ g : Int, 0 ≤ g → g < m.1.2.1.length → ∀ k : Int, 0 ≤ k → k < m.1.2.1.length → m.1.2.2.1.getD g.toNat 0 = m.1.2.1.getD k.toNat 0 →
        atR m.2.2.2 (compR m.1 f h) (compR m.1 g k) = compR m.1 (atR m.2.2.2 f g) (atR m.2.2.2 h k))) ?_ ?_
      · rintro ⟨⟨_, _⟩, y, _⟩ ⟨hy, hq⟩ _ _ _ _ _
        try dsimp only at hy hq ⊢
        subst hy
        refine ⟨by rw [inK64]; (try dsimp only); omega, hn2 fun h' a0 a1 => ?_⟩
        by_cases e : h' = h
        · rw [e]; exact hq
        · exact hP2 h' a0 (by omega)
      intro kk hkk
      simp only [at1, at3]
      refine ⟨f0, by omega, h0, by omega, cnd_d (fun hx => hkk _ ⟨rfl, fun e => ?_⟩) (fun hx => ?_)⟩
      · have := cfh.2 e; omega
      have efh := cfh.1 (by omega)
      have yfh := yfh efh
      have ra := A.2.1 _ yfh.1 yfh.2.1
      refine loop_ix1 (n := m.1.2.1.length) (fun g => ∀ g' : Int, 0 ≤ g' → g' < g → ∀ k : Int, 0 ≤ k → k < m.1.2.1.length → m.1.2.2.1.getD g'.toNat 0 = m.1.2.1.getD k.toNat 0 →
        atR m.2.2.2 (compR m.1 f h) (compR m.1 g' k) = compR m.1 (atR m.2.2.2 f g') (atR m.2.2.2 h k)) (by omega) (by intro y h0 h1; omega) ?_ ?_
      · intro g next3 g0 g1 hP3 hn3 _ _ _ _ _ _
        try dsimp only
        refine cnd_d (fun _ => ?_) (fun q => absurd g1 q)
        have rg := S.row g g0 g1
        have afg := A.2.2 f g f0 f1 g0 g1
        have rfg := S.row _ afg.1 afg.2
        refine loop_ix1 (n := m.1.2.1.length) (fun k => ∀ k' : Int, 0 ≤ k' → k' < k → m.1.2.2.1.getD g.toNat 0 = m.1.2.1.getD k'.toNat 0 →
          atR m.2.2.2 (compR m.1 f h) (compR m.1 g k') = compR m.1 (atR m.2.2.2 f g) (atR m.2.2.2 h k')) (by omega) (by intro y h0 h1; omega) ?_ ?_
        · intro k next4 k0 k1 hP4 hn4 _ _ _ _ _ _
          try dsimp only
          simp only [at1, at3]
          have cgk := S.comp g0 g1 k0 k1
          have ygk := @ShapeP.yes m.1 S g k g0 g1 k0 k1
          have ahk := A.2.2 h k h0 h1 k0 k1
          refine cnd_d (fun _ => ⟨g0, by omega, k0, by omega, fun _ => by omega, fun _ => by omega, fun _ => by omega, fun _ => by omega, fun _ => by omega, fun q => ?_, fun _ => by omega, fun _ => by omega, fun _ => by omega, fun _ => by omega, fun _ => by omega, fun _ => by omega, cnd_of (fun hy => bad fun q => ?_) (fun hy => ⟨by rw [inK64]; (try dsimp only); omega, hn4 fun k' a0 a1 e => ?_⟩)⟩) (fun q => absurd k1 q)
          · have := ygk (cgk.1 (of_decide_eq_true q)); omega
          · simp only [Bool.and_eq_true, decide_eq_true_eq, bne_iff_ne] at hy
            exact hy.2 (inter_iff.1 q.inter f f0 f1 h h0 h1 efh g g0 g1 k k0 k1 (cgk.1 hy.1))
          · by_cases e2 : k' = k
            · rw [e2] at e ⊢
              have := cgk.2 e
              simpa [this] using hy
            · exact hP4 k' a0 (by omega) e
        · intro next4 hP4 _ _ _ _ _ _
          refine cnd_d (fun q => absurd q (by dsimp only; omega)) (fun _ => ⟨by rw [inK64]; (try dsimp only); omega, hn3 fun g' a0 a1 => ?_⟩)
          by_cases e : g' = g
          · rw [e]; exact hP4
          · exact hP3 g' a0 (by omega)
      · intro next3 hP3 _ _ _ _ _ _
        exact cnd_d (fun q => absurd q (by dsimp only; omega)) (fun _ => hkk _ ⟨rfl, fun _ => hP3⟩)
    · intro next2 hP2 _ _ _ _ _ _
      refine cnd_d (fun q => absurd q (by dsimp only; omega)) (fun _ => ⟨by rw [inK64]; (try dsimp only); omega, hn fun f' a0 a1 => ?_⟩)
      by_cases e : f' = f
      · rw [e]; exact hP2
      · exact hP f' a0 (by omega)
  · intro next hP _ _ _ _ _ _
    refine cnd_d (fun q => absurd q (by dsimp only; omega)) (fun _ => ?_)
    simp only [c_spec_l35Is]
    rw [mon_iff.2 ⟨hcat, hu, hot, hat, hE, hI, hoa, haa, inter_iff.2 hP⟩]
theorem ct_spec_l35Is : CtOk Try.prog 103 c_spec_l35Is :=
  ct_by (Φ := lkp [(89, c_spec_l02Is), (106, c_spec_l02Object), (140, c_spec_l35Ends), (139, c_spec_l35Table), (141, c_spec_l35Whole)]) (good_cons ct_spec_l02Is (good_cons ct_spec_l02Object (good_cons ct_spec_l35Ends (good_cons ct_spec_l35Table (good_cons ct_spec_l35Whole good_nil))))) tab_ok (by kernel_rfl) (fn := Try.f103) (c := bodyOf Try.f103) (by kernel_rfl) (by kernel_rfl) (by kernel_rfl) c_spec_l35Is rfl (.s .n (.s .n (.s .n (.s .n (.s (.s .n (.l [(3, (.ad 3 [.de])), (4, (.d (.int .i64)))] [(3, (.pt (.fz (.p (.int .i64) (.p (.sl (.int .i64)) (.p (.sl (.int .i64)) (.p (.sl (.int .i64)) (.sl (.sl (.int .i64))))))))))] [1] (.s .n (.s (.s .n (.l [(3, (.ad 3 [.de])), (5, (.d (.int .i64)))] [(3, (.pt (.fz (.p (.int .i64) (.p (.sl (.int .i64)) (.p (.sl (.int .i64)) (.p (.sl (.int .i64)) (.sl (.sl (.int .i64))))))))))] [1, 4] .n)) .n)))) (.s (.s .n (.l [(3, (.ad 3 [.de])), (6, (.d (.int .i64)))] [(3, (.pt (.fz (.p (.int .i64) (.p (.sl (.int .i64)) (.p (.sl (.int .i64)) (.p (.sl (.int .i64)) (.sl (.sl (.int .i64))))))))))] [1] (.s .n (.s (.s .n (.l [(3, (.ad 3 [.de])), (7, (.d (.int .i64)))] [(3, (.pt (.fz (.p (.int .i64) (.p (.sl (.int .i64)) (.p (.sl (.int .i64)) (.p (.sl (.int .i64)) (.sl (.sl (.int .i64))))))))))] [1, 6] (.s .n (.s (.j [(3, (.ad 3 [.de]))] [(3, (.pt (.fz (.p (.int .i64) (.p (.sl (.int .i64)) (.p (.sl (.int .i64)) (.p (.sl (.int .i64)) (.sl (.sl (.int .i64))))))))))] [1, 6, 7] (.s .n (.s .n (.l [(3, (.ad 3 [.de])), (8, (.d (.int .i64)))] [(3, (.pt (.fz (.p (.int .i64) (.p (.sl (.int .i64)) (.p (.sl (.int .i64)) (.p (.sl (.int .i64)) (.sl (.sl (.int .i64))))))))))] [1, 6, 7] (.s .n (.s (.s .n (.l [(3, (.ad 3 [.de])), (9, (.d (.int .i64)))] [(3, (.pt (.fz (.p (.int .i64) (.p (.sl (.int .i64)) (.p (.sl (.int .i64)) (.p (.sl (.int .i64)) (.sl (.sl (.int .i64))))))))))] [1, 6, 7, 8] .n)) .n)))))) .n)))) .n)))) .n)))))) (cutL [(4, 23), (27, 56), (12, 29)]) (by kernel_rfl) (by kernel_rfl) k_spec_l35Is (by decide) (fun x K => W_spec_l35Is x.1 K) w_spec_l35Is (fun x h1 h2 => m_spec_l35Is x.1 h1 h2)
def c_spec_l02Then : Ct := ⟨[CategoryT, (.int .i64), (.int .i64)], [true, false, false], fun x => [0 ≤ x.2.1, x.2.1 < x.1.2.2.2.2.length, 0 ≤ x.2.2.1, x.2.2.1 < (x.1.2.2.2.2.getD x.2.1.toNat []).length], [(false, (.fz (.int .i64)))], fun x => (compR x.1 x.2.1 x.2.2.1, ()), false, none⟩
def W_spec_l02Then (c : CategoryD) (f : Int) (g : Int) (K : Int × Unit → Prop) : Prop := (((0 : Int) ≤ f) ∧ ((f < (((List.length c.2.2.2.2) : Nat) : Int)) ∧ (((0 : Int) ≤ g) ∧ ((g < (((List.length (List.getD c.2.2.2.2 (Int.toNat f) ([] : List Int))) : Nat) : Int)) ∧ (K ((List.getD (List.getD c.2.2.2.2 (Int.toNat f) ([] : List Int)) (Int.toNat g) (0 : Int)), ()))))))
theorem w_spec_l02Then (x : denL c_spec_l02Then.args) (K : Int × Unit → Prop) : evF tab (lkp []) (cutL []) Try.f128 (bodyOf Try.f128) .n c_spec_l02Then x K = W_spec_l02Then x.1 x.2.1 x.2.2.1 K := by kernel_rfl
theorem k_spec_l02Then : okC Try.f128.ntmps (cutL []) (bodyOf Try.f128) = true := by kernel_rfl
theorem m_spec_l02Then (c : CategoryD) (f : Int) (g : Int) (hok : allP (okL c_spec_l02Then.args (c, f, g, ()))) (hpre : allP (c_spec_l02Then.pre (c, f, g, ()))) : W_spec_l02Then c f g (fun r => r = c_spec_l02Then.res (c, f, g, ())) := by
  simp only [c_spec_l02Then, okL, T.oks, T.ok, ap, allP, true_and, and_true, implies_true] at hok hpre
  try dsimp only [T.den] at hok
  try dsimp only [T.den] at hpre
  unfold W_spec_l02Then
  exact ⟨hpre.1, hpre.2.1, hpre.2.2.1, hpre.2.2.2, rfl⟩
theorem ct_spec_l02Then : CtOk Try.prog 128 c_spec_l02Then :=
  ct_by (Φ := lkp []) good_nil tab_ok (by kernel_rfl) (fn := Try.f128) (c := bodyOf Try.f128) (by kernel_rfl) (by kernel_rfl) (by kernel_rfl) c_spec_l02Then rfl .n (cutL []) (by kernel_rfl) (by kernel_rfl) k_spec_l02Then (by decide) (fun x K => W_spec_l02Then x.1 x.2.1 x.2.2.1 K) w_spec_l02Then (fun x h1 h2 => m_spec_l02Then x.1 x.2.1 x.2.2.1 h1 h2)
def c_spec_l35Value : Ct := ⟨[MonoidalT, (.sl endsT), (.int .i64)], [true, false, false], fun x => [DiaP x.1 x.2.1, 0 ≤ x.2.2.1, endR (x.2.1.drop x.2.2.1.toNat) 1 x.2.2.1 ≠ -1], [(false, (.fz (.int .i64))), (false, (.fz (.int .i64))), (false, (.fz .bool))], fun x => (posR (evalR x.1 x.2.1 x.2.2.1.toNat).1, ((evalR x.1 x.2.1 x.2.2.1.toNat).2 : Int), !decide ((evalR x.1 x.2.1 x.2.2.1.toNat).1 < 0), ()), false, none⟩
def q_spec_l35Value (n : Nat) : Ct := ⟨[MonoidalT, (.sl endsT), (.int .i64)], [true, false, false], fun x => [x.2.1.length - x.2.2.1.toNat < n, DiaP x.1 x.2.1, 0 ≤ x.2.2.1, endR (x.2.1.drop x.2.2.1.toNat) 1 x.2.2.1 ≠ -1], [(false, (.fz (.int .i64))), (false, (.fz (.int .i64))), (false, (.fz .bool))], fun x => (posR (evalR x.1 x.2.1 x.2.2.1.toNat).1, ((evalR x.1 x.2.1 x.2.2.1.toNat).2 : Int), !decide ((evalR x.1 x.2.1 x.2.2.1.toNat).1 < 0), ()), false, none⟩
def W_spec_l35Value (n : Nat) (m : MonoidalD) (d : List endsD) (at_ : Int) (K : Int × Int × Bool × Unit → Prop) : Prop := (((0 : Int) ≤ at_) ∧ ((at_ < (((List.length d) : Nat) : Int)) ∧ (cnd ((List.getD d (Int.toNat at_) ((0 : Int), (0 : Int))).1 == (0 : Int)) (((0 : Int) ≤ at_) ∧ ((at_ < (((List.length d) : Nat) : Int)) ∧ ((inK IntKind.i64 (at_ + (1 : Int))) ∧ (K ((List.getD d (Int.toNat at_) ((0 : Int), (0 : Int))).2, ((at_ + (1 : Int)), (Bool.true, ()))))))) (cnd ((List.getD d (Int.toNat at_) ((0 : Int), (0 : Int))).1 == (1 : Int)) (((0 : Int) ≤ at_) ∧ ((at_ < (((List.length d) : Nat) : Int)) ∧ (((0 : Int) ≤ (List.getD d (Int.toNat at_) ((0 : Int), (0 : Int))).2) ∧ (((List.getD d (Int.toNat at_) ((0 : Int), (0 : Int))).2 < (((List.length m.1.2.2.2.1) : Nat) : Int)) ∧ ((inK IntKind.i64 (at_ + (1 : Int))) ∧ (K ((List.getD m.1.2.2.2.1 (Int.toNat (List.getD d (Int.toNat at_) ((0 : Int), (0 : Int))).2) (0 : Int)), ((at_ + (1 : Int)), (Bool.true, ()))))))))) ((inK IntKind.i64 (at_ + (1 : Int))) ∧ ((((List.length d) - (Int.toNat (at_ + (1 : Int)))) < n) ∧ ((DiaP m d) ∧ (((0 : Int) ≤ (at_ + (1 : Int))) ∧ (((endR (List.drop (Int.toNat (at_ + (1 : Int))) d) (1 : Int) (at_ + (1 : Int))) ≠ (-(1 : Int))) ∧ ((((List.length d) - (Int.toNat (((evalR m d (Int.toNat (at_ + (1 : Int)))).2 : Nat) : Int))) < n) ∧ ((DiaP m d) ∧ (((0 : Int) ≤ (((evalR m d (Int.toNat (at_ + (1 : Int)))).2 : Nat) : Int)) ∧ (((endR (List.drop (Int.toNat (((evalR m d (Int.toNat (at_ + (1 : Int)))).2 : Nat) : Int)) d) (1 : Int) (((evalR m d (Int.toNat (at_ + (1 : Int)))).2 : Nat) : Int)) ≠ (-(1 : Int))) ∧ (cnd ((!(!(decide ((evalR m d (Int.toNat (at_ + (1 : Int)))).1 < (0 : Int))))) || (!(!(decide ((evalR m d (Int.toNat (((evalR m d (Int.toNat (at_ + (1 : Int)))).2 : Nat) : Int))).1 < (0 : Int)))))) (K ((0 : Int), ((((evalR m d (Int.toNat (((evalR m d (Int.toNat (at_ + (1 : Int)))).2 : Nat) : Int))).2 : Nat) : Int), (Bool.false, ())))) (((0 : Int) ≤ at_) ∧ ((at_ < (((List.length d) : Nat) : Int)) ∧ (cnd ((List.getD d (Int.toNat at_) ((0 : Int), (0 : Int))).1 == (3 : Int)) (((0 : Int) ≤ (posR (evalR m d (Int.toNat (at_ + (1 : Int)))).1)) ∧ (((posR (evalR m d (Int.toNat (at_ + (1 : Int)))).1) < (((List.length m.2.2.2) : Nat) : Int)) ∧ (((0 : Int) ≤ (posR (evalR m d (Int.toNat (((evalR m d (Int.toNat (at_ + (1 : Int)))).2 : Nat) : Int))).1)) ∧ (((posR (evalR m d (Int.toNat (((evalR m d (Int.toNat (at_ + (1 : Int)))).2 : Nat) : Int))).1) < (((List.length (List.getD m.2.2.2 (Int.toNat (posR (evalR m d (Int.toNat (at_ + (1 : Int)))).1)) ([] : List Int))) : Nat) : Int)) ∧ (K ((List.getD (List.getD m.2.2.2 (Int.toNat (posR (evalR m d (Int.toNat (at_ + (1 : Int)))).1)) ([] : List Int)) (Int.toNat (posR (evalR m d (Int.toNat (((evalR m d (Int.toNat (at_ + (1 : Int)))).2 : Nat) : Int))).1)) (0 : Int)), ((((evalR m d (Int.toNat (((evalR m d (Int.toNat (at_ + (1 : Int)))).2 : Nat) : Int))).2 : Nat) : Int), (Bool.true, ())))))))) (((0 : Int) ≤ (posR (evalR m d (Int.toNat (at_ + (1 : Int)))).1)) ∧ (((posR (evalR m d (Int.toNat (at_ + (1 : Int)))).1) < (((List.length m.1.2.2.1) : Nat) : Int)) ∧ (((0 : Int) ≤ (posR (evalR m d (Int.toNat (((evalR m d (Int.toNat (at_ + (1 : Int)))).2 : Nat) : Int))).1)) ∧ (((posR (evalR m d (Int.toNat (((evalR m d (Int.toNat (at_ + (1 : Int)))).2 : Nat) : Int))).1) < (((List.length m.1.2.1) : Nat) : Int)) ∧ (cnd ((List.getD m.1.2.2.1 (Int.toNat (posR (evalR m d (Int.toNat (at_ + (1 : Int)))).1)) (0 : Int)) != (List.getD m.1.2.1 (Int.toNat (posR (evalR m d (Int.toNat (((evalR m d (Int.toNat (at_ + (1 : Int)))).2 : Nat) : Int))).1)) (0 : Int))) (K ((0 : Int), ((((evalR m d (Int.toNat (((evalR m d (Int.toNat (at_ + (1 : Int)))).2 : Nat) : Int))).2 : Nat) : Int), (Bool.false, ())))) (((0 : Int) ≤ (posR (evalR m d (Int.toNat (at_ + (1 : Int)))).1)) ∧ (((posR (evalR m d (Int.toNat (at_ + (1 : Int)))).1) < (((List.length m.1.2.2.2.2) : Nat) : Int)) ∧ (((0 : Int) ≤ (posR (evalR m d (Int.toNat (((evalR m d (Int.toNat (at_ + (1 : Int)))).2 : Nat) : Int))).1)) ∧ (((posR (evalR m d (Int.toNat (((evalR m d (Int.toNat (at_ + (1 : Int)))).2 : Nat) : Int))).1) < (((List.length (List.getD m.1.2.2.2.2 (Int.toNat (posR (evalR m d (Int.toNat (at_ + (1 : Int)))).1)) ([] : List Int))) : Nat) : Int)) ∧ (K ((compR m.1 (posR (evalR m d (Int.toNat (at_ + (1 : Int)))).1) (posR (evalR m d (Int.toNat (((evalR m d (Int.toNat (at_ + (1 : Int)))).2 : Nat) : Int))).1)), ((((evalR m d (Int.toNat (((evalR m d (Int.toNat (at_ + (1 : Int)))).2 : Nat) : Int))).2 : Nat) : Int), (Bool.true, ()))))))))))))))))))))))))))))))
theorem w_spec_l35Value (n : Nat) (x : denL c_spec_l35Value.args) (K : Int × Int × Bool × Unit → Prop) : evF tab (lkp [(107, q_spec_l35Value n), (128, c_spec_l02Then)]) (cutL [(5, 15), (12, 13)]) Try.f107 (bodyOf Try.f107) .n (q_spec_l35Value (n + 1)) x K = W_spec_l35Value n x.1 x.2.1 x.2.2.1 K := by kernel_rfl
theorem k_spec_l35Value : okC Try.f107.ntmps (cutL [(5, 15), (12, 13)]) (bodyOf Try.f107) = true := by kernel_rfl
theorem m_spec_l35Value (n : Nat) (m : MonoidalD) (d : List endsD) (at_ : Int) (hok : allP (okL c_spec_l35Value.args (m, d, at_, ()))) (hpre : allP ((q_spec_l35Value (n + 1)).pre (m, d, at_, ()))) : W_spec_l35Value n m d at_ (fun r => r = c_spec_l35Value.res (m, d, at_, ())) := by
  simp only [c_spec_l35Value, q_spec_l35Value, okL, T.oks, T.ok, ap, allP, true_and, and_true, implies_true] at hok hpre
  try dsimp only [T.den] at hok
  try dsimp only [T.den] at hpre
  unfold W_spec_l35Value
  obtain ⟨hn, D, i0, he⟩ := hpre
  have hi : ((at_.toNat : Nat) : Int) = at_ := by omega
  have hV := D.val (d.length - at_.toNat) at_.toNat (Nat.le_refl _) (by rw [hi]; exact he)
  obtain ⟨v1, v2, v3, v4, v5⟩ := hV
  have hN := D.node v1
  have S := cat_shape D.mon.cat
  have A := tab_at D.mon.at_
  have hli := S.li
  have hlc := S.lc
  have hlt := S.lt
  have hl : d.length ≤ 140737488355328 := by simp only [nb_eq] at hok; omega
  have e1 : (at_ + 1).toNat = at_.toNat + 1 := by omega
  have e2 : ((at_.toNat + 1 : Nat) : Int) = at_ + 1 := by omega
  simp only [e1, Int.toNat_natCast]
  have hu := evalR.eq_1 m d at_.toNat
  rw [dif_pos v1] at hu
  have f3 : inK .i64 (at_ + 1) := by clear hN v5 hok hu; rw [inK64]; omega
  have pz : ∀ a : Int, 0 ≤ a → posR a = a ∧ decide (a < 0) = false := fun a h => ⟨if_neg (by omega), decide_eq_false (by omega)⟩
  have res : ∀ (x : Int) (y : Nat), evalR m d at_.toNat = (x, y) → 0 ≤ x → (x, (y : Int), true, ()) = c_spec_l35Value.res (m, d, at_, ()) := fun x y h hx => by
    obtain ⟨p1, p2⟩ := pz x hx
    simp only [c_spec_l35Value, h, p1, p2, Bool.not_false]
  have resN : ∀ (y : Nat), evalR m d at_.toNat = (-1, y) → ((0 : Int), (y : Int), false, ()) = c_spec_l35Value.res (m, d, at_, ()) := fun y h => by
    simp only [c_spec_l35Value, h]; rfl
  refine ⟨i0, by omega, cnd_of (fun h0 => ?_) (fun h0 => cnd_of (fun h1 => ?_) (fun h1 => ?_))⟩
  · rw [beq_iff_eq] at h0
    rw [if_pos h0] at hu
    have := res _ _ hu (by omega)
    rw [e2] at this
    exact ⟨i0, by omega, f3, this⟩
  · rw [beq_iff_eq] at h1
    rw [beq_eq_false_iff_ne] at h0
    rw [if_neg h0, if_pos h1] at hu
    have hx := S.idn (x := (d.getD at_.toNat (0, 0)).2) (by omega) (by omega)
    have := res _ _ hu (by omega)
    rw [e2] at this
    exact ⟨i0, by omega, by omega, by omega, f3, this⟩
  rw [beq_eq_false_iff_ne] at h0 h1
  obtain ⟨w1, w2, w3⟩ := v5 h0 h1
  rw [if_neg h0, if_neg h1, dif_pos w2] at hu
  obtain ⟨a1, a2, a3, a4, _⟩ := D.val _ (at_.toNat + 1) (Nat.le_refl _) w1
  obtain ⟨b1, b2, b3, b4, _⟩ := D.val _ _ (Nat.le_refl _) w3
  rw [e2] at w1
  have f1 : d.length - (at_.toNat + 1) < n := by clear hN v5 hok hu; omega
  have f2 : d.length - (evalR m d (at_.toNat + 1)).2 < n := by clear hN v5 hok hu; omega
  refine ⟨f3, f1, D, by clear hN v5 hok hu; omega, w1, f2, D, Int.natCast_nonneg _, w3, cnd_of (fun hx => ?_) (fun hx => ⟨i0, by clear hN v5 hok hu; omega, ?_⟩)⟩
  · simp only [Bool.or_eq_true, Bool.not_not, decide_eq_true_eq] at hx
    rw [if_pos hx] at hu
    exact resN _ hu
  simp only [Bool.or_eq_false_iff, Bool.not_not, decide_eq_false_iff_not] at hx
  obtain ⟨hx1, hx2⟩ := hx
  rw [if_neg (fun h => h.elim hx1 hx2)] at hu
  generalize he1 : evalR m d (at_.toNat + 1) = E1 at *
  generalize he2 : evalR m d E1.2 = E2 at *
  obtain ⟨f, j1⟩ := E1
  obtain ⟨g, j2⟩ := E2
  try dsimp only at *
  have hf0 : 0 ≤ f := by clear hN v5 hok hu; omega
  have hg0 : 0 ≤ g := by clear hN v5 hok hu; omega
  rw [(pz f hf0).1, (pz g hg0).1]
  have r1 := S.row (f := f) hf0 a4
  have r2 := A.2.1 f hf0 a4
  have r3 := A.2.2 f g hf0 a4 hg0 b4
  have hA := A.1
  have ry := @ShapeP.yes m.1 S f g hf0 a4 hg0 b4
  have rn := @ShapeP.no m.1 S f g hf0 a4 hg0 b4
  refine cnd_of (fun h3 => ?_) (fun h3 => ?_)
  · rw [beq_iff_eq] at h3
    rw [if_neg (by rw [h3]; decide)] at hu
    have := res _ _ hu r3.1
    refine ⟨hf0, by clear hN v5 hok hu; omega, hg0, by clear hN v5 hok hu; omega, this⟩
  · rw [beq_eq_false_iff_ne] at h3
    rw [if_pos (by clear hu; omega)] at hu
    refine ⟨hf0, by clear hN v5 hok hu ry rn; omega, hg0, b4, cnd_of (fun h4 => ?_) (fun h4 => ⟨hf0, by clear hN v5 hok hu ry rn; omega, hg0, by clear hN v5 hok hu ry rn; omega, ?_⟩)⟩
    · rw [bne_iff_ne] at h4
      rw [rn h4] at hu
      exact resN _ hu
    · rw [bne_eq_false_iff_eq] at h4
      exact res _ _ hu (ry h4).1
theorem ct_spec_l35Value : CtOk Try.prog 107 c_spec_l35Value := by
  refine ct_rec (q := fun n => (q_spec_l35Value n).pre) (callable_of (fn := Try.f107) (c := bodyOf Try.f107) (by kernel_rfl) (by kernel_rfl) (by kernel_rfl)) (fun x h => Nat.not_lt_zero _ h.1) (fun x h => ?_) (fun n ih => ?_)
  · exact ⟨_, Nat.lt_succ_self _, h⟩
  · exact ct_by (Φ := lkp [(107, q_spec_l35Value n), (128, c_spec_l02Then)]) (good_cons ih (good_cons ct_spec_l02Then good_nil)) tab_ok (by kernel_rfl) (fn := Try.f107) (c := bodyOf Try.f107) (by kernel_rfl) (by kernel_rfl) (by kernel_rfl) (q_spec_l35Value (n + 1)) rfl .n (cutL [(5, 15), (12, 13)]) (by kernel_rfl) (by kernel_rfl) k_spec_l35Value (Nat.le_of_ble_eq_true rfl) (fun x K => W_spec_l35Value n x.1 x.2.1 x.2.2.1 K) (w_spec_l35Value n) (fun x h1 h2 => m_spec_l35Value n x.1 x.2.1 x.2.2.1 h1 h2)
def c_spec_l35Code : Ct := ⟨[MonoidalT, (.sl endsT)], [true, false], fun x => [], [(false, (.fz (.int .i64))), (false, (.fz (.int .i64)))], fun x => ((dcodeR x.1 x.2.1).1, (dcodeR x.1 x.2.1).2, ()), false, none⟩
def W_spec_l35Code (m : MonoidalD) (d : List endsD) (K : Int × Int × Unit → Prop) : Prop := (cnd ((!(monR m)) || (!(diagR d))) (K ((0 : Int), ((1 : Int), ()))) (loopW (S := ((Int × Unit) × Unit)) (fun s => (fun next => ((inK IntKind.i64 s.1.1) → (cnd (decide (s.1.1 < (((List.length d) : Nat) : Int))) (((0 : Int) ≤ s.1.1) ∧ ((s.1.1 < (((List.length d) : Nat) : Int)) ∧ (((((List.getD d (Int.toNat s.1.1) ((0 : Int), (0 : Int))).1 == (0 : Int)) = Bool.true) → ((s.1.1 < (((List.length d) : Nat) : Int)) ∧ ((0 : Int) ≤ s.1.1))) ∧ ((((((List.getD d (Int.toNat s.1.1) ((0 : Int), (0 : Int))).1 == (0 : Int)) && (!(inR (List.getD d (Int.toNat s.1.1) ((0 : Int), (0 : Int))).2 (0 : Int) ((((List.length m.1.2.1) : Nat) : Int) - (1 : Int))))) = Bool.false) → ((s.1.1 < (((List.length d) : Nat) : Int)) ∧ ((0 : Int) ≤ s.1.1))) ∧ (((((((List.getD d (Int.toNat s.1.1) ((0 : Int), (0 : Int))).1 == (0 : Int)) && (!(inR (List.getD d (Int.toNat s.1.1) ((0 : Int), (0 : Int))).2 (0 : Int) ((((List.length m.1.2.1) : Nat) : Int) - (1 : Int))))) = Bool.false) ∧ (((List.getD d (Int.toNat s.1.1) ((0 : Int), (0 : Int))).1 == (1 : Int)) = Bool.true)) → ((s.1.1 < (((List.length d) : Nat) : Int)) ∧ ((0 : Int) ≤ s.1.1))) ∧ (cnd ((((List.getD d (Int.toNat s.1.1) ((0 : Int), (0 : Int))).1 == (0 : Int)) && (!(inR (List.getD d (Int.toNat s.1.1) ((0 : Int), (0 : Int))).2 (0 : Int) ((((List.length m.1.2.1) : Nat) : Int) - (1 : Int))))) || (((List.getD d (Int.toNat s.1.1) ((0 : Int), (0 : Int))).1 == (1 : Int)) && (!((decide ((0 : Int) ≤ (List.getD d (Int.toNat s.1.1) ((0 : Int), (0 : Int))).2)) && (decide ((List.getD d (Int.toNat s.1.1) ((0 : Int), (0 : Int))).2 < m.1.1)))))) (K ((0 : Int), ((2 : Int), ()))) ((inK IntKind.i64 (s.1.1 + (1 : Int))) ∧ (next (((s.1.1 + (1 : Int)), ()), ()))))))))) ((DiaP m d) ∧ (((0 : Int) ≤ (0 : Int)) ∧ (((endR (List.drop (Int.toNat (0 : Int)) d) (1 : Int) (0 : Int)) ≠ (-(1 : Int))) ∧ (cnd (!(!(decide ((evalR m d (Int.toNat (0 : Int))).1 < (0 : Int))))) (K ((0 : Int), ((5 : Int), ()))) (K ((posR (evalR m d (Int.toNat (0 : Int))).1), ((0 : Int), ()))))))))))) (((0 : Int), ()), ())))
theorem w_spec_l35Code (x : denL c_spec_l35Code.args) (K : Int × Int × Unit → Prop) : evF tab (lkp [(104, c_spec_IsDiagram), (105, c_spec_l02Arrow), (106, c_spec_l02Object), (103, c_spec_l35Is), (107, c_spec_l35Value)]) (cutL [(6, 36)]) Try.f69 (bodyOf Try.f69) (.s .n (.s .n (.s (.s .n (.l [(6, (.d (.int .i64)))] [] [1, 2] .n)) .n))) c_spec_l35Code x K = W_spec_l35Code x.1 x.2.1 K := by kernel_rfl
theorem k_spec_l35Code : okC Try.f69.ntmps (cutL [(6, 36)]) (bodyOf Try.f69) = true := by kernel_rfl
theorem m_spec_l35Code (m : MonoidalD) (d : List endsD) (hok : allP (okL c_spec_l35Code.args (m, d, ()))) (hpre : allP (c_spec_l35Code.pre (m, d, ()))) : W_spec_l35Code m d (fun r => r = c_spec_l35Code.res (m, d, ())) := by
  simp only [c_spec_l35Code, okL, T.oks, T.ok, ap, allP, true_and, and_true, implies_true] at hok hpre
  try dsimp only [T.den] at hok
  try dsimp only [T.den] at hpre
  unfold W_spec_l35Code
  have hl : d.length ≤ 140737488355328 := by simp only [nb_eq] at hok; omega
  have res : ∀ x y, dcodeR m d = (x, y) → (x, y, ()) = c_spec_l35Code.res (m, d, ()) := fun x y h => by simp only [c_spec_l35Code, h]
  refine cnd_of (fun hx => res _ _ ?_) (fun hx => ?_)
  · simp only [Bool.or_eq_true, Bool.not_eq_true'] at hx
    unfold dcodeR
    rw [if_neg (by rintro ⟨h1, h2⟩; rw [h1, h2] at hx; simp at hx)]
  simp only [Bool.or_eq_false_iff, Bool.not_eq_false'] at hx
  have hd := hx.2
  simp only [diagR, Bool.and_eq_true, beq_iff_eq] at hd
  refine loop_all d (0, 0) (exiN m) ?_ ?_
  · intro i next i0 i1 hno hyes _
    try dsimp only
    have hk := List.all_eq_true.1 hd.1.2 _ (getD_mem d (0, 0) i0 i1)
    have h1 : exiN m (d.getD i.toNat (0, 0)) = false → ((0 : Int), (2 : Int), ()) = c_spec_l35Code.res (m, d, ()) := fun h => res _ _ (by unfold dcodeR; rw [if_pos hx, if_neg (by unfold exiR; rw [hno h]; simp)])
    have h2 : exiN m (d.getD i.toNat (0, 0)) = true → inK .i64 (i + 1) ∧ next ((i + 1, ()), ()) := fun h => ⟨by rw [inK64]; (try dsimp only); omega, hyes h⟩
    have he : exiN m (d.getD i.toNat (0, 0)) = (!((d.getD i.toNat (0, 0)).1 == 0 && decide ((m.1.2.1.length : Int) ≤ (d.getD i.toNat (0, 0)).2)) && !((d.getD i.toNat (0, 0)).1 == 1 && decide (m.1.1 ≤ (d.getD i.toNat (0, 0)).2))) := rfl
    clear hno hyes res
    generalize d.getD i.toNat (0, 0) = x at *
    generalize (((0 : Int), (2 : Int), ()) = c_spec_l35Code.res (m, d, ())) = A at *
    generalize (inK .i64 (i + 1) ∧ next ((i + 1, ()), ())) = B at *
    refine cnd_d (fun _ => ⟨i0, i1, fun _ => ⟨i1, i0⟩, fun _ => ⟨i1, i0⟩, fun _ => ⟨i1, i0⟩, ?_⟩) (fun h => absurd i1 h)
    have hkk : 0 ≤ x.2 ∨ (x.1 ≠ 0 ∧ x.1 ≠ 1) := by
      simp only [okN, inR, Bool.or_eq_true, Bool.and_eq_true, beq_iff_eq, decide_eq_true_eq] at hk
      omega
    have hcond : (((x.1 == 0) && !(inR x.2 0 (m.1.2.1.length - 1))) || ((x.1 == 1) && !(decide (0 ≤ x.2) && decide (x.2 < m.1.1)))) = !exiN m x := by
      rw [he, Bool.eq_iff_iff]
      simp only [inR, Bool.or_eq_true, Bool.and_eq_true, beq_iff_eq, decide_eq_true_eq, Bool.not_eq_true', Bool.and_eq_false_iff, beq_eq_false_iff_ne, decide_eq_false_iff_not, Bool.not_eq_false']
      omega
    rw [hcond]
    exact cnd_of (fun h => h1 (by simpa using h)) (fun h => h2 (by simpa using h))
  · intro next hy _
    refine cnd_d (fun h => absurd h (Int.lt_irrefl _)) (fun _ => ?_)
    have h1 : dcodeR m d = if (evalR m d 0).1 < 0 then (0, 5) else ((evalR m d 0).1, 0) := by unfold dcodeR; rw [if_pos hx, if_pos (show exiR m d = true from hy)]
    refine ⟨⟨mon_iff.1 hx.1, hd.1.2, hy⟩, by omega, ?_, cnd_of (fun hz => ?_) (fun hz => ?_)⟩
    · rw [show Int.toNat 0 = 0 from rfl, List.drop_zero, hd.2]; omega
    · rw [Bool.not_not, decide_eq_true_eq] at hz
      exact res _ _ (by rw [h1]; exact if_pos hz)
    · rw [Bool.not_not, decide_eq_false_iff_not] at hz
      refine res _ _ ?_
      rw [h1]
      have hz' : ¬ (evalR m d 0).1 < 0 := hz
      rw [if_neg hz']
      unfold posR
      rw [if_neg hz]
      rfl
theorem ct_spec_l35Code : CtOk Try.prog 69 c_spec_l35Code :=
  ct_by (Φ := lkp [(104, c_spec_IsDiagram), (105, c_spec_l02Arrow), (106, c_spec_l02Object), (103, c_spec_l35Is), (107, c_spec_l35Value)]) (good_cons ct_spec_IsDiagram (good_cons ct_spec_l02Arrow (good_cons ct_spec_l02Object (good_cons ct_spec_l35Is (good_cons ct_spec_l35Value good_nil))))) tab_ok (by kernel_rfl) (fn := Try.f69) (c := bodyOf Try.f69) (by kernel_rfl) (by kernel_rfl) (by kernel_rfl) c_spec_l35Code rfl (.s .n (.s .n (.s (.s .n (.l [(6, (.d (.int .i64)))] [] [1, 2] .n)) .n))) (cutL [(6, 36)]) (by kernel_rfl) (by kernel_rfl) k_spec_l35Code (by decide) (fun x K => W_spec_l35Code x.1 x.2.1 K) w_spec_l35Code (fun x h1 h2 => m_spec_l35Code x.1 x.2.1 h1 h2)
def c_spec_DiagramValue : Ct := ⟨[MonoidalT, (.sl endsT)], [true, false], fun x => [], [(false, (.fz (.int .i64))), (false, (.fz (.int .i64)))], fun x => ((dcodeR x.1 x.2.1).1, (dcodeR x.1 x.2.1).2, ()), false, none⟩
def W_spec_DiagramValue (m : MonoidalD) (d : List endsD) (K : Int × Int × Unit → Prop) : Prop := (K ((dcodeR m d).1, ((dcodeR m d).2, ())))
theorem w_spec_DiagramValue (x : denL c_spec_DiagramValue.args) (K : Int × Int × Unit → Prop) : evF tab (lkp [(69, c_spec_l35Code)]) (cutL []) Try.f25 (bodyOf Try.f25) .n c_spec_DiagramValue x K = W_spec_DiagramValue x.1 x.2.1 K := by kernel_rfl
theorem k_spec_DiagramValue : okC Try.f25.ntmps (cutL []) (bodyOf Try.f25) = true := by kernel_rfl
theorem m_spec_DiagramValue (m : MonoidalD) (d : List endsD) (hok : allP (okL c_spec_DiagramValue.args (m, d, ()))) (hpre : allP (c_spec_DiagramValue.pre (m, d, ()))) : W_spec_DiagramValue m d (fun r => r = c_spec_DiagramValue.res (m, d, ())) := by
  simp only [c_spec_DiagramValue, okL, T.oks, T.ok, ap, allP, true_and, and_true, implies_true] at hok hpre
  try dsimp only [T.den] at hok
  try dsimp only [T.den] at hpre
  unfold W_spec_DiagramValue
  rfl
theorem ct_spec_DiagramValue : CtOk Try.prog 25 c_spec_DiagramValue :=
  ct_by (Φ := lkp [(69, c_spec_l35Code)]) (good_cons ct_spec_l35Code good_nil) tab_ok (by kernel_rfl) (fn := Try.f25) (c := bodyOf Try.f25) (by kernel_rfl) (by kernel_rfl) (by kernel_rfl) c_spec_DiagramValue rfl .n (cutL []) (by kernel_rfl) (by kernel_rfl) k_spec_DiagramValue (by decide) (fun x K => W_spec_DiagramValue x.1 x.2.1 K) w_spec_DiagramValue (fun x h1 h2 => m_spec_DiagramValue x.1 x.2.1 h1 h2)
def c_laws_FnExactDiagramValue : Ct := ⟨[MonoidalT, (.sl endsT)], [true, false], fun x => [], [(false, (.fz .bool))], fun x => (true, ()), false, none⟩
def W_laws_FnExactDiagramValue (aM : MonoidalD) (aD : List endsD) (K : Bool × Unit → Prop) : Prop := (((-(4611404543450677248 : Int)) ≤ (1048576 : Int)) ∧ (cnd (decide ((szR (wR MonoidalT aM) (1048576 : Int)) < (0 : Int))) (K (Bool.true, ())) (((-(4611545280939032576 : Int)) ≤ (szR (wR MonoidalT aM) (1048576 : Int))) ∧ (cnd (decide ((szR (wR (T.sl endsT) aD) (szR (wR MonoidalT aM) (1048576 : Int))) < (0 : Int))) (K (Bool.true, ())) (((wR MonoidalT aM) ≤ 1099511627776) ∧ (((wR (T.sl endsT) aD) ≤ 1099511627776) ∧ (((wR MonoidalT aM) ≤ 1099511627776) ∧ (((wR (T.sl endsT) aD) ≤ 1099511627776) ∧ (cnd (((dcodeR aM aD).1 != (dcodeR aM aD).1) || ((dcodeR aM aD).2 != (dcodeR aM aD).2)) (K (Bool.false, ())) (((wR MonoidalT aM) ≤ 1099511627776) ∧ (cnd (!(eqR MonoidalT aM aM)) (K (Bool.false, ())) (((wR (T.sl endsT) aD) ≤ 1099511627776) ∧ (cnd (!(eqR (T.sl endsT) aD aD)) (K (Bool.false, ())) (K (Bool.true, ())))))))))))))))
theorem w_laws_FnExactDiagramValue (x : denL c_laws_FnExactDiagramValue.args) (K : Bool × Unit → Prop) : evF tab (lkp [(28, c_impl_DiagramValue), (30, c_laws_eqDiagramNodeS), (29, c_laws_eqMonoidal), (24, c_laws_szDiagramNodeS), (23, c_laws_szMonoidal), (27, c_laws_toDiagramNodeS), (26, c_laws_toMonoidal), (25, c_spec_DiagramValue)]) (cutL [(14, 5)]) Try.f6 (bodyOf Try.f6) .n c_laws_FnExactDiagramValue x K = W_laws_FnExactDiagramValue x.1 x.2.1 K := by kernel_rfl
theorem k_laws_FnExactDiagramValue : okC Try.f6.ntmps (cutL [(14, 5)]) (bodyOf Try.f6) = true := by kernel_rfl
theorem m_laws_FnExactDiagramValue (aM : MonoidalD) (aD : List endsD) (hok : allP (okL c_laws_FnExactDiagramValue.args (aM, aD, ()))) (hpre : allP (c_laws_FnExactDiagramValue.pre (aM, aD, ()))) : W_laws_FnExactDiagramValue aM aD (fun r => r = c_laws_FnExactDiagramValue.res (aM, aD, ())) := by
  simp only [c_laws_FnExactDiagramValue, okL, T.oks, T.ok, ap, allP, true_and, and_true, implies_true] at hok hpre
  try dsimp only [T.den] at hok
  try dsimp only [T.den] at hpre
  unfold W_laws_FnExactDiagramValue
  generalize wR MonoidalT aM = n1
  generalize wR (.sl endsT) aD = n2
  simp only [eqR_self]
  clear hok
  grind [cnd, nb_eq, inK64, szR, c_laws_FnExactDiagramValue]
theorem ct_laws_FnExactDiagramValue : CtOk Try.prog 6 c_laws_FnExactDiagramValue :=
  ct_by (Φ := lkp [(28, c_impl_DiagramValue), (30, c_laws_eqDiagramNodeS), (29, c_laws_eqMonoidal), (24, c_laws_szDiagramNodeS), (23, c_laws_szMonoidal), (27, c_laws_toDiagramNodeS), (26, c_laws_toMonoidal), (25, c_spec_DiagramValue)]) (good_cons ct_impl_DiagramValue (good_cons ct_laws_eqDiagramNodeS (good_cons ct_laws_eqMonoidal (good_cons ct_laws_szDiagramNodeS (good_cons ct_laws_szMonoidal (good_cons ct_laws_toDiagramNodeS (good_cons ct_laws_toMonoidal (good_cons ct_spec_DiagramValue good_nil)))))))) tab_ok (by kernel_rfl) (fn := Try.f6) (c := bodyOf Try.f6) (by kernel_rfl) (by kernel_rfl) (by kernel_rfl) c_laws_FnExactDiagramValue rfl .n (cutL [(14, 5)]) (by kernel_rfl) (by kernel_rfl) k_laws_FnExactDiagramValue (by decide) (fun x K => W_laws_FnExactDiagramValue x.1 x.2.1 K) w_laws_FnExactDiagramValue (fun x h1 h2 => m_laws_FnExactDiagramValue x.1 x.2.1 h1 h2)
end Go.Bm
