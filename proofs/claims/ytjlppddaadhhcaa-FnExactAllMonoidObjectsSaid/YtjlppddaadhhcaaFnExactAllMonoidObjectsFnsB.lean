/- What the functions that FnExactAllMonoidObjects reaches give: for each its contract, what it asks, and the proof. No condition. -/
import Derived.Test.YtjlppddaadhhcaaFnExactAllMonoidObjectsFnsA
namespace Go.Bm
open Go.Proofs
set_option maxRecDepth 100000
set_option maxHeartbeats 1000000
set_option linter.unusedVariables false
set_option linter.unusedSimpArgs false
def c_spec_l02Then : Ct := ⟨[CategoryT, (.int .i64), (.int .i64)], [true, false, false], fun x => [0 ≤ x.2.1, x.2.1 < x.1.2.2.2.2.length, 0 ≤ x.2.2.1, x.2.2.1 < (x.1.2.2.2.2.getD x.2.1.toNat []).length], [(false, (.fz (.int .i64)))], fun x => (compR x.1 x.2.1 x.2.2.1, ()), false, none⟩
def W_spec_l02Then (c : CategoryD) (f : Int) (g : Int) (K : Int × Unit → Prop) : Prop := (((0 : Int) ≤ f) ∧ ((f < (((List.length c.2.2.2.2) : Nat) : Int)) ∧ (((0 : Int) ≤ g) ∧ ((g < (((List.length (List.getD c.2.2.2.2 (Int.toNat f) ([] : List Int))) : Nat) : Int)) ∧ (K ((List.getD (List.getD c.2.2.2.2 (Int.toNat f) ([] : List Int)) (Int.toNat g) (0 : Int)), ()))))))
theorem w_spec_l02Then (x : denL c_spec_l02Then.args) (K : Int × Unit → Prop) : evF tab (lkp []) (cutL []) Try.f69 (bodyOf Try.f69) .n c_spec_l02Then x K = W_spec_l02Then x.1 x.2.1 x.2.2.1 K := by kernel_rfl
theorem k_spec_l02Then : okC Try.f69.ntmps (cutL []) (bodyOf Try.f69) = true := by kernel_rfl
theorem m_spec_l02Then (c : CategoryD) (f : Int) (g : Int) (hok : allP (okL c_spec_l02Then.args (c, f, g, ()))) (hpre : allP (c_spec_l02Then.pre (c, f, g, ()))) : W_spec_l02Then c f g (fun r => r = c_spec_l02Then.res (c, f, g, ())) := by
  simp only [c_spec_l02Then, okL, T.oks, T.ok, ap, allP, true_and, and_true, implies_true] at hok hpre
  try dsimp only [T.den] at hok
  try dsimp only [T.den] at hpre
  unfold W_spec_l02Then
  exact ⟨hpre.1, hpre.2.1, hpre.2.2.1, hpre.2.2.2, rfl⟩
theorem ct_spec_l02Then : CtOk Try.prog 69 c_spec_l02Then :=
  ct_by (Φ := lkp []) good_nil tab_ok (by kernel_rfl) (fn := Try.f69) (c := bodyOf Try.f69) (by kernel_rfl) (by kernel_rfl) (by kernel_rfl) c_spec_l02Then rfl .n (cutL []) (by kernel_rfl) (by kernel_rfl) k_spec_l02Then (by decide) (fun x K => W_spec_l02Then x.1 x.2.1 x.2.2.1 K) w_spec_l02Then (fun x h1 h2 => m_spec_l02Then x.1 x.2.1 x.2.2.1 h1 h2)
def c_spec_l35Object : Ct := ⟨[MonoidalT, (.int .i64), (.int .i64), (.int .i64)], [true, false, false, false], fun x => [MonP x.1, 0 ≤ x.2.1, x.2.1 < x.1.1.1, 0 ≤ x.2.2.1, x.2.2.1 < x.1.1.2.1.length, 0 ≤ x.2.2.2.1, x.2.2.2.1 < x.1.1.2.1.length], [(false, (.fz .bool))], fun x => (mobR x.1 x.2.1 x.2.2.1 x.2.2.2.1, ()), false, none⟩
def W_spec_l35Object (m : MonoidalD) (x : Int) (mul : Int) (unit : Int) (K : Bool × Unit → Prop) : Prop := (((0 : Int) ≤ x) ∧ ((x < (((List.length m.2.2.1) : Nat) : Int)) ∧ (((0 : Int) ≤ x) ∧ ((x < (((List.length (List.getD m.2.2.1 (Int.toNat x) ([] : List Int))) : Nat) : Int)) ∧ (((0 : Int) ≤ mul) ∧ ((mul < (((List.length m.1.2.1) : Nat) : Int)) ∧ (((((List.getD m.1.2.1 (Int.toNat mul) (0 : Int)) != (List.getD (List.getD m.2.2.1 (Int.toNat x) ([] : List Int)) (Int.toNat x) (0 : Int))) = Bool.false) → ((mul < (((List.length m.1.2.2.1) : Nat) : Int)) ∧ ((0 : Int) ≤ mul))) ∧ ((((((List.getD m.1.2.1 (Int.toNat mul) (0 : Int)) != (List.getD (List.getD m.2.2.1 (Int.toNat x) ([] : List Int)) (Int.toNat x) (0 : Int))) || ((List.getD m.1.2.2.1 (Int.toNat mul) (0 : Int)) != x)) = Bool.false) → ((unit < (((List.length m.1.2.1) : Nat) : Int)) ∧ ((0 : Int) ≤ unit))) ∧ (((((((List.getD m.1.2.1 (Int.toNat mul) (0 : Int)) != (List.getD (List.getD m.2.2.1 (Int.toNat x) ([] : List Int)) (Int.toNat x) (0 : Int))) || ((List.getD m.1.2.2.1 (Int.toNat mul) (0 : Int)) != x)) || ((List.getD m.1.2.1 (Int.toNat unit) (0 : Int)) != m.2.1)) = Bool.false) → ((unit < (((List.length m.1.2.2.1) : Nat) : Int)) ∧ ((0 : Int) ≤ unit))) ∧ (cnd (((((List.getD m.1.2.1 (Int.toNat mul) (0 : Int)) != (List.getD (List.getD m.2.2.1 (Int.toNat x) ([] : List Int)) (Int.toNat x) (0 : Int))) || ((List.getD m.1.2.2.1 (Int.toNat mul) (0 : Int)) != x)) || ((List.getD m.1.2.1 (Int.toNat unit) (0 : Int)) != m.2.1)) || ((List.getD m.1.2.2.1 (Int.toNat unit) (0 : Int)) != x)) (K (Bool.false, ())) (((0 : Int) ≤ x) ∧ ((x < (((List.length m.1.2.2.2.1) : Nat) : Int)) ∧ (((0 : Int) ≤ mul) ∧ ((mul < (((List.length m.2.2.2) : Nat) : Int)) ∧ (((0 : Int) ≤ (List.getD m.1.2.2.2.1 (Int.toNat x) (0 : Int))) ∧ (((List.getD m.1.2.2.2.1 (Int.toNat x) (0 : Int)) < (((List.length (List.getD m.2.2.2 (Int.toNat mul) ([] : List Int))) : Nat) : Int)) ∧ (((0 : Int) ≤ (List.getD (List.getD m.2.2.2 (Int.toNat mul) ([] : List Int)) (Int.toNat (List.getD m.1.2.2.2.1 (Int.toNat x) (0 : Int))) (0 : Int))) ∧ (((List.getD (List.getD m.2.2.2 (Int.toNat mul) ([] : List Int)) (Int.toNat (List.getD m.1.2.2.2.1 (Int.toNat x) (0 : Int))) (0 : Int)) < (((List.length m.1.2.2.2.2) : Nat) : Int)) ∧ (((0 : Int) ≤ mul) ∧ ((mul < (((List.length (List.getD m.1.2.2.2.2 (Int.toNat (List.getD (List.getD m.2.2.2 (Int.toNat mul) ([] : List Int)) (Int.toNat (List.getD m.1.2.2.2.1 (Int.toNat x) (0 : Int))) (0 : Int))) ([] : List Int))) : Nat) : Int)) ∧ (((0 : Int) ≤ (List.getD m.1.2.2.2.1 (Int.toNat x) (0 : Int))) ∧ (((List.getD m.1.2.2.2.1 (Int.toNat x) (0 : Int)) < (((List.length m.2.2.2) : Nat) : Int)) ∧ (((0 : Int) ≤ mul) ∧ ((mul < (((List.length (List.getD m.2.2.2 (Int.toNat (List.getD m.1.2.2.2.1 (Int.toNat x) (0 : Int))) ([] : List Int))) : Nat) : Int)) ∧ (((0 : Int) ≤ (List.getD (List.getD m.2.2.2 (Int.toNat (List.getD m.1.2.2.2.1 (Int.toNat x) (0 : Int))) ([] : List Int)) (Int.toNat mul) (0 : Int))) ∧ (((List.getD (List.getD m.2.2.2 (Int.toNat (List.getD m.1.2.2.2.1 (Int.toNat x) (0 : Int))) ([] : List Int)) (Int.toNat mul) (0 : Int)) < (((List.length m.1.2.2.2.2) : Nat) : Int)) ∧ (((0 : Int) ≤ mul) ∧ ((mul < (((List.length (List.getD m.1.2.2.2.2 (Int.toNat (List.getD (List.getD m.2.2.2 (Int.toNat (List.getD m.1.2.2.2.1 (Int.toNat x) (0 : Int))) ([] : List Int)) (Int.toNat mul) (0 : Int))) ([] : List Int))) : Nat) : Int)) ∧ (cnd ((compR m.1 (List.getD (List.getD m.2.2.2 (Int.toNat mul) ([] : List Int)) (Int.toNat (List.getD m.1.2.2.2.1 (Int.toNat x) (0 : Int))) (0 : Int)) mul) != (compR m.1 (List.getD (List.getD m.2.2.2 (Int.toNat (List.getD m.1.2.2.2.1 (Int.toNat x) (0 : Int))) ([] : List Int)) (Int.toNat mul) (0 : Int)) mul)) (K (Bool.false, ())) (((0 : Int) ≤ unit) ∧ ((unit < (((List.length m.2.2.2) : Nat) : Int)) ∧ (((0 : Int) ≤ (List.getD m.1.2.2.2.1 (Int.toNat x) (0 : Int))) ∧ (((List.getD m.1.2.2.2.1 (Int.toNat x) (0 : Int)) < (((List.length (List.getD m.2.2.2 (Int.toNat unit) ([] : List Int))) : Nat) : Int)) ∧ (((0 : Int) ≤ (List.getD (List.getD m.2.2.2 (Int.toNat unit) ([] : List Int)) (Int.toNat (List.getD m.1.2.2.2.1 (Int.toNat x) (0 : Int))) (0 : Int))) ∧ (((List.getD (List.getD m.2.2.2 (Int.toNat unit) ([] : List Int)) (Int.toNat (List.getD m.1.2.2.2.1 (Int.toNat x) (0 : Int))) (0 : Int)) < (((List.length m.1.2.2.2.2) : Nat) : Int)) ∧ (((0 : Int) ≤ mul) ∧ ((mul < (((List.length (List.getD m.1.2.2.2.2 (Int.toNat (List.getD (List.getD m.2.2.2 (Int.toNat unit) ([] : List Int)) (Int.toNat (List.getD m.1.2.2.2.1 (Int.toNat x) (0 : Int))) (0 : Int))) ([] : List Int))) : Nat) : Int)) ∧ (((((compR m.1 (List.getD (List.getD m.2.2.2 (Int.toNat unit) ([] : List Int)) (Int.toNat (List.getD m.1.2.2.2.1 (Int.toNat x) (0 : Int))) (0 : Int)) mul) == (List.getD m.1.2.2.2.1 (Int.toNat x) (0 : Int))) = Bool.true) → (((List.getD m.1.2.2.2.1 (Int.toNat x) (0 : Int)) < (((List.length m.2.2.2) : Nat) : Int)) ∧ ((0 : Int) ≤ (List.getD m.1.2.2.2.1 (Int.toNat x) (0 : Int))))) ∧ (((((compR m.1 (List.getD (List.getD m.2.2.2 (Int.toNat unit) ([] : List Int)) (Int.toNat (List.getD m.1.2.2.2.1 (Int.toNat x) (0 : Int))) (0 : Int)) mul) == (List.getD m.1.2.2.2.1 (Int.toNat x) (0 : Int))) = Bool.true) → ((unit < (((List.length (List.getD m.2.2.2 (Int.toNat (List.getD m.1.2.2.2.1 (Int.toNat x) (0 : Int))) ([] : List Int))) : Nat) : Int)) ∧ ((0 : Int) ≤ unit))) ∧ (((((compR m.1 (List.getD (List.getD m.2.2.2 (Int.toNat unit) ([] : List Int)) (Int.toNat (List.getD m.1.2.2.2.1 (Int.toNat x) (0 : Int))) (0 : Int)) mul) == (List.getD m.1.2.2.2.1 (Int.toNat x) (0 : Int))) = Bool.true) → (((List.getD (List.getD m.2.2.2 (Int.toNat (List.getD m.1.2.2.2.1 (Int.toNat x) (0 : Int))) ([] : List Int)) (Int.toNat unit) (0 : Int)) < (((List.length m.1.2.2.2.2) : Nat) : Int)) ∧ (((0 : Int) ≤ mul) ∧ ((mul < (((List.length (List.getD m.1.2.2.2.2 (Int.toNat (List.getD (List.getD m.2.2.2 (Int.toNat (List.getD m.1.2.2.2.1 (Int.toNat x) (0 : Int))) ([] : List Int)) (Int.toNat unit) (0 : Int))) ([] : List Int))) : Nat) : Int)) ∧ ((0 : Int) ≤ (List.getD (List.getD m.2.2.2 (Int.toNat (List.getD m.1.2.2.2.1 (Int.toNat x) (0 : Int))) ([] : List Int)) (Int.toNat unit) (0 : Int))))))) ∧ (K ((((compR m.1 (List.getD (List.getD m.2.2.2 (Int.toNat unit) ([] : List Int)) (Int.toNat (List.getD m.1.2.2.2.1 (Int.toNat x) (0 : Int))) (0 : Int)) mul) == (List.getD m.1.2.2.2.1 (Int.toNat x) (0 : Int))) && ((compR m.1 (List.getD (List.getD m.2.2.2 (Int.toNat (List.getD m.1.2.2.2.1 (Int.toNat x) (0 : Int))) ([] : List Int)) (Int.toNat unit) (0 : Int)) mul) == (List.getD m.1.2.2.2.1 (Int.toNat x) (0 : Int)))), ()))))))))))))))))))))))))))))))))))))))))))
theorem w_spec_l35Object (x : denL c_spec_l35Object.args) (K : Bool × Unit → Prop) : evF tab (lkp [(69, c_spec_l02Then)]) (cutL [(3, 35), (6, 23), (8, 29)]) Try.f87 (bodyOf Try.f87) .n c_spec_l35Object x K = W_spec_l35Object x.1 x.2.1 x.2.2.1 x.2.2.2.1 K := by kernel_rfl
theorem k_spec_l35Object : okC Try.f87.ntmps (cutL [(3, 35), (6, 23), (8, 29)]) (bodyOf Try.f87) = true := by kernel_rfl
theorem m_spec_l35Object (m : MonoidalD) (x : Int) (mul : Int) (unit : Int) (hok : allP (okL c_spec_l35Object.args (m, x, mul, unit, ()))) (hpre : allP (c_spec_l35Object.pre (m, x, mul, unit, ()))) : W_spec_l35Object m x mul unit (fun r => r = c_spec_l35Object.res (m, x, mul, unit, ())) := by
  simp only [c_spec_l35Object, okL, T.oks, T.ok, ap, allP, true_and, and_true, implies_true] at hok hpre
  try dsimp only [T.den] at hok
  try dsimp only [T.den] at hpre
  unfold W_spec_l35Object
  obtain ⟨P, x0, x1, m0, m1, u0, u1⟩ := hpre
  have S := cat_shape P.cat
  have O := tab_at P.ot
  have A := tab_at P.at_
  have hlt := S.lt
  have hli := S.li
  have hlc := S.lc
  have ix := S.idn x0 x1
  have at1 : ∀ i j : Int, (m.2.2.2.getD i.toNat []).getD j.toNat 0 = atR m.2.2.2 i j := fun _ _ => rfl
  have at2 : ∀ i j : Int, (m.2.2.1.getD i.toNat []).getD j.toNat 0 = atR m.2.2.1 i j := fun _ _ => rfl
  have at3 : ∀ i j : Int, (m.1.2.2.2.2.getD i.toNat []).getD j.toNat 0 = compR m.1 i j := fun _ _ => rfl
  simp only [at1, at2, at3]
  have f1 := A.2.2 mul _ m0 m1 ix.1 ix.2.1
  have f2 := A.2.2 _ mul ix.1 ix.2.1 m0 m1
  have f3 := A.2.2 unit _ u0 u1 ix.1 ix.2.1
  have f4 := A.2.2 _ unit ix.1 ix.2.1 u0 u1
  have g1 := A.2.1 mul m0 m1
  have g2 := A.2.1 unit u0 u1
  have g3 := A.2.1 _ ix.1 ix.2.1
  have h1 := S.row _ f1.1 f1.2
  have h2 := S.row _ f2.1 f2.2
  have h3 := S.row _ f3.1 f3.2
  have h4 := S.row _ f4.1 f4.2
  have k1 := O.2.1 x x0 x1
  clear P hok
  simp only [c_spec_l35Object, mobR]
  generalize m.1.2.2.2.1.getD x.toNat 0 = i at *
  generalize atR m.2.2.2 mul i = a1 at *
  generalize atR m.2.2.2 i mul = a2 at *
  generalize atR m.2.2.2 unit i = a3 at *
  generalize atR m.2.2.2 i unit = a4 at *
  repeat' (with_reducible apply And.intro)
  all_goals first | omega | (intro _; omega) | skip
  refine cnd_of (fun hc => ?_) (fun hc => ?_)
  · revert hc
    simp only [bne]
    generalize (m.1.2.1.getD mul.toNat 0 == atR m.2.2.1 x x) = b1
    generalize (m.1.2.2.1.getD mul.toNat 0 == x) = b2
    generalize (m.1.2.1.getD unit.toNat 0 == m.2.1) = b3
    generalize (m.1.2.2.1.getD unit.toNat 0 == x) = b4
    generalize (compR m.1 a1 mul == compR m.1 a2 mul) = b5
    generalize (compR m.1 a3 mul == i) = b6
    generalize (compR m.1 a4 mul == i) = b7
    cases b1 <;> cases b2 <;> cases b3 <;> cases b4 <;> cases b5 <;> cases b6 <;> cases b7 <;> simp
  repeat' (with_reducible apply And.intro)
  all_goals first | omega | (intro _; omega) | skip
  refine cnd_of (fun hd => ?_) (fun hd => ?_)
  · revert hc hd
    simp only [bne]
    generalize (m.1.2.1.getD mul.toNat 0 == atR m.2.2.1 x x) = b1
    generalize (m.1.2.2.1.getD mul.toNat 0 == x) = b2
    generalize (m.1.2.1.getD unit.toNat 0 == m.2.1) = b3
    generalize (m.1.2.2.1.getD unit.toNat 0 == x) = b4
    generalize (compR m.1 a1 mul == compR m.1 a2 mul) = b5
    generalize (compR m.1 a3 mul == i) = b6
    generalize (compR m.1 a4 mul == i) = b7
    cases b1 <;> cases b2 <;> cases b3 <;> cases b4 <;> cases b5 <;> cases b6 <;> cases b7 <;> simp
  repeat' (with_reducible apply And.intro)
  all_goals first | omega | (intro _; omega) | skip
  · revert hc hd
    simp only [bne]
    generalize (m.1.2.1.getD mul.toNat 0 == atR m.2.2.1 x x) = b1
    generalize (m.1.2.2.1.getD mul.toNat 0 == x) = b2
    generalize (m.1.2.1.getD unit.toNat 0 == m.2.1) = b3
    generalize (m.1.2.2.1.getD unit.toNat 0 == x) = b4
    generalize (compR m.1 a1 mul == compR m.1 a2 mul) = b5
    generalize (compR m.1 a3 mul == i) = b6
    generalize (compR m.1 a4 mul == i) = b7
    cases b1 <;> cases b2 <;> cases b3 <;> cases b4 <;> cases b5 <;> cases b6 <;> cases b7 <;> simp
theorem ct_spec_l35Object : CtOk Try.prog 87 c_spec_l35Object :=
  ct_by (Φ := lkp [(69, c_spec_l02Then)]) (good_cons ct_spec_l02Then good_nil) tab_ok (by kernel_rfl) (fn := Try.f87) (c := bodyOf Try.f87) (by kernel_rfl) (by kernel_rfl) (by kernel_rfl) c_spec_l35Object rfl .n (cutL [(3, 35), (6, 23), (8, 29)]) (by kernel_rfl) (by kernel_rfl) k_spec_l35Object (by decide) (fun x K => W_spec_l35Object x.1 x.2.1 x.2.2.1 x.2.2.2.1 K) w_spec_l35Object (fun x h1 h2 => m_spec_l35Object x.1 x.2.1 x.2.2.1 x.2.2.2.1 h1 h2)
def c_spec_AllMonoidObjects : Ct := ⟨[MonoidalT], [true], fun x => [], [(false, (.sl (.fz (.sl (.int .i64))))), (false, (.fz (.int .i64)))], fun x => ((amoR x.1).1, (amoR x.1).2, ()), true, none⟩
def W_spec_AllMonoidObjects (m : MonoidalD) (K : (List (List Int)) × Int × Unit → Prop) : Prop := (cnd (!(monR m)) (K (([] : List (List Int)), ((1 : Int), ()))) (loopW (S := ((Unit × (Int × Unit)) × ((List (List Int)) × Unit))) (fun s => (fun next => ((inK IntKind.i64 s.1.2.1) → ((T.ok (T.sl (T.sl (T.int IntKind.i64))) s.2.1) → (cnd (decide (s.1.2.1 < m.1.1)) (((0 : Int) ≤ s.1.2.1) ∧ ((s.1.2.1 < (((List.length m.2.2.1) : Nat) : Int)) ∧ (((0 : Int) ≤ s.1.2.1) ∧ ((s.1.2.1 < (((List.length (List.getD m.2.2.1 (Int.toNat s.1.2.1) ([] : List Int))) : Nat) : Int)) ∧ (((List.length m.1.2.1) ≤ 40) ∧ (((List.length m.1.2.2.1) = (List.length m.1.2.1)) ∧ (((List.length m.1.2.1) ≤ 40) ∧ (((List.length m.1.2.2.1) = (List.length m.1.2.1)) ∧ (loopW (S := ((Unit × (Int × Unit)) × ((List (List Int)) × Unit))) (fun s1 => (fun next1 => ((inK IntKind.i64 s1.1.2.1) → ((T.ok (T.sl (T.sl (T.int IntKind.i64))) s1.2.1) → (cnd (decide (s1.1.2.1 < (((List.length (homR m.1 (List.getD (List.getD m.2.2.1 (Int.toNat s.1.2.1) ([] : List Int)) (Int.toNat s.1.2.1) (0 : Int)) s.1.2.1)) : Nat) : Int))) (loopW (S := ((Unit × (Int × Unit)) × ((List (List Int)) × Unit))) (fun s2 => (fun next2 => ((inK IntKind.i64 s2.1.2.1) → ((T.ok (T.sl (T.sl (T.int IntKind.i64))) s2.2.1) → (cnd (decide (s2.1.2.1 < (((List.length (homR m.1 m.2.1 s.1.2.1)) : Nat) : Int))) (((0 : Int) ≤ s1.1.2.1) ∧ ((s1.1.2.1 < (((List.length (homR m.1 (List.getD (List.getD m.2.2.1 (Int.toNat s.1.2.1) ([] : List Int)) (Int.toNat s.1.2.1) (0 : Int)) s.1.2.1)) : Nat) : Int)) ∧ (((0 : Int) ≤ s2.1.2.1) ∧ ((s2.1.2.1 < (((List.length (homR m.1 m.2.1 s.1.2.1)) : Nat) : Int)) ∧ ((MonP m) ∧ (((0 : Int) ≤ s.1.2.1) ∧ ((s.1.2.1 < m.1.1) ∧ (((0 : Int) ≤ (List.getD (homR m.1 (List.getD (List.getD m.2.2.1 (Int.toNat s.1.2.1) ([] : List Int)) (Int.toNat s.1.2.1) (0 : Int)) s.1.2.1) (Int.toNat s1.1.2.1) (0 : Int))) ∧ (((List.getD (homR m.1 (List.getD (List.getD m.2.2.1 (Int.toNat s.1.2.1) ([] : List Int)) (Int.toNat s.1.2.1) (0 : Int)) s.1.2.1) (Int.toNat s1.1.2.1) (0 : Int)) < (((List.length m.1.2.1) : Nat) : Int)) ∧ (((0 : Int) ≤ (List.getD (homR m.1 m.2.1 s.1.2.1) (Int.toNat s2.1.2.1) (0 : Int))) ∧ (((List.getD (homR m.1 m.2.1 s.1.2.1) (Int.toNat s2.1.2.1) (0 : Int)) < (((List.length m.1.2.1) : Nat) : Int)) ∧ (joinW (S := ((Unit × Unit) × ((List (List Int)) × Unit))) (fun s3 => ((T.ok (T.sl (T.sl (T.int IntKind.i64))) s3.2.1) → ((inK IntKind.i64 (s2.1.2.1 + (1 : Int))) ∧ (next2 (((), ((s2.1.2.1 + (1 : Int)), ())), (s3.2.1, ())))))) (fun k => (cnd (mobR m s.1.2.1 (List.getD (homR m.1 (List.getD (List.getD m.2.2.1 (Int.toNat s.1.2.1) ([] : List Int)) (Int.toNat s.1.2.1) (0 : Int)) s.1.2.1) (Int.toNat s1.1.2.1) (0 : Int)) (List.getD (homR m.1 m.2.1 s.1.2.1) (Int.toNat s2.1.2.1) (0 : Int))) (((0 : Int) ≤ s1.1.2.1) ∧ ((s1.1.2.1 < (((List.length (homR m.1 (List.getD (List.getD m.2.2.1 (Int.toNat s.1.2.1) ([] : List Int)) (Int.toNat s.1.2.1) (0 : Int)) s.1.2.1)) : Nat) : Int)) ∧ (((0 : Int) ≤ s2.1.2.1) ∧ ((s2.1.2.1 < (((List.length (homR m.1 m.2.1 s.1.2.1)) : Nat) : Int)) ∧ ((room (List.length s2.2.1) (List.length ((s.1.2.1 :: ((List.getD (homR m.1 (List.getD (List.getD m.2.2.1 (Int.toNat s.1.2.1) ([] : List Int)) (Int.toNat s.1.2.1) (0 : Int)) s.1.2.1) (Int.toNat s1.1.2.1) (0 : Int)) :: ((List.getD (homR m.1 m.2.1 s.1.2.1) (Int.toNat s2.1.2.1) (0 : Int)) :: ([] : List Int)))) :: ([] : List (List Int)))) 24) ∧ (k (((), ()), ((s2.2.1 ++ ((s.1.2.1 :: ((List.getD (homR m.1 (List.getD (List.getD m.2.2.1 (Int.toNat s.1.2.1) ([] : List Int)) (Int.toNat s.1.2.1) (0 : Int)) s.1.2.1) (Int.toNat s1.1.2.1) (0 : Int)) :: ((List.getD (homR m.1 m.2.1 s.1.2.1) (Int.toNat s2.1.2.1) (0 : Int)) :: ([] : List Int)))) :: ([] : List (List Int)))), ())))))))) (k (((), ()), (s2.2.1, ()))))))))))))))))) ((inK IntKind.i64 (s1.1.2.1 + (1 : Int))) ∧ (next1 (((), ((s1.1.2.1 + (1 : Int)), ())), (s2.2.1, ()))))))))) (((), ((0 : Int), ())), (s1.2.1, ()))) ((inK IntKind.i64 (s.1.2.1 + (1 : Int))) ∧ (next (((), ((s.1.2.1 + (1 : Int)), ())), (s1.2.1, ()))))))))) (((), ((0 : Int), ())), (s.2.1, ()))))))))))) (K (s.2.1, ((0 : Int), ())))))))) (((), ((0 : Int), ())), (([] : List (List Int)), ()))))
theorem w_spec_AllMonoidObjects (x : denL c_spec_AllMonoidObjects.args) (K : (List (List Int)) × Int × Unit → Prop) : evF tab (lkp [(86, c_spec_l02Hom), (85, c_spec_l35Is), (87, c_spec_l35Object)]) (cutL [(7, 20), (14, 11), (15, 12)]) Try.f43 (bodyOf Try.f43) (.s .n (.s .n (.s .n (.s (.s .n (.l [(4, (.ref 800004 [])), (5, (.d (.int .i64)))] [(800004, (.sl (.fz (.sl (.int .i64)))))] [1] (.s .n (.s (.s .n (.s .n (.l [(4, (.ref 800004 [])), (8, (.d (.int .i64)))] [(800004, (.sl (.fz (.sl (.int .i64)))))] [1, 5, 6, 7] (.s .n (.s (.s .n (.l [(4, (.ref 800004 [])), (9, (.d (.int .i64)))] [(800004, (.sl (.fz (.sl (.int .i64)))))] [1, 5, 6, 7, 8] (.s .n (.s (.s .n (.j [(4, (.ref 800004 []))] [(800004, (.sl (.fz (.sl (.int .i64)))))] [1, 5, 6, 7, 8, 9] .n)) .n)))) .n))))) .n)))) .n)))) c_spec_AllMonoidObjects x K = W_spec_AllMonoidObjects x.1 K := by kernel_rfl
theorem k_spec_AllMonoidObjects : okC Try.f43.ntmps (cutL [(7, 20), (14, 11), (15, 12)]) (bodyOf Try.f43) = true := by kernel_rfl
theorem m_spec_AllMonoidObjects (m : MonoidalD) (hok : allP (okL c_spec_AllMonoidObjects.args (m, ()))) (hpre : allP (c_spec_AllMonoidObjects.pre (m, ()))) : W_spec_AllMonoidObjects m (fun r => r = c_spec_AllMonoidObjects.res (m, ())) := by
  simp only [c_spec_AllMonoidObjects, okL, T.oks, T.ok, ap, allP, true_and, and_true, implies_true] at hok hpre
  try dsimp only [T.den] at hok
  try dsimp only [T.den] at hpre
  unfold W_spec_AllMonoidObjects
  refine cnd_of (fun hc => ?_) (fun hc => ?_)
  · simp only [c_spec_AllMonoidObjects, amoR]; rw [if_neg (by simpa using hc)]
  have hm : monR m = true := by simpa using hc
  have P := mon_iff.1 hm
  have S := cat_shape P.cat
  have hlt := S.lt
  have hmm := S.m
  obtain ⟨ob0, ob1⟩ := S.ob
  have O := tab_at P.ot
  clear hok
  have at2 : ∀ i j : Int, (m.2.2.1.getD i.toNat []).getD j.toNat 0 = atR m.2.2.1 i j := fun _ _ => rfl
  simp only [at2]
  refine loop_catB m.1.1 ob0 (amoX m) [] 1600 (fun x _ _ => amoX_le S x) ?_ ?_
  · intro x out next x0 x1 hol hn _ _
    try dsimp only at hn ⊢
    have O2 := O.2.1 x x0 x1
    refine cnd_d (fun _ => ?_) (fun h => absurd x1 h)
    have hll := hom_len S (atR m.2.2.1 x x) x
    have hat := @hom_at m.1 (atR m.2.2.1 x x) x
    have hX := amoX_le S x
    unfold amoX at hn hol hX
    (repeat' (with_reducible apply And.intro)) <;> (first | omega | assumption | (intro _; (repeat' (with_reducible apply And.intro)) <;> first | omega | assumption) | (rw [inK64]; (try dsimp only); omega) | skip)
    generalize homR m.1 (atR m.2.2.1 x x) x = muls at *
    refine loop_cat muls 0 (amoU m x) out 40 (fun mul _ => amoU_le S x mul) ?_ ?_
    · intro i out2 next2 i0 i1 hol2 hn2 _ _
      try dsimp only at hn2 ⊢
      obtain ⟨u0, u1, _⟩ := hat i0 i1
      generalize muls.getD i.toNat 0 = mul at *
      have hll2 := hom_len S m.2.1 x
      have hat2 := @hom_at m.1 m.2.1 x
      have hU := amoU_le S x mul
      unfold amoU at hn2 hol2 hU
      generalize homR m.1 m.2.1 x = uns at *
      refine cnd_d (fun _ => ?_) (fun h => absurd i1 h)
      (repeat' (with_reducible apply And.intro)) <;> (first | omega | assumption | (intro _; (repeat' (with_reducible apply And.intro)) <;> first | omega | assumption) | (rw [inK64]; (try dsimp only); omega) | skip)
      refine loop_cat uns 0 (amoI m x mul) out2 1 (fun un _ => amoI_le m x mul un) ?_ ?_
      · intro j out3 next3 j0 j1 hol3 hn3 _ _
        try dsimp only at hn3 ⊢
        obtain ⟨v0, v1, _⟩ := hat2 j0 j1
        generalize uns.getD j.toNat 0 = un at *
        unfold amoI at hn3
        refine cnd_d (fun _ => ?_) (fun h => absurd j1 h)
        simp only [List.length_nil, Int.toNat_natCast] at hol
        (repeat' (with_reducible apply And.intro)) <;> (first | omega | assumption | (intro _; (repeat' (with_reducible apply And.intro)) <;> first | omega | assumption) | (rw [inK64]; (try dsimp only); omega) | skip)
        refine join_add _ (fun s hs _ => ⟨by rw [inK64]; (try dsimp only); omega, (congrArg (fun q => next3 (((), (j + 1, ())), (q, ()))) hs).mpr hn3⟩) (fun k hk => cnd_of (fun he => ?_) (fun he => hk _ (by rw [if_neg (by rw [he]; simp), List.append_nil])))
        (repeat' (with_reducible apply And.intro)) <;> (first | omega | assumption | (intro _; (repeat' (with_reducible apply And.intro)) <;> first | omega | assumption) | (rw [inK64]; (try dsimp only); omega) | skip)
        · exact room_of (by simp only [List.length_cons, List.length_nil]; omega)
        · exact hk _ (by rw [if_pos he])
      · intro next3 _ _
        exact cnd_d (fun h => absurd h (by dsimp only; omega)) (fun _ => ⟨by rw [inK64]; (try dsimp only); omega, hn2⟩)
    · intro next2 _ _
      exact cnd_d (fun h => absurd h (by dsimp only; omega)) (fun _ => ⟨by rw [inK64]; (try dsimp only); omega, hn⟩)
  · intro next _ _
    refine cnd_d (fun h => absurd h (by dsimp only; omega)) (fun _ => ?_)
    simp only [c_spec_AllMonoidObjects, amoR]
    rw [if_pos hm, List.nil_append]; rfl
theorem ct_spec_AllMonoidObjects : CtOk Try.prog 43 c_spec_AllMonoidObjects :=
  ct_by (Φ := lkp [(86, c_spec_l02Hom), (85, c_spec_l35Is), (87, c_spec_l35Object)]) (good_cons ct_spec_l02Hom (good_cons ct_spec_l35Is (good_cons ct_spec_l35Object good_nil))) tab_ok (by kernel_rfl) (fn := Try.f43) (c := bodyOf Try.f43) (by kernel_rfl) (by kernel_rfl) (by kernel_rfl) c_spec_AllMonoidObjects rfl (.s .n (.s .n (.s .n (.s (.s .n (.l [(4, (.ref 800004 [])), (5, (.d (.int .i64)))] [(800004, (.sl (.fz (.sl (.int .i64)))))] [1] (.s .n (.s (.s .n (.s .n (.l [(4, (.ref 800004 [])), (8, (.d (.int .i64)))] [(800004, (.sl (.fz (.sl (.int .i64)))))] [1, 5, 6, 7] (.s .n (.s (.s .n (.l [(4, (.ref 800004 [])), (9, (.d (.int .i64)))] [(800004, (.sl (.fz (.sl (.int .i64)))))] [1, 5, 6, 7, 8] (.s .n (.s (.s .n (.j [(4, (.ref 800004 []))] [(800004, (.sl (.fz (.sl (.int .i64)))))] [1, 5, 6, 7, 8, 9] .n)) .n)))) .n))))) .n)))) .n)))) (cutL [(7, 20), (14, 11), (15, 12)]) (by kernel_rfl) (by kernel_rfl) k_spec_AllMonoidObjects (by decide) (fun x K => W_spec_AllMonoidObjects x.1 K) w_spec_AllMonoidObjects (fun x h1 h2 => m_spec_AllMonoidObjects x.1 h1 h2)
def c_laws_FnExactAllMonoidObjects : Ct := ⟨[MonoidalT], [true], fun x => [], [(false, (.fz .bool))], fun x => (true, ()), false, none⟩
def W_laws_FnExactAllMonoidObjects (aM : MonoidalD) (K : Bool × Unit → Prop) : Prop := (((-(4611404543450677248 : Int)) ≤ (1048576 : Int)) ∧ (cnd (decide ((szR (wR MonoidalT aM) (1048576 : Int)) < (0 : Int))) (K (Bool.true, ())) (((wR MonoidalT aM) ≤ 1099511627776) ∧ (((wR MonoidalT aM) ≤ 1099511627776) ∧ (cnd ((!(eqR (T.sl (T.sl (T.int IntKind.i64))) (amoR aM).1 (amoR aM).1)) || ((amoR aM).2 != (amoR aM).2)) (K (Bool.false, ())) (((wR MonoidalT aM) ≤ 1099511627776) ∧ (cnd (!(eqR MonoidalT aM aM)) (K (Bool.false, ())) (((0 : Int) ≤ (1 : Int)) ∧ ((((1 : Int) + (((ctR MonoidalT aM) : Nat) : Int)) ≤ (4611686018427387904 : Int)) ∧ (cnd (((decide ((mtR MonoidalT aM (1 : Int)).2 < (0 : Int))) || (!(eqR (T.sl (T.sl (T.int IntKind.i64))) (amoR aM).1 (amoR aM).1))) || ((amoR aM).2 != (amoR aM).2)) (K (Bool.false, ())) (((0 : Int) ≤ (1 : Int)) ∧ ((((1 : Int) + (((ckR (T.sl (T.sl (T.int IntKind.i64))) (amoR aM).1) : Nat) : Int)) ≤ (4611686018427387904 : Int)) ∧ (((0 : Int) ≤ (1 : Int)) ∧ ((((1 : Int) + (((ckR (T.sl (T.sl (T.int IntKind.i64))) (mkR (T.sl (T.sl (T.int IntKind.i64))) (amoR aM).1 (1 : Int)).1) : Nat) : Int)) ≤ (4611686018427387904 : Int)) ∧ (cnd (decide ((hdR (T.sl (T.sl (T.int IntKind.i64))) (mkR (T.sl (T.sl (T.int IntKind.i64))) (amoR aM).1 (1 : Int)).1 (1 : Int)) < (0 : Int))) (K (Bool.false, ())) (cnd ((hdR (T.sl (T.sl (T.int IntKind.i64))) (mkR (T.sl (T.sl (T.int IntKind.i64))) (amoR aM).1 (1 : Int)).1 (1 : Int)) != (mkR (T.sl (T.sl (T.int IntKind.i64))) (amoR aM).1 (1 : Int)).2) (K (Bool.false, ())) (((wR MonoidalT aM) ≤ 1099511627776) ∧ (cnd ((!(eqR (T.sl (T.sl (T.int IntKind.i64))) (amoR aM).1 (amoR aM).1)) || ((amoR aM).2 != (amoR aM).2)) (K (Bool.false, ())) (((0 : Int) ≤ (1 : Int)) ∧ ((((1 : Int) + (((ckR (T.sl (T.sl (T.int IntKind.i64))) (mkR (T.sl (T.sl (T.int IntKind.i64))) (amoR aM).1 (1 : Int)).1) : Nat) : Int)) ≤ (4611686018427387904 : Int)) ∧ (cnd (decide ((hdR (T.sl (T.sl (T.int IntKind.i64))) (mkR (T.sl (T.sl (T.int IntKind.i64))) (amoR aM).1 (1 : Int)).1 (1 : Int)) < (0 : Int))) (K (Bool.false, ())) (cnd ((hdR (T.sl (T.sl (T.int IntKind.i64))) (mkR (T.sl (T.sl (T.int IntKind.i64))) (amoR aM).1 (1 : Int)).1 (1 : Int)) != (mkR (T.sl (T.sl (T.int IntKind.i64))) (amoR aM).1 (1 : Int)).2) (K (Bool.false, ())) (K (Bool.true, ()))))))))))))))))))))))))
theorem w_laws_FnExactAllMonoidObjects (x : denL c_laws_FnExactAllMonoidObjects.args) (K : Bool × Unit → Prop) : evF tab (lkp [(44, c_impl_AllMonoidObjects), (38, c_laws_eqInt64SS), (37, c_laws_eqMonoidal), (47, c_laws_heldInt64SS), (46, c_laws_markInt64SS), (45, c_laws_markMonoidal), (31, c_laws_szMonoidal), (34, c_laws_toMonoidal), (43, c_spec_AllMonoidObjects)]) (cutL [(10, 5)]) Try.f11 (bodyOf Try.f11) .n c_laws_FnExactAllMonoidObjects x K = W_laws_FnExactAllMonoidObjects x.1 K := by kernel_rfl
theorem k_laws_FnExactAllMonoidObjects : okC Try.f11.ntmps (cutL [(10, 5)]) (bodyOf Try.f11) = true := by kernel_rfl
theorem m_laws_FnExactAllMonoidObjects (aM : MonoidalD) (hok : allP (okL c_laws_FnExactAllMonoidObjects.args (aM, ()))) (hpre : allP (c_laws_FnExactAllMonoidObjects.pre (aM, ()))) : W_laws_FnExactAllMonoidObjects aM (fun r => r = c_laws_FnExactAllMonoidObjects.res (aM, ())) := by
  simp only [c_laws_FnExactAllMonoidObjects, okL, T.oks, T.ok, ap, allP, true_and, and_true, implies_true] at hok hpre
  try dsimp only [T.den] at hok
  try dsimp only [T.den] at hpre
  unfold W_laws_FnExactAllMonoidObjects
  have hg : ckR (.sl (.sl (.int .i64))) (amoR aM).1 ≤ 38400 := by
    unfold amoR
    split
    · rename_i h
      have h1 := amoL_le (cat_shape (mon_iff.1 h).cat)
      have h2 := ck_rows (k := .i64) (B := 3) (amoL aM) fun r hr => by rw [amoL_row hr]; exact Nat.le_refl _
      show ckR (.sl (.sl (.int .i64))) (amoL aM) ≤ 38400
      omega
    · simp [ckR]
  have e1 := ct_le MonoidalT (by decide) aM
  have e2 := @hd_mk1 (.sl (.sl (.int .i64))) (amoR aM).1 1
  simp only [Int.ofNat_one, Int.natCast_one] at e2
  simp only [eqR_self, mk_num, mt_num, ck_mk, e2, szR_neg]
  generalize wR MonoidalT aM = n1 at *
  generalize ctR MonoidalT aM = n2 at *
  generalize ckR (.sl (.sl (.int .i64))) (amoR aM).1 = n3 at *
  clear hok
  repeat' (first | rfl | (refine cnd_d (fun _ => rfl) (fun h => ?_)) | (refine cnd_of (fun h => absurd h (by first | (simp; done) | (simp; omega))) (fun _ => ?_)) | (refine ⟨by omega, ?_⟩))
theorem ct_laws_FnExactAllMonoidObjects : CtOk Try.prog 11 c_laws_FnExactAllMonoidObjects :=
  ct_by (Φ := lkp [(44, c_impl_AllMonoidObjects), (38, c_laws_eqInt64SS), (37, c_laws_eqMonoidal), (47, c_laws_heldInt64SS), (46, c_laws_markInt64SS), (45, c_laws_markMonoidal), (31, c_laws_szMonoidal), (34, c_laws_toMonoidal), (43, c_spec_AllMonoidObjects)]) (good_cons ct_impl_AllMonoidObjects (good_cons ct_laws_eqInt64SS (good_cons ct_laws_eqMonoidal (good_cons ct_laws_heldInt64SS (good_cons ct_laws_markInt64SS (good_cons ct_laws_markMonoidal (good_cons ct_laws_szMonoidal (good_cons ct_laws_toMonoidal (good_cons ct_spec_AllMonoidObjects good_nil))))))))) tab_ok (by kernel_rfl) (fn := Try.f11) (c := bodyOf Try.f11) (by kernel_rfl) (by kernel_rfl) (by kernel_rfl) c_laws_FnExactAllMonoidObjects rfl .n (cutL [(10, 5)]) (by kernel_rfl) (by kernel_rfl) k_laws_FnExactAllMonoidObjects (by decide) (fun x K => W_laws_FnExactAllMonoidObjects x.1 K) w_laws_FnExactAllMonoidObjects (fun x h1 h2 => m_laws_FnExactAllMonoidObjects x.1 h1 h2)
end Go.Bm
