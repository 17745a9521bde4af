/- What the functions that FnExactIsFinal reaches give: for each its contract, what it asks, and the proof. No condition. -/
import Derived.Test.YtjggbiglookngaaFnExactIsFinalFnsA
namespace Go.Bm
open Go.Proofs
set_option maxRecDepth 100000
set_option maxHeartbeats 1000000
set_option linter.unusedVariables false
set_option linter.unusedSimpArgs false
structure ObjP (f g : FunctorD) (l : List (List Int)) : Prop where
  n : l.length ≤ 2560
  e : ∀ r ∈ l, r.length = 3 ∧ 0 ≤ r.getD 2 0 ∧ r.getD 2 0 < f.2.1.2.1.length
def arr1R (f g : FunctorD) (s t : Int) (x y : List Int) (a b : Int) : List (List Int) := if compR f.2.1 (f.2.2.2.getD a.toNat 0) (y.getD 2 0) = compR f.2.1 (x.getD 2 0) (g.2.2.2.getD b.toNat 0) then [[s, t, a, b]] else []
def arr2R (f g : FunctorD) (s t : Int) (x y : List Int) (a : Int) : List (List Int) := (homR g.1 (x.getD 1 0) (y.getD 1 0)).flatMap (arr1R f g s t x y a)
def arr3R (f g : FunctorD) (s t : Int) (x y : List Int) : List (List Int) := (homR f.1 (x.getD 0 0) (y.getD 0 0)).flatMap (arr2R f g s t x y)
def arr4R (f g : FunctorD) (l : List (List Int)) (s t : Int) : List (List Int) := arr3R f g s t (l.getD s.toNat []) (l.getD t.toNat [])
def arr5R (f g : FunctorD) (l : List (List Int)) (s : Int) : List (List Int) := (tabN l.length (arr4R f g l s)).flatten
def arrsR (f g : FunctorD) (l : List (List Int)) : List (List Int) := (tabN l.length (arr5R f g l)).flatten
theorem arr1_len {f g : FunctorD} {s t a b : Int} {x y : List Int} : (arr1R f g s t x y a b).length ≤ 1 := by unfold arr1R; split <;> simp
theorem arr2_len {f g : FunctorD} (G : ShapeP g.1) {s t a : Int} {x y : List Int} : (arr2R f g s t x y a).length ≤ 40 := by
  have h1 := @hom_len _ G (x.getD 1 0) (y.getD 1 0)
  have h2 := @flatMap_le _ _ 1 (arr1R f g s t x y a) (homR g.1 (x.getD 1 0) (y.getD 1 0)) fun _ _ => arr1_len
  unfold arr2R; omega
theorem arr3_len {f g : FunctorD} (F : ShapeP f.1) (G : ShapeP g.1) {s t : Int} {x y : List Int} : (arr3R f g s t x y).length ≤ 1600 := by
  have h1 := @hom_len _ F (x.getD 0 0) (y.getD 0 0)
  have h2 := @flatMap_le _ _ 40 (arr2R f g s t x y) (homR f.1 (x.getD 0 0) (y.getD 0 0)) fun _ _ => arr2_len G
  unfold arr3R; omega
theorem arr5_len {f g : FunctorD} (F : ShapeP f.1) (G : ShapeP g.1) {l : List (List Int)} (hl : l.length ≤ 2560) {s : Int} : (arr5R f g l s).length ≤ 4096000 := by
  have h2 := @flat_le _ 1600 (tabN l.length (arr4R f g l s)) fun q hq => by
    obtain ⟨j, _, _, rfl⟩ := tabN_mem.1 hq; exact arr3_len F G
  rw [tabN_len] at h2
  unfold arr5R; omega
theorem arrs_len {f g : FunctorD} (F : ShapeP f.1) (G : ShapeP g.1) {l : List (List Int)} (hl : l.length ≤ 2560) : (arrsR f g l).length ≤ 10485760000 := by
  have h2 := @flat_le _ 4096000 (tabN l.length (arr5R f g l)) fun q hq => by
    obtain ⟨j, _, _, rfl⟩ := tabN_mem.1 hq; exact arr5_len F G hl
  rw [tabN_len] at h2
  unfold arrsR; omega

def c_spec_l09Arrows : Ct := ⟨[FunctorT, FunctorT, (.sl (.sl (.int .i64)))], [true, true, false], fun x => [FitP2 x.1, FitP2 x.2.1, x.1.2.1 = x.2.1.2.1, ObjP x.1 x.2.1 x.2.2.1], [(false, (.sl (.sl (.fz (.int .i64)))))], fun x => (arrsR x.1 x.2.1 x.2.2.1, ()), false, none⟩
def W_spec_l09Arrows (f : FunctorD) (g : FunctorD) (objects : List (List Int)) (K : (List (List Int)) × Unit → Prop) : Prop := (loopW (S := ((Unit × (Int × Unit)) × ((List (List Int)) × Unit))) (fun s => (fun next => ((inK IntKind.i64 s.1.2.1) → ((T.ok (T.sl (T.sl (T.int IntKind.i64))) s.2.1) → (cnd (decide (s.1.2.1 < (((List.length objects) : Nat) : Int))) (loopW (S := ((Unit × (Int × Unit)) × ((List (List Int)) × Unit))) (fun s1 => (fun next1 => ((inK IntKind.i64 s1.1.2.1) → ((T.ok (T.sl (T.sl (T.int IntKind.i64))) s1.2.1) → (cnd (decide (s1.1.2.1 < (((List.length objects) : Nat) : Int))) (((0 : Int) ≤ s.1.2.1) ∧ ((s.1.2.1 < (((List.length objects) : Nat) : Int)) ∧ (((0 : Int) ≤ s1.1.2.1) ∧ ((s1.1.2.1 < (((List.length objects) : Nat) : Int)) ∧ (((0 : Int) ≤ (0 : Int)) ∧ (((0 : Int) < (((List.length (List.getD objects (Int.toNat s.1.2.1) ([] : List Int))) : Nat) : Int)) ∧ (((0 : Int) ≤ (0 : Int)) ∧ (((0 : Int) < (((List.length (List.getD objects (Int.toNat s1.1.2.1) ([] : List Int))) : Nat) : Int)) ∧ (((List.length f.1.2.1) ≤ 40) ∧ (((List.length f.1.2.2.1) = (List.length f.1.2.1)) ∧ (((0 : Int) ≤ (1 : Int)) ∧ (((1 : Int) < (((List.length (List.getD objects (Int.toNat s.1.2.1) ([] : List Int))) : Nat) : Int)) ∧ (((0 : Int) ≤ (1 : Int)) ∧ (((1 : Int) < (((List.length (List.getD objects (Int.toNat s1.1.2.1) ([] : List Int))) : Nat) : Int)) ∧ (((List.length g.1.2.1) ≤ 40) ∧ (((List.length g.1.2.2.1) = (List.length g.1.2.1)) ∧ (loopW (S := ((Unit × (Int × Unit)) × ((List (List Int)) × Unit))) (fun s2 => (fun next2 => ((inK IntKind.i64 s2.1.2.1) → ((T.ok (T.sl (T.sl (T.int IntKind.i64))) s2.2.1) → (cnd (decide (s2.1.2.1 < (((List.length (homR f.1 (List.getD (List.getD objects (Int.toNat s.1.2.1) ([] : List Int)) (Int.toNat (0 : Int)) (0 : Int)) (List.getD (List.getD objects (Int.toNat s1.1.2.1) ([] : List Int)) (Int.toNat (0 : Int)) (0 : Int)))) : Nat) : Int))) (loopW (S := ((Unit × (Int × Unit)) × ((List (List Int)) × Unit))) (fun s3 => (fun next3 => ((inK IntKind.i64 s3.1.2.1) → ((T.ok (T.sl (T.sl (T.int IntKind.i64))) s3.2.1) → (cnd (decide (s3.1.2.1 < (((List.length (homR g.1 (List.getD (List.getD objects (Int.toNat s.1.2.1) ([] : List Int)) (Int.toNat (1 : Int)) (0 : Int)) (List.getD (List.getD objects (Int.toNat s1.1.2.1) ([] : List Int)) (Int.toNat (1 : Int)) (0 : Int)))) : Nat) : Int))) (((0 : Int) ≤ s2.1.2.1) ∧ ((s2.1.2.1 < (((List.length (homR f.1 (List.getD (List.getD objects (Int.toNat s.1.2.1) ([] : List Int)) (Int.toNat (0 : Int)) (0 : Int)) (List.getD (List.getD objects (Int.toNat s1.1.2.1) ([] : List Int)) (Int.toNat (0 : Int)) (0 : Int)))) : Nat) : Int)) ∧ (((0 : Int) ≤ (List.getD (homR f.1 (List.getD (List.getD objects (Int.toNat s.1.2.1) ([] : List Int)) (Int.toNat (0 : Int)) (0 : Int)) (List.getD (List.getD objects (Int.toNat s1.1.2.1) ([] : List Int)) (Int.toNat (0 : Int)) (0 : Int))) (Int.toNat s2.1.2.1) (0 : Int))) ∧ (((List.getD (homR f.1 (List.getD (List.getD objects (Int.toNat s.1.2.1) ([] : List Int)) (Int.toNat (0 : Int)) (0 : Int)) (List.getD (List.getD objects (Int.toNat s1.1.2.1) ([] : List Int)) (Int.toNat (0 : Int)) (0 : Int))) (Int.toNat s2.1.2.1) (0 : Int)) < (((List.length f.2.2.2) : Nat) : Int)) ∧ (((0 : Int) ≤ (2 : Int)) ∧ (((2 : Int) < (((List.length (List.getD objects (Int.toNat s1.1.2.1) ([] : List Int))) : Nat) : Int)) ∧ (((0 : Int) ≤ (List.getD f.2.2.2 (Int.toNat (List.getD (homR f.1 (List.getD (List.getD objects (Int.toNat s.1.2.1) ([] : List Int)) (Int.toNat (0 : Int)) (0 : Int)) (List.getD (List.getD objects (Int.toNat s1.1.2.1) ([] : List Int)) (Int.toNat (0 : Int)) (0 : Int))) (Int.toNat s2.1.2.1) (0 : Int))) (0 : Int))) ∧ (((List.getD f.2.2.2 (Int.toNat (List.getD (homR f.1 (List.getD (List.getD objects (Int.toNat s.1.2.1) ([] : List Int)) (Int.toNat (0 : Int)) (0 : Int)) (List.getD (List.getD objects (Int.toNat s1.1.2.1) ([] : List Int)) (Int.toNat (0 : Int)) (0 : Int))) (Int.toNat s2.1.2.1) (0 : Int))) (0 : Int)) < (((List.length f.2.1.2.2.2.2) : Nat) : Int)) ∧ (((0 : Int) ≤ (List.getD (List.getD objects (Int.toNat s1.1.2.1) ([] : List Int)) (Int.toNat (2 : Int)) (0 : Int))) ∧ (((List.getD (List.getD objects (Int.toNat s1.1.2.1) ([] : List Int)) (Int.toNat (2 : Int)) (0 : Int)) < (((List.length (List.getD f.2.1.2.2.2.2 (Int.toNat (List.getD f.2.2.2 (Int.toNat (List.getD (homR f.1 (List.getD (List.getD objects (Int.toNat s.1.2.1) ([] : List Int)) (Int.toNat (0 : Int)) (0 : Int)) (List.getD (List.getD objects (Int.toNat s1.1.2.1) ([] : List Int)) (Int.toNat (0 : Int)) (0 : Int))) (Int.toNat s2.1.2.1) (0 : Int))) (0 : Int))) ([] : List Int))) : Nat) : Int)) ∧ (((0 : Int) ≤ (2 : Int)) ∧ (((2 : Int) < (((List.length (List.getD objects (Int.toNat s.1.2.1) ([] : List Int))) : Nat) : Int)) ∧ (((0 : Int) ≤ s3.1.2.1) ∧ ((s3.1.2.1 < (((List.length (homR g.1 (List.getD (List.getD objects (Int.toNat s.1.2.1) ([] : List Int)) (Int.toNat (1 : Int)) (0 : Int)) (List.getD (List.getD objects (Int.toNat s1.1.2.1) ([] : List Int)) (Int.toNat (1 : Int)) (0 : Int)))) : Nat) : Int)) ∧ (((0 : Int) ≤ (List.getD (homR g.1 (List.getD (List.getD objects (Int.toNat s.1.2.1) ([] : List Int)) (Int.toNat (1 : Int)) (0 : Int)) (List.getD (List.getD objects (Int.toNat s1.1.2.1) ([] : List Int)) (Int.toNat (1 : Int)) (0 : Int))) (Int.toNat s3.1.2.1) (0 : Int))) ∧ (((List.getD (homR g.1 (List.getD (List.getD objects (Int.toNat s.1.2.1) ([] : List Int)) (Int.toNat (1 : Int)) (0 : Int)) (List.getD (List.getD objects (Int.toNat s1.1.2.1) ([] : List Int)) (Int.toNat (1 : Int)) (0 : Int))) (Int.toNat s3.1.2.1) (0 : Int)) < (((List.length g.2.2.2) : Nat) : Int)) ∧ (((0 : Int) ≤ (List.getD (List.getD objects (Int.toNat s.1.2.1) ([] : List Int)) (Int.toNat (2 : Int)) (0 : Int))) ∧ (((List.getD (List.getD objects (Int.toNat s.1.2.1) ([] : List Int)) (Int.toNat (2 : Int)) (0 : Int)) < (((List.length f.2.1.2.2.2.2) : Nat) : Int)) ∧ (((0 : Int) ≤ (List.getD g.2.2.2 (Int.toNat (List.getD (homR g.1 (List.getD (List.getD objects (Int.toNat s.1.2.1) ([] : List Int)) (Int.toNat (1 : Int)) (0 : Int)) (List.getD (List.getD objects (Int.toNat s1.1.2.1) ([] : List Int)) (Int.toNat (1 : Int)) (0 : Int))) (Int.toNat s3.1.2.1) (0 : Int))) (0 : Int))) ∧ (((List.getD g.2.2.2 (Int.toNat (List.getD (homR g.1 (List.getD (List.getD objects (Int.toNat s.1.2.1) ([] : List Int)) (Int.toNat (1 : Int)) (0 : Int)) (List.getD (List.getD objects (Int.toNat s1.1.2.1) ([] : List Int)) (Int.toNat (1 : Int)) (0 : Int))) (Int.toNat s3.1.2.1) (0 : Int))) (0 : Int)) < (((List.length (List.getD f.2.1.2.2.2.2 (Int.toNat (List.getD (List.getD objects (Int.toNat s.1.2.1) ([] : List Int)) (Int.toNat (2 : Int)) (0 : Int))) ([] : List Int))) : Nat) : Int)) ∧ (joinW (S := ((Unit × Unit) × ((List (List Int)) × Unit))) (fun s4 => ((T.ok (T.sl (T.sl (T.int IntKind.i64))) s4.2.1) → ((inK IntKind.i64 (s3.1.2.1 + (1 : Int))) ∧ (next3 (((), ((s3.1.2.1 + (1 : Int)), ())), (s4.2.1, ())))))) (fun k => (cnd ((compR f.2.1 (List.getD f.2.2.2 (Int.toNat (List.getD (homR f.1 (List.getD (List.getD objects (Int.toNat s.1.2.1) ([] : List Int)) (Int.toNat (0 : Int)) (0 : Int)) (List.getD (List.getD objects (Int.toNat s1.1.2.1) ([] : List Int)) (Int.toNat (0 : Int)) (0 : Int))) (Int.toNat s2.1.2.1) (0 : Int))) (0 : Int)) (List.getD (List.getD objects (Int.toNat s1.1.2.1) ([] : List Int)) (Int.toNat (2 : Int)) (0 : Int))) == (compR f.2.1 (List.getD (List.getD objects (Int.toNat s.1.2.1) ([] : List Int)) (Int.toNat (2 : Int)) (0 : Int)) (List.getD g.2.2.2 (Int.toNat (List.getD (homR g.1 (List.getD (List.getD objects (Int.toNat s.1.2.1) ([] : List Int)) (Int.toNat (1 : Int)) (0 : Int)) (List.getD (List.getD objects (Int.toNat s1.1.2.1) ([] : List Int)) (Int.toNat (1 : Int)) (0 : Int))) (Int.toNat s3.1.2.1) (0 : Int))) (0 : Int)))) (((0 : Int) ≤ s2.1.2.1) ∧ ((s2.1.2.1 < (((List.length (homR f.1 (List.getD (List.getD objects (Int.toNat s.1.2.1) ([] : List Int)) (Int.toNat (0 : Int)) (0 : Int)) (List.getD (List.getD objects (Int.toNat s1.1.2.1) ([] : List Int)) (Int.toNat (0 : Int)) (0 : Int)))) : Nat) : Int)) ∧ (((0 : Int) ≤ s3.1.2.1) ∧ ((s3.1.2.1 < (((List.length (homR g.1 (List.getD (List.getD objects (Int.toNat s.1.2.1) ([] : List Int)) (Int.toNat (1 : Int)) (0 : Int)) (List.getD (List.getD objects (Int.toNat s1.1.2.1) ([] : List Int)) (Int.toNat (1 : Int)) (0 : Int)))) : Nat) : Int)) ∧ ((room (List.length s3.2.1) (List.length ((s.1.2.1 :: (s1.1.2.1 :: ((List.getD (homR f.1 (List.getD (List.getD objects (Int.toNat s.1.2.1) ([] : List Int)) (Int.toNat (0 : Int)) (0 : Int)) (List.getD (List.getD objects (Int.toNat s1.1.2.1) ([] : List Int)) (Int.toNat (0 : Int)) (0 : Int))) (Int.toNat s2.1.2.1) (0 : Int)) :: ((List.getD (homR g.1 (List.getD (List.getD objects (Int.toNat s.1.2.1) ([] : List Int)) (Int.toNat (1 : Int)) (0 : Int)) (List.getD (List.getD objects (Int.toNat s1.1.2.1) ([] : List Int)) (Int.toNat (1 : Int)) (0 : Int))) (Int.toNat s3.1.2.1) (0 : Int)) :: ([] : List Int))))) :: ([] : List (List Int)))) 24) ∧ (k (((), ()), ((s3.2.1 ++ ((s.1.2.1 :: (s1.1.2.1 :: ((List.getD (homR f.1 (List.getD (List.getD objects (Int.toNat s.1.2.1) ([] : List Int)) (Int.toNat (0 : Int)) (0 : Int)) (List.getD (List.getD objects (Int.toNat s1.1.2.1) ([] : List Int)) (Int.toNat (0 : Int)) (0 : Int))) (Int.toNat s2.1.2.1) (0 : Int)) :: ((List.getD (homR g.1 (List.getD (List.getD objects (Int.toNat s.1.2.1) ([] : List Int)) (Int.toNat (1 : Int)) (0 : Int)) (List.getD (List.getD objects (Int.toNat s1.1.2.1) ([] : List Int)) (Int.toNat (1 : Int)) (0 : Int))) (Int.toNat s3.1.2.1) (0 : Int)) :: ([] : List Int))))) :: ([] : List (List Int)))), ())))))))) (k (((), ()), (s3.2.1, ())))))))))))))))))))))))))) ((inK IntKind.i64 (s2.1.2.1 + (1 : Int))) ∧ (next2 (((), ((s2.1.2.1 + (1 : Int)), ())), (s3.2.1, ()))))))))) (((), ((0 : Int), ())), (s2.2.1, ()))) ((inK IntKind.i64 (s1.1.2.1 + (1 : Int))) ∧ (next1 (((), ((s1.1.2.1 + (1 : Int)), ())), (s2.2.1, ()))))))))) (((), ((0 : Int), ())), (s1.2.1, ()))))))))))))))))))) ((inK IntKind.i64 (s.1.2.1 + (1 : Int))) ∧ (next (((), ((s.1.2.1 + (1 : Int)), ())), (s1.2.1, ()))))))))) (((), ((0 : Int), ())), (s.2.1, ()))) (K (s.2.1, ()))))))) (((), ((0 : Int), ())), (([] : List (List Int)), ())))
theorem w_spec_l09Arrows (x : denL c_spec_l09Arrows.args) (K : (List (List Int)) × Unit → Prop) : evF tab (lkp [(128, c_spec_l02Hom), (82, c_spec_l02Then)]) (cutL [(16, 527), (17, 511), (8, 9), (9, 517)]) Try.f119 (bodyOf Try.f119) (.s .n (.s .n (.s (.s .n (.l [(7, (.ref 800007 [])), (8, (.d (.int .i64)))] [(800007, (.sl (.sl (.fz (.int .i64)))))] [2, 3, 4] (.s .n (.s (.s .n (.l [(7, (.ref 800007 [])), (9, (.d (.int .i64)))] [(800007, (.sl (.sl (.fz (.int .i64)))))] [2, 3, 4, 8] (.s .n (.s (.s .n (.s .n (.s .n (.l [(7, (.ref 800007 [])), (14, (.d (.int .i64)))] [(800007, (.sl (.sl (.fz (.int .i64)))))] [2, 3, 4, 8, 9, 10, 11, 12, 13] (.s .n (.s (.s .n (.l [(7, (.ref 800007 [])), (15, (.d (.int .i64)))] [(800007, (.sl (.sl (.fz (.int .i64)))))] [2, 3, 4, 8, 9, 10, 11, 12, 13, 14] (.s .n (.s (.s .n (.j [(7, (.ref 800007 []))] [(800007, (.sl (.sl (.fz (.int .i64)))))] [2, 3, 4, 8, 9, 10, 11, 12, 13, 14, 15] .n)) .n)))) .n)))))) .n)))) .n)))) .n))) c_spec_l09Arrows x K = W_spec_l09Arrows x.1 x.2.1 x.2.2.1 K := by kernel_rfl
theorem k_spec_l09Arrows : okC Try.f119.ntmps (cutL [(16, 527), (17, 511), (8, 9), (9, 517)]) (bodyOf Try.f119) = true := by kernel_rfl
theorem m_spec_l09Arrows (f : FunctorD) (g : FunctorD) (objects : List (List Int)) (hok : allP (okL c_spec_l09Arrows.args (f, g, objects, ()))) (hpre : allP (c_spec_l09Arrows.pre (f, g, objects, ()))) : W_spec_l09Arrows f g objects (fun r => r = c_spec_l09Arrows.res (f, g, objects, ())) := by
  simp only [c_spec_l09Arrows, okL, T.oks, T.ok, ap, allP, true_and, and_true, implies_true] at hok hpre
  try dsimp only [T.den] at hok
  try dsimp only [T.den] at hpre
  unfold W_spec_l09Arrows
  obtain ⟨F, G, hfg, hO⟩ := hpre
  clear hok
  have hon := hO.n
  have hoe := hO.e
  have h1 := F.src.m
  have h2 := F.src.lt
  have h3 := G.src.m
  have h4 := G.src.lt
  have h5 := F.tgt.lc
  have h6 := F.la
  have h7 := G.la
  refine loop_catB objects.length (by omega) (arr5R f g objects) [] 4096000 (fun a _ _ => arr5_len F.src G.src hon) ?_ ?_
  · intro s out next s0 s1 hb hn _ _
    try dsimp only at hn ⊢
    refine cnd_d (fun _ => ?_) (fun h => absurd s1 h)
    simp only [List.length_nil] at hb
    have hb1 : out.length ≤ 10485760000 := by omega
    clear hb
    have hx := hoe _ (getD_mem objects [] s0 s1)
    refine loop_catB objects.length (by omega) (arr4R f g objects s) out 1600 (fun b _ _ => arr3_len F.src G.src) ?_ ?_
    · intro t out2 next2 t0 t1 hb hn2 _ _
      try dsimp only at hn2 ⊢
      have hy := hoe _ (getD_mem objects [] t0 t1)
      have hb2 : out2.length ≤ 10489856000 := by omega
      clear hb
      refine cnd_d (fun _ => ⟨s0, s1, t0, t1, by decide, by omega, by decide, by omega, h1, h2, by decide, by omega, by decide, by omega, h3, h4, ?_⟩) (fun h => absurd t1 h)
      unfold arr4R at hn2
      generalize objects.getD s.toNat [] = x at *
      generalize objects.getD t.toNat [] = y at *
      have hz : (0 : Int).toNat = 0 := rfl
      have hz1 : (1 : Int).toNat = 1 := rfl
      have hz2 : (2 : Int).toNat = 2 := rfl
      simp only [hz, hz1, hz2]
      have hh := @hom_len _ F.src (x.getD 0 0) (y.getD 0 0)
      have hh2 := @hom_len _ G.src (x.getD 1 0) (y.getD 1 0)
      refine loop_cat (homR f.1 (x.getD 0 0) (y.getD 0 0)) 0 (arr2R f g s t x y) out2 40 (fun _ _ => arr2_len G.src) ?_ ?_
      · intro i out3 next3 i0 i1 hb hn3 _ _
        try dsimp only at hn3 ⊢
        have hb3 : out3.length ≤ 10489860000 := by omega
        clear hb
        obtain ⟨a0, a1, _, _⟩ := hom_mem.1 (getD_mem (homR f.1 (x.getD 0 0) (y.getD 0 0)) 0 i0 i1)
        refine cnd_d (fun _ => ?_) (fun h => absurd i1 h)
        generalize (homR f.1 (x.getD 0 0) (y.getD 0 0)).getD i.toNat 0 = a at *
        have ha := within_iff.1 F.aw a a0 (by omega)
        refine loop_cat (homR g.1 (x.getD 1 0) (y.getD 1 0)) 0 (arr1R f g s t x y a) out3 1 (fun _ _ => arr1_len) ?_ ?_
        · intro j out4 next4 j0 j1 hb hn4 _ _
          try dsimp only at hn4 ⊢
          have hb4 : out4.length ≤ 10489870000 := by omega
          clear hb
          obtain ⟨b0, b1, _, _⟩ := hom_mem.1 (getD_mem (homR g.1 (x.getD 1 0) (y.getD 1 0)) 0 j0 j1)
          refine cnd_d (fun _ => ?_) (fun h => absurd j1 h)
          generalize (homR g.1 (x.getD 1 0) (y.getD 1 0)).getD j.toNat 0 = b at *
          have hbw := within_iff.1 G.aw b b0 (by omega)
          rw [← hfg] at hbw
          have hr1 := F.tgt.row _ ha.1 ha.2
          have hr2 := F.tgt.row _ hx.2.1 hx.2.2
          refine ⟨i0, i1, a0, by omega, by decide, by omega, ha.1, by omega, hy.2.1, by omega, by decide, by omega, j0, j1, b0, by omega, hx.2.1, by omega, hbw.1, by omega, ?_⟩
          refine join_add (out4 ++ arr1R f g s t x y a b) (fun q hq _ => ⟨by rw [inK64]; (try dsimp only); omega, by rw [hq]; exact hn4⟩) (fun k hk => cnd_of (fun hc => ⟨i0, i1, j0, j1, room_of (by simp only [List.length_cons, List.length_nil]; omega), hk _ ?_⟩) (fun hc => hk _ ?_))
          · unfold arr1R; rw [if_pos (by simpa using hc)]
          · unfold arr1R; rw [if_neg (by simpa using hc), List.append_nil]
        · intro next4 _ _
          exact cnd_d (fun h => absurd h (Int.lt_irrefl _)) (fun _ => ⟨by rw [inK64]; (try dsimp only); omega, hn3⟩)
      · intro next3 _ _
        exact cnd_d (fun h => absurd h (Int.lt_irrefl _)) (fun _ => ⟨by rw [inK64]; (try dsimp only); omega, hn2⟩)
    · intro next2 _ _
      exact cnd_d (fun h => absurd h (Int.lt_irrefl _)) (fun _ => ⟨by rw [inK64]; (try dsimp only); omega, hn⟩)
  · intro next _ _
    refine cnd_d (fun h => absurd h (Int.lt_irrefl _)) (fun _ => ?_)
    simp only [c_spec_l09Arrows, arrsR, List.nil_append, Int.toNat_natCast]
theorem ct_spec_l09Arrows : CtOk Try.prog 119 c_spec_l09Arrows :=
  ct_by (Φ := lkp [(128, c_spec_l02Hom), (82, c_spec_l02Then)]) (good_cons ct_spec_l02Hom (good_cons ct_spec_l02Then good_nil)) tab_ok (by kernel_rfl) (fn := Try.f119) (c := bodyOf Try.f119) (by kernel_rfl) (by kernel_rfl) (by kernel_rfl) c_spec_l09Arrows rfl (.s .n (.s .n (.s (.s .n (.l [(7, (.ref 800007 [])), (8, (.d (.int .i64)))] [(800007, (.sl (.sl (.fz (.int .i64)))))] [2, 3, 4] (.s .n (.s (.s .n (.l [(7, (.ref 800007 [])), (9, (.d (.int .i64)))] [(800007, (.sl (.sl (.fz (.int .i64)))))] [2, 3, 4, 8] (.s .n (.s (.s .n (.s .n (.s .n (.l [(7, (.ref 800007 [])), (14, (.d (.int .i64)))] [(800007, (.sl (.sl (.fz (.int .i64)))))] [2, 3, 4, 8, 9, 10, 11, 12, 13] (.s .n (.s (.s .n (.l [(7, (.ref 800007 [])), (15, (.d (.int .i64)))] [(800007, (.sl (.sl (.fz (.int .i64)))))] [2, 3, 4, 8, 9, 10, 11, 12, 13, 14] (.s .n (.s (.s .n (.j [(7, (.ref 800007 []))] [(800007, (.sl (.sl (.fz (.int .i64)))))] [2, 3, 4, 8, 9, 10, 11, 12, 13, 14, 15] .n)) .n)))) .n)))))) .n)))) .n)))) .n))) (cutL [(16, 527), (17, 511), (8, 9), (9, 517)]) (by kernel_rfl) (by kernel_rfl) k_spec_l09Arrows (by decide) (fun x K => W_spec_l09Arrows x.1 x.2.1 x.2.2.1 K) w_spec_l09Arrows (fun x h1 h2 => m_spec_l09Arrows x.1 x.2.1 x.2.2.1 h1 h2)
def c_spec_l01Own : Ct := ⟨[(.sl (.int .i64))], [false], fun x => [x.1.length ≤ 1099511627776], [(false, (.sl (.fz (.int .i64))))], fun x => (x.1, ()), false, none⟩
def W_spec_l01Own (list : List Int) (K : (List Int) × Unit → Prop) : Prop := ((room 0 (List.length list) 8) ∧ (K (list, ())))
theorem w_spec_l01Own (x : denL c_spec_l01Own.args) (K : (List Int) × Unit → Prop) : evF tab (lkp []) (cutL []) Try.f92 (bodyOf Try.f92) .n c_spec_l01Own x K = W_spec_l01Own x.1 K := by kernel_rfl
theorem k_spec_l01Own : okC Try.f92.ntmps (cutL []) (bodyOf Try.f92) = true := by kernel_rfl
theorem m_spec_l01Own (list : List Int) (hok : allP (okL c_spec_l01Own.args (list, ()))) (hpre : allP (c_spec_l01Own.pre (list, ()))) : W_spec_l01Own list (fun r => r = c_spec_l01Own.res (list, ())) := by
  simp only [c_spec_l01Own, okL, T.oks, T.ok, ap, allP, true_and, and_true, implies_true] at hok hpre
  try dsimp only [T.den] at hok
  try dsimp only [T.den] at hpre
  unfold W_spec_l01Own
  have hl : list.length ≤ 1099511627776 := hpre
  exact ⟨room_of (by omega), rfl⟩
theorem ct_spec_l01Own : CtOk Try.prog 92 c_spec_l01Own :=
  ct_by (Φ := lkp []) good_nil tab_ok (by kernel_rfl) (fn := Try.f92) (c := bodyOf Try.f92) (by kernel_rfl) (by kernel_rfl) (by kernel_rfl) c_spec_l01Own rfl .n (cutL []) (by kernel_rfl) (by kernel_rfl) k_spec_l01Own (by decide) (fun x K => W_spec_l01Own x.1 K) w_spec_l01Own (fun x h1 h2 => m_spec_l01Own x.1 h1 h2)
structure OwnP (l : List (List Int)) : Prop where
  n : l.length ≤ 1099511627776
  e : ∀ r ∈ l, r.length ≤ 1099511627776

def c_spec_l01Own2 : Ct := ⟨[(.sl (.sl (.int .i64)))], [false], fun x => [OwnP x.1], [(false, (.sl (.sl (.fz (.int .i64)))))], fun x => (x.1, ()), false, none⟩
def W_spec_l01Own2 (lists : List (List Int)) (K : (List (List Int)) × Unit → Prop) : Prop := (loopW (S := ((Unit × (Int × Unit)) × ((List (List Int)) × Unit))) (fun s => (fun next => ((inK IntKind.i64 s.1.2.1) → ((T.ok (T.sl (T.sl (T.int IntKind.i64))) s.2.1) → (cnd (decide (s.1.2.1 < (((List.length lists) : Nat) : Int))) (((0 : Int) ≤ s.1.2.1) ∧ ((s.1.2.1 < (((List.length lists) : Nat) : Int)) ∧ (((List.length (List.getD lists (Int.toNat s.1.2.1) ([] : List Int))) ≤ 1099511627776) ∧ ((room (List.length s.2.1) (List.length ((List.getD lists (Int.toNat s.1.2.1) ([] : List Int)) :: ([] : List (List Int)))) 24) ∧ ((inK IntKind.i64 (s.1.2.1 + (1 : Int))) ∧ (next (((), ((s.1.2.1 + (1 : Int)), ())), ((s.2.1 ++ ((List.getD lists (Int.toNat s.1.2.1) ([] : List Int)) :: ([] : List (List Int)))), ())))))))) (K (s.2.1, ()))))))) (((), ((0 : Int), ())), (([] : List (List Int)), ())))
theorem w_spec_l01Own2 (x : denL c_spec_l01Own2.args) (K : (List (List Int)) × Unit → Prop) : evF tab (lkp [(92, c_spec_l01Own)]) (cutL []) Try.f158 (bodyOf Try.f158) (.s .n (.s .n (.s (.s .n (.l [(3, (.ref 800003 [])), (4, (.d (.int .i64)))] [(800003, (.sl (.sl (.fz (.int .i64)))))] [0] .n)) .n))) c_spec_l01Own2 x K = W_spec_l01Own2 x.1 K := by kernel_rfl
theorem k_spec_l01Own2 : okC Try.f158.ntmps (cutL []) (bodyOf Try.f158) = true := by kernel_rfl
theorem m_spec_l01Own2 (lists : List (List Int)) (hok : allP (okL c_spec_l01Own2.args (lists, ()))) (hpre : allP (c_spec_l01Own2.pre (lists, ()))) : W_spec_l01Own2 lists (fun r => r = c_spec_l01Own2.res (lists, ())) := by
  simp only [c_spec_l01Own2, okL, T.oks, T.ok, ap, allP, true_and, and_true, implies_true] at hok hpre
  try dsimp only [T.den] at hok
  try dsimp only [T.den] at hpre
  unfold W_spec_l01Own2
  have h1 := hpre.n
  have h2 := hpre.e
  clear hok
  refine loop_ixa (fun i => lists.take i.toNat) (n := lists.length) (by omega) rfl ?_ ?_
  · intro i next i0 i1 hn _ _
    try dsimp only at hn ⊢
    rw [take_c lists [] i0 i1] at hn
    exact cnd_d (fun _ => ⟨i0, i1, h2 _ (getD_mem lists [] i0 i1), room_of (by rw [List.length_take]; simp only [List.length_cons, List.length_nil]; omega), by rw [inK64]; (try dsimp only); omega, hn⟩) (fun h => absurd i1 h)
  · intro next _ _
    refine cnd_d (fun h => absurd h (Int.lt_irrefl _)) (fun _ => ?_)
    simp only [c_spec_l01Own2]
    rw [take_n _ (Int.le_refl _)]
theorem ct_spec_l01Own2 : CtOk Try.prog 158 c_spec_l01Own2 :=
  ct_by (Φ := lkp [(92, c_spec_l01Own)]) (good_cons ct_spec_l01Own good_nil) tab_ok (by kernel_rfl) (fn := Try.f158) (c := bodyOf Try.f158) (by kernel_rfl) (by kernel_rfl) (by kernel_rfl) c_spec_l01Own2 rfl (.s .n (.s .n (.s (.s .n (.l [(3, (.ref 800003 [])), (4, (.d (.int .i64)))] [(800003, (.sl (.sl (.fz (.int .i64)))))] [0] .n)) .n))) (cutL []) (by kernel_rfl) (by kernel_rfl) k_spec_l01Own2 (by decide) (fun x K => W_spec_l01Own2 x.1 K) w_spec_l01Own2 (fun x h1 h2 => m_spec_l01Own2 x.1 h1 h2)
def c_spec_l02Own : Ct := ⟨[CategoryT], [true], fun x => [ShapeP x.1], [(true, CategoryO)], fun x => (x.1, ()), false, none⟩
def W_spec_l02Own (c : CategoryD) (K : CategoryD × Unit → Prop) : Prop := (((List.length c.2.1) ≤ 1099511627776) ∧ (((List.length c.2.2.1) ≤ 1099511627776) ∧ (((List.length c.2.2.2.1) ≤ 1099511627776) ∧ ((OwnP c.2.2.2.2) ∧ (K (c, ()))))))
theorem w_spec_l02Own (x : denL c_spec_l02Own.args) (K : CategoryD × Unit → Prop) : evF tab (lkp [(92, c_spec_l01Own), (158, c_spec_l01Own2)]) (cutL [(1, 514)]) Try.f157 (bodyOf Try.f157) .n c_spec_l02Own x K = W_spec_l02Own x.1 K := by kernel_rfl
theorem k_spec_l02Own : okC Try.f157.ntmps (cutL [(1, 514)]) (bodyOf Try.f157) = true := by kernel_rfl
theorem m_spec_l02Own (c : CategoryD) (hok : allP (okL c_spec_l02Own.args (c, ()))) (hpre : allP (c_spec_l02Own.pre (c, ()))) : W_spec_l02Own c (fun r => r = c_spec_l02Own.res (c, ())) := by
  simp only [c_spec_l02Own, okL, T.oks, T.ok, ap, allP, true_and, and_true, implies_true] at hok hpre
  try dsimp only [T.den] at hok
  try dsimp only [T.den] at hpre
  unfold W_spec_l02Own
  have S : ShapeP c := hpre
  have h1 := S.m
  have h2 := S.lt
  have h3 := S.li
  have h4 := S.ob
  have h5 := S.lc
  refine ⟨by omega, by omega, by omega, ⟨by omega, fun r hr => ?_⟩, rfl⟩
  obtain ⟨k, hk, rfl⟩ := List.getElem_of_mem hr
  have := S.row k (by omega) (by omega)
  rw [Int.toNat_natCast, List.getD_eq_getElem?_getD, List.getElem?_eq_getElem hk] at this
  simp only [Option.getD_some] at this
  omega
theorem ct_spec_l02Own : CtOk Try.prog 157 c_spec_l02Own :=
  ct_by (Φ := lkp [(92, c_spec_l01Own), (158, c_spec_l01Own2)]) (good_cons ct_spec_l01Own (good_cons ct_spec_l01Own2 good_nil)) tab_ok (by kernel_rfl) (fn := Try.f157) (c := bodyOf Try.f157) (by kernel_rfl) (by kernel_rfl) (by kernel_rfl) c_spec_l02Own rfl .n (cutL [(1, 514)]) (by kernel_rfl) (by kernel_rfl) k_spec_l02Own (by decide) (fun x K => W_spec_l02Own x.1 K) w_spec_l02Own (fun x h1 h2 => m_spec_l02Own x.1 h1 h2)
def c_spec_l06Make : Ct := ⟨[CategoryT, CategoryT, (.sl (.int .i64)), (.sl (.int .i64))], [true, true, false, false], fun x => [ShapeP x.1, ShapeP x.2.1, x.2.2.1.length ≤ 1099511627776, x.2.2.2.1.length ≤ 1099511627776], [(true, FunctorO)], fun x => ((x.1, x.2.1, x.2.2.1, x.2.2.2.1), ()), false, none⟩
def W_spec_l06Make (c : CategoryD) (d : CategoryD) (objects : List Int) (arrows : List Int) (K : FunctorD × Unit → Prop) : Prop := ((ShapeP c) ∧ ((ShapeP d) ∧ (((List.length objects) ≤ 1099511627776) ∧ (((List.length arrows) ≤ 1099511627776) ∧ (K ((c, (d, (objects, arrows))), ()))))))
theorem w_spec_l06Make (x : denL c_spec_l06Make.args) (K : FunctorD × Unit → Prop) : evF tab (lkp [(92, c_spec_l01Own), (157, c_spec_l02Own)]) (cutL [(1, 507)]) Try.f154 (bodyOf Try.f154) .n c_spec_l06Make x K = W_spec_l06Make x.1 x.2.1 x.2.2.1 x.2.2.2.1 K := by kernel_rfl
theorem k_spec_l06Make : okC Try.f154.ntmps (cutL [(1, 507)]) (bodyOf Try.f154) = true := by kernel_rfl
theorem m_spec_l06Make (c : CategoryD) (d : CategoryD) (objects : List Int) (arrows : List Int) (hok : allP (okL c_spec_l06Make.args (c, d, objects, arrows, ()))) (hpre : allP (c_spec_l06Make.pre (c, d, objects, arrows, ()))) : W_spec_l06Make c d objects arrows (fun r => r = c_spec_l06Make.res (c, d, objects, arrows, ())) := by
  simp only [c_spec_l06Make, okL, T.oks, T.ok, ap, allP, true_and, and_true, implies_true] at hok hpre
  try dsimp only [T.den] at hok
  try dsimp only [T.den] at hpre
  unfold W_spec_l06Make
  exact ⟨hpre.1, hpre.2.1, hpre.2.2.1, hpre.2.2.2, rfl⟩
theorem ct_spec_l06Make : CtOk Try.prog 154 c_spec_l06Make :=
  ct_by (Φ := lkp [(92, c_spec_l01Own), (157, c_spec_l02Own)]) (good_cons ct_spec_l01Own (good_cons ct_spec_l02Own good_nil)) tab_ok (by kernel_rfl) (fn := Try.f154) (c := bodyOf Try.f154) (by kernel_rfl) (by kernel_rfl) (by kernel_rfl) c_spec_l06Make rfl .n (cutL [(1, 507)]) (by kernel_rfl) (by kernel_rfl) k_spec_l06Make (by decide) (fun x K => W_spec_l06Make x.1 x.2.1 x.2.2.1 x.2.2.2.1 K) w_spec_l06Make (fun x h1 h2 => m_spec_l06Make x.1 x.2.1 x.2.2.1 x.2.2.2.1 h1 h2)
def constR (c d : CategoryD) (y : Int) : FunctorD := (c, d, tabN c.1.toNat (fun _ => y), tabN c.2.1.length fun _ => d.2.2.2.1.getD y.toNat 0)

def c_spec_l06Constant : Ct := ⟨[CategoryT, CategoryT, (.int .i64)], [true, true, false], fun x => [ShapeP x.1, ShapeP x.2.1, 0 ≤ x.2.2.1, x.2.2.1 < x.2.1.1], [(true, FunctorO)], fun x => (constR x.1 x.2.1 x.2.2.1, ()), false, none⟩
def W_spec_l06Constant (c : CategoryD) (d : CategoryD) (y : Int) (K : FunctorD × Unit → Prop) : Prop := (loopW (S := ((Unit × (Unit × (Int × Unit))) × (((Int × ((List Int) × ((List Int) × ((List Int) × (List (List Int)))))) × ((Int × ((List Int) × ((List Int) × ((List Int) × (List (List Int)))))) × ((List Int) × (List Int)))) × ((List Int) × Unit)))) (fun s => (fun next => ((inK IntKind.i64 s.1.2.2.1) → ((inK IntKind.i64 s.2.1.1.1) → ((T.ok (T.sl (T.int IntKind.i64)) s.2.1.1.2.1) → ((T.ok (T.sl (T.int IntKind.i64)) s.2.1.1.2.2.1) → ((T.ok (T.sl (T.int IntKind.i64)) s.2.1.1.2.2.2.1) → ((T.ok (T.sl (T.sl (T.int IntKind.i64))) s.2.1.1.2.2.2.2) → ((inK IntKind.i64 s.2.1.2.1.1) → ((T.ok (T.sl (T.int IntKind.i64)) s.2.1.2.1.2.1) → ((T.ok (T.sl (T.int IntKind.i64)) s.2.1.2.1.2.2.1) → ((T.ok (T.sl (T.int IntKind.i64)) s.2.1.2.1.2.2.2.1) → ((T.ok (T.sl (T.sl (T.int IntKind.i64))) s.2.1.2.1.2.2.2.2) → ((T.ok (T.sl (T.int IntKind.i64)) s.2.1.2.2.1) → ((T.ok (T.sl (T.int IntKind.i64)) s.2.1.2.2.2) → ((T.ok (T.sl (T.int IntKind.i64)) s.2.2.1) → (cnd (decide (s.1.2.2.1 < c.1)) ((room (List.length s.2.2.1) (List.length (y :: ([] : List Int))) 8) ∧ ((inK IntKind.i64 (s.1.2.2.1 + (1 : Int))) ∧ (next (((), ((), ((s.1.2.2.1 + (1 : Int)), ()))), (s.2.1, ((s.2.2.1 ++ (y :: ([] : List Int))), ())))))) (loopW (S := ((Unit × (Unit × (Int × Unit))) × (((Int × ((List Int) × ((List Int) × ((List Int) × (List (List Int)))))) × ((Int × ((List Int) × ((List Int) × ((List Int) × (List (List Int)))))) × ((List Int) × (List Int)))) × ((List Int) × Unit)))) (fun s1 => (fun next1 => ((inK IntKind.i64 s1.1.2.2.1) → ((inK IntKind.i64 s1.2.1.1.1) → ((T.ok (T.sl (T.int IntKind.i64)) s1.2.1.1.2.1) → ((T.ok (T.sl (T.int IntKind.i64)) s1.2.1.1.2.2.1) → ((T.ok (T.sl (T.int IntKind.i64)) s1.2.1.1.2.2.2.1) → ((T.ok (T.sl (T.sl (T.int IntKind.i64))) s1.2.1.1.2.2.2.2) → ((inK IntKind.i64 s1.2.1.2.1.1) → ((T.ok (T.sl (T.int IntKind.i64)) s1.2.1.2.1.2.1) → ((T.ok (T.sl (T.int IntKind.i64)) s1.2.1.2.1.2.2.1) → ((T.ok (T.sl (T.int IntKind.i64)) s1.2.1.2.1.2.2.2.1) → ((T.ok (T.sl (T.sl (T.int IntKind.i64))) s1.2.1.2.1.2.2.2.2) → ((T.ok (T.sl (T.int IntKind.i64)) s1.2.1.2.2.1) → ((T.ok (T.sl (T.int IntKind.i64)) s1.2.1.2.2.2) → ((T.ok (T.sl (T.int IntKind.i64)) s1.2.2.1) → (cnd (decide (s1.1.2.2.1 < (((List.length c.2.1) : Nat) : Int))) (((0 : Int) ≤ y) ∧ ((y < (((List.length d.2.2.2.1) : Nat) : Int)) ∧ ((room (List.length s1.2.2.1) (List.length ((List.getD d.2.2.2.1 (Int.toNat y) (0 : Int)) :: ([] : List Int))) 8) ∧ ((inK IntKind.i64 (s1.1.2.2.1 + (1 : Int))) ∧ (next1 (((), ((), ((s1.1.2.2.1 + (1 : Int)), ()))), (s1.2.1, ((s1.2.2.1 ++ ((List.getD d.2.2.2.1 (Int.toNat y) (0 : Int)) :: ([] : List Int))), ())))))))) ((ShapeP c) ∧ ((ShapeP d) ∧ (((List.length s.2.2.1) ≤ 1099511627776) ∧ (((List.length s1.2.2.1) ≤ 1099511627776) ∧ (K ((c, (d, (s.2.2.1, s1.2.2.1))), ()))))))))))))))))))))))) (((), ((), ((0 : Int), ()))), (s.2.1, (([] : List Int), ()))))))))))))))))))))) (((), ((), ((0 : Int), ()))), ((((0 : Int), (([] : List Int), (([] : List Int), (([] : List Int), ([] : List (List Int)))))), (((0 : Int), (([] : List Int), (([] : List Int), (([] : List Int), ([] : List (List Int)))))), (([] : List Int), ([] : List Int)))), (([] : List Int), ()))))
theorem w_spec_l06Constant (x : denL c_spec_l06Constant.args) (K : FunctorD × Unit → Prop) : evF tab (lkp [(154, c_spec_l06Make)]) (cutL []) Try.f143 (bodyOf Try.f143) (.s .n (.s .n (.s (.s .n (.l [(6, (.ad 6 [.de])), (7, (.ref 800007 [])), (9, (.d (.int .i64)))] [(6, (.pt (.p (.p (.fz (.int .i64)) (.p (.sl (.fz (.int .i64))) (.p (.sl (.fz (.int .i64))) (.p (.sl (.fz (.int .i64))) (.sl (.sl (.fz (.int .i64)))))))) (.p (.p (.fz (.int .i64)) (.p (.sl (.fz (.int .i64))) (.p (.sl (.fz (.int .i64))) (.p (.sl (.fz (.int .i64))) (.sl (.sl (.fz (.int .i64)))))))) (.p (.sl (.fz (.int .i64))) (.sl (.fz (.int .i64)))))))), (800007, (.sl (.fz (.int .i64))))] [2, 3, 4, 8] .n)) (.s (.s .n (.l [(6, (.ad 6 [.de])), (8, (.ref 800008 [])), (10, (.d (.int .i64)))] [(6, (.pt (.p (.p (.fz (.int .i64)) (.p (.sl (.fz (.int .i64))) (.p (.sl (.fz (.int .i64))) (.p (.sl (.fz (.int .i64))) (.sl (.sl (.fz (.int .i64)))))))) (.p (.p (.fz (.int .i64)) (.p (.sl (.fz (.int .i64))) (.p (.sl (.fz (.int .i64))) (.p (.sl (.fz (.int .i64))) (.sl (.sl (.fz (.int .i64)))))))) (.p (.sl (.fz (.int .i64))) (.sl (.fz (.int .i64)))))))), (800008, (.sl (.fz (.int .i64))))] [2, 3, 4, 7] .n)) .n)))) c_spec_l06Constant x K = W_spec_l06Constant x.1 x.2.1 x.2.2.1 K := by kernel_rfl
theorem k_spec_l06Constant : okC Try.f143.ntmps (cutL []) (bodyOf Try.f143) = true := by kernel_rfl
theorem m_spec_l06Constant (c : CategoryD) (d : CategoryD) (y : Int) (hok : allP (okL c_spec_l06Constant.args (c, d, y, ()))) (hpre : allP (c_spec_l06Constant.pre (c, d, y, ()))) : W_spec_l06Constant c d y (fun r => r = c_spec_l06Constant.res (c, d, y, ())) := by
  simp only [c_spec_l06Constant, okL, T.oks, T.ok, ap, allP, true_and, and_true, implies_true] at hok hpre
  try dsimp only [T.den] at hok
  try dsimp only [T.den] at hpre
  unfold W_spec_l06Constant
  obtain ⟨S, D, y0, y1⟩ := hpre
  clear hok
  have h1 := S.ob
  have h2 := S.m
  have h3 := D.li
  refine loop_of (fun (s : ((Unit × (Unit × (Int × Unit))) × (((Int × ((List Int) × ((List Int) × ((List Int) × (List (List Int)))))) × ((Int × ((List Int) × ((List Int) × ((List Int) × (List (List Int)))))) × ((List Int) × (List Int)))) × ((List Int) × Unit)))) => 0 ≤ s.1.2.2.1 ∧ s.1.2.2.1 ≤ c.1 ∧ s.2.2.1 = tabN s.1.2.2.1.toNat fun _ => y) (fun (s : ((Unit × (Unit × (Int × Unit))) × (((Int × ((List Int) × ((List Int) × ((List Int) × (List (List Int)))))) × ((Int × ((List Int) × ((List Int) × ((List Int) × (List (List Int)))))) × ((List Int) × (List Int)))) × ((List Int) × Unit)))) => (c.1 - s.1.2.2.1).toNat) ?_ ⟨Int.le_refl _, h1.1, rfl⟩
  rintro ⟨⟨_, _, i, _⟩, z, l, _⟩ next ⟨i0, i1, hl⟩ hn _ _ _ _ _ _ _ _ _ _ _ _ _ _
  try dsimp only at i0 i1 hl hn ⊢
  refine cnd_d (fun hc => ?_) (fun hc => ?_)
  · have hll : l.length = i.toNat := by rw [hl, tabN_len]
    refine ⟨room_of (by simp only [List.length_cons, List.length_nil]; omega), by rw [inK64]; (try dsimp only); omega, hn _ ⟨by dsimp only; omega, by dsimp only; omega, ?_⟩ (by dsimp only; omega)⟩
    try dsimp only
    rw [tabN_s i0, ← hl]
  · have e : i = c.1 := by omega
    subst e
    refine loop_of (fun (s : ((Unit × (Unit × (Int × Unit))) × (((Int × ((List Int) × ((List Int) × ((List Int) × (List (List Int)))))) × ((Int × ((List Int) × ((List Int) × ((List Int) × (List (List Int)))))) × ((List Int) × (List Int)))) × ((List Int) × Unit)))) => 0 ≤ s.1.2.2.1 ∧ s.1.2.2.1 ≤ c.2.1.length ∧ s.2.2.1 = tabN s.1.2.2.1.toNat fun _ => d.2.2.2.1.getD y.toNat 0) (fun (s : ((Unit × (Unit × (Int × Unit))) × (((Int × ((List Int) × ((List Int) × ((List Int) × (List (List Int)))))) × ((Int × ((List Int) × ((List Int) × ((List Int) × (List (List Int)))))) × ((List Int) × (List Int)))) × ((List Int) × Unit)))) => (c.2.1.length - s.1.2.2.1).toNat) ?_ ⟨by simp, by simp, rfl⟩
    rintro ⟨⟨_, _, i, _⟩, z2, l2, _⟩ next ⟨j0, j1, hl2⟩ hn _ _ _ _ _ _ _ _ _ _ _ _ _ _
    try dsimp only at j0 j1 hl2 hn ⊢
    refine cnd_d (fun hc => ?_) (fun hc => ?_)
    · have hll : l2.length = i.toNat := by rw [hl2, tabN_len]
      refine ⟨y0, by omega, room_of (by simp only [List.length_cons, List.length_nil]; omega), by rw [inK64]; (try dsimp only); omega, hn _ ⟨by dsimp only; omega, by dsimp only; omega, ?_⟩ (by dsimp only; omega)⟩
      try dsimp only
      rw [tabN_s j0, ← hl2]
    · have e : i = c.2.1.length := by omega
      subst e
      refine ⟨S, D, by rw [hl, tabN_len]; omega, by rw [hl2, tabN_len]; omega, ?_⟩
      simp only [c_spec_l06Constant, constR]
      rw [hl, hl2, Int.toNat_natCast]
theorem ct_spec_l06Constant : CtOk Try.prog 143 c_spec_l06Constant :=
  ct_by (Φ := lkp [(154, c_spec_l06Make)]) (good_cons ct_spec_l06Make good_nil) tab_ok (by kernel_rfl) (fn := Try.f143) (c := bodyOf Try.f143) (by kernel_rfl) (by kernel_rfl) (by kernel_rfl) c_spec_l06Constant rfl (.s .n (.s .n (.s (.s .n (.l [(6, (.ad 6 [.de])), (7, (.ref 800007 [])), (9, (.d (.int .i64)))] [(6, (.pt (.p (.p (.fz (.int .i64)) (.p (.sl (.fz (.int .i64))) (.p (.sl (.fz (.int .i64))) (.p (.sl (.fz (.int .i64))) (.sl (.sl (.fz (.int .i64)))))))) (.p (.p (.fz (.int .i64)) (.p (.sl (.fz (.int .i64))) (.p (.sl (.fz (.int .i64))) (.p (.sl (.fz (.int .i64))) (.sl (.sl (.fz (.int .i64)))))))) (.p (.sl (.fz (.int .i64))) (.sl (.fz (.int .i64)))))))), (800007, (.sl (.fz (.int .i64))))] [2, 3, 4, 8] .n)) (.s (.s .n (.l [(6, (.ad 6 [.de])), (8, (.ref 800008 [])), (10, (.d (.int .i64)))] [(6, (.pt (.p (.p (.fz (.int .i64)) (.p (.sl (.fz (.int .i64))) (.p (.sl (.fz (.int .i64))) (.p (.sl (.fz (.int .i64))) (.sl (.sl (.fz (.int .i64)))))))) (.p (.p (.fz (.int .i64)) (.p (.sl (.fz (.int .i64))) (.p (.sl (.fz (.int .i64))) (.p (.sl (.fz (.int .i64))) (.sl (.sl (.fz (.int .i64)))))))) (.p (.sl (.fz (.int .i64))) (.sl (.fz (.int .i64)))))))), (800008, (.sl (.fz (.int .i64))))] [2, 3, 4, 7] .n)) .n)))) (cutL []) (by kernel_rfl) (by kernel_rfl) k_spec_l06Constant (by decide) (fun x K => W_spec_l06Constant x.1 x.2.1 x.2.2.1 K) w_spec_l06Constant (fun x h1 h2 => m_spec_l06Constant x.1 x.2.1 x.2.2.1 h1 h2)
/-- used at one point alone -/
def posR (_ : List (List Int)) : CategoryD := (1, ([0], ([0], ([0], [[0]]))))
theorem lp_2 {S : Type} {body : S → (S → Prop) → Prop} {s : S} (h : body s (iterW body 1)) : loopW body s := ⟨2, h⟩
theorem lp_1 {S : Type} {body : S → (S → Prop) → Prop} {s : S} (h : body s (iterW body 0)) : iterW body 1 s := h
theorem jn_w {S : Type} {k : S → Prop} {f : (S → Prop) → Prop} (h : f k) : joinW k f := h
theorem cnd_tt {b : Bool} {x y : Prop} (h : b = true) (hx : x) : cnd b x y := ⟨fun _ => hx, fun e => absurd (h.symm.trans e) (by decide)⟩
theorem cnd_ff {b : Bool} {x y : Prop} (h : b = false) (hy : y) : cnd b x y := ⟨fun e => absurd (h.symm.trans e) (by decide), fun _ => hy⟩

def c_spec_l03Poset : Ct := ⟨[(.sl (.sl (.int .i64)))], [false], fun x => [x.1 = [[1]]], [(true, CategoryO)], fun x => (posR x.1, ()), false, none⟩
def W_spec_l03Poset (rel : List (List Int)) (K : CategoryD × Unit → Prop) : Prop := (loopW (S := ((Unit × (Unit × (Unit × (Int × Unit)))) × ((Int × ((List Int) × ((List Int) × ((List Int) × (List (List Int)))))) × ((List (List Int)) × ((Int × ((List Int) × ((List Int) × ((List Int) × (List (List Int)))))) × Unit))))) (fun s => (fun next => ((inK IntKind.i64 s.1.2.2.2.1) → ((inK IntKind.i64 s.2.1.1) → ((T.ok (T.sl (T.int IntKind.i64)) s.2.1.2.1) → ((T.ok (T.sl (T.int IntKind.i64)) s.2.1.2.2.1) → ((T.ok (T.sl (T.int IntKind.i64)) s.2.1.2.2.2.1) → ((T.ok (T.sl (T.sl (T.int IntKind.i64))) s.2.1.2.2.2.2) → ((T.ok (T.sl (T.sl (T.int IntKind.i64))) s.2.2.1) → ((inK IntKind.i64 s.2.2.2.1.1) → ((T.ok (T.sl (T.int IntKind.i64)) s.2.2.2.1.2.1) → ((T.ok (T.sl (T.int IntKind.i64)) s.2.2.2.1.2.2.1) → ((T.ok (T.sl (T.int IntKind.i64)) s.2.2.2.1.2.2.2.1) → ((T.ok (T.sl (T.sl (T.int IntKind.i64))) s.2.2.2.1.2.2.2.2) → (cnd (decide (s.1.2.2.2.1 < (((List.length rel) : Nat) : Int))) (loopW (S := ((Unit × (Unit × (Unit × (Unit × (Int × Unit))))) × ((Int × ((List Int) × ((List Int) × ((List Int) × (List (List Int)))))) × ((List (List Int)) × ((Int × ((List Int) × ((List Int) × ((List Int) × (List (List Int)))))) × ((List Int) × Unit)))))) (fun s1 => (fun next1 => ((inK IntKind.i64 s1.1.2.2.2.2.1) → ((inK IntKind.i64 s1.2.1.1) → ((T.ok (T.sl (T.int IntKind.i64)) s1.2.1.2.1) → ((T.ok (T.sl (T.int IntKind.i64)) s1.2.1.2.2.1) → ((T.ok (T.sl (T.int IntKind.i64)) s1.2.1.2.2.2.1) → ((T.ok (T.sl (T.sl (T.int IntKind.i64))) s1.2.1.2.2.2.2) → ((T.ok (T.sl (T.sl (T.int IntKind.i64))) s1.2.2.1) → ((inK IntKind.i64 s1.2.2.2.1.1) → ((T.ok (T.sl (T.int IntKind.i64)) s1.2.2.2.1.2.1) → ((T.ok (T.sl (T.int IntKind.i64)) s1.2.2.2.1.2.2.1) → ((T.ok (T.sl (T.int IntKind.i64)) s1.2.2.2.1.2.2.2.1) → ((T.ok (T.sl (T.sl (T.int IntKind.i64))) s1.2.2.2.1.2.2.2.2) → ((T.ok (T.sl (T.int IntKind.i64)) s1.2.2.2.2.1) → (cnd (decide (s1.1.2.2.2.2.1 < (((List.length rel) : Nat) : Int))) ((room (List.length s1.2.2.2.2.1) (List.length ((((List.length s1.2.2.2.1.2.1) : Nat) : Int) :: ([] : List Int))) 8) ∧ (((0 : Int) ≤ s.1.2.2.2.1) ∧ ((s.1.2.2.2.1 < (((List.length rel) : Nat) : Int)) ∧ (((0 : Int) ≤ s1.1.2.2.2.2.1) ∧ ((s1.1.2.2.2.2.1 < (((List.length (List.getD rel (Int.toNat s.1.2.2.2.1) ([] : List Int))) : Nat) : Int)) ∧ (joinW (S := ((Unit × (Unit × (Unit × (Unit × Unit)))) × ((Int × ((List Int) × ((List Int) × ((List Int) × (List (List Int)))))) × ((List (List Int)) × ((Int × ((List Int) × ((List Int) × ((List Int) × (List (List Int)))))) × ((List Int) × Unit)))))) (fun s2 => ((inK IntKind.i64 s2.2.1.1) → ((T.ok (T.sl (T.int IntKind.i64)) s2.2.1.2.1) → ((T.ok (T.sl (T.int IntKind.i64)) s2.2.1.2.2.1) → ((T.ok (T.sl (T.int IntKind.i64)) s2.2.1.2.2.2.1) → ((T.ok (T.sl (T.sl (T.int IntKind.i64))) s2.2.1.2.2.2.2) → ((T.ok (T.sl (T.sl (T.int IntKind.i64))) s2.2.2.1) → ((inK IntKind.i64 s2.2.2.2.1.1) → ((T.ok (T.sl (T.int IntKind.i64)) s2.2.2.2.1.2.1) → ((T.ok (T.sl (T.int IntKind.i64)) s2.2.2.2.1.2.2.1) → ((T.ok (T.sl (T.int IntKind.i64)) s2.2.2.2.1.2.2.2.1) → ((T.ok (T.sl (T.sl (T.int IntKind.i64))) s2.2.2.2.1.2.2.2.2) → ((T.ok (T.sl (T.int IntKind.i64)) s2.2.2.2.2.1) → ((inK IntKind.i64 (s1.1.2.2.2.2.1 + (1 : Int))) ∧ (next1 (((), ((), ((), ((), ((s1.1.2.2.2.2.1 + (1 : Int)), ()))))), (s2.2.1, (s2.2.2.1, (s2.2.2.2.1, (s2.2.2.2.2.1, ())))))))))))))))))))) (fun k => (cnd ((List.getD (List.getD rel (Int.toNat s.1.2.2.2.1) ([] : List Int)) (Int.toNat s1.1.2.2.2.2.1) (0 : Int)) == (1 : Int)) ((room (List.length s1.2.2.2.1.2.1) (List.length (s.1.2.2.2.1 :: ([] : List Int))) 8) ∧ ((room (List.length s1.2.2.2.1.2.2.1) (List.length (s1.1.2.2.2.2.1 :: ([] : List Int))) 8) ∧ (k (((), ((), ((), ((), ())))), (s1.2.1, (s1.2.2.1, ((s1.2.2.2.1.1, ((s1.2.2.2.1.2.1 ++ (s.1.2.2.2.1 :: ([] : List Int))), ((s1.2.2.2.1.2.2.1 ++ (s1.1.2.2.2.2.1 :: ([] : List Int))), s1.2.2.2.1.2.2.2))), ((s1.2.2.2.2.1 ++ ((((List.length s1.2.2.2.1.2.1) : Nat) : Int) :: ([] : List Int))), ())))))))) (k (((), ((), ((), ((), ())))), (s1.2.1, (s1.2.2.1, (s1.2.2.2.1, ((s1.2.2.2.2.1 ++ ((((List.length s1.2.2.2.1.2.1) : Nat) : Int) :: ([] : List Int))), ())))))))))))))) ((room (List.length s1.2.2.1) (List.length (s1.2.2.2.2.1 :: ([] : List (List Int)))) 24) ∧ ((inK IntKind.i64 (s.1.2.2.2.1 + (1 : Int))) ∧ (next (((), ((), ((), ((s.1.2.2.2.1 + (1 : Int)), ())))), (s1.2.1, ((s1.2.2.1 ++ (s1.2.2.2.2.1 :: ([] : List (List Int)))), (s1.2.2.2.1, ()))))))))))))))))))))))) (((), ((), ((), ((), ((0 : Int), ()))))), (s.2.1, (s.2.2.1, (s.2.2.2.1, (([] : List Int), ())))))) (loopW (S := ((Unit × (Unit × (Int × Unit))) × ((Int × ((List Int) × ((List Int) × ((List Int) × (List (List Int)))))) × ((Int × ((List Int) × ((List Int) × ((List Int) × (List (List Int)))))) × Unit)))) (fun s1 => (fun next1 => ((inK IntKind.i64 s1.1.2.2.1) → ((inK IntKind.i64 s1.2.1.1) → ((T.ok (T.sl (T.int IntKind.i64)) s1.2.1.2.1) → ((T.ok (T.sl (T.int IntKind.i64)) s1.2.1.2.2.1) → ((T.ok (T.sl (T.int IntKind.i64)) s1.2.1.2.2.2.1) → ((T.ok (T.sl (T.sl (T.int IntKind.i64))) s1.2.1.2.2.2.2) → ((inK IntKind.i64 s1.2.2.1.1) → ((T.ok (T.sl (T.int IntKind.i64)) s1.2.2.1.2.1) → ((T.ok (T.sl (T.int IntKind.i64)) s1.2.2.1.2.2.1) → ((T.ok (T.sl (T.int IntKind.i64)) s1.2.2.1.2.2.2.1) → ((T.ok (T.sl (T.sl (T.int IntKind.i64))) s1.2.2.1.2.2.2.2) → (cnd (decide (s1.1.2.2.1 < (((List.length rel) : Nat) : Int))) (((0 : Int) ≤ s1.1.2.2.1) ∧ ((s1.1.2.2.1 < (((List.length s.2.2.1) : Nat) : Int)) ∧ (((0 : Int) ≤ s1.1.2.2.1) ∧ ((s1.1.2.2.1 < (((List.length (List.getD s.2.2.1 (Int.toNat s1.1.2.2.1) ([] : List Int))) : Nat) : Int)) ∧ ((room (List.length s1.2.2.1.2.2.2.1) (List.length ((List.getD (List.getD s.2.2.1 (Int.toNat s1.1.2.2.1) ([] : List Int)) (Int.toNat s1.1.2.2.1) (0 : Int)) :: ([] : List Int))) 8) ∧ ((inK IntKind.i64 (s1.1.2.2.1 + (1 : Int))) ∧ (next1 (((), ((), ((s1.1.2.2.1 + (1 : Int)), ()))), (s1.2.1, ((s1.2.2.1.1, (s1.2.2.1.2.1, (s1.2.2.1.2.2.1, ((s1.2.2.1.2.2.2.1 ++ ((List.getD (List.getD s.2.2.1 (Int.toNat s1.1.2.2.1) ([] : List Int)) (Int.toNat s1.1.2.2.1) (0 : Int)) :: ([] : List Int))), s1.2.2.1.2.2.2.2)))), ())))))))))) (loopW (S := ((Unit × (Unit × (Int × Unit))) × ((Int × ((List Int) × ((List Int) × ((List Int) × (List (List Int)))))) × ((Int × ((List Int) × ((List Int) × ((List Int) × (List (List Int)))))) × Unit)))) (fun s2 => (fun next2 => ((inK IntKind.i64 s2.1.2.2.1) → ((inK IntKind.i64 s2.2.1.1) → ((T.ok (T.sl (T.int IntKind.i64)) s2.2.1.2.1) → ((T.ok (T.sl (T.int IntKind.i64)) s2.2.1.2.2.1) → ((T.ok (T.sl (T.int IntKind.i64)) s2.2.1.2.2.2.1) → ((T.ok (T.sl (T.sl (T.int IntKind.i64))) s2.2.1.2.2.2.2) → ((inK IntKind.i64 s2.2.2.1.1) → ((T.ok (T.sl (T.int IntKind.i64)) s2.2.2.1.2.1) → ((T.ok (T.sl (T.int IntKind.i64)) s2.2.2.1.2.2.1) → ((T.ok (T.sl (T.int IntKind.i64)) s2.2.2.1.2.2.2.1) → ((T.ok (T.sl (T.sl (T.int IntKind.i64))) s2.2.2.1.2.2.2.2) → (cnd (decide (s2.1.2.2.1 < (((List.length s2.2.2.1.2.1) : Nat) : Int))) (loopW (S := ((Unit × (Unit × (Unit × (Int × Unit)))) × ((Int × ((List Int) × ((List Int) × ((List Int) × (List (List Int)))))) × ((Int × ((List Int) × ((List Int) × ((List Int) × (List (List Int)))))) × ((List Int) × Unit))))) (fun s3 => (fun next3 => ((inK IntKind.i64 s3.1.2.2.2.1) → ((inK IntKind.i64 s3.2.1.1) → ((T.ok (T.sl (T.int IntKind.i64)) s3.2.1.2.1) → ((T.ok (T.sl (T.int IntKind.i64)) s3.2.1.2.2.1) → ((T.ok (T.sl (T.int IntKind.i64)) s3.2.1.2.2.2.1) → ((T.ok (T.sl (T.sl (T.int IntKind.i64))) s3.2.1.2.2.2.2) → ((inK IntKind.i64 s3.2.2.1.1) → ((T.ok (T.sl (T.int IntKind.i64)) s3.2.2.1.2.1) → ((T.ok (T.sl (T.int IntKind.i64)) s3.2.2.1.2.2.1) → ((T.ok (T.sl (T.int IntKind.i64)) s3.2.2.1.2.2.2.1) → ((T.ok (T.sl (T.sl (T.int IntKind.i64))) s3.2.2.1.2.2.2.2) → ((T.ok (T.sl (T.int IntKind.i64)) s3.2.2.2.1) → (cnd (decide (s3.1.2.2.2.1 < (((List.length s3.2.2.1.2.1) : Nat) : Int))) (((0 : Int) ≤ s2.1.2.2.1) ∧ ((s2.1.2.2.1 < (((List.length s3.2.2.1.2.2.1) : Nat) : Int)) ∧ (((0 : Int) ≤ s3.1.2.2.2.1) ∧ ((s3.1.2.2.2.1 < (((List.length s3.2.2.1.2.1) : Nat) : Int)) ∧ (joinW (S := ((Unit × (Unit × (Unit × (Int × Unit)))) × ((Int × ((List Int) × ((List Int) × ((List Int) × (List (List Int)))))) × ((Int × ((List Int) × ((List Int) × ((List Int) × (List (List Int)))))) × ((List Int) × Unit))))) (fun s4 => ((inK IntKind.i64 s4.1.2.2.2.1) → ((inK IntKind.i64 s4.2.1.1) → ((T.ok (T.sl (T.int IntKind.i64)) s4.2.1.2.1) → ((T.ok (T.sl (T.int IntKind.i64)) s4.2.1.2.2.1) → ((T.ok (T.sl (T.int IntKind.i64)) s4.2.1.2.2.2.1) → ((T.ok (T.sl (T.sl (T.int IntKind.i64))) s4.2.1.2.2.2.2) → ((inK IntKind.i64 s4.2.2.1.1) → ((T.ok (T.sl (T.int IntKind.i64)) s4.2.2.1.2.1) → ((T.ok (T.sl (T.int IntKind.i64)) s4.2.2.1.2.2.1) → ((T.ok (T.sl (T.int IntKind.i64)) s4.2.2.1.2.2.2.1) → ((T.ok (T.sl (T.sl (T.int IntKind.i64))) s4.2.2.1.2.2.2.2) → ((T.ok (T.sl (T.int IntKind.i64)) s4.2.2.2.1) → ((room (List.length s4.2.2.2.1) (List.length (s4.1.2.2.2.1 :: ([] : List Int))) 8) ∧ ((inK IntKind.i64 (s3.1.2.2.2.1 + (1 : Int))) ∧ (next3 (((), ((), ((), ((s3.1.2.2.2.1 + (1 : Int)), ())))), (s4.2.1, (s4.2.2.1, ((s4.2.2.2.1 ++ (s4.1.2.2.2.1 :: ([] : List Int))), ())))))))))))))))))))) (fun k => (cnd ((List.getD s3.2.2.1.2.2.1 (Int.toNat s2.1.2.2.1) (0 : Int)) == (List.getD s3.2.2.1.2.1 (Int.toNat s3.1.2.2.2.1) (0 : Int))) (((0 : Int) ≤ s2.1.2.2.1) ∧ ((s2.1.2.2.1 < (((List.length s3.2.2.1.2.1) : Nat) : Int)) ∧ (((0 : Int) ≤ (List.getD s3.2.2.1.2.1 (Int.toNat s2.1.2.2.1) (0 : Int))) ∧ (((List.getD s3.2.2.1.2.1 (Int.toNat s2.1.2.2.1) (0 : Int)) < (((List.length s.2.2.1) : Nat) : Int)) ∧ (((0 : Int) ≤ s3.1.2.2.2.1) ∧ ((s3.1.2.2.2.1 < (((List.length s3.2.2.1.2.2.1) : Nat) : Int)) ∧ (((0 : Int) ≤ (List.getD s3.2.2.1.2.2.1 (Int.toNat s3.1.2.2.2.1) (0 : Int))) ∧ (((List.getD s3.2.2.1.2.2.1 (Int.toNat s3.1.2.2.2.1) (0 : Int)) < (((List.length (List.getD s.2.2.1 (Int.toNat (List.getD s3.2.2.1.2.1 (Int.toNat s2.1.2.2.1) (0 : Int))) ([] : List Int))) : Nat) : Int)) ∧ (k (((), ((), ((), ((List.getD (List.getD s.2.2.1 (Int.toNat (List.getD s3.2.2.1.2.1 (Int.toNat s2.1.2.2.1) (0 : Int))) ([] : List Int)) (Int.toNat (List.getD s3.2.2.1.2.2.1 (Int.toNat s3.1.2.2.2.1) (0 : Int))) (0 : Int)), ())))), (s3.2.1, (s3.2.2.1, (s3.2.2.2.1, ()))))))))))))) (k (((), ((), ((), ((-(1 : Int)), ())))), (s3.2.1, (s3.2.2.1, (s3.2.2.2.1, ())))))))))))) ((room (List.length s3.2.2.1.2.2.2.2) (List.length (s3.2.2.2.1 :: ([] : List (List Int)))) 24) ∧ ((inK IntKind.i64 (s2.1.2.2.1 + (1 : Int))) ∧ (next2 (((), ((), ((s2.1.2.2.1 + (1 : Int)), ()))), (s3.2.1, ((s3.2.2.1.1, (s3.2.2.1.2.1, (s3.2.2.1.2.2.1, (s3.2.2.1.2.2.2.1, (s3.2.2.1.2.2.2.2 ++ (s3.2.2.2.1 :: ([] : List (List Int)))))))), ()))))))))))))))))))))) (((), ((), ((), ((0 : Int), ())))), (s2.2.1, (s2.2.2.1, (([] : List Int), ()))))) (K (s2.2.2.1, ())))))))))))))))) (((), ((), ((0 : Int), ()))), (s1.2.1, (s1.2.2.1, ())))))))))))))))))) (((), ((), ((0 : Int), ()))), (s.2.1, (s.2.2.2.1, ()))))))))))))))))))) (((), ((), ((), ((0 : Int), ())))), (((0 : Int), (([] : List Int), (([] : List Int), (([] : List Int), ([] : List (List Int)))))), (([] : List (List Int)), (((((List.length rel) : Nat) : Int), (([] : List Int), (([] : List Int), (([] : List Int), ([] : List (List Int)))))), ())))))
theorem w_spec_l03Poset (x : denL c_spec_l03Poset.args) (K : CategoryD × Unit → Prop) : evF tab (lkp []) (cutL [(19, 10), (28, 10), (29, 13)]) Try.f155 (bodyOf Try.f155) (.s .n (.s .n (.s .n (.s .n (.s (.s .n (.l [(2, (.ad 2 [.de])), (4, (.ref 800004 [])), (5, (.ad 5 [.de])), (6, (.d (.int .i64)))] [(2, (.pt (.p (.fz (.int .i64)) (.p (.sl (.fz (.int .i64))) (.p (.sl (.fz (.int .i64))) (.p (.sl (.fz (.int .i64))) (.sl (.sl (.fz (.int .i64)))))))))), (800004, (.sl (.sl (.fz (.int .i64))))), (5, (.pt (.p (.fz (.int .i64)) (.p (.sl (.fz (.int .i64))) (.p (.sl (.fz (.int .i64))) (.p (.sl (.fz (.int .i64))) (.sl (.sl (.fz (.int .i64))))))))))] [0, 3] (.s .n (.s (.s .n (.s (.s .n (.l [(2, (.ad 2 [.de])), (4, (.ref 800004 [])), (5, (.ad 5 [.de])), (7, (.ref 800007 [])), (8, (.d (.int .i64)))] [(2, (.pt (.p (.fz (.int .i64)) (.p (.sl (.fz (.int .i64))) (.p (.sl (.fz (.int .i64))) (.p (.sl (.fz (.int .i64))) (.sl (.sl (.fz (.int .i64)))))))))), (800004, (.sl (.sl (.fz (.int .i64))))), (5, (.pt (.p (.fz (.int .i64)) (.p (.sl (.fz (.int .i64))) (.p (.sl (.fz (.int .i64))) (.p (.sl (.fz (.int .i64))) (.sl (.sl (.fz (.int .i64)))))))))), (800007, (.sl (.fz (.int .i64))))] [0, 3, 6] (.s .n (.s (.s .n (.s .n (.j [(2, (.ad 2 [.de])), (4, (.ref 800004 [])), (5, (.ad 5 [.de])), (7, (.ref 800007 []))] [(2, (.pt (.p (.fz (.int .i64)) (.p (.sl (.fz (.int .i64))) (.p (.sl (.fz (.int .i64))) (.p (.sl (.fz (.int .i64))) (.sl (.sl (.fz (.int .i64)))))))))), (800004, (.sl (.sl (.fz (.int .i64))))), (5, (.pt (.p (.fz (.int .i64)) (.p (.sl (.fz (.int .i64))) (.p (.sl (.fz (.int .i64))) (.p (.sl (.fz (.int .i64))) (.sl (.sl (.fz (.int .i64)))))))))), (800007, (.sl (.fz (.int .i64))))] [0, 3, 6, 8] .n))) .n)))) .n)) .n)))) (.s (.s .n (.l [(2, (.ad 2 [.de])), (5, (.ad 5 [.de])), (9, (.d (.int .i64)))] [(2, (.pt (.p (.fz (.int .i64)) (.p (.sl (.fz (.int .i64))) (.p (.sl (.fz (.int .i64))) (.p (.sl (.fz (.int .i64))) (.sl (.sl (.fz (.int .i64)))))))))), (5, (.pt (.p (.fz (.int .i64)) (.p (.sl (.fz (.int .i64))) (.p (.sl (.fz (.int .i64))) (.p (.sl (.fz (.int .i64))) (.sl (.sl (.fz (.int .i64))))))))))] [3, 4] .n)) (.s (.s .n (.l [(2, (.ad 2 [.de])), (5, (.ad 5 [.de])), (10, (.d (.int .i64)))] [(2, (.pt (.p (.fz (.int .i64)) (.p (.sl (.fz (.int .i64))) (.p (.sl (.fz (.int .i64))) (.p (.sl (.fz (.int .i64))) (.sl (.sl (.fz (.int .i64)))))))))), (5, (.pt (.p (.fz (.int .i64)) (.p (.sl (.fz (.int .i64))) (.p (.sl (.fz (.int .i64))) (.p (.sl (.fz (.int .i64))) (.sl (.sl (.fz (.int .i64))))))))))] [4] (.s .n (.s (.s .n (.s (.s .n (.l [(2, (.ad 2 [.de])), (5, (.ad 5 [.de])), (11, (.ref 800011 [])), (12, (.d (.int .i64)))] [(2, (.pt (.p (.fz (.int .i64)) (.p (.sl (.fz (.int .i64))) (.p (.sl (.fz (.int .i64))) (.p (.sl (.fz (.int .i64))) (.sl (.sl (.fz (.int .i64)))))))))), (5, (.pt (.p (.fz (.int .i64)) (.p (.sl (.fz (.int .i64))) (.p (.sl (.fz (.int .i64))) (.p (.sl (.fz (.int .i64))) (.sl (.sl (.fz (.int .i64)))))))))), (800011, (.sl (.fz (.int .i64))))] [4, 10] (.s .n (.s (.s .n (.s (.s .n (.j [(2, (.ad 2 [.de])), (5, (.ad 5 [.de])), (11, (.ref 800011 [])), (13, (.d (.int .i64)))] [(2, (.pt (.p (.fz (.int .i64)) (.p (.sl (.fz (.int .i64))) (.p (.sl (.fz (.int .i64))) (.p (.sl (.fz (.int .i64))) (.sl (.sl (.fz (.int .i64)))))))))), (5, (.pt (.p (.fz (.int .i64)) (.p (.sl (.fz (.int .i64))) (.p (.sl (.fz (.int .i64))) (.p (.sl (.fz (.int .i64))) (.sl (.sl (.fz (.int .i64)))))))))), (800011, (.sl (.fz (.int .i64))))] [4, 10, 12] .n)) .n)) .n)))) .n)) .n)))) .n))))))) c_spec_l03Poset x K = W_spec_l03Poset x.1 K := by kernel_rfl
theorem k_spec_l03Poset : okC Try.f155.ntmps (cutL [(19, 10), (28, 10), (29, 13)]) (bodyOf Try.f155) = true := by kernel_rfl
theorem m_spec_l03Poset (rel : List (List Int)) (hok : allP (okL c_spec_l03Poset.args (rel, ()))) (hpre : allP (c_spec_l03Poset.pre (rel, ()))) : W_spec_l03Poset rel (fun r => r = c_spec_l03Poset.res (rel, ())) := by
  simp only [c_spec_l03Poset, okL, T.oks, T.ok, ap, allP, true_and, and_true, implies_true] at hok hpre
  try dsimp only [T.den] at hok
  try dsimp only [T.den] at hpre
  unfold W_spec_l03Poset
  have hr : rel = [[1]] := hpre
  clear hok hpre
  subst hr
  repeat' first
    | (with_reducible refine lp_2 ?_; dsimp only)
    | (with_reducible refine lp_1 ?_; dsimp only)
    | (with_reducible refine jn_w ?_; dsimp only)
    | with_reducible refine cnd_tt (by with_unfolding_all rfl) ?_
    | with_reducible refine cnd_ff (by with_unfolding_all rfl) ?_
    | with_reducible exact room_of (by decide)
    | with_reducible refine ⟨by first | decide | (exact room_of (by decide)) | (rw [inK64]; decide), ?_⟩
    | intro _
    | rfl
theorem ct_spec_l03Poset : CtOk Try.prog 155 c_spec_l03Poset :=
  ct_by (Φ := lkp []) good_nil tab_ok (by kernel_rfl) (fn := Try.f155) (c := bodyOf Try.f155) (by kernel_rfl) (by kernel_rfl) (by kernel_rfl) c_spec_l03Poset rfl (.s .n (.s .n (.s .n (.s .n (.s (.s .n (.l [(2, (.ad 2 [.de])), (4, (.ref 800004 [])), (5, (.ad 5 [.de])), (6, (.d (.int .i64)))] [(2, (.pt (.p (.fz (.int .i64)) (.p (.sl (.fz (.int .i64))) (.p (.sl (.fz (.int .i64))) (.p (.sl (.fz (.int .i64))) (.sl (.sl (.fz (.int .i64)))))))))), (800004, (.sl (.sl (.fz (.int .i64))))), (5, (.pt (.p (.fz (.int .i64)) (.p (.sl (.fz (.int .i64))) (.p (.sl (.fz (.int .i64))) (.p (.sl (.fz (.int .i64))) (.sl (.sl (.fz (.int .i64))))))))))] [0, 3] (.s .n (.s (.s .n (.s (.s .n (.l [(2, (.ad 2 [.de])), (4, (.ref 800004 [])), (5, (.ad 5 [.de])), (7, (.ref 800007 [])), (8, (.d (.int .i64)))] [(2, (.pt (.p (.fz (.int .i64)) (.p (.sl (.fz (.int .i64))) (.p (.sl (.fz (.int .i64))) (.p (.sl (.fz (.int .i64))) (.sl (.sl (.fz (.int .i64)))))))))), (800004, (.sl (.sl (.fz (.int .i64))))), (5, (.pt (.p (.fz (.int .i64)) (.p (.sl (.fz (.int .i64))) (.p (.sl (.fz (.int .i64))) (.p (.sl (.fz (.int .i64))) (.sl (.sl (.fz (.int .i64)))))))))), (800007, (.sl (.fz (.int .i64))))] [0, 3, 6] (.s .n (.s (.s .n (.s .n (.j [(2, (.ad 2 [.de])), (4, (.ref 800004 [])), (5, (.ad 5 [.de])), (7, (.ref 800007 []))] [(2, (.pt (.p (.fz (.int .i64)) (.p (.sl (.fz (.int .i64))) (.p (.sl (.fz (.int .i64))) (.p (.sl (.fz (.int .i64))) (.sl (.sl (.fz (.int .i64)))))))))), (800004, (.sl (.sl (.fz (.int .i64))))), (5, (.pt (.p (.fz (.int .i64)) (.p (.sl (.fz (.int .i64))) (.p (.sl (.fz (.int .i64))) (.p (.sl (.fz (.int .i64))) (.sl (.sl (.fz (.int .i64)))))))))), (800007, (.sl (.fz (.int .i64))))] [0, 3, 6, 8] .n))) .n)))) .n)) .n)))) (.s (.s .n (.l [(2, (.ad 2 [.de])), (5, (.ad 5 [.de])), (9, (.d (.int .i64)))] [(2, (.pt (.p (.fz (.int .i64)) (.p (.sl (.fz (.int .i64))) (.p (.sl (.fz (.int .i64))) (.p (.sl (.fz (.int .i64))) (.sl (.sl (.fz (.int .i64)))))))))), (5, (.pt (.p (.fz (.int .i64)) (.p (.sl (.fz (.int .i64))) (.p (.sl (.fz (.int .i64))) (.p (.sl (.fz (.int .i64))) (.sl (.sl (.fz (.int .i64))))))))))] [3, 4] .n)) (.s (.s .n (.l [(2, (.ad 2 [.de])), (5, (.ad 5 [.de])), (10, (.d (.int .i64)))] [(2, (.pt (.p (.fz (.int .i64)) (.p (.sl (.fz (.int .i64))) (.p (.sl (.fz (.int .i64))) (.p (.sl (.fz (.int .i64))) (.sl (.sl (.fz (.int .i64)))))))))), (5, (.pt (.p (.fz (.int .i64)) (.p (.sl (.fz (.int .i64))) (.p (.sl (.fz (.int .i64))) (.p (.sl (.fz (.int .i64))) (.sl (.sl (.fz (.int .i64))))))))))] [4] (.s .n (.s (.s .n (.s (.s .n (.l [(2, (.ad 2 [.de])), (5, (.ad 5 [.de])), (11, (.ref 800011 [])), (12, (.d (.int .i64)))] [(2, (.pt (.p (.fz (.int .i64)) (.p (.sl (.fz (.int .i64))) (.p (.sl (.fz (.int .i64))) (.p (.sl (.fz (.int .i64))) (.sl (.sl (.fz (.int .i64)))))))))), (5, (.pt (.p (.fz (.int .i64)) (.p (.sl (.fz (.int .i64))) (.p (.sl (.fz (.int .i64))) (.p (.sl (.fz (.int .i64))) (.sl (.sl (.fz (.int .i64)))))))))), (800011, (.sl (.fz (.int .i64))))] [4, 10] (.s .n (.s (.s .n (.s (.s .n (.j [(2, (.ad 2 [.de])), (5, (.ad 5 [.de])), (11, (.ref 800011 [])), (13, (.d (.int .i64)))] [(2, (.pt (.p (.fz (.int .i64)) (.p (.sl (.fz (.int .i64))) (.p (.sl (.fz (.int .i64))) (.p (.sl (.fz (.int .i64))) (.sl (.sl (.fz (.int .i64)))))))))), (5, (.pt (.p (.fz (.int .i64)) (.p (.sl (.fz (.int .i64))) (.p (.sl (.fz (.int .i64))) (.p (.sl (.fz (.int .i64))) (.sl (.sl (.fz (.int .i64)))))))))), (800011, (.sl (.fz (.int .i64))))] [4, 10, 12] .n)) .n)) .n)))) .n)) .n)))) .n))))))) (cutL [(19, 10), (28, 10), (29, 13)]) (by kernel_rfl) (by kernel_rfl) k_spec_l03Poset (by decide) (fun x K => W_spec_l03Poset x.1 K) w_spec_l03Poset (fun x h1 h2 => m_spec_l03Poset x.1 h1 h2)
def oneCR (_ : Unit) : CategoryD := (1, ([0], ([0], ([0], [[0]]))))
theorem one_shape : ShapeP (oneCR ()) := shape_iff.1 (by decide)

def c_spec_l09One : Ct := ⟨[], [], fun x => [], [(true, CategoryO)], fun x => (oneCR (), ()), false, none⟩
def W_spec_l09One (K : CategoryD × Unit → Prop) : Prop := (((((1 : Int) :: ([] : List Int)) :: ([] : List (List Int))) = (((1 : Int) :: ([] : List Int)) :: ([] : List (List Int)))) ∧ (K ((posR (((1 : Int) :: ([] : List Int)) :: ([] : List (List Int)))), ())))
theorem w_spec_l09One (x : denL c_spec_l09One.args) (K : CategoryD × Unit → Prop) : evF tab (lkp [(155, c_spec_l03Poset)]) (cutL []) Try.f144 (bodyOf Try.f144) .n c_spec_l09One x K = W_spec_l09One  K := by kernel_rfl
theorem k_spec_l09One : okC Try.f144.ntmps (cutL []) (bodyOf Try.f144) = true := by kernel_rfl
theorem m_spec_l09One (hok : allP (okL c_spec_l09One.args (()))) (hpre : allP (c_spec_l09One.pre (()))) : W_spec_l09One  (fun r => r = c_spec_l09One.res (())) := by
  simp only [c_spec_l09One, okL, T.oks, T.ok, ap, allP, true_and, and_true, implies_true] at hok hpre
  try dsimp only [T.den] at hok
  try dsimp only [T.den] at hpre
  unfold W_spec_l09One
  exact ⟨rfl, rfl⟩
theorem ct_spec_l09One : CtOk Try.prog 144 c_spec_l09One :=
  ct_by (Φ := lkp [(155, c_spec_l03Poset)]) (good_cons ct_spec_l03Poset good_nil) tab_ok (by kernel_rfl) (fn := Try.f144) (c := bodyOf Try.f144) (by kernel_rfl) (by kernel_rfl) (by kernel_rfl) c_spec_l09One rfl .n (cutL []) (by kernel_rfl) (by kernel_rfl) k_spec_l09One (by decide) (fun x K => W_spec_l09One  K) w_spec_l09One (fun x h1 h2 => m_spec_l09One  h1 h2)
def c_spec_l09Point : Ct := ⟨[CategoryT, (.int .i64)], [true, false], fun x => [ShapeP x.1, 0 ≤ x.2.1, x.2.1 < x.1.1], [(true, FunctorO)], fun x => (constR (oneCR ()) x.1 x.2.1, ()), false, none⟩
def W_spec_l09Point (c : CategoryD) (x : Int) (K : FunctorD × Unit → Prop) : Prop := ((ShapeP (oneCR ())) ∧ ((ShapeP c) ∧ (((0 : Int) ≤ x) ∧ ((x < c.1) ∧ (K ((constR (oneCR ()) c x), ()))))))
theorem w_spec_l09Point (x : denL c_spec_l09Point.args) (K : FunctorD × Unit → Prop) : evF tab (lkp [(143, c_spec_l06Constant), (144, c_spec_l09One)]) (cutL [(1, 503)]) Try.f117 (bodyOf Try.f117) .n c_spec_l09Point x K = W_spec_l09Point x.1 x.2.1 K := by kernel_rfl
theorem k_spec_l09Point : okC Try.f117.ntmps (cutL [(1, 503)]) (bodyOf Try.f117) = true := by kernel_rfl
theorem m_spec_l09Point (c : CategoryD) (x : Int) (hok : allP (okL c_spec_l09Point.args (c, x, ()))) (hpre : allP (c_spec_l09Point.pre (c, x, ()))) : W_spec_l09Point c x (fun r => r = c_spec_l09Point.res (c, x, ())) := by
  simp only [c_spec_l09Point, okL, T.oks, T.ok, ap, allP, true_and, and_true, implies_true] at hok hpre
  try dsimp only [T.den] at hok
  try dsimp only [T.den] at hpre
  unfold W_spec_l09Point
  exact ⟨one_shape, hpre.1, hpre.2.1, hpre.2.2, rfl⟩
theorem ct_spec_l09Point : CtOk Try.prog 117 c_spec_l09Point :=
  ct_by (Φ := lkp [(143, c_spec_l06Constant), (144, c_spec_l09One)]) (good_cons ct_spec_l06Constant (good_cons ct_spec_l09One good_nil)) tab_ok (by kernel_rfl) (fn := Try.f117) (c := bodyOf Try.f117) (by kernel_rfl) (by kernel_rfl) (by kernel_rfl) c_spec_l09Point rfl .n (cutL [(1, 503)]) (by kernel_rfl) (by kernel_rfl) k_spec_l09Point (by decide) (fun x K => W_spec_l09Point x.1 x.2.1 K) w_spec_l09Point (fun x h1 h2 => m_spec_l09Point x.1 x.2.1 h1 h2)
def ptR (f : FunctorD) (x : Int) : FunctorD := constR (oneCR ()) f.2.1 x
def fprsR (f : FunctorD) (x : Int) : List (List Int) := (arrsR (ptR f x) f (objsR (ptR f x) f)).flatMap fun a => [[a.getD 0 0, a.getD 1 0]]
def fin1SR (f : FunctorD) (x : Int) : Bool := (normR (labJR ((objsR (ptR f x) f).length : Nat) (fprsR f x))).all (fun k => k == 0) && !(((objsR (ptR f x) f).length : Int) == 0)
def finSR (f : FunctorD) : Bool := allB f.2.1.1.toNat (fin1SR f)
theorem FunP.fit2 {f : FunctorD} (h : FunP f) : FitP2 f := ⟨h.src, h.tgt, h.fit.lo, h.fit.la, h.fit.aw⟩
theorem FunP.pt {f : FunctorD} (h : FunP f) {x : Int} (x0 : 0 ≤ x) (x1 : x < f.2.1.1) : FitP2 (ptR f x) := by
  refine ⟨one_shape, h.tgt, rfl, rfl, ?_⟩
  have hi := h.tgt.idn x0 x1
  refine within_iff.2 fun i i0 i1 => ?_
  have i1 : i < (1 : Int) := i1
  have e : i = 0 := by omega
  subst e
  exact ⟨hi.1, hi.2.1⟩
theorem objs_mem {f g : FunctorD} {r : List Int} : r ∈ objsR f g ↔ ∃ a : Int, (0 ≤ a ∧ a < f.1.1.toNat) ∧ ∃ b : Int, (0 ≤ b ∧ b < g.1.1.toNat) ∧ ∃ h ∈ homR f.2.1 (f.2.2.1.getD a.toNat 0) (g.2.2.1.getD b.toNat 0), r = [a, b, h] := by
  simp only [objsR, List.mem_flatten, tabN_mem]
  constructor
  · rintro ⟨_, ⟨a, a0, a1, rfl⟩, hr⟩
    simp only [objColR, List.mem_flatten, tabN_mem] at hr
    obtain ⟨_, ⟨b, b0, b1, rfl⟩, hr⟩ := hr
    unfold objRowR at hr
    exact ⟨a, ⟨a0, a1⟩, b, ⟨b0, b1⟩, List.mem_flatMap.1 hr |>.elim fun h hh => ⟨h, hh.1, List.mem_singleton.1 hh.2⟩⟩
  · rintro ⟨a, ⟨a0, a1⟩, b, ⟨b0, b1⟩, hr⟩
    refine ⟨_, ⟨a, a0, a1, rfl⟩, ?_⟩
    simp only [objColR, List.mem_flatten, tabN_mem]
    refine ⟨_, ⟨b, b0, b1, rfl⟩, ?_⟩
    unfold objRowR
    obtain ⟨h, hh, e⟩ := hr
    exact List.mem_flatMap.2 ⟨h, hh, List.mem_singleton.2 e⟩
theorem objs_ok {f g : FunctorD} (F : FitP2 f) (G : FitP2 g) : ObjP f g (objsR f g) := by
  refine ⟨objs_len F G, fun r hr => ?_⟩
  obtain ⟨a, _, b, _, h, hh, rfl⟩ := objs_mem.1 hr
  obtain ⟨h0, h1, _⟩ := hom_mem.1 hh
  exact ⟨rfl, h0, h1⟩
theorem arr1_mem {f g : FunctorD} {s t a b : Int} {x y r : List Int} : r ∈ arr1R f g s t x y a b ↔ compR f.2.1 (f.2.2.2.getD a.toNat 0) (y.getD 2 0) = compR f.2.1 (x.getD 2 0) (g.2.2.2.getD b.toNat 0) ∧ r = [s, t, a, b] := by
  unfold arr1R
  split
  · rename_i h; rw [List.mem_singleton]; exact ⟨fun e => ⟨h, e⟩, fun e => e.2⟩
  · rename_i h; exact ⟨fun e => absurd e (by simp), fun e => absurd e.1 h⟩
theorem arrs_mem {f g : FunctorD} {l : List (List Int)} {r : List Int} : r ∈ arrsR f g l ↔ ∃ s : Int, (0 ≤ s ∧ s < l.length) ∧ ∃ t : Int, (0 ≤ t ∧ t < l.length) ∧ ∃ a ∈ homR f.1 ((l.getD s.toNat []).getD 0 0) ((l.getD t.toNat []).getD 0 0), ∃ b ∈ homR g.1 ((l.getD s.toNat []).getD 1 0) ((l.getD t.toNat []).getD 1 0), compR f.2.1 (f.2.2.2.getD a.toNat 0) ((l.getD t.toNat []).getD 2 0) = compR f.2.1 ((l.getD s.toNat []).getD 2 0) (g.2.2.2.getD b.toNat 0) ∧ r = [s, t, a, b] := by
  unfold arrsR
  simp only [List.mem_flatten, tabN_mem]
  constructor
  · rintro ⟨_, ⟨s, s0, s1, rfl⟩, hr⟩
    simp only [arr5R, List.mem_flatten, tabN_mem] at hr
    obtain ⟨_, ⟨t, t0, t1, rfl⟩, hr⟩ := hr
    simp only [arr4R, arr3R, arr2R, List.mem_flatMap, arr1_mem] at hr
    exact ⟨s, ⟨s0, s1⟩, t, ⟨t0, t1⟩, hr⟩
  · rintro ⟨s, ⟨s0, s1⟩, t, ⟨t0, t1⟩, hr⟩
    refine ⟨_, ⟨s, s0, s1, rfl⟩, ?_⟩
    simp only [arr5R, List.mem_flatten, tabN_mem]
    refine ⟨_, ⟨t, t0, t1, rfl⟩, ?_⟩
    simp only [arr4R, arr3R, arr2R, List.mem_flatMap, arr1_mem]
    exact hr
theorem fprs_len {f : FunctorD} (F : FunP f) {x : Int} (x0 : 0 ≤ x) (x1 : x < f.2.1.1) : (fprsR f x).length ≤ 10485760000 := by
  have h1 := arrs_len (F.pt x0 x1).src F.src (objs_len (F.pt x0 x1) F.fit2)
  have h2 := @flatMap_le _ _ 1 (fun a : List Int => [[a.getD 0 0, a.getD 1 0]]) (arrsR (ptR f x) f (objsR (ptR f x) f)) fun _ _ => by simp
  unfold fprsR; omega
theorem fprs_ok {f : FunctorD} (F : FunP f) {x : Int} (x0 : 0 ≤ x) (x1 : x < f.2.1.1) : PrsP ((objsR (ptR f x) f).length : Nat) (fprsR f x) := by
  refine ⟨by have := fprs_len F x0 x1; omega, fun k k0 k1 => ?_⟩
  have hm := getD_mem (fprsR f x) [] k0 k1
  generalize (fprsR f x).getD k.toNat [] = r at *
  simp only [fprsR, List.mem_flatMap, List.mem_singleton] at hm
  obtain ⟨q, hq, rfl⟩ := hm
  obtain ⟨s, hs, t, ht, a, _, b, _, _, rfl⟩ := arrs_mem.1 hq
  exact ⟨by simp, hs, ht⟩

def c_spec_l09Final : Ct := ⟨[FunctorT], [true], fun x => [FunP x.1], [(false, (.fz .bool))], fun x => (finSR x.1, ()), false, none⟩
def W_spec_l09Final (f : FunctorD) (K : Bool × Unit → Prop) : Prop := (loopW (S := ((Int × Unit) × Unit)) (fun s => (fun next => ((inK IntKind.i64 s.1.1) → (cnd (decide (s.1.1 < f.2.1.1)) ((ShapeP f.2.1) ∧ (((0 : Int) ≤ s.1.1) ∧ ((s.1.1 < f.2.1.1) ∧ ((FitP2 (constR (oneCR ()) f.2.1 s.1.1)) ∧ ((FitP2 f) ∧ ((FitP2 (constR (oneCR ()) f.2.1 s.1.1)) ∧ ((FitP2 f) ∧ (((constR (oneCR ()) f.2.1 s.1.1).2.1 = f.2.1) ∧ ((ObjP (constR (oneCR ()) f.2.1 s.1.1) f (objsR (constR (oneCR ()) f.2.1 s.1.1) f)) ∧ (loopW (S := ((Unit × (Int × Unit)) × ((List (List Int)) × Unit))) (fun s1 => (fun next1 => ((inK IntKind.i64 s1.1.2.1) → ((T.ok (T.sl (T.sl (T.int IntKind.i64))) s1.2.1) → (cnd (decide (s1.1.2.1 < (((List.length (arrsR (constR (oneCR ()) f.2.1 s.1.1) f (objsR (constR (oneCR ()) f.2.1 s.1.1) f))) : Nat) : Int))) (((0 : Int) ≤ s1.1.2.1) ∧ ((s1.1.2.1 < (((List.length (arrsR (constR (oneCR ()) f.2.1 s.1.1) f (objsR (constR (oneCR ()) f.2.1 s.1.1) f))) : Nat) : Int)) ∧ (((0 : Int) ≤ (0 : Int)) ∧ (((0 : Int) < (((List.length (List.getD (arrsR (constR (oneCR ()) f.2.1 s.1.1) f (objsR (constR (oneCR ()) f.2.1 s.1.1) f)) (Int.toNat s1.1.2.1) ([] : List Int))) : Nat) : Int)) ∧ (((0 : Int) ≤ s1.1.2.1) ∧ ((s1.1.2.1 < (((List.length (arrsR (constR (oneCR ()) f.2.1 s.1.1) f (objsR (constR (oneCR ()) f.2.1 s.1.1) f))) : Nat) : Int)) ∧ (((0 : Int) ≤ (1 : Int)) ∧ (((1 : Int) < (((List.length (List.getD (arrsR (constR (oneCR ()) f.2.1 s.1.1) f (objsR (constR (oneCR ()) f.2.1 s.1.1) f)) (Int.toNat s1.1.2.1) ([] : List Int))) : Nat) : Int)) ∧ ((room (List.length s1.2.1) (List.length (((List.getD (List.getD (arrsR (constR (oneCR ()) f.2.1 s.1.1) f (objsR (constR (oneCR ()) f.2.1 s.1.1) f)) (Int.toNat s1.1.2.1) ([] : List Int)) (Int.toNat (0 : Int)) (0 : Int)) :: ((List.getD (List.getD (arrsR (constR (oneCR ()) f.2.1 s.1.1) f (objsR (constR (oneCR ()) f.2.1 s.1.1) f)) (Int.toNat s1.1.2.1) ([] : List Int)) (Int.toNat (1 : Int)) (0 : Int)) :: ([] : List Int))) :: ([] : List (List Int)))) 24) ∧ ((inK IntKind.i64 (s1.1.2.1 + (1 : Int))) ∧ (next1 (((), ((s1.1.2.1 + (1 : Int)), ())), ((s1.2.1 ++ (((List.getD (List.getD (arrsR (constR (oneCR ()) f.2.1 s.1.1) f (objsR (constR (oneCR ()) f.2.1 s.1.1) f)) (Int.toNat s1.1.2.1) ([] : List Int)) (Int.toNat (0 : Int)) (0 : Int)) :: ((List.getD (List.getD (arrsR (constR (oneCR ()) f.2.1 s.1.1) f (objsR (constR (oneCR ()) f.2.1 s.1.1) f)) (Int.toNat s1.1.2.1) ([] : List Int)) (Int.toNat (1 : Int)) (0 : Int)) :: ([] : List Int))) :: ([] : List (List Int)))), ()))))))))))))) (((0 : Int) ≤ (((List.length (objsR (constR (oneCR ()) f.2.1 s.1.1) f)) : Nat) : Int)) ∧ (((((List.length (objsR (constR (oneCR ()) f.2.1 s.1.1) f)) : Nat) : Int) ≤ (1099511627776 : Int)) ∧ ((PrsP (((List.length (objsR (constR (oneCR ()) f.2.1 s.1.1) f)) : Nat) : Int) s1.2.1) ∧ (loopW (S := ((Int × Unit) × Unit)) (fun s2 => (fun next2 => ((inK IntKind.i64 s2.1.1) → (cnd (decide (s2.1.1 < (((List.length (normR (labJR (((List.length (objsR (constR (oneCR ()) f.2.1 s.1.1) f)) : Nat) : Int) s1.2.1))) : Nat) : Int))) (((0 : Int) ≤ s2.1.1) ∧ ((s2.1.1 < (((List.length (normR (labJR (((List.length (objsR (constR (oneCR ()) f.2.1 s.1.1) f)) : Nat) : Int) s1.2.1))) : Nat) : Int)) ∧ (cnd ((List.getD (normR (labJR (((List.length (objsR (constR (oneCR ()) f.2.1 s.1.1) f)) : Nat) : Int) s1.2.1)) (Int.toNat s2.1.1) (0 : Int)) != (0 : Int)) (K (Bool.false, ())) ((inK IntKind.i64 (s2.1.1 + (1 : Int))) ∧ (next2 (((s2.1.1 + (1 : Int)), ()), ())))))) (cnd ((((List.length (objsR (constR (oneCR ()) f.2.1 s.1.1) f)) : Nat) : Int) == (0 : Int)) (K (Bool.false, ())) ((inK IntKind.i64 (s.1.1 + (1 : Int))) ∧ (next (((s.1.1 + (1 : Int)), ()), ())))))))) (((0 : Int), ()), ())))))))))) (((), ((0 : Int), ())), (([] : List (List Int)), ())))))))))))) (K (Bool.true, ())))))) (((0 : Int), ()), ()))
theorem w_spec_l09Final (x : denL c_spec_l09Final.args) (K : Bool × Unit → Prop) : evF tab (lkp [(120, c_spec_l01Join), (119, c_spec_l09Arrows), (118, c_spec_l09Objects), (117, c_spec_l09Point)]) (cutL [(11, 15)]) Try.f70 (bodyOf Try.f70) (.s .n (.s (.s .n (.l [(3, (.d (.int .i64)))] [] [1] (.s .n (.s (.s .n (.s .n (.s .n (.s .n (.s (.s .n (.l [(7, (.ref 800007 [])), (8, (.d (.int .i64)))] [(800007, (.sl (.fz (.sl (.int .i64)))))] [1, 3, 5, 6] .n)) (.s .n (.s (.s .n (.l [(10, (.d (.int .i64)))] [] [1, 3, 5, 9] .n)) .n))))))) .n)))) .n)) c_spec_l09Final x K = W_spec_l09Final x.1 K := by kernel_rfl
theorem k_spec_l09Final : okC Try.f70.ntmps (cutL [(11, 15)]) (bodyOf Try.f70) = true := by kernel_rfl
theorem m_spec_l09Final (f : FunctorD) (hok : allP (okL c_spec_l09Final.args (f, ()))) (hpre : allP (c_spec_l09Final.pre (f, ()))) : W_spec_l09Final f (fun r => r = c_spec_l09Final.res (f, ())) := by
  simp only [c_spec_l09Final, okL, T.oks, T.ok, ap, allP, true_and, and_true, implies_true] at hok hpre
  try dsimp only [T.den] at hok
  try dsimp only [T.den] at hpre
  unfold W_spec_l09Final
  have F : FunP f := hpre
  clear hok hpre
  have h1 := F.tgt.ob
  refine loop_ix (n := f.2.1.1) (fun i => allB i.toNat (fin1SR f) = true) h1.1 rfl ?_ ?_
  · intro x next x0 x1 hP hn _
    try dsimp only at hn ⊢
    have hbad : fin1SR f x = false → finSR f = false := fun h => by
      cases hb : finSR f with
      | false => rfl
      | true => rw [finSR, allB_iff] at hb; have := hb x x0 (by omega); rw [h] at this; cases this
    have hgood : fin1SR f x = true → allB (x + 1).toNat (fin1SR f) = true := fun h => by rw [allB_s x0, hP, h]; rfl
    have hpt := F.pt x0 x1
    have ho := objs_ok hpt F.fit2
    have hol := ho.n
    have hpl := fprs_len F x0 x1
    have hal := arrs_len hpt.src F.src hol
    have hprs := fprs_ok F x0 x1
    have ham : ∀ r ∈ arrsR (ptR f x) f (objsR (ptR f x) f), r.length = 4 := fun r hr => by
      obtain ⟨s, hs, t, ht, a, _, b, _, _, rfl⟩ := arrs_mem.1 hr; rfl
    refine cnd_d (fun _ => ⟨F.tgt, x0, x1, hpt, F.fit2, hpt, F.fit2, rfl, ho, ?_⟩) (fun h => absurd x1 h)
    refine loop_cat (arrsR (ptR f x) f (objsR (ptR f x) f)) [] (fun a => [[a.getD 0 0, a.getD 1 0]]) [] 1 (fun _ _ => by simp) ?_ ?_
    · intro i out next2 i0 i1 hb hn2 _ _
      try dsimp only at hn2 ⊢
      simp only [List.length_cons, List.length_nil] at hb
      have hr := ham _ (getD_mem _ [] i0 i1)
      exact cnd_d (fun _ => ⟨i0, i1, by decide, by erw [hr]; decide, i0, i1, by decide, by erw [hr]; decide, room_of (by simp only [List.length_cons, List.length_nil]; omega), by rw [inK64]; (try dsimp only); omega, hn2⟩) (fun h => absurd i1 h)
    · intro next2 _ _
      refine cnd_d (fun h => absurd h (Int.lt_irrefl _)) (fun _ => ⟨by omega, by dsimp only [ptR] at hol; omega, hprs, ?_⟩)
      show loopW _ _
      have hpr : ([] ++ (arrsR (ptR f x) f (objsR (ptR f x) f)).flatMap fun a => [[a.getD 0 0, a.getD 1 0]]) = fprsR f x := rfl
      simp only [hpr]
      have hpx : constR (oneCR ()) f.2.1 x = ptR f x := rfl
      simp only [hpx]
      have hll : (normR (labJR ((objsR (ptR f x) f).length : Nat) (fprsR f x))).length ≤ 2560 := by
        unfold normR
        rw [List.length_map]
        unfold labJR
        rw [lab_len (n := ((objsR (ptR f x) f).length : Nat)) _ _ (by unfold numR; rw [tabN_len])]
        omega
      refine loop_all (normR (labJR ((objsR (ptR f x) f).length : Nat) (fprsR f x))) 0 (fun k => k == 0) ?_ ?_
      · intro k next3 k0 k1 hf ht _
        try dsimp only at ht ⊢
        refine cnd_d (fun _ => ⟨k0, k1, cnd_of (fun hx => ?_) (fun hx => ⟨by rw [inK64]; (try dsimp only); omega, ht (by simpa using hx)⟩)⟩) (fun h => absurd k1 h)
        have : fin1SR f x = false := by
          unfold fin1SR
          rw [hf (by simpa using hx)]; rfl
        simp only [c_spec_l09Final, hbad this]
      · intro next3 ht _
        refine cnd_d (fun h => absurd h (Int.lt_irrefl _)) (fun _ => ?_)
        refine cnd_of (fun hx => ?_) (fun hx => ⟨by rw [inK64]; (try dsimp only); omega, hn ?_⟩)
        · have hx : (((objsR (ptR f x) f).length : Int) == 0) = true := hx
          have : fin1SR f x = false := by
            unfold fin1SR
            rw [hx]; simp
          simp only [c_spec_l09Final, hbad this]
        · have hx : (((objsR (ptR f x) f).length : Int) == 0) = false := hx
          refine hgood ?_
          unfold fin1SR
          rw [ht, hx]; rfl
  · intro next hP _
    refine cnd_d (fun h => absurd h (Int.lt_irrefl _)) (fun _ => ?_)
    simp only [c_spec_l09Final, finSR, hP]
theorem ct_spec_l09Final : CtOk Try.prog 70 c_spec_l09Final :=
  ct_by (Φ := lkp [(120, c_spec_l01Join), (119, c_spec_l09Arrows), (118, c_spec_l09Objects), (117, c_spec_l09Point)]) (good_cons ct_spec_l01Join (good_cons ct_spec_l09Arrows (good_cons ct_spec_l09Objects (good_cons ct_spec_l09Point good_nil)))) tab_ok (by kernel_rfl) (fn := Try.f70) (c := bodyOf Try.f70) (by kernel_rfl) (by kernel_rfl) (by kernel_rfl) c_spec_l09Final rfl (.s .n (.s (.s .n (.l [(3, (.d (.int .i64)))] [] [1] (.s .n (.s (.s .n (.s .n (.s .n (.s .n (.s (.s .n (.l [(7, (.ref 800007 [])), (8, (.d (.int .i64)))] [(800007, (.sl (.fz (.sl (.int .i64)))))] [1, 3, 5, 6] .n)) (.s .n (.s (.s .n (.l [(10, (.d (.int .i64)))] [] [1, 3, 5, 9] .n)) .n))))))) .n)))) .n)) (cutL [(11, 15)]) (by kernel_rfl) (by kernel_rfl) k_spec_l09Final (by decide) (fun x K => W_spec_l09Final x.1 K) w_spec_l09Final (fun x h1 h2 => m_spec_l09Final x.1 h1 h2)
theorem cat_idl {c : CategoryD} (hc : catR c = true) {h : Int} (h0 : 0 ≤ h) (h1 : h < c.2.1.length) : compR c (c.2.2.2.1.getD (c.2.1.getD h.toNat 0).toNat 0) h = h := by
  simp only [catR, Bool.and_eq_true, beq_iff_eq] at hc
  have h2 := hc.2
  unfold faultR at h2
  cases h3 : scanR (faultI c) c.2.1.length 0 with
  | some v =>
    obtain ⟨j, hj⟩ := scan_some h3
    unfold faultI at hj
    split at hj
    · cases hj; rw [h3] at h2; simp [orR] at h2
    · cases hj
  | none =>
    have a1 := scan_none h3 h h0 (by omega)
    unfold faultI at a1
    split at a1
    · cases a1
    · rename_i h4
      exact Decidable.byContradiction fun e => h4 (.inl e)
/-- a numbering of the classes that pairs make -/
structure LabP (n : Int) (L : List (Int × Int)) (g : Int → Int) : Prop where
  r : ∀ p ∈ L, g p.1 = g p.2
  f : ∀ h : Int → Int, (∀ p ∈ L, h p.1 = h p.2) → ∀ s t : Int, 0 ≤ s → s < n → 0 ≤ t → t < n → g s = g t → h s = h t
def RanP (n : Int) (L : List (Int × Int)) : Prop := ∀ p ∈ L, (0 ≤ p.1 ∧ p.1 < n) ∧ (0 ≤ p.2 ∧ p.2 < n)
theorem lab_0 {n : Int} {g : Int → Int} (hg : ∀ s : Int, 0 ≤ s → s < n → g s = s) : LabP n [] g :=
  ⟨fun p hp => absurd hp (by simp), fun h _ s t s0 s1 t0 t1 e => by rw [hg s s0 s1, hg t t0 t1] at e; rw [e]⟩
theorem lab_congr {n : Int} {L L' : List (Int × Int)} {g : Int → Int} (h : ∀ p, p ∈ L' ↔ p ∈ L) (H : LabP n L g) : LabP n L' g :=
  ⟨fun p hp => H.r p ((h p).1 hp), fun k hk => H.f k fun p hp => hk p ((h p).2 hp)⟩
theorem lab_step {n : Int} {L : List (Int × Int)} {g g' : Int → Int} {a b : Int} (hr : RanP n L) (H : LabP n L g) (a0 : 0 ≤ a) (a1 : a < n) (b0 : 0 ≤ b) (b1 : b < n)
    (h : ∀ z : Int, 0 ≤ z → z < n → g' z = if g z = g b then g a else g z) : LabP n (L ++ [(a, b)]) g' := by
  constructor
  · intro p hp
    rcases List.mem_append.1 hp with hp | hp
    · obtain ⟨⟨p0, p1⟩, q0, q1⟩ := hr p hp
      rw [h _ p0 p1, h _ q0 q1, H.r p hp]
    · rw [List.mem_singleton] at hp
      subst hp
      show g' a = g' b
      rw [h a a0 a1, h b b0 b1, if_pos rfl]
      split <;> rfl
  · intro k hk s t s0 s1 t0 t1 e
    have hab : k a = k b := hk (a, b) (by simp)
    have hf := H.f k fun p hp => hk p (List.mem_append_left _ hp)
    rw [h s s0 s1, h t t0 t1] at e
    split at e <;> split at e
    · rename_i e1 e2; exact hf s t s0 s1 t0 t1 (e1.trans e2.symm)
    · rename_i e1 e2
      exact (hf s b s0 s1 b0 b1 e1).trans (hab.symm.trans (hf a t a0 a1 t0 t1 e))
    · rename_i e1 e2
      exact (hf s a s0 s1 a0 a1 e).trans (hab.trans (hf t b t0 t1 b0 b1 e2).symm)
    · exact hf s t s0 s1 t0 t1 e
theorem lab_step2 {n : Int} {L : List (Int × Int)} {g g' : Int → Int} {a b : Int} (hr : RanP n L) (H : LabP n L g) (a0 : 0 ≤ a) (a1 : a < n) (b0 : 0 ≤ b) (b1 : b < n)
    (h : ∀ z : Int, 0 ≤ z → z < n → g' z = if g z = g a then g b else g z) : LabP n (L ++ [(a, b)]) g' := by
  have K := lab_step hr H b0 b1 a0 a1 h
  constructor
  · intro p hp
    rcases List.mem_append.1 hp with hp | hp
    · exact K.r p (List.mem_append_left _ hp)
    · rw [List.mem_singleton] at hp
      subst hp
      exact (K.r (b, a) (by simp)).symm
  · intro k hk
    refine K.f k fun p hp => ?_
    rcases List.mem_append.1 hp with hp | hp
    · exact hk p (List.mem_append_left _ hp)
    · rw [List.mem_singleton] at hp
      subst hp
      exact (hk (a, b) (by simp)).symm
theorem lab_same {n : Int} {L : List (Int × Int)} {g h : Int → Int} (G : LabP n L g) (H : LabP n L h) {s t : Int} (s0 : 0 ≤ s) (s1 : s < n) (t0 : 0 ≤ t) (t1 : t < n) : g s = g t ↔ h s = h t :=
  ⟨G.f h H.r s t s0 s1 t0 t1, H.f g G.r s t s0 s1 t0 t1⟩
/-- labels that are merged -/
theorem lab_mrg {n : Int} (n0 : 0 ≤ n) : ∀ (ps : List (List Int)) (L : List (Int × Int)) (l : List Int), l.length = n.toNat → RanP n L → RanP n (ps.map fun r => (r.getD 0 0, r.getD 1 0)) → LabP n L (fun z => l.getD z.toNat 0) →
    LabP n (L ++ ps.map fun r => (r.getD 0 0, r.getD 1 0)) (fun z => (ps.foldl mrgSt l).getD z.toNat 0)
  | [], L, l, hl, hr, hp, H => by simpa using H
  | p :: ps, L, l, hl, hr, hp, H => by
    obtain ⟨⟨a0, a1⟩, b0, b1⟩ := hp (p.getD 0 0, p.getD 1 0) (by simp)
    have hr2 : RanP n (L ++ [(p.getD 0 0, p.getD 1 0)]) := fun q hq => by
      rcases List.mem_append.1 hq with hq | hq
      · exact hr q hq
      · rw [List.mem_singleton] at hq; subst hq; exact ⟨⟨a0, a1⟩, b0, b1⟩
    have K := @lab_step n L (fun z => l.getD z.toNat 0) (fun z => (mrgSt l p).getD z.toNat 0) (p.getD 0 0) (p.getD 1 0) hr H a0 a1 b0 b1 fun z z0 z1 => by
      show (mrgR l _ _).getD z.toNat 0 = _
      unfold mrgR
      rw [tabN_get z0 (by omega)]
    have := lab_mrg n0 ps (L ++ [(p.getD 0 0, p.getD 1 0)]) (mrgSt l p) (by unfold mrgSt; rw [mrg_len]; exact hl) hr2 (fun q hq => hp q (by rw [List.map_cons]; exact List.mem_cons_of_mem _ hq)) K
    rw [List.append_assoc] at this
    rw [List.foldl_cons, List.map_cons]
    exact this
/-- what is joined -/
theorem lab_join {n i : Int} {q : Int → Int} (i0 : 0 ≤ i) (i1 : i < n) : ∀ (l : List Int) (L : List (Int × Int)) (j : List Int), (∀ v ∈ l, 0 ≤ q v ∧ q v < n) → UfP j → (j.length : Int) = n → RanP n L → LabP n L (repR j) →
    LabP n (L ++ l.map fun v => (i, q v)) (repR (l.foldl (fun j v => (joinR j i (q v)).1) j)) ∧ UfP (l.foldl (fun j v => (joinR j i (q v)).1) j) ∧ ((l.foldl (fun j v => (joinR j i (q v)).1) j).length : Int) = n
  | [], L, j, hq, U, hl, hr, H => by simpa using ⟨H, U, hl⟩
  | v :: l, L, j, hq, U, hl, hr, H => by
    obtain ⟨b0, b1⟩ := hq v (by simp)
    obtain ⟨U2, hl2, hj⟩ := joinUf_ok U i0 (by omega) b0 (show q v < j.length by omega)
    have hr2 : RanP n (L ++ [(i, q v)]) := fun p hp => by
      rcases List.mem_append.1 hp with hp | hp
      · exact hr p hp
      · rw [List.mem_singleton] at hp; subst hp; exact ⟨⟨i0, i1⟩, b0, b1⟩
    have K : LabP n (L ++ [(i, q v)]) (repR (joinR j i (q v)).1) := by
      rcases hj with hj | hj
      · exact lab_step2 hr H i0 i1 b0 b1 fun z z0 z1 => hj z z0 (by omega)
      · exact lab_step hr H i0 i1 b0 b1 fun z z0 z1 => hj z z0 (by omega)
    have := lab_join i0 i1 l (L ++ [(i, q v)]) (joinR j i (q v)).1 (fun w hw => hq w (List.mem_cons_of_mem _ hw)) U2 (by omega) hr2 K
    rw [List.append_assoc] at this
    rw [List.foldl_cons, List.map_cons]
    exact this
def fLR (f : FunctorD) (x : Int) : Nat → List (Int × Int)
  | 0 => []
  | n + 1 => fLR f x n ++ (outR f.1 ((fobjR f x).getD n (0, 0)).1).map fun v => ((n : Int), fstepR f x ((fobjR f x).getD n (0, 0)) v)
theorem fL_mem {f : FunctorD} {x : Int} {p : Int × Int} : ∀ {n : Nat}, p ∈ fLR f x n ↔ ∃ s : Int, (0 ≤ s ∧ s < n) ∧ ∃ v ∈ outR f.1 ((fobjR f x).getD s.toNat (0, 0)).1, p = (s, fstepR f x ((fobjR f x).getD s.toNat (0, 0)) v)
  | 0 => by
    simp only [fLR, List.not_mem_nil, false_iff]
    rintro ⟨s, ⟨s0, s1⟩, _⟩; omega
  | n + 1 => by
    rw [fLR, List.mem_append, @fL_mem f x p n, List.mem_map]
    constructor
    · rintro (⟨s, hs, h⟩ | ⟨v, hv, rfl⟩)
      · exact ⟨s, ⟨hs.1, by omega⟩, h⟩
      · exact ⟨n, ⟨by omega, by omega⟩, v, by rw [Int.toNat_natCast]; exact hv, by rw [Int.toNat_natCast]⟩
    · rintro ⟨s, hs, v, hv, e⟩
      by_cases h : s < n
      · exact .inl ⟨s, ⟨hs.1, h⟩, v, hv, e⟩
      · have : s = n := by omega
        subst this
        rw [Int.toNat_natCast] at hv e
        exact .inr ⟨v, hv, e.symm⟩
theorem fL_ran {f : FunctorD} (F : FunP f) {x : Int} {n : Nat} (hn : n ≤ (fobjR f x).length) : RanP (fobjR f x).length (fLR f x n) := fun p hp => by
  obtain ⟨s, ⟨s0, s1⟩, v, hv, rfl⟩ := fL_mem.1 hp
  have := fstep_ok F (getD_mem (fobjR f x) (0, 0) s0 (by omega)) hv
  exact ⟨⟨s0, by dsimp only; omega⟩, this.1, this.2.1⟩
theorem fj_lab {f : FunctorD} (F : FunP f) {x : Int} : ∀ {n : Nat}, n ≤ (fobjR f x).length → LabP (fobjR f x).length (fLR f x n) (repR (fj2R f x n)) ∧ UfP (fj2R f x n) ∧ ((fj2R f x n).length : Int) = (fobjR f x).length
  | 0, _ => by
    have hl : (numR ((fobjR f x).length : Nat)).length = (fobjR f x).length := by unfold numR; rw [tabN_len, Int.toNat_natCast]
    refine ⟨lab_0 fun s s0 s1 => ?_, num_uf, by show ((numR _).length : Int) = _; rw [hl]⟩
    refine rep_fix num_uf s0 (by rw [hl]; exact s1) ?_
    unfold numR
    rw [Int.toNat_natCast, tabN_get s0 s1]
  | n + 1, hn => by
    obtain ⟨H, U, hl⟩ := @fj_lab f F x n (by omega)
    have hm := getD_mem (fobjR f x) (0, 0) (show 0 ≤ (n : Int) by omega) (by omega)
    rw [Int.toNat_natCast] at hm
    exact lab_join (by omega) (by omega) _ _ _ (fun v hv => by have := fstep_ok F hm hv; exact ⟨this.1, this.2.1⟩) U hl (fL_ran F (by omega)) H
theorem tabm_2 {α β : Type} {f : Int → α} {g : α → β} : ∀ n : Nat, (tabN n f).map g = tabN n fun x => g (f x)
  | 0 => rfl
  | n + 1 => by rw [tabN, List.map_append, tabm_2 n]; rfl
theorem seln_2 {p : Int → Bool} : ∀ n : Nat, (selR n p).Nodup
  | 0 => List.nodup_nil
  | n + 1 => by
    have ih := @seln_2 p n
    unfold selR
    split
    · rw [List.nodup_append]
      refine ⟨ih, by simp, fun a ha b hb => ?_⟩
      rw [List.mem_singleton] at hb
      have := (sel_mem.1 ha).2.1
      omega
    · exact ih
theorem objs_fobj {f : FunctorD} (F : FunP f) {x : Int} : objsR (ptR f x) f = (fobjR f x).map fun p => [0, p.1, p.2] := by
  have h1 : f.1.1.toNat = f.2.2.1.length := by have := F.fit.lo; omega
  unfold fobjR
  rw [List.map_flatten, tabm_2, ← h1]
  show ([] ++ [objColR (ptR f x) f 0]).flatten = _
  simp only [List.nil_append, List.flatten_cons, List.flatten_nil, List.append_nil, objColR]
  congr 1
  refine tabN_congr fun y _ _ => ?_
  rw [List.map_flatMap]
  rfl
theorem objs_get {f : FunctorD} (F : FunP f) {x s : Int} (s0 : 0 ≤ s) (s1 : s < (fobjR f x).length) : (objsR (ptR f x) f).getD s.toNat [] = [0, ((fobjR f x).getD s.toNat (0, 0)).1, ((fobjR f x).getD s.toNat (0, 0)).2] := by
  rw [objs_fobj F]
  simp only [List.getD_eq_getElem?_getD]
  rw [List.getElem?_map, List.getElem?_eq_getElem (by omega)]
  rfl
theorem tab_nodup {α : Type} {g : Int → List α} {n : Nat} (h1 : ∀ i : Int, (g i).Nodup) (h2 : ∀ (i j : Int) (v : α), v ∈ g i → v ∈ g j → i = j) : (tabN n g).flatten.Nodup := by
  induction n with
  | zero => exact List.nodup_nil
  | succ n ih =>
    rw [← tab_app, List.flatten_append, List.nodup_append]
    refine ⟨ih, by simpa using h1 n, fun v hv w hw e => ?_⟩
    subst e
    simp only [List.flatten_cons, List.flatten_nil, List.append_nil] at hw
    obtain ⟨l, hl, hvl⟩ := List.mem_flatten.1 hv
    obtain ⟨i, i0, i1, rfl⟩ := tabN_mem.1 hl
    have := h2 i n v hvl hw
    omega
theorem fobj_nodup {f : FunctorD} {x : Int} : (fobjR f x).Nodup := by
  refine tab_nodup (fun y => ?_) (fun y z v hv hw => ?_)
  · have h : ((homR f.2.1 x (f.2.2.1.getD y.toNat 0)).flatMap fun h => [(y, h)]) = (homR f.2.1 x (f.2.2.1.getD y.toNat 0)).map fun h => (y, h) := by
      rw [List.map_eq_flatMap]
    rw [h]
    exact List.Pairwise.map _ (fun a b hab e => hab (congrArg Prod.snd e)) (seln_2 _)
  · simp only [List.mem_flatMap, List.mem_singleton] at hv hw
    obtain ⟨_, _, rfl⟩ := hv
    obtain ⟨_, _, e⟩ := hw
    exact congrArg Prod.fst e
theorem nodup_at {α : Type} {l : List α} {z : α} (h : l.Nodup) {i j : Int} (i0 : 0 ≤ i) (i1 : i < l.length) (j0 : 0 ≤ j) (j1 : j < l.length) (e : l.getD i.toNat z = l.getD j.toNat z) : i = j := by
  simp only [List.getD_eq_getElem?_getD] at e
  rw [List.getElem?_eq_getElem (by omega), List.getElem?_eq_getElem (by omega)] at e
  have := (List.getElem_inj h).1 e
  omega
theorem pairs_same {f : FunctorD} (hf : funR f = true) {x : Int} (x0 : 0 ≤ x) (x1 : x < f.2.1.1) (p : Int × Int) : p ∈ (fprsR f x).map (fun r => (r.getD 0 0, r.getD 1 0)) ↔ p ∈ fLR f x (fobjR f x).length := by
  have F := fun_of hf
  have hc : catR f.2.1 = true := by simp only [funR, Bool.and_eq_true] at hf; exact hf.1.2
  have hl : (objsR (ptR f x) f).length = (fobjR f x).length := by rw [objs_fobj F, List.length_map]
  have hone : ∀ a b : Int, a ∈ homR (ptR f x).1 0 0 ↔ a = 0 := fun a _ => by
    rw [hom_mem]
    constructor
    · rintro ⟨a0, a1, _⟩
      have a1 : a < (1 : Int) := a1
      omega
    · rintro rfl; exact ⟨by decide, (by decide : (0 : Int) < 1), rfl, rfl⟩
  have hid : ∀ q ∈ fobjR f x, compR f.2.1 ((ptR f x).2.2.2.getD (0 : Int).toNat 0) q.2 = q.2 := fun q hq => by
    obtain ⟨h0, h1, h2, _⟩ := hom_mem.1 (fobj_mem.1 hq).2.2
    have := cat_idl hc h0 h1
    rw [h2] at this
    exact this
  have hlo := F.fit.lo
  rw [fL_mem, List.mem_map]
  constructor
  · rintro ⟨r, hr, rfl⟩
    simp only [fprsR, List.mem_flatMap, List.mem_singleton] at hr
    obtain ⟨q, hq, rfl⟩ := hr
    obtain ⟨s, ⟨s0, s1⟩, t, ⟨t0, t1⟩, a, ha, b, hb, he, rfl⟩ := arrs_mem.1 hq
    rw [hl] at s1 t1
    rw [objs_get F s0 s1, objs_get F t0 t1] at ha hb he
    have ha : a = 0 := (hone a 0).1 ha
    subst ha
    have hb : b ∈ homR f.1 ((fobjR f x).getD s.toNat (0, 0)).1 ((fobjR f x).getD t.toNat (0, 0)).1 := hb
    have he : compR f.2.1 ((ptR f x).2.2.2.getD (0 : Int).toNat 0) ((fobjR f x).getD t.toNat (0, 0)).2 = compR f.2.1 ((fobjR f x).getD s.toNat (0, 0)).2 (f.2.2.2.getD b.toNat 0) := he
    rw [hid _ (getD_mem _ _ t0 t1)] at he
    obtain ⟨b0, b1, b2, b3⟩ := hom_mem.1 hb
    have hbo : b ∈ outR f.1 ((fobjR f x).getD s.toNat (0, 0)).1 := out_mem.2 ⟨b0, b1, b2⟩
    refine ⟨s, ⟨s0, s1⟩, b, hbo, ?_⟩
    have hst := fstep_ok F (getD_mem (fobjR f x) (0, 0) s0 s1) hbo
    have : fstepR f x ((fobjR f x).getD s.toNat (0, 0)) b = t := by
      refine nodup_at (z := (0, 0)) fobj_nodup hst.1 hst.2.1 t0 t1 ?_
      rw [hst.2.2]
      exact Prod.ext b3 he.symm
    rw [this]
    rfl
  · rintro ⟨s, ⟨s0, s1⟩, b, hb, rfl⟩
    have hst := fstep_ok F (getD_mem (fobjR f x) (0, 0) s0 s1) hb
    obtain ⟨b0, b1, b2⟩ := out_mem.1 hb
    generalize ht : fstepR f x ((fobjR f x).getD s.toNat (0, 0)) b = t at *
    obtain ⟨t0, t1, t2⟩ := hst
    refine ⟨[s, t], ?_, rfl⟩
    simp only [fprsR, List.mem_flatMap, List.mem_singleton]
    refine ⟨[s, t, 0, b], arrs_mem.2 ⟨s, ⟨s0, by rw [hl]; exact s1⟩, t, ⟨t0, by rw [hl]; exact t1⟩, 0, ?_, b, ?_, ?_, rfl⟩, rfl⟩
    · rw [objs_get F s0 s1, objs_get F t0 t1]
      exact (hone 0 0).2 rfl
    · rw [objs_get F s0 s1, objs_get F t0 t1]
      show b ∈ homR f.1 ((fobjR f x).getD s.toNat (0, 0)).1 ((fobjR f x).getD t.toNat (0, 0)).1
      rw [t2]
      exact hom_mem.2 ⟨b0, b1, b2, rfl⟩
    · rw [objs_get F s0 s1, objs_get F t0 t1]
      show compR f.2.1 ((ptR f x).2.2.2.getD (0 : Int).toNat 0) ((fobjR f x).getD t.toNat (0, 0)).2 = compR f.2.1 ((fobjR f x).getD s.toNat (0, 0)).2 (f.2.2.2.getD b.toNat 0)
      rw [hid _ (getD_mem _ _ t0 t1), t2]
theorem ded_0 {l : List Int} (h : l ≠ []) {v : Int} (hv : ∀ k ∈ l, k = v) : idxR (dedR l) v = 0 := by
  cases l with
  | nil => exact absurd rfl h
  | cons a r =>
    have ha := hv a (by simp)
    subst ha
    have h1 : dedR ((a :: r).take 1) = [a] := rfl
    have h2 : idxR [a] a = 0 := by simp [idxR]
    have := @ded_ext (a :: r) 1 a (by rw [h1, h2]; omega)
    rw [this, h1, h2]
theorem norm_all {l : List Int} : (normR l).all (fun k => k == 0) = true ↔ ∀ s t : Int, 0 ≤ s → s < l.length → 0 ≤ t → t < l.length → l.getD s.toNat 0 = l.getD t.toNat 0 := by
  rw [List.all_eq_true]
  constructor
  · intro h s t s0 s1 t0 t1
    have key : ∀ v ∈ l, (dedR l).getD 0 0 = v := fun v hv => by
      have h1 := h (idxR (dedR l) v) (List.mem_map_of_mem hv)
      have h1 : idxR (dedR l) v = 0 := by simpa using h1
      have := ((idx_p (0 : Int)).1 (ded_in l [] (.inr hv))).2.2.1
      have h2 : idxR (l.foldl dedSt []) v = 0 := h1
      rw [h2] at this
      exact this
    rw [← key _ (getD_mem l 0 s0 s1), ← key _ (getD_mem l 0 t0 t1)]
  · intro h k hk
    obtain ⟨v, hv, rfl⟩ := List.mem_map.1 hk
    have hne : l ≠ [] := List.ne_nil_of_mem hv
    obtain ⟨m, hm, rfl⟩ := List.getElem_of_mem hv
    have : idxR (dedR l) l[m] = 0 := ded_0 hne fun w hw => by
      obtain ⟨i, hi, rfl⟩ := List.getElem_of_mem hw
      have := h i m (by omega) (by omega) (by omega) (by omega)
      simp only [Int.toNat_natCast, List.getD_eq_getElem?_getD, List.getElem?_eq_getElem hi, List.getElem?_eq_getElem hm, Option.getD_some] at this
      exact this
    rw [this]; rfl
theorem mx_ge (a b : Int) : a ≤ mxR a b ∧ b ≤ mxR a b := by unfold mxR; split <;> omega
theorem cls_2 : ∀ (p : List Int) (a : Int), 2 ≤ a → 2 ≤ p.foldl (fun n k => mxR n (k + 1)) a
  | [], a, h => h
  | k :: p, a, h => by
    rw [List.foldl_cons]
    exact cls_2 p _ (by have := mx_ge a (k + 1); omega)
theorem cls_1 : ∀ (p : List Int) (a : Int), (∀ k ∈ p, 0 ≤ k) → 0 ≤ a → a ≤ 1 → (p.foldl (fun n k => mxR n (k + 1)) a = 1 ↔ (a = 1 ∨ p ≠ []) ∧ p.all (fun k => k == 0) = true)
  | [], a, hp, a0, a1 => by simp
  | k :: p, a, hp, a0, a1 => by
    rw [List.foldl_cons]
    have hk := hp k (by simp)
    by_cases e : k = 0
    · subst e
      have : mxR a (0 + 1) = 1 := by unfold mxR; split <;> omega
      rw [this, cls_1 p 1 (fun k hk => hp k (List.mem_cons_of_mem _ hk)) (by decide) (by decide)]
      simp
    · have h2 := cls_2 p (mxR a (k + 1)) (by have := mx_ge a (k + 1); omega)
      constructor
      · intro h; omega
      · rintro ⟨_, h⟩
        simp [e] at h
theorem cls_one {l : List Int} : clsNR (normR l) = 1 ↔ l ≠ [] ∧ ∀ s t : Int, 0 ≤ s → s < l.length → 0 ≤ t → t < l.length → l.getD s.toNat 0 = l.getD t.toNat 0 := by
  have h := cls_1 (normR l) 0 (fun k hk => by
    obtain ⟨v, hv, rfl⟩ := List.mem_map.1 hk
    exact ((idx_p (0 : Int)).1 (ded_in l [] (.inr hv))).1) (by decide) (by decide)
  unfold clsNR
  rw [h, norm_all]
  have : normR l ≠ [] ↔ l ≠ [] := by unfold normR; simp
  rw [this]
  simp
theorem fin1_eq {f : FunctorD} (hf : funR f = true) {x : Int} (x0 : 0 ≤ x) (x1 : x < f.2.1.1) : fin1SR f x = fin1R f x := by
  have F := fun_of hf
  have hl : (objsR (ptR f x) f).length = (fobjR f x).length := by rw [objs_fobj F, List.length_map]
  obtain ⟨H2, U, hjl⟩ := @fj_lab f F x (fobjR f x).length (Nat.le_refl _)
  have hprs := fprs_ok F x0 x1
  rw [hl] at hprs
  have hran : RanP ((fobjR f x).length : Nat) ((fprsR f x).map fun r => (r.getD 0 0, r.getD 1 0)) := fun p hp => fL_ran F (Nat.le_refl _) p ((pairs_same hf x0 x1 p).1 hp)
  have H1 := @lab_mrg ((fobjR f x).length : Nat) (by omega) (fprsR f x) [] (numR ((fobjR f x).length : Nat)) (by unfold numR; rw [tabN_len]) (fun p hp => absurd hp (by simp)) hran (lab_0 fun s s0 s1 => by
    show (numR _).getD s.toNat 0 = s
    unfold numR; rw [Int.toNat_natCast, tabN_get s0 s1])
  rw [List.nil_append] at H1
  have H3 := lab_congr (fun p => (pairs_same hf x0 x1 p).symm) H1
  have hlen : (labJR ((fobjR f x).length : Nat) (fprsR f x)).length = (fobjR f x).length := by
    have := lab_len (n := ((fobjR f x).length : Nat)) (fprsR f x) (numR ((fobjR f x).length : Nat)) (by unfold numR; rw [tabN_len])
    rw [Int.toNat_natCast] at this
    exact this
  have e1 : fin1SR f x = true ↔ (fobjR f x) ≠ [] ∧ ∀ s t : Int, 0 ≤ s → s < (fobjR f x).length → 0 ≤ t → t < (fobjR f x).length → (labJR ((fobjR f x).length : Nat) (fprsR f x)).getD s.toNat 0 = (labJR ((fobjR f x).length : Nat) (fprsR f x)).getD t.toNat 0 := by
    unfold fin1SR
    rw [hl, Bool.and_eq_true, norm_all, hlen]
    have : (!(((fobjR f x).length : Int) == 0)) = true ↔ fobjR f x ≠ [] := by
      rw [Bool.not_eq_true', beq_eq_false_iff_ne, ← List.length_pos_iff]
      omega
    rw [this, and_comm]
  have e2 : fin1R f x = true ↔ (fobjR f x) ≠ [] ∧ ∀ s t : Int, 0 ≤ s → s < (fobjR f x).length → 0 ≤ t → t < (fobjR f x).length → repR (fj2R f x (fobjR f x).length) s = repR (fj2R f x (fobjR f x).length) t := by
    unfold fin1R
    rw [beq_iff_eq, cls_one, reps_len]
    have hn : repsR (fj2R f x (fobjR f x).length) ≠ [] ↔ fobjR f x ≠ [] := by
      rw [← List.length_pos_iff, ← List.length_pos_iff, reps_len]; omega
    have hg : ∀ s : Int, 0 ≤ s → s < (fobjR f x).length → (repsR (fj2R f x (fobjR f x).length)).getD s.toNat 0 = repR (fj2R f x (fobjR f x).length) s := fun s s0 s1 => by
      unfold repsR; rw [tabN_get s0 (by omega)]
    rw [hn]
    refine and_congr_right fun _ => ⟨fun h s t s0 s1 t0 t1 => ?_, fun h s t s0 s1 t0 t1 => ?_⟩
    · rw [← hg s s0 s1, ← hg t t0 t1]; exact h s t s0 (by omega) t0 (by omega)
    · rw [hg s s0 (by omega), hg t t0 (by omega)]; exact h s t s0 (by omega) t0 (by omega)
  rw [Bool.eq_iff_iff, e1, e2]
  exact and_congr_right fun _ => ⟨fun h s t s0 s1 t0 t1 => (lab_same H3 H2 s0 s1 t0 t1).1 (h s t s0 s1 t0 t1), fun h s t s0 s1 t0 t1 => (lab_same H3 H2 s0 s1 t0 t1).2 (h s t s0 s1 t0 t1)⟩
theorem fin_eq {f : FunctorD} (hf : funR f = true) : finSR f = finR f := by
  have h1 := (fun_of hf).tgt.ob
  rw [Bool.eq_iff_iff]
  unfold finSR finR
  rw [allB_iff, allB_iff]
  exact ⟨fun h x x0 x1 => by rw [← fin1_eq hf x0 (by omega)]; exact h x x0 x1, fun h x x0 x1 => by rw [fin1_eq hf x0 (by omega)]; exact h x x0 x1⟩

def c_spec_IsFinal : Ct := ⟨[FunctorT], [true], fun x => [], [(false, (.fz .bool)), (false, (.fz (.int .i64)))], fun x => ((funR x.1 && finR x.1), funCodeR x.1, ()), false, none⟩
def W_spec_IsFinal (f : FunctorD) (K : Bool × Int × Unit → Prop) : Prop := (cnd (!(funR f)) (K (Bool.false, ((1 : Int), ()))) ((FunP f) ∧ (K ((finSR f), ((0 : Int), ())))))
theorem w_spec_IsFinal (x : denL c_spec_IsFinal.args) (K : Bool × Int × Unit → Prop) : evF tab (lkp [(69, c_spec_l06Is), (70, c_spec_l09Final)]) (cutL []) Try.f37 (bodyOf Try.f37) .n c_spec_IsFinal x K = W_spec_IsFinal x.1 K := by kernel_rfl
theorem k_spec_IsFinal : okC Try.f37.ntmps (cutL []) (bodyOf Try.f37) = true := by kernel_rfl
theorem m_spec_IsFinal (f : FunctorD) (hok : allP (okL c_spec_IsFinal.args (f, ()))) (hpre : allP (c_spec_IsFinal.pre (f, ()))) : W_spec_IsFinal f (fun r => r = c_spec_IsFinal.res (f, ())) := by
  simp only [c_spec_IsFinal, okL, T.oks, T.ok, ap, allP, true_and, and_true, implies_true] at hok hpre
  try dsimp only [T.den] at hok
  try dsimp only [T.den] at hpre
  unfold W_spec_IsFinal
  have h1 := @fun_of f
  have h2 := @fin_eq f
  simp only [c_spec_IsFinal, funCodeR]
  grind [cnd, nb_eq, inK64]
theorem ct_spec_IsFinal : CtOk Try.prog 37 c_spec_IsFinal :=
  ct_by (Φ := lkp [(69, c_spec_l06Is), (70, c_spec_l09Final)]) (good_cons ct_spec_l06Is (good_cons ct_spec_l09Final good_nil)) tab_ok (by kernel_rfl) (fn := Try.f37) (c := bodyOf Try.f37) (by kernel_rfl) (by kernel_rfl) (by kernel_rfl) c_spec_IsFinal rfl .n (cutL []) (by kernel_rfl) (by kernel_rfl) k_spec_IsFinal (by decide) (fun x K => W_spec_IsFinal x.1 K) w_spec_IsFinal (fun x h1 h2 => m_spec_IsFinal x.1 h1 h2)
def c_laws_FnExactIsFinal : Ct := ⟨[FunctorT], [true], fun x => [], [(false, (.fz .bool))], fun x => (true, ()), false, none⟩
def W_laws_FnExactIsFinal (aF : FunctorD) (K : Bool × Unit → Prop) : Prop := (((-(4611404543450677248 : Int)) ≤ (1048576 : Int)) ∧ (cnd (decide ((szR (wR FunctorT aF) (1048576 : Int)) < (0 : Int))) (K (Bool.true, ())) (((wR FunctorT aF) ≤ 1099511627776) ∧ (((wR FunctorT aF) ≤ 1099511627776) ∧ (cnd ((((funR aF) && (finR aF)) != ((funR aF) && (finR aF))) || ((funCodeR aF) != (funCodeR aF))) (K (Bool.false, ())) (((wR FunctorT aF) ≤ 1099511627776) ∧ (cnd (!(eqR FunctorT aF aF)) (K (Bool.false, ())) (K (Bool.true, ())))))))))
theorem w_laws_FnExactIsFinal (x : denL c_laws_FnExactIsFinal.args) (K : Bool × Unit → Prop) : evF tab (lkp [(39, c_impl_IsFinal), (40, c_laws_eqFunctor), (36, c_laws_szFunctor), (38, c_laws_toFunctor), (37, c_spec_IsFinal)]) (cutL [(10, 5)]) Try.f9 (bodyOf Try.f9) .n c_laws_FnExactIsFinal x K = W_laws_FnExactIsFinal x.1 K := by kernel_rfl
theorem k_laws_FnExactIsFinal : okC Try.f9.ntmps (cutL [(10, 5)]) (bodyOf Try.f9) = true := by kernel_rfl
theorem m_laws_FnExactIsFinal (aF : FunctorD) (hok : allP (okL c_laws_FnExactIsFinal.args (aF, ()))) (hpre : allP (c_laws_FnExactIsFinal.pre (aF, ()))) : W_laws_FnExactIsFinal aF (fun r => r = c_laws_FnExactIsFinal.res (aF, ())) := by
  simp only [c_laws_FnExactIsFinal, okL, T.oks, T.ok, ap, allP, true_and, and_true, implies_true] at hok hpre
  try dsimp only [T.den] at hok
  try dsimp only [T.den] at hpre
  unfold W_laws_FnExactIsFinal
  generalize wR FunctorT aF = n1
  simp only [eqR_self]
  clear hok
  grind [cnd, nb_eq, inK64, szR, c_laws_FnExactIsFinal]
theorem ct_laws_FnExactIsFinal : CtOk Try.prog 9 c_laws_FnExactIsFinal :=
  ct_by (Φ := lkp [(39, c_impl_IsFinal), (40, c_laws_eqFunctor), (36, c_laws_szFunctor), (38, c_laws_toFunctor), (37, c_spec_IsFinal)]) (good_cons ct_impl_IsFinal (good_cons ct_laws_eqFunctor (good_cons ct_laws_szFunctor (good_cons ct_laws_toFunctor (good_cons ct_spec_IsFinal good_nil))))) tab_ok (by kernel_rfl) (fn := Try.f9) (c := bodyOf Try.f9) (by kernel_rfl) (by kernel_rfl) (by kernel_rfl) c_laws_FnExactIsFinal rfl .n (cutL [(10, 5)]) (by kernel_rfl) (by kernel_rfl) k_laws_FnExactIsFinal (by decide) (fun x K => W_laws_FnExactIsFinal x.1 K) w_laws_FnExactIsFinal (fun x h1 h2 => m_laws_FnExactIsFinal x.1 h1 h2)
end Go.Bm
