/- What the functions that FnExactIsSymmetry reaches give: for each its contract, what it asks, and the proof. No condition. -/
import Derived.Test.YtggboonopmhpaaaFnExactIsSymmetryFnsA
namespace Go.Bm
open Go.Proofs
set_option maxRecDepth 100000
set_option maxHeartbeats 1000000
set_option linter.unusedVariables false
set_option linter.unusedSimpArgs false
def c_spec_l02Fault : Ct := ⟨[CategoryT], [true], fun x => [ShapeP x.1], [(false, (.fz (.int .i64))), (false, (.fz (.int .i64))), (false, (.fz (.int .i64))), (false, (.fz (.int .i64)))], fun x => ((faultR x.1).1, (faultR x.1).2.1, (faultR x.1).2.2.1, (faultR x.1).2.2.2, ()), false⟩
def W_spec_l02Fault (c : CategoryD) (K : Int × Int × Int × Int × Unit → Prop) : Prop := (loopW (S := ((Int × Unit) × Unit)) (fun s => (fun next => ((inK IntKind.i64 s.1.1) → (cnd (decide (s.1.1 < (((List.length c.2.1) : Nat) : Int))) (((0 : Int) ≤ s.1.1) ∧ ((s.1.1 < (((List.length c.2.1) : Nat) : Int)) ∧ (((0 : Int) ≤ (List.getD c.2.1 (Int.toNat s.1.1) (0 : Int))) ∧ (((List.getD c.2.1 (Int.toNat s.1.1) (0 : Int)) < (((List.length c.2.2.2.1) : Nat) : Int)) ∧ (((0 : Int) ≤ (List.getD c.2.2.2.1 (Int.toNat (List.getD c.2.1 (Int.toNat s.1.1) (0 : Int))) (0 : Int))) ∧ (((List.getD c.2.2.2.1 (Int.toNat (List.getD c.2.1 (Int.toNat s.1.1) (0 : Int))) (0 : Int)) < (((List.length c.2.2.2.2) : Nat) : Int)) ∧ (((0 : Int) ≤ s.1.1) ∧ ((s.1.1 < (((List.length (List.getD c.2.2.2.2 (Int.toNat (List.getD c.2.2.2.1 (Int.toNat (List.getD c.2.1 (Int.toNat s.1.1) (0 : Int))) (0 : Int))) ([] : List Int))) : Nat) : Int)) ∧ (((((List.getD (List.getD c.2.2.2.2 (Int.toNat (List.getD c.2.2.2.1 (Int.toNat (List.getD c.2.1 (Int.toNat s.1.1) (0 : Int))) (0 : Int))) ([] : List Int)) (Int.toNat s.1.1) (0 : Int)) != s.1.1) = Bool.false) → ((s.1.1 < (((List.length c.2.2.2.2) : Nat) : Int)) ∧ ((0 : Int) ≤ s.1.1))) ∧ (((((List.getD (List.getD c.2.2.2.2 (Int.toNat (List.getD c.2.2.2.1 (Int.toNat (List.getD c.2.1 (Int.toNat s.1.1) (0 : Int))) (0 : Int))) ([] : List Int)) (Int.toNat s.1.1) (0 : Int)) != s.1.1) = Bool.false) → ((s.1.1 < (((List.length c.2.2.1) : Nat) : Int)) ∧ ((0 : Int) ≤ s.1.1))) ∧ (((((List.getD (List.getD c.2.2.2.2 (Int.toNat (List.getD c.2.2.2.1 (Int.toNat (List.getD c.2.1 (Int.toNat s.1.1) (0 : Int))) (0 : Int))) ([] : List Int)) (Int.toNat s.1.1) (0 : Int)) != s.1.1) = Bool.false) → (((List.getD c.2.2.1 (Int.toNat s.1.1) (0 : Int)) < (((List.length c.2.2.2.1) : Nat) : Int)) ∧ ((0 : Int) ≤ (List.getD c.2.2.1 (Int.toNat s.1.1) (0 : Int))))) ∧ (((((List.getD (List.getD c.2.2.2.2 (Int.toNat (List.getD c.2.2.2.1 (Int.toNat (List.getD c.2.1 (Int.toNat s.1.1) (0 : Int))) (0 : Int))) ([] : List Int)) (Int.toNat s.1.1) (0 : Int)) != s.1.1) = Bool.false) → (((List.getD c.2.2.2.1 (Int.toNat (List.getD c.2.2.1 (Int.toNat s.1.1) (0 : Int))) (0 : Int)) < (((List.length (List.getD c.2.2.2.2 (Int.toNat s.1.1) ([] : List Int))) : Nat) : Int)) ∧ ((0 : Int) ≤ (List.getD c.2.2.2.1 (Int.toNat (List.getD c.2.2.1 (Int.toNat s.1.1) (0 : Int))) (0 : Int))))) ∧ (cnd (((List.getD (List.getD c.2.2.2.2 (Int.toNat (List.getD c.2.2.2.1 (Int.toNat (List.getD c.2.1 (Int.toNat s.1.1) (0 : Int))) (0 : Int))) ([] : List Int)) (Int.toNat s.1.1) (0 : Int)) != s.1.1) || ((List.getD (List.getD c.2.2.2.2 (Int.toNat s.1.1) ([] : List Int)) (Int.toNat (List.getD c.2.2.2.1 (Int.toNat (List.getD c.2.2.1 (Int.toNat s.1.1) (0 : Int))) (0 : Int))) (0 : Int)) != s.1.1)) (K ((1 : Int), (s.1.1, ((0 : Int), ((0 : Int), ()))))) ((inK IntKind.i64 (s.1.1 + (1 : Int))) ∧ (next (((s.1.1 + (1 : Int)), ()), ())))))))))))))))) (loopW (S := ((Int × Unit) × Unit)) (fun s1 => (fun next1 => ((inK IntKind.i64 s1.1.1) → (cnd (decide (s1.1.1 < (((List.length c.2.1) : Nat) : Int))) (loopW (S := ((Int × Unit) × Unit)) (fun s2 => (fun next2 => ((inK IntKind.i64 s2.1.1) → (cnd (decide (s2.1.1 < (((List.length c.2.1) : Nat) : Int))) (joinW (S := (Unit × Unit)) (fun s3 => ((inK IntKind.i64 (s2.1.1 + (1 : Int))) ∧ (next2 (((s2.1.1 + (1 : Int)), ()), ())))) (fun k => (((0 : Int) ≤ s1.1.1) ∧ ((s1.1.1 < (((List.length c.2.2.1) : Nat) : Int)) ∧ (((0 : Int) ≤ s2.1.1) ∧ ((s2.1.1 < (((List.length c.2.1) : Nat) : Int)) ∧ (cnd ((List.getD c.2.2.1 (Int.toNat s1.1.1) (0 : Int)) != (List.getD c.2.1 (Int.toNat s2.1.1) (0 : Int))) (k ((), ())) (loopW (S := ((Int × Unit) × Unit)) (fun s3 => (fun next3 => ((inK IntKind.i64 s3.1.1) → (cnd (decide (s3.1.1 < (((List.length c.2.1) : Nat) : Int))) (((0 : Int) ≤ s2.1.1) ∧ ((s2.1.1 < (((List.length c.2.2.1) : Nat) : Int)) ∧ (((0 : Int) ≤ s3.1.1) ∧ ((s3.1.1 < (((List.length c.2.1) : Nat) : Int)) ∧ (((((List.getD c.2.2.1 (Int.toNat s2.1.1) (0 : Int)) == (List.getD c.2.1 (Int.toNat s3.1.1) (0 : Int))) = Bool.true) → ((s1.1.1 < (((List.length c.2.2.2.2) : Nat) : Int)) ∧ ((0 : Int) ≤ s1.1.1))) ∧ (((((List.getD c.2.2.1 (Int.toNat s2.1.1) (0 : Int)) == (List.getD c.2.1 (Int.toNat s3.1.1) (0 : Int))) = Bool.true) → ((s2.1.1 < (((List.length (List.getD c.2.2.2.2 (Int.toNat s1.1.1) ([] : List Int))) : Nat) : Int)) ∧ ((0 : Int) ≤ s2.1.1))) ∧ (((((List.getD c.2.2.1 (Int.toNat s2.1.1) (0 : Int)) == (List.getD c.2.1 (Int.toNat s3.1.1) (0 : Int))) = Bool.true) → (((List.getD (List.getD c.2.2.2.2 (Int.toNat s1.1.1) ([] : List Int)) (Int.toNat s2.1.1) (0 : Int)) < (((List.length c.2.2.2.2) : Nat) : Int)) ∧ ((0 : Int) ≤ (List.getD (List.getD c.2.2.2.2 (Int.toNat s1.1.1) ([] : List Int)) (Int.toNat s2.1.1) (0 : Int))))) ∧ (((((List.getD c.2.2.1 (Int.toNat s2.1.1) (0 : Int)) == (List.getD c.2.1 (Int.toNat s3.1.1) (0 : Int))) = Bool.true) → ((s3.1.1 < (((List.length (List.getD c.2.2.2.2 (Int.toNat (List.getD (List.getD c.2.2.2.2 (Int.toNat s1.1.1) ([] : List Int)) (Int.toNat s2.1.1) (0 : Int))) ([] : List Int))) : Nat) : Int)) ∧ ((0 : Int) ≤ s3.1.1))) ∧ (((((List.getD c.2.2.1 (Int.toNat s2.1.1) (0 : Int)) == (List.getD c.2.1 (Int.toNat s3.1.1) (0 : Int))) = Bool.true) → ((s1.1.1 < (((List.length c.2.2.2.2) : Nat) : Int)) ∧ ((0 : Int) ≤ s1.1.1))) ∧ (((((List.getD c.2.2.1 (Int.toNat s2.1.1) (0 : Int)) == (List.getD c.2.1 (Int.toNat s3.1.1) (0 : Int))) = Bool.true) → ((s2.1.1 < (((List.length c.2.2.2.2) : Nat) : Int)) ∧ ((0 : Int) ≤ s2.1.1))) ∧ (((((List.getD c.2.2.1 (Int.toNat s2.1.1) (0 : Int)) == (List.getD c.2.1 (Int.toNat s3.1.1) (0 : Int))) = Bool.true) → ((s3.1.1 < (((List.length (List.getD c.2.2.2.2 (Int.toNat s2.1.1) ([] : List Int))) : Nat) : Int)) ∧ ((0 : Int) ≤ s3.1.1))) ∧ (((((List.getD c.2.2.1 (Int.toNat s2.1.1) (0 : Int)) == (List.getD c.2.1 (Int.toNat s3.1.1) (0 : Int))) = Bool.true) → (((List.getD (List.getD c.2.2.2.2 (Int.toNat s2.1.1) ([] : List Int)) (Int.toNat s3.1.1) (0 : Int)) < (((List.length (List.getD c.2.2.2.2 (Int.toNat s1.1.1) ([] : List Int))) : Nat) : Int)) ∧ ((0 : Int) ≤ (List.getD (List.getD c.2.2.2.2 (Int.toNat s2.1.1) ([] : List Int)) (Int.toNat s3.1.1) (0 : Int))))) ∧ (cnd (((List.getD c.2.2.1 (Int.toNat s2.1.1) (0 : Int)) == (List.getD c.2.1 (Int.toNat s3.1.1) (0 : Int))) && ((List.getD (List.getD c.2.2.2.2 (Int.toNat (List.getD (List.getD c.2.2.2.2 (Int.toNat s1.1.1) ([] : List Int)) (Int.toNat s2.1.1) (0 : Int))) ([] : List Int)) (Int.toNat s3.1.1) (0 : Int)) != (List.getD (List.getD c.2.2.2.2 (Int.toNat s1.1.1) ([] : List Int)) (Int.toNat (List.getD (List.getD c.2.2.2.2 (Int.toNat s2.1.1) ([] : List Int)) (Int.toNat s3.1.1) (0 : Int))) (0 : Int)))) (K ((2 : Int), (s1.1.1, (s2.1.1, (s3.1.1, ()))))) ((inK IntKind.i64 (s3.1.1 + (1 : Int))) ∧ (next3 (((s3.1.1 + (1 : Int)), ()), ())))))))))))))))) (k ((), ())))))) (((0 : Int), ()), ()))))))))) ((inK IntKind.i64 (s1.1.1 + (1 : Int))) ∧ (next1 (((s1.1.1 + (1 : Int)), ()), ()))))))) (((0 : Int), ()), ())) (K ((0 : Int), ((0 : Int), ((0 : Int), ((0 : Int), ()))))))))) (((0 : Int), ()), ())))))) (((0 : Int), ()), ()))
theorem w_spec_l02Fault (x : denL c_spec_l02Fault.args) (K : Int × Int × Int × Int × Unit → Prop) : evF tab (lkp []) (cutL [(17, 44), (5, 38), (13, 11)]) Try.f94 (bodyOf Try.f94) (.s .n (.s .n (.s (.s .n (.l [(7, (.d (.int .i64)))] [] [1, 6] .n)) (.s (.s .n (.l [(8, (.d (.int .i64)))] [] [1, 6] (.s .n (.s (.s .n (.l [(9, (.d (.int .i64)))] [] [1, 6, 8] (.s .n (.s (.j [] [] [1, 6, 8, 9] (.s .n (.s .n (.l [(10, (.d (.int .i64)))] [] [1, 6, 8, 9] .n)))) .n)))) .n)))) .n)))) c_spec_l02Fault x K = W_spec_l02Fault x.1 K := by kernel_rfl
theorem k_spec_l02Fault : okC Try.f94.ntmps (cutL [(17, 44), (5, 38), (13, 11)]) (bodyOf Try.f94) = true := by kernel_rfl
theorem m_spec_l02Fault (c : CategoryD) (hok : allP (okL c_spec_l02Fault.args (c, ()))) (hpre : allP (c_spec_l02Fault.pre (c, ()))) : W_spec_l02Fault c (fun r => r = c_spec_l02Fault.res (c, ())) := by
  simp only [c_spec_l02Fault, okL, T.oks, T.ok, ap, allP, true_and, and_true, implies_true] at hok hpre
  try dsimp only [T.den] at hok
  try dsimp only [T.den] at hpre
  unfold W_spec_l02Fault
  have S : ShapeP c := hpre
  have hlt := S.lt
  have hli := S.li
  have hlc := S.lc
  have hmm := S.m
  have resq : ∀ a b d e, faultR c = (a, b, d, e) → (a, b, d, e, ()) = c_spec_l02Fault.res (c, ()) := fun a b d e h => by simp only [c_spec_l02Fault, h]
  have hcr : ∀ f g : Int, (c.2.2.2.2.getD f.toNat []).getD g.toNat 0 = compR c f g := fun _ _ => rfl
  simp only [hcr]
  refine loop_ix (n := c.2.1.length) (fun f => scanR (faultI c) c.2.1.length 0 = scanR (faultI c) ((c.2.1.length : Int) - f).toNat f) (by omega) scan_0 ?_ ?_
  · intro f next h0 h1 hP hn hin
    dsimp only
    obtain ⟨a1, a2, a3, a4⟩ := S.frm h0 h1
    obtain ⟨b1, b2, _, _⟩ := S.idn a1 a2
    obtain ⟨d1, d2, _, _⟩ := S.idn a3 a4
    have r1 := S.row _ b1 b2
    have r2 := S.row f h0 h1
    refine cnd_d (fun _ => ⟨h0, h1, by omega, by omega, by omega, by omega, h0, by omega, fun _ => by omega, fun _ => by omega, fun _ => by omega, fun _ => by omega, cnd_of (fun hx => resq _ _ _ _ ?_) (fun hx => ⟨by rw [inK64]; omega, hn ?_⟩)⟩) (fun h => absurd h1 h)
    · have : faultI c f = some (1, f, 0, 0) := by unfold faultI; rw [if_pos]; simpa using hx
      unfold faultR; rw [hP, scan_s h1 this]; rfl
    · have : faultI c f = none := by unfold faultI; rw [if_neg]; simpa using hx
      rw [hP, scan_c h1 this]
  intro next hI hin
  rw [scan_n] at hI
  refine cnd_d (fun h => absurd h (by dsimp only; omega)) (fun _ => ?_)
  have hF : faultR c = orR (scanR (faultF c) c.2.1.length 0) (0, 0, 0, 0) := by unfold faultR; rw [hI]; rfl
  refine loop_ix (n := c.2.1.length) (fun f => scanR (faultF c) c.2.1.length 0 = scanR (faultF c) ((c.2.1.length : Int) - f).toNat f) (by omega) scan_0 ?_ ?_
  · intro f next h0 h1 hP hn hin
    dsimp only
    refine cnd_d (fun _ => ?_) (fun h => absurd h1 h)
    have r1 := S.row f h0 h1
    refine loop_ix (n := c.2.1.length) (fun g => faultF c f = scanR (faultG c f) ((c.2.1.length : Int) - g).toNat g) (by omega) scan_0 ?_ ?_
    · intro g next3 g0 g1 hP3 hn3 hin3
      dsimp only
      refine cnd_d (fun _ => ?_) (fun h => absurd g1 h)
      have r2 := S.row g g0 g1
      refine join_of (fun _ => faultG c f g = none) (fun _ hG => ⟨by rw [inK64]; omega, hn3 (by rw [hP3, scan_c g1 hG])⟩) (fun k hk => ?_)
      have hk' := hk ((), ())
      refine ⟨by omega, by omega, by omega, by omega, cnd_of (fun hx => hk' ?_) (fun hx => ?_)⟩
      · unfold faultG; rw [if_neg]; simpa using hx
      have hfg : c.2.2.1.getD f.toNat 0 = c.2.1.getD g.toNat 0 := by rw [bne_eq_false_iff_eq] at hx; exact hx
      obtain ⟨y1, y2, _, _⟩ := S.yes h0 h1 g0 g1 hfg
      refine loop_ix (n := c.2.1.length) (fun h => faultG c f g = scanR (faultH c f g) ((c.2.1.length : Int) - h).toNat h) (by omega) (by unfold faultG; rw [if_pos hfg]; exact scan_0) ?_ ?_
      · intro h next4 i0 i1 hP4 hn4 hin4
        dsimp only
        refine cnd_d (fun _ => ?_) (fun h => absurd i1 h)
        have r3 := S.row _ y1 y2
        have cgh := S.comp g0 g1 i0 i1
        have ygh := @ShapeP.yes c S g h g0 g1 i0 i1
        refine ⟨by omega, by omega, by omega, by omega, fun _ => by omega, fun _ => by omega, fun _ => by omega, fun _ => by omega, fun _ => by omega, fun _ => by omega, fun _ => by omega, fun he => ?_, cnd_of (fun hx => resq _ _ _ _ ?_) (fun hx => ⟨by rw [inK64]; omega, hn4 ?_⟩)⟩
        · have := ygh (by simpa only [beq_iff_eq] using he); omega
        · have : faultH c f g h = some (2, f, g, h) := by unfold faultH; rw [if_pos]; simpa using hx
          have e1 : faultG c f g = some (2, f, g, h) := by rw [hP4, scan_s i1 this]
          have e2 : faultF c f = some (2, f, g, h) := by rw [hP3, scan_s g1 e1]
          rw [hF, hP, scan_s h1 e2]; rfl
        · have : faultH c f g h = none := by unfold faultH; rw [if_neg]; simpa using hx
          rw [hP4, scan_c i1 this]
      · intro next4 hP4 hin4
        rw [scan_n] at hP4
        exact cnd_d (fun h => absurd h (by dsimp only; omega)) (fun _ => hk' hP4)
    · intro next3 hP3 hin3
      rw [scan_n] at hP3
      exact cnd_d (fun h => absurd h (by dsimp only; omega)) (fun _ => ⟨by rw [inK64]; omega, hn (by rw [hP, scan_c h1 hP3])⟩)
  · intro next2 hP2 hin2
    rw [scan_n] at hP2
    refine cnd_d (fun h => absurd h (by dsimp only; omega)) (fun _ => resq _ _ _ _ ?_)
    rw [hF, hP2]; rfl
theorem ct_spec_l02Fault : CtOk Try.prog 94 c_spec_l02Fault :=
  ct_by (Φ := lkp []) good_nil tab_ok (by kernel_rfl) (fn := Try.f94) (c := bodyOf Try.f94) (by kernel_rfl) (by kernel_rfl) (by kernel_rfl) c_spec_l02Fault (.s .n (.s .n (.s (.s .n (.l [(7, (.d (.int .i64)))] [] [1, 6] .n)) (.s (.s .n (.l [(8, (.d (.int .i64)))] [] [1, 6] (.s .n (.s (.s .n (.l [(9, (.d (.int .i64)))] [] [1, 6, 8] (.s .n (.s (.j [] [] [1, 6, 8, 9] (.s .n (.s .n (.l [(10, (.d (.int .i64)))] [] [1, 6, 8, 9] .n)))) .n)))) .n)))) .n)))) (cutL [(17, 44), (5, 38), (13, 11)]) (by kernel_rfl) (by kernel_rfl) k_spec_l02Fault (by decide) (fun x K => W_spec_l02Fault x.1 K) w_spec_l02Fault (fun x h1 h2 => m_spec_l02Fault x.1 h1 h2)
def c_spec_l02Is : Ct := ⟨[CategoryT], [true], fun x => [], [(false, (.fz .bool))], fun x => (catR x.1, ()), false⟩
def W_spec_l02Is (c : CategoryD) (K : Bool × Unit → Prop) : Prop := (cnd (!(shapeR c)) (K (Bool.false, ())) ((ShapeP c) ∧ (K (((faultR c).1 == (0 : Int)), ()))))
theorem w_spec_l02Is (x : denL c_spec_l02Is.args) (K : Bool × Unit → Prop) : evF tab (lkp [(93, c_spec_IsShape), (94, c_spec_l02Fault)]) (cutL []) Try.f73 (bodyOf Try.f73) .n c_spec_l02Is x K = W_spec_l02Is x.1 K := by kernel_rfl
theorem k_spec_l02Is : okC Try.f73.ntmps (cutL []) (bodyOf Try.f73) = true := by kernel_rfl
theorem m_spec_l02Is (c : CategoryD) (hok : allP (okL c_spec_l02Is.args (c, ()))) (hpre : allP (c_spec_l02Is.pre (c, ()))) : W_spec_l02Is c (fun r => r = c_spec_l02Is.res (c, ())) := by
  simp only [c_spec_l02Is, okL, T.oks, T.ok, ap, allP, true_and, and_true, implies_true] at hok hpre
  try dsimp only [T.den] at hok
  try dsimp only [T.den] at hpre
  unfold W_spec_l02Is
  simp only [c_spec_l02Is, catR]
  have := @shape_iff c
  grind [cnd, nb_eq, inK64]
theorem ct_spec_l02Is : CtOk Try.prog 73 c_spec_l02Is :=
  ct_by (Φ := lkp [(93, c_spec_IsShape), (94, c_spec_l02Fault)]) (good_cons ct_spec_IsShape (good_cons ct_spec_l02Fault good_nil)) tab_ok (by kernel_rfl) (fn := Try.f73) (c := bodyOf Try.f73) (by kernel_rfl) (by kernel_rfl) (by kernel_rfl) c_spec_l02Is .n (cutL []) (by kernel_rfl) (by kernel_rfl) k_spec_l02Is (by decide) (fun x K => W_spec_l02Is x.1 K) w_spec_l02Is (fun x h1 h2 => m_spec_l02Is x.1 h1 h2)
def c_spec_l02Object : Ct := ⟨[CategoryT, (.int .i64)], [true, false], fun x => [], [(false, (.fz .bool))], fun x => ((decide (0 ≤ x.2.1) && decide (x.2.1 < x.1.1)), ()), false⟩
def W_spec_l02Object (c : CategoryD) (x : Int) (K : Bool × Unit → Prop) : Prop := (K (((decide ((0 : Int) ≤ x)) && (decide (x < c.1))), ()))
theorem w_spec_l02Object (x : denL c_spec_l02Object.args) (K : Bool × Unit → Prop) : evF tab (lkp []) (cutL []) Try.f71 (bodyOf Try.f71) .n c_spec_l02Object x K = W_spec_l02Object x.1 x.2.1 K := by kernel_rfl
theorem k_spec_l02Object : okC Try.f71.ntmps (cutL []) (bodyOf Try.f71) = true := by kernel_rfl
theorem m_spec_l02Object (c : CategoryD) (x : Int) (hok : allP (okL c_spec_l02Object.args (c, x, ()))) (hpre : allP (c_spec_l02Object.pre (c, x, ()))) : W_spec_l02Object c x (fun r => r = c_spec_l02Object.res (c, x, ())) := by
  simp only [c_spec_l02Object, okL, T.oks, T.ok, ap, allP, true_and, and_true, implies_true] at hok hpre
  try dsimp only [T.den] at hok
  try dsimp only [T.den] at hpre
  unfold W_spec_l02Object
  grind [cnd, nb_eq, inK64, c_spec_l02Object]
theorem ct_spec_l02Object : CtOk Try.prog 71 c_spec_l02Object :=
  ct_by (Φ := lkp []) good_nil tab_ok (by kernel_rfl) (fn := Try.f71) (c := bodyOf Try.f71) (by kernel_rfl) (by kernel_rfl) (by kernel_rfl) c_spec_l02Object .n (cutL []) (by kernel_rfl) (by kernel_rfl) k_spec_l02Object (by decide) (fun x K => W_spec_l02Object x.1 x.2.1 K) w_spec_l02Object (fun x h1 h2 => m_spec_l02Object x.1 x.2.1 h1 h2)
def c_spec_l35Table : Ct := ⟨[(.sl (.sl (.int .i64))), (.int .i64), (.int .i64)], [false, false, false], fun x => [], [(false, (.fz .bool))], fun x => ((decide ((x.1.length : Int) = x.2.1) && squareR x.1 x.2.2.1), ()), false⟩
def W_spec_l35Table (table : List (List Int)) (n : Int) (bound : Int) (K : Bool × Unit → Prop) : Prop := (K ((((((List.length table) : Nat) : Int) == n) && (squareR table bound)), ()))
theorem w_spec_l35Table (x : denL c_spec_l35Table.args) (K : Bool × Unit → Prop) : evF tab (lkp [(87, c_spec_l03Square)]) (cutL []) Try.f74 (bodyOf Try.f74) .n c_spec_l35Table x K = W_spec_l35Table x.1 x.2.1 x.2.2.1 K := by kernel_rfl
theorem k_spec_l35Table : okC Try.f74.ntmps (cutL []) (bodyOf Try.f74) = true := by kernel_rfl
theorem m_spec_l35Table (table : List (List Int)) (n : Int) (bound : Int) (hok : allP (okL c_spec_l35Table.args (table, n, bound, ()))) (hpre : allP (c_spec_l35Table.pre (table, n, bound, ()))) : W_spec_l35Table table n bound (fun r => r = c_spec_l35Table.res (table, n, bound, ())) := by
  simp only [c_spec_l35Table, okL, T.oks, T.ok, ap, allP, true_and, and_true, implies_true] at hok hpre
  try dsimp only [T.den] at hok
  try dsimp only [T.den] at hpre
  unfold W_spec_l35Table
  have : ((table.length : Int) == n) = decide ((table.length : Int) = n) := rfl
  simp only [c_spec_l35Table, this]
theorem ct_spec_l35Table : CtOk Try.prog 74 c_spec_l35Table :=
  ct_by (Φ := lkp [(87, c_spec_l03Square)]) (good_cons ct_spec_l03Square good_nil) tab_ok (by kernel_rfl) (fn := Try.f74) (c := bodyOf Try.f74) (by kernel_rfl) (by kernel_rfl) (by kernel_rfl) c_spec_l35Table .n (cutL []) (by kernel_rfl) (by kernel_rfl) k_spec_l35Table (by decide) (fun x K => W_spec_l35Table x.1 x.2.1 x.2.2.1 K) w_spec_l35Table (fun x h1 h2 => m_spec_l35Table x.1 x.2.1 x.2.2.1 h1 h2)
def c_spec_l35Whole : Ct := ⟨[(.sl (.sl (.int .i64))), (.int .i64)], [false, false], fun x => [tabR x.1 x.1.length = true, x.1.length ≤ 40, 0 ≤ x.2.1, x.2.1 < x.1.length], [(false, (.fz .bool))], fun x => (assocR x.1 x.2.1, ()), false⟩
def W_spec_l35Whole (table : List (List Int)) (unit : Int) (K : Bool × Unit → Prop) : Prop := (loopW (S := ((Int × Unit) × Unit)) (fun s => (fun next => ((inK IntKind.i64 s.1.1) → (cnd (decide (s.1.1 < (((List.length table) : Nat) : Int))) (((0 : Int) ≤ unit) ∧ ((unit < (((List.length table) : Nat) : Int)) ∧ (((0 : Int) ≤ s.1.1) ∧ ((s.1.1 < (((List.length (List.getD table (Int.toNat unit) ([] : List Int))) : Nat) : Int)) ∧ (((((List.getD (List.getD table (Int.toNat unit) ([] : List Int)) (Int.toNat s.1.1) (0 : Int)) != s.1.1) = Bool.false) → ((s.1.1 < (((List.length table) : Nat) : Int)) ∧ ((0 : Int) ≤ s.1.1))) ∧ (((((List.getD (List.getD table (Int.toNat unit) ([] : List Int)) (Int.toNat s.1.1) (0 : Int)) != s.1.1) = Bool.false) → ((unit < (((List.length (List.getD table (Int.toNat s.1.1) ([] : List Int))) : Nat) : Int)) ∧ ((0 : Int) ≤ unit))) ∧ (cnd (((List.getD (List.getD table (Int.toNat unit) ([] : List Int)) (Int.toNat s.1.1) (0 : Int)) != s.1.1) || ((List.getD (List.getD table (Int.toNat s.1.1) ([] : List Int)) (Int.toNat unit) (0 : Int)) != s.1.1)) (K (Bool.false, ())) (loopW (S := ((Int × Unit) × Unit)) (fun s1 => (fun next1 => ((inK IntKind.i64 s1.1.1) → (cnd (decide (s1.1.1 < (((List.length table) : Nat) : Int))) (loopW (S := ((Int × Unit) × Unit)) (fun s2 => (fun next2 => ((inK IntKind.i64 s2.1.1) → (cnd (decide (s2.1.1 < (((List.length table) : Nat) : Int))) (((0 : Int) ≤ s.1.1) ∧ ((s.1.1 < (((List.length table) : Nat) : Int)) ∧ (((0 : Int) ≤ s1.1.1) ∧ ((s1.1.1 < (((List.length (List.getD table (Int.toNat s.1.1) ([] : List Int))) : Nat) : Int)) ∧ (((0 : Int) ≤ (List.getD (List.getD table (Int.toNat s.1.1) ([] : List Int)) (Int.toNat s1.1.1) (0 : Int))) ∧ (((List.getD (List.getD table (Int.toNat s.1.1) ([] : List Int)) (Int.toNat s1.1.1) (0 : Int)) < (((List.length table) : Nat) : Int)) ∧ (((0 : Int) ≤ s2.1.1) ∧ ((s2.1.1 < (((List.length (List.getD table (Int.toNat (List.getD (List.getD table (Int.toNat s.1.1) ([] : List Int)) (Int.toNat s1.1.1) (0 : Int))) ([] : List Int))) : Nat) : Int)) ∧ (((0 : Int) ≤ s.1.1) ∧ ((s.1.1 < (((List.length table) : Nat) : Int)) ∧ (((0 : Int) ≤ s1.1.1) ∧ ((s1.1.1 < (((List.length table) : Nat) : Int)) ∧ (((0 : Int) ≤ s2.1.1) ∧ ((s2.1.1 < (((List.length (List.getD table (Int.toNat s1.1.1) ([] : List Int))) : Nat) : Int)) ∧ (((0 : Int) ≤ (List.getD (List.getD table (Int.toNat s1.1.1) ([] : List Int)) (Int.toNat s2.1.1) (0 : Int))) ∧ (((List.getD (List.getD table (Int.toNat s1.1.1) ([] : List Int)) (Int.toNat s2.1.1) (0 : Int)) < (((List.length (List.getD table (Int.toNat s.1.1) ([] : List Int))) : Nat) : Int)) ∧ (cnd ((List.getD (List.getD table (Int.toNat (List.getD (List.getD table (Int.toNat s.1.1) ([] : List Int)) (Int.toNat s1.1.1) (0 : Int))) ([] : List Int)) (Int.toNat s2.1.1) (0 : Int)) != (List.getD (List.getD table (Int.toNat s.1.1) ([] : List Int)) (Int.toNat (List.getD (List.getD table (Int.toNat s1.1.1) ([] : List Int)) (Int.toNat s2.1.1) (0 : Int))) (0 : Int))) (K (Bool.false, ())) ((inK IntKind.i64 (s2.1.1 + (1 : Int))) ∧ (next2 (((s2.1.1 + (1 : Int)), ()), ())))))))))))))))))))) ((inK IntKind.i64 (s1.1.1 + (1 : Int))) ∧ (next1 (((s1.1.1 + (1 : Int)), ()), ()))))))) (((0 : Int), ()), ())) ((inK IntKind.i64 (s.1.1 + (1 : Int))) ∧ (next (((s.1.1 + (1 : Int)), ()), ()))))))) (((0 : Int), ()), ()))))))))) (K (Bool.true, ())))))) (((0 : Int), ()), ()))
theorem w_spec_l35Whole (x : denL c_spec_l35Whole.args) (K : Bool × Unit → Prop) : evF tab (lkp []) (cutL [(12, 27)]) Try.f76 (bodyOf Try.f76) (.s .n (.s (.s .n (.l [(5, (.d (.int .i64)))] [] [0, 1] (.s .n (.s (.s .n (.s .n (.l [(6, (.d (.int .i64)))] [] [0, 1, 5] (.s .n (.s (.s .n (.l [(7, (.d (.int .i64)))] [] [0, 1, 5, 6] .n)) .n))))) .n)))) .n)) c_spec_l35Whole x K = W_spec_l35Whole x.1 x.2.1 K := by kernel_rfl
theorem k_spec_l35Whole : okC Try.f76.ntmps (cutL [(12, 27)]) (bodyOf Try.f76) = true := by kernel_rfl
theorem m_spec_l35Whole (table : List (List Int)) (unit : Int) (hok : allP (okL c_spec_l35Whole.args (table, unit, ()))) (hpre : allP (c_spec_l35Whole.pre (table, unit, ()))) : W_spec_l35Whole table unit (fun r => r = c_spec_l35Whole.res (table, unit, ())) := by
  simp only [c_spec_l35Whole, okL, T.oks, T.ok, ap, allP, true_and, and_true, implies_true] at hok hpre
  try dsimp only [T.den] at hok
  try dsimp only [T.den] at hpre
  unfold W_spec_l35Whole
  have T := tab_at hpre.1
  have hl := hpre.2.1
  have u0 := hpre.2.2.1
  have u1 := hpre.2.2.2
  have bad : ¬ (assocR table unit = true) → (false, ()) = c_spec_l35Whole.res (table, unit, ()) := fun h => by
    simp only [c_spec_l35Whole]
    cases hs : assocR table unit with
    | false => rfl
    | true => exact absurd hs h
  have hat : ∀ i j : Int, (table.getD i.toNat []).getD j.toNat 0 = atR table i j := fun _ _ => rfl
  simp only [hat]
  have ru := T.2.1 unit u0 (by omega)
  refine loop_ix (n := table.length) (fun x => ∀ x' : Int, 0 ≤ x' → x' < x → (atR table x' unit = x' ∧ atR table unit x' = x') ∧ ∀ y : Int, 0 ≤ y → y < table.length → ∀ z : Int, 0 ≤ z → z < table.length → atR table (atR table x' y) z = atR table x' (atR table y z)) (by omega) (by intro y h0 h1; omega) ?_ ?_
  · intro x next h0 h1 hP hn hin
    dsimp only
    have rx := T.2.1 x h0 (by omega)
    refine cnd_d (fun _ => ⟨u0, u1, h0, by omega, fun _ => by omega, fun _ => by omega, cnd_of (fun hx => bad fun h => ?_) (fun hx => ?_)⟩) (fun h => absurd h1 h)
    · have := (assoc_iff.1 h x h0 h1).1
      rw [this.1, this.2] at hx; simp at hx
    simp only [Bool.or_eq_false_iff, bne_eq_false_iff_eq] at hx
    refine loop_ix (n := table.length) (fun y => ∀ y' : Int, 0 ≤ y' → y' < y → ∀ z : Int, 0 ≤ z → z < table.length → atR table (atR table x y') z = atR table x (atR table y' z)) (by omega) (by intro y h0 h1; omega) ?_ ?_
    · intro y next2 y0 y1 hP2 hn2 hin2
      dsimp only
      have ry := T.2.1 y y0 (by omega)
      have axy := T.2.2 x y h0 (by omega) y0 (by omega)
      have rxy := T.2.1 _ axy.1 (by omega)
      refine cnd_d (fun _ => ?_) (fun h => absurd y1 h)
      refine loop_ix (n := table.length) (fun z => ∀ z' : Int, 0 ≤ z' → z' < z → atR table (atR table x y) z' = atR table x (atR table y z')) (by omega) (by intro y h0 h1; omega) ?_ ?_
      · intro z next3 z0 z1 hP3 hn3 hin3
        dsimp only
        have ayz := T.2.2 y z y0 (by omega) z0 (by omega)
        refine cnd_d (fun _ => ⟨h0, h1, y0, by omega, axy.1, by omega, z0, by omega, h0, h1, y0, y1, z0, by omega, ayz.1, by omega, cnd_of (fun hx2 => bad fun h => ?_) (fun hx2 => ⟨by rw [inK64]; omega, hn3 fun z' a0 a1 => ?_⟩)⟩) (fun h => absurd z1 h)
        · rw [(assoc_iff.1 h x h0 h1).2 y y0 y1 z z0 z1] at hx2; simp at hx2
        · by_cases e : z' = z
          · rw [e]; simpa using hx2
          · exact hP3 z' a0 (by omega)
      · intro next3 hP3 hin3
        refine cnd_d (fun h => absurd h (by dsimp only; omega)) (fun _ => ⟨by rw [inK64]; omega, hn2 fun y' a0 a1 => ?_⟩)
        by_cases e : y' = y
        · rw [e]; exact hP3
        · exact hP2 y' a0 (by omega)
    · intro next2 hP2 hin2
      refine cnd_d (fun h => absurd h (by dsimp only; omega)) (fun _ => ⟨by rw [inK64]; omega, hn fun x' a0 a1 => ?_⟩)
      by_cases e : x' = x
      · rw [e]; exact ⟨⟨hx.2, hx.1⟩, hP2⟩
      · exact hP x' a0 (by omega)
  · intro next hP hin
    refine cnd_d (fun h => absurd h (by dsimp only; omega)) (fun _ => ?_)
    simp only [c_spec_l35Whole]
    rw [assoc_iff.2 hP]
theorem ct_spec_l35Whole : CtOk Try.prog 76 c_spec_l35Whole :=
  ct_by (Φ := lkp []) good_nil tab_ok (by kernel_rfl) (fn := Try.f76) (c := bodyOf Try.f76) (by kernel_rfl) (by kernel_rfl) (by kernel_rfl) c_spec_l35Whole (.s .n (.s (.s .n (.l [(5, (.d (.int .i64)))] [] [0, 1] (.s .n (.s (.s .n (.s .n (.l [(6, (.d (.int .i64)))] [] [0, 1, 5] (.s .n (.s (.s .n (.l [(7, (.d (.int .i64)))] [] [0, 1, 5, 6] .n)) .n))))) .n)))) .n)) (cutL [(12, 27)]) (by kernel_rfl) (by kernel_rfl) k_spec_l35Whole (by decide) (fun x K => W_spec_l35Whole x.1 x.2.1 K) w_spec_l35Whole (fun x h1 h2 => m_spec_l35Whole x.1 x.2.1 h1 h2)
def c_spec_l35Is : Ct := ⟨[MonoidalT], [true], fun x => [], [(false, (.fz .bool))], fun x => (monR x.1, ()), false⟩
def W_spec_l35Is (m : MonoidalD) (K : Bool × Unit → Prop) : Prop := (cnd ((((!(catR m.1)) || (!((decide ((0 : Int) ≤ m.2.1)) && (decide (m.2.1 < m.1.1))))) || (!((decide ((((List.length m.2.2.1) : Nat) : Int) = m.1.1)) && (squareR m.2.2.1 m.1.1)))) || (!((decide ((((List.length m.2.2.2) : Nat) : Int) = (((List.length m.1.2.1) : Nat) : Int))) && (squareR m.2.2.2 (((List.length m.1.2.1) : Nat) : Int))))) (K (Bool.false, ())) ((ShapeP m.1) ∧ (((tabR m.2.2.1 m.1.1) = Bool.true) ∧ (((tabR m.2.2.2 (((List.length m.1.2.1) : Nat) : Int)) = Bool.true) ∧ ((((!(endsR m)) = Bool.false) → (((List.length m.2.2.1) ≤ 40) ∧ (((0 : Int) ≤ m.2.1) ∧ ((m.2.1 < (((List.length m.2.2.1) : Nat) : Int)) ∧ ((tabR m.2.2.1 (((List.length m.2.2.1) : Nat) : Int)) = Bool.true))))) ∧ (((((!(endsR m)) || (!(assocR m.2.2.1 m.2.1))) = Bool.false) → ((m.2.1 < (((List.length m.1.2.2.2.1) : Nat) : Int)) ∧ ((0 : Int) ≤ m.2.1))) ∧ (((((!(endsR m)) || (!(assocR m.2.2.1 m.2.1))) = Bool.false) → (((List.length m.2.2.2) ≤ 40) ∧ (((0 : Int) ≤ (List.getD m.1.2.2.2.1 (Int.toNat m.2.1) (0 : Int))) ∧ (((List.getD m.1.2.2.2.1 (Int.toNat m.2.1) (0 : Int)) < (((List.length m.2.2.2) : Nat) : Int)) ∧ ((tabR m.2.2.2 (((List.length m.2.2.2) : Nat) : Int)) = Bool.true))))) ∧ (cnd (((!(endsR m)) || (!(assocR m.2.2.1 m.2.1))) || (!(assocR m.2.2.2 (List.getD m.1.2.2.2.1 (Int.toNat m.2.1) (0 : Int))))) (K (Bool.false, ())) (loopW (S := ((Unit × (Int × Unit)) × ((Int × ((List Int) × ((List Int) × ((List Int) × (List (List Int)))))) × Unit))) (fun s => (fun next => ((inK IntKind.i64 s.1.2.1) → ((inK IntKind.i64 s.2.1.1) → ((T.ok (T.sl (T.int IntKind.i64)) s.2.1.2.1) → ((T.ok (T.sl (T.int IntKind.i64)) s.2.1.2.2.1) → ((T.ok (T.sl (T.int IntKind.i64)) s.2.1.2.2.2.1) → ((T.ok (T.sl (T.sl (T.int IntKind.i64))) s.2.1.2.2.2.2) → (cnd (decide (s.1.2.1 < s.2.1.1)) (loopW (S := ((Unit × (Int × Unit)) × ((Int × ((List Int) × ((List Int) × ((List Int) × (List (List Int)))))) × Unit))) (fun s1 => (fun next1 => ((inK IntKind.i64 s1.1.2.1) → ((inK IntKind.i64 s1.2.1.1) → ((T.ok (T.sl (T.int IntKind.i64)) s1.2.1.2.1) → ((T.ok (T.sl (T.int IntKind.i64)) s1.2.1.2.2.1) → ((T.ok (T.sl (T.int IntKind.i64)) s1.2.1.2.2.2.1) → ((T.ok (T.sl (T.sl (T.int IntKind.i64))) s1.2.1.2.2.2.2) → (cnd (decide (s1.1.2.1 < s1.2.1.1)) (((0 : Int) ≤ s.1.2.1) ∧ ((s.1.2.1 < (((List.length s1.2.1.2.2.2.1) : Nat) : Int)) ∧ (((0 : Int) ≤ (List.getD s1.2.1.2.2.2.1 (Int.toNat s.1.2.1) (0 : Int))) ∧ (((List.getD s1.2.1.2.2.2.1 (Int.toNat s.1.2.1) (0 : Int)) < (((List.length m.2.2.2) : Nat) : Int)) ∧ (((0 : Int) ≤ s1.1.2.1) ∧ ((s1.1.2.1 < (((List.length s1.2.1.2.2.2.1) : Nat) : Int)) ∧ (((0 : Int) ≤ (List.getD s1.2.1.2.2.2.1 (Int.toNat s1.1.2.1) (0 : Int))) ∧ (((List.getD s1.2.1.2.2.2.1 (Int.toNat s1.1.2.1) (0 : Int)) < (((List.length (List.getD m.2.2.2 (Int.toNat (List.getD s1.2.1.2.2.2.1 (Int.toNat s.1.2.1) (0 : Int))) ([] : List Int))) : Nat) : Int)) ∧ (((0 : Int) ≤ s.1.2.1) ∧ ((s.1.2.1 < (((List.length m.2.2.1) : Nat) : Int)) ∧ (((0 : Int) ≤ s1.1.2.1) ∧ ((s1.1.2.1 < (((List.length (List.getD m.2.2.1 (Int.toNat s.1.2.1) ([] : List Int))) : Nat) : Int)) ∧ (((0 : Int) ≤ (List.getD (List.getD m.2.2.1 (Int.toNat s.1.2.1) ([] : List Int)) (Int.toNat s1.1.2.1) (0 : Int))) ∧ (((List.getD (List.getD m.2.2.1 (Int.toNat s.1.2.1) ([] : List Int)) (Int.toNat s1.1.2.1) (0 : Int)) < (((List.length s1.2.1.2.2.2.1) : Nat) : Int)) ∧ (cnd ((List.getD (List.getD m.2.2.2 (Int.toNat (List.getD s1.2.1.2.2.2.1 (Int.toNat s.1.2.1) (0 : Int))) ([] : List Int)) (Int.toNat (List.getD s1.2.1.2.2.2.1 (Int.toNat s1.1.2.1) (0 : Int))) (0 : Int)) != (List.getD s1.2.1.2.2.2.1 (Int.toNat (List.getD (List.getD m.2.2.1 (Int.toNat s.1.2.1) ([] : List Int)) (Int.toNat s1.1.2.1) (0 : Int))) (0 : Int))) (K (Bool.false, ())) ((inK IntKind.i64 (s1.1.2.1 + (1 : Int))) ∧ (next1 (((), ((s1.1.2.1 + (1 : Int)), ())), (s1.2.1, ()))))))))))))))))))) ((inK IntKind.i64 (s.1.2.1 + (1 : Int))) ∧ (next (((), ((s.1.2.1 + (1 : Int)), ())), (s1.2.1, ()))))))))))))) (((), ((0 : Int), ())), (s.2.1, ()))) (loopW (S := ((Unit × (Int × Unit)) × ((Int × ((List Int) × ((List Int) × ((List Int) × (List (List Int)))))) × Unit))) (fun s1 => (fun next1 => ((inK IntKind.i64 s1.1.2.1) → ((inK IntKind.i64 s1.2.1.1) → ((T.ok (T.sl (T.int IntKind.i64)) s1.2.1.2.1) → ((T.ok (T.sl (T.int IntKind.i64)) s1.2.1.2.2.1) → ((T.ok (T.sl (T.int IntKind.i64)) s1.2.1.2.2.2.1) → ((T.ok (T.sl (T.sl (T.int IntKind.i64))) s1.2.1.2.2.2.2) → (cnd (decide (s1.1.2.1 < (((List.length s1.2.1.2.1) : Nat) : Int))) (loopW (S := ((Unit × (Int × Unit)) × ((Int × ((List Int) × ((List Int) × ((List Int) × (List (List Int)))))) × Unit))) (fun s2 => (fun next2 => ((inK IntKind.i64 s2.1.2.1) → ((inK IntKind.i64 s2.2.1.1) → ((T.ok (T.sl (T.int IntKind.i64)) s2.2.1.2.1) → ((T.ok (T.sl (T.int IntKind.i64)) s2.2.1.2.2.1) → ((T.ok (T.sl (T.int IntKind.i64)) s2.2.1.2.2.2.1) → ((T.ok (T.sl (T.sl (T.int IntKind.i64))) s2.2.1.2.2.2.2) → (cnd (decide (s2.1.2.1 < (((List.length s2.2.1.2.1) : Nat) : Int))) (joinW (S := ((Unit × Unit) × ((Int × ((List Int) × ((List Int) × ((List Int) × (List (List Int)))))) × Unit))) (fun s3 => ((inK IntKind.i64 s3.2.1.1) → ((T.ok (T.sl (T.int IntKind.i64)) s3.2.1.2.1) → ((T.ok (T.sl (T.int IntKind.i64)) s3.2.1.2.2.1) → ((T.ok (T.sl (T.int IntKind.i64)) s3.2.1.2.2.2.1) → ((T.ok (T.sl (T.sl (T.int IntKind.i64))) s3.2.1.2.2.2.2) → ((inK IntKind.i64 (s2.1.2.1 + (1 : Int))) ∧ (next2 (((), ((s2.1.2.1 + (1 : Int)), ())), (s3.2.1, ())))))))))) (fun k => (((0 : Int) ≤ s1.1.2.1) ∧ ((s1.1.2.1 < (((List.length s2.2.1.2.2.2.2) : Nat) : Int)) ∧ (((0 : Int) ≤ s2.1.2.1) ∧ ((s2.1.2.1 < (((List.length (List.getD s2.2.1.2.2.2.2 (Int.toNat s1.1.2.1) ([] : List Int))) : Nat) : Int)) ∧ (cnd (decide ((List.getD (List.getD s2.2.1.2.2.2.2 (Int.toNat s1.1.2.1) ([] : List Int)) (Int.toNat s2.1.2.1) (0 : Int)) < (0 : Int))) (k (((), ()), (s2.2.1, ()))) (loopW (S := ((Unit × (Int × Unit)) × ((Int × ((List Int) × ((List Int) × ((List Int) × (List (List Int)))))) × Unit))) (fun s3 => (fun next3 => ((inK IntKind.i64 s3.1.2.1) → ((inK IntKind.i64 s3.2.1.1) → ((T.ok (T.sl (T.int IntKind.i64)) s3.2.1.2.1) → ((T.ok (T.sl (T.int IntKind.i64)) s3.2.1.2.2.1) → ((T.ok (T.sl (T.int IntKind.i64)) s3.2.1.2.2.2.1) → ((T.ok (T.sl (T.sl (T.int IntKind.i64))) s3.2.1.2.2.2.2) → (cnd (decide (s3.1.2.1 < (((List.length s3.2.1.2.1) : Nat) : Int))) (loopW (S := ((Unit × (Int × Unit)) × ((Int × ((List Int) × ((List Int) × ((List Int) × (List (List Int)))))) × Unit))) (fun s4 => (fun next4 => ((inK IntKind.i64 s4.1.2.1) → ((inK IntKind.i64 s4.2.1.1) → ((T.ok (T.sl (T.int IntKind.i64)) s4.2.1.2.1) → ((T.ok (T.sl (T.int IntKind.i64)) s4.2.1.2.2.1) → ((T.ok (T.sl (T.int IntKind.i64)) s4.2.1.2.2.2.1) → ((T.ok (T.sl (T.sl (T.int IntKind.i64))) s4.2.1.2.2.2.2) → (cnd (decide (s4.1.2.1 < (((List.length s4.2.1.2.1) : Nat) : Int))) (((0 : Int) ≤ s3.1.2.1) ∧ ((s3.1.2.1 < (((List.length s4.2.1.2.2.2.2) : Nat) : Int)) ∧ (((0 : Int) ≤ s4.1.2.1) ∧ ((s4.1.2.1 < (((List.length (List.getD s4.2.1.2.2.2.2 (Int.toNat s3.1.2.1) ([] : List Int))) : Nat) : Int)) ∧ ((((decide ((0 : Int) ≤ (List.getD (List.getD s4.2.1.2.2.2.2 (Int.toNat s3.1.2.1) ([] : List Int)) (Int.toNat s4.1.2.1) (0 : Int)))) = Bool.true) → ((s1.1.2.1 < (((List.length s4.2.1.2.2.2.2) : Nat) : Int)) ∧ ((0 : Int) ≤ s1.1.2.1))) ∧ ((((decide ((0 : Int) ≤ (List.getD (List.getD s4.2.1.2.2.2.2 (Int.toNat s3.1.2.1) ([] : List Int)) (Int.toNat s4.1.2.1) (0 : Int)))) = Bool.true) → ((s2.1.2.1 < (((List.length (List.getD s4.2.1.2.2.2.2 (Int.toNat s1.1.2.1) ([] : List Int))) : Nat) : Int)) ∧ ((0 : Int) ≤ s2.1.2.1))) ∧ ((((decide ((0 : Int) ≤ (List.getD (List.getD s4.2.1.2.2.2.2 (Int.toNat s3.1.2.1) ([] : List Int)) (Int.toNat s4.1.2.1) (0 : Int)))) = Bool.true) → (((List.getD (List.getD s4.2.1.2.2.2.2 (Int.toNat s1.1.2.1) ([] : List Int)) (Int.toNat s2.1.2.1) (0 : Int)) < (((List.length m.2.2.2) : Nat) : Int)) ∧ ((0 : Int) ≤ (List.getD (List.getD s4.2.1.2.2.2.2 (Int.toNat s1.1.2.1) ([] : List Int)) (Int.toNat s2.1.2.1) (0 : Int))))) ∧ ((((decide ((0 : Int) ≤ (List.getD (List.getD s4.2.1.2.2.2.2 (Int.toNat s3.1.2.1) ([] : List Int)) (Int.toNat s4.1.2.1) (0 : Int)))) = Bool.true) → ((s3.1.2.1 < (((List.length s4.2.1.2.2.2.2) : Nat) : Int)) ∧ ((0 : Int) ≤ s3.1.2.1))) ∧ ((((decide ((0 : Int) ≤ (List.getD (List.getD s4.2.1.2.2.2.2 (Int.toNat s3.1.2.1) ([] : List Int)) (Int.toNat s4.1.2.1) (0 : Int)))) = Bool.true) → ((s4.1.2.1 < (((List.length (List.getD s4.2.1.2.2.2.2 (Int.toNat s3.1.2.1) ([] : List Int))) : Nat) : Int)) ∧ ((0 : Int) ≤ s4.1.2.1))) ∧ ((((decide ((0 : Int) ≤ (List.getD (List.getD s4.2.1.2.2.2.2 (Int.toNat s3.1.2.1) ([] : List Int)) (Int.toNat s4.1.2.1) (0 : Int)))) = Bool.true) → (((List.getD (List.getD s4.2.1.2.2.2.2 (Int.toNat s3.1.2.1) ([] : List Int)) (Int.toNat s4.1.2.1) (0 : Int)) < (((List.length (List.getD m.2.2.2 (Int.toNat (List.getD (List.getD s4.2.1.2.2.2.2 (Int.toNat s1.1.2.1) ([] : List Int)) (Int.toNat s2.1.2.1) (0 : Int))) ([] : List Int))) : Nat) : Int)) ∧ ((0 : Int) ≤ (List.getD (List.getD s4.2.1.2.2.2.2 (Int.toNat s3.1.2.1) ([] : List Int)) (Int.toNat s4.1.2.1) (0 : Int))))) ∧ ((((decide ((0 : Int) ≤ (List.getD (List.getD s4.2.1.2.2.2.2 (Int.toNat s3.1.2.1) ([] : List Int)) (Int.toNat s4.1.2.1) (0 : Int)))) = Bool.true) → ((s1.1.2.1 < (((List.length m.2.2.2) : Nat) : Int)) ∧ ((0 : Int) ≤ s1.1.2.1))) ∧ ((((decide ((0 : Int) ≤ (List.getD (List.getD s4.2.1.2.2.2.2 (Int.toNat s3.1.2.1) ([] : List Int)) (Int.toNat s4.1.2.1) (0 : Int)))) = Bool.true) → ((s3.1.2.1 < (((List.length (List.getD m.2.2.2 (Int.toNat s1.1.2.1) ([] : List Int))) : Nat) : Int)) ∧ ((0 : Int) ≤ s3.1.2.1))) ∧ ((((decide ((0 : Int) ≤ (List.getD (List.getD s4.2.1.2.2.2.2 (Int.toNat s3.1.2.1) ([] : List Int)) (Int.toNat s4.1.2.1) (0 : Int)))) = Bool.true) → (((List.getD (List.getD m.2.2.2 (Int.toNat s1.1.2.1) ([] : List Int)) (Int.toNat s3.1.2.1) (0 : Int)) < (((List.length s4.2.1.2.2.2.2) : Nat) : Int)) ∧ ((0 : Int) ≤ (List.getD (List.getD m.2.2.2 (Int.toNat s1.1.2.1) ([] : List Int)) (Int.toNat s3.1.2.1) (0 : Int))))) ∧ ((((decide ((0 : Int) ≤ (List.getD (List.getD s4.2.1.2.2.2.2 (Int.toNat s3.1.2.1) ([] : List Int)) (Int.toNat s4.1.2.1) (0 : Int)))) = Bool.true) → ((s2.1.2.1 < (((List.length m.2.2.2) : Nat) : Int)) ∧ ((0 : Int) ≤ s2.1.2.1))) ∧ ((((decide ((0 : Int) ≤ (List.getD (List.getD s4.2.1.2.2.2.2 (Int.toNat s3.1.2.1) ([] : List Int)) (Int.toNat s4.1.2.1) (0 : Int)))) = Bool.true) → ((s4.1.2.1 < (((List.length (List.getD m.2.2.2 (Int.toNat s2.1.2.1) ([] : List Int))) : Nat) : Int)) ∧ ((0 : Int) ≤ s4.1.2.1))) ∧ ((((decide ((0 : Int) ≤ (List.getD (List.getD s4.2.1.2.2.2.2 (Int.toNat s3.1.2.1) ([] : List Int)) (Int.toNat s4.1.2.1) (0 : Int)))) = Bool.true) → (((List.getD (List.getD m.2.2.2 (Int.toNat s2.1.2.1) ([] : List Int)) (Int.toNat s4.1.2.1) (0 : Int)) < (((List.length (List.getD s4.2.1.2.2.2.2 (Int.toNat (List.getD (List.getD m.2.2.2 (Int.toNat s1.1.2.1) ([] : List Int)) (Int.toNat s3.1.2.1) (0 : Int))) ([] : List Int))) : Nat) : Int)) ∧ ((0 : Int) ≤ (List.getD (List.getD m.2.2.2 (Int.toNat s2.1.2.1) ([] : List Int)) (Int.toNat s4.1.2.1) (0 : Int))))) ∧ (cnd ((decide ((0 : Int) ≤ (List.getD (List.getD s4.2.1.2.2.2.2 (Int.toNat s3.1.2.1) ([] : List Int)) (Int.toNat s4.1.2.1) (0 : Int)))) && ((List.getD (List.getD m.2.2.2 (Int.toNat (List.getD (List.getD s4.2.1.2.2.2.2 (Int.toNat s1.1.2.1) ([] : List Int)) (Int.toNat s2.1.2.1) (0 : Int))) ([] : List Int)) (Int.toNat (List.getD (List.getD s4.2.1.2.2.2.2 (Int.toNat s3.1.2.1) ([] : List Int)) (Int.toNat s4.1.2.1) (0 : Int))) (0 : Int)) != (List.getD (List.getD s4.2.1.2.2.2.2 (Int.toNat (List.getD (List.getD m.2.2.2 (Int.toNat s1.1.2.1) ([] : List Int)) (Int.toNat s3.1.2.1) (0 : Int))) ([] : List Int)) (Int.toNat (List.getD (List.getD m.2.2.2 (Int.toNat s2.1.2.1) ([] : List Int)) (Int.toNat s4.1.2.1) (0 : Int))) (0 : Int)))) (K (Bool.false, ())) ((inK IntKind.i64 (s4.1.2.1 + (1 : Int))) ∧ (next4 (((), ((s4.1.2.1 + (1 : Int)), ())), (s4.2.1, ()))))))))))))))))))))) ((inK IntKind.i64 (s3.1.2.1 + (1 : Int))) ∧ (next3 (((), ((s3.1.2.1 + (1 : Int)), ())), (s4.2.1, ()))))))))))))) (((), ((0 : Int), ())), (s3.2.1, ()))) (k (((), ()), (s3.2.1, ())))))))))))) (((), ((0 : Int), ())), (s2.2.1, ())))))))))) ((inK IntKind.i64 (s1.1.2.1 + (1 : Int))) ∧ (next1 (((), ((s1.1.2.1 + (1 : Int)), ())), (s2.2.1, ()))))))))))))) (((), ((0 : Int), ())), (s1.2.1, ()))) (K (Bool.true, ()))))))))))) (((), ((0 : Int), ())), (s.2.1, ())))))))))))) (((), ((0 : Int), ())), (m.1, ())))))))))))
theorem w_spec_l35Is (x : denL c_spec_l35Is.args) (K : Bool × Unit → Prop) : evF tab (lkp [(73, c_spec_l02Is), (71, c_spec_l02Object), (75, c_spec_l35Ends), (74, c_spec_l35Table), (76, c_spec_l35Whole)]) (cutL [(4, 23), (27, 56), (12, 29)]) Try.f48 (bodyOf Try.f48) (.s .n (.s .n (.s .n (.s .n (.s (.s .n (.l [(3, (.ad 3 [.de])), (4, (.d (.int .i64)))] [(3, (.pt (.fz (.p (.int .i64) (.p (.sl (.int .i64)) (.p (.sl (.int .i64)) (.p (.sl (.int .i64)) (.sl (.sl (.int .i64))))))))))] [1] (.s .n (.s (.s .n (.l [(3, (.ad 3 [.de])), (5, (.d (.int .i64)))] [(3, (.pt (.fz (.p (.int .i64) (.p (.sl (.int .i64)) (.p (.sl (.int .i64)) (.p (.sl (.int .i64)) (.sl (.sl (.int .i64))))))))))] [1, 4] .n)) .n)))) (.s (.s .n (.l [(3, (.ad 3 [.de])), (6, (.d (.int .i64)))] [(3, (.pt (.fz (.p (.int .i64) (.p (.sl (.int .i64)) (.p (.sl (.int .i64)) (.p (.sl (.int .i64)) (.sl (.sl (.int .i64))))))))))] [1] (.s .n (.s (.s .n (.l [(3, (.ad 3 [.de])), (7, (.d (.int .i64)))] [(3, (.pt (.fz (.p (.int .i64) (.p (.sl (.int .i64)) (.p (.sl (.int .i64)) (.p (.sl (.int .i64)) (.sl (.sl (.int .i64))))))))))] [1, 6] (.s .n (.s (.j [(3, (.ad 3 [.de]))] [(3, (.pt (.fz (.p (.int .i64) (.p (.sl (.int .i64)) (.p (.sl (.int .i64)) (.p (.sl (.int .i64)) (.sl (.sl (.int .i64))))))))))] [1, 6, 7] (.s .n (.s .n (.l [(3, (.ad 3 [.de])), (8, (.d (.int .i64)))] [(3, (.pt (.fz (.p (.int .i64) (.p (.sl (.int .i64)) (.p (.sl (.int .i64)) (.p (.sl (.int .i64)) (.sl (.sl (.int .i64))))))))))] [1, 6, 7] (.s .n (.s (.s .n (.l [(3, (.ad 3 [.de])), (9, (.d (.int .i64)))] [(3, (.pt (.fz (.p (.int .i64) (.p (.sl (.int .i64)) (.p (.sl (.int .i64)) (.p (.sl (.int .i64)) (.sl (.sl (.int .i64))))))))))] [1, 6, 7, 8] .n)) .n)))))) .n)))) .n)))) .n)))))) c_spec_l35Is x K = W_spec_l35Is x.1 K := by kernel_rfl
theorem k_spec_l35Is : okC Try.f48.ntmps (cutL [(4, 23), (27, 56), (12, 29)]) (bodyOf Try.f48) = true := by kernel_rfl
theorem m_spec_l35Is (m : MonoidalD) (hok : allP (okL c_spec_l35Is.args (m, ()))) (hpre : allP (c_spec_l35Is.pre (m, ()))) : W_spec_l35Is m (fun r => r = c_spec_l35Is.res (m, ())) := by
  simp only [c_spec_l35Is, okL, T.oks, T.ok, ap, allP, true_and, and_true, implies_true] at hok hpre
  try dsimp only [T.den] at hok
  try dsimp only [T.den] at hpre
  unfold W_spec_l35Is
  have bad : ¬ MonP m → (false, ()) = c_spec_l35Is.res (m, ()) := fun h => by
    simp only [c_spec_l35Is]
    cases hs : monR m with
    | false => rfl
    | true => exact absurd (mon_iff.1 hs) h
  refine cnd_of (fun hc => bad fun h => ?_) (fun hc => ?_)
  · have h1 := h.cat; have h2 := h.u; have h3 := h.ot; have h4 := h.at_
    simp only [tabR] at h3 h4
    simp only [h1, h3, h4] at hc
    grind [cnd, nb_eq, inK64]
  simp only [Bool.or_eq_false_iff, Bool.not_eq_false'] at hc
  obtain ⟨⟨⟨hcat, hu⟩, hot⟩, hat⟩ := hc
  simp only [Bool.and_eq_true, decide_eq_true_eq] at hu
  have hot : tabR m.2.2.1 m.1.1 = true := hot
  have hat : tabR m.2.2.2 m.1.2.1.length = true := hat
  have S := cat_shape hcat
  have O := tab_at hot
  have A := tab_at hat
  have hlt := S.lt
  have hli := S.li
  have hlc := S.lc
  have hmm := S.m
  have hob := S.ob
  have iu := S.idn hu.1 hu.2
  have e1 : (m.2.2.1.length : Int) = m.1.1 := O.1
  have e2 : (m.2.2.2.length : Int) = m.1.2.1.length := A.1
  refine ⟨S, hot, hat, fun _ => ⟨by omega, hu.1, by omega, by rw [e1]; exact hot⟩, fun _ => ⟨by omega, hu.1⟩, fun _ => ⟨by omega, iu.1, by omega, by rw [e2]; exact hat⟩, cnd_of (fun hd => bad fun h => ?_) (fun hd => ?_)⟩
  · rw [h.ends, h.oa, h.aa] at hd; cases hd
  simp only [Bool.or_eq_false_iff, Bool.not_eq_false'] at hd
  obtain ⟨⟨hE, hoa⟩, haa⟩ := hd
  have at1 : ∀ i j : Int, (m.2.2.2.getD i.toNat []).getD j.toNat 0 = atR m.2.2.2 i j := fun _ _ => rfl
  have at2 : ∀ i j : Int, (m.2.2.1.getD i.toNat []).getD j.toNat 0 = atR m.2.2.1 i j := fun _ _ => rfl
  have at3 : ∀ i j : Int, (m.1.2.2.2.2.getD i.toNat []).getD j.toNat 0 = compR m.1 i j := fun _ _ => rfl
  refine loop_ix1 (n := m.1.1) (fun x => ∀ x' : Int, 0 ≤ x' → x' < x → ∀ y : Int, 0 ≤ y → y < m.1.1 →
    atR m.2.2.2 (m.1.2.2.2.1.getD x'.toNat 0) (m.1.2.2.2.1.getD y.toNat 0) = m.1.2.2.2.1.getD (atR m.2.2.1 x' y).toNat 0) (by omega) (by intro y h0 h1; omega) ?_ ?_
  · intro x next x0 x1 hP hn _ _ _ _ _ _
    dsimp only
    refine cnd_d (fun _ => ?_) (fun h => absurd x1 h)
    have ix := S.idn x0 x1
    have r1 := A.2.1 _ ix.1 ix.2.1
    have r2 := O.2.1 x x0 x1
    refine loop_ix1 (n := m.1.1) (fun y => ∀ y' : Int, 0 ≤ y' → y' < y →
      atR m.2.2.2 (m.1.2.2.2.1.getD x.toNat 0) (m.1.2.2.2.1.getD y'.toNat 0) = m.1.2.2.2.1.getD (atR m.2.2.1 x y').toNat 0) (by omega) (by intro y h0 h1; omega) ?_ ?_
    · intro y next2 y0 y1 hP2 hn2 _ _ _ _ _ _
      dsimp only
      simp only [at1, at2]
      have iy := S.idn y0 y1
      have oxy := O.2.2 x y x0 x1 y0 y1
      refine cnd_d (fun _ => ⟨x0, by omega, ix.1, by omega, y0, by omega, iy.1, by omega, x0, by omega, y0, by omega, oxy.1, by omega, cnd_of (fun hx => bad fun h => ?_) (fun hx => ⟨by rw [inK64]; omega, hn2 fun y' a0 a1 => ?_⟩)⟩) (fun h => absurd y1 h)
      · rw [(ids_iff S).1 h.ids x x0 x1 y y0 y1] at hx; simp at hx
      · by_cases e : y' = y
        · rw [e]; simpa using hx
        · exact hP2 y' a0 (by omega)
    · intro next2 hP2 _ _ _ _ _ _
      refine cnd_d (fun h => absurd h (by dsimp only; omega)) (fun _ => ⟨by rw [inK64]; omega, hn fun x' a0 a1 => ?_⟩)
      by_cases e : x' = x
      · rw [e]; exact hP2
      · exact hP x' a0 (by omega)
  intro next hI _ _ _ _ _ _
  refine cnd_d (fun h => absurd h (by dsimp only; omega)) (fun _ => ?_)
  have hI : monIds m = true := (ids_iff S).2 hI
  clear next
  refine loop_ix1 (n := m.1.2.1.length) (fun f => ∀ f' : Int, 0 ≤ f' → f' < f → ∀ h : Int, 0 ≤ h → h < m.1.2.1.length → m.1.2.2.1.getD f'.toNat 0 = m.1.2.1.getD h.toNat 0 → ∀ g : Int, 0 ≤ g → g < m.1.2.1.length → ∀ k : Int, 0 ≤ k → k < m.1.2.1.length → m.1.2.2.1.getD g.toNat 0 = m.1.2.1.getD k.toNat 0 →
    atR m.2.2.2 (compR m.1 f' h) (compR m.1 g k) = compR m.1 (atR m.2.2.2 f' g) (atR m.2.2.2 h k)) (by omega) (by intro y h0 h1; omega) ?_ ?_
  · intro f next f0 f1 hP hn _ _ _ _ _ _
    dsimp only
    refine cnd_d (fun _ => ?_) (fun h => absurd f1 h)
    have rf := S.row f f0 f1
    have af := A.2.1 f f0 f1
    refine loop_ix1 (n := m.1.2.1.length) (fun h => ∀ h' : Int, 0 ≤ h' → h' < h → m.1.2.2.1.getD f.toNat 0 = m.1.2.1.getD h'.toNat 0 → ∀ g : Int, 0 ≤ g → g < m.1.2.1.length → ∀ k : Int, 0 ≤ k → k < m.1.2.1.length → m.1.2.2.1.getD g.toNat 0 = m.1.2.1.getD k.toNat 0 →
      atR m.2.2.2 (compR m.1 f h') (compR m.1 g k) = compR m.1 (atR m.2.2.2 f g) (atR m.2.2.2 h' k)) (by omega) (by intro y h0 h1; omega) ?_ ?_
    · intro h next2 h0 h1 hP2 hn2 _ _ _ _ _ _
      dsimp only
      refine cnd_d (fun _ => ?_) (fun q => absurd h1 q)
      have cfh := S.comp f0 f1 h0 h1
      have yfh := @ShapeP.yes m.1 S f h f0 f1 h0 h1
      have ah := A.2.1 h h0 h1
      refine join_of (fun s3 => s3.2.1 = m.1 ∧ (m.1.2.2.1.getD f.toNat 0 = m.1.2.1.getD h.toNat 0 → ∀ g : Int, 0 ≤ g → g < m.1.2.1.length → ∀ k : Int, 0 ≤ k → k < m.1.2.1.length → m.1.2.2.1.getD g.toNat 0 = m.1.2.1.getD k.toNat 0 →
        atR m.2.2.2 (compR m.1 f h) (compR m.1 g k) = compR m.1 (atR m.2.2.2 f g) (atR m.2.2.2 h k))) ?_ ?_
      · rintro ⟨⟨_, _⟩, y, _⟩ ⟨hy, hq⟩ _ _ _ _ _
        dsimp only at hy hq ⊢
        subst hy
        refine ⟨by rw [inK64]; omega, hn2 fun h' a0 a1 => ?_⟩
        by_cases e : h' = h
        · rw [e]; exact hq
        · exact hP2 h' a0 (by omega)
      intro kk hkk
      simp only [at1, at3]
      refine ⟨f0, by omega, h0, by omega, cnd_d (fun hx => hkk _ ⟨rfl, fun e => ?_⟩) (fun hx => ?_)⟩
      · have := cfh.2 e; omega
      have efh := cfh.1 (by omega)
      have yfh := yfh efh
      have ra := A.2.1 _ yfh.1 yfh.2.1
      refine loop_ix1 (n := m.1.2.1.length) (fun g => ∀ g' : Int, 0 ≤ g' → g' < g → ∀ k : Int, 0 ≤ k → k < m.1.2.1.length → m.1.2.2.1.getD g'.toNat 0 = m.1.2.1.getD k.toNat 0 →
        atR m.2.2.2 (compR m.1 f h) (compR m.1 g' k) = compR m.1 (atR m.2.2.2 f g') (atR m.2.2.2 h k)) (by omega) (by intro y h0 h1; omega) ?_ ?_
      · intro g next3 g0 g1 hP3 hn3 _ _ _ _ _ _
        dsimp only
        refine cnd_d (fun _ => ?_) (fun q => absurd g1 q)
        have rg := S.row g g0 g1
        have afg := A.2.2 f g f0 f1 g0 g1
        have rfg := S.row _ afg.1 afg.2
        refine loop_ix1 (n := m.1.2.1.length) (fun k => ∀ k' : Int, 0 ≤ k' → k' < k → m.1.2.2.1.getD g.toNat 0 = m.1.2.1.getD k'.toNat 0 →
          atR m.2.2.2 (compR m.1 f h) (compR m.1 g k') = compR m.1 (atR m.2.2.2 f g) (atR m.2.2.2 h k')) (by omega) (by intro y h0 h1; omega) ?_ ?_
        · intro k next4 k0 k1 hP4 hn4 _ _ _ _ _ _
          dsimp only
          simp only [at1, at3]
          have cgk := S.comp g0 g1 k0 k1
          have ygk := @ShapeP.yes m.1 S g k g0 g1 k0 k1
          have ahk := A.2.2 h k h0 h1 k0 k1
          refine cnd_d (fun _ => ⟨g0, by omega, k0, by omega, fun _ => by omega, fun _ => by omega, fun _ => by omega, fun _ => by omega, fun _ => by omega, fun q => ?_, fun _ => by omega, fun _ => by omega, fun _ => by omega, fun _ => by omega, fun _ => by omega, fun _ => by omega, cnd_of (fun hy => bad fun q => ?_) (fun hy => ⟨by rw [inK64]; omega, hn4 fun k' a0 a1 e => ?_⟩)⟩) (fun q => absurd k1 q)
          · have := ygk (cgk.1 (of_decide_eq_true q)); omega
          · simp only [Bool.and_eq_true, decide_eq_true_eq, bne_iff_ne] at hy
            exact hy.2 (inter_iff.1 q.inter f f0 f1 h h0 h1 efh g g0 g1 k k0 k1 (cgk.1 hy.1))
          · by_cases e2 : k' = k
            · rw [e2] at e ⊢
              have := cgk.2 e
              simpa [this] using hy
            · exact hP4 k' a0 (by omega) e
        · intro next4 hP4 _ _ _ _ _ _
          refine cnd_d (fun q => absurd q (by dsimp only; omega)) (fun _ => ⟨by rw [inK64]; omega, hn3 fun g' a0 a1 => ?_⟩)
          by_cases e : g' = g
          · rw [e]; exact hP4
          · exact hP3 g' a0 (by omega)
      · intro next3 hP3 _ _ _ _ _ _
        exact cnd_d (fun q => absurd q (by dsimp only; omega)) (fun _ => hkk _ ⟨rfl, fun _ => hP3⟩)
    · intro next2 hP2 _ _ _ _ _ _
      refine cnd_d (fun q => absurd q (by dsimp only; omega)) (fun _ => ⟨by rw [inK64]; omega, hn fun f' a0 a1 => ?_⟩)
      by_cases e : f' = f
      · rw [e]; exact hP2
      · exact hP f' a0 (by omega)
  · intro next hP _ _ _ _ _ _
    refine cnd_d (fun q => absurd q (by dsimp only; omega)) (fun _ => ?_)
    simp only [c_spec_l35Is]
    rw [mon_iff.2 ⟨hcat, hu, hot, hat, hE, hI, hoa, haa, inter_iff.2 hP⟩]
theorem ct_spec_l35Is : CtOk Try.prog 48 c_spec_l35Is :=
  ct_by (Φ := lkp [(73, c_spec_l02Is), (71, c_spec_l02Object), (75, c_spec_l35Ends), (74, c_spec_l35Table), (76, c_spec_l35Whole)]) (good_cons ct_spec_l02Is (good_cons ct_spec_l02Object (good_cons ct_spec_l35Ends (good_cons ct_spec_l35Table (good_cons ct_spec_l35Whole good_nil))))) tab_ok (by kernel_rfl) (fn := Try.f48) (c := bodyOf Try.f48) (by kernel_rfl) (by kernel_rfl) (by kernel_rfl) c_spec_l35Is (.s .n (.s .n (.s .n (.s .n (.s (.s .n (.l [(3, (.ad 3 [.de])), (4, (.d (.int .i64)))] [(3, (.pt (.fz (.p (.int .i64) (.p (.sl (.int .i64)) (.p (.sl (.int .i64)) (.p (.sl (.int .i64)) (.sl (.sl (.int .i64))))))))))] [1] (.s .n (.s (.s .n (.l [(3, (.ad 3 [.de])), (5, (.d (.int .i64)))] [(3, (.pt (.fz (.p (.int .i64) (.p (.sl (.int .i64)) (.p (.sl (.int .i64)) (.p (.sl (.int .i64)) (.sl (.sl (.int .i64))))))))))] [1, 4] .n)) .n)))) (.s (.s .n (.l [(3, (.ad 3 [.de])), (6, (.d (.int .i64)))] [(3, (.pt (.fz (.p (.int .i64) (.p (.sl (.int .i64)) (.p (.sl (.int .i64)) (.p (.sl (.int .i64)) (.sl (.sl (.int .i64))))))))))] [1] (.s .n (.s (.s .n (.l [(3, (.ad 3 [.de])), (7, (.d (.int .i64)))] [(3, (.pt (.fz (.p (.int .i64) (.p (.sl (.int .i64)) (.p (.sl (.int .i64)) (.p (.sl (.int .i64)) (.sl (.sl (.int .i64))))))))))] [1, 6] (.s .n (.s (.j [(3, (.ad 3 [.de]))] [(3, (.pt (.fz (.p (.int .i64) (.p (.sl (.int .i64)) (.p (.sl (.int .i64)) (.p (.sl (.int .i64)) (.sl (.sl (.int .i64))))))))))] [1, 6, 7] (.s .n (.s .n (.l [(3, (.ad 3 [.de])), (8, (.d (.int .i64)))] [(3, (.pt (.fz (.p (.int .i64) (.p (.sl (.int .i64)) (.p (.sl (.int .i64)) (.p (.sl (.int .i64)) (.sl (.sl (.int .i64))))))))))] [1, 6, 7] (.s .n (.s (.s .n (.l [(3, (.ad 3 [.de])), (9, (.d (.int .i64)))] [(3, (.pt (.fz (.p (.int .i64) (.p (.sl (.int .i64)) (.p (.sl (.int .i64)) (.p (.sl (.int .i64)) (.sl (.sl (.int .i64))))))))))] [1, 6, 7, 8] .n)) .n)))))) .n)))) .n)))) .n)))))) (cutL [(4, 23), (27, 56), (12, 29)]) (by kernel_rfl) (by kernel_rfl) k_spec_l35Is (by decide) (fun x K => W_spec_l35Is x.1 K) w_spec_l35Is (fun x h1 h2 => m_spec_l35Is x.1 h1 h2)
def c_spec_IsSymmetry : Ct := ⟨[MonoidalT, (.sl (.sl (.int .i64)))], [true, false], fun x => [], [(false, (.fz .bool)), (false, (.fz (.int .i64)))], fun x => (symR x.1 x.2.1, monCoR x.1, ()), false⟩
def W_spec_IsSymmetry (m : MonoidalD) (b : List (List Int)) (K : Bool × Int × Unit → Prop) : Prop := (cnd (!(monR m)) (K (Bool.false, ((1 : Int), ()))) ((MonP m) ∧ (cnd (!(braR m b)) (K (Bool.false, ((0 : Int), ()))) (loopW (S := ((Int × Unit) × Unit)) (fun s => (fun next => ((inK IntKind.i64 s.1.1) → (cnd (decide (s.1.1 < (((List.length b) : Nat) : Int))) (loopW (S := ((Int × Unit) × Unit)) (fun s1 => (fun next1 => ((inK IntKind.i64 s1.1.1) → (cnd (decide (s1.1.1 < (((List.length b) : Nat) : Int))) (((0 : Int) ≤ s.1.1) ∧ ((s.1.1 < (((List.length b) : Nat) : Int)) ∧ (((0 : Int) ≤ s1.1.1) ∧ ((s1.1.1 < (((List.length (List.getD b (Int.toNat s.1.1) ([] : List Int))) : Nat) : Int)) ∧ (((0 : Int) ≤ s1.1.1) ∧ ((s1.1.1 < (((List.length b) : Nat) : Int)) ∧ (((0 : Int) ≤ s.1.1) ∧ ((s.1.1 < (((List.length (List.getD b (Int.toNat s1.1.1) ([] : List Int))) : Nat) : Int)) ∧ (((0 : Int) ≤ (List.getD (List.getD b (Int.toNat s.1.1) ([] : List Int)) (Int.toNat s1.1.1) (0 : Int))) ∧ (((List.getD (List.getD b (Int.toNat s.1.1) ([] : List Int)) (Int.toNat s1.1.1) (0 : Int)) < (((List.length m.1.2.2.2.2) : Nat) : Int)) ∧ (((0 : Int) ≤ (List.getD (List.getD b (Int.toNat s1.1.1) ([] : List Int)) (Int.toNat s.1.1) (0 : Int))) ∧ (((List.getD (List.getD b (Int.toNat s1.1.1) ([] : List Int)) (Int.toNat s.1.1) (0 : Int)) < (((List.length (List.getD m.1.2.2.2.2 (Int.toNat (List.getD (List.getD b (Int.toNat s.1.1) ([] : List Int)) (Int.toNat s1.1.1) (0 : Int))) ([] : List Int))) : Nat) : Int)) ∧ ((ShapeP m.1) ∧ (((0 : Int) ≤ (compR m.1 (List.getD (List.getD b (Int.toNat s.1.1) ([] : List Int)) (Int.toNat s1.1.1) (0 : Int)) (List.getD (List.getD b (Int.toNat s1.1.1) ([] : List Int)) (Int.toNat s.1.1) (0 : Int)))) ∧ (((compR m.1 (List.getD (List.getD b (Int.toNat s.1.1) ([] : List Int)) (Int.toNat s1.1.1) (0 : Int)) (List.getD (List.getD b (Int.toNat s1.1.1) ([] : List Int)) (Int.toNat s.1.1) (0 : Int))) < (((List.length m.1.2.1) : Nat) : Int)) ∧ (cnd (!(idR m.1 (compR m.1 (List.getD (List.getD b (Int.toNat s.1.1) ([] : List Int)) (Int.toNat s1.1.1) (0 : Int)) (List.getD (List.getD b (Int.toNat s1.1.1) ([] : List Int)) (Int.toNat s.1.1) (0 : Int))))) (K (Bool.false, ((0 : Int), ()))) ((inK IntKind.i64 (s1.1.1 + (1 : Int))) ∧ (next1 (((s1.1.1 + (1 : Int)), ()), ()))))))))))))))))))) ((inK IntKind.i64 (s.1.1 + (1 : Int))) ∧ (next (((s.1.1 + (1 : Int)), ()), ()))))))) (((0 : Int), ()), ())) (K (Bool.true, ((0 : Int), ()))))))) (((0 : Int), ()), ())))))
theorem w_spec_IsSymmetry (x : denL c_spec_IsSymmetry.args) (K : Bool × Int × Unit → Prop) : evF tab (lkp [(68, c_spec_l02Then), (67, c_spec_l02Unit), (65, c_spec_l35Braiding), (48, c_spec_l35Is)]) (cutL [(11, 21)]) Try.f36 (bodyOf Try.f36) (.s .n (.s .n (.s .n (.s (.s .n (.l [(6, (.d (.int .i64)))] [] [1, 2] (.s .n (.s (.s .n (.l [(7, (.d (.int .i64)))] [] [1, 2, 6] .n)) .n)))) .n)))) c_spec_IsSymmetry x K = W_spec_IsSymmetry x.1 x.2.1 K := by kernel_rfl
theorem k_spec_IsSymmetry : okC Try.f36.ntmps (cutL [(11, 21)]) (bodyOf Try.f36) = true := by kernel_rfl
theorem m_spec_IsSymmetry (m : MonoidalD) (b : List (List Int)) (hok : allP (okL c_spec_IsSymmetry.args (m, b, ()))) (hpre : allP (c_spec_IsSymmetry.pre (m, b, ()))) : W_spec_IsSymmetry m b (fun r => r = c_spec_IsSymmetry.res (m, b, ())) := by
  simp only [c_spec_IsSymmetry, okL, T.oks, T.ok, ap, allP, true_and, and_true, implies_true] at hok hpre
  try dsimp only [T.den] at hok
  try dsimp only [T.den] at hpre
  unfold W_spec_IsSymmetry
  have resq : ∀ v u, symR m b = v → monCoR m = u → (v, u, ()) = c_spec_IsSymmetry.res (m, b, ()) := fun v u h1 h2 => by simp only [c_spec_IsSymmetry, h1, h2]
  refine cnd_of (fun hc => resq _ _ ?_ ?_) (fun hc => ⟨mon_iff.1 (by simpa using hc), ?_⟩)
  · unfold symR; rw [show monR m = false by simpa using hc]; rfl
  · unfold monCoR; rw [show monR m = false by simpa using hc]; rfl
  have hM : monR m = true := by simpa using hc
  have P := mon_iff.1 hM
  have S := cat_shape P.cat
  have O := tab_at P.ot
  have hob := S.ob
  have hlc := S.lc
  have hmm := S.m
  have h0 : monCoR m = 0 := by unfold monCoR; rw [if_pos hM]
  refine cnd_of (fun hd => resq _ _ ?_ h0) (fun hd => ?_)
  · unfold symR; rw [show braR m b = false by simpa using hd, Bool.and_false]; rfl
  have hB : braR m b = true := by simpa using hd
  have Q := (bra_iff hob.1).1 hB
  have B := btab_of Q.len Q.sq
  have hbl := Q.len
  have hsym : symR m b = allB b.length fun x => allB b.length fun y => idR m.1 (compR m.1 (atR b x y) (atR b y x)) := by unfold symR; rw [hM, hB]; rfl
  have bad : ∀ x y : Int, 0 ≤ x → x < b.length → 0 ≤ y → y < b.length → idR m.1 (compR m.1 (atR b x y) (atR b y x)) = false → (false, 0, ()) = c_spec_IsSymmetry.res (m, b, ()) := fun x y x0 x1 y0 y1 hx => by
    refine resq _ _ ?_ h0
    rw [hsym]
    cases hs : (allB b.length fun x => allB b.length fun y => idR m.1 (compR m.1 (atR b x y) (atR b y x))) with
    | false => rfl
    | true =>
      simp only [allB_iff] at hs
      rw [hs x x0 x1 y y0 y1] at hx; cases hx
  have at4 : ∀ i j : Int, (b.getD i.toNat []).getD j.toNat 0 = atR b i j := fun _ _ => rfl
  refine loop_ix (n := b.length) (fun x => ∀ x' : Int, 0 ≤ x' → x' < x → ∀ y : Int, 0 ≤ y → y < b.length → idR m.1 (compR m.1 (atR b x' y) (atR b y x')) = true) (by omega) (by intro y h0 h1; omega) ?_ ?_
  · intro x next x0 x1 hP hn hin
    dsimp only
    have rx := B.row x x0 (by omega)
    refine cnd_d (fun _ => ?_) (fun h => absurd x1 h)
    refine loop_ix (n := b.length) (fun y => ∀ y' : Int, 0 ≤ y' → y' < y → idR m.1 (compR m.1 (atR b x y') (atR b y' x)) = true) (by omega) (by intro y h0 h1; omega) ?_ ?_
    · intro y next2 y0 y1 hP2 hn2 hin2
      dsimp only
      simp only [at4]
      have x2 : x < m.1.1 := by omega
      have y2 : y < m.1.1 := by omega
      have ry := B.row y y0 y2
      have bxy := B.at_ x y x0 x2 y0 y2
      have byx := B.at_ y x y0 y2 x0 x2
      have c1 := S.row _ bxy.1 bxy.2
      have i1 := braI_iff.1 (Q.ent x x0 x2 y y0 y2)
      have i2 := braI_iff.1 (Q.ent y y0 y2 x x0 x2)
      have cc := S.yes bxy.1 bxy.2 byx.1 byx.2 (by rw [i1.2.1, i2.1])
      refine cnd_d (fun _ => ?_) (fun h => absurd y1 h)
      repeat' (with_reducible apply And.intro)
      all_goals first | exact S | omega | (intro _; omega) | skip
      refine cnd_of (fun hx => bad x y x0 x1 y0 (by omega) (by simpa using hx)) (fun hx => ⟨by rw [inK64]; omega, hn2 fun y' a0 a1 => ?_⟩)
      by_cases e : y' = y
      · rw [e]; simpa using hx
      · exact hP2 y' a0 (by omega)
    · intro next2 hP2 hin2
      refine cnd_d (fun h => absurd h (by dsimp only; omega)) (fun _ => ⟨by rw [inK64]; omega, hn fun x' a0 a1 => ?_⟩)
      by_cases e : x' = x
      · rw [e]; exact fun y y0 y1 => hP2 y y0 (by omega)
      · exact hP x' a0 (by omega)
  · intro next hP hin
    refine cnd_d (fun h => absurd h (by dsimp only; omega)) (fun _ => resq _ _ ?_ h0)
    rw [hsym]
    simp only [allB_iff]
    exact hP
theorem ct_spec_IsSymmetry : CtOk Try.prog 36 c_spec_IsSymmetry :=
  ct_by (Φ := lkp [(68, c_spec_l02Then), (67, c_spec_l02Unit), (65, c_spec_l35Braiding), (48, c_spec_l35Is)]) (good_cons ct_spec_l02Then (good_cons ct_spec_l02Unit (good_cons ct_spec_l35Braiding (good_cons ct_spec_l35Is good_nil)))) tab_ok (by kernel_rfl) (fn := Try.f36) (c := bodyOf Try.f36) (by kernel_rfl) (by kernel_rfl) (by kernel_rfl) c_spec_IsSymmetry (.s .n (.s .n (.s .n (.s (.s .n (.l [(6, (.d (.int .i64)))] [] [1, 2] (.s .n (.s (.s .n (.l [(7, (.d (.int .i64)))] [] [1, 2, 6] .n)) .n)))) .n)))) (cutL [(11, 21)]) (by kernel_rfl) (by kernel_rfl) k_spec_IsSymmetry (by decide) (fun x K => W_spec_IsSymmetry x.1 x.2.1 K) w_spec_IsSymmetry (fun x h1 h2 => m_spec_IsSymmetry x.1 x.2.1 h1 h2)
def c_laws_FnExactIsSymmetry : Ct := ⟨[MonoidalT, (.sl (.sl (.int .i64)))], [true, false], fun x => [], [(false, (.fz .bool))], fun x => (true, ()), false⟩
def W_laws_FnExactIsSymmetry (aM : MonoidalD) (aB : List (List Int)) (K : Bool × Unit → Prop) : Prop := (((-(4611404543450677248 : Int)) ≤ (1048576 : Int)) ∧ (cnd (decide ((szR (wR MonoidalT aM) (1048576 : Int)) < (0 : Int))) (K (Bool.true, ())) (((-(4611404543450677248 : Int)) ≤ (szR (wR MonoidalT aM) (1048576 : Int))) ∧ (cnd (decide ((szR (wR (T.sl (T.sl (T.int IntKind.i64))) aB) (szR (wR MonoidalT aM) (1048576 : Int))) < (0 : Int))) (K (Bool.true, ())) (((wR MonoidalT aM) ≤ 1099511627776) ∧ (((wR (T.sl (T.sl (T.int IntKind.i64))) aB) ≤ 1099511627776) ∧ (((wR MonoidalT aM) ≤ 1099511627776) ∧ (((wR (T.sl (T.sl (T.int IntKind.i64))) aB) ≤ 1099511627776) ∧ (cnd (((symR aM aB) != (symR aM aB)) || ((monCoR aM) != (monCoR aM))) (K (Bool.false, ())) (((wR MonoidalT aM) ≤ 1099511627776) ∧ (cnd (!(eqR MonoidalT aM aM)) (K (Bool.false, ())) (((wR (T.sl (T.sl (T.int IntKind.i64))) aB) ≤ 1099511627776) ∧ (cnd (!(eqR (T.sl (T.sl (T.int IntKind.i64))) aB aB)) (K (Bool.false, ())) (K (Bool.true, ())))))))))))))))
theorem w_laws_FnExactIsSymmetry (x : denL c_laws_FnExactIsSymmetry.args) (K : Bool × Unit → Prop) : evF tab (lkp [(37, c_impl_IsSymmetry), (35, c_laws_eqInt64SS), (21, c_laws_eqMonoidal), (31, c_laws_szInt64SS), (16, c_laws_szMonoidal), (33, c_laws_toInt64SS), (18, c_laws_toMonoidal), (36, c_spec_IsSymmetry)]) (cutL [(14, 5)]) Try.f10 (bodyOf Try.f10) .n c_laws_FnExactIsSymmetry x K = W_laws_FnExactIsSymmetry x.1 x.2.1 K := by kernel_rfl
theorem k_laws_FnExactIsSymmetry : okC Try.f10.ntmps (cutL [(14, 5)]) (bodyOf Try.f10) = true := by kernel_rfl
theorem m_laws_FnExactIsSymmetry (aM : MonoidalD) (aB : List (List Int)) (hok : allP (okL c_laws_FnExactIsSymmetry.args (aM, aB, ()))) (hpre : allP (c_laws_FnExactIsSymmetry.pre (aM, aB, ()))) : W_laws_FnExactIsSymmetry aM aB (fun r => r = c_laws_FnExactIsSymmetry.res (aM, aB, ())) := by
  simp only [c_laws_FnExactIsSymmetry, okL, T.oks, T.ok, ap, allP, true_and, and_true, implies_true] at hok hpre
  try dsimp only [T.den] at hok
  try dsimp only [T.den] at hpre
  unfold W_laws_FnExactIsSymmetry
  generalize wR MonoidalT aM = n1
  generalize wR (.sl (.sl (.int .i64))) aB = n2
  simp only [eqR_self]
  clear hok
  grind [cnd, nb_eq, inK64, szR, c_laws_FnExactIsSymmetry]
theorem ct_laws_FnExactIsSymmetry : CtOk Try.prog 10 c_laws_FnExactIsSymmetry :=
  ct_by (Φ := lkp [(37, c_impl_IsSymmetry), (35, c_laws_eqInt64SS), (21, c_laws_eqMonoidal), (31, c_laws_szInt64SS), (16, c_laws_szMonoidal), (33, c_laws_toInt64SS), (18, c_laws_toMonoidal), (36, c_spec_IsSymmetry)]) (good_cons ct_impl_IsSymmetry (good_cons ct_laws_eqInt64SS (good_cons ct_laws_eqMonoidal (good_cons ct_laws_szInt64SS (good_cons ct_laws_szMonoidal (good_cons ct_laws_toInt64SS (good_cons ct_laws_toMonoidal (good_cons ct_spec_IsSymmetry good_nil)))))))) tab_ok (by kernel_rfl) (fn := Try.f10) (c := bodyOf Try.f10) (by kernel_rfl) (by kernel_rfl) (by kernel_rfl) c_laws_FnExactIsSymmetry .n (cutL [(14, 5)]) (by kernel_rfl) (by kernel_rfl) k_laws_FnExactIsSymmetry (by decide) (fun x K => W_laws_FnExactIsSymmetry x.1 x.2.1 K) w_laws_FnExactIsSymmetry (fun x h1 h2 => m_laws_FnExactIsSymmetry x.1 x.2.1 h1 h2)
end Go.Bm
