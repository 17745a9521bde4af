/- What the functions that FnExactSystemOf reaches give: for each its contract, what it asks, and the proof. No condition. -/
import Derived.Test.YtjlppddaadhhcaaFnExactSystemOfFnsA
namespace Go.Bm
open Go.Proofs
set_option maxRecDepth 100000
set_option maxHeartbeats 1000000
set_option linter.unusedVariables false
set_option linter.unusedSimpArgs false
def c_spec_l18System : Ct := ⟨[CategoryT, (.sl (.int .i64)), (.sl (.int .i64))], [true, false, false], fun x => [ShapeP x.1, withinR x.2.1 x.1.2.1.length = true, withinR x.2.2.1 x.1.2.1.length = true, x.2.1.length ≤ 40, x.2.2.1.length ≤ 40], [(false, (.fz .bool))], fun x => (sysR x.1 x.2.1 x.2.2.1, ()), false, none⟩
def W_spec_l18System (c : CategoryD) (e : List Int) (m : List Int) (K : Bool × Unit → Prop) : Prop := ((ShapeP c) ∧ (((withinR e (((List.length c.2.1) : Nat) : Int)) = Bool.true) ∧ ((((!(eqR (T.sl (T.int IntKind.i64)) (rightR c e) m)) = Bool.false) → (((withinR m (((List.length c.2.1) : Nat) : Int)) = Bool.true) ∧ (ShapeP c))) ∧ (cnd ((!(eqR (T.sl (T.int IntKind.i64)) (rightR c e) m)) || (!(eqR (T.sl (T.int IntKind.i64)) (leftR c m) e))) (K (Bool.false, ())) (loopW (S := ((Int × Unit) × Unit)) (fun s => (fun next => ((inK IntKind.i64 s.1.1) → (cnd (decide (s.1.1 < (((List.length c.2.1) : Nat) : Int))) ((ShapeP c) ∧ (((withinR e (((List.length c.2.1) : Nat) : Int)) = Bool.true) ∧ (((withinR m (((List.length c.2.1) : Nat) : Int)) = Bool.true) ∧ (((0 : Int) ≤ s.1.1) ∧ ((s.1.1 < (((List.length c.2.1) : Nat) : Int)) ∧ (((List.length e) ≤ 40) ∧ (((List.length m) ≤ 40) ∧ (cnd ((((List.length (facLR c e m s.1.1)) : Nat) : Int) == (0 : Int)) (K (Bool.false, ())) ((inK IntKind.i64 (s.1.1 + (1 : Int))) ∧ (next (((s.1.1 + (1 : Int)), ()), ()))))))))))) (K (Bool.true, ())))))) (((0 : Int), ()), ()))))))
theorem w_spec_l18System (x : denL c_spec_l18System.args) (K : Bool × Unit → Prop) : evF tab (lkp [(108, c_spec_l01Same), (109, c_spec_l18Factor), (72, c_spec_l18Left), (76, c_spec_l18Right)]) (cutL []) Try.f83 (bodyOf Try.f83) (.s .n (.s .n (.s (.s .n (.l [(7, (.d (.int .i64)))] [] [1, 2, 3] .n)) .n))) c_spec_l18System x K = W_spec_l18System x.1 x.2.1 x.2.2.1 K := by kernel_rfl
theorem k_spec_l18System : okC Try.f83.ntmps (cutL []) (bodyOf Try.f83) = true := by kernel_rfl
theorem m_spec_l18System (c : CategoryD) (e : List Int) (m : List Int) (hok : allP (okL c_spec_l18System.args (c, e, m, ()))) (hpre : allP (c_spec_l18System.pre (c, e, m, ()))) : W_spec_l18System c e m (fun r => r = c_spec_l18System.res (c, e, m, ())) := by
  simp only [c_spec_l18System, okL, T.oks, T.ok, ap, allP, true_and, and_true, implies_true] at hok hpre
  try dsimp only [T.den] at hok
  try dsimp only [T.den] at hpre
  unfold W_spec_l18System
  obtain ⟨S, hwe, hwm, hel, hml⟩ := hpre
  have hmm := S.m
  clear hok
  refine ⟨S, hwe, fun _ => ⟨hwm, S⟩, cnd_of (fun h => ?_) (fun h => ?_)⟩
  · simp only [c_spec_l18System, sysR]
    rw [(by decide : ∀ p q : Bool, (!p || !q) = true → (p && q) = false) _ _ h, Bool.false_and]
  have hpq := (by decide : ∀ p q : Bool, (!p || !q) = false → (p && q) = true) _ _ h
  have hres : c_spec_l18System.res (c, e, m, ()) = (factR c e m, ()) := by simp only [c_spec_l18System, sysR]; rw [hpq, Bool.true_and]
  rw [hres]
  unfold factR
  refine loop_allB c.2.1.length (facR c e m) ?_ ?_
  · intro i next i0 i1 hbad hn _
    have hf := @fac_iff c e m i S hwe hwm i0 i1
    refine cnd_d (fun _ => ⟨S, hwe, hwm, i0, i1, hel, hml, cnd_of (fun h1 => ?_) (fun h1 => ⟨by rw [inK64]; (try dsimp only); omega, hn ?_⟩)⟩) (fun h => absurd i1 h)
    · rw [beq_iff_eq] at h1
      try dsimp only at h1
      rw [hbad ?_]
      cases hb : facR c e m i with
      | false => rfl
      | true => have := hf.1 hb; omega
    · rw [beq_eq_false_iff_ne] at h1
      try dsimp only at h1
      exact hf.2 (by omega)
  · intro next hP _
    exact cnd_d (fun h => absurd h (by dsimp only; omega)) (fun _ => by rw [hP])
theorem ct_spec_l18System : CtOk Try.prog 83 c_spec_l18System :=
  ct_by (Φ := lkp [(108, c_spec_l01Same), (109, c_spec_l18Factor), (72, c_spec_l18Left), (76, c_spec_l18Right)]) (good_cons ct_spec_l01Same (good_cons ct_spec_l18Factor (good_cons ct_spec_l18Left (good_cons ct_spec_l18Right good_nil)))) tab_ok (by kernel_rfl) (fn := Try.f83) (c := bodyOf Try.f83) (by kernel_rfl) (by kernel_rfl) (by kernel_rfl) c_spec_l18System rfl (.s .n (.s .n (.s (.s .n (.l [(7, (.d (.int .i64)))] [] [1, 2, 3] .n)) .n))) (cutL []) (by kernel_rfl) (by kernel_rfl) k_spec_l18System (by decide) (fun x K => W_spec_l18System x.1 x.2.1 x.2.2.1 K) w_spec_l18System (fun x h1 h2 => m_spec_l18System x.1 x.2.1 x.2.2.1 h1 h2)
def c_spec_SystemOf : Ct := ⟨[CategoryT, (.sl (.int .i64))], [true, false], fun x => [], [(false, (.sl (.fz (.int .i64)))), (false, (.sl (.fz (.int .i64)))), (false, (.fz .bool)), (false, (.fz (.int .i64)))], fun x => ((systemR x.1 x.2.1).1, (systemR x.1 x.2.1).2.1, (systemR x.1 x.2.1).2.2.1, (systemR x.1 x.2.1).2.2.2, ()), false, none⟩
def W_spec_SystemOf (c : CategoryD) (arrows : List Int) (K : (List Int) × (List Int) × Bool × Int × Unit → Prop) : Prop := (cnd ((clCodeR c (arrows :: (([] : List Int) :: ([] : List (List Int))))) != (0 : Int)) (K (([] : List Int), (([] : List Int), (Bool.false, ((clCodeR c (arrows :: (([] : List Int) :: ([] : List (List Int))))), ()))))) ((ShapeP c) ∧ (((withinR arrows (((List.length c.2.1) : Nat) : Int)) = Bool.true) ∧ ((ShapeP c) ∧ (((withinR (rightR c arrows) (((List.length c.2.1) : Nat) : Int)) = Bool.true) ∧ ((ShapeP c) ∧ (((withinR (leftR c (rightR c arrows)) (((List.length c.2.1) : Nat) : Int)) = Bool.true) ∧ (((withinR (rightR c arrows) (((List.length c.2.1) : Nat) : Int)) = Bool.true) ∧ (((List.length (leftR c (rightR c arrows))) ≤ 40) ∧ (((List.length (rightR c arrows)) ≤ 40) ∧ (K ((leftR c (rightR c arrows)), ((rightR c arrows), ((sysR c (leftR c (rightR c arrows)) (rightR c arrows)), ((0 : Int), ())))))))))))))))
theorem w_spec_SystemOf (x : denL c_spec_SystemOf.args) (K : (List Int) × (List Int) × Bool × Int × Unit → Prop) : evF tab (lkp [(71, c_spec_l18Code), (72, c_spec_l18Left), (76, c_spec_l18Right), (83, c_spec_l18System)]) (cutL []) Try.f41 (bodyOf Try.f41) .n c_spec_SystemOf x K = W_spec_SystemOf x.1 x.2.1 K := by kernel_rfl
theorem k_spec_SystemOf : okC Try.f41.ntmps (cutL []) (bodyOf Try.f41) = true := by kernel_rfl
theorem m_spec_SystemOf (c : CategoryD) (arrows : List Int) (hok : allP (okL c_spec_SystemOf.args (c, arrows, ()))) (hpre : allP (c_spec_SystemOf.pre (c, arrows, ()))) : W_spec_SystemOf c arrows (fun r => r = c_spec_SystemOf.res (c, arrows, ())) := by
  simp only [c_spec_SystemOf, okL, T.oks, T.ok, ap, allP, true_and, and_true, implies_true] at hok hpre
  try dsimp only [T.den] at hok
  try dsimp only [T.den] at hpre
  unfold W_spec_SystemOf
  rw [cl_nil]
  refine cnd_of (fun hc => ?_) (fun hc => ?_)
  · simp only [c_spec_SystemOf, systemR]; rw [if_neg (by simpa using hc)]
  have hz : clCodeR c [arrows] = 0 := by simpa using hc
  obtain ⟨S, hw⟩ := cl_one hz
  have hmm := S.m
  have hwr := right_within c arrows
  have hwl := left_within c (rightR c arrows)
  have h1 := left_len c (rightR c arrows)
  have h2 := right_len c arrows
  refine ⟨S, hw, S, hwr, S, hwl, hwr, by omega, by omega, ?_⟩
  simp only [c_spec_SystemOf, systemR]
  rw [if_pos hz]
theorem ct_spec_SystemOf : CtOk Try.prog 41 c_spec_SystemOf :=
  ct_by (Φ := lkp [(71, c_spec_l18Code), (72, c_spec_l18Left), (76, c_spec_l18Right), (83, c_spec_l18System)]) (good_cons ct_spec_l18Code (good_cons ct_spec_l18Left (good_cons ct_spec_l18Right (good_cons ct_spec_l18System good_nil)))) tab_ok (by kernel_rfl) (fn := Try.f41) (c := bodyOf Try.f41) (by kernel_rfl) (by kernel_rfl) (by kernel_rfl) c_spec_SystemOf rfl .n (cutL []) (by kernel_rfl) (by kernel_rfl) k_spec_SystemOf (by decide) (fun x K => W_spec_SystemOf x.1 x.2.1 K) w_spec_SystemOf (fun x h1 h2 => m_spec_SystemOf x.1 x.2.1 h1 h2)
def c_laws_FnExactSystemOf : Ct := ⟨[CategoryT, (.sl (.int .i64))], [true, false], fun x => [], [(false, (.fz .bool))], fun x => (true, ()), false, none⟩
def W_laws_FnExactSystemOf (aC : CategoryD) (aArrows : List Int) (K : Bool × Unit → Prop) : Prop := (cnd (decide ((1048576 : Int) < (((List.length aArrows) : Nat) : Int))) (K (Bool.true, ())) (((-(4611404543450677248 : Int)) ≤ (1048576 : Int)) ∧ (cnd (decide ((szR (wR CategoryT aC) (1048576 : Int)) < (0 : Int))) (K (Bool.true, ())) (((wR CategoryT aC) ≤ 1099511627776) ∧ (((wR (T.sl (T.int IntKind.i64)) aArrows) ≤ 1099511627776) ∧ (((wR CategoryT aC) ≤ 1099511627776) ∧ (((wR (T.sl (T.int IntKind.i64)) aArrows) ≤ 1099511627776) ∧ (cnd ((((!(eqR (T.sl (T.int IntKind.i64)) (systemR aC aArrows).1 (systemR aC aArrows).1)) || (!(eqR (T.sl (T.int IntKind.i64)) (systemR aC aArrows).2.1 (systemR aC aArrows).2.1))) || ((systemR aC aArrows).2.2.1 != (systemR aC aArrows).2.2.1)) || ((systemR aC aArrows).2.2.2 != (systemR aC aArrows).2.2.2)) (K (Bool.false, ())) (((wR CategoryT aC) ≤ 1099511627776) ∧ (cnd (!(eqR CategoryT aC aC)) (K (Bool.false, ())) (((wR (T.sl (T.int IntKind.i64)) aArrows) ≤ 1099511627776) ∧ (cnd (!(eqR (T.sl (T.int IntKind.i64)) aArrows aArrows)) (K (Bool.false, ())) (((0 : Int) ≤ (1 : Int)) ∧ ((((1 : Int) + (((ctR CategoryT aC) : Nat) : Int)) ≤ (4611686018427387904 : Int)) ∧ (((0 : Int) ≤ (mtR CategoryT aC (1 : Int)).2) ∧ ((((mtR CategoryT aC (1 : Int)).2 + (((ckR (T.sl (T.int IntKind.i64)) aArrows) : Nat) : Int)) ≤ (4611686018427387904 : Int)) ∧ (cnd (((((decide ((mkR (T.sl (T.int IntKind.i64)) aArrows (mtR CategoryT aC (1 : Int)).2).2 < (0 : Int))) || (!(eqR (T.sl (T.int IntKind.i64)) (systemR aC aArrows).1 (systemR aC aArrows).1))) || (!(eqR (T.sl (T.int IntKind.i64)) (systemR aC aArrows).2.1 (systemR aC aArrows).2.1))) || ((systemR aC aArrows).2.2.1 != (systemR aC aArrows).2.2.1)) || ((systemR aC aArrows).2.2.2 != (systemR aC aArrows).2.2.2)) (K (Bool.false, ())) (((0 : Int) ≤ (1 : Int)) ∧ ((((1 : Int) + (((ckR (T.sl (T.int IntKind.i64)) (systemR aC aArrows).1) : Nat) : Int)) ≤ (4611686018427387904 : Int)) ∧ (((0 : Int) ≤ (mkR (T.sl (T.int IntKind.i64)) (systemR aC aArrows).1 (1 : Int)).2) ∧ ((((mkR (T.sl (T.int IntKind.i64)) (systemR aC aArrows).1 (1 : Int)).2 + (((ckR (T.sl (T.int IntKind.i64)) (systemR aC aArrows).2.1) : Nat) : Int)) ≤ (4611686018427387904 : Int)) ∧ (((0 : Int) ≤ (1 : Int)) ∧ ((((1 : Int) + (((ckR (T.sl (T.int IntKind.i64)) (mkR (T.sl (T.int IntKind.i64)) (systemR aC aArrows).1 (1 : Int)).1) : Nat) : Int)) ≤ (4611686018427387904 : Int)) ∧ (cnd (decide ((hdR (T.sl (T.int IntKind.i64)) (mkR (T.sl (T.int IntKind.i64)) (systemR aC aArrows).1 (1 : Int)).1 (1 : Int)) < (0 : Int))) (K (Bool.false, ())) (((0 : Int) ≤ (hdR (T.sl (T.int IntKind.i64)) (mkR (T.sl (T.int IntKind.i64)) (systemR aC aArrows).1 (1 : Int)).1 (1 : Int))) ∧ ((((hdR (T.sl (T.int IntKind.i64)) (mkR (T.sl (T.int IntKind.i64)) (systemR aC aArrows).1 (1 : Int)).1 (1 : Int)) + (((ckR (T.sl (T.int IntKind.i64)) (mkR (T.sl (T.int IntKind.i64)) (systemR aC aArrows).2.1 (mkR (T.sl (T.int IntKind.i64)) (systemR aC aArrows).1 (1 : Int)).2).1) : Nat) : Int)) ≤ (4611686018427387904 : Int)) ∧ (cnd (decide ((hdR (T.sl (T.int IntKind.i64)) (mkR (T.sl (T.int IntKind.i64)) (systemR aC aArrows).2.1 (mkR (T.sl (T.int IntKind.i64)) (systemR aC aArrows).1 (1 : Int)).2).1 (hdR (T.sl (T.int IntKind.i64)) (mkR (T.sl (T.int IntKind.i64)) (systemR aC aArrows).1 (1 : Int)).1 (1 : Int))) < (0 : Int))) (K (Bool.false, ())) (cnd ((hdR (T.sl (T.int IntKind.i64)) (mkR (T.sl (T.int IntKind.i64)) (systemR aC aArrows).2.1 (mkR (T.sl (T.int IntKind.i64)) (systemR aC aArrows).1 (1 : Int)).2).1 (hdR (T.sl (T.int IntKind.i64)) (mkR (T.sl (T.int IntKind.i64)) (systemR aC aArrows).1 (1 : Int)).1 (1 : Int))) != (mkR (T.sl (T.int IntKind.i64)) (systemR aC aArrows).2.1 (mkR (T.sl (T.int IntKind.i64)) (systemR aC aArrows).1 (1 : Int)).2).2) (K (Bool.false, ())) (((wR CategoryT aC) ≤ 1099511627776) ∧ (((wR (T.sl (T.int IntKind.i64)) aArrows) ≤ 1099511627776) ∧ (cnd ((((!(eqR (T.sl (T.int IntKind.i64)) (systemR aC aArrows).1 (systemR aC aArrows).1)) || (!(eqR (T.sl (T.int IntKind.i64)) (systemR aC aArrows).2.1 (systemR aC aArrows).2.1))) || ((systemR aC aArrows).2.2.1 != (systemR aC aArrows).2.2.1)) || ((systemR aC aArrows).2.2.2 != (systemR aC aArrows).2.2.2)) (K (Bool.false, ())) (((0 : Int) ≤ (1 : Int)) ∧ ((((1 : Int) + (((ckR (T.sl (T.int IntKind.i64)) (mkR (T.sl (T.int IntKind.i64)) (systemR aC aArrows).1 (1 : Int)).1) : Nat) : Int)) ≤ (4611686018427387904 : Int)) ∧ (cnd (decide ((hdR (T.sl (T.int IntKind.i64)) (mkR (T.sl (T.int IntKind.i64)) (systemR aC aArrows).1 (1 : Int)).1 (1 : Int)) < (0 : Int))) (K (Bool.false, ())) (((0 : Int) ≤ (hdR (T.sl (T.int IntKind.i64)) (mkR (T.sl (T.int IntKind.i64)) (systemR aC aArrows).1 (1 : Int)).1 (1 : Int))) ∧ ((((hdR (T.sl (T.int IntKind.i64)) (mkR (T.sl (T.int IntKind.i64)) (systemR aC aArrows).1 (1 : Int)).1 (1 : Int)) + (((ckR (T.sl (T.int IntKind.i64)) (mkR (T.sl (T.int IntKind.i64)) (systemR aC aArrows).2.1 (mkR (T.sl (T.int IntKind.i64)) (systemR aC aArrows).1 (1 : Int)).2).1) : Nat) : Int)) ≤ (4611686018427387904 : Int)) ∧ (cnd (decide ((hdR (T.sl (T.int IntKind.i64)) (mkR (T.sl (T.int IntKind.i64)) (systemR aC aArrows).2.1 (mkR (T.sl (T.int IntKind.i64)) (systemR aC aArrows).1 (1 : Int)).2).1 (hdR (T.sl (T.int IntKind.i64)) (mkR (T.sl (T.int IntKind.i64)) (systemR aC aArrows).1 (1 : Int)).1 (1 : Int))) < (0 : Int))) (K (Bool.false, ())) (cnd ((hdR (T.sl (T.int IntKind.i64)) (mkR (T.sl (T.int IntKind.i64)) (systemR aC aArrows).2.1 (mkR (T.sl (T.int IntKind.i64)) (systemR aC aArrows).1 (1 : Int)).2).1 (hdR (T.sl (T.int IntKind.i64)) (mkR (T.sl (T.int IntKind.i64)) (systemR aC aArrows).1 (1 : Int)).1 (1 : Int))) != (mkR (T.sl (T.int IntKind.i64)) (systemR aC aArrows).2.1 (mkR (T.sl (T.int IntKind.i64)) (systemR aC aArrows).1 (1 : Int)).2).2) (K (Bool.false, ())) (K (Bool.true, ()))))))))))))))))))))))))))))))))))))))))
theorem w_laws_FnExactSystemOf (x : denL c_laws_FnExactSystemOf.args) (K : Bool × Unit → Prop) : evF tab (lkp [(42, c_impl_SystemOf), (19, c_laws_eqCategory), (18, c_laws_eqInt64S), (22, c_laws_heldInt64S), (20, c_laws_markCategory), (21, c_laws_markInt64S), (13, c_laws_szCategory), (15, c_laws_toCategory), (16, c_laws_toInt64S), (41, c_spec_SystemOf)]) (cutL [(13, 5)]) Try.f10 (bodyOf Try.f10) .n c_laws_FnExactSystemOf x K = W_laws_FnExactSystemOf x.1 x.2.1 K := by kernel_rfl
theorem k_laws_FnExactSystemOf : okC Try.f10.ntmps (cutL [(13, 5)]) (bodyOf Try.f10) = true := by kernel_rfl
theorem m_laws_FnExactSystemOf (aC : CategoryD) (aArrows : List Int) (hok : allP (okL c_laws_FnExactSystemOf.args (aC, aArrows, ()))) (hpre : allP (c_laws_FnExactSystemOf.pre (aC, aArrows, ()))) : W_laws_FnExactSystemOf aC aArrows (fun r => r = c_laws_FnExactSystemOf.res (aC, aArrows, ())) := by
  simp only [c_laws_FnExactSystemOf, okL, T.oks, T.ok, ap, allP, true_and, and_true, implies_true] at hok hpre
  try dsimp only [T.den] at hok
  try dsimp only [T.den] at hpre
  unfold W_laws_FnExactSystemOf
  have hg1 : (systemR aC aArrows).1.length ≤ 40 := by
    unfold systemR
    split
    · rename_i h; exact Nat.le_trans (left_len _ _) (cl_one h).1.m
    · simp
  have hg2 : (systemR aC aArrows).2.1.length ≤ 40 := by
    unfold systemR
    split
    · rename_i h; exact Nat.le_trans (right_len _ _) (cl_one h).1.m
    · simp
  have e1 := ct_le CategoryT (by decide) aC
  rw [wR_ints]
  have e2 := @hd_mk1 (.sl (.int .i64)) (systemR aC aArrows).1 1
  have e3 := @hd_mk1 (.sl (.int .i64)) (systemR aC aArrows).2.1 (1 + (systemR aC aArrows).1.length)
  simp only [Int.ofNat_one, Int.natCast_one, Int.natCast_add, ck_ints] at e2 e3
  simp only [eqR_self, mk_num, mt_num, ck_mk, ck_ints, e2, e3, szR_neg]
  generalize wR CategoryT aC = n1 at *
  generalize ctR CategoryT aC = n2 at *
  generalize (systemR aC aArrows) = g at *
  clear hok
  repeat' (first | rfl | (refine cnd_d (fun _ => rfl) (fun h => ?_)) | (refine cnd_of (fun h => absurd h (by first | (simp; done) | (simp; omega))) (fun _ => ?_)) | (refine ⟨by omega, ?_⟩))
theorem ct_laws_FnExactSystemOf : CtOk Try.prog 10 c_laws_FnExactSystemOf :=
  ct_by (Φ := lkp [(42, c_impl_SystemOf), (19, c_laws_eqCategory), (18, c_laws_eqInt64S), (22, c_laws_heldInt64S), (20, c_laws_markCategory), (21, c_laws_markInt64S), (13, c_laws_szCategory), (15, c_laws_toCategory), (16, c_laws_toInt64S), (41, c_spec_SystemOf)]) (good_cons ct_impl_SystemOf (good_cons ct_laws_eqCategory (good_cons ct_laws_eqInt64S (good_cons ct_laws_heldInt64S (good_cons ct_laws_markCategory (good_cons ct_laws_markInt64S (good_cons ct_laws_szCategory (good_cons ct_laws_toCategory (good_cons ct_laws_toInt64S (good_cons ct_spec_SystemOf good_nil)))))))))) tab_ok (by kernel_rfl) (fn := Try.f10) (c := bodyOf Try.f10) (by kernel_rfl) (by kernel_rfl) (by kernel_rfl) c_laws_FnExactSystemOf rfl .n (cutL [(13, 5)]) (by kernel_rfl) (by kernel_rfl) k_laws_FnExactSystemOf (by decide) (fun x K => W_laws_FnExactSystemOf x.1 x.2.1 K) w_laws_FnExactSystemOf (fun x h1 h2 => m_laws_FnExactSystemOf x.1 x.2.1 h1 h2)
end Go.Bm
