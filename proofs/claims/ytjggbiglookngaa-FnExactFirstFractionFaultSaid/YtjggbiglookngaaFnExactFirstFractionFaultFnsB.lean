/- What the functions that FnExactFirstFractionFault reaches give: for each its contract, what it asks, and the proof. No condition. -/
import Derived.Test.YtjggbiglookngaaFnExactFirstFractionFaultFnsA
namespace Go.Bm
open Go.Proofs
set_option maxRecDepth 100000
set_option maxHeartbeats 1000000
set_option linter.unusedVariables false
set_option linter.unusedSimpArgs false
def c_laws_FnExactFirstFractionFault : Ct := ⟨[CategoryT, (.sl (.int .i64))], [true, false], fun x => [], [(false, (.fz .bool))], fun x => (true, ()), false, none⟩
def W_laws_FnExactFirstFractionFault (aC : CategoryD) (aW : List Int) (K : Bool × Unit → Prop) : Prop := (cnd (decide ((1048576 : Int) < (((List.length aW) : Nat) : Int))) (K (Bool.true, ())) (((-(4611404543450677248 : Int)) ≤ (1048576 : Int)) ∧ (cnd (decide ((szR (wR CategoryT aC) (1048576 : Int)) < (0 : Int))) (K (Bool.true, ())) (((wR CategoryT aC) ≤ 1099511627776) ∧ (((wR (T.sl (T.int IntKind.i64)) aW) ≤ 1099511627776) ∧ (((wR CategoryT aC) ≤ 1099511627776) ∧ (((wR (T.sl (T.int IntKind.i64)) aW) ≤ 1099511627776) ∧ (cnd (((((ffMR aC aW).1 != (ffMR aC aW).1) || ((ffMR aC aW).2.1 != (ffMR aC aW).2.1)) || ((ffMR aC aW).2.2.1 != (ffMR aC aW).2.2.1)) || ((ffMR aC aW).2.2.2 != (ffMR aC aW).2.2.2)) (K (Bool.false, ())) (((wR CategoryT aC) ≤ 1099511627776) ∧ (cnd (!(eqR CategoryT aC aC)) (K (Bool.false, ())) (((wR (T.sl (T.int IntKind.i64)) aW) ≤ 1099511627776) ∧ (cnd (!(eqR (T.sl (T.int IntKind.i64)) aW aW)) (K (Bool.false, ())) (K (Bool.true, ()))))))))))))))
theorem w_laws_FnExactFirstFractionFault (x : denL c_laws_FnExactFirstFractionFault.args) (K : Bool × Unit → Prop) : evF tab (lkp [(30, c_impl_FirstFractionFault), (23, c_laws_eqCategory), (31, c_laws_eqInt64S), (19, c_laws_szCategory), (21, c_laws_toCategory), (29, c_laws_toInt64S), (28, c_spec_FirstFractionFault)]) (cutL [(13, 503)]) Try.f7 (bodyOf Try.f7) .n c_laws_FnExactFirstFractionFault x K = W_laws_FnExactFirstFractionFault x.1 x.2.1 K := by kernel_rfl
theorem k_laws_FnExactFirstFractionFault : okC Try.f7.ntmps (cutL [(13, 503)]) (bodyOf Try.f7) = true := by kernel_rfl
theorem m_laws_FnExactFirstFractionFault (aC : CategoryD) (aW : List Int) (hok : allP (okL c_laws_FnExactFirstFractionFault.args (aC, aW, ()))) (hpre : allP (c_laws_FnExactFirstFractionFault.pre (aC, aW, ()))) : W_laws_FnExactFirstFractionFault aC aW (fun r => r = c_laws_FnExactFirstFractionFault.res (aC, aW, ())) := by
  simp only [c_laws_FnExactFirstFractionFault, okL, T.oks, T.ok, ap, allP, true_and, and_true, implies_true] at hok hpre
  try dsimp only [T.den] at hok
  try dsimp only [T.den] at hpre
  unfold W_laws_FnExactFirstFractionFault
  have hw : wR (.sl (.int .i64)) aW = aW.length := wR_ints _
  simp only [hw]
  generalize wR CategoryT aC = n1
  simp only [eqR_self]
  clear hok
  grind [cnd, nb_eq, inK64, szR, c_laws_FnExactFirstFractionFault]
theorem ct_laws_FnExactFirstFractionFault : CtOk Try.prog 7 c_laws_FnExactFirstFractionFault :=
  ct_by (Φ := lkp [(30, c_impl_FirstFractionFault), (23, c_laws_eqCategory), (31, c_laws_eqInt64S), (19, c_laws_szCategory), (21, c_laws_toCategory), (29, c_laws_toInt64S), (28, c_spec_FirstFractionFault)]) (good_cons ct_impl_FirstFractionFault (good_cons ct_laws_eqCategory (good_cons ct_laws_eqInt64S (good_cons ct_laws_szCategory (good_cons ct_laws_toCategory (good_cons ct_laws_toInt64S (good_cons ct_spec_FirstFractionFault good_nil))))))) tab_ok (by kernel_rfl) (fn := Try.f7) (c := bodyOf Try.f7) (by kernel_rfl) (by kernel_rfl) (by kernel_rfl) c_laws_FnExactFirstFractionFault rfl .n (cutL [(13, 503)]) (by kernel_rfl) (by kernel_rfl) k_laws_FnExactFirstFractionFault (by decide) (fun x K => W_laws_FnExactFirstFractionFault x.1 x.2.1 K) w_laws_FnExactFirstFractionFault (fun x h1 h2 => m_laws_FnExactFirstFractionFault x.1 x.2.1 h1 h2)
end Go.Bm
