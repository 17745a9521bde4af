/- What the functions that FnExactGeneratedPart reaches give: for each its contract, what it asks, and the proof. No condition. -/
import Derived.Test.YtfknijkkogmidaaFnExactGeneratedPartFnsA
namespace Go.Bm
open Go.Proofs
set_option maxRecDepth 100000
set_option maxHeartbeats 1000000
set_option linter.unusedVariables false
set_option linter.unusedSimpArgs false
def c_laws_FnExactGeneratedPart : Ct := ⟨[SetFunctorT, (.sl (.sl (.int .i64)))], [true, false], fun x => [], [(false, (.fz .bool))], fun x => (true, ()), false, none⟩
def W_laws_FnExactGeneratedPart (aF : SetFunctorD) (aElements : List (List Int)) (K : Bool × Unit → Prop) : Prop := (((-(4611404543450677248 : Int)) ≤ (1048576 : Int)) ∧ (cnd (decide ((szR (wR SetFunctorT aF) (1048576 : Int)) < (0 : Int))) (K (Bool.true, ())) (((-(4611404543450677248 : Int)) ≤ (szR (wR SetFunctorT aF) (1048576 : Int))) ∧ (cnd (decide ((szR (wR (T.sl (T.sl (T.int IntKind.i64))) aElements) (szR (wR SetFunctorT aF) (1048576 : Int))) < (0 : Int))) (K (Bool.true, ())) (((wR SetFunctorT aF) ≤ 1099511627776) ∧ (((wR (T.sl (T.sl (T.int IntKind.i64))) aElements) ≤ 1099511627776) ∧ (((List.length aElements) ≤ 1099511627776) ∧ (((wR SetFunctorT aF) ≤ 1099511627776) ∧ (((wR (T.sl (T.sl (T.int IntKind.i64))) aElements) ≤ 1099511627776) ∧ (((List.length aElements) ≤ 1099511627776) ∧ (cnd ((!(eqR (T.sl (T.sl (T.int IntKind.i64))) (genPR aF aElements).1 (genPR aF aElements).1)) || ((genPR aF aElements).2 != (genPR aF aElements).2)) (K (Bool.false, ())) (((wR SetFunctorT aF) ≤ 1099511627776) ∧ (cnd (!(eqR SetFunctorT aF aF)) (K (Bool.false, ())) (((wR (T.sl (T.sl (T.int IntKind.i64))) aElements) ≤ 1099511627776) ∧ (cnd (!(eqR (T.sl (T.sl (T.int IntKind.i64))) aElements aElements)) (K (Bool.false, ())) (((0 : Int) ≤ (1 : Int)) ∧ ((((1 : Int) + (((ctR SetFunctorT aF) : Nat) : Int)) ≤ (4611686018427387904 : Int)) ∧ (((0 : Int) ≤ (mtR SetFunctorT aF (1 : Int)).2) ∧ ((((mtR SetFunctorT aF (1 : Int)).2 + (((ckR (T.sl (T.sl (T.int IntKind.i64))) aElements) : Nat) : Int)) ≤ (4611686018427387904 : Int)) ∧ (cnd (((decide ((mkR (T.sl (T.sl (T.int IntKind.i64))) aElements (mtR SetFunctorT aF (1 : Int)).2).2 < (0 : Int))) || (!(eqR (T.sl (T.sl (T.int IntKind.i64))) (genPR aF aElements).1 (genPR aF aElements).1))) || ((genPR aF aElements).2 != (genPR aF aElements).2)) (K (Bool.false, ())) (((0 : Int) ≤ (1 : Int)) ∧ ((((1 : Int) + (((ctR (T.sl (T.sl (T.int IntKind.i64))) (genPR aF aElements).1) : Nat) : Int)) ≤ (4611686018427387904 : Int)) ∧ (((0 : Int) ≤ (1 : Int)) ∧ ((((1 : Int) + (((ctR (T.sl (T.sl (T.int IntKind.i64))) (mtR (T.sl (T.sl (T.int IntKind.i64))) (genPR aF aElements).1 (1 : Int)).1) : Nat) : Int)) ≤ (4611686018427387904 : Int)) ∧ (cnd (decide ((htR (T.sl (T.sl (T.int IntKind.i64))) (mtR (T.sl (T.sl (T.int IntKind.i64))) (genPR aF aElements).1 (1 : Int)).1 (1 : Int)) < (0 : Int))) (K (Bool.false, ())) (cnd ((htR (T.sl (T.sl (T.int IntKind.i64))) (mtR (T.sl (T.sl (T.int IntKind.i64))) (genPR aF aElements).1 (1 : Int)).1 (1 : Int)) != (mtR (T.sl (T.sl (T.int IntKind.i64))) (genPR aF aElements).1 (1 : Int)).2) (K (Bool.false, ())) (((wR SetFunctorT aF) ≤ 1099511627776) ∧ (((wR (T.sl (T.sl (T.int IntKind.i64))) aElements) ≤ 1099511627776) ∧ (((List.length aElements) ≤ 1099511627776) ∧ (cnd ((!(eqR (T.sl (T.sl (T.int IntKind.i64))) (genPR aF aElements).1 (genPR aF aElements).1)) || ((genPR aF aElements).2 != (genPR aF aElements).2)) (K (Bool.false, ())) (((0 : Int) ≤ (1 : Int)) ∧ ((((1 : Int) + (((ctR (T.sl (T.sl (T.int IntKind.i64))) (mtR (T.sl (T.sl (T.int IntKind.i64))) (genPR aF aElements).1 (1 : Int)).1) : Nat) : Int)) ≤ (4611686018427387904 : Int)) ∧ (cnd (decide ((htR (T.sl (T.sl (T.int IntKind.i64))) (mtR (T.sl (T.sl (T.int IntKind.i64))) (genPR aF aElements).1 (1 : Int)).1 (1 : Int)) < (0 : Int))) (K (Bool.false, ())) (cnd ((htR (T.sl (T.sl (T.int IntKind.i64))) (mtR (T.sl (T.sl (T.int IntKind.i64))) (genPR aF aElements).1 (1 : Int)).1 (1 : Int)) != (mtR (T.sl (T.sl (T.int IntKind.i64))) (genPR aF aElements).1 (1 : Int)).2) (K (Bool.false, ())) (K (Bool.true, ()))))))))))))))))))))))))))))))))))))
theorem w_laws_FnExactGeneratedPart (x : denL c_laws_FnExactGeneratedPart.args) (K : Bool × Unit → Prop) : evF tab (lkp [(26, c_impl_GeneratedPart), (18, c_laws_eqInt64SS), (27, c_laws_eqPart), (28, c_laws_eqSetFunctor), (31, c_laws_heldPart), (19, c_laws_markInt64SS), (30, c_laws_markPart), (29, c_laws_markSetFunctor), (22, c_laws_szInt64SS), (21, c_laws_szSetFunctor), (25, c_laws_toInt64SS), (24, c_laws_toSetFunctor), (23, c_spec_GeneratedPart)]) (cutL [(14, 503)]) Try.f5 (bodyOf Try.f5) .n c_laws_FnExactGeneratedPart x K = W_laws_FnExactGeneratedPart x.1 x.2.1 K := by kernel_rfl
theorem k_laws_FnExactGeneratedPart : okC Try.f5.ntmps (cutL [(14, 503)]) (bodyOf Try.f5) = true := by kernel_rfl
theorem m_laws_FnExactGeneratedPart (aF : SetFunctorD) (aElements : List (List Int)) (hok : allP (okL c_laws_FnExactGeneratedPart.args (aF, aElements, ()))) (hpre : allP (c_laws_FnExactGeneratedPart.pre (aF, aElements, ()))) : W_laws_FnExactGeneratedPart aF aElements (fun r => r = c_laws_FnExactGeneratedPart.res (aF, aElements, ())) := by
  simp only [c_laws_FnExactGeneratedPart, okL, T.oks, T.ok, ap, allP, true_and, and_true, implies_true] at hok hpre
  try dsimp only [T.den] at hok
  try dsimp only [T.den] at hpre
  unfold W_laws_FnExactGeneratedPart
  have hg : ctR PartT (genPR aF aElements).1 ≤ 128 := by
    unfold genPR
    split
    · rename_i h
      split
      · exact partOf_ck (setf_sf h) _
      · rw [nil_ck]; omega
    · rw [nil_ck]; omega
  have e1 := ct_le SetFunctorT (by decide) aF
  have e2 := ck_le (.sl (.sl (.int .i64))) (by decide) aElements
  have e4 : aElements.length ≤ wR (.sl (.sl (.int .i64))) aElements := by rw [wR_sl]; omega
  have e3 := @ht_mt1 PartT (genPR aF aElements).1 1
  simp only [Int.ofNat_one, Int.natCast_one] at e3
  simp only [dirN] at e2
  simp only [eqR_self, mt_num, mk_num, ct_mt, e3]
  simp only [szR_neg]
  generalize wR SetFunctorT aF = n1 at *
  generalize ctR SetFunctorT aF = n2 at *
  generalize wR (.sl (.sl (.int .i64))) aElements = n3 at *
  generalize ckR (.sl (.sl (.int .i64))) aElements = n4 at *
  generalize ctR PartT (genPR aF aElements).1 = n5 at *
  generalize aElements.length = n6 at *
  have sz : ∀ (n : Nat) (l : Int), (l < n ∧ szR n l = -1) ∨ (n ≤ l ∧ szR n l = l - n) := fun n l => by unfold szR; split <;> omega
  have s1 := sz n1 1048576
  generalize szR n1 1048576 = z1 at *
  have s2 := sz n3 z1
  generalize szR n3 z1 = z2 at *
  clear sz
  clear hok
  repeat' (first | rfl | (refine cnd_d (fun _ => rfl) (fun h => ?_)) | (refine cnd_of (fun h => absurd h (by first | (simp; done) | (simp; omega))) (fun _ => ?_)) | (refine ⟨by omega, ?_⟩))
theorem ct_laws_FnExactGeneratedPart : CtOk Try.prog 5 c_laws_FnExactGeneratedPart :=
  ct_by (Φ := lkp [(26, c_impl_GeneratedPart), (18, c_laws_eqInt64SS), (27, c_laws_eqPart), (28, c_laws_eqSetFunctor), (31, c_laws_heldPart), (19, c_laws_markInt64SS), (30, c_laws_markPart), (29, c_laws_markSetFunctor), (22, c_laws_szInt64SS), (21, c_laws_szSetFunctor), (25, c_laws_toInt64SS), (24, c_laws_toSetFunctor), (23, c_spec_GeneratedPart)]) (good_cons ct_impl_GeneratedPart (good_cons ct_laws_eqInt64SS (good_cons ct_laws_eqPart (good_cons ct_laws_eqSetFunctor (good_cons ct_laws_heldPart (good_cons ct_laws_markInt64SS (good_cons ct_laws_markPart (good_cons ct_laws_markSetFunctor (good_cons ct_laws_szInt64SS (good_cons ct_laws_szSetFunctor (good_cons ct_laws_toInt64SS (good_cons ct_laws_toSetFunctor (good_cons ct_spec_GeneratedPart good_nil))))))))))))) tab_ok (by kernel_rfl) (fn := Try.f5) (c := bodyOf Try.f5) (by kernel_rfl) (by kernel_rfl) (by kernel_rfl) c_laws_FnExactGeneratedPart rfl .n (cutL [(14, 503)]) (by kernel_rfl) (by kernel_rfl) k_laws_FnExactGeneratedPart (by decide) (fun x K => W_laws_FnExactGeneratedPart x.1 x.2.1 K) w_laws_FnExactGeneratedPart (fun x h1 h2 => m_laws_FnExactGeneratedPart x.1 x.2.1 h1 h2)
end Go.Bm
