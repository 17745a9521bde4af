/- What the functions that FnExactCompletionOf reaches give: for each its contract, what it asks, and the proof. No condition. -/
import Derived.Test.YtdcandojebpfnaaFnExactCompletionOfFnsA
namespace Go.Bm
open Go.Proofs
set_option maxRecDepth 100000
set_option maxHeartbeats 1000000
set_option linter.unusedVariables false
set_option linter.unusedSimpArgs false
def c_spec_CompletionOf : Ct := ⟨[CategoryT], [true], fun x => [], [(true, CategoryO), (false, (.fz (.int .i64)))], fun x => ((ccR x.1).1, (ccR x.1).2, ()), false, none⟩
def W_spec_CompletionOf (c : CategoryD) (K : CategoryD × Int × Unit -> Prop) : Prop := (K ((ccR c).1, ((ccR c).2, ())))
theorem w_spec_CompletionOf (x : denL c_spec_CompletionOf.args) (K : CategoryD × Int × Unit -> Prop) : evF tab (lkp [(45, c_spec_l11Completion)]) (cutL []) Try.f16 (bodyOf Try.f16) .n c_spec_CompletionOf x K = W_spec_CompletionOf x.1 K := by kernel_rfl
theorem k_spec_CompletionOf : okC Try.f16.ntmps (cutL []) (bodyOf Try.f16) = true := by kernel_rfl
theorem m_spec_CompletionOf (c : CategoryD) (hok : allP (okL c_spec_CompletionOf.args (c, ()))) (hpre : allP (c_spec_CompletionOf.pre (c, ()))) : W_spec_CompletionOf c (fun r => r = c_spec_CompletionOf.res (c, ())) := by
 simp only [c_spec_CompletionOf, okL, T.oks, T.ok, ap, allP, true_and, and_true, implies_true] at hok hpre
 try dsimp only [T.den] at hok
 try dsimp only [T.den] at hpre
 unfold W_spec_CompletionOf
 simp only [c_spec_CompletionOf]
theorem ct_spec_CompletionOf : CtOk Try.prog 16 c_spec_CompletionOf :=
 ct_by (Φ := lkp [(45, c_spec_l11Completion)]) (good_cons ct_spec_l11Completion good_nil) tab_ok (by kernel_rfl) (fn := Try.f16) (c := bodyOf Try.f16) (by kernel_rfl) (by kernel_rfl) (by kernel_rfl) c_spec_CompletionOf rfl .n (cutL []) (by kernel_rfl) (by kernel_rfl) k_spec_CompletionOf (by decide) (fun x K => W_spec_CompletionOf x.1 K) w_spec_CompletionOf (fun x h1 h2 => m_spec_CompletionOf x.1 h1 h2)
def c_laws_FnExactCompletionOf : Ct := ⟨[CategoryT], [true], fun x => [], [(false, (.fz .bool))], fun x => (true, ()), false, none⟩
def ph_laws_FnExactCompletionOf : FuncId -> Option Ct := lkp [(18, c_impl_CompletionOf), (19, c_laws_eqCategory), (21, c_laws_heldCategory), (20, c_laws_markCategory), (15, c_laws_szCategory), (17, c_laws_toCategory), (16, c_spec_CompletionOf)]
def W_laws_FnExactCompletionOf (aC : CategoryD) (K : Bool × Unit -> Prop) : Prop := (((-4611404543450677248) <= 1048576) /\ (cnd (decide ((szR (wR CategoryT aC) 1048576) < 0)) (K (true, ())) (((wR CategoryT aC) <= 1099511627776) /\ (((wR CategoryT aC) <= 1099511627776) /\ (cnd ((!(eqR CategoryT (ccR aC).1 (ccR aC).1)) || ((ccR aC).2 != (ccR aC).2)) (K (false, ())) (((wR CategoryT aC) <= 1099511627776) /\ (cnd (!(eqR CategoryT aC aC)) (K (false, ())) (((0 : Int) <= 1) /\ (((1 + (((ctR CategoryT aC) : Nat) : Int)) <= 4611686018427387904) /\ (cnd (((decide ((mtR CategoryT aC 1).2 < 0)) || (!(eqR CategoryT (ccR aC).1 (ccR aC).1))) || ((ccR aC).2 != (ccR aC).2)) (K (false, ())) (((0 : Int) <= 1) /\ (((1 + (((ctR CategoryT (ccR aC).1) : Nat) : Int)) <= 4611686018427387904) /\ (((0 : Int) <= 1) /\ (((1 + (((ctR CategoryT (mtR CategoryT (ccR aC).1 1).1) : Nat) : Int)) <= 4611686018427387904) /\ (cnd (decide ((htR CategoryT (mtR CategoryT (ccR aC).1 1).1 1) < 0)) (K (false, ())) (cnd ((htR CategoryT (mtR CategoryT (ccR aC).1 1).1 1) != (mtR CategoryT (ccR aC).1 1).2) (K (false, ())) (((wR CategoryT aC) <= 1099511627776) /\ (cnd ((!(eqR CategoryT (ccR aC).1 (ccR aC).1)) || ((ccR aC).2 != (ccR aC).2)) (K (false, ())) (((0 : Int) <= 1) /\ (((1 + (((ctR CategoryT (mtR CategoryT (ccR aC).1 1).1) : Nat) : Int)) <= 4611686018427387904) /\ (cnd (decide ((htR CategoryT (mtR CategoryT (ccR aC).1 1).1 1) < 0)) (K (false, ())) (cnd ((htR CategoryT (mtR CategoryT (ccR aC).1 1).1 1) != (mtR CategoryT (ccR aC).1 1).2) (K (false, ())) (K (true, ()))))))))))))))))))))))))
theorem w_laws_FnExactCompletionOf (x : denL c_laws_FnExactCompletionOf.args) (K : Bool × Unit -> Prop) : evF tab ph_laws_FnExactCompletionOf (cutL [(10, 503)]) Try.f4 (bodyOf Try.f4) .n c_laws_FnExactCompletionOf x K = W_laws_FnExactCompletionOf x.1 K := by kernel_rfl
theorem k_laws_FnExactCompletionOf : okC Try.f4.ntmps (cutL [(10, 503)]) (bodyOf Try.f4) = true := by kernel_rfl
theorem m_laws_FnExactCompletionOf (aC : CategoryD) (hok : allP (okL c_laws_FnExactCompletionOf.args (aC, ()))) (hpre : allP (c_laws_FnExactCompletionOf.pre (aC, ()))) : W_laws_FnExactCompletionOf aC (fun r => r = c_laws_FnExactCompletionOf.res (aC, ())) := by
 simp only [c_laws_FnExactCompletionOf, okL, T.oks, T.ok, ap, allP, true_and, and_true, implies_true] at hok hpre
 try dsimp only [T.den] at hok
 try dsimp only [T.den] at hpre
 unfold W_laws_FnExactCompletionOf
 have hg : ctR CategoryT (ccR aC).1 <= 1728 := by
  unfold ccR
  split
  ·rename_i h
   have S := cat_shp h
   split
   ·rename_i h2
    have h2' := h2
    rw [c3_fit, Bool.and_eq_true, decide_eq_true_eq, decide_eq_true_eq] at h2'
    have l0 := c3_len aC
    have h3 := ck_rows (k := .i64) (B := 40) (completeR aC).2.2.2.2 (fun r hr => by
     change r ∈ (if cpFitR aC = true then _ else _) at hr
     rw [if_pos h2, tabN_mem] at hr
     obtain ⟨x, _, _, rfl⟩ := hr
     rw [tabN_len]; omega)
    have h4 : (completeR aC).2.2.2.2.length = (c3R aC).length := by
     show (if cpFitR aC = true then _ else _ : List (List Int)).length = _
     rw [if_pos h2, tabN_len, l0]
    have h5 : (completeR aC).2.1.length = (c3R aC).length := by show (colR (cpArrR aC) 0).length = _; rw [c3_col0, List.length_map]
    have h6 : (completeR aC).2.2.1.length = (c3R aC).length := by show (colR (cpArrR aC) 1).length = _; rw [c3_col1, List.length_map]
    have h7 : (completeR aC).2.2.2.1.length = (idemR aC).length := tabN_len _
    show 0 + (ckR (.sl (.int .i64)) (completeR aC).2.1 + (ckR (.sl (.int .i64)) (completeR aC).2.2.1 + (ckR (.sl (.int .i64)) (completeR aC).2.2.2.1 + ckR (.sl (.sl (.int .i64))) (completeR aC).2.2.2.2))) <= 1728
    rw [ck_ints, ck_ints, ck_ints, h5, h6, h7]
    rw [h4] at h3
    have : (c3R aC).length * 40 <= 1600 := by omega
    omega
   ·exact Nat.zero_le _
  ·exact Nat.zero_le _
 have e1 := ct_le CategoryT (by decide) aC
 have e3 := @ht_mt1 CategoryT (ccR aC).1 1
 simp only [Int.ofNat_one, Int.natCast_one] at e3
 simp only [wR_ints]
 simp only [eqR_self, mk_num, mt_num, ck_mk, ct_mt, e3, ck_ints, szR_neg]
 generalize wR CategoryT aC = n1 at *
 generalize ctR CategoryT aC = n2 at *
 generalize ctR CategoryT (ccR aC).1 = n3 at *
 generalize (ccR aC) = g at *
 clear hok
 repeat' (first | rfl | (refine cnd_d (fun _ => rfl) (fun h => ?_)) | (refine cnd_of (fun h => absurd h (by first | (simp; done) | (simp; omega))) (fun _ => ?_)) | (refine ⟨by omega, ?_⟩))
theorem ct_laws_FnExactCompletionOf : CtOk Try.prog 4 c_laws_FnExactCompletionOf :=
 ct_by (Φ := ph_laws_FnExactCompletionOf) (good_cons ct_impl_CompletionOf (good_cons ct_laws_eqCategory (good_cons ct_laws_heldCategory (good_cons ct_laws_markCategory (good_cons ct_laws_szCategory (good_cons ct_laws_toCategory (good_cons ct_spec_CompletionOf good_nil))))))) tab_ok (by kernel_rfl) (fn := Try.f4) (c := bodyOf Try.f4) (by kernel_rfl) (by kernel_rfl) (by kernel_rfl) c_laws_FnExactCompletionOf rfl .n (cutL [(10, 503)]) (by kernel_rfl) (by kernel_rfl) k_laws_FnExactCompletionOf (by decide) (fun x K => W_laws_FnExactCompletionOf x.1 K) w_laws_FnExactCompletionOf (fun x h1 h2 => m_laws_FnExactCompletionOf x.1 h1 h2)
end Go.Bm
