/- What the functions that FnExactIsTyped reaches give: for each its contract, what it asks, and the proof. No condition. -/
import Derived.Test.YthgmhhibgcdjlaaGreatFnExactIsTypedFnsA
namespace Go.Bm
open Go.Proofs
set_option maxRecDepth 100000
set_option maxHeartbeats 1000000
set_option linter.unusedVariables false
set_option linter.unusedSimpArgs false
def c_laws_toNodeS : Ct := ⟨[(.sl ruleT)], [false], fun x => [wR (.sl ruleT) x.1 ≤ 1099511627776], [(false, (.sl ruleO))], fun x => (x.1, ()), false, none⟩
def W_laws_toNodeS (a : List ruleD) (K : (List ruleD) × Unit → Prop) : Prop := (((0 : Int) ≤ (((List.length a) : Nat) : Int)) ∧ (((((List.length a) : Nat) : Int) ≤ (((List.length a) : Nat) : Int)) ∧ (((((List.length a) : Nat) : Int) ≤ ((140737488355328 : Nat) : Int)) ∧ ((((((List.length a) : Nat) : Int) * ((40 : Nat) : Int)) ≤ ((140737488355328 : Nat) : Int)) ∧ (loopW (S := ((Unit × (Int × Unit)) × ((List (Int × (Int × (List Int)))) × Unit))) (fun s => (fun next => ((inK IntKind.i64 s.1.2.1) → ((T.ok (T.sl ruleT) s.2.1) → (cnd (decide (s.1.2.1 < (((List.length a) : Nat) : Int))) (((0 : Int) ≤ s.1.2.1) ∧ ((s.1.2.1 < (((List.length a) : Nat) : Int)) ∧ (((wR ruleT (List.getD a (Int.toNat s.1.2.1) ((0 : Int), ((0 : Int), ([] : List Int))))) ≤ 1099511627776) ∧ (((0 : Int) ≤ s.1.2.1) ∧ ((s.1.2.1 < (((List.length s.2.1) : Nat) : Int)) ∧ ((inK IntKind.i64 (s.1.2.1 + (1 : Int))) ∧ (next (((), ((s.1.2.1 + (1 : Int)), ())), ((List.set s.2.1 (Int.toNat s.1.2.1) (List.getD a (Int.toNat s.1.2.1) ((0 : Int), ((0 : Int), ([] : List Int))))), ()))))))))) (K (s.2.1, ()))))))) (((), ((0 : Int), ())), ((List.replicate (Int.toNat (((List.length a) : Nat) : Int)) ((0 : Int), ((0 : Int), ([] : List Int)))), ())))))))
theorem w_laws_toNodeS (x : denL c_laws_toNodeS.args) (K : (List ruleD) × Unit → Prop) : evF tab (lkp [(20, c_laws_toNode)]) (cutL []) Tryz.f9 (bodyOf Tryz.f9) (.s .n (.s .n (.s (.s .n (.l [(3, (.ref 7 [])), (4, (.d (.int .i64)))] [(7, (.sl (.p (.fz (.int .i64)) (.p (.fz (.int .i64)) (.sl (.fz (.int .i64)))))))] [0] .n)) .n))) c_laws_toNodeS x K = W_laws_toNodeS x.1 K := by kernel_rfl
theorem k_laws_toNodeS : okC Tryz.f9.ntmps (cutL []) (bodyOf Tryz.f9) = true := by kernel_rfl
theorem m_laws_toNodeS (a : List ruleD) (hok : allP (okL c_laws_toNodeS.args (a, ()))) (hpre : allP (c_laws_toNodeS.pre (a, ()))) : W_laws_toNodeS a (fun r => r = c_laws_toNodeS.res (a, ())) := by
  simp only [c_laws_toNodeS, okL, T.oks, T.ok, ap, allP, true_and, and_true, implies_true] at hok hpre
  try dsimp only [T.den] at hok
  try dsimp only [T.den] at hpre
  unfold W_laws_toNodeS
  rw [wR_sl] at hpre
  refine ⟨by omega, by omega, by first | omega | (rw [nb_eq]; omega), by first | omega | (rw [nb_eq]; omega), ?_⟩
  refine loop_of (fun (s : ((Unit × (Int × Unit)) × ((List (Int × (Int × (List Int)))) × Unit))) => 0 ≤ s.1.2.1 ∧ s.1.2.1 ≤ a.length ∧ s.2.1.length = a.length ∧ s.2.1.take s.1.2.1.toNat = a.take s.1.2.1.toNat) (fun (s : ((Unit × (Int × Unit)) × ((List (Int × (Int × (List Int)))) × Unit))) => (a.length - s.1.2.1).toNat) ?_ (by simp)
  rintro ⟨⟨_, i, _⟩, l, _⟩ next ⟨h0, h1, h2, h3⟩ hn hin hl
  simp only at h0 h1 h2 h3 hn ⊢
  refine cnd_d (fun hc => ?_) (fun hc => ?_)
  · have hm := wR_mem (e := ruleT) (getD_mem a ((0 : Int), ((0 : Int), ([] : List Int))) h0 hc)
    refine ⟨by omega, by omega, by omega, by omega, by omega, by grind [cnd, nb_eq, inK64], hn _ ⟨(by first | omega | (dsimp only; omega)), (by first | omega | (dsimp only; omega)), by simp [h2], ?_⟩ (by first | omega | (dsimp only; omega))⟩
    simp only
    rw [take_c a ((0 : Int), ((0 : Int), ([] : List Int))) h0 hc, ← h3]
    exact take_set l h0 (by omega) _
  · rw [take_n a (by omega), take_n l (by omega)] at h3
    simp [h3, c_laws_toNodeS]
theorem ct_laws_toNodeS : CtOk Tryz.prog 9 c_laws_toNodeS :=
  ct_by (Φ := lkp [(20, c_laws_toNode)]) (good_cons ct_laws_toNode good_nil) tab_ok (by kernel_rfl) (fn := Tryz.f9) (c := bodyOf Tryz.f9) (by kernel_rfl) (by kernel_rfl) (by kernel_rfl) c_laws_toNodeS rfl (.s .n (.s .n (.s (.s .n (.l [(3, (.ref 7 [])), (4, (.d (.int .i64)))] [(7, (.sl (.p (.fz (.int .i64)) (.p (.fz (.int .i64)) (.sl (.fz (.int .i64)))))))] [0] .n)) .n))) (cutL []) (by kernel_rfl) (by kernel_rfl) k_laws_toNodeS (by decide) (fun x K => W_laws_toNodeS x.1 K) w_laws_toNodeS (fun x h1 h2 => m_laws_toNodeS x.1 h1 h2)
def c_laws_toInt64SS : Ct := ⟨[(.sl (.sl (.int .i64)))], [false], fun x => [wR (.sl (.sl (.int .i64))) x.1 ≤ 1099511627776], [(false, (.sl (.sl (.fz (.int .i64)))))], fun x => (x.1, ()), false, none⟩
def W_laws_toInt64SS (a : List (List Int)) (K : (List (List Int)) × Unit → Prop) : Prop := (((0 : Int) ≤ (((List.length a) : Nat) : Int)) ∧ (((((List.length a) : Nat) : Int) ≤ (((List.length a) : Nat) : Int)) ∧ (((((List.length a) : Nat) : Int) ≤ ((140737488355328 : Nat) : Int)) ∧ ((((((List.length a) : Nat) : Int) * ((24 : Nat) : Int)) ≤ ((140737488355328 : Nat) : Int)) ∧ (loopW (S := ((Unit × (Int × Unit)) × ((List (List Int)) × Unit))) (fun s => (fun next => ((inK IntKind.i64 s.1.2.1) → ((T.ok (T.sl (T.sl (T.int IntKind.i64))) s.2.1) → (cnd (decide (s.1.2.1 < (((List.length a) : Nat) : Int))) (((0 : Int) ≤ s.1.2.1) ∧ ((s.1.2.1 < (((List.length a) : Nat) : Int)) ∧ (((wR (T.sl (T.int IntKind.i64)) (List.getD a (Int.toNat s.1.2.1) ([] : List Int))) ≤ 1099511627776) ∧ (((0 : Int) ≤ s.1.2.1) ∧ ((s.1.2.1 < (((List.length s.2.1) : Nat) : Int)) ∧ ((inK IntKind.i64 (s.1.2.1 + (1 : Int))) ∧ (next (((), ((s.1.2.1 + (1 : Int)), ())), ((List.set s.2.1 (Int.toNat s.1.2.1) (List.getD a (Int.toNat s.1.2.1) ([] : List Int))), ()))))))))) (K (s.2.1, ()))))))) (((), ((0 : Int), ())), ((List.replicate (Int.toNat (((List.length a) : Nat) : Int)) ([] : List Int)), ())))))))
theorem w_laws_toInt64SS (x : denL c_laws_toInt64SS.args) (K : (List (List Int)) × Unit → Prop) : evF tab (lkp [(8, c_laws_toInt64S)]) (cutL []) Tryz.f54 (bodyOf Tryz.f54) (.s .n (.s .n (.s (.s .n (.l [(3, (.ref 7 [])), (4, (.d (.int .i64)))] [(7, (.sl (.sl (.fz (.int .i64)))))] [0] .n)) .n))) c_laws_toInt64SS x K = W_laws_toInt64SS x.1 K := by kernel_rfl
theorem k_laws_toInt64SS : okC Tryz.f54.ntmps (cutL []) (bodyOf Tryz.f54) = true := by kernel_rfl
theorem m_laws_toInt64SS (a : List (List Int)) (hok : allP (okL c_laws_toInt64SS.args (a, ()))) (hpre : allP (c_laws_toInt64SS.pre (a, ()))) : W_laws_toInt64SS a (fun r => r = c_laws_toInt64SS.res (a, ())) := by
  simp only [c_laws_toInt64SS, okL, T.oks, T.ok, ap, allP, true_and, and_true, implies_true] at hok hpre
  try dsimp only [T.den] at hok
  try dsimp only [T.den] at hpre
  unfold W_laws_toInt64SS
  rw [wR_sl] at hpre
  refine ⟨by omega, by omega, by first | omega | (rw [nb_eq]; omega), by first | omega | (rw [nb_eq]; omega), ?_⟩
  refine loop_of (fun (s : ((Unit × (Int × Unit)) × ((List (List Int)) × Unit))) => 0 ≤ s.1.2.1 ∧ s.1.2.1 ≤ a.length ∧ s.2.1.length = a.length ∧ s.2.1.take s.1.2.1.toNat = a.take s.1.2.1.toNat) (fun (s : ((Unit × (Int × Unit)) × ((List (List Int)) × Unit))) => (a.length - s.1.2.1).toNat) ?_ (by simp)
  rintro ⟨⟨_, i, _⟩, l, _⟩ next ⟨h0, h1, h2, h3⟩ hn hin hl
  simp only at h0 h1 h2 h3 hn ⊢
  refine cnd_d (fun hc => ?_) (fun hc => ?_)
  · have hm := wR_mem (e := (.sl (.int .i64))) (getD_mem a ([] : List Int) h0 hc)
    refine ⟨by omega, by omega, by omega, by omega, by omega, by grind [cnd, nb_eq, inK64], hn _ ⟨(by first | omega | (dsimp only; omega)), (by first | omega | (dsimp only; omega)), by simp [h2], ?_⟩ (by first | omega | (dsimp only; omega))⟩
    simp only
    rw [take_c a ([] : List Int) h0 hc, ← h3]
    exact take_set l h0 (by omega) _
  · rw [take_n a (by omega), take_n l (by omega)] at h3
    simp [h3, c_laws_toInt64SS]
theorem ct_laws_toInt64SS : CtOk Tryz.prog 54 c_laws_toInt64SS :=
  ct_by (Φ := lkp [(8, c_laws_toInt64S)]) (good_cons ct_laws_toInt64S good_nil) tab_ok (by kernel_rfl) (fn := Tryz.f54) (c := bodyOf Tryz.f54) (by kernel_rfl) (by kernel_rfl) (by kernel_rfl) c_laws_toInt64SS rfl (.s .n (.s .n (.s (.s .n (.l [(3, (.ref 7 [])), (4, (.d (.int .i64)))] [(7, (.sl (.sl (.fz (.int .i64)))))] [0] .n)) .n))) (cutL []) (by kernel_rfl) (by kernel_rfl) k_laws_toInt64SS (by decide) (fun x K => W_laws_toInt64SS x.1 K) w_laws_toInt64SS (fun x h1 h2 => m_laws_toInt64SS x.1 h1 h2)
def c_laws_toRelation : Ct := ⟨[dataT], [true], fun x => [wR dataT x.1 ≤ 1099511627776], [(true, dataO)], fun x => (x.1, ()), false, none⟩
def W_laws_toRelation (a : dataD) (K : dataD × Unit → Prop) : Prop := (((wR (T.sl (T.int IntKind.i64)) a.1) ≤ 1099511627776) ∧ (((wR (T.sl (T.sl (T.int IntKind.i64))) a.2) ≤ 1099511627776) ∧ (K (a, ()))))
theorem w_laws_toRelation (x : denL c_laws_toRelation.args) (K : dataD × Unit → Prop) : evF tab (lkp [(8, c_laws_toInt64S), (54, c_laws_toInt64SS)]) (cutL []) Tryz.f34 (bodyOf Tryz.f34) .n c_laws_toRelation x K = W_laws_toRelation x.1 K := by kernel_rfl
theorem k_laws_toRelation : okC Tryz.f34.ntmps (cutL []) (bodyOf Tryz.f34) = true := by kernel_rfl
theorem m_laws_toRelation (a : dataD) (hok : allP (okL c_laws_toRelation.args (a, ()))) (hpre : allP (c_laws_toRelation.pre (a, ()))) : W_laws_toRelation a (fun r => r = c_laws_toRelation.res (a, ())) := by
  simp only [c_laws_toRelation, okL, T.oks, T.ok, ap, allP, true_and, and_true, implies_true] at hok hpre
  try dsimp only [T.den] at hok
  try dsimp only [T.den] at hpre
  unfold W_laws_toRelation
  simp only [wR_p, wR_int, wR_bool] at hpre
  repeat' apply And.intro
  all_goals first | rfl | ((try simp only [wR_p, wR_int, wR_bool]); omega)
theorem ct_laws_toRelation : CtOk Tryz.prog 34 c_laws_toRelation :=
  ct_by (Φ := lkp [(8, c_laws_toInt64S), (54, c_laws_toInt64SS)]) (good_cons ct_laws_toInt64S (good_cons ct_laws_toInt64SS good_nil)) tab_ok (by kernel_rfl) (fn := Tryz.f34) (c := bodyOf Tryz.f34) (by kernel_rfl) (by kernel_rfl) (by kernel_rfl) c_laws_toRelation rfl .n (cutL []) (by kernel_rfl) (by kernel_rfl) k_laws_toRelation (by decide) (fun x K => W_laws_toRelation x.1 K) w_laws_toRelation (fun x h1 h2 => m_laws_toRelation x.1 h1 h2)
def c_laws_toRelationS : Ct := ⟨[(.sl dataT)], [false], fun x => [wR (.sl dataT) x.1 ≤ 1099511627776], [(false, (.sl dataO))], fun x => (x.1, ()), false, none⟩
def W_laws_toRelationS (a : List dataD) (K : (List dataD) × Unit → Prop) : Prop := (((0 : Int) ≤ (((List.length a) : Nat) : Int)) ∧ (((((List.length a) : Nat) : Int) ≤ (((List.length a) : Nat) : Int)) ∧ (((((List.length a) : Nat) : Int) ≤ ((140737488355328 : Nat) : Int)) ∧ ((((((List.length a) : Nat) : Int) * ((48 : Nat) : Int)) ≤ ((140737488355328 : Nat) : Int)) ∧ (loopW (S := ((Unit × (Int × Unit)) × ((List ((List Int) × (List (List Int)))) × Unit))) (fun s => (fun next => ((inK IntKind.i64 s.1.2.1) → ((T.ok (T.sl dataT) s.2.1) → (cnd (decide (s.1.2.1 < (((List.length a) : Nat) : Int))) (((0 : Int) ≤ s.1.2.1) ∧ ((s.1.2.1 < (((List.length a) : Nat) : Int)) ∧ (((wR dataT (List.getD a (Int.toNat s.1.2.1) (([] : List Int), ([] : List (List Int))))) ≤ 1099511627776) ∧ (((0 : Int) ≤ s.1.2.1) ∧ ((s.1.2.1 < (((List.length s.2.1) : Nat) : Int)) ∧ ((inK IntKind.i64 (s.1.2.1 + (1 : Int))) ∧ (next (((), ((s.1.2.1 + (1 : Int)), ())), ((List.set s.2.1 (Int.toNat s.1.2.1) (List.getD a (Int.toNat s.1.2.1) (([] : List Int), ([] : List (List Int))))), ()))))))))) (K (s.2.1, ()))))))) (((), ((0 : Int), ())), ((List.replicate (Int.toNat (((List.length a) : Nat) : Int)) (([] : List Int), ([] : List (List Int)))), ())))))))
theorem w_laws_toRelationS (x : denL c_laws_toRelationS.args) (K : (List dataD) × Unit → Prop) : evF tab (lkp [(34, c_laws_toRelation)]) (cutL []) Tryz.f19 (bodyOf Tryz.f19) (.s .n (.s .n (.s (.s .n (.l [(3, (.ref 7 [])), (4, (.d (.int .i64)))] [(7, (.sl (.p (.sl (.fz (.int .i64))) (.sl (.sl (.fz (.int .i64)))))))] [0] .n)) .n))) c_laws_toRelationS x K = W_laws_toRelationS x.1 K := by kernel_rfl
theorem k_laws_toRelationS : okC Tryz.f19.ntmps (cutL []) (bodyOf Tryz.f19) = true := by kernel_rfl
theorem m_laws_toRelationS (a : List dataD) (hok : allP (okL c_laws_toRelationS.args (a, ()))) (hpre : allP (c_laws_toRelationS.pre (a, ()))) : W_laws_toRelationS a (fun r => r = c_laws_toRelationS.res (a, ())) := by
  simp only [c_laws_toRelationS, okL, T.oks, T.ok, ap, allP, true_and, and_true, implies_true] at hok hpre
  try dsimp only [T.den] at hok
  try dsimp only [T.den] at hpre
  unfold W_laws_toRelationS
  rw [wR_sl] at hpre
  refine ⟨by omega, by omega, by first | omega | (rw [nb_eq]; omega), by first | omega | (rw [nb_eq]; omega), ?_⟩
  refine loop_of (fun (s : ((Unit × (Int × Unit)) × ((List ((List Int) × (List (List Int)))) × Unit))) => 0 ≤ s.1.2.1 ∧ s.1.2.1 ≤ a.length ∧ s.2.1.length = a.length ∧ s.2.1.take s.1.2.1.toNat = a.take s.1.2.1.toNat) (fun (s : ((Unit × (Int × Unit)) × ((List ((List Int) × (List (List Int)))) × Unit))) => (a.length - s.1.2.1).toNat) ?_ (by simp)
  rintro ⟨⟨_, i, _⟩, l, _⟩ next ⟨h0, h1, h2, h3⟩ hn hin hl
  simp only at h0 h1 h2 h3 hn ⊢
  refine cnd_d (fun hc => ?_) (fun hc => ?_)
  · have hm := wR_mem (e := dataT) (getD_mem a (([] : List Int), ([] : List (List Int))) h0 hc)
    refine ⟨by omega, by omega, by omega, by omega, by omega, by grind [cnd, nb_eq, inK64], hn _ ⟨(by first | omega | (dsimp only; omega)), (by first | omega | (dsimp only; omega)), by simp [h2], ?_⟩ (by first | omega | (dsimp only; omega))⟩
    simp only
    rw [take_c a (([] : List Int), ([] : List (List Int))) h0 hc, ← h3]
    exact take_set l h0 (by omega) _
  · rw [take_n a (by omega), take_n l (by omega)] at h3
    simp [h3, c_laws_toRelationS]
theorem ct_laws_toRelationS : CtOk Tryz.prog 19 c_laws_toRelationS :=
  ct_by (Φ := lkp [(34, c_laws_toRelation)]) (good_cons ct_laws_toRelation good_nil) tab_ok (by kernel_rfl) (fn := Tryz.f19) (c := bodyOf Tryz.f19) (by kernel_rfl) (by kernel_rfl) (by kernel_rfl) c_laws_toRelationS rfl (.s .n (.s .n (.s (.s .n (.l [(3, (.ref 7 [])), (4, (.d (.int .i64)))] [(7, (.sl (.p (.sl (.fz (.int .i64))) (.sl (.sl (.fz (.int .i64)))))))] [0] .n)) .n))) (cutL []) (by kernel_rfl) (by kernel_rfl) k_laws_toRelationS (by decide) (fun x K => W_laws_toRelationS x.1 K) w_laws_toRelationS (fun x h1 h2 => m_laws_toRelationS x.1 h1 h2)
def c_laws_toCategory : Ct := ⟨[CategoryT], [true], fun x => [wR CategoryT x.1 ≤ 1099511627776], [(true, CategoryO)], fun x => (x.1, ()), false, none⟩
def W_laws_toCategory (a : CategoryD) (K : CategoryD × Unit → Prop) : Prop := (((wR (T.sl (T.int IntKind.i64)) a.2.1) ≤ 1099511627776) ∧ (((wR (T.sl (T.int IntKind.i64)) a.2.2.1) ≤ 1099511627776) ∧ (((wR (T.sl (T.int IntKind.i64)) a.2.2.2.1) ≤ 1099511627776) ∧ (((wR (T.sl (T.sl (T.int IntKind.i64))) a.2.2.2.2) ≤ 1099511627776) ∧ (K (a, ()))))))
theorem w_laws_toCategory (x : denL c_laws_toCategory.args) (K : CategoryD × Unit → Prop) : evF tab (lkp [(8, c_laws_toInt64S), (54, c_laws_toInt64SS)]) (cutL []) Tryz.f53 (bodyOf Tryz.f53) .n c_laws_toCategory x K = W_laws_toCategory x.1 K := by kernel_rfl
theorem k_laws_toCategory : okC Tryz.f53.ntmps (cutL []) (bodyOf Tryz.f53) = true := by kernel_rfl
theorem m_laws_toCategory (a : CategoryD) (hok : allP (okL c_laws_toCategory.args (a, ()))) (hpre : allP (c_laws_toCategory.pre (a, ()))) : W_laws_toCategory a (fun r => r = c_laws_toCategory.res (a, ())) := by
  simp only [c_laws_toCategory, okL, T.oks, T.ok, ap, allP, true_and, and_true, implies_true] at hok hpre
  try dsimp only [T.den] at hok
  try dsimp only [T.den] at hpre
  unfold W_laws_toCategory
  simp only [wR_p, wR_int, wR_bool] at hpre
  repeat' apply And.intro
  all_goals first | rfl | ((try simp only [wR_p, wR_int, wR_bool]); omega)
theorem ct_laws_toCategory : CtOk Tryz.prog 53 c_laws_toCategory :=
  ct_by (Φ := lkp [(8, c_laws_toInt64S), (54, c_laws_toInt64SS)]) (good_cons ct_laws_toInt64S (good_cons ct_laws_toInt64SS good_nil)) tab_ok (by kernel_rfl) (fn := Tryz.f53) (c := bodyOf Tryz.f53) (by kernel_rfl) (by kernel_rfl) (by kernel_rfl) c_laws_toCategory rfl .n (cutL []) (by kernel_rfl) (by kernel_rfl) k_laws_toCategory (by decide) (fun x K => W_laws_toCategory x.1 K) w_laws_toCategory (fun x h1 h2 => m_laws_toCategory x.1 h1 h2)
def c_laws_toSetFunctor : Ct := ⟨[SetFunctorT], [true], fun x => [wR SetFunctorT x.1 ≤ 1099511627776], [(true, SetFunctorO)], fun x => (x.1, ()), false, none⟩
def W_laws_toSetFunctor (a : SetFunctorD) (K : SetFunctorD × Unit → Prop) : Prop := (((wR CategoryT a.1) ≤ 1099511627776) ∧ (((wR (T.sl (T.int IntKind.i64)) a.2.1) ≤ 1099511627776) ∧ (((wR (T.sl (T.sl (T.int IntKind.i64))) a.2.2) ≤ 1099511627776) ∧ (K (a, ())))))
theorem w_laws_toSetFunctor (x : denL c_laws_toSetFunctor.args) (K : SetFunctorD × Unit → Prop) : evF tab (lkp [(53, c_laws_toCategory), (8, c_laws_toInt64S), (54, c_laws_toInt64SS)]) (cutL []) Tryz.f33 (bodyOf Tryz.f33) .n c_laws_toSetFunctor x K = W_laws_toSetFunctor x.1 K := by kernel_rfl
theorem k_laws_toSetFunctor : okC Tryz.f33.ntmps (cutL []) (bodyOf Tryz.f33) = true := by kernel_rfl
theorem m_laws_toSetFunctor (a : SetFunctorD) (hok : allP (okL c_laws_toSetFunctor.args (a, ()))) (hpre : allP (c_laws_toSetFunctor.pre (a, ()))) : W_laws_toSetFunctor a (fun r => r = c_laws_toSetFunctor.res (a, ())) := by
  simp only [c_laws_toSetFunctor, okL, T.oks, T.ok, ap, allP, true_and, and_true, implies_true] at hok hpre
  try dsimp only [T.den] at hok
  try dsimp only [T.den] at hpre
  unfold W_laws_toSetFunctor
  simp only [wR_p, wR_int, wR_bool] at hpre
  repeat' apply And.intro
  all_goals first | rfl | ((try simp only [wR_p, wR_int, wR_bool]); omega)
theorem ct_laws_toSetFunctor : CtOk Tryz.prog 33 c_laws_toSetFunctor :=
  ct_by (Φ := lkp [(53, c_laws_toCategory), (8, c_laws_toInt64S), (54, c_laws_toInt64SS)]) (good_cons ct_laws_toCategory (good_cons ct_laws_toInt64S (good_cons ct_laws_toInt64SS good_nil))) tab_ok (by kernel_rfl) (fn := Tryz.f33) (c := bodyOf Tryz.f33) (by kernel_rfl) (by kernel_rfl) (by kernel_rfl) c_laws_toSetFunctor rfl .n (cutL []) (by kernel_rfl) (by kernel_rfl) k_laws_toSetFunctor (by decide) (fun x K => W_laws_toSetFunctor x.1 K) w_laws_toSetFunctor (fun x h1 h2 => m_laws_toSetFunctor x.1 h1 h2)
def c_laws_toSetFunctorS : Ct := ⟨[(.sl SetFunctorT)], [false], fun x => [wR (.sl SetFunctorT) x.1 ≤ 1048576], [(false, (.sl SetFunctorO))], fun x => (x.1, ()), false, none⟩
def W_laws_toSetFunctorS (a : List SetFunctorD) (K : (List SetFunctorD) × Unit → Prop) : Prop := (((0 : Int) ≤ (((List.length a) : Nat) : Int)) ∧ (((((List.length a) : Nat) : Int) ≤ (((List.length a) : Nat) : Int)) ∧ (((((List.length a) : Nat) : Int) ≤ ((140737488355328 : Nat) : Int)) ∧ ((((((List.length a) : Nat) : Int) * ((152 : Nat) : Int)) ≤ ((140737488355328 : Nat) : Int)) ∧ (loopW (S := ((Unit × (Int × Unit)) × ((List ((Int × ((List Int) × ((List Int) × ((List Int) × (List (List Int)))))) × ((List Int) × (List (List Int))))) × Unit))) (fun s => (fun next => ((inK IntKind.i64 s.1.2.1) → ((T.ok (T.sl SetFunctorT) s.2.1) → (cnd (decide (s.1.2.1 < (((List.length a) : Nat) : Int))) (((0 : Int) ≤ s.1.2.1) ∧ ((s.1.2.1 < (((List.length a) : Nat) : Int)) ∧ (((wR SetFunctorT (List.getD a (Int.toNat s.1.2.1) (((0 : Int), (([] : List Int), (([] : List Int), (([] : List Int), ([] : List (List Int)))))), (([] : List Int), ([] : List (List Int)))))) ≤ 1099511627776) ∧ (((0 : Int) ≤ s.1.2.1) ∧ ((s.1.2.1 < (((List.length s.2.1) : Nat) : Int)) ∧ ((inK IntKind.i64 (s.1.2.1 + (1 : Int))) ∧ (next (((), ((s.1.2.1 + (1 : Int)), ())), ((List.set s.2.1 (Int.toNat s.1.2.1) (List.getD a (Int.toNat s.1.2.1) (((0 : Int), (([] : List Int), (([] : List Int), (([] : List Int), ([] : List (List Int)))))), (([] : List Int), ([] : List (List Int)))))), ()))))))))) (K (s.2.1, ()))))))) (((), ((0 : Int), ())), ((List.replicate (Int.toNat (((List.length a) : Nat) : Int)) (((0 : Int), (([] : List Int), (([] : List Int), (([] : List Int), ([] : List (List Int)))))), (([] : List Int), ([] : List (List Int))))), ())))))))
theorem w_laws_toSetFunctorS (x : denL c_laws_toSetFunctorS.args) (K : (List SetFunctorD) × Unit → Prop) : evF tab (lkp [(33, c_laws_toSetFunctor)]) (cutL []) Tryz.f18 (bodyOf Tryz.f18) (.s .n (.s .n (.s (.s .n (.l [(3, (.ref 7 [])), (4, (.d (.int .i64)))] [(7, (.sl (.p (.p (.fz (.int .i64)) (.p (.sl (.fz (.int .i64))) (.p (.sl (.fz (.int .i64))) (.p (.sl (.fz (.int .i64))) (.sl (.sl (.fz (.int .i64)))))))) (.p (.sl (.fz (.int .i64))) (.sl (.sl (.fz (.int .i64))))))))] [0] .n)) .n))) c_laws_toSetFunctorS x K = W_laws_toSetFunctorS x.1 K := by kernel_rfl
theorem k_laws_toSetFunctorS : okC Tryz.f18.ntmps (cutL []) (bodyOf Tryz.f18) = true := by kernel_rfl
theorem m_laws_toSetFunctorS (a : List SetFunctorD) (hok : allP (okL c_laws_toSetFunctorS.args (a, ()))) (hpre : allP (c_laws_toSetFunctorS.pre (a, ()))) : W_laws_toSetFunctorS a (fun r => r = c_laws_toSetFunctorS.res (a, ())) := by
  simp only [c_laws_toSetFunctorS, okL, T.oks, T.ok, ap, allP, true_and, and_true, implies_true] at hok hpre
  try dsimp only [T.den] at hok
  try dsimp only [T.den] at hpre
  unfold W_laws_toSetFunctorS
  rw [wR_sl] at hpre
  refine ⟨by omega, by omega, by first | omega | (rw [nb_eq]; omega), by first | omega | (rw [nb_eq]; omega), ?_⟩
  refine loop_of (fun (s : ((Unit × (Int × Unit)) × ((List ((Int × ((List Int) × ((List Int) × ((List Int) × (List (List Int)))))) × ((List Int) × (List (List Int))))) × Unit))) => 0 ≤ s.1.2.1 ∧ s.1.2.1 ≤ a.length ∧ s.2.1.length = a.length ∧ s.2.1.take s.1.2.1.toNat = a.take s.1.2.1.toNat) (fun (s : ((Unit × (Int × Unit)) × ((List ((Int × ((List Int) × ((List Int) × ((List Int) × (List (List Int)))))) × ((List Int) × (List (List Int))))) × Unit))) => (a.length - s.1.2.1).toNat) ?_ (by simp)
  rintro ⟨⟨_, i, _⟩, l, _⟩ next ⟨h0, h1, h2, h3⟩ hn hin hl
  simp only at h0 h1 h2 h3 hn ⊢
  refine cnd_d (fun hc => ?_) (fun hc => ?_)
  · have hm := wR_mem (e := SetFunctorT) (getD_mem a (((0 : Int), (([] : List Int), (([] : List Int), (([] : List Int), ([] : List (List Int)))))), (([] : List Int), ([] : List (List Int)))) h0 hc)
    refine ⟨by omega, by omega, by omega, by omega, by omega, by grind [cnd, nb_eq, inK64], hn _ ⟨(by first | omega | (dsimp only; omega)), (by first | omega | (dsimp only; omega)), by simp [h2], ?_⟩ (by first | omega | (dsimp only; omega))⟩
    simp only
    rw [take_c a (((0 : Int), (([] : List Int), (([] : List Int), (([] : List Int), ([] : List (List Int)))))), (([] : List Int), ([] : List (List Int)))) h0 hc, ← h3]
    exact take_set l h0 (by omega) _
  · rw [take_n a (by omega), take_n l (by omega)] at h3
    simp [h3, c_laws_toSetFunctorS]
theorem ct_laws_toSetFunctorS : CtOk Tryz.prog 18 c_laws_toSetFunctorS :=
  ct_by (Φ := lkp [(33, c_laws_toSetFunctor)]) (good_cons ct_laws_toSetFunctor good_nil) tab_ok (by kernel_rfl) (fn := Tryz.f18) (c := bodyOf Tryz.f18) (by kernel_rfl) (by kernel_rfl) (by kernel_rfl) c_laws_toSetFunctorS rfl (.s .n (.s .n (.s (.s .n (.l [(3, (.ref 7 [])), (4, (.d (.int .i64)))] [(7, (.sl (.p (.p (.fz (.int .i64)) (.p (.sl (.fz (.int .i64))) (.p (.sl (.fz (.int .i64))) (.p (.sl (.fz (.int .i64))) (.sl (.sl (.fz (.int .i64)))))))) (.p (.sl (.fz (.int .i64))) (.sl (.sl (.fz (.int .i64))))))))] [0] .n)) .n))) (cutL []) (by kernel_rfl) (by kernel_rfl) k_laws_toSetFunctorS (by decide) (fun x K => W_laws_toSetFunctorS x.1 K) w_laws_toSetFunctorS (fun x h1 h2 => m_laws_toSetFunctorS x.1 h1 h2)
def c_laws_toStructure : Ct := ⟨[StructureT], [true], fun x => [wR StructureT x.1 ≤ 1048576], [(true, StructureO)], fun x => (x.1, ()), false, none⟩
def W_laws_toStructure (a : StructureD) (K : StructureD × Unit → Prop) : Prop := (((wR (T.sl SetFunctorT) a.1) ≤ 1048576) ∧ (((wR (T.sl dataT) a.2) ≤ 1099511627776) ∧ (K (a, ()))))
theorem w_laws_toStructure (x : denL c_laws_toStructure.args) (K : StructureD × Unit → Prop) : evF tab (lkp [(19, c_laws_toRelationS), (18, c_laws_toSetFunctorS)]) (cutL []) Tryz.f7 (bodyOf Tryz.f7) .n c_laws_toStructure x K = W_laws_toStructure x.1 K := by kernel_rfl
theorem k_laws_toStructure : okC Tryz.f7.ntmps (cutL []) (bodyOf Tryz.f7) = true := by kernel_rfl
theorem m_laws_toStructure (a : StructureD) (hok : allP (okL c_laws_toStructure.args (a, ()))) (hpre : allP (c_laws_toStructure.pre (a, ()))) : W_laws_toStructure a (fun r => r = c_laws_toStructure.res (a, ())) := by
  simp only [c_laws_toStructure, okL, T.oks, T.ok, ap, allP, true_and, and_true, implies_true] at hok hpre
  try dsimp only [T.den] at hok
  try dsimp only [T.den] at hpre
  unfold W_laws_toStructure
  simp only [wR_p, wR_int, wR_bool] at hpre
  repeat' apply And.intro
  all_goals first | rfl | ((try simp only [wR_p, wR_int, wR_bool]); omega)
theorem ct_laws_toStructure : CtOk Tryz.prog 7 c_laws_toStructure :=
  ct_by (Φ := lkp [(19, c_laws_toRelationS), (18, c_laws_toSetFunctorS)]) (good_cons ct_laws_toRelationS (good_cons ct_laws_toSetFunctorS good_nil)) tab_ok (by kernel_rfl) (fn := Tryz.f7) (c := bodyOf Tryz.f7) (by kernel_rfl) (by kernel_rfl) (by kernel_rfl) c_laws_toStructure rfl .n (cutL []) (by kernel_rfl) (by kernel_rfl) k_laws_toStructure (by decide) (fun x K => W_laws_toStructure x.1 K) w_laws_toStructure (fun x h1 h2 => m_laws_toStructure x.1 h1 h2)
def c_spec_l01In : Ct := ⟨[(.int .i64), (.int .i64), (.int .i64)], [false, false, false], fun x => [], [(false, (.fz .bool))], fun x => (inR x.1 x.2.1 x.2.2.1, ()), false, none⟩
def W_spec_l01In (n : Int) (low : Int) (high : Int) (K : Bool × Unit → Prop) : Prop := (K (((decide (low ≤ n)) && (decide (n ≤ high))), ()))
theorem w_spec_l01In (x : denL c_spec_l01In.args) (K : Bool × Unit → Prop) : evF tab (lkp []) (cutL []) Tryz.f43 (bodyOf Tryz.f43) .n c_spec_l01In x K = W_spec_l01In x.1 x.2.1 x.2.2.1 K := by kernel_rfl
theorem k_spec_l01In : okC Tryz.f43.ntmps (cutL []) (bodyOf Tryz.f43) = true := by kernel_rfl
theorem m_spec_l01In (n : Int) (low : Int) (high : Int) (hok : allP (okL c_spec_l01In.args (n, low, high, ()))) (hpre : allP (c_spec_l01In.pre (n, low, high, ()))) : W_spec_l01In n low high (fun r => r = c_spec_l01In.res (n, low, high, ())) := by
  simp only [c_spec_l01In, okL, T.oks, T.ok, ap, allP, true_and, and_true, implies_true] at hok hpre
  try dsimp only [T.den] at hok
  try dsimp only [T.den] at hpre
  unfold W_spec_l01In
  grind [cnd, nb_eq, inK64, c_spec_l01In, inR]
theorem ct_spec_l01In : CtOk Tryz.prog 43 c_spec_l01In :=
  ct_by (Φ := lkp []) good_nil tab_ok (by kernel_rfl) (fn := Tryz.f43) (c := bodyOf Tryz.f43) (by kernel_rfl) (by kernel_rfl) (by kernel_rfl) c_spec_l01In rfl .n (cutL []) (by kernel_rfl) (by kernel_rfl) k_spec_l01In (by decide) (fun x K => W_spec_l01In x.1 x.2.1 x.2.2.1 K) w_spec_l01In (fun x h1 h2 => m_spec_l01In x.1 x.2.1 x.2.2.1 h1 h2)
def ptsKR (k : Int) : Int := if k = 4 ∨ k = 5 ∨ k = 6 then 2 else if k = 7 ∨ k = 8 then 1 else 0
theorem ptsK_eq (a : ruleD) : ptsKR a.1 = ptsR a := rfl
def c_spec_l29Parts : Ct := ⟨[(.int .i64)], [false], fun x => [], [(false, (.fz (.int .i64)))], fun x => (ptsKR x.1, ()), false, none⟩
def W_spec_l29Parts (kind : Int) (K : Int × Unit → Prop) : Prop := (joinW (S := ((Bool × Unit) × Unit)) (fun s => (cnd s.1.1 (K ((2 : Int), ())) (joinW (S := ((Bool × Unit) × Unit)) (fun s1 => (cnd s1.1.1 (K ((1 : Int), ())) (K ((0 : Int), ())))) (fun k => (cnd (kind == (7 : Int)) (k (((kind == (7 : Int)), ()), ())) (k (((kind == (8 : Int)), ()), ()))))))) (fun k => (cnd (kind == (4 : Int)) (k (((kind == (4 : Int)), ()), ())) (joinW (S := ((Bool × Unit) × Unit)) (fun s => (k ((s.1.1, ()), ()))) (fun k1 => (cnd (kind == (5 : Int)) (k1 (((kind == (5 : Int)), ()), ())) (k1 (((kind == (6 : Int)), ()), ()))))))))
theorem w_spec_l29Parts (x : denL c_spec_l29Parts.args) (K : Int × Unit → Prop) : evF tab (lkp []) (cutL []) Tryz.f75 (bodyOf Tryz.f75) (.s .n (.s (.s .n (.s (.s .n (.j [(4, (.d .bool))] [] [3] (.s .n (.s .n (.j [(4, (.d .bool))] [] [3] .n))))) (.s .n (.s (.s .n (.j [(8, (.d .bool))] [] [] .n)) .n)))) .n)) c_spec_l29Parts x K = W_spec_l29Parts x.1 K := by kernel_rfl
theorem k_spec_l29Parts : okC Tryz.f75.ntmps (cutL []) (bodyOf Tryz.f75) = true := by kernel_rfl
theorem m_spec_l29Parts (kind : Int) (hok : allP (okL c_spec_l29Parts.args (kind, ()))) (hpre : allP (c_spec_l29Parts.pre (kind, ()))) : W_spec_l29Parts kind (fun r => r = c_spec_l29Parts.res (kind, ())) := by
  simp only [c_spec_l29Parts, okL, T.oks, T.ok, ap, allP, true_and, and_true, implies_true] at hok hpre
  try dsimp only [T.den] at hok
  try dsimp only [T.den] at hpre
  unfold W_spec_l29Parts
  simp only [c_spec_l29Parts, ptsKR, joinW]
  clear hok
  grind [cnd]
theorem ct_spec_l29Parts : CtOk Tryz.prog 75 c_spec_l29Parts :=
  ct_by (Φ := lkp []) good_nil tab_ok (by kernel_rfl) (fn := Tryz.f75) (c := bodyOf Tryz.f75) (by kernel_rfl) (by kernel_rfl) (by kernel_rfl) c_spec_l29Parts rfl (.s .n (.s (.s .n (.s (.s .n (.j [(4, (.d .bool))] [] [3] (.s .n (.s .n (.j [(4, (.d .bool))] [] [3] .n))))) (.s .n (.s (.s .n (.j [(8, (.d .bool))] [] [] .n)) .n)))) .n)) (cutL []) (by kernel_rfl) (by kernel_rfl) k_spec_l29Parts (by decide) (fun x K => W_spec_l29Parts x.1 K) w_spec_l29Parts (fun x h1 h2 => m_spec_l29Parts x.1 h1 h2)
def c_spec_l29End : Ct := ⟨[(.sl ruleT), (.int .i64)], [false, false], fun x => [0 ≤ x.2.1, x.2.1 ≤ x.1.length, x.1.length ≤ 1099511627776], [(false, (.fz (.int .i64)))], fun x => (fendR (x.1.drop x.2.1.toNat) 1 x.2.1, ()), false, none⟩
def W_spec_l29End (list : List ruleD) (i : Int) (K : Int × Unit → Prop) : Prop := (loopW (S := ((Int × (Int × Unit)) × Unit)) (fun s => (fun next => ((inK IntKind.i64 s.1.1) → ((inK IntKind.i64 s.1.2.1) → (cnd (decide ((0 : Int) < s.1.2.1)) (cnd (decide ((((List.length list) : Nat) : Int) ≤ s.1.1)) (K ((-(1 : Int)), ())) ((inK IntKind.i64 (s.1.2.1 - (1 : Int))) ∧ (((0 : Int) ≤ s.1.1) ∧ ((s.1.1 < (((List.length list) : Nat) : Int)) ∧ ((inK IntKind.i64 ((s.1.2.1 - (1 : Int)) + (ptsKR (List.getD list (Int.toNat s.1.1) ((0 : Int), ((0 : Int), ([] : List Int)))).1))) ∧ ((inK IntKind.i64 (s.1.1 + (1 : Int))) ∧ (next (((s.1.1 + (1 : Int)), (((s.1.2.1 - (1 : Int)) + (ptsKR (List.getD list (Int.toNat s.1.1) ((0 : Int), ((0 : Int), ([] : List Int)))).1)), ())), ())))))))) (K (s.1.1, ()))))))) ((i, ((1 : Int), ())), ()))
theorem w_spec_l29End (x : denL c_spec_l29End.args) (K : Int × Unit → Prop) : evF tab (lkp [(75, c_spec_l29Parts)]) (cutL []) Tryz.f48 (bodyOf Tryz.f48) (.s .n (.s .n (.s (.l [(1, (.d (.int .i64))), (5, (.d (.int .i64)))] [] [0] .n) .n))) c_spec_l29End x K = W_spec_l29End x.1 x.2.1 K := by kernel_rfl
theorem k_spec_l29End : okC Tryz.f48.ntmps (cutL []) (bodyOf Tryz.f48) = true := by kernel_rfl
theorem m_spec_l29End (list : List ruleD) (i : Int) (hok : allP (okL c_spec_l29End.args (list, i, ()))) (hpre : allP (c_spec_l29End.pre (list, i, ()))) : W_spec_l29End list i (fun r => r = c_spec_l29End.res (list, i, ())) := by
  simp only [c_spec_l29End, okL, T.oks, T.ok, ap, allP, true_and, and_true, implies_true] at hok hpre
  try dsimp only [T.den] at hok
  try dsimp only [T.den] at hpre
  unfold W_spec_l29End
  obtain ⟨hi0, hi1, hll⟩ := hpre
  clear hok
  refine loop_of (fun (s : ((Int × (Int × Unit)) × Unit)) => 0 ≤ s.1.1 ∧ s.1.1 ≤ list.length ∧ 0 ≤ s.1.2.1 ∧ s.1.2.1 ≤ 1 + s.1.1 ∧ fendR (list.drop s.1.1.toNat) s.1.2.1 s.1.1 = fendR (list.drop i.toNat) 1 i) (fun (s : ((Int × (Int × Unit)) × Unit)) => (list.length - s.1.1).toNat) ?_ ⟨hi0, hi1, by simp, by dsimp only; omega, rfl⟩
  rintro ⟨⟨j, o, _⟩, _⟩ next ⟨h0, h1, h2, h3, h4⟩ hn _ _
  try dsimp only at h0 h1 h2 h3 h4 hn ⊢
  refine cnd_d (fun hc => cnd_d (fun hd => ?_) (fun hd => ?_)) (fun hc => ?_)
  · simp only [c_spec_l29End]
    rw [← h4, drop_n list hd]
    unfold fendR
    rw [if_neg (by omega)]
  · rw [drop_c list (0, (0, [])) h0 (by omega), fendR, if_neg (by omega)] at h4
    have hp := pts_ge (list.getD j.toNat (0, (0, [])))
    refine ⟨by rw [inK64]; (try dsimp only); omega, h0, by omega, by rw [inK64, ptsK_eq]; omega, by rw [inK64]; (try dsimp only); omega, hn _ ⟨(by first | omega | (dsimp only; omega)), (by first | omega | (dsimp only; omega)), by dsimp only; rw [ptsK_eq]; omega, by dsimp only; rw [ptsK_eq]; omega, ?_⟩ (by first | omega | (dsimp only; omega))⟩
    try dsimp only
    rw [ptsK_eq]
    exact h4
  · have ho : o = 0 := by omega
    subst ho
    rw [fend_0] at h4
    simp only [c_spec_l29End]
    rw [h4]
theorem ct_spec_l29End : CtOk Tryz.prog 48 c_spec_l29End :=
  ct_by (Φ := lkp [(75, c_spec_l29Parts)]) (good_cons ct_spec_l29Parts good_nil) tab_ok (by kernel_rfl) (fn := Tryz.f48) (c := bodyOf Tryz.f48) (by kernel_rfl) (by kernel_rfl) (by kernel_rfl) c_spec_l29End rfl (.s .n (.s .n (.s (.l [(1, (.d (.int .i64))), (5, (.d (.int .i64)))] [] [0] .n) .n))) (cutL []) (by kernel_rfl) (by kernel_rfl) k_spec_l29End (by decide) (fun x K => W_spec_l29End x.1 x.2.1 K) w_spec_l29End (fun x h1 h2 => m_spec_l29End x.1 x.2.1 h1 h2)
def c_spec_l01Map : Ct := ⟨[(.int .i64), (.sl (.int .i64))], [false, false], fun x => [], [(false, (.fz .bool))], fun x => (withinR x.2.1 x.1, ()), false, none⟩
def W_spec_l01Map (n : Int) (f : List Int) (K : Bool × Unit → Prop) : Prop := (loopW (S := ((Int × Unit) × Unit)) (fun s => (fun next => ((inK IntKind.i64 s.1.1) → (cnd (decide (s.1.1 < (((List.length f) : Nat) : Int))) (((0 : Int) ≤ s.1.1) ∧ ((s.1.1 < (((List.length f) : Nat) : Int)) ∧ ((((decide ((List.getD f (Int.toNat s.1.1) (0 : Int)) < (0 : Int))) = Bool.false) → ((s.1.1 < (((List.length f) : Nat) : Int)) ∧ ((0 : Int) ≤ s.1.1))) ∧ (cnd ((decide ((List.getD f (Int.toNat s.1.1) (0 : Int)) < (0 : Int))) || (decide (n ≤ (List.getD f (Int.toNat s.1.1) (0 : Int))))) (K (Bool.false, ())) ((inK IntKind.i64 (s.1.1 + (1 : Int))) ∧ (next (((s.1.1 + (1 : Int)), ()), ()))))))) (K (Bool.true, ())))))) (((0 : Int), ()), ()))
theorem w_spec_l01Map (x : denL c_spec_l01Map.args) (K : Bool × Unit → Prop) : evF tab (lkp []) (cutL []) Tryz.f49 (bodyOf Tryz.f49) (.s .n (.s (.s .n (.l [(5, (.d (.int .i64)))] [] [0, 1] .n)) .n)) c_spec_l01Map x K = W_spec_l01Map x.1 x.2.1 K := by kernel_rfl
theorem k_spec_l01Map : okC Tryz.f49.ntmps (cutL []) (bodyOf Tryz.f49) = true := by kernel_rfl
theorem m_spec_l01Map (n : Int) (f : List Int) (hok : allP (okL c_spec_l01Map.args (n, f, ()))) (hpre : allP (c_spec_l01Map.pre (n, f, ()))) : W_spec_l01Map n f (fun r => r = c_spec_l01Map.res (n, f, ())) := by
  simp only [c_spec_l01Map, okL, T.oks, T.ok, ap, allP, true_and, and_true, implies_true] at hok hpre
  try dsimp only [T.den] at hok
  try dsimp only [T.den] at hpre
  unfold W_spec_l01Map
  refine loop_of (fun (s : ((Int × Unit) × Unit)) => 0 ≤ s.1.1 ∧ s.1.1 ≤ f.length ∧ withinR f n = withinR (f.drop s.1.1.toNat) n) (fun (s : ((Int × Unit) × Unit)) => (f.length - s.1.1).toNat) ?_ (by simp)
  rintro ⟨⟨i, _⟩, _⟩ next ⟨h0, h1, h2⟩ hn hin
  simp only at h0 h1 h2 hn ⊢
  refine cnd_d (fun hc => ?_) (fun hc => ?_)
  · rw [drop_c f 0 h0 hc] at h2
    simp only [withinR, List.all_cons] at h2
    grind [cnd, nb_eq, inK64, c_spec_l01Map, withinR, inR]
  · rw [drop_n f (by omega)] at h2
    grind [cnd, nb_eq, inK64, c_spec_l01Map, withinR]
theorem ct_spec_l01Map : CtOk Tryz.prog 49 c_spec_l01Map :=
  ct_by (Φ := lkp []) good_nil tab_ok (by kernel_rfl) (fn := Tryz.f49) (c := bodyOf Tryz.f49) (by kernel_rfl) (by kernel_rfl) (by kernel_rfl) c_spec_l01Map rfl (.s .n (.s (.s .n (.l [(5, (.d (.int .i64)))] [] [0, 1] .n)) .n)) (cutL []) (by kernel_rfl) (by kernel_rfl) k_spec_l01Map (by decide) (fun x K => W_spec_l01Map x.1 x.2.1 K) w_spec_l01Map (fun x h1 h2 => m_spec_l01Map x.1 x.2.1 h1 h2)
def c_spec_l29Node : Ct := ⟨[ruleT], [true], fun x => [], [(false, (.fz .bool))], fun x => (okNodeR x.1, ()), false, none⟩
def W_spec_l29Node (x : ruleD) (K : Bool × Unit → Prop) : Prop := (cnd (!(withinR x.2.2 (4 : Int))) (K (Bool.false, ())) (cnd (x.1 == (2 : Int)) (K (((inR x.2.1 (0 : Int) (3 : Int)) && (decide ((((List.length x.2.2) : Nat) : Int) ≤ (2 : Int)))), ())) (cnd (x.1 == (3 : Int)) (K (((x.2.1 == (0 : Int)) && ((((List.length x.2.2) : Nat) : Int) == (2 : Int))), ())) (joinW (S := ((Unit × (Bool × Unit)) × ((Int × (Int × (List Int))) × Unit))) (fun s => ((inK IntKind.i64 s.2.1.1) → ((inK IntKind.i64 s.2.1.2.1) → ((T.ok (T.sl (T.int IntKind.i64)) s.2.1.2.2) → (cnd s.1.2.1 (K (((inR s.2.1.2.1 (0 : Int) (2 : Int)) && ((((List.length s.2.1.2.2) : Nat) : Int) == (0 : Int))), ())) (K ((((inR s.2.1.1 (0 : Int) (8 : Int)) && (s.2.1.2.1 == (0 : Int))) && ((((List.length s.2.1.2.2) : Nat) : Int) == (0 : Int))), ()))))))) (fun k => (cnd (x.1 == (7 : Int)) (k (((), ((x.1 == (7 : Int)), ())), (x, ()))) (k (((), ((x.1 == (8 : Int)), ())), (x, ())))))))))
theorem w_spec_l29Node (x : denL c_spec_l29Node.args) (K : Bool × Unit → Prop) : evF tab (lkp [(43, c_spec_l01In), (49, c_spec_l01Map)]) (cutL []) Tryz.f47 (bodyOf Tryz.f47) (.s .n (.s .n (.s (.s .n (.s .n (.s .n (.s .n (.s .n (.s (.s .n (.j [(1, (.ad 1 [.de])), (31, (.d .bool))] [(1, (.pt (.fz (.p (.int .i64) (.p (.int .i64) (.sl (.int .i64)))))))] [] .n)) .n)))))) .n))) c_spec_l29Node x K = W_spec_l29Node x.1 K := by kernel_rfl
theorem k_spec_l29Node : okC Tryz.f47.ntmps (cutL []) (bodyOf Tryz.f47) = true := by kernel_rfl
theorem m_spec_l29Node (x : ruleD) (hok : allP (okL c_spec_l29Node.args (x, ()))) (hpre : allP (c_spec_l29Node.pre (x, ()))) : W_spec_l29Node x (fun r => r = c_spec_l29Node.res (x, ())) := by
  simp only [c_spec_l29Node, okL, T.oks, T.ok, ap, allP, true_and, and_true, implies_true] at hok hpre
  try dsimp only [T.den] at hok
  try dsimp only [T.den] at hpre
  unfold W_spec_l29Node
  have hc : okNodeR x = (withinR x.2.2 4 && (if x.1 = 2 then inR x.2.1 0 3 && decide (x.2.2.length ≤ 2) else if x.1 = 3 then decide (x.2.1 = 0) && decide (x.2.2.length = 2) else if x.1 = 7 ∨ x.1 = 8 then inR x.2.1 0 2 && decide (x.2.2.length = 0) else inR x.1 0 8 && decide (x.2.1 = 0) && decide (x.2.2.length = 0))) := rfl
  have res : ∀ b, okNodeR x = b → (b, ()) = c_spec_l29Node.res (x, ()) := fun b h => by simp only [c_spec_l29Node, h]
  clear hok
  simp only [joinW]
  generalize withinR x.2.2 4 = w at *
  generalize x.2.2.length = m at *
  generalize x.1 = k at *
  generalize x.2.1 = y at *
  grind [cnd]
theorem ct_spec_l29Node : CtOk Tryz.prog 47 c_spec_l29Node :=
  ct_by (Φ := lkp [(43, c_spec_l01In), (49, c_spec_l01Map)]) (good_cons ct_spec_l01In (good_cons ct_spec_l01Map good_nil)) tab_ok (by kernel_rfl) (fn := Tryz.f47) (c := bodyOf Tryz.f47) (by kernel_rfl) (by kernel_rfl) (by kernel_rfl) c_spec_l29Node rfl (.s .n (.s .n (.s (.s .n (.s .n (.s .n (.s .n (.s .n (.s (.s .n (.j [(1, (.ad 1 [.de])), (31, (.d .bool))] [(1, (.pt (.fz (.p (.int .i64) (.p (.int .i64) (.sl (.int .i64)))))))] [] .n)) .n)))))) .n))) (cutL []) (by kernel_rfl) (by kernel_rfl) k_spec_l29Node (by decide) (fun x K => W_spec_l29Node x.1 K) w_spec_l29Node (fun x h1 h2 => m_spec_l29Node x.1 h1 h2)
def c_spec_IsFormula : Ct := ⟨[(.sl ruleT)], [false], fun x => [], [(false, (.fz .bool))], fun x => (formR x.1, ()), false, none⟩
def W_spec_IsFormula (list : List ruleD) (K : Bool × Unit → Prop) : Prop := (cnd (!(inR (((List.length list) : Nat) : Int) (1 : Int) (40 : Int))) (K (Bool.false, ())) (loopW (S := ((Int × Unit) × Unit)) (fun s => (fun next => ((inK IntKind.i64 s.1.1) → (cnd (decide (s.1.1 < (((List.length list) : Nat) : Int))) (((0 : Int) ≤ s.1.1) ∧ ((s.1.1 < (((List.length list) : Nat) : Int)) ∧ (cnd (!(okNodeR (List.getD list (Int.toNat s.1.1) ((0 : Int), ((0 : Int), ([] : List Int)))))) (K (Bool.false, ())) ((inK IntKind.i64 (s.1.1 + (1 : Int))) ∧ (next (((s.1.1 + (1 : Int)), ()), ())))))) (((0 : Int) ≤ (0 : Int)) ∧ (((0 : Int) ≤ (((List.length list) : Nat) : Int)) ∧ (((List.length list) ≤ 1099511627776) ∧ (K (((fendR (List.drop (Int.toNat (0 : Int)) list) (1 : Int) (0 : Int)) == (((List.length list) : Nat) : Int)), ()))))))))) (((0 : Int), ()), ())))
theorem w_spec_IsFormula (x : denL c_spec_IsFormula.args) (K : Bool × Unit → Prop) : evF tab (lkp [(43, c_spec_l01In), (48, c_spec_l29End), (47, c_spec_l29Node)]) (cutL []) Tryz.f30 (bodyOf Tryz.f30) (.s .n (.s .n (.s (.s .n (.l [(3, (.d (.int .i64)))] [] [0] .n)) .n))) c_spec_IsFormula x K = W_spec_IsFormula x.1 K := by kernel_rfl
theorem k_spec_IsFormula : okC Tryz.f30.ntmps (cutL []) (bodyOf Tryz.f30) = true := by kernel_rfl
theorem m_spec_IsFormula (list : List ruleD) (hok : allP (okL c_spec_IsFormula.args (list, ()))) (hpre : allP (c_spec_IsFormula.pre (list, ()))) : W_spec_IsFormula list (fun r => r = c_spec_IsFormula.res (list, ())) := by
  simp only [c_spec_IsFormula, okL, T.oks, T.ok, ap, allP, true_and, and_true, implies_true] at hok hpre
  try dsimp only [T.den] at hok
  try dsimp only [T.den] at hpre
  unfold W_spec_IsFormula
  have hll : list.length ≤ 140737488355328 := by simp only [nb_eq] at hok; omega
  clear hok
  have hv : formR list = (inR list.length 1 40 && list.all okNodeR && (fendR list 1 0 == (list.length : Int))) := rfl
  have res : ∀ b, formR list = b → (b, ()) = c_spec_IsFormula.res (list, ()) := fun b h => by simp only [c_spec_IsFormula, h]
  refine cnd_of (fun hx => res _ ?_) (fun hx => ?_)
  · have h : inR list.length 1 40 = false := by simpa using hx
    rw [hv, h]; rfl
  have h : inR list.length 1 40 = true := by simpa using hx
  rw [h, Bool.true_and] at hv
  have h40 := inR_iff.1 h
  refine loop_all list (0, (0, [])) okNodeR ?_ ?_
  · intro i next i0 i1 hno hyes _
    try dsimp only
    refine cnd_d (fun _ => ⟨i0, i1, cnd_of (fun hx => res _ ?_) (fun hx => ⟨by rw [inK64]; (try dsimp only); omega, hyes (by simpa using hx)⟩)⟩) (fun h => absurd i1 h)
    rw [hv, hno (by simpa using hx)]; rfl
  · intro next h _
    refine cnd_d (fun h => absurd h (Int.lt_irrefl _)) (fun _ => ⟨Int.le_refl _, by omega, by omega, res _ ?_⟩)
    rw [hv, h]; rfl
theorem ct_spec_IsFormula : CtOk Tryz.prog 30 c_spec_IsFormula :=
  ct_by (Φ := lkp [(43, c_spec_l01In), (48, c_spec_l29End), (47, c_spec_l29Node)]) (good_cons ct_spec_l01In (good_cons ct_spec_l29End (good_cons ct_spec_l29Node good_nil))) tab_ok (by kernel_rfl) (fn := Tryz.f30) (c := bodyOf Tryz.f30) (by kernel_rfl) (by kernel_rfl) (by kernel_rfl) c_spec_IsFormula rfl (.s .n (.s .n (.s (.s .n (.l [(3, (.d (.int .i64)))] [] [0] .n)) .n))) (cutL []) (by kernel_rfl) (by kernel_rfl) k_spec_IsFormula (by decide) (fun x K => W_spec_IsFormula x.1 K) w_spec_IsFormula (fun x h1 h2 => m_spec_IsFormula x.1 h1 h2)
def c_spec_l01Same : Ct := ⟨[(.sl (.int .i64)), (.sl (.int .i64))], [false, false], fun x => [], [(false, (.fz .bool))], fun x => (eqR (.sl (.int .i64)) x.1 x.2.1, ()), false, none⟩
def W_spec_l01Same (a : List Int) (b : List Int) (K : Bool × Unit → Prop) : Prop := (cnd ((((List.length a) : Nat) : Int) != (((List.length b) : Nat) : Int)) (K (Bool.false, ())) (loopW (S := ((Int × Unit) × Unit)) (fun s => (fun next => ((inK IntKind.i64 s.1.1) → (cnd (decide (s.1.1 < (((List.length a) : Nat) : Int))) (((0 : Int) ≤ s.1.1) ∧ ((s.1.1 < (((List.length a) : Nat) : Int)) ∧ (((0 : Int) ≤ s.1.1) ∧ ((s.1.1 < (((List.length b) : Nat) : Int)) ∧ (cnd ((List.getD a (Int.toNat s.1.1) (0 : Int)) != (List.getD b (Int.toNat s.1.1) (0 : Int))) (K (Bool.false, ())) ((inK IntKind.i64 (s.1.1 + (1 : Int))) ∧ (next (((s.1.1 + (1 : Int)), ()), ())))))))) (K (Bool.true, ())))))) (((0 : Int), ()), ())))
theorem w_spec_l01Same (x : denL c_spec_l01Same.args) (K : Bool × Unit → Prop) : evF tab (lkp []) (cutL [(6, 9)]) Tryz.f50 (bodyOf Tryz.f50) (.s .n (.s .n (.s (.s .n (.l [(5, (.d (.int .i64)))] [] [0, 1] .n)) .n))) c_spec_l01Same x K = W_spec_l01Same x.1 x.2.1 K := by kernel_rfl
theorem k_spec_l01Same : okC Tryz.f50.ntmps (cutL [(6, 9)]) (bodyOf Tryz.f50) = true := by kernel_rfl
theorem m_spec_l01Same (a : List Int) (b : List Int) (hok : allP (okL c_spec_l01Same.args (a, b, ()))) (hpre : allP (c_spec_l01Same.pre (a, b, ()))) : W_spec_l01Same a b (fun r => r = c_spec_l01Same.res (a, b, ())) := by
  simp only [c_spec_l01Same, okL, T.oks, T.ok, ap, allP, true_and, and_true, implies_true] at hok hpre
  try dsimp only [T.den] at hok
  try dsimp only [T.den] at hpre
  unfold W_spec_l01Same
  have ha : a.length ≤ 140737488355328 := by simp only [nb_eq] at hok; omega
  clear hok
  refine cnd_of (fun h => ?_) (fun h => ?_)
  · simp only [c_spec_l01Same]; rw [eqR_f]; rintro rfl; simp at h
  have hl : a.length = b.length := by rw [bne_eq_false_iff_eq] at h; omega
  refine loop_ix (n := a.length) (fun i => a.take i.toNat = b.take i.toNat) (by omega) (by simp) ?_ ?_
  · intro i next i0 i1 hP hn hin
    have hta := take_c a 0 i0 i1
    have htb := take_c b 0 i0 (by omega)
    refine cnd_d (fun _ => ⟨i0, i1, i0, by omega, cnd_of (fun h1 => ?_) (fun h1 => ⟨by rw [inK64]; (try dsimp only); omega, hn ?_⟩)⟩) (fun h => absurd i1 h)
    · simp only [c_spec_l01Same]; rw [eqR_f]; rintro rfl; simp at h1
    · rw [bne_eq_false_iff_eq] at h1
      rw [hta, htb, hP, h1]
  · intro next hP hin
    refine cnd_d (fun h => absurd h (by dsimp only; omega)) (fun _ => ?_)
    rw [take_n _ (Int.le_refl _), take_n _ (by omega)] at hP
    simp only [c_spec_l01Same, hP, eqR_self]
theorem ct_spec_l01Same : CtOk Tryz.prog 50 c_spec_l01Same :=
  ct_by (Φ := lkp []) good_nil tab_ok (by kernel_rfl) (fn := Tryz.f50) (c := bodyOf Tryz.f50) (by kernel_rfl) (by kernel_rfl) (by kernel_rfl) c_spec_l01Same rfl (.s .n (.s .n (.s (.s .n (.l [(5, (.d (.int .i64)))] [] [0, 1] .n)) .n))) (cutL [(6, 9)]) (by kernel_rfl) (by kernel_rfl) k_spec_l01Same (by decide) (fun x K => W_spec_l01Same x.1 x.2.1 K) w_spec_l01Same (fun x h1 h2 => m_spec_l01Same x.1 x.2.1 h1 h2)
def c_spec_l01Same2 : Ct := ⟨[(.sl (.sl (.int .i64))), (.sl (.sl (.int .i64)))], [false, false], fun x => [], [(false, (.fz .bool))], fun x => (eqR (.sl (.sl (.int .i64))) x.1 x.2.1, ()), false, none⟩
def W_spec_l01Same2 (a : List (List Int)) (b : List (List Int)) (K : Bool × Unit → Prop) : Prop := (cnd ((((List.length a) : Nat) : Int) != (((List.length b) : Nat) : Int)) (K (Bool.false, ())) (loopW (S := ((Int × Unit) × Unit)) (fun s => (fun next => ((inK IntKind.i64 s.1.1) → (cnd (decide (s.1.1 < (((List.length a) : Nat) : Int))) (((0 : Int) ≤ s.1.1) ∧ ((s.1.1 < (((List.length a) : Nat) : Int)) ∧ (((0 : Int) ≤ s.1.1) ∧ ((s.1.1 < (((List.length b) : Nat) : Int)) ∧ (cnd (!(eqR (T.sl (T.int IntKind.i64)) (List.getD a (Int.toNat s.1.1) ([] : List Int)) (List.getD b (Int.toNat s.1.1) ([] : List Int)))) (K (Bool.false, ())) ((inK IntKind.i64 (s.1.1 + (1 : Int))) ∧ (next (((s.1.1 + (1 : Int)), ()), ())))))))) (K (Bool.true, ())))))) (((0 : Int), ()), ())))
theorem w_spec_l01Same2 (x : denL c_spec_l01Same2.args) (K : Bool × Unit → Prop) : evF tab (lkp [(50, c_spec_l01Same)]) (cutL [(6, 10)]) Tryz.f70 (bodyOf Tryz.f70) (.s .n (.s .n (.s (.s .n (.l [(5, (.d (.int .i64)))] [] [0, 1] .n)) .n))) c_spec_l01Same2 x K = W_spec_l01Same2 x.1 x.2.1 K := by kernel_rfl
theorem k_spec_l01Same2 : okC Tryz.f70.ntmps (cutL [(6, 10)]) (bodyOf Tryz.f70) = true := by kernel_rfl
theorem m_spec_l01Same2 (a : List (List Int)) (b : List (List Int)) (hok : allP (okL c_spec_l01Same2.args (a, b, ()))) (hpre : allP (c_spec_l01Same2.pre (a, b, ()))) : W_spec_l01Same2 a b (fun r => r = c_spec_l01Same2.res (a, b, ())) := by
  simp only [c_spec_l01Same2, okL, T.oks, T.ok, ap, allP, true_and, and_true, implies_true] at hok hpre
  try dsimp only [T.den] at hok
  try dsimp only [T.den] at hpre
  unfold W_spec_l01Same2
  have ha : a.length ≤ 140737488355328 := by simp only [nb_eq] at hok; omega
  refine cnd_of (fun h => ?_) (fun h => ?_)
  · simp only [c_spec_l01Same2]; rw [eqR_f]; rintro rfl; simp at h
  have hl : a.length = b.length := by rw [bne_eq_false_iff_eq] at h; omega
  refine loop_ix (n := a.length) (fun i => a.take i.toNat = b.take i.toNat) (by omega) (by simp) ?_ ?_
  · intro i next i0 i1 hP hn hin
    have hta := take_c a [] i0 i1
    have htb := take_c b [] i0 (by omega)
    refine cnd_d (fun _ => ⟨i0, i1, i0, by omega, cnd_of (fun h1 => ?_) (fun h1 => ⟨by rw [inK64]; (try dsimp only); omega, hn ?_⟩)⟩) (fun h => absurd i1 h)
    · simp only [c_spec_l01Same2]; rw [eqR_f]; rintro rfl; simp [eqR_self] at h1
    · simp only [Bool.not_eq_false', eqR_iff] at h1
      rw [hta, htb, hP, h1]
  · intro next hP hin
    refine cnd_d (fun h => absurd h (by dsimp only; omega)) (fun _ => ?_)
    rw [take_n _ (Int.le_refl _), take_n _ (by omega)] at hP
    simp only [c_spec_l01Same2, hP, eqR_self]
theorem ct_spec_l01Same2 : CtOk Tryz.prog 70 c_spec_l01Same2 :=
  ct_by (Φ := lkp [(50, c_spec_l01Same)]) (good_cons ct_spec_l01Same good_nil) tab_ok (by kernel_rfl) (fn := Tryz.f70) (c := bodyOf Tryz.f70) (by kernel_rfl) (by kernel_rfl) (by kernel_rfl) c_spec_l01Same2 rfl (.s .n (.s .n (.s (.s .n (.l [(5, (.d (.int .i64)))] [] [0, 1] .n)) .n))) (cutL [(6, 10)]) (by kernel_rfl) (by kernel_rfl) k_spec_l01Same2 (by decide) (fun x K => W_spec_l01Same2 x.1 x.2.1 K) w_spec_l01Same2 (fun x h1 h2 => m_spec_l01Same2 x.1 x.2.1 h1 h2)
def c_spec_l02Same : Ct := ⟨[CategoryT, CategoryT], [true, true], fun x => [], [(false, (.fz .bool))], fun x => (eqR CategoryT x.1 x.2.1, ()), false, none⟩
def W_spec_l02Same (a : CategoryD) (b : CategoryD) (K : Bool × Unit → Prop) : Prop := (K ((((((a.1 == b.1) && (eqR (T.sl (T.int IntKind.i64)) a.2.1 b.2.1)) && (eqR (T.sl (T.int IntKind.i64)) a.2.2.1 b.2.2.1)) && (eqR (T.sl (T.int IntKind.i64)) a.2.2.2.1 b.2.2.2.1)) && (eqR (T.sl (T.sl (T.int IntKind.i64))) a.2.2.2.2 b.2.2.2.2)), ()))
theorem w_spec_l02Same (x : denL c_spec_l02Same.args) (K : Bool × Unit → Prop) : evF tab (lkp [(50, c_spec_l01Same), (70, c_spec_l01Same2)]) (cutL []) Tryz.f45 (bodyOf Tryz.f45) .n c_spec_l02Same x K = W_spec_l02Same x.1 x.2.1 K := by kernel_rfl
theorem k_spec_l02Same : okC Tryz.f45.ntmps (cutL []) (bodyOf Tryz.f45) = true := by kernel_rfl
theorem m_spec_l02Same (a : CategoryD) (b : CategoryD) (hok : allP (okL c_spec_l02Same.args (a, b, ()))) (hpre : allP (c_spec_l02Same.pre (a, b, ()))) : W_spec_l02Same a b (fun r => r = c_spec_l02Same.res (a, b, ())) := by
  simp only [c_spec_l02Same, okL, T.oks, T.ok, ap, allP, true_and, and_true, implies_true] at hok hpre
  try dsimp only [T.den] at hok
  try dsimp only [T.den] at hpre
  unfold W_spec_l02Same
  simp only [c_spec_l02Same, eqR_p, eqR_int]
  grind [cnd, nb_eq, inK64]
theorem ct_spec_l02Same : CtOk Tryz.prog 45 c_spec_l02Same :=
  ct_by (Φ := lkp [(50, c_spec_l01Same), (70, c_spec_l01Same2)]) (good_cons ct_spec_l01Same (good_cons ct_spec_l01Same2 good_nil)) tab_ok (by kernel_rfl) (fn := Tryz.f45) (c := bodyOf Tryz.f45) (by kernel_rfl) (by kernel_rfl) (by kernel_rfl) c_spec_l02Same rfl .n (cutL []) (by kernel_rfl) (by kernel_rfl) k_spec_l02Same (by decide) (fun x K => W_spec_l02Same x.1 x.2.1 K) w_spec_l02Same (fun x h1 h2 => m_spec_l02Same x.1 x.2.1 h1 h2)
def c_spec_l19Fault : Ct := ⟨[SetFunctorT], [true], fun x => [SfP x.1], [(false, (.fz (.int .i64))), (false, (.fz (.int .i64))), (false, (.fz (.int .i64))), (false, (.fz (.int .i64)))], fun x => ((sfFaultR x.1).1, (sfFaultR x.1).2.1, (sfFaultR x.1).2.2.1, (sfFaultR x.1).2.2.2, ()), false, none⟩
def W_spec_l19Fault (f : SetFunctorD) (K : Int × Int × Int × Int × Unit → Prop) : Prop := (loopW (S := ((Int × Unit) × Unit)) (fun s => (fun next => ((inK IntKind.i64 s.1.1) → (cnd (decide (s.1.1 < f.1.1)) (loopW (S := ((Int × Unit) × Unit)) (fun s1 => (fun next1 => ((inK IntKind.i64 s1.1.1) → (((0 : Int) ≤ s.1.1) ∧ ((s.1.1 < (((List.length f.2.1) : Nat) : Int)) ∧ (cnd (decide (s1.1.1 < (List.getD f.2.1 (Int.toNat s.1.1) (0 : Int)))) (((0 : Int) ≤ s.1.1) ∧ ((s.1.1 < (((List.length f.1.2.2.2.1) : Nat) : Int)) ∧ (((0 : Int) ≤ (List.getD f.1.2.2.2.1 (Int.toNat s.1.1) (0 : Int))) ∧ (((List.getD f.1.2.2.2.1 (Int.toNat s.1.1) (0 : Int)) < (((List.length f.2.2) : Nat) : Int)) ∧ (((0 : Int) ≤ s1.1.1) ∧ ((s1.1.1 < (((List.length (List.getD f.2.2 (Int.toNat (List.getD f.1.2.2.2.1 (Int.toNat s.1.1) (0 : Int))) ([] : List Int))) : Nat) : Int)) ∧ (cnd ((List.getD (List.getD f.2.2 (Int.toNat (List.getD f.1.2.2.2.1 (Int.toNat s.1.1) (0 : Int))) ([] : List Int)) (Int.toNat s1.1.1) (0 : Int)) != s1.1.1) (K ((1 : Int), (s.1.1, (s1.1.1, ((0 : Int), ()))))) ((inK IntKind.i64 (s1.1.1 + (1 : Int))) ∧ (next1 (((s1.1.1 + (1 : Int)), ()), ())))))))))) ((inK IntKind.i64 (s.1.1 + (1 : Int))) ∧ (next (((s.1.1 + (1 : Int)), ()), ()))))))))) (((0 : Int), ()), ())) (loopW (S := ((Int × Unit) × Unit)) (fun s1 => (fun next1 => ((inK IntKind.i64 s1.1.1) → (cnd (decide (s1.1.1 < (((List.length f.1.2.1) : Nat) : Int))) (loopW (S := ((Int × Unit) × Unit)) (fun s2 => (fun next2 => ((inK IntKind.i64 s2.1.1) → (cnd (decide (s2.1.1 < (((List.length f.1.2.1) : Nat) : Int))) (joinW (S := (Unit × Unit)) (fun s3 => ((inK IntKind.i64 (s2.1.1 + (1 : Int))) ∧ (next2 (((s2.1.1 + (1 : Int)), ()), ())))) (fun k => (((0 : Int) ≤ s1.1.1) ∧ ((s1.1.1 < (((List.length f.1.2.2.1) : Nat) : Int)) ∧ (((0 : Int) ≤ s2.1.1) ∧ ((s2.1.1 < (((List.length f.1.2.1) : Nat) : Int)) ∧ (cnd ((List.getD f.1.2.2.1 (Int.toNat s1.1.1) (0 : Int)) != (List.getD f.1.2.1 (Int.toNat s2.1.1) (0 : Int))) (k ((), ())) (loopW (S := ((Int × Unit) × Unit)) (fun s3 => (fun next3 => ((inK IntKind.i64 s3.1.1) → (((0 : Int) ≤ s1.1.1) ∧ ((s1.1.1 < (((List.length f.1.2.1) : Nat) : Int)) ∧ (((0 : Int) ≤ (List.getD f.1.2.1 (Int.toNat s1.1.1) (0 : Int))) ∧ (((List.getD f.1.2.1 (Int.toNat s1.1.1) (0 : Int)) < (((List.length f.2.1) : Nat) : Int)) ∧ (cnd (decide (s3.1.1 < (List.getD f.2.1 (Int.toNat (List.getD f.1.2.1 (Int.toNat s1.1.1) (0 : Int))) (0 : Int)))) (((0 : Int) ≤ s1.1.1) ∧ ((s1.1.1 < (((List.length f.1.2.2.2.2) : Nat) : Int)) ∧ (((0 : Int) ≤ s2.1.1) ∧ ((s2.1.1 < (((List.length (List.getD f.1.2.2.2.2 (Int.toNat s1.1.1) ([] : List Int))) : Nat) : Int)) ∧ (((0 : Int) ≤ (List.getD (List.getD f.1.2.2.2.2 (Int.toNat s1.1.1) ([] : List Int)) (Int.toNat s2.1.1) (0 : Int))) ∧ (((List.getD (List.getD f.1.2.2.2.2 (Int.toNat s1.1.1) ([] : List Int)) (Int.toNat s2.1.1) (0 : Int)) < (((List.length f.2.2) : Nat) : Int)) ∧ (((0 : Int) ≤ s3.1.1) ∧ ((s3.1.1 < (((List.length (List.getD f.2.2 (Int.toNat (List.getD (List.getD f.1.2.2.2.2 (Int.toNat s1.1.1) ([] : List Int)) (Int.toNat s2.1.1) (0 : Int))) ([] : List Int))) : Nat) : Int)) ∧ (((0 : Int) ≤ s2.1.1) ∧ ((s2.1.1 < (((List.length f.2.2) : Nat) : Int)) ∧ (((0 : Int) ≤ s1.1.1) ∧ ((s1.1.1 < (((List.length f.2.2) : Nat) : Int)) ∧ (((0 : Int) ≤ s3.1.1) ∧ ((s3.1.1 < (((List.length (List.getD f.2.2 (Int.toNat s1.1.1) ([] : List Int))) : Nat) : Int)) ∧ (((0 : Int) ≤ (List.getD (List.getD f.2.2 (Int.toNat s1.1.1) ([] : List Int)) (Int.toNat s3.1.1) (0 : Int))) ∧ (((List.getD (List.getD f.2.2 (Int.toNat s1.1.1) ([] : List Int)) (Int.toNat s3.1.1) (0 : Int)) < (((List.length (List.getD f.2.2 (Int.toNat s2.1.1) ([] : List Int))) : Nat) : Int)) ∧ (cnd ((List.getD (List.getD f.2.2 (Int.toNat (List.getD (List.getD f.1.2.2.2.2 (Int.toNat s1.1.1) ([] : List Int)) (Int.toNat s2.1.1) (0 : Int))) ([] : List Int)) (Int.toNat s3.1.1) (0 : Int)) != (List.getD (List.getD f.2.2 (Int.toNat s2.1.1) ([] : List Int)) (Int.toNat (List.getD (List.getD f.2.2 (Int.toNat s1.1.1) ([] : List Int)) (Int.toNat s3.1.1) (0 : Int))) (0 : Int))) (K ((2 : Int), (s1.1.1, (s2.1.1, (s3.1.1, ()))))) ((inK IntKind.i64 (s3.1.1 + (1 : Int))) ∧ (next3 (((s3.1.1 + (1 : Int)), ()), ())))))))))))))))))))) (k ((), ())))))))))) (((0 : Int), ()), ()))))))))) ((inK IntKind.i64 (s1.1.1 + (1 : Int))) ∧ (next1 (((s1.1.1 + (1 : Int)), ()), ()))))))) (((0 : Int), ()), ())) (K ((0 : Int), ((0 : Int), ((0 : Int), ((0 : Int), ()))))))))) (((0 : Int), ()), ())))))) (((0 : Int), ()), ()))
theorem w_spec_l19Fault (x : denL c_spec_l19Fault.args) (K : Int × Int × Int × Int × Unit → Prop) : evF tab (lkp []) (cutL [(16, 11), (18, 11), (20, 31), (8, 14)]) Tryz.f69 (bodyOf Tryz.f69) (.s .n (.s .n (.s (.s .n (.l [(7, (.d (.int .i64)))] [] [1, 6] (.s .n (.s (.s .n (.l [(8, (.d (.int .i64)))] [] [1, 6, 7] .n)) .n)))) (.s (.s .n (.l [(9, (.d (.int .i64)))] [] [1, 6] (.s .n (.s (.s .n (.l [(10, (.d (.int .i64)))] [] [1, 6, 9] (.s .n (.s (.j [] [] [1, 6, 9, 10] (.s .n (.s .n (.l [(11, (.d (.int .i64)))] [] [1, 6, 9, 10] .n)))) .n)))) .n)))) .n)))) c_spec_l19Fault x K = W_spec_l19Fault x.1 K := by kernel_rfl
theorem k_spec_l19Fault : okC Tryz.f69.ntmps (cutL [(16, 11), (18, 11), (20, 31), (8, 14)]) (bodyOf Tryz.f69) = true := by kernel_rfl
theorem m_spec_l19Fault (f : SetFunctorD) (hok : allP (okL c_spec_l19Fault.args (f, ()))) (hpre : allP (c_spec_l19Fault.pre (f, ()))) : W_spec_l19Fault f (fun r => r = c_spec_l19Fault.res (f, ())) := by
  simp only [c_spec_l19Fault, okL, T.oks, T.ok, ap, allP, true_and, and_true, implies_true] at hok hpre
  try dsimp only [T.den] at hok
  try dsimp only [T.den] at hpre
  unfold W_spec_l19Fault
  have P : SfP f := hpre
  have S := cat_shape P.cat
  have hlt := S.lt
  have hli := S.li
  have hlc := S.lc
  have hmm := S.m
  have hob := S.ob
  have hlz := P.lz
  have hla := P.la
  have resq : ∀ a b d e, sfFaultR f = (a, b, d, e) → (a, b, d, e, ()) = c_spec_l19Fault.res (f, ()) := fun a b d e h => by simp only [c_spec_l19Fault, h]
  have hac : ∀ a e : Int, (f.2.2.getD a.toNat []).getD e.toNat 0 = actR f a e := fun _ _ => rfl
  have hcr : ∀ a b : Int, (f.1.2.2.2.2.getD a.toNat []).getD b.toNat 0 = compR f.1 a b := fun _ _ => rfl
  simp only [hac, hcr]
  refine loop_ix (n := f.1.1) (fun x => scanR (sfIx f) f.1.1.toNat 0 = scanR (sfIx f) (f.1.1 - x).toNat x) (by omega) (by rw [Int.sub_zero]) ?_ ?_
  · intro x next x0 x1 hP hn hin
    try dsimp only
    obtain ⟨b1, b2, b3, b4⟩ := S.idn x0 x1
    obtain ⟨z1, z2⟩ := P.size x0 x1
    obtain ⟨q1, q2⟩ := P.act _ b1 b2
    rw [b3] at q1
    refine cnd_d (fun _ => ?_) (fun h => absurd h (by omega))
    refine loop_ix (n := f.2.1.getD x.toNat 0) (fun e => sfIx f x = scanR (sfI f x) (f.2.1.getD x.toNat 0 - e).toNat e) z1 (by unfold sfIx; rw [Int.sub_zero]) ?_ ?_
    · intro e next2 e0 e1 hP2 hn2 hin2
      try dsimp only
      refine ⟨x0, by omega, cnd_d (fun _ => ⟨x0, by omega, b1, by omega, e0, by omega, cnd_of (fun hx => resq _ _ _ _ ?_) (fun hx => ⟨by rw [inK64]; (try dsimp only); omega, hn2 ?_⟩)⟩) (fun h => absurd h (by omega))⟩
      · have k1 : sfI f x e = some (1, x, e, 0) := by unfold sfI; rw [if_pos]; simpa using hx
        have k2 : sfIx f x = some (1, x, e, 0) := by rw [hP2, scan_s e1 k1]
        unfold sfFaultR; rw [hP, scan_s x1 k2]; rfl
      · have k1 : sfI f x e = none := by unfold sfI; rw [if_neg]; simpa using hx
        rw [hP2, scan_c e1 k1]
    · intro next2 hP2 hin2
      try dsimp only
      rw [scan_n] at hP2
      exact ⟨x0, by omega, cnd_d (fun h => absurd h (by omega)) (fun _ => ⟨by rw [inK64]; (try dsimp only); omega, hn (by rw [hP, scan_c x1 hP2])⟩)⟩
  intro next hI hin
  rw [scan_n] at hI
  refine cnd_d (fun h => absurd h (by dsimp only; omega)) (fun _ => ?_)
  have hF : sfFaultR f = orR (scanR (sfCa f) f.1.2.1.length 0) (0, 0, 0, 0) := by unfold sfFaultR; rw [hI]; rfl
  refine loop_ix (n := f.1.2.1.length) (fun a => scanR (sfCa f) f.1.2.1.length 0 = scanR (sfCa f) ((f.1.2.1.length : Int) - a).toNat a) (by omega) scan_0 ?_ ?_
  · intro a next a0 a1 hP hn hin
    try dsimp only
    have r1 := S.row a a0 a1
    obtain ⟨q1, q2⟩ := P.act _ a0 a1
    obtain ⟨fa1, fa2, ta1, ta2⟩ := S.frm a0 a1
    obtain ⟨z1, z2⟩ := P.size fa1 fa2
    refine cnd_d (fun _ => ?_) (fun h => absurd h (by omega))
    refine loop_ix (n := f.1.2.1.length) (fun b => sfCa f a = scanR (sfCb f a) ((f.1.2.1.length : Int) - b).toNat b) (by omega) scan_0 ?_ ?_
    · intro b next2 b0 b1 hP2 hn2 hin2
      try dsimp only
      refine cnd_d (fun _ => ?_) (fun h => absurd h (by omega))
      refine join_of (fun _ => sfCb f a b = none) (fun _ hG => ⟨by rw [inK64]; (try dsimp only); omega, hn2 (by rw [hP2, scan_c b1 hG])⟩) (fun k hk => ?_)
      have hk' := hk ((), ())
      refine ⟨a0, by omega, b0, by omega, cnd_of (fun hx => hk' ?_) (fun hx => ?_)⟩
      · unfold sfCb; rw [if_neg]; simpa using hx
      have hab : f.1.2.2.1.getD a.toNat 0 = f.1.2.1.getD b.toNat 0 := by rw [bne_eq_false_iff_eq] at hx; exact hx
      obtain ⟨y1, y2, y3, y4⟩ := S.yes a0 a1 b0 b1 hab
      obtain ⟨p1, p2⟩ := P.act _ y1 y2
      rw [y3] at p1
      obtain ⟨p3, p4⟩ := P.act _ b0 b1
      rw [← hab] at p3
      
      refine loop_ix (n := f.2.1.getD (f.1.2.1.getD a.toNat 0).toNat 0) (fun e => sfCb f a b = scanR (sfC f a b) (f.2.1.getD (f.1.2.1.getD a.toNat 0).toNat 0 - e).toNat e) z1 (by unfold sfCb; rw [if_pos hab, Int.sub_zero]) ?_ ?_
      · intro e next3 e0 e1 hP3 hn3 hin3
        try dsimp only
        obtain ⟨m1, m2, m3⟩ := P.at_ a0 a1 e0 e1
        refine ⟨a0, by omega, fa1, by omega, cnd_d (fun _ => ⟨a0, by omega, b0, by omega, y1, by omega, e0, by omega, b0, by omega, a0, by omega, e0, by omega, m2, by omega, cnd_of (fun hx => resq _ _ _ _ ?_) (fun hx => ⟨by rw [inK64]; (try dsimp only); omega, hn3 ?_⟩)⟩) (fun h => absurd h (by omega))⟩
        · have k0 : sfC f a b e = some (2, a, b, e) := by unfold sfC; rw [if_pos]; simpa using hx
          have k1 : sfCb f a b = some (2, a, b, e) := by rw [hP3, scan_s e1 k0]
          have k2 : sfCa f a = some (2, a, b, e) := by rw [hP2, scan_s b1 k1]
          rw [hF, hP, scan_s a1 k2]; rfl
        · have k0 : sfC f a b e = none := by unfold sfC; rw [if_neg]; simpa using hx
          rw [hP3, scan_c e1 k0]
      · intro next3 hP3 hin3
        try dsimp only
        rw [scan_n] at hP3
        exact ⟨a0, by omega, fa1, by omega, cnd_d (fun h => absurd h (by omega)) (fun _ => hk' hP3)⟩
    · intro next2 hP2 hin2
      try dsimp only
      rw [scan_n] at hP2
      exact cnd_d (fun h => absurd h (by omega)) (fun _ => ⟨by rw [inK64]; (try dsimp only); omega, hn (by rw [hP, scan_c a1 hP2])⟩)
  · intro next2 hP2 hin2
    rw [scan_n] at hP2
    refine cnd_d (fun h => absurd h (by dsimp only; omega)) (fun _ => resq _ _ _ _ ?_)
    rw [hF, hP2]; rfl
theorem ct_spec_l19Fault : CtOk Tryz.prog 69 c_spec_l19Fault :=
  ct_by (Φ := lkp []) good_nil tab_ok (by kernel_rfl) (fn := Tryz.f69) (c := bodyOf Tryz.f69) (by kernel_rfl) (by kernel_rfl) (by kernel_rfl) c_spec_l19Fault rfl (.s .n (.s .n (.s (.s .n (.l [(7, (.d (.int .i64)))] [] [1, 6] (.s .n (.s (.s .n (.l [(8, (.d (.int .i64)))] [] [1, 6, 7] .n)) .n)))) (.s (.s .n (.l [(9, (.d (.int .i64)))] [] [1, 6] (.s .n (.s (.s .n (.l [(10, (.d (.int .i64)))] [] [1, 6, 9] (.s .n (.s (.j [] [] [1, 6, 9, 10] (.s .n (.s .n (.l [(11, (.d (.int .i64)))] [] [1, 6, 9, 10] .n)))) .n)))) .n)))) .n)))) (cutL [(16, 11), (18, 11), (20, 31), (8, 14)]) (by kernel_rfl) (by kernel_rfl) k_spec_l19Fault (by decide) (fun x K => W_spec_l19Fault x.1 K) w_spec_l19Fault (fun x h1 h2 => m_spec_l19Fault x.1 h1 h2)
def c_spec_l02Ends : Ct := ⟨[(.sl (.int .i64)), (.int .i64), (.int .i64)], [false, false, false], fun x => [], [(false, (.fz .bool))], fun x => ((decide ((x.1.length : Int) = x.2.1) && withinR x.1 x.2.2.1), ()), false, none⟩
def W_spec_l02Ends (list : List Int) (length : Int) (objects : Int) (K : Bool × Unit → Prop) : Prop := (K ((((((List.length list) : Nat) : Int) == length) && (withinR list objects)), ()))
theorem w_spec_l02Ends (x : denL c_spec_l02Ends.args) (K : Bool × Unit → Prop) : evF tab (lkp [(49, c_spec_l01Map)]) (cutL []) Tryz.f101 (bodyOf Tryz.f101) .n c_spec_l02Ends x K = W_spec_l02Ends x.1 x.2.1 x.2.2.1 K := by kernel_rfl
theorem k_spec_l02Ends : okC Tryz.f101.ntmps (cutL []) (bodyOf Tryz.f101) = true := by kernel_rfl
theorem m_spec_l02Ends (list : List Int) (length : Int) (objects : Int) (hok : allP (okL c_spec_l02Ends.args (list, length, objects, ()))) (hpre : allP (c_spec_l02Ends.pre (list, length, objects, ()))) : W_spec_l02Ends list length objects (fun r => r = c_spec_l02Ends.res (list, length, objects, ())) := by
  simp only [c_spec_l02Ends, okL, T.oks, T.ok, ap, allP, true_and, and_true, implies_true] at hok hpre
  try dsimp only [T.den] at hok
  try dsimp only [T.den] at hpre
  unfold W_spec_l02Ends
  have : ((list.length : Int) == length) = decide ((list.length : Int) = length) := rfl
  simp only [c_spec_l02Ends, this]
theorem ct_spec_l02Ends : CtOk Tryz.prog 101 c_spec_l02Ends :=
  ct_by (Φ := lkp [(49, c_spec_l01Map)]) (good_cons ct_spec_l01Map good_nil) tab_ok (by kernel_rfl) (fn := Tryz.f101) (c := bodyOf Tryz.f101) (by kernel_rfl) (by kernel_rfl) (by kernel_rfl) c_spec_l02Ends rfl .n (cutL []) (by kernel_rfl) (by kernel_rfl) k_spec_l02Ends (by decide) (fun x K => W_spec_l02Ends x.1 x.2.1 x.2.2.1 K) w_spec_l02Ends (fun x h1 h2 => m_spec_l02Ends x.1 x.2.1 x.2.2.1 h1 h2)
def c_spec_IsShape : Ct := ⟨[CategoryT], [true], fun x => [], [(false, (.fz .bool))], fun x => (shapeR x.1, ()), false, none⟩
def W_spec_IsShape (c : CategoryD) (K : Bool × Unit → Prop) : Prop := (cnd (((((!(inR c.1 (0 : Int) (8 : Int))) || (decide ((40 : Int) < (((List.length c.2.1) : Nat) : Int)))) || (!((decide ((((List.length c.2.1) : Nat) : Int) = (((List.length c.2.1) : Nat) : Int))) && (withinR c.2.1 c.1)))) || (!((decide ((((List.length c.2.2.1) : Nat) : Int) = (((List.length c.2.1) : Nat) : Int))) && (withinR c.2.2.1 c.1)))) || ((((List.length c.2.2.2.2) : Nat) : Int) != (((List.length c.2.1) : Nat) : Int))) (K (Bool.false, ())) (cnd (((((List.length c.2.2.2.1) : Nat) : Int) != c.1) || (!(withinR c.2.2.2.1 (((List.length c.2.1) : Nat) : Int)))) (K (Bool.false, ())) (loopW (S := ((Int × Unit) × Unit)) (fun s => (fun next => ((inK IntKind.i64 s.1.1) → (cnd (decide (s.1.1 < c.1)) (((0 : Int) ≤ s.1.1) ∧ ((s.1.1 < (((List.length c.2.2.2.1) : Nat) : Int)) ∧ (((0 : Int) ≤ (List.getD c.2.2.2.1 (Int.toNat s.1.1) (0 : Int))) ∧ (((List.getD c.2.2.2.1 (Int.toNat s.1.1) (0 : Int)) < (((List.length c.2.1) : Nat) : Int)) ∧ (((((List.getD c.2.1 (Int.toNat (List.getD c.2.2.2.1 (Int.toNat s.1.1) (0 : Int))) (0 : Int)) != s.1.1) = Bool.false) → ((s.1.1 < (((List.length c.2.2.2.1) : Nat) : Int)) ∧ ((0 : Int) ≤ s.1.1))) ∧ (((((List.getD c.2.1 (Int.toNat (List.getD c.2.2.2.1 (Int.toNat s.1.1) (0 : Int))) (0 : Int)) != s.1.1) = Bool.false) → (((List.getD c.2.2.2.1 (Int.toNat s.1.1) (0 : Int)) < (((List.length c.2.2.1) : Nat) : Int)) ∧ ((0 : Int) ≤ (List.getD c.2.2.2.1 (Int.toNat s.1.1) (0 : Int))))) ∧ (cnd (((List.getD c.2.1 (Int.toNat (List.getD c.2.2.2.1 (Int.toNat s.1.1) (0 : Int))) (0 : Int)) != s.1.1) || ((List.getD c.2.2.1 (Int.toNat (List.getD c.2.2.2.1 (Int.toNat s.1.1) (0 : Int))) (0 : Int)) != s.1.1)) (K (Bool.false, ())) ((inK IntKind.i64 (s.1.1 + (1 : Int))) ∧ (next (((s.1.1 + (1 : Int)), ()), ())))))))))) (loopW (S := ((Int × Unit) × Unit)) (fun s1 => (fun next1 => ((inK IntKind.i64 s1.1.1) → (cnd (decide (s1.1.1 < (((List.length c.2.1) : Nat) : Int))) (((0 : Int) ≤ s1.1.1) ∧ ((s1.1.1 < (((List.length c.2.2.2.2) : Nat) : Int)) ∧ (cnd ((((List.length (List.getD c.2.2.2.2 (Int.toNat s1.1.1) ([] : List Int))) : Nat) : Int) != (((List.length c.2.1) : Nat) : Int)) (K (Bool.false, ())) (loopW (S := ((Int × Unit) × Unit)) (fun s2 => (fun next2 => ((inK IntKind.i64 s2.1.1) → (cnd (decide (s2.1.1 < (((List.length c.2.1) : Nat) : Int))) (joinW (S := (Unit × Unit)) (fun s3 => ((inK IntKind.i64 (s2.1.1 + (1 : Int))) ∧ (next2 (((s2.1.1 + (1 : Int)), ()), ())))) (fun k => (((0 : Int) ≤ s1.1.1) ∧ ((s1.1.1 < (((List.length c.2.2.2.2) : Nat) : Int)) ∧ (((0 : Int) ≤ s2.1.1) ∧ ((s2.1.1 < (((List.length (List.getD c.2.2.2.2 (Int.toNat s1.1.1) ([] : List Int))) : Nat) : Int)) ∧ (((0 : Int) ≤ s1.1.1) ∧ ((s1.1.1 < (((List.length c.2.2.1) : Nat) : Int)) ∧ (((0 : Int) ≤ s2.1.1) ∧ ((s2.1.1 < (((List.length c.2.1) : Nat) : Int)) ∧ (cnd ((List.getD c.2.2.1 (Int.toNat s1.1.1) (0 : Int)) != (List.getD c.2.1 (Int.toNat s2.1.1) (0 : Int))) (cnd ((List.getD (List.getD c.2.2.2.2 (Int.toNat s1.1.1) ([] : List Int)) (Int.toNat s2.1.1) (0 : Int)) != (-(1 : Int))) (K (Bool.false, ())) (k ((), ()))) (((((decide ((List.getD (List.getD c.2.2.2.2 (Int.toNat s1.1.1) ([] : List Int)) (Int.toNat s2.1.1) (0 : Int)) < (0 : Int))) || (decide ((((List.length c.2.1) : Nat) : Int) ≤ (List.getD (List.getD c.2.2.2.2 (Int.toNat s1.1.1) ([] : List Int)) (Int.toNat s2.1.1) (0 : Int))))) = Bool.false) → (((List.getD (List.getD c.2.2.2.2 (Int.toNat s1.1.1) ([] : List Int)) (Int.toNat s2.1.1) (0 : Int)) < (((List.length c.2.1) : Nat) : Int)) ∧ ((0 : Int) ≤ (List.getD (List.getD c.2.2.2.2 (Int.toNat s1.1.1) ([] : List Int)) (Int.toNat s2.1.1) (0 : Int))))) ∧ (((((decide ((List.getD (List.getD c.2.2.2.2 (Int.toNat s1.1.1) ([] : List Int)) (Int.toNat s2.1.1) (0 : Int)) < (0 : Int))) || (decide ((((List.length c.2.1) : Nat) : Int) ≤ (List.getD (List.getD c.2.2.2.2 (Int.toNat s1.1.1) ([] : List Int)) (Int.toNat s2.1.1) (0 : Int))))) = Bool.false) → ((s1.1.1 < (((List.length c.2.1) : Nat) : Int)) ∧ ((0 : Int) ≤ s1.1.1))) ∧ ((((((decide ((List.getD (List.getD c.2.2.2.2 (Int.toNat s1.1.1) ([] : List Int)) (Int.toNat s2.1.1) (0 : Int)) < (0 : Int))) || (decide ((((List.length c.2.1) : Nat) : Int) ≤ (List.getD (List.getD c.2.2.2.2 (Int.toNat s1.1.1) ([] : List Int)) (Int.toNat s2.1.1) (0 : Int))))) || ((List.getD c.2.1 (Int.toNat (List.getD (List.getD c.2.2.2.2 (Int.toNat s1.1.1) ([] : List Int)) (Int.toNat s2.1.1) (0 : Int))) (0 : Int)) != (List.getD c.2.1 (Int.toNat s1.1.1) (0 : Int)))) = Bool.false) → (((List.getD (List.getD c.2.2.2.2 (Int.toNat s1.1.1) ([] : List Int)) (Int.toNat s2.1.1) (0 : Int)) < (((List.length c.2.2.1) : Nat) : Int)) ∧ ((0 : Int) ≤ (List.getD (List.getD c.2.2.2.2 (Int.toNat s1.1.1) ([] : List Int)) (Int.toNat s2.1.1) (0 : Int))))) ∧ ((((((decide ((List.getD (List.getD c.2.2.2.2 (Int.toNat s1.1.1) ([] : List Int)) (Int.toNat s2.1.1) (0 : Int)) < (0 : Int))) || (decide ((((List.length c.2.1) : Nat) : Int) ≤ (List.getD (List.getD c.2.2.2.2 (Int.toNat s1.1.1) ([] : List Int)) (Int.toNat s2.1.1) (0 : Int))))) || ((List.getD c.2.1 (Int.toNat (List.getD (List.getD c.2.2.2.2 (Int.toNat s1.1.1) ([] : List Int)) (Int.toNat s2.1.1) (0 : Int))) (0 : Int)) != (List.getD c.2.1 (Int.toNat s1.1.1) (0 : Int)))) = Bool.false) → ((s2.1.1 < (((List.length c.2.2.1) : Nat) : Int)) ∧ ((0 : Int) ≤ s2.1.1))) ∧ (cnd ((((decide ((List.getD (List.getD c.2.2.2.2 (Int.toNat s1.1.1) ([] : List Int)) (Int.toNat s2.1.1) (0 : Int)) < (0 : Int))) || (decide ((((List.length c.2.1) : Nat) : Int) ≤ (List.getD (List.getD c.2.2.2.2 (Int.toNat s1.1.1) ([] : List Int)) (Int.toNat s2.1.1) (0 : Int))))) || ((List.getD c.2.1 (Int.toNat (List.getD (List.getD c.2.2.2.2 (Int.toNat s1.1.1) ([] : List Int)) (Int.toNat s2.1.1) (0 : Int))) (0 : Int)) != (List.getD c.2.1 (Int.toNat s1.1.1) (0 : Int)))) || ((List.getD c.2.2.1 (Int.toNat (List.getD (List.getD c.2.2.2.2 (Int.toNat s1.1.1) ([] : List Int)) (Int.toNat s2.1.1) (0 : Int))) (0 : Int)) != (List.getD c.2.2.1 (Int.toNat s2.1.1) (0 : Int)))) (K (Bool.false, ())) (k ((), ())))))))))))))))))) ((inK IntKind.i64 (s1.1.1 + (1 : Int))) ∧ (next1 (((s1.1.1 + (1 : Int)), ()), ()))))))) (((0 : Int), ()), ()))))) (K (Bool.true, ())))))) (((0 : Int), ()), ())))))) (((0 : Int), ()), ()))))
theorem w_spec_IsShape (x : denL c_spec_IsShape.args) (K : Bool × Unit → Prop) : evF tab (lkp [(43, c_spec_l01In), (49, c_spec_l01Map), (101, c_spec_l02Ends)]) (cutL [(20, 11), (23, 33), (9, 24)]) Tryz.f96 (bodyOf Tryz.f96) (.s .n (.s .n (.s .n (.s .n (.s (.s .n (.l [(4, (.d (.int .i64)))] [] [1, 3] .n)) (.s (.s .n (.l [(5, (.d (.int .i64)))] [] [1, 3] (.s .n (.s (.s .n (.s .n (.l [(6, (.d (.int .i64)))] [] [1, 3, 5] (.s .n (.s (.j [] [] [1, 3, 5, 6] .n) .n))))) .n)))) .n)))))) c_spec_IsShape x K = W_spec_IsShape x.1 K := by kernel_rfl
theorem k_spec_IsShape : okC Tryz.f96.ntmps (cutL [(20, 11), (23, 33), (9, 24)]) (bodyOf Tryz.f96) = true := by kernel_rfl
theorem m_spec_IsShape (c : CategoryD) (hok : allP (okL c_spec_IsShape.args (c, ()))) (hpre : allP (c_spec_IsShape.pre (c, ()))) : W_spec_IsShape c (fun r => r = c_spec_IsShape.res (c, ())) := by
  simp only [c_spec_IsShape, okL, T.oks, T.ok, ap, allP, true_and, and_true, implies_true] at hok hpre
  try dsimp only [T.den] at hok
  try dsimp only [T.den] at hpre
  unfold W_spec_IsShape
  have bad : ¬ ShapeP c → (false, ()) = c_spec_IsShape.res (c, ()) := fun h => by simp only [c_spec_IsShape]; rw [shape_f h]
  refine cnd_of (fun hc => bad fun h => ?_) (fun hc => cnd_of (fun hd => bad fun h => ?_) (fun hd => ?_))
  · have h1 := h.ob; have h2 := h.m; have h3 := h.lt; have h4 := h.fr; have h5 := h.to; have h6 := h.lc; simp only [inR] at hc; grind [cnd, nb_eq, inK64]
  · have h1 := h.li; have h2 := h.ids; grind [cnd, nb_eq, inK64]
  simp only [inR, Bool.or_eq_false_iff, Bool.not_eq_false', Bool.and_eq_true, decide_eq_true_eq, decide_eq_false_iff_not, bne_eq_false_iff_eq] at hc hd
  obtain ⟨⟨⟨⟨hob, hm⟩, _, hfr⟩, hlt, hto⟩, hlc⟩ := hc
  obtain ⟨hli, hids⟩ := hd
  refine loop_ix (n := c.1) (fun x => ∀ y : Int, 0 ≤ y → y < x → c.2.1.getD (c.2.2.2.1.getD y.toNat 0).toNat 0 = y ∧ c.2.2.1.getD (c.2.2.2.1.getD y.toNat 0).toNat 0 = y) (by omega) (by intro y h0 h1; omega) ?_ ?_
  · intro x next h0 h1 hP hn hin
    have hb := within_iff.1 hids x h0 (by omega)
    try dsimp only
    refine cnd_d (fun _ => ⟨h0, by omega, hb.1, hb.2, fun _ => by omega, fun _ => by omega, cnd_of (fun hx => bad fun h => ?_) (fun hx => ?_)⟩) (fun h => absurd h1 h)
    · have := h.idt x h0 (by omega)
      rw [this.1, this.2] at hx
      simp at hx
    · simp only [Bool.or_eq_false_iff, bne_eq_false_iff_eq] at hx
      refine ⟨by rw [inK64]; (try dsimp only); omega, hn fun y y0 y1 => ?_⟩
      by_cases e : y = x
      · rw [e]; exact hx
      · exact hP y y0 (by omega)
  intro next hidt hin
  refine cnd_d (fun h => absurd h (by dsimp only; omega)) (fun _ => ?_)
  refine loop_ix (n := c.2.1.length) (fun f => ∀ f' : Int, 0 ≤ f' → f' < f → (c.2.2.2.2.getD f'.toNat []).length = c.2.1.length ∧ ∀ g : Int, 0 ≤ g → g < c.2.1.length → cellR c f' g = true) (by omega) (by intro y h0 h1; omega) ?_ ?_
  · intro f next h0 h1 hP hn hin
    try dsimp only
    refine cnd_d (fun _ => ⟨h0, by omega, cnd_of (fun hx => bad fun h => ?_) (fun hx => ?_)⟩) (fun h => absurd h1 h)
    · have := h.row f h0 (by omega)
      rw [this] at hx
      simp at hx
    simp only [bne_eq_false_iff_eq] at hx
    refine loop_ix (n := c.2.1.length) (fun g => ∀ g' : Int, 0 ≤ g' → g' < g → cellR c f g' = true) (by omega) (by intro y h0 h1; omega) ?_ ?_
    · intro g next3 g0 g1 hP3 hn3 hin3
      try dsimp only
      refine cnd_d (fun _ => ?_) (fun h => absurd g1 h)
      refine join_of (fun _ => cellR c f g = true) (fun _ hcell => ⟨by rw [inK64]; (try dsimp only); omega, hn3 fun g' y0 y1 => ?_⟩) (fun k hk => ?_)
      · by_cases e : g' = g
        · rw [e]; exact hcell
        · exact hP3 g' y0 (by omega)
      have hcell : ∀ b, cellR c f g = b → b = false → ¬ ShapeP c := fun b h1 h2 h => by
        have := h.cell f g h0 (by omega) g0 (by omega)
        rw [h1, h2] at this; cases this
      have hk' := hk ((), ())
      obtain ⟨v, hv⟩ : ∃ v, (c.2.2.2.2.getD f.toNat []).getD g.toNat 0 = v := ⟨_, rfl⟩
      have hR : cellR c f g = cellQ c f g v := by unfold cellR compR; rw [hv]
      rw [hR] at hk'
      rw [hR] at hcell
      rw [hv]
      clear hP3 hn3 hP hn hk hR hv hidt hok
      refine ⟨h0, by omega, g0, by omega, h0, by omega, g0, by omega, cnd_of (fun ha => cnd_of (fun hb => bad ?_) (fun hb => hk' ?_)) (fun ha => ⟨fun hv => ?_, fun _ => ⟨by omega, h0⟩, fun hv => ?_, fun _ => ⟨by omega, g0⟩, cnd_of (fun hb => bad ?_) (fun hb => hk' ?_)⟩)⟩
      · exact hcell _ rfl (by grind [cnd, nb_eq, inK64, cellQ])
      · grind [cnd, nb_eq, inK64, cellQ]
      · simp only [Bool.or_eq_false_iff, decide_eq_false_iff_not] at hv; omega
      · simp only [Bool.or_eq_false_iff, decide_eq_false_iff_not] at hv; omega
      · exact hcell _ rfl (by grind [cnd, nb_eq, inK64, cellQ])
      · grind [cnd, nb_eq, inK64, cellQ]
    · intro next3 hP3 hin3
      refine cnd_d (fun h => absurd h (by dsimp only; omega)) (fun _ => ⟨by rw [inK64]; (try dsimp only); omega, hn fun f' y0 y1 => ?_⟩)
      by_cases e : f' = f
      · rw [e]; exact ⟨by omega, fun g g0 g1 => hP3 g g0 (by omega)⟩
      · exact hP f' y0 (by omega)
  · intro next2 hP2 hin2
    refine cnd_d (fun h => absurd h (by dsimp only; omega)) (fun _ => ?_)
    simp only [c_spec_IsShape]
    rw [shape_t ⟨hob, by omega, by omega, hfr, hto, by omega, hids, by omega, fun x a b => hidt x a (by omega), fun f a b => (hP2 f a (by omega)).1, fun f g a b d e => (hP2 f a (by omega)).2 g d e⟩]
theorem ct_spec_IsShape : CtOk Tryz.prog 96 c_spec_IsShape :=
  ct_by (Φ := lkp [(43, c_spec_l01In), (49, c_spec_l01Map), (101, c_spec_l02Ends)]) (good_cons ct_spec_l01In (good_cons ct_spec_l01Map (good_cons ct_spec_l02Ends good_nil))) tab_ok (by kernel_rfl) (fn := Tryz.f96) (c := bodyOf Tryz.f96) (by kernel_rfl) (by kernel_rfl) (by kernel_rfl) c_spec_IsShape rfl (.s .n (.s .n (.s .n (.s .n (.s (.s .n (.l [(4, (.d (.int .i64)))] [] [1, 3] .n)) (.s (.s .n (.l [(5, (.d (.int .i64)))] [] [1, 3] (.s .n (.s (.s .n (.s .n (.l [(6, (.d (.int .i64)))] [] [1, 3, 5] (.s .n (.s (.j [] [] [1, 3, 5, 6] .n) .n))))) .n)))) .n)))))) (cutL [(20, 11), (23, 33), (9, 24)]) (by kernel_rfl) (by kernel_rfl) k_spec_IsShape (by decide) (fun x K => W_spec_IsShape x.1 K) w_spec_IsShape (fun x h1 h2 => m_spec_IsShape x.1 h1 h2)
def c_spec_l02Fault : Ct := ⟨[CategoryT], [true], fun x => [ShapeP x.1], [(false, (.fz (.int .i64))), (false, (.fz (.int .i64))), (false, (.fz (.int .i64))), (false, (.fz (.int .i64)))], fun x => ((faultR x.1).1, (faultR x.1).2.1, (faultR x.1).2.2.1, (faultR x.1).2.2.2, ()), false, none⟩
def W_spec_l02Fault (c : CategoryD) (K : Int × Int × Int × Int × Unit → Prop) : Prop := (loopW (S := ((Int × Unit) × Unit)) (fun s => (fun next => ((inK IntKind.i64 s.1.1) → (cnd (decide (s.1.1 < (((List.length c.2.1) : Nat) : Int))) (((0 : Int) ≤ s.1.1) ∧ ((s.1.1 < (((List.length c.2.1) : Nat) : Int)) ∧ (((0 : Int) ≤ (List.getD c.2.1 (Int.toNat s.1.1) (0 : Int))) ∧ (((List.getD c.2.1 (Int.toNat s.1.1) (0 : Int)) < (((List.length c.2.2.2.1) : Nat) : Int)) ∧ (((0 : Int) ≤ (List.getD c.2.2.2.1 (Int.toNat (List.getD c.2.1 (Int.toNat s.1.1) (0 : Int))) (0 : Int))) ∧ (((List.getD c.2.2.2.1 (Int.toNat (List.getD c.2.1 (Int.toNat s.1.1) (0 : Int))) (0 : Int)) < (((List.length c.2.2.2.2) : Nat) : Int)) ∧ (((0 : Int) ≤ s.1.1) ∧ ((s.1.1 < (((List.length (List.getD c.2.2.2.2 (Int.toNat (List.getD c.2.2.2.1 (Int.toNat (List.getD c.2.1 (Int.toNat s.1.1) (0 : Int))) (0 : Int))) ([] : List Int))) : Nat) : Int)) ∧ (((((List.getD (List.getD c.2.2.2.2 (Int.toNat (List.getD c.2.2.2.1 (Int.toNat (List.getD c.2.1 (Int.toNat s.1.1) (0 : Int))) (0 : Int))) ([] : List Int)) (Int.toNat s.1.1) (0 : Int)) != s.1.1) = Bool.false) → ((s.1.1 < (((List.length c.2.2.2.2) : Nat) : Int)) ∧ ((0 : Int) ≤ s.1.1))) ∧ (((((List.getD (List.getD c.2.2.2.2 (Int.toNat (List.getD c.2.2.2.1 (Int.toNat (List.getD c.2.1 (Int.toNat s.1.1) (0 : Int))) (0 : Int))) ([] : List Int)) (Int.toNat s.1.1) (0 : Int)) != s.1.1) = Bool.false) → ((s.1.1 < (((List.length c.2.2.1) : Nat) : Int)) ∧ ((0 : Int) ≤ s.1.1))) ∧ (((((List.getD (List.getD c.2.2.2.2 (Int.toNat (List.getD c.2.2.2.1 (Int.toNat (List.getD c.2.1 (Int.toNat s.1.1) (0 : Int))) (0 : Int))) ([] : List Int)) (Int.toNat s.1.1) (0 : Int)) != s.1.1) = Bool.false) → (((List.getD c.2.2.1 (Int.toNat s.1.1) (0 : Int)) < (((List.length c.2.2.2.1) : Nat) : Int)) ∧ ((0 : Int) ≤ (List.getD c.2.2.1 (Int.toNat s.1.1) (0 : Int))))) ∧ (((((List.getD (List.getD c.2.2.2.2 (Int.toNat (List.getD c.2.2.2.1 (Int.toNat (List.getD c.2.1 (Int.toNat s.1.1) (0 : Int))) (0 : Int))) ([] : List Int)) (Int.toNat s.1.1) (0 : Int)) != s.1.1) = Bool.false) → (((List.getD c.2.2.2.1 (Int.toNat (List.getD c.2.2.1 (Int.toNat s.1.1) (0 : Int))) (0 : Int)) < (((List.length (List.getD c.2.2.2.2 (Int.toNat s.1.1) ([] : List Int))) : Nat) : Int)) ∧ ((0 : Int) ≤ (List.getD c.2.2.2.1 (Int.toNat (List.getD c.2.2.1 (Int.toNat s.1.1) (0 : Int))) (0 : Int))))) ∧ (cnd (((List.getD (List.getD c.2.2.2.2 (Int.toNat (List.getD c.2.2.2.1 (Int.toNat (List.getD c.2.1 (Int.toNat s.1.1) (0 : Int))) (0 : Int))) ([] : List Int)) (Int.toNat s.1.1) (0 : Int)) != s.1.1) || ((List.getD (List.getD c.2.2.2.2 (Int.toNat s.1.1) ([] : List Int)) (Int.toNat (List.getD c.2.2.2.1 (Int.toNat (List.getD c.2.2.1 (Int.toNat s.1.1) (0 : Int))) (0 : Int))) (0 : Int)) != s.1.1)) (K ((1 : Int), (s.1.1, ((0 : Int), ((0 : Int), ()))))) ((inK IntKind.i64 (s.1.1 + (1 : Int))) ∧ (next (((s.1.1 + (1 : Int)), ()), ())))))))))))))))) (loopW (S := ((Int × Unit) × Unit)) (fun s1 => (fun next1 => ((inK IntKind.i64 s1.1.1) → (cnd (decide (s1.1.1 < (((List.length c.2.1) : Nat) : Int))) (loopW (S := ((Int × Unit) × Unit)) (fun s2 => (fun next2 => ((inK IntKind.i64 s2.1.1) → (cnd (decide (s2.1.1 < (((List.length c.2.1) : Nat) : Int))) (joinW (S := (Unit × Unit)) (fun s3 => ((inK IntKind.i64 (s2.1.1 + (1 : Int))) ∧ (next2 (((s2.1.1 + (1 : Int)), ()), ())))) (fun k => (((0 : Int) ≤ s1.1.1) ∧ ((s1.1.1 < (((List.length c.2.2.1) : Nat) : Int)) ∧ (((0 : Int) ≤ s2.1.1) ∧ ((s2.1.1 < (((List.length c.2.1) : Nat) : Int)) ∧ (cnd ((List.getD c.2.2.1 (Int.toNat s1.1.1) (0 : Int)) != (List.getD c.2.1 (Int.toNat s2.1.1) (0 : Int))) (k ((), ())) (loopW (S := ((Int × Unit) × Unit)) (fun s3 => (fun next3 => ((inK IntKind.i64 s3.1.1) → (cnd (decide (s3.1.1 < (((List.length c.2.1) : Nat) : Int))) (((0 : Int) ≤ s2.1.1) ∧ ((s2.1.1 < (((List.length c.2.2.1) : Nat) : Int)) ∧ (((0 : Int) ≤ s3.1.1) ∧ ((s3.1.1 < (((List.length c.2.1) : Nat) : Int)) ∧ (((((List.getD c.2.2.1 (Int.toNat s2.1.1) (0 : Int)) == (List.getD c.2.1 (Int.toNat s3.1.1) (0 : Int))) = Bool.true) → ((s1.1.1 < (((List.length c.2.2.2.2) : Nat) : Int)) ∧ ((0 : Int) ≤ s1.1.1))) ∧ (((((List.getD c.2.2.1 (Int.toNat s2.1.1) (0 : Int)) == (List.getD c.2.1 (Int.toNat s3.1.1) (0 : Int))) = Bool.true) → ((s2.1.1 < (((List.length (List.getD c.2.2.2.2 (Int.toNat s1.1.1) ([] : List Int))) : Nat) : Int)) ∧ ((0 : Int) ≤ s2.1.1))) ∧ (((((List.getD c.2.2.1 (Int.toNat s2.1.1) (0 : Int)) == (List.getD c.2.1 (Int.toNat s3.1.1) (0 : Int))) = Bool.true) → (((List.getD (List.getD c.2.2.2.2 (Int.toNat s1.1.1) ([] : List Int)) (Int.toNat s2.1.1) (0 : Int)) < (((List.length c.2.2.2.2) : Nat) : Int)) ∧ ((0 : Int) ≤ (List.getD (List.getD c.2.2.2.2 (Int.toNat s1.1.1) ([] : List Int)) (Int.toNat s2.1.1) (0 : Int))))) ∧ (((((List.getD c.2.2.1 (Int.toNat s2.1.1) (0 : Int)) == (List.getD c.2.1 (Int.toNat s3.1.1) (0 : Int))) = Bool.true) → ((s3.1.1 < (((List.length (List.getD c.2.2.2.2 (Int.toNat (List.getD (List.getD c.2.2.2.2 (Int.toNat s1.1.1) ([] : List Int)) (Int.toNat s2.1.1) (0 : Int))) ([] : List Int))) : Nat) : Int)) ∧ ((0 : Int) ≤ s3.1.1))) ∧ (((((List.getD c.2.2.1 (Int.toNat s2.1.1) (0 : Int)) == (List.getD c.2.1 (Int.toNat s3.1.1) (0 : Int))) = Bool.true) → ((s1.1.1 < (((List.length c.2.2.2.2) : Nat) : Int)) ∧ ((0 : Int) ≤ s1.1.1))) ∧ (((((List.getD c.2.2.1 (Int.toNat s2.1.1) (0 : Int)) == (List.getD c.2.1 (Int.toNat s3.1.1) (0 : Int))) = Bool.true) → ((s2.1.1 < (((List.length c.2.2.2.2) : Nat) : Int)) ∧ ((0 : Int) ≤ s2.1.1))) ∧ (((((List.getD c.2.2.1 (Int.toNat s2.1.1) (0 : Int)) == (List.getD c.2.1 (Int.toNat s3.1.1) (0 : Int))) = Bool.true) → ((s3.1.1 < (((List.length (List.getD c.2.2.2.2 (Int.toNat s2.1.1) ([] : List Int))) : Nat) : Int)) ∧ ((0 : Int) ≤ s3.1.1))) ∧ (((((List.getD c.2.2.1 (Int.toNat s2.1.1) (0 : Int)) == (List.getD c.2.1 (Int.toNat s3.1.1) (0 : Int))) = Bool.true) → (((List.getD (List.getD c.2.2.2.2 (Int.toNat s2.1.1) ([] : List Int)) (Int.toNat s3.1.1) (0 : Int)) < (((List.length (List.getD c.2.2.2.2 (Int.toNat s1.1.1) ([] : List Int))) : Nat) : Int)) ∧ ((0 : Int) ≤ (List.getD (List.getD c.2.2.2.2 (Int.toNat s2.1.1) ([] : List Int)) (Int.toNat s3.1.1) (0 : Int))))) ∧ (cnd (((List.getD c.2.2.1 (Int.toNat s2.1.1) (0 : Int)) == (List.getD c.2.1 (Int.toNat s3.1.1) (0 : Int))) && ((List.getD (List.getD c.2.2.2.2 (Int.toNat (List.getD (List.getD c.2.2.2.2 (Int.toNat s1.1.1) ([] : List Int)) (Int.toNat s2.1.1) (0 : Int))) ([] : List Int)) (Int.toNat s3.1.1) (0 : Int)) != (List.getD (List.getD c.2.2.2.2 (Int.toNat s1.1.1) ([] : List Int)) (Int.toNat (List.getD (List.getD c.2.2.2.2 (Int.toNat s2.1.1) ([] : List Int)) (Int.toNat s3.1.1) (0 : Int))) (0 : Int)))) (K ((2 : Int), (s1.1.1, (s2.1.1, (s3.1.1, ()))))) ((inK IntKind.i64 (s3.1.1 + (1 : Int))) ∧ (next3 (((s3.1.1 + (1 : Int)), ()), ())))))))))))))))) (k ((), ())))))) (((0 : Int), ()), ()))))))))) ((inK IntKind.i64 (s1.1.1 + (1 : Int))) ∧ (next1 (((s1.1.1 + (1 : Int)), ()), ()))))))) (((0 : Int), ()), ())) (K ((0 : Int), ((0 : Int), ((0 : Int), ((0 : Int), ()))))))))) (((0 : Int), ()), ())))))) (((0 : Int), ()), ()))
theorem w_spec_l02Fault (x : denL c_spec_l02Fault.args) (K : Int × Int × Int × Int × Unit → Prop) : evF tab (lkp []) (cutL [(17, 44), (5, 38), (13, 11)]) Tryz.f97 (bodyOf Tryz.f97) (.s .n (.s .n (.s (.s .n (.l [(7, (.d (.int .i64)))] [] [1, 6] .n)) (.s (.s .n (.l [(8, (.d (.int .i64)))] [] [1, 6] (.s .n (.s (.s .n (.l [(9, (.d (.int .i64)))] [] [1, 6, 8] (.s .n (.s (.j [] [] [1, 6, 8, 9] (.s .n (.s .n (.l [(10, (.d (.int .i64)))] [] [1, 6, 8, 9] .n)))) .n)))) .n)))) .n)))) c_spec_l02Fault x K = W_spec_l02Fault x.1 K := by kernel_rfl
theorem k_spec_l02Fault : okC Tryz.f97.ntmps (cutL [(17, 44), (5, 38), (13, 11)]) (bodyOf Tryz.f97) = true := by kernel_rfl
theorem m_spec_l02Fault (c : CategoryD) (hok : allP (okL c_spec_l02Fault.args (c, ()))) (hpre : allP (c_spec_l02Fault.pre (c, ()))) : W_spec_l02Fault c (fun r => r = c_spec_l02Fault.res (c, ())) := by
  simp only [c_spec_l02Fault, okL, T.oks, T.ok, ap, allP, true_and, and_true, implies_true] at hok hpre
  try dsimp only [T.den] at hok
  try dsimp only [T.den] at hpre
  unfold W_spec_l02Fault
  have S : ShapeP c := hpre
  have hlt := S.lt
  have hli := S.li
  have hlc := S.lc
  have hmm := S.m
  have resq : ∀ a b d e, faultR c = (a, b, d, e) → (a, b, d, e, ()) = c_spec_l02Fault.res (c, ()) := fun a b d e h => by simp only [c_spec_l02Fault, h]
  have hcr : ∀ f g : Int, (c.2.2.2.2.getD f.toNat []).getD g.toNat 0 = compR c f g := fun _ _ => rfl
  simp only [hcr]
  refine loop_ix (n := c.2.1.length) (fun f => scanR (faultI c) c.2.1.length 0 = scanR (faultI c) ((c.2.1.length : Int) - f).toNat f) (by omega) scan_0 ?_ ?_
  · intro f next h0 h1 hP hn hin
    try dsimp only
    obtain ⟨a1, a2, a3, a4⟩ := S.frm h0 h1
    obtain ⟨b1, b2, _, _⟩ := S.idn a1 a2
    obtain ⟨d1, d2, _, _⟩ := S.idn a3 a4
    have r1 := S.row _ b1 b2
    have r2 := S.row f h0 h1
    refine cnd_d (fun _ => ⟨h0, h1, by omega, by omega, by omega, by omega, h0, by omega, fun _ => by omega, fun _ => by omega, fun _ => by omega, fun _ => by omega, cnd_of (fun hx => resq _ _ _ _ ?_) (fun hx => ⟨by rw [inK64]; (try dsimp only); omega, hn ?_⟩)⟩) (fun h => absurd h1 h)
    · have : faultI c f = some (1, f, 0, 0) := by unfold faultI; rw [if_pos]; simpa using hx
      unfold faultR; rw [hP, scan_s h1 this]; rfl
    · have : faultI c f = none := by unfold faultI; rw [if_neg]; simpa using hx
      rw [hP, scan_c h1 this]
  intro next hI hin
  rw [scan_n] at hI
  refine cnd_d (fun h => absurd h (by dsimp only; omega)) (fun _ => ?_)
  have hF : faultR c = orR (scanR (faultF c) c.2.1.length 0) (0, 0, 0, 0) := by unfold faultR; rw [hI]; rfl
  refine loop_ix (n := c.2.1.length) (fun f => scanR (faultF c) c.2.1.length 0 = scanR (faultF c) ((c.2.1.length : Int) - f).toNat f) (by omega) scan_0 ?_ ?_
  · intro f next h0 h1 hP hn hin
    try dsimp only
    refine cnd_d (fun _ => ?_) (fun h => absurd h1 h)
    have r1 := S.row f h0 h1
    refine loop_ix (n := c.2.1.length) (fun g => faultF c f = scanR (faultG c f) ((c.2.1.length : Int) - g).toNat g) (by omega) scan_0 ?_ ?_
    · intro g next3 g0 g1 hP3 hn3 hin3
      try dsimp only
      refine cnd_d (fun _ => ?_) (fun h => absurd g1 h)
      have r2 := S.row g g0 g1
      refine join_of (fun _ => faultG c f g = none) (fun _ hG => ⟨by rw [inK64]; (try dsimp only); omega, hn3 (by rw [hP3, scan_c g1 hG])⟩) (fun k hk => ?_)
      have hk' := hk ((), ())
      refine ⟨by omega, by omega, by omega, by omega, cnd_of (fun hx => hk' ?_) (fun hx => ?_)⟩
      · unfold faultG; rw [if_neg]; simpa using hx
      have hfg : c.2.2.1.getD f.toNat 0 = c.2.1.getD g.toNat 0 := by rw [bne_eq_false_iff_eq] at hx; exact hx
      obtain ⟨y1, y2, _, _⟩ := S.yes h0 h1 g0 g1 hfg
      refine loop_ix (n := c.2.1.length) (fun h => faultG c f g = scanR (faultH c f g) ((c.2.1.length : Int) - h).toNat h) (by omega) (by unfold faultG; rw [if_pos hfg]; exact scan_0) ?_ ?_
      · intro h next4 i0 i1 hP4 hn4 hin4
        try dsimp only
        refine cnd_d (fun _ => ?_) (fun h => absurd i1 h)
        have r3 := S.row _ y1 y2
        have cgh := S.comp g0 g1 i0 i1
        have ygh := @ShapeP.yes c S g h g0 g1 i0 i1
        refine ⟨by omega, by omega, by omega, by omega, fun _ => by omega, fun _ => by omega, fun _ => by omega, fun _ => by omega, fun _ => by omega, fun _ => by omega, fun _ => by omega, fun he => ?_, cnd_of (fun hx => resq _ _ _ _ ?_) (fun hx => ⟨by rw [inK64]; (try dsimp only); omega, hn4 ?_⟩)⟩
        · have := ygh (by simpa only [beq_iff_eq] using he); omega
        · have : faultH c f g h = some (2, f, g, h) := by unfold faultH; rw [if_pos]; simpa using hx
          have e1 : faultG c f g = some (2, f, g, h) := by rw [hP4, scan_s i1 this]
          have e2 : faultF c f = some (2, f, g, h) := by rw [hP3, scan_s g1 e1]
          rw [hF, hP, scan_s h1 e2]; rfl
        · have : faultH c f g h = none := by unfold faultH; rw [if_neg]; simpa using hx
          rw [hP4, scan_c i1 this]
      · intro next4 hP4 hin4
        rw [scan_n] at hP4
        exact cnd_d (fun h => absurd h (by dsimp only; omega)) (fun _ => hk' hP4)
    · intro next3 hP3 hin3
      rw [scan_n] at hP3
      exact cnd_d (fun h => absurd h (by dsimp only; omega)) (fun _ => ⟨by rw [inK64]; (try dsimp only); omega, hn (by rw [hP, scan_c h1 hP3])⟩)
  · intro next2 hP2 hin2
    rw [scan_n] at hP2
    refine cnd_d (fun h => absurd h (by dsimp only; omega)) (fun _ => resq _ _ _ _ ?_)
    rw [hF, hP2]; rfl
theorem ct_spec_l02Fault : CtOk Tryz.prog 97 c_spec_l02Fault :=
  ct_by (Φ := lkp []) good_nil tab_ok (by kernel_rfl) (fn := Tryz.f97) (c := bodyOf Tryz.f97) (by kernel_rfl) (by kernel_rfl) (by kernel_rfl) c_spec_l02Fault rfl (.s .n (.s .n (.s (.s .n (.l [(7, (.d (.int .i64)))] [] [1, 6] .n)) (.s (.s .n (.l [(8, (.d (.int .i64)))] [] [1, 6] (.s .n (.s (.s .n (.l [(9, (.d (.int .i64)))] [] [1, 6, 8] (.s .n (.s (.j [] [] [1, 6, 8, 9] (.s .n (.s .n (.l [(10, (.d (.int .i64)))] [] [1, 6, 8, 9] .n)))) .n)))) .n)))) .n)))) (cutL [(17, 44), (5, 38), (13, 11)]) (by kernel_rfl) (by kernel_rfl) k_spec_l02Fault (by decide) (fun x K => W_spec_l02Fault x.1 K) w_spec_l02Fault (fun x h1 h2 => m_spec_l02Fault x.1 h1 h2)
def c_spec_l02Is : Ct := ⟨[CategoryT], [true], fun x => [], [(false, (.fz .bool))], fun x => (catR x.1, ()), false, none⟩
def W_spec_l02Is (c : CategoryD) (K : Bool × Unit → Prop) : Prop := (cnd (!(shapeR c)) (K (Bool.false, ())) ((ShapeP c) ∧ (K (((faultR c).1 == (0 : Int)), ()))))
theorem w_spec_l02Is (x : denL c_spec_l02Is.args) (K : Bool × Unit → Prop) : evF tab (lkp [(96, c_spec_IsShape), (97, c_spec_l02Fault)]) (cutL []) Tryz.f86 (bodyOf Tryz.f86) .n c_spec_l02Is x K = W_spec_l02Is x.1 K := by kernel_rfl
theorem k_spec_l02Is : okC Tryz.f86.ntmps (cutL []) (bodyOf Tryz.f86) = true := by kernel_rfl
theorem m_spec_l02Is (c : CategoryD) (hok : allP (okL c_spec_l02Is.args (c, ()))) (hpre : allP (c_spec_l02Is.pre (c, ()))) : W_spec_l02Is c (fun r => r = c_spec_l02Is.res (c, ())) := by
  simp only [c_spec_l02Is, okL, T.oks, T.ok, ap, allP, true_and, and_true, implies_true] at hok hpre
  try dsimp only [T.den] at hok
  try dsimp only [T.den] at hpre
  unfold W_spec_l02Is
  simp only [c_spec_l02Is, catR]
  have := @shape_iff c
  grind [cnd, nb_eq, inK64]
theorem ct_spec_l02Is : CtOk Tryz.prog 86 c_spec_l02Is :=
  ct_by (Φ := lkp [(96, c_spec_IsShape), (97, c_spec_l02Fault)]) (good_cons ct_spec_IsShape (good_cons ct_spec_l02Fault good_nil)) tab_ok (by kernel_rfl) (fn := Tryz.f86) (c := bodyOf Tryz.f86) (by kernel_rfl) (by kernel_rfl) (by kernel_rfl) c_spec_l02Is rfl .n (cutL []) (by kernel_rfl) (by kernel_rfl) k_spec_l02Is (by decide) (fun x K => W_spec_l02Is x.1 K) w_spec_l02Is (fun x h1 h2 => m_spec_l02Is x.1 h1 h2)
def c_spec_l19Shape : Ct := ⟨[SetFunctorT], [true], fun x => [], [(false, (.fz .bool))], fun x => (sfShapeR x.1, ()), false, none⟩
def W_spec_l19Shape (f : SetFunctorD) (K : Bool × Unit → Prop) : Prop := (cnd (((!(catR f.1)) || ((((List.length f.2.1) : Nat) : Int) != f.1.1)) || ((((List.length f.2.2) : Nat) : Int) != (((List.length f.1.2.1) : Nat) : Int))) (K (Bool.false, ())) (loopW (S := ((Int × Unit) × Unit)) (fun s => (fun next => ((inK IntKind.i64 s.1.1) → (cnd (decide (s.1.1 < (((List.length f.2.1) : Nat) : Int))) (((0 : Int) ≤ s.1.1) ∧ ((s.1.1 < (((List.length f.2.1) : Nat) : Int)) ∧ (cnd (!(inR (List.getD f.2.1 (Int.toNat s.1.1) (0 : Int)) (0 : Int) (16 : Int))) (K (Bool.false, ())) ((inK IntKind.i64 (s.1.1 + (1 : Int))) ∧ (next (((s.1.1 + (1 : Int)), ()), ())))))) (loopW (S := ((Int × Unit) × Unit)) (fun s1 => (fun next1 => ((inK IntKind.i64 s1.1.1) → (cnd (decide (s1.1.1 < (((List.length f.2.2) : Nat) : Int))) (((0 : Int) ≤ s1.1.1) ∧ ((s1.1.1 < (((List.length f.2.2) : Nat) : Int)) ∧ (((0 : Int) ≤ s1.1.1) ∧ ((s1.1.1 < (((List.length f.1.2.1) : Nat) : Int)) ∧ (((0 : Int) ≤ (List.getD f.1.2.1 (Int.toNat s1.1.1) (0 : Int))) ∧ (((List.getD f.1.2.1 (Int.toNat s1.1.1) (0 : Int)) < (((List.length f.2.1) : Nat) : Int)) ∧ (((((((List.length (List.getD f.2.2 (Int.toNat s1.1.1) ([] : List Int))) : Nat) : Int) != (List.getD f.2.1 (Int.toNat (List.getD f.1.2.1 (Int.toNat s1.1.1) (0 : Int))) (0 : Int))) = Bool.false) → ((s1.1.1 < (((List.length f.1.2.2.1) : Nat) : Int)) ∧ ((0 : Int) ≤ s1.1.1))) ∧ (((((((List.length (List.getD f.2.2 (Int.toNat s1.1.1) ([] : List Int))) : Nat) : Int) != (List.getD f.2.1 (Int.toNat (List.getD f.1.2.1 (Int.toNat s1.1.1) (0 : Int))) (0 : Int))) = Bool.false) → (((List.getD f.1.2.2.1 (Int.toNat s1.1.1) (0 : Int)) < (((List.length f.2.1) : Nat) : Int)) ∧ ((0 : Int) ≤ (List.getD f.1.2.2.1 (Int.toNat s1.1.1) (0 : Int))))) ∧ (((((((List.length (List.getD f.2.2 (Int.toNat s1.1.1) ([] : List Int))) : Nat) : Int) != (List.getD f.2.1 (Int.toNat (List.getD f.1.2.1 (Int.toNat s1.1.1) (0 : Int))) (0 : Int))) = Bool.false) → ((s1.1.1 < (((List.length f.2.2) : Nat) : Int)) ∧ ((0 : Int) ≤ s1.1.1))) ∧ (cnd (((((List.length (List.getD f.2.2 (Int.toNat s1.1.1) ([] : List Int))) : Nat) : Int) != (List.getD f.2.1 (Int.toNat (List.getD f.1.2.1 (Int.toNat s1.1.1) (0 : Int))) (0 : Int))) || (!(withinR (List.getD f.2.2 (Int.toNat s1.1.1) ([] : List Int)) (List.getD f.2.1 (Int.toNat (List.getD f.1.2.2.1 (Int.toNat s1.1.1) (0 : Int))) (0 : Int))))) (K (Bool.false, ())) ((inK IntKind.i64 (s1.1.1 + (1 : Int))) ∧ (next1 (((s1.1.1 + (1 : Int)), ()), ()))))))))))))) (K (Bool.true, ())))))) (((0 : Int), ()), ())))))) (((0 : Int), ()), ())))
theorem w_spec_l19Shape (x : denL c_spec_l19Shape.args) (K : Bool × Unit → Prop) : evF tab (lkp [(43, c_spec_l01In), (49, c_spec_l01Map), (86, c_spec_l02Is)]) (cutL [(11, 36)]) Tryz.f68 (bodyOf Tryz.f68) (.s .n (.s .n (.s (.s .n (.l [(3, (.d (.int .i64)))] [] [1] .n)) (.s (.s .n (.l [(4, (.d (.int .i64)))] [] [1] .n)) .n)))) c_spec_l19Shape x K = W_spec_l19Shape x.1 K := by kernel_rfl
theorem k_spec_l19Shape : okC Tryz.f68.ntmps (cutL [(11, 36)]) (bodyOf Tryz.f68) = true := by kernel_rfl
theorem m_spec_l19Shape (f : SetFunctorD) (hok : allP (okL c_spec_l19Shape.args (f, ()))) (hpre : allP (c_spec_l19Shape.pre (f, ()))) : W_spec_l19Shape f (fun r => r = c_spec_l19Shape.res (f, ())) := by
  simp only [c_spec_l19Shape, okL, T.oks, T.ok, ap, allP, true_and, and_true, implies_true] at hok hpre
  try dsimp only [T.den] at hok
  try dsimp only [T.den] at hpre
  unfold W_spec_l19Shape
  have hv : sfShapeR f = (catR f.1 && decide ((f.2.1.length : Int) = f.1.1) && withinR f.2.1 17 && decide (f.2.2.length = f.1.2.1.length) && allB f.2.2.length (sfActR f)) := rfl
  have res : ∀ b, sfShapeR f = b → (b, ()) = c_spec_l19Shape.res (f, ()) := fun b h => by simp only [c_spec_l19Shape, h]
  refine cnd_of (fun hc => res _ ?_) (fun hc => ?_)
  · rw [hv]; revert hc
    cases catR f.1 <;> simp
    omega
  simp only [Bool.or_eq_false_iff, Bool.not_eq_false', bne_eq_false_iff_eq] at hc
  obtain ⟨⟨h1, h2⟩, h4⟩ := hc
  have h4' : f.2.2.length = f.1.2.1.length := by omega
  have hw : withinR f.2.1 17 = f.2.1.all fun y => inR y 0 16 := rfl
  rw [h1, decide_eq_true h2, hw, decide_eq_true h4'] at hv
  simp only [Bool.true_and, Bool.and_true] at hv
  have S := cat_shape h1
  have hlt := S.lt
  have hm := S.m
  have hob := S.ob
  refine loop_all f.2.1 0 (fun y => inR y 0 16) ?_ ?_
  · intro x next x0 x1 hno hyes _
    try dsimp only
    refine cnd_d (fun _ => ⟨x0, x1, cnd_of (fun hx => res _ ?_) (fun hx => ⟨by rw [inK64]; (try dsimp only); omega, hyes ?_⟩)⟩) (fun h => absurd x1 h)
    · rw [hv, hno (by simpa using hx)]; rfl
    · simpa using hx
  intro next h _
  refine cnd_d (fun h => absurd h (Int.lt_irrefl _)) (fun _ => ?_)
  rw [h, Bool.true_and] at hv
  rw [← hw] at h
  refine loop_allB f.2.2.length (sfActR f) ?_ ?_
  · intro a next a0 a1 hno hyes _
    try dsimp only
    obtain ⟨k1, k2, k3, k4⟩ := S.frm a0 (by omega)
    have hz := within_iff.1 h _ k3 (by omega)
    refine cnd_d (fun _ => ⟨a0, a1, a0, by omega, k1, by omega, fun _ => by omega, fun _ => by omega, fun _ => by omega, cnd_of (fun hx => res _ ?_) (fun hx => ⟨by rw [inK64]; (try dsimp only); omega, hyes ?_⟩)⟩) (fun h => absurd a1 h)
    · rw [hv]; refine hno ?_; unfold sfActR; revert hx; cases withinR (f.2.2.getD a.toNat []) (f.2.1.getD (f.1.2.2.1.getD a.toNat 0).toNat 0) <;> simp
    · unfold sfActR; revert hx; cases withinR (f.2.2.getD a.toNat []) (f.2.1.getD (f.1.2.2.1.getD a.toNat 0).toNat 0) <;> simp
  · intro next h _
    exact cnd_d (fun h => absurd h (Int.lt_irrefl _)) (fun _ => res _ (by rw [hv, h]))
theorem ct_spec_l19Shape : CtOk Tryz.prog 68 c_spec_l19Shape :=
  ct_by (Φ := lkp [(43, c_spec_l01In), (49, c_spec_l01Map), (86, c_spec_l02Is)]) (good_cons ct_spec_l01In (good_cons ct_spec_l01Map (good_cons ct_spec_l02Is good_nil))) tab_ok (by kernel_rfl) (fn := Tryz.f68) (c := bodyOf Tryz.f68) (by kernel_rfl) (by kernel_rfl) (by kernel_rfl) c_spec_l19Shape rfl (.s .n (.s .n (.s (.s .n (.l [(3, (.d (.int .i64)))] [] [1] .n)) (.s (.s .n (.l [(4, (.d (.int .i64)))] [] [1] .n)) .n)))) (cutL [(11, 36)]) (by kernel_rfl) (by kernel_rfl) k_spec_l19Shape (by decide) (fun x K => W_spec_l19Shape x.1 K) w_spec_l19Shape (fun x h1 h2 => m_spec_l19Shape x.1 h1 h2)
def c_spec_l19Is : Ct := ⟨[SetFunctorT], [true], fun x => [], [(false, (.fz .bool))], fun x => (setfR x.1, ()), false, none⟩
def W_spec_l19Is (f : SetFunctorD) (K : Bool × Unit → Prop) : Prop := (cnd (!(sfShapeR f)) (K (Bool.false, ())) ((SfP f) ∧ (K (((sfFaultR f).1 == (0 : Int)), ()))))
theorem w_spec_l19Is (x : denL c_spec_l19Is.args) (K : Bool × Unit → Prop) : evF tab (lkp [(69, c_spec_l19Fault), (68, c_spec_l19Shape)]) (cutL []) Tryz.f44 (bodyOf Tryz.f44) .n c_spec_l19Is x K = W_spec_l19Is x.1 K := by kernel_rfl
theorem k_spec_l19Is : okC Tryz.f44.ntmps (cutL []) (bodyOf Tryz.f44) = true := by kernel_rfl
theorem m_spec_l19Is (f : SetFunctorD) (hok : allP (okL c_spec_l19Is.args (f, ()))) (hpre : allP (c_spec_l19Is.pre (f, ()))) : W_spec_l19Is f (fun r => r = c_spec_l19Is.res (f, ())) := by
  simp only [c_spec_l19Is, okL, T.oks, T.ok, ap, allP, true_and, and_true, implies_true] at hok hpre
  try dsimp only [T.den] at hok
  try dsimp only [T.den] at hpre
  unfold W_spec_l19Is
  have h1 := @sf_iff f
  simp only [c_spec_l19Is, setfR]
  grind [cnd, nb_eq, inK64]
theorem ct_spec_l19Is : CtOk Tryz.prog 44 c_spec_l19Is :=
  ct_by (Φ := lkp [(69, c_spec_l19Fault), (68, c_spec_l19Shape)]) (good_cons ct_spec_l19Fault (good_cons ct_spec_l19Shape good_nil)) tab_ok (by kernel_rfl) (fn := Tryz.f44) (c := bodyOf Tryz.f44) (by kernel_rfl) (by kernel_rfl) (by kernel_rfl) c_spec_l19Is rfl .n (cutL []) (by kernel_rfl) (by kernel_rfl) k_spec_l19Is (by decide) (fun x K => W_spec_l19Is x.1 K) w_spec_l19Is (fun x h1 h2 => m_spec_l19Is x.1 h1 h2)
def c_spec_l01Has : Ct := ⟨[(.sl (.int .i64)), (.int .i64)], [false, false], fun x => [], [(false, (.fz .bool))], fun x => (hasR x.1 x.2.1, ()), false, none⟩
def W_spec_l01Has (list : List Int) (n : Int) (K : Bool × Unit → Prop) : Prop := (loopW (S := ((Int × Unit) × Unit)) (fun s => (fun next => ((inK IntKind.i64 s.1.1) → (cnd (decide (s.1.1 < (((List.length list) : Nat) : Int))) (((0 : Int) ≤ s.1.1) ∧ ((s.1.1 < (((List.length list) : Nat) : Int)) ∧ (cnd ((List.getD list (Int.toNat s.1.1) (0 : Int)) == n) (K (Bool.true, ())) ((inK IntKind.i64 (s.1.1 + (1 : Int))) ∧ (next (((s.1.1 + (1 : Int)), ()), ())))))) (K (Bool.false, ())))))) (((0 : Int), ()), ()))
theorem w_spec_l01Has (x : denL c_spec_l01Has.args) (K : Bool × Unit → Prop) : evF tab (lkp []) (cutL []) Tryz.f73 (bodyOf Tryz.f73) (.s .n (.s (.s .n (.l [(5, (.d (.int .i64)))] [] [0, 1] .n)) .n)) c_spec_l01Has x K = W_spec_l01Has x.1 x.2.1 K := by kernel_rfl
theorem k_spec_l01Has : okC Tryz.f73.ntmps (cutL []) (bodyOf Tryz.f73) = true := by kernel_rfl
theorem m_spec_l01Has (list : List Int) (n : Int) (hok : allP (okL c_spec_l01Has.args (list, n, ()))) (hpre : allP (c_spec_l01Has.pre (list, n, ()))) : W_spec_l01Has list n (fun r => r = c_spec_l01Has.res (list, n, ())) := by
  simp only [c_spec_l01Has, okL, T.oks, T.ok, ap, allP, true_and, and_true, implies_true] at hok hpre
  try dsimp only [T.den] at hok
  try dsimp only [T.den] at hpre
  unfold W_spec_l01Has
  refine loop_of (fun (s : ((Int × Unit) × Unit)) => 0 ≤ s.1.1 ∧ s.1.1 ≤ list.length ∧ hasR list n = hasR (list.drop s.1.1.toNat) n) (fun (s : ((Int × Unit) × Unit)) => (list.length - s.1.1).toNat) ?_ (by simp)
  rintro ⟨⟨i, _⟩, _⟩ next ⟨h0, h1, h2⟩ hn hin
  simp only at h0 h1 h2 hn ⊢
  refine cnd_d (fun hc => ?_) (fun hc => ?_)
  · rw [drop_c list 0 h0 hc] at h2
    simp only [hasR, List.any_cons] at h2
    grind [cnd, nb_eq, inK64, c_spec_l01Has, hasR]
  · rw [drop_n list (by omega)] at h2
    grind [cnd, nb_eq, inK64, c_spec_l01Has, hasR]
theorem ct_spec_l01Has : CtOk Tryz.prog 73 c_spec_l01Has :=
  ct_by (Φ := lkp []) good_nil tab_ok (by kernel_rfl) (fn := Tryz.f73) (c := bodyOf Tryz.f73) (by kernel_rfl) (by kernel_rfl) (by kernel_rfl) c_spec_l01Has rfl (.s .n (.s (.s .n (.l [(5, (.d (.int .i64)))] [] [0, 1] .n)) .n)) (cutL []) (by kernel_rfl) (by kernel_rfl) k_spec_l01Has (by decide) (fun x K => W_spec_l01Has x.1 x.2.1 K) w_spec_l01Has (fun x h1 h2 => m_spec_l01Has x.1 x.2.1 h1 h2)
def c_spec_l02Rises : Ct := ⟨[(.sl (.int .i64))], [false], fun x => [], [(false, (.fz .bool))], fun x => (risesR x.1, ()), false, none⟩
def W_spec_l02Rises (list : List Int) (K : Bool × Unit → Prop) : Prop := (loopW (S := ((Int × Unit) × Unit)) (fun s => (fun next => ((inK IntKind.i64 s.1.1) → (cnd (decide (s.1.1 < (((List.length list) : Nat) : Int))) (((0 : Int) ≤ s.1.1) ∧ ((s.1.1 < (((List.length list) : Nat) : Int)) ∧ ((inK IntKind.i64 (s.1.1 - (1 : Int))) ∧ (((0 : Int) ≤ (s.1.1 - (1 : Int))) ∧ (((s.1.1 - (1 : Int)) < (((List.length list) : Nat) : Int)) ∧ (cnd (decide ((List.getD list (Int.toNat s.1.1) (0 : Int)) ≤ (List.getD list (Int.toNat (s.1.1 - (1 : Int))) (0 : Int)))) (K (Bool.false, ())) ((inK IntKind.i64 (s.1.1 + (1 : Int))) ∧ (next (((s.1.1 + (1 : Int)), ()), ()))))))))) (K (Bool.true, ())))))) (((1 : Int), ()), ()))
theorem w_spec_l02Rises (x : denL c_spec_l02Rises.args) (K : Bool × Unit → Prop) : evF tab (lkp []) (cutL [(4, 10)]) Tryz.f71 (bodyOf Tryz.f71) (.s .n (.s (.s .n (.l [(3, (.d (.int .i64)))] [] [0] .n)) .n)) c_spec_l02Rises x K = W_spec_l02Rises x.1 K := by kernel_rfl
theorem k_spec_l02Rises : okC Tryz.f71.ntmps (cutL [(4, 10)]) (bodyOf Tryz.f71) = true := by kernel_rfl
theorem m_spec_l02Rises (list : List Int) (hok : allP (okL c_spec_l02Rises.args (list, ()))) (hpre : allP (c_spec_l02Rises.pre (list, ()))) : W_spec_l02Rises list (fun r => r = c_spec_l02Rises.res (list, ())) := by
  simp only [c_spec_l02Rises, okL, T.oks, T.ok, ap, allP, true_and, and_true, implies_true] at hok hpre
  try dsimp only [T.den] at hok
  try dsimp only [T.den] at hpre
  unfold W_spec_l02Rises
  have bad : ∀ i : Int, 1 ≤ i → i < list.length → list.getD i.toNat 0 ≤ list.getD (i - 1).toNat 0 → (false, ()) = c_spec_l02Rises.res (list, ()) := fun i h1 h2 h3 => by
    simp only [c_spec_l02Rises]
    cases h : risesR list with
    | false => rfl
    | true => have := rises_iff.1 h i h1 h2; omega
  refine loop_of (fun (s : ((Int × Unit) × Unit)) => 1 ≤ s.1.1 ∧ (s.1.1 ≤ list.length ∨ s.1.1 = 1) ∧ ∀ j : Int, 1 ≤ j → j < s.1.1 → list.getD (j - 1).toNat 0 < list.getD j.toNat 0) (fun (s : ((Int × Unit) × Unit)) => (list.length - s.1.1).toNat) ?_ ⟨by simp, by simp, fun j h1 h2 => by dsimp only at h2; omega⟩
  rintro ⟨⟨i, _⟩, _⟩ next ⟨h0, h1, h2⟩ hn hin
  try dsimp only at h0 h1 h2 hn ⊢
  have hin' : inK .i64 i := hin
  rw [inK64] at hin'
  have hl := hok.1
  rw [nb_eq] at hl
  refine cnd_d (fun hc => ⟨by omega, by omega, by rw [inK64]; (try dsimp only); omega, by omega, by omega, cnd_d (fun hx => bad i h0 hc hx) (fun hx => ⟨by rw [inK64]; (try dsimp only); omega, hn _ ⟨by dsimp only; omega, by dsimp only; omega, fun j j0 j1 => ?_⟩ (by dsimp only; omega)⟩)⟩) (fun hc => ?_)
  · by_cases e : j = i
    · rw [e]; omega
    · exact h2 j j0 (by dsimp only at j1; omega)
  · simp only [c_spec_l02Rises]
    rw [rises_iff.2 fun j j0 j1 => h2 j j0 (by omega)]
theorem ct_spec_l02Rises : CtOk Tryz.prog 71 c_spec_l02Rises :=
  ct_by (Φ := lkp []) good_nil tab_ok (by kernel_rfl) (fn := Tryz.f71) (c := bodyOf Tryz.f71) (by kernel_rfl) (by kernel_rfl) (by kernel_rfl) c_spec_l02Rises rfl (.s .n (.s (.s .n (.l [(3, (.d (.int .i64)))] [] [0] .n)) .n)) (cutL [(4, 10)]) (by kernel_rfl) (by kernel_rfl) k_spec_l02Rises (by decide) (fun x K => W_spec_l02Rises x.1 K) w_spec_l02Rises (fun x h1 h2 => m_spec_l02Rises x.1 h1 h2)
def c_spec_l01Total : Ct := ⟨[(.sl (.int .i64))], [false], fun x => [SzP x.1], [(false, (.fz (.int .i64)))], fun x => (prodR x.1, ()), false, none⟩
def W_spec_l01Total (sizes : List Int) (K : Int × Unit → Prop) : Prop := (loopW (S := ((Int × Unit) × Unit)) (fun s => (fun next => ((inK IntKind.i64 s.1.1) → (cnd (decide (s.1.1 < (((List.length sizes) : Nat) : Int))) (((0 : Int) ≤ s.1.1) ∧ ((s.1.1 < (((List.length sizes) : Nat) : Int)) ∧ (cnd ((List.getD sizes (Int.toNat s.1.1) (0 : Int)) == (0 : Int)) (K ((0 : Int), ())) ((inK IntKind.i64 (s.1.1 + (1 : Int))) ∧ (next (((s.1.1 + (1 : Int)), ()), ())))))) (loopW (S := ((Int × (Int × Unit)) × Unit)) (fun s1 => (fun next1 => ((inK IntKind.i64 s1.1.1) → ((inK IntKind.i64 s1.1.2.1) → (cnd (decide (s1.1.2.1 < (((List.length sizes) : Nat) : Int))) (((0 : Int) ≤ s1.1.2.1) ∧ ((s1.1.2.1 < (((List.length sizes) : Nat) : Int)) ∧ (((List.getD sizes (Int.toNat s1.1.2.1) (0 : Int)) ≠ (0 : Int)) ∧ ((inK IntKind.i64 (Int.tdiv (1000000000000 : Int) (List.getD sizes (Int.toNat s1.1.2.1) (0 : Int)))) ∧ (cnd (decide ((Int.tdiv (1000000000000 : Int) (List.getD sizes (Int.toNat s1.1.2.1) (0 : Int))) < s1.1.1)) (K ((-(1 : Int)), ())) (((0 : Int) ≤ s1.1.2.1) ∧ ((s1.1.2.1 < (((List.length sizes) : Nat) : Int)) ∧ ((inK IntKind.i64 (s1.1.1 * (List.getD sizes (Int.toNat s1.1.2.1) (0 : Int)))) ∧ ((inK IntKind.i64 (s1.1.2.1 + (1 : Int))) ∧ (next1 (((s1.1.1 * (List.getD sizes (Int.toNat s1.1.2.1) (0 : Int))), ((s1.1.2.1 + (1 : Int)), ())), ()))))))))))) (K (s1.1.1, ()))))))) (((1 : Int), ((0 : Int), ())), ())))))) (((0 : Int), ()), ()))
theorem w_spec_l01Total (x : denL c_spec_l01Total.args) (K : Int × Unit → Prop) : evF tab (lkp []) (cutL []) Tryz.f87 (bodyOf Tryz.f87) (.s .n (.s (.s .n (.l [(3, (.d (.int .i64)))] [] [0] .n)) (.s .n (.s (.s .n (.l [(4, (.d (.int .i64))), (5, (.d (.int .i64)))] [] [0] .n)) .n)))) c_spec_l01Total x K = W_spec_l01Total x.1 K := by kernel_rfl
theorem k_spec_l01Total : okC Tryz.f87.ntmps (cutL []) (bodyOf Tryz.f87) = true := by kernel_rfl
theorem m_spec_l01Total (sizes : List Int) (hok : allP (okL c_spec_l01Total.args (sizes, ()))) (hpre : allP (c_spec_l01Total.pre (sizes, ()))) : W_spec_l01Total sizes (fun r => r = c_spec_l01Total.res (sizes, ())) := by
  simp only [c_spec_l01Total, okL, T.oks, T.ok, ap, allP, true_and, and_true, implies_true] at hok hpre
  try dsimp only [T.den] at hok
  try dsimp only [T.den] at hpre
  unfold W_spec_l01Total
  have S : SzP sizes := hpre
  clear hok hpre
  have big : ∀ a : Int, 0 < a → a ≤ 16 → 62500000000 ≤ Int.tdiv 1000000000000 a ∧ Int.tdiv 1000000000000 a ≤ 1000000000000 := fun a h1 h2 => by
    have : a = 1 ∨ a = 2 ∨ a = 3 ∨ a = 4 ∨ a = 5 ∨ a = 6 ∨ a = 7 ∨ a = 8 ∨ a = 9 ∨ a = 10 ∨ a = 11 ∨ a = 12 ∨ a = 13 ∨ a = 14 ∨ a = 15 ∨ a = 16 := by omega
    rcases this with rfl | rfl | rfl | rfl | rfl | rfl | rfl | rfl | rfl | rfl | rfl | rfl | rfl | rfl | rfl | rfl <;> decide
  rcases sz_cases S with rfl | ⟨a, rfl, a0, a1⟩ | ⟨a, b, rfl, ⟨a0, a1⟩, b0, b1⟩
  · refine ⟨1, ?_⟩
    simp only [iterW]
    refine fun _ => cnd_d (fun h => absurd h (by simp)) (fun _ => ⟨1, ?_⟩)
    simp [iterW, cnd, c_spec_l01Total, prodR]
  · by_cases ha : a = 0
    · subst ha
      refine ⟨2, ?_⟩
      simp [iterW, cnd, c_spec_l01Total, prodR]
    · have hb := big a (by omega) a1
      refine ⟨2, ?_⟩
      simp only [iterW]
      refine fun _ => cnd_d (fun _ => ⟨by simp, by simp, cnd_of (fun h => absurd h (by simpa using ha)) (fun _ => ⟨by simp [inK64], fun _ => cnd_d (fun h => absurd h (by simp)) (fun _ => ⟨2, ?_⟩)⟩)⟩) (fun h => absurd h (by simp))
      simp [iterW, cnd, inK64, c_spec_l01Total, prodR, ha]
      omega
  · by_cases ha : a = 0
    · subst ha
      refine ⟨2, ?_⟩
      simp [iterW, cnd, c_spec_l01Total, prodR]
    · by_cases hb : b = 0
      · subst hb
        refine ⟨3, ?_⟩
        simp [iterW, cnd, inK64, c_spec_l01Total, prodR]
      · have h1 := big a (by omega) a1
        have h2 := big b (by omega) b1
        have h3 := Int.mul_nonneg a0 b0
        have h4 : a * b ≤ 16 * 16 := Int.mul_le_mul a1 b1 b0 (by omega)
        refine ⟨3, ?_⟩
        simp only [iterW]
        refine fun _ => cnd_d (fun _ => ⟨by simp, by simp, cnd_of (fun h => absurd h (by simpa using ha)) (fun _ => ⟨by simp [inK64], fun _ => cnd_d (fun _ => ⟨by simp, by simp, cnd_of (fun h => absurd h (by simpa using hb)) (fun _ => ⟨by simp [inK64], fun _ => cnd_d (fun h => absurd h (by simp)) (fun _ => ⟨3, ?_⟩)⟩)⟩) (fun h => absurd h (by simp))⟩)⟩) (fun h => absurd h (by simp))
        simp [iterW, cnd, inK64, c_spec_l01Total, prodR, ha, hb]
        omega
theorem ct_spec_l01Total : CtOk Tryz.prog 87 c_spec_l01Total :=
  ct_by (Φ := lkp []) good_nil tab_ok (by kernel_rfl) (fn := Tryz.f87) (c := bodyOf Tryz.f87) (by kernel_rfl) (by kernel_rfl) (by kernel_rfl) c_spec_l01Total rfl (.s .n (.s (.s .n (.l [(3, (.d (.int .i64)))] [] [0] .n)) (.s .n (.s (.s .n (.l [(4, (.d (.int .i64))), (5, (.d (.int .i64)))] [] [0] .n)) .n)))) (cutL []) (by kernel_rfl) (by kernel_rfl) k_spec_l01Total (by decide) (fun x K => W_spec_l01Total x.1 K) w_spec_l01Total (fun x h1 h2 => m_spec_l01Total x.1 h1 h2)
def c_spec_l29Sizes : Ct := ⟨[(.sl SetFunctorT), (.sl (.int .i64)), (.int .i64)], [false, false, false], fun x => [SizP x.1 x.2.1 x.2.2.1], [(false, (.sl (.fz (.int .i64))))], fun x => (sizesR x.1 x.2.1 x.2.2.1, ()), false, none⟩
def W_spec_l29Sizes (sorts : List SetFunctorD) (list : List Int) (x : Int) (K : (List Int) × Unit → Prop) : Prop := (loopW (S := ((Unit × (Int × Unit)) × ((List Int) × Unit))) (fun s => (fun next => ((inK IntKind.i64 s.1.2.1) → ((T.ok (T.sl (T.int IntKind.i64)) s.2.1) → (cnd (decide (s.1.2.1 < (((List.length list) : Nat) : Int))) (((0 : Int) ≤ s.1.2.1) ∧ ((s.1.2.1 < (((List.length list) : Nat) : Int)) ∧ (((0 : Int) ≤ (List.getD list (Int.toNat s.1.2.1) (0 : Int))) ∧ (((List.getD list (Int.toNat s.1.2.1) (0 : Int)) < (((List.length sorts) : Nat) : Int)) ∧ (((0 : Int) ≤ x) ∧ ((x < (((List.length (List.getD sorts (Int.toNat (List.getD list (Int.toNat s.1.2.1) (0 : Int))) (((0 : Int), (([] : List Int), (([] : List Int), (([] : List Int), ([] : List (List Int)))))), (([] : List Int), ([] : List (List Int))))).2.1) : Nat) : Int)) ∧ ((room (List.length s.2.1) (List.length ((List.getD (List.getD sorts (Int.toNat (List.getD list (Int.toNat s.1.2.1) (0 : Int))) (((0 : Int), (([] : List Int), (([] : List Int), (([] : List Int), ([] : List (List Int)))))), (([] : List Int), ([] : List (List Int))))).2.1 (Int.toNat x) (0 : Int)) :: ([] : List Int))) 8) ∧ ((inK IntKind.i64 (s.1.2.1 + (1 : Int))) ∧ (next (((), ((s.1.2.1 + (1 : Int)), ())), ((s.2.1 ++ ((List.getD (List.getD sorts (Int.toNat (List.getD list (Int.toNat s.1.2.1) (0 : Int))) (((0 : Int), (([] : List Int), (([] : List Int), (([] : List Int), ([] : List (List Int)))))), (([] : List Int), ([] : List (List Int))))).2.1 (Int.toNat x) (0 : Int)) :: ([] : List Int))), ()))))))))))) (K (s.2.1, ()))))))) (((), ((0 : Int), ())), (([] : List Int), ())))
theorem w_spec_l29Sizes (x : denL c_spec_l29Sizes.args) (K : (List Int) × Unit → Prop) : evF tab (lkp []) (cutL []) Tryz.f88 (bodyOf Tryz.f88) (.s .n (.s .n (.s (.s .n (.l [(7, (.ref 800007 [])), (8, (.d (.int .i64)))] [(800007, (.sl (.fz (.int .i64))))] [0, 1, 2] .n)) .n))) c_spec_l29Sizes x K = W_spec_l29Sizes x.1 x.2.1 x.2.2.1 K := by kernel_rfl
theorem k_spec_l29Sizes : okC Tryz.f88.ntmps (cutL []) (bodyOf Tryz.f88) = true := by kernel_rfl
theorem m_spec_l29Sizes (sorts : List SetFunctorD) (list : List Int) (x : Int) (hok : allP (okL c_spec_l29Sizes.args (sorts, list, x, ()))) (hpre : allP (c_spec_l29Sizes.pre (sorts, list, x, ()))) : W_spec_l29Sizes sorts list x (fun r => r = c_spec_l29Sizes.res (sorts, list, x, ())) := by
  simp only [c_spec_l29Sizes, okL, T.oks, T.ok, ap, allP, true_and, and_true, implies_true] at hok hpre
  try dsimp only [T.den] at hok
  try dsimp only [T.den] at hpre
  unfold W_spec_l29Sizes
  obtain ⟨hl, hw, x0, hx⟩ := hpre
  have hw := within_iff.1 hw
  clear hok
  refine loop_ixa (fun i => sizesR sorts (list.take i.toNat) x) (n := list.length) (by omega) rfl ?_ ?_
  · intro i next i0 i1 hn _ _
    try dsimp only at hn ⊢
    have h1 := hw i i0 i1
    have h2 := hx _ h1.1 h1.2
    have hs : sizesR sorts (list.take (i + 1).toNat) x = sizesR sorts (list.take i.toNat) x ++ [(sorts.getD (list.getD i.toNat 0).toNat ((0, ([], ([], ([], [])))), ([], []))).2.1.getD x.toNat 0] := by unfold sizesR; rw [take_c list 0 i0 i1, List.map_append]; rfl
    have hln : (sizesR sorts (list.take i.toNat) x).length ≤ list.length := by unfold sizesR; rw [List.length_map, List.length_take]; omega
    rw [hs] at hn
    exact cnd_d (fun _ => ⟨i0, i1, h1.1, h1.2, x0, h2, room_of (by simp only [List.length_cons, List.length_nil]; omega), by rw [inK64]; (try dsimp only); omega, hn⟩) (fun h => absurd i1 h)
  · intro next _ _
    refine cnd_d (fun h => absurd h (Int.lt_irrefl _)) (fun _ => ?_)
    rw [take_n _ (Int.le_refl _)]
    rfl
theorem ct_spec_l29Sizes : CtOk Tryz.prog 88 c_spec_l29Sizes :=
  ct_by (Φ := lkp []) good_nil tab_ok (by kernel_rfl) (fn := Tryz.f88) (c := bodyOf Tryz.f88) (by kernel_rfl) (by kernel_rfl) (by kernel_rfl) c_spec_l29Sizes rfl (.s .n (.s .n (.s (.s .n (.l [(7, (.ref 800007 [])), (8, (.d (.int .i64)))] [(800007, (.sl (.fz (.int .i64))))] [0, 1, 2] .n)) .n))) (cutL []) (by kernel_rfl) (by kernel_rfl) k_spec_l29Sizes (by decide) (fun x K => W_spec_l29Sizes x.1 x.2.1 x.2.2.1 K) w_spec_l29Sizes (fun x h1 h2 => m_spec_l29Sizes x.1 x.2.1 x.2.2.1 h1 h2)
def c_spec_l29Count : Ct := ⟨[(.sl SetFunctorT), (.sl (.int .i64)), (.int .i64)], [false, false, false], fun x => [SizP x.1 x.2.1 x.2.2.1, SzP (sizesR x.1 x.2.1 x.2.2.1)], [(false, (.fz (.int .i64)))], fun x => (prodR (sizesR x.1 x.2.1 x.2.2.1), ()), false, none⟩
def W_spec_l29Count (sorts : List SetFunctorD) (list : List Int) (x : Int) (K : Int × Unit → Prop) : Prop := ((SizP sorts list x) ∧ ((SzP (sizesR sorts list x)) ∧ (K ((prodR (sizesR sorts list x)), ()))))
theorem w_spec_l29Count (x : denL c_spec_l29Count.args) (K : Int × Unit → Prop) : evF tab (lkp [(87, c_spec_l01Total), (88, c_spec_l29Sizes)]) (cutL []) Tryz.f72 (bodyOf Tryz.f72) .n c_spec_l29Count x K = W_spec_l29Count x.1 x.2.1 x.2.2.1 K := by kernel_rfl
theorem k_spec_l29Count : okC Tryz.f72.ntmps (cutL []) (bodyOf Tryz.f72) = true := by kernel_rfl
theorem m_spec_l29Count (sorts : List SetFunctorD) (list : List Int) (x : Int) (hok : allP (okL c_spec_l29Count.args (sorts, list, x, ()))) (hpre : allP (c_spec_l29Count.pre (sorts, list, x, ()))) : W_spec_l29Count sorts list x (fun r => r = c_spec_l29Count.res (sorts, list, x, ())) := by
  simp only [c_spec_l29Count, okL, T.oks, T.ok, ap, allP, true_and, and_true, implies_true] at hok hpre
  try dsimp only [T.den] at hok
  try dsimp only [T.den] at hpre
  unfold W_spec_l29Count
  exact ⟨hpre.1, hpre.2, rfl⟩
theorem ct_spec_l29Count : CtOk Tryz.prog 72 c_spec_l29Count :=
  ct_by (Φ := lkp [(87, c_spec_l01Total), (88, c_spec_l29Sizes)]) (good_cons ct_spec_l01Total (good_cons ct_spec_l29Sizes good_nil)) tab_ok (by kernel_rfl) (fn := Tryz.f72) (c := bodyOf Tryz.f72) (by kernel_rfl) (by kernel_rfl) (by kernel_rfl) c_spec_l29Count rfl .n (cutL []) (by kernel_rfl) (by kernel_rfl) k_spec_l29Count (by decide) (fun x K => W_spec_l29Count x.1 x.2.1 x.2.2.1 K) w_spec_l29Count (fun x h1 h2 => m_spec_l29Count x.1 x.2.1 x.2.2.1 h1 h2)
def c_spec_l01At : Ct := ⟨[(.sl (.int .i64)), (.int .i64)], [false, false], fun x => [SzP x.1, 0 ≤ x.2.1, x.2.1 < prodR x.1], [(false, (.sl (.fz (.int .i64))))], fun x => (tupR x.1 x.2.1, ()), false, none⟩
def W_spec_l01At (sizes : List Int) (number : Int) (K : (List Int) × Unit → Prop) : Prop := (((0 : Int) ≤ (((List.length sizes) : Nat) : Int)) ∧ (((((List.length sizes) : Nat) : Int) ≤ (((List.length sizes) : Nat) : Int)) ∧ (((((List.length sizes) : Nat) : Int) ≤ ((140737488355328 : Nat) : Int)) ∧ ((((((List.length sizes) : Nat) : Int) * ((8 : Nat) : Int)) ≤ ((140737488355328 : Nat) : Int)) ∧ ((inK IntKind.i64 ((((List.length sizes) : Nat) : Int) - (1 : Int))) ∧ (loopW (S := ((Int × (Unit × (Int × Unit))) × ((List Int) × Unit))) (fun s => (fun next => ((inK IntKind.i64 s.1.1) → ((inK IntKind.i64 s.1.2.2.1) → ((T.ok (T.sl (T.int IntKind.i64)) s.2.1) → (cnd (decide ((0 : Int) ≤ s.1.2.2.1)) (((0 : Int) ≤ s.1.2.2.1) ∧ ((s.1.2.2.1 < (((List.length sizes) : Nat) : Int)) ∧ (((List.getD sizes (Int.toNat s.1.2.2.1) (0 : Int)) ≠ (0 : Int)) ∧ ((inK IntKind.i64 (Int.tmod s.1.1 (List.getD sizes (Int.toNat s.1.2.2.1) (0 : Int)))) ∧ (((0 : Int) ≤ s.1.2.2.1) ∧ ((s.1.2.2.1 < (((List.length s.2.1) : Nat) : Int)) ∧ (((0 : Int) ≤ s.1.2.2.1) ∧ ((s.1.2.2.1 < (((List.length sizes) : Nat) : Int)) ∧ (((List.getD sizes (Int.toNat s.1.2.2.1) (0 : Int)) ≠ (0 : Int)) ∧ ((inK IntKind.i64 (Int.tdiv s.1.1 (List.getD sizes (Int.toNat s.1.2.2.1) (0 : Int)))) ∧ ((inK IntKind.i64 (s.1.2.2.1 - (1 : Int))) ∧ (next (((Int.tdiv s.1.1 (List.getD sizes (Int.toNat s.1.2.2.1) (0 : Int))), ((), ((s.1.2.2.1 - (1 : Int)), ()))), ((List.set s.2.1 (Int.toNat s.1.2.2.1) (Int.tmod s.1.1 (List.getD sizes (Int.toNat s.1.2.2.1) (0 : Int)))), ())))))))))))))) (K (s.2.1, ())))))))) ((number, ((), (((((List.length sizes) : Nat) : Int) - (1 : Int)), ()))), ((List.replicate (Int.toNat (((List.length sizes) : Nat) : Int)) (0 : Int)), ()))))))))
theorem w_spec_l01At (x : denL c_spec_l01At.args) (K : (List Int) × Unit → Prop) : evF tab (lkp []) (cutL []) Tryz.f89 (bodyOf Tryz.f89) (.s .n (.s .n (.s (.s .n (.l [(1, (.d (.int .i64))), (5, (.ref 9 [])), (6, (.d (.int .i64)))] [(9, (.sl (.fz (.int .i64))))] [0] .n)) .n))) c_spec_l01At x K = W_spec_l01At x.1 x.2.1 K := by kernel_rfl
theorem k_spec_l01At : okC Tryz.f89.ntmps (cutL []) (bodyOf Tryz.f89) = true := by kernel_rfl
theorem m_spec_l01At (sizes : List Int) (number : Int) (hok : allP (okL c_spec_l01At.args (sizes, number, ()))) (hpre : allP (c_spec_l01At.pre (sizes, number, ()))) : W_spec_l01At sizes number (fun r => r = c_spec_l01At.res (sizes, number, ())) := by
  simp only [c_spec_l01At, okL, T.oks, T.ok, ap, allP, true_and, and_true, implies_true] at hok hpre
  try dsimp only [T.den] at hok
  try dsimp only [T.den] at hpre
  unfold W_spec_l01At
  obtain ⟨S, h0, h1⟩ := hpre
  have hlen := S.len
  clear hok
  refine ⟨by omega, by omega, by omega, by omega, by rw [inK64]; (try dsimp only); omega, ?_⟩
  rcases sz_cases S with rfl | ⟨a, rfl, a0, a1⟩ | ⟨a, b, rfl, ⟨a0, a1⟩, b0, b1⟩
  · refine ⟨1, ?_⟩
    simp [iterW, cnd, c_spec_l01At, tupR, inK64]
  · have hp : number < a := by simpa [prodR] using h1
    have hb : a ≠ 0 := by omega
    have e1 : 0 ≤ number.tmod a ∧ number.tmod a < a := by
      rw [Int.tmod_eq_emod_of_nonneg h0]
      exact ⟨Int.emod_nonneg _ (by omega), Int.emod_lt_of_pos _ (by omega)⟩
    have e2 : 0 ≤ number.tdiv a ∧ number.tdiv a ≤ number := by
      rw [Int.tdiv_eq_ediv_of_nonneg h0]
      exact ⟨Int.ediv_nonneg h0 (by omega), Int.ediv_le_self _ h0⟩
    refine ⟨2, ?_⟩
    simp [iterW, cnd, inK64, c_spec_l01At, tupR, hb]
    omega
  · have hp : number < a * b := by simpa [prodR] using h1
    have hb : 0 < b := by
      rcases Int.lt_or_le 0 b with h | h
      · exact h
      · have : b = 0 := by omega
        subst this; rw [Int.mul_zero] at hp; omega
    have ha : 0 < a := by
      rcases Int.lt_or_le 0 a with h | h
      · exact h
      · have : a = 0 := by omega
        subst this; rw [Int.zero_mul] at hp; omega
    have hb' : b ≠ 0 := by omega
    have ha' : a ≠ 0 := by omega
    have e1 : 0 ≤ number.tmod b ∧ number.tmod b < b := by
      rw [Int.tmod_eq_emod_of_nonneg h0]
      exact ⟨Int.emod_nonneg _ (by omega), Int.emod_lt_of_pos _ (by omega)⟩
    have e2 : 0 ≤ number.tdiv b ∧ number.tdiv b ≤ number := by
      rw [Int.tdiv_eq_ediv_of_nonneg h0]
      exact ⟨Int.ediv_nonneg h0 (by omega), Int.ediv_le_self _ h0⟩
    have e3 : 0 ≤ (number.tdiv b).tmod a ∧ (number.tdiv b).tmod a < a := by
      rw [Int.tmod_eq_emod_of_nonneg e2.1]
      exact ⟨Int.emod_nonneg _ (by omega), Int.emod_lt_of_pos _ (by omega)⟩
    have e4 : 0 ≤ (number.tdiv b).tdiv a ∧ (number.tdiv b).tdiv a ≤ number.tdiv b := by
      rw [Int.tdiv_eq_ediv_of_nonneg e2.1]
      exact ⟨Int.ediv_nonneg e2.1 (by omega), Int.ediv_le_self _ e2.1⟩
    have h2 : a * b ≤ 16 * 16 := Int.mul_le_mul a1 b1 b0 (by omega)
    refine ⟨3, ?_⟩
    simp [iterW, cnd, inK64, c_spec_l01At, tupR, hb', ha']
    omega
theorem ct_spec_l01At : CtOk Tryz.prog 89 c_spec_l01At :=
  ct_by (Φ := lkp []) good_nil tab_ok (by kernel_rfl) (fn := Tryz.f89) (c := bodyOf Tryz.f89) (by kernel_rfl) (by kernel_rfl) (by kernel_rfl) c_spec_l01At rfl (.s .n (.s .n (.s (.s .n (.l [(1, (.d (.int .i64))), (5, (.ref 9 [])), (6, (.d (.int .i64)))] [(9, (.sl (.fz (.int .i64))))] [0] .n)) .n))) (cutL []) (by kernel_rfl) (by kernel_rfl) k_spec_l01At (by decide) (fun x K => W_spec_l01At x.1 x.2.1 K) w_spec_l01At (fun x h1 h2 => m_spec_l01At x.1 x.2.1 h1 h2)
def c_spec_l01Number : Ct := ⟨[(.sl (.int .i64)), (.sl (.int .i64))], [false, false], fun x => [TupP x.1 x.2.1], [(false, (.fz (.int .i64)))], fun x => (numR x.1 x.2.1, ()), false, none⟩
def W_spec_l01Number (sizes : List Int) (tuple : List Int) (K : Int × Unit → Prop) : Prop := (loopW (S := ((Int × (Int × Unit)) × Unit)) (fun s => (fun next => ((inK IntKind.i64 s.1.1) → ((inK IntKind.i64 s.1.2.1) → (cnd (decide (s.1.2.1 < (((List.length tuple) : Nat) : Int))) (((0 : Int) ≤ s.1.2.1) ∧ ((s.1.2.1 < (((List.length sizes) : Nat) : Int)) ∧ ((inK IntKind.i64 (s.1.1 * (List.getD sizes (Int.toNat s.1.2.1) (0 : Int)))) ∧ (((0 : Int) ≤ s.1.2.1) ∧ ((s.1.2.1 < (((List.length tuple) : Nat) : Int)) ∧ ((inK IntKind.i64 ((s.1.1 * (List.getD sizes (Int.toNat s.1.2.1) (0 : Int))) + (List.getD tuple (Int.toNat s.1.2.1) (0 : Int)))) ∧ ((inK IntKind.i64 (s.1.2.1 + (1 : Int))) ∧ (next ((((s.1.1 * (List.getD sizes (Int.toNat s.1.2.1) (0 : Int))) + (List.getD tuple (Int.toNat s.1.2.1) (0 : Int))), ((s.1.2.1 + (1 : Int)), ())), ()))))))))) (K (s.1.1, ()))))))) (((0 : Int), ((0 : Int), ())), ()))
theorem w_spec_l01Number (x : denL c_spec_l01Number.args) (K : Int × Unit → Prop) : evF tab (lkp []) (cutL [(5, 10)]) Tryz.f90 (bodyOf Tryz.f90) (.s .n (.s .n (.s (.s .n (.l [(5, (.d (.int .i64))), (6, (.d (.int .i64)))] [] [0, 1] .n)) .n))) c_spec_l01Number x K = W_spec_l01Number x.1 x.2.1 K := by kernel_rfl
theorem k_spec_l01Number : okC Tryz.f90.ntmps (cutL [(5, 10)]) (bodyOf Tryz.f90) = true := by kernel_rfl
theorem m_spec_l01Number (sizes : List Int) (tuple : List Int) (hok : allP (okL c_spec_l01Number.args (sizes, tuple, ()))) (hpre : allP (c_spec_l01Number.pre (sizes, tuple, ()))) : W_spec_l01Number sizes tuple (fun r => r = c_spec_l01Number.res (sizes, tuple, ())) := by
  simp only [c_spec_l01Number, okL, T.oks, T.ok, ap, allP, true_and, and_true, implies_true] at hok hpre
  try dsimp only [T.den] at hok
  try dsimp only [T.den] at hpre
  unfold W_spec_l01Number
  have T : TupP sizes tuple := hpre
  have S := T.sz
  have hlen := S.len
  have htl := T.len
  have hle := T.le
  clear hok hpre
  rcases sz_cases S with rfl | ⟨a, rfl, a0, a1⟩ | ⟨a, b, rfl, ⟨a0, a1⟩, b0, b1⟩
  · obtain rfl : tuple = [] := List.length_eq_zero_iff.1 htl
    refine ⟨1, ?_⟩
    simp [iterW, cnd, c_spec_l01Number, numR, inK64]
  · obtain ⟨y, rfl⟩ : ∃ y, tuple = [y] := List.length_eq_one_iff.1 htl
    have h1 := hle 0 (by omega) (by simp)
    simp at h1
    refine ⟨2, ?_⟩
    simp [iterW, cnd, inK64, c_spec_l01Number, numR]
    omega
  · obtain ⟨y, z, rfl⟩ : ∃ y z, tuple = [y, z] := by
      match tuple, htl with
      | [y, z], _ => exact ⟨y, z, rfl⟩
    have h1 := hle 0 (by omega) (by simp)
    have h2 := hle 1 (by omega) (by simp)
    simp at h1 h2
    have h3 := Int.mul_nonneg h1.1 b0
    have h4 : y * b ≤ 16 * 16 := Int.mul_le_mul (by omega) b1 b0 (by omega)
    refine ⟨3, ?_⟩
    simp [iterW, cnd, inK64, c_spec_l01Number, numR]
    omega
theorem ct_spec_l01Number : CtOk Tryz.prog 90 c_spec_l01Number :=
  ct_by (Φ := lkp []) good_nil tab_ok (by kernel_rfl) (fn := Tryz.f90) (c := bodyOf Tryz.f90) (by kernel_rfl) (by kernel_rfl) (by kernel_rfl) c_spec_l01Number rfl (.s .n (.s .n (.s (.s .n (.l [(5, (.d (.int .i64))), (6, (.d (.int .i64)))] [] [0, 1] .n)) .n))) (cutL [(5, 10)]) (by kernel_rfl) (by kernel_rfl) k_spec_l01Number (by decide) (fun x K => W_spec_l01Number x.1 x.2.1 K) w_spec_l01Number (fun x h1 h2 => m_spec_l01Number x.1 x.2.1 h1 h2)
def c_spec_l29Move : Ct := ⟨[(.sl SetFunctorT), (.sl (.int .i64)), (.int .i64), (.int .i64)], [false, false, false, false], fun x => [SrtP x.1, MovP x.1 x.2.1 x.2.2.1 x.2.2.2.1], [(false, (.fz (.int .i64)))], fun x => (moveR x.1 x.2.1 x.2.2.1 x.2.2.2.1, ()), false, none⟩
def W_spec_l29Move (sorts : List SetFunctorD) (list : List Int) (a : Int) (number : Int) (K : Int × Unit → Prop) : Prop := (((0 : Int) ≤ (0 : Int)) ∧ (((0 : Int) < (((List.length sorts) : Nat) : Int)) ∧ (((0 : Int) ≤ a) ∧ ((a < (((List.length (List.getD sorts (Int.toNat (0 : Int)) (((0 : Int), (([] : List Int), (([] : List Int), (([] : List Int), ([] : List (List Int)))))), (([] : List Int), ([] : List (List Int))))).1.2.1) : Nat) : Int)) ∧ ((SizP sorts list (List.getD (List.getD sorts (Int.toNat (0 : Int)) (((0 : Int), (([] : List Int), (([] : List Int), (([] : List Int), ([] : List (List Int)))))), (([] : List Int), ([] : List (List Int))))).1.2.1 (Int.toNat a) (0 : Int))) ∧ ((SzP (sizesR sorts list (List.getD (List.getD sorts (Int.toNat (0 : Int)) (((0 : Int), (([] : List Int), (([] : List Int), (([] : List Int), ([] : List (List Int)))))), (([] : List Int), ([] : List (List Int))))).1.2.1 (Int.toNat a) (0 : Int)))) ∧ (((0 : Int) ≤ number) ∧ ((number < (prodR (sizesR sorts list (List.getD (List.getD sorts (Int.toNat (0 : Int)) (((0 : Int), (([] : List Int), (([] : List Int), (([] : List Int), ([] : List (List Int)))))), (([] : List Int), ([] : List (List Int))))).1.2.1 (Int.toNat a) (0 : Int))))) ∧ (loopW (S := ((Unit × (Int × Unit)) × ((List Int) × Unit))) (fun s => (fun next => ((inK IntKind.i64 s.1.2.1) → ((T.ok (T.sl (T.int IntKind.i64)) s.2.1) → (cnd (decide (s.1.2.1 < (((List.length s.2.1) : Nat) : Int))) (((0 : Int) ≤ s.1.2.1) ∧ ((s.1.2.1 < (((List.length list) : Nat) : Int)) ∧ (((0 : Int) ≤ (List.getD list (Int.toNat s.1.2.1) (0 : Int))) ∧ (((List.getD list (Int.toNat s.1.2.1) (0 : Int)) < (((List.length sorts) : Nat) : Int)) ∧ (((0 : Int) ≤ a) ∧ ((a < (((List.length (List.getD sorts (Int.toNat (List.getD list (Int.toNat s.1.2.1) (0 : Int))) (((0 : Int), (([] : List Int), (([] : List Int), (([] : List Int), ([] : List (List Int)))))), (([] : List Int), ([] : List (List Int))))).2.2) : Nat) : Int)) ∧ (((0 : Int) ≤ s.1.2.1) ∧ ((s.1.2.1 < (((List.length s.2.1) : Nat) : Int)) ∧ (((0 : Int) ≤ (List.getD s.2.1 (Int.toNat s.1.2.1) (0 : Int))) ∧ (((List.getD s.2.1 (Int.toNat s.1.2.1) (0 : Int)) < (((List.length (List.getD (List.getD sorts (Int.toNat (List.getD list (Int.toNat s.1.2.1) (0 : Int))) (((0 : Int), (([] : List Int), (([] : List Int), (([] : List Int), ([] : List (List Int)))))), (([] : List Int), ([] : List (List Int))))).2.2 (Int.toNat a) ([] : List Int))) : Nat) : Int)) ∧ (((0 : Int) ≤ s.1.2.1) ∧ ((s.1.2.1 < (((List.length s.2.1) : Nat) : Int)) ∧ ((inK IntKind.i64 (s.1.2.1 + (1 : Int))) ∧ (next (((), ((s.1.2.1 + (1 : Int)), ())), ((List.set s.2.1 (Int.toNat s.1.2.1) (List.getD (List.getD (List.getD sorts (Int.toNat (List.getD list (Int.toNat s.1.2.1) (0 : Int))) (((0 : Int), (([] : List Int), (([] : List Int), (([] : List Int), ([] : List (List Int)))))), (([] : List Int), ([] : List (List Int))))).2.2 (Int.toNat a) ([] : List Int)) (Int.toNat (List.getD s.2.1 (Int.toNat s.1.2.1) (0 : Int))) (0 : Int))), ())))))))))))))))) (((0 : Int) ≤ a) ∧ ((a < (((List.length (List.getD sorts (Int.toNat (0 : Int)) (((0 : Int), (([] : List Int), (([] : List Int), (([] : List Int), ([] : List (List Int)))))), (([] : List Int), ([] : List (List Int))))).1.2.2.1) : Nat) : Int)) ∧ ((SizP sorts list (List.getD (List.getD sorts (Int.toNat (0 : Int)) (((0 : Int), (([] : List Int), (([] : List Int), (([] : List Int), ([] : List (List Int)))))), (([] : List Int), ([] : List (List Int))))).1.2.2.1 (Int.toNat a) (0 : Int))) ∧ ((TupP (sizesR sorts list (List.getD (List.getD sorts (Int.toNat (0 : Int)) (((0 : Int), (([] : List Int), (([] : List Int), (([] : List Int), ([] : List (List Int)))))), (([] : List Int), ([] : List (List Int))))).1.2.2.1 (Int.toNat a) (0 : Int))) s.2.1) ∧ (K ((numR (sizesR sorts list (List.getD (List.getD sorts (Int.toNat (0 : Int)) (((0 : Int), (([] : List Int), (([] : List Int), (([] : List Int), ([] : List (List Int)))))), (([] : List Int), ([] : List (List Int))))).1.2.2.1 (Int.toNat a) (0 : Int))) s.2.1), ()))))))))))) (((), ((0 : Int), ())), ((tupR (sizesR sorts list (List.getD (List.getD sorts (Int.toNat (0 : Int)) (((0 : Int), (([] : List Int), (([] : List Int), (([] : List Int), ([] : List (List Int)))))), (([] : List Int), ([] : List (List Int))))).1.2.1 (Int.toNat a) (0 : Int))) number), ())))))))))))
theorem w_spec_l29Move (x : denL c_spec_l29Move.args) (K : Int × Unit → Prop) : evF tab (lkp [(89, c_spec_l01At), (90, c_spec_l01Number), (88, c_spec_l29Sizes)]) (cutL [(6, 19)]) Tryz.f74 (bodyOf Tryz.f74) (.s .n (.s .n (.s .n (.s (.s .n (.l [(10, (.ref 102500 [])), (11, (.d (.int .i64)))] [(102500, (.sl (.fz (.int .i64))))] [0, 1, 2, 9] .n)) .n)))) c_spec_l29Move x K = W_spec_l29Move x.1 x.2.1 x.2.2.1 x.2.2.2.1 K := by kernel_rfl
theorem k_spec_l29Move : okC Tryz.f74.ntmps (cutL [(6, 19)]) (bodyOf Tryz.f74) = true := by kernel_rfl
theorem m_spec_l29Move (sorts : List SetFunctorD) (list : List Int) (a : Int) (number : Int) (hok : allP (okL c_spec_l29Move.args (sorts, list, a, number, ()))) (hpre : allP (c_spec_l29Move.pre (sorts, list, a, number, ()))) : W_spec_l29Move sorts list a number (fun r => r = c_spec_l29Move.res (sorts, list, a, number, ())) := by
  simp only [c_spec_l29Move, okL, T.oks, T.ok, ap, allP, true_and, and_true, implies_true] at hok hpre
  try dsimp only [T.den] at hok
  try dsimp only [T.den] at hpre
  unfold W_spec_l29Move
  obtain ⟨H, M⟩ := hpre
  clear hok
  have S := H.shape
  have hlt := S.lt
  have hn0 := H.n0
  have hw := within_iff.1 M.wi
  have hml := M.len
  have a0 := M.a0
  have a1 := M.a1
  obtain ⟨f0, f1, t0, t1⟩ := S.frm a0 a1
  obtain ⟨z1, z2⟩ := H.siz M.len M.wi f0 f1
  obtain ⟨y1, y2⟩ := H.siz M.len M.wi t0 t1
  have hT := tup_ok z2 M.n0 M.n1
  have hM := move_tup H M
  have hlen : (tupR (sizesR sorts list ((shpR sorts).2.1.getD a.toNat 0)) number).length = list.length := by rw [hT.len]; unfold sizesR; rw [List.length_map]
  have hmv : moveR sorts list a number = numR (sizesR sorts list ((shpR sorts).2.2.1.getD a.toNat 0)) (mvR sorts list a (tupR (sizesR sorts list ((shpR sorts).2.1.getD a.toNat 0)) number)) := rfl
  refine ⟨Int.le_refl _, by omega, a0, a1, z1, z2, M.n0, M.n1, ?_⟩
  have hT2 := hT.le
  rw [show (sizesR sorts list ((shpR sorts).2.1.getD a.toNat 0)).length = list.length from by unfold sizesR; rw [List.length_map]] at hT2
  unfold mvR at hmv hM
  change loopW _ (((), ((0 : Int), ())), (tupR (sizesR sorts list ((shpR sorts).2.1.getD a.toNat 0)) number, ()))
  generalize tupR (sizesR sorts list ((shpR sorts).2.1.getD a.toNat 0)) number = t at *
  refine loop_ixa (fun i => tabN list.length fun y => if y < i then actR (sorts.getD (list.getD y.toNat 0).toNat ((0, ([], ([], ([], [])))), ([], []))) a (t.getD y.toNat 0) else t.getD y.toNat 0) (n := list.length) (by omega) ?_ ?_ ?_
  · rw [fill_0, ← hlen, tab_self]
  · intro i next i0 i1 hn _ _
    try dsimp only at hn ⊢
    obtain ⟨w0, w1⟩ := hw i i0 i1
    obtain ⟨g1, g2⟩ := H.sf w0 w1
    have ht := hT2 i i0 i1
    rw [siz_get i0 i1] at ht
    have hgla := g1.la
    have hat := g1.at_ (a := a) (e := t.getD i.toNat 0) a0 (by rw [g2]; exact a1) ht.1 (by rw [g2]; exact ht.2)
    have hgt : (tabN list.length fun y => if y < i then actR (sorts.getD (list.getD y.toNat 0).toNat ((0, ([], ([], ([], [])))), ([], []))) a (t.getD y.toNat 0) else t.getD y.toNat 0).getD i.toNat 0 = t.getD i.toNat 0 := by rw [tabN_get i0 i1, if_neg (Int.lt_irrefl _)]
    rw [← fill_s i0 i1] at hn
    refine cnd_d (fun _ => ⟨i0, i1, w0, w1, a0, by rw [hgla, g2]; exact a1, i0, by rw [tabN_len]; exact i1, by rw [hgt]; exact ht.1, by rw [hgt]; exact hat.1, i0, by rw [tabN_len]; exact i1, by rw [inK64]; (try dsimp only); omega, ?_⟩) (fun h => absurd i1 (by rw [tabN_len] at h; exact h))
    rw [hgt]
    exact hn
  · intro next _ _
    refine cnd_d (fun h => absurd h (by rw [tabN_len]; exact Int.lt_irrefl _)) (fun _ => ⟨a0, by rw [show (((sorts.getD (Int.toNat 0) ((0, ([], ([], ([], [])))), ([], []))).1.2.2.1).length : Int) = ((shpR sorts).2.2.1.length : Int) from rfl]; omega, y1, ?_⟩)
    try dsimp only
    rw [fill_n]
    refine ⟨hM, ?_⟩
    simp only [c_spec_l29Move]
    rw [hmv]
    rfl
theorem ct_spec_l29Move : CtOk Tryz.prog 74 c_spec_l29Move :=
  ct_by (Φ := lkp [(89, c_spec_l01At), (90, c_spec_l01Number), (88, c_spec_l29Sizes)]) (good_cons ct_spec_l01At (good_cons ct_spec_l01Number (good_cons ct_spec_l29Sizes good_nil))) tab_ok (by kernel_rfl) (fn := Tryz.f74) (c := bodyOf Tryz.f74) (by kernel_rfl) (by kernel_rfl) (by kernel_rfl) c_spec_l29Move rfl (.s .n (.s .n (.s .n (.s (.s .n (.l [(10, (.ref 102500 [])), (11, (.d (.int .i64)))] [(102500, (.sl (.fz (.int .i64))))] [0, 1, 2, 9] .n)) .n)))) (cutL [(6, 19)]) (by kernel_rfl) (by kernel_rfl) k_spec_l29Move (by decide) (fun x K => W_spec_l29Move x.1 x.2.1 x.2.2.1 x.2.2.2.1 K) w_spec_l29Move (fun x h1 h2 => m_spec_l29Move x.1 x.2.1 x.2.2.1 x.2.2.2.1 h1 h2)
def c_spec_l29Relation : Ct := ⟨[(.sl SetFunctorT), dataT], [false, true], fun x => [SrtP x.1], [(false, (.fz .bool))], fun x => (relR x.1 x.2.1, ()), false, none⟩
def W_spec_l29Relation (sorts : List SetFunctorD) (r : dataD) (K : Bool × Unit → Prop) : Prop := (((((decide ((2 : Int) < (((List.length r.1) : Nat) : Int))) || (!(withinR r.1 (((List.length sorts) : Nat) : Int)))) = Bool.false) → (((0 : Int) < (((List.length sorts) : Nat) : Int)) ∧ ((0 : Int) ≤ (0 : Int)))) ∧ (cnd (((decide ((2 : Int) < (((List.length r.1) : Nat) : Int))) || (!(withinR r.1 (((List.length sorts) : Nat) : Int)))) || ((((List.length r.2) : Nat) : Int) != (List.getD sorts (Int.toNat (0 : Int)) (((0 : Int), (([] : List Int), (([] : List Int), (([] : List Int), ([] : List (List Int)))))), (([] : List Int), ([] : List (List Int))))).1.1)) (K (Bool.false, ())) (((0 : Int) ≤ (0 : Int)) ∧ (((0 : Int) < (((List.length sorts) : Nat) : Int)) ∧ (loopW (S := ((Int × Unit) × Unit)) (fun s => (fun next => ((inK IntKind.i64 s.1.1) → (cnd (decide (s.1.1 < (List.getD sorts (Int.toNat (0 : Int)) (((0 : Int), (([] : List Int), (([] : List Int), (([] : List Int), ([] : List (List Int)))))), (([] : List Int), ([] : List (List Int))))).1.1)) (((0 : Int) ≤ s.1.1) ∧ ((s.1.1 < (((List.length r.2) : Nat) : Int)) ∧ ((((!(risesR (List.getD r.2 (Int.toNat s.1.1) ([] : List Int)))) = Bool.false) → ((SzP (sizesR sorts r.1 s.1.1)) ∧ (SizP sorts r.1 s.1.1))) ∧ ((((!(risesR (List.getD r.2 (Int.toNat s.1.1) ([] : List Int)))) = Bool.false) → ((s.1.1 < (((List.length r.2) : Nat) : Int)) ∧ ((0 : Int) ≤ s.1.1))) ∧ (cnd ((!(risesR (List.getD r.2 (Int.toNat s.1.1) ([] : List Int)))) || (!(withinR (List.getD r.2 (Int.toNat s.1.1) ([] : List Int)) (prodR (sizesR sorts r.1 s.1.1))))) (K (Bool.false, ())) ((inK IntKind.i64 (s.1.1 + (1 : Int))) ∧ (next (((s.1.1 + (1 : Int)), ()), ())))))))) (loopW (S := ((Int × Unit) × Unit)) (fun s1 => (fun next1 => ((inK IntKind.i64 s1.1.1) → (cnd (decide (s1.1.1 < (((List.length (List.getD sorts (Int.toNat (0 : Int)) (((0 : Int), (([] : List Int), (([] : List Int), (([] : List Int), ([] : List (List Int)))))), (([] : List Int), ([] : List (List Int))))).1.2.1) : Nat) : Int))) (loopW (S := ((Int × Unit) × Unit)) (fun s2 => (fun next2 => ((inK IntKind.i64 s2.1.1) → (((0 : Int) ≤ s1.1.1) ∧ ((s1.1.1 < (((List.length (List.getD sorts (Int.toNat (0 : Int)) (((0 : Int), (([] : List Int), (([] : List Int), (([] : List Int), ([] : List (List Int)))))), (([] : List Int), ([] : List (List Int))))).1.2.1) : Nat) : Int)) ∧ (((0 : Int) ≤ (List.getD (List.getD sorts (Int.toNat (0 : Int)) (((0 : Int), (([] : List Int), (([] : List Int), (([] : List Int), ([] : List (List Int)))))), (([] : List Int), ([] : List (List Int))))).1.2.1 (Int.toNat s1.1.1) (0 : Int))) ∧ (((List.getD (List.getD sorts (Int.toNat (0 : Int)) (((0 : Int), (([] : List Int), (([] : List Int), (([] : List Int), ([] : List (List Int)))))), (([] : List Int), ([] : List (List Int))))).1.2.1 (Int.toNat s1.1.1) (0 : Int)) < (((List.length r.2) : Nat) : Int)) ∧ (cnd (decide (s2.1.1 < (((List.length (List.getD r.2 (Int.toNat (List.getD (List.getD sorts (Int.toNat (0 : Int)) (((0 : Int), (([] : List Int), (([] : List Int), (([] : List Int), ([] : List (List Int)))))), (([] : List Int), ([] : List (List Int))))).1.2.1 (Int.toNat s1.1.1) (0 : Int))) ([] : List Int))) : Nat) : Int))) (((0 : Int) ≤ s1.1.1) ∧ ((s1.1.1 < (((List.length (List.getD sorts (Int.toNat (0 : Int)) (((0 : Int), (([] : List Int), (([] : List Int), (([] : List Int), ([] : List (List Int)))))), (([] : List Int), ([] : List (List Int))))).1.2.2.1) : Nat) : Int)) ∧ (((0 : Int) ≤ (List.getD (List.getD sorts (Int.toNat (0 : Int)) (((0 : Int), (([] : List Int), (([] : List Int), (([] : List Int), ([] : List (List Int)))))), (([] : List Int), ([] : List (List Int))))).1.2.2.1 (Int.toNat s1.1.1) (0 : Int))) ∧ (((List.getD (List.getD sorts (Int.toNat (0 : Int)) (((0 : Int), (([] : List Int), (([] : List Int), (([] : List Int), ([] : List (List Int)))))), (([] : List Int), ([] : List (List Int))))).1.2.2.1 (Int.toNat s1.1.1) (0 : Int)) < (((List.length r.2) : Nat) : Int)) ∧ (((0 : Int) ≤ s1.1.1) ∧ ((s1.1.1 < (((List.length (List.getD sorts (Int.toNat (0 : Int)) (((0 : Int), (([] : List Int), (([] : List Int), (([] : List Int), ([] : List (List Int)))))), (([] : List Int), ([] : List (List Int))))).1.2.1) : Nat) : Int)) ∧ (((0 : Int) ≤ (List.getD (List.getD sorts (Int.toNat (0 : Int)) (((0 : Int), (([] : List Int), (([] : List Int), (([] : List Int), ([] : List (List Int)))))), (([] : List Int), ([] : List (List Int))))).1.2.1 (Int.toNat s1.1.1) (0 : Int))) ∧ (((List.getD (List.getD sorts (Int.toNat (0 : Int)) (((0 : Int), (([] : List Int), (([] : List Int), (([] : List Int), ([] : List (List Int)))))), (([] : List Int), ([] : List (List Int))))).1.2.1 (Int.toNat s1.1.1) (0 : Int)) < (((List.length r.2) : Nat) : Int)) ∧ (((0 : Int) ≤ s2.1.1) ∧ ((s2.1.1 < (((List.length (List.getD r.2 (Int.toNat (List.getD (List.getD sorts (Int.toNat (0 : Int)) (((0 : Int), (([] : List Int), (([] : List Int), (([] : List Int), ([] : List (List Int)))))), (([] : List Int), ([] : List (List Int))))).1.2.1 (Int.toNat s1.1.1) (0 : Int))) ([] : List Int))) : Nat) : Int)) ∧ ((SrtP sorts) ∧ ((MovP sorts r.1 s1.1.1 (List.getD (List.getD r.2 (Int.toNat (List.getD (List.getD sorts (Int.toNat (0 : Int)) (((0 : Int), (([] : List Int), (([] : List Int), (([] : List Int), ([] : List (List Int)))))), (([] : List Int), ([] : List (List Int))))).1.2.1 (Int.toNat s1.1.1) (0 : Int))) ([] : List Int)) (Int.toNat s2.1.1) (0 : Int))) ∧ (cnd (!(hasR (List.getD r.2 (Int.toNat (List.getD (List.getD sorts (Int.toNat (0 : Int)) (((0 : Int), (([] : List Int), (([] : List Int), (([] : List Int), ([] : List (List Int)))))), (([] : List Int), ([] : List (List Int))))).1.2.2.1 (Int.toNat s1.1.1) (0 : Int))) ([] : List Int)) (moveR sorts r.1 s1.1.1 (List.getD (List.getD r.2 (Int.toNat (List.getD (List.getD sorts (Int.toNat (0 : Int)) (((0 : Int), (([] : List Int), (([] : List Int), (([] : List Int), ([] : List (List Int)))))), (([] : List Int), ([] : List (List Int))))).1.2.1 (Int.toNat s1.1.1) (0 : Int))) ([] : List Int)) (Int.toNat s2.1.1) (0 : Int))))) (K (Bool.false, ())) ((inK IntKind.i64 (s2.1.1 + (1 : Int))) ∧ (next2 (((s2.1.1 + (1 : Int)), ()), ())))))))))))))))) ((inK IntKind.i64 (s1.1.1 + (1 : Int))) ∧ (next1 (((s1.1.1 + (1 : Int)), ()), ()))))))))))) (((0 : Int), ()), ())) (K (Bool.true, ())))))) (((0 : Int), ()), ())))))) (((0 : Int), ()), ()))))))
theorem w_spec_l29Relation (x : denL c_spec_l29Relation.args) (K : Bool × Unit → Prop) : evF tab (lkp [(73, c_spec_l01Has), (49, c_spec_l01Map), (71, c_spec_l02Rises), (72, c_spec_l29Count), (74, c_spec_l29Move)]) (cutL [(1, 21), (7, 18), (13, 508), (15, 526)]) Tryz.f46 (bodyOf Tryz.f46) (.s .n (.s .n (.s .n (.s (.s .n (.l [(6, (.d (.int .i64)))] [] [0, 3, 5] .n)) (.s (.s .n (.l [(7, (.d (.int .i64)))] [] [0, 3, 5] (.s .n (.s (.s .n (.l [(8, (.d (.int .i64)))] [] [0, 3, 5, 7] .n)) .n)))) .n))))) c_spec_l29Relation x K = W_spec_l29Relation x.1 x.2.1 K := by kernel_rfl
theorem k_spec_l29Relation : okC Tryz.f46.ntmps (cutL [(1, 21), (7, 18), (13, 508), (15, 526)]) (bodyOf Tryz.f46) = true := by kernel_rfl
theorem m_spec_l29Relation (sorts : List SetFunctorD) (r : dataD) (hok : allP (okL c_spec_l29Relation.args (sorts, r, ()))) (hpre : allP (c_spec_l29Relation.pre (sorts, r, ()))) : W_spec_l29Relation sorts r (fun rs => rs = c_spec_l29Relation.res (sorts, r, ())) := by
  simp only [c_spec_l29Relation, okL, T.oks, T.ok, ap, allP, true_and, and_true, implies_true] at hok hpre
  try dsimp only [T.den] at hok
  try dsimp only [T.den] at hpre
  unfold W_spec_l29Relation
  have H : SrtP sorts := hpre
  have hr2 : r.2.length ≤ 140737488355328 := by simp only [nb_eq] at hok; omega
  have hr3 : ∀ l ∈ r.2, l.length ≤ 140737488355328 := by
    simp only [nb_eq] at hok
    have h := hok.2.2.2
    exact fun l hl => (h l hl).1
  clear hok hpre
  have C := H.shape
  have hm := C.m
  have hlt := C.lt
  have hob := C.ob
  have hn0 := H.n0
  have hn1 := H.n1
  have hv : relR sorts r = (decide (r.1.length ≤ 2) && withinR r.1 sorts.length && decide ((r.2.length : Int) = (shpR sorts).1) && allB r.2.length (relXR sorts r) && allB (shpR sorts).2.1.length (relAR sorts r)) := rfl
  have res : ∀ b, relR sorts r = b → (b, ()) = c_spec_l29Relation.res (sorts, r, ()) := fun b h => by simp only [c_spec_l29Relation, h]
  have hx0 : (sorts.getD (Int.toNat 0) ((0, ([], ([], ([], [])))), ([], []))).1 = shpR sorts := rfl
  refine ⟨fun _ => ⟨by omega, Int.le_refl _⟩, cnd_of (fun hc => res _ ?_) (fun hc => ?_)⟩
  · rw [hv, and_f5]
    simp only [Bool.or_eq_true, decide_eq_true_eq, Bool.not_eq_true', bne_iff_ne] at hc
    rcases hc with (hc | hc) | hc
    · left; exact decide_eq_false (by omega)
    · right; left; exact hc
    · right; right; left; exact decide_eq_false hc
  simp only [Bool.or_eq_false_iff, decide_eq_false_iff_not, Bool.not_eq_false', bne_eq_false_iff_eq] at hc
  obtain ⟨⟨h1, h2⟩, h3⟩ := hc
  have h1 : r.1.length ≤ 2 := by omega
  have h3 : (r.2.length : Int) = (shpR sorts).1 := h3
  rw [decide_eq_true h1, h2, decide_eq_true h3] at hv
  simp only [Bool.true_and] at hv
  refine ⟨Int.le_refl _, by omega, ?_⟩
  rw [hx0, ← h3]
  refine loop_allB r.2.length (relXR sorts r) ?_ ?_
  · intro y next y0 y1 hno hyes _
    try dsimp only
    obtain ⟨z1, z2⟩ := H.siz (x := y) h1 h2 y0 (by omega)
    have hp := prod_le z2
    refine cnd_d (fun _ => ⟨y0, y1, fun _ => ⟨z2, z1⟩, fun _ => ⟨y1, y0⟩, cnd_of (fun hx => res _ ?_) (fun hx => ⟨by rw [inK64]; (try dsimp only); omega, hyes ?_⟩)⟩) (fun h => absurd y1 h)
    · rw [hv, hno ?_]
      · rfl
      · unfold relXR; revert hx; cases risesR (r.2.getD y.toNat []) <;> cases withinR (r.2.getD y.toNat []) (prodR (sizesR sorts r.1 y)) <;> simp
    · unfold relXR; revert hx; cases risesR (r.2.getD y.toNat []) <;> cases withinR (r.2.getD y.toNat []) (prodR (sizesR sorts r.1 y)) <;> simp
  intro next hX _
  rw [hX, Bool.true_and] at hv
  refine cnd_d (fun h => absurd h (Int.lt_irrefl _)) (fun _ => ?_)
  refine loop_allB (shpR sorts).2.1.length (relAR sorts r) ?_ ?_
  · intro a next1 a0 a1 hno hyes _
    try dsimp only
    obtain ⟨f0, f1, t0, t1⟩ := C.frm a0 a1
    have hXf := allB_iff.1 hX _ f0 (by omega)
    unfold relXR at hXf
    rw [Bool.and_eq_true] at hXf
    have hW := within_iff.1 hXf.2
    have hml : (r.2.getD ((shpR sorts).2.1.getD a.toNat 0).toNat []).length ≤ 140737488355328 := hr3 _ (getD_mem _ [] f0 (by omega))
    have hA : relAR sorts r a = (r.2.getD ((shpR sorts).2.1.getD a.toNat 0).toNat []).all fun n => hasR (r.2.getD ((shpR sorts).2.2.1.getD a.toNat 0).toNat []) (moveR sorts r.1 a n) := rfl
    refine cnd_d (fun _ => ?_) (fun h => absurd a1 h)
    refine loop_all (r.2.getD ((shpR sorts).2.1.getD a.toNat 0).toNat []) 0 (fun n => hasR (r.2.getD ((shpR sorts).2.2.1.getD a.toNat 0).toNat []) (moveR sorts r.1 a n)) ?_ ?_
    · intro k next2 k0 k1 hno2 hyes2 _
      try dsimp only
      have hw := hW k k0 k1
      refine ⟨a0, a1, f0, by first | omega | (rw [hx0]; omega), cnd_d (fun _ => ⟨a0, by first | omega | (rw [hx0]; omega), t0, by first | omega | (rw [hx0]; omega), a0, a1, f0, by first | omega | (rw [hx0]; omega), k0, k1, H, ⟨h1, h2, a0, a1, hw.1, hw.2⟩, cnd_of (fun hx => res _ ?_) (fun hx => ⟨by rw [inK64]; (try dsimp only); omega, hyes2 (not_fT hx)⟩)⟩) (fun h => absurd k1 h)⟩
      rw [hv]
      refine hno ?_
      rw [hA]
      exact hno2 (not_tF hx)
    · intro next2 h2a _
      refine ⟨a0, a1, f0, by first | omega | (rw [hx0]; omega), cnd_d (fun h => absurd h (Int.lt_irrefl _)) (fun _ => ⟨by rw [inK64]; (try dsimp only); omega, hyes ?_⟩)⟩
      rw [hA]; exact h2a
  · intro next1 hAll _
    refine cnd_d (fun h => absurd h (Int.lt_irrefl _)) (fun _ => res _ ?_)
    rw [hv, hAll]
theorem ct_spec_l29Relation : CtOk Tryz.prog 46 c_spec_l29Relation :=
  ct_by (Φ := lkp [(73, c_spec_l01Has), (49, c_spec_l01Map), (71, c_spec_l02Rises), (72, c_spec_l29Count), (74, c_spec_l29Move)]) (good_cons ct_spec_l01Has (good_cons ct_spec_l01Map (good_cons ct_spec_l02Rises (good_cons ct_spec_l29Count (good_cons ct_spec_l29Move good_nil))))) tab_ok (by kernel_rfl) (fn := Tryz.f46) (c := bodyOf Tryz.f46) (by kernel_rfl) (by kernel_rfl) (by kernel_rfl) c_spec_l29Relation rfl (.s .n (.s .n (.s .n (.s (.s .n (.l [(6, (.d (.int .i64)))] [] [0, 3, 5] .n)) (.s (.s .n (.l [(7, (.d (.int .i64)))] [] [0, 3, 5] (.s .n (.s (.s .n (.l [(8, (.d (.int .i64)))] [] [0, 3, 5, 7] .n)) .n)))) .n))))) (cutL [(1, 21), (7, 18), (13, 508), (15, 526)]) (by kernel_rfl) (by kernel_rfl) k_spec_l29Relation (by decide) (fun x K => W_spec_l29Relation x.1 x.2.1 K) w_spec_l29Relation (fun x h1 h2 => m_spec_l29Relation x.1 x.2.1 h1 h2)
def c_spec_IsStructure : Ct := ⟨[StructureT], [true], fun x => [], [(false, (.fz .bool))], fun x => (strR x.1, ()), false, none⟩
def W_spec_IsStructure (s : StructureD) (K : Bool × Unit → Prop) : Prop := (cnd ((!(inR (((List.length s.1) : Nat) : Int) (1 : Int) (3 : Int))) || (decide ((4 : Int) < (((List.length s.2) : Nat) : Int)))) (K (Bool.false, ())) (loopW (S := ((Int × Unit) × Unit)) (fun s1 => (fun next => ((inK IntKind.i64 s1.1.1) → (cnd (decide (s1.1.1 < (((List.length s.1) : Nat) : Int))) (((0 : Int) ≤ s1.1.1) ∧ ((s1.1.1 < (((List.length s.1) : Nat) : Int)) ∧ ((((!(setfR (List.getD s.1 (Int.toNat s1.1.1) (((0 : Int), (([] : List Int), (([] : List Int), (([] : List Int), ([] : List (List Int)))))), (([] : List Int), ([] : List (List Int))))))) = Bool.false) → ((s1.1.1 < (((List.length s.1) : Nat) : Int)) ∧ ((0 : Int) ≤ s1.1.1))) ∧ ((((!(setfR (List.getD s.1 (Int.toNat s1.1.1) (((0 : Int), (([] : List Int), (([] : List Int), (([] : List Int), ([] : List (List Int)))))), (([] : List Int), ([] : List (List Int))))))) = Bool.false) → (((0 : Int) < (((List.length s.1) : Nat) : Int)) ∧ ((0 : Int) ≤ (0 : Int)))) ∧ (cnd ((!(setfR (List.getD s.1 (Int.toNat s1.1.1) (((0 : Int), (([] : List Int), (([] : List Int), (([] : List Int), ([] : List (List Int)))))), (([] : List Int), ([] : List (List Int))))))) || (!(eqR CategoryT (List.getD s.1 (Int.toNat s1.1.1) (((0 : Int), (([] : List Int), (([] : List Int), (([] : List Int), ([] : List (List Int)))))), (([] : List Int), ([] : List (List Int))))).1 (List.getD s.1 (Int.toNat (0 : Int)) (((0 : Int), (([] : List Int), (([] : List Int), (([] : List Int), ([] : List (List Int)))))), (([] : List Int), ([] : List (List Int))))).1))) (K (Bool.false, ())) ((inK IntKind.i64 (s1.1.1 + (1 : Int))) ∧ (next (((s1.1.1 + (1 : Int)), ()), ())))))))) (loopW (S := ((Int × Unit) × Unit)) (fun s2 => (fun next1 => ((inK IntKind.i64 s2.1.1) → (cnd (decide (s2.1.1 < (((List.length s.2) : Nat) : Int))) (((0 : Int) ≤ s2.1.1) ∧ ((s2.1.1 < (((List.length s.2) : Nat) : Int)) ∧ ((SrtP s.1) ∧ (cnd (!(relR s.1 (List.getD s.2 (Int.toNat s2.1.1) (([] : List Int), ([] : List (List Int)))))) (K (Bool.false, ())) ((inK IntKind.i64 (s2.1.1 + (1 : Int))) ∧ (next1 (((s2.1.1 + (1 : Int)), ()), ()))))))) (K (Bool.true, ())))))) (((0 : Int), ()), ())))))) (((0 : Int), ()), ())))
theorem w_spec_IsStructure (x : denL c_spec_IsStructure.args) (K : Bool × Unit → Prop) : evF tab (lkp [(43, c_spec_l01In), (45, c_spec_l02Same), (44, c_spec_l19Is), (46, c_spec_l29Relation)]) (cutL [(6, 19), (11, 507)]) Tryz.f29 (bodyOf Tryz.f29) (.s .n (.s .n (.s (.s .n (.l [(3, (.d (.int .i64)))] [] [1] .n)) (.s (.s .n (.l [(4, (.d (.int .i64)))] [] [1] .n)) .n)))) c_spec_IsStructure x K = W_spec_IsStructure x.1 K := by kernel_rfl
theorem k_spec_IsStructure : okC Tryz.f29.ntmps (cutL [(6, 19), (11, 507)]) (bodyOf Tryz.f29) = true := by kernel_rfl
theorem m_spec_IsStructure (s : StructureD) (hok : allP (okL c_spec_IsStructure.args (s, ()))) (hpre : allP (c_spec_IsStructure.pre (s, ()))) : W_spec_IsStructure s (fun r => r = c_spec_IsStructure.res (s, ())) := by
  simp only [c_spec_IsStructure, okL, T.oks, T.ok, ap, allP, true_and, and_true, implies_true] at hok hpre
  try dsimp only [T.den] at hok
  try dsimp only [T.den] at hpre
  unfold W_spec_IsStructure
  have hl1 : s.1.length ≤ 140737488355328 := by simp only [nb_eq] at hok; omega
  have hl2 : s.2.length ≤ 140737488355328 := by simp only [nb_eq] at hok; omega
  clear hok
  have hv : strR s = (inR s.1.length 1 3 && decide (s.2.length ≤ 4) && s.1.all (srtR s.1) && s.2.all (relR s.1)) := rfl
  have res : ∀ b, strR s = b → (b, ()) = c_spec_IsStructure.res (s, ()) := fun b h => by simp only [c_spec_IsStructure, h]
  refine cnd_of (fun hc => res _ ?_) (fun hc => ?_)
  · rw [hv]
    simp only [Bool.or_eq_true, decide_eq_true_eq, Bool.not_eq_true'] at hc
    rcases hc with hc | hc
    · rw [hc]; rfl
    · rw [decide_eq_false (by omega), Bool.and_false]; rfl
  simp only [Bool.or_eq_false_iff, decide_eq_false_iff_not, Bool.not_eq_false'] at hc
  obtain ⟨h1, h2⟩ := hc
  rw [h1, decide_eq_true (by omega)] at hv
  simp only [Bool.true_and] at hv
  have h3 := inR_iff.1 h1
  refine loop_all s.1 ((0, ([], ([], ([], [])))), ([], [])) (srtR s.1) ?_ ?_
  · intro i next i0 i1 hno hyes _
    try dsimp only
    have hsr : srtR s.1 (s.1.getD i.toNat ((0, ([], ([], ([], [])))), ([], []))) = (setfR (s.1.getD i.toNat ((0, ([], ([], ([], [])))), ([], []))) && eqR CategoryT (s.1.getD i.toNat ((0, ([], ([], ([], [])))), ([], []))).1 (s.1.getD (Int.toNat 0) ((0, ([], ([], ([], [])))), ([], []))).1) := rfl
    refine cnd_d (fun _ => ⟨i0, i1, fun _ => ⟨i1, i0⟩, fun _ => ⟨by omega, Int.le_refl _⟩, cnd_of (fun hx => res _ ?_) (fun hx => ⟨by rw [inK64]; (try dsimp only); omega, hyes ?_⟩)⟩) (fun h => absurd i1 h)
    · rw [hv, hno ?_]
      · rfl
      · rw [hsr]; revert hx; cases setfR (s.1.getD i.toNat ((0, ([], ([], ([], [])))), ([], []))) <;> cases eqR CategoryT (s.1.getD i.toNat ((0, ([], ([], ([], [])))), ([], []))).1 (s.1.getD (Int.toNat 0) ((0, ([], ([], ([], [])))), ([], []))).1 <;> simp
    · rw [hsr]; revert hx; cases setfR (s.1.getD i.toNat ((0, ([], ([], ([], [])))), ([], []))) <;> cases eqR CategoryT (s.1.getD i.toNat ((0, ([], ([], ([], [])))), ([], []))).1 (s.1.getD (Int.toNat 0) ((0, ([], ([], ([], [])))), ([], []))).1 <;> simp
  intro next hS _
  rw [hS, Bool.true_and] at hv
  have H : SrtP s.1 := by
    refine ⟨by omega, by omega, fun k k0 k1 => ?_⟩
    have := List.all_eq_true.1 hS _ (getD_mem s.1 ((0, ([], ([], ([], [])))), ([], [])) k0 k1)
    unfold srtR at this
    rw [Bool.and_eq_true, eqR_iff] at this
    exact this
  refine cnd_d (fun h => absurd h (Int.lt_irrefl _)) (fun _ => ?_)
  refine loop_all s.2 ([], []) (relR s.1) ?_ ?_
  · intro i next i0 i1 hno hyes _
    try dsimp only
    refine cnd_d (fun _ => ⟨i0, i1, H, cnd_of (fun hx => res _ ?_) (fun hx => ⟨by rw [inK64]; (try dsimp only); omega, hyes (by simpa using hx)⟩)⟩) (fun h => absurd i1 h)
    rw [hv]; exact hno (by simpa using hx)
  · intro next h _
    exact cnd_d (fun h => absurd h (Int.lt_irrefl _)) (fun _ => res _ (by rw [hv, h]))
theorem ct_spec_IsStructure : CtOk Tryz.prog 29 c_spec_IsStructure :=
  ct_by (Φ := lkp [(43, c_spec_l01In), (45, c_spec_l02Same), (44, c_spec_l19Is), (46, c_spec_l29Relation)]) (good_cons ct_spec_l01In (good_cons ct_spec_l02Same (good_cons ct_spec_l19Is (good_cons ct_spec_l29Relation good_nil)))) tab_ok (by kernel_rfl) (fn := Tryz.f29) (c := bodyOf Tryz.f29) (by kernel_rfl) (by kernel_rfl) (by kernel_rfl) c_spec_IsStructure rfl (.s .n (.s .n (.s (.s .n (.l [(3, (.d (.int .i64)))] [] [1] .n)) (.s (.s .n (.l [(4, (.d (.int .i64)))] [] [1] .n)) .n)))) (cutL [(6, 19), (11, 507)]) (by kernel_rfl) (by kernel_rfl) k_spec_IsStructure (by decide) (fun x K => W_spec_IsStructure x.1 K) w_spec_IsStructure (fun x h1 h2 => m_spec_IsStructure x.1 h1 h2)
def c_spec_l29Context : Ct := ⟨[StructureT, (.sl (.int .i64))], [true, false], fun x => [x.1.1.length ≤ 1099511627776], [(false, (.fz .bool))], fun x => (ctxR x.1 x.2.1, ()), false, none⟩
def W_spec_l29Context (s : StructureD) (context : List Int) (K : Bool × Unit → Prop) : Prop := (K (((decide ((((List.length context) : Nat) : Int) ≤ (4 : Int))) && (withinR context (((List.length s.1) : Nat) : Int))), ()))
theorem w_spec_l29Context (x : denL c_spec_l29Context.args) (K : Bool × Unit → Prop) : evF tab (lkp [(49, c_spec_l01Map)]) (cutL []) Tryz.f31 (bodyOf Tryz.f31) .n c_spec_l29Context x K = W_spec_l29Context x.1 x.2.1 K := by kernel_rfl
theorem k_spec_l29Context : okC Tryz.f31.ntmps (cutL []) (bodyOf Tryz.f31) = true := by kernel_rfl
theorem m_spec_l29Context (s : StructureD) (context : List Int) (hok : allP (okL c_spec_l29Context.args (s, context, ()))) (hpre : allP (c_spec_l29Context.pre (s, context, ()))) : W_spec_l29Context s context (fun r => r = c_spec_l29Context.res (s, context, ())) := by
  simp only [c_spec_l29Context, okL, T.oks, T.ok, ap, allP, true_and, and_true, implies_true] at hok hpre
  try dsimp only [T.den] at hok
  try dsimp only [T.den] at hpre
  unfold W_spec_l29Context
  simp only [c_spec_l29Context, ctxR]
  congr 2
  exact decide_eq_decide.2 (by omega)
theorem ct_spec_l29Context : CtOk Tryz.prog 31 c_spec_l29Context :=
  ct_by (Φ := lkp [(49, c_spec_l01Map)]) (good_cons ct_spec_l01Map good_nil) tab_ok (by kernel_rfl) (fn := Tryz.f31) (c := bodyOf Tryz.f31) (by kernel_rfl) (by kernel_rfl) (by kernel_rfl) c_spec_l29Context rfl .n (cutL []) (by kernel_rfl) (by kernel_rfl) k_spec_l29Context (by decide) (fun x K => W_spec_l29Context x.1 x.2.1 K) w_spec_l29Context (fun x h1 h2 => m_spec_l29Context x.1 x.2.1 h1 h2)
def c_spec_l01Own : Ct := ⟨[(.sl (.int .i64))], [false], fun x => [x.1.length ≤ 1099511627776], [(false, (.sl (.fz (.int .i64))))], fun x => (x.1, ()), false, none⟩
def W_spec_l01Own (list : List Int) (K : (List Int) × Unit → Prop) : Prop := ((room 0 (List.length list) 8) ∧ (K (list, ())))
theorem w_spec_l01Own (x : denL c_spec_l01Own.args) (K : (List Int) × Unit → Prop) : evF tab (lkp []) (cutL []) Tryz.f52 (bodyOf Tryz.f52) .n c_spec_l01Own x K = W_spec_l01Own x.1 K := by kernel_rfl
theorem k_spec_l01Own : okC Tryz.f52.ntmps (cutL []) (bodyOf Tryz.f52) = true := by kernel_rfl
theorem m_spec_l01Own (list : List Int) (hok : allP (okL c_spec_l01Own.args (list, ()))) (hpre : allP (c_spec_l01Own.pre (list, ()))) : W_spec_l01Own list (fun r => r = c_spec_l01Own.res (list, ())) := by
  simp only [c_spec_l01Own, okL, T.oks, T.ok, ap, allP, true_and, and_true, implies_true] at hok hpre
  try dsimp only [T.den] at hok
  try dsimp only [T.den] at hpre
  unfold W_spec_l01Own
  have hl : list.length ≤ 1099511627776 := hpre
  exact ⟨room_of (by omega), rfl⟩
theorem ct_spec_l01Own : CtOk Tryz.prog 52 c_spec_l01Own :=
  ct_by (Φ := lkp []) good_nil tab_ok (by kernel_rfl) (fn := Tryz.f52) (c := bodyOf Tryz.f52) (by kernel_rfl) (by kernel_rfl) (by kernel_rfl) c_spec_l01Own rfl .n (cutL []) (by kernel_rfl) (by kernel_rfl) k_spec_l01Own (by decide) (fun x K => W_spec_l01Own x.1 K) w_spec_l01Own (fun x h1 h2 => m_spec_l01Own x.1 h1 h2)
def c_spec_l01Then : Ct := ⟨[(.sl (.int .i64)), (.sl (.int .i64))], [false, false], fun x => [x.1.length ≤ 1099511627776, withinR x.1 x.2.1.length = true], [(false, (.sl (.fz (.int .i64))))], fun x => (thenR x.1 x.2.1, ()), false, none⟩
def W_spec_l01Then (f : List Int) (g : List Int) (K : (List Int) × Unit → Prop) : Prop := (loopW (S := ((Unit × (Int × Unit)) × ((List Int) × Unit))) (fun s => (fun next => ((inK IntKind.i64 s.1.2.1) → ((T.ok (T.sl (T.int IntKind.i64)) s.2.1) → (cnd (decide (s.1.2.1 < (((List.length f) : Nat) : Int))) (((0 : Int) ≤ s.1.2.1) ∧ ((s.1.2.1 < (((List.length f) : Nat) : Int)) ∧ (((0 : Int) ≤ (List.getD f (Int.toNat s.1.2.1) (0 : Int))) ∧ (((List.getD f (Int.toNat s.1.2.1) (0 : Int)) < (((List.length g) : Nat) : Int)) ∧ ((room (List.length s.2.1) (List.length ((List.getD g (Int.toNat (List.getD f (Int.toNat s.1.2.1) (0 : Int))) (0 : Int)) :: ([] : List Int))) 8) ∧ ((inK IntKind.i64 (s.1.2.1 + (1 : Int))) ∧ (next (((), ((s.1.2.1 + (1 : Int)), ())), ((s.2.1 ++ ((List.getD g (Int.toNat (List.getD f (Int.toNat s.1.2.1) (0 : Int))) (0 : Int)) :: ([] : List Int))), ()))))))))) (K (s.2.1, ()))))))) (((), ((0 : Int), ())), (([] : List Int), ())))
theorem w_spec_l01Then (x : denL c_spec_l01Then.args) (K : (List Int) × Unit → Prop) : evF tab (lkp []) (cutL []) Tryz.f51 (bodyOf Tryz.f51) (.s .n (.s .n (.s (.s .n (.l [(5, (.ref 800005 [])), (6, (.d (.int .i64)))] [(800005, (.sl (.fz (.int .i64))))] [0, 1] .n)) .n))) c_spec_l01Then x K = W_spec_l01Then x.1 x.2.1 K := by kernel_rfl
theorem k_spec_l01Then : okC Tryz.f51.ntmps (cutL []) (bodyOf Tryz.f51) = true := by kernel_rfl
theorem m_spec_l01Then (f : List Int) (g : List Int) (hok : allP (okL c_spec_l01Then.args (f, g, ()))) (hpre : allP (c_spec_l01Then.pre (f, g, ()))) : W_spec_l01Then f g (fun r => r = c_spec_l01Then.res (f, g, ())) := by
  simp only [c_spec_l01Then, okL, T.oks, T.ok, ap, allP, true_and, and_true, implies_true] at hok hpre
  try dsimp only [T.den] at hok
  try dsimp only [T.den] at hpre
  unfold W_spec_l01Then
  obtain ⟨hl, hw⟩ := hpre
  have hw := within_iff.1 hw
  clear hok
  refine loop_ixa (fun i => thenR (f.take i.toNat) g) (n := f.length) (by omega) rfl ?_ ?_
  · intro i next i0 i1 hn _ _
    try dsimp only at hn ⊢
    have h1 := hw i i0 i1
    have hs : thenR (f.take (i + 1).toNat) g = thenR (f.take i.toNat) g ++ [g.getD (f.getD i.toNat 0).toNat 0] := by unfold thenR; rw [take_c f 0 i0 i1, List.map_append]; rfl
    have hln : (thenR (f.take i.toNat) g).length ≤ f.length := by unfold thenR; rw [List.length_map, List.length_take]; omega
    rw [hs] at hn
    exact cnd_d (fun _ => ⟨i0, i1, h1.1, h1.2, room_of (by simp only [List.length_cons, List.length_nil]; omega), by rw [inK64]; (try dsimp only); omega, hn⟩) (fun h => absurd i1 h)
  · intro next _ _
    refine cnd_d (fun h => absurd h (Int.lt_irrefl _)) (fun _ => ?_)
    rw [take_n _ (Int.le_refl _)]
    rfl
theorem ct_spec_l01Then : CtOk Tryz.prog 51 c_spec_l01Then :=
  ct_by (Φ := lkp []) good_nil tab_ok (by kernel_rfl) (fn := Tryz.f51) (c := bodyOf Tryz.f51) (by kernel_rfl) (by kernel_rfl) (by kernel_rfl) c_spec_l01Then rfl (.s .n (.s .n (.s (.s .n (.l [(5, (.ref 800005 [])), (6, (.d (.int .i64)))] [(800005, (.sl (.fz (.int .i64))))] [0, 1] .n)) .n))) (cutL []) (by kernel_rfl) (by kernel_rfl) k_spec_l01Then (by decide) (fun x K => W_spec_l01Then x.1 x.2.1 K) w_spec_l01Then (fun x h1 h2 => m_spec_l01Then x.1 x.2.1 h1 h2)
def c_spec_l29Typed : Ct := ⟨[StructureT, (.sl (.int .i64)), (.sl ruleT), (.int .i64)], [true, false, false, false], fun x => [TypP x.1 x.2.1 x.2.2.1, 0 ≤ x.2.2.2.1, fendR (x.2.2.1.drop x.2.2.2.1.toNat) 1 x.2.2.2.1 ≠ -1], [(false, (.fz .bool))], fun x => (typBR x.1 x.2.1 x.2.2.1 x.2.2.2.1.toNat, ()), false, none⟩
def q_spec_l29Typed (n : Nat) : Ct := ⟨[StructureT, (.sl (.int .i64)), (.sl ruleT), (.int .i64)], [true, false, false, false], fun x => [x.2.2.1.length - x.2.2.2.1.toNat < n, TypP x.1 x.2.1 x.2.2.1, 0 ≤ x.2.2.2.1, fendR (x.2.2.1.drop x.2.2.2.1.toNat) 1 x.2.2.2.1 ≠ -1], [(false, (.fz .bool))], fun x => (typBR x.1 x.2.1 x.2.2.1 x.2.2.2.1.toNat, ()), false, none⟩
def W_spec_l29Typed (n : Nat) (s : StructureD) (context : List Int) (list : List ruleD) (i : Int) (K : Bool × Unit → Prop) : Prop := (((0 : Int) ≤ i) ∧ ((i < (((List.length list) : Nat) : Int)) ∧ (cnd (!(withinR (List.getD list (Int.toNat i) ((0 : Int), ((0 : Int), ([] : List Int)))).2.2 (((List.length context) : Nat) : Int))) (K (Bool.false, ())) (cnd ((List.getD list (Int.toNat i) ((0 : Int), ((0 : Int), ([] : List Int)))).1 == (2 : Int)) ((((decide ((((List.length s.2) : Nat) : Int) ≤ (List.getD list (Int.toNat i) ((0 : Int), ((0 : Int), ([] : List Int)))).2.1)) = Bool.false) → (((List.getD list (Int.toNat i) ((0 : Int), ((0 : Int), ([] : List Int)))).2.1 < (((List.length s.2) : Nat) : Int)) ∧ ((0 : Int) ≤ (List.getD list (Int.toNat i) ((0 : Int), ((0 : Int), ([] : List Int)))).2.1))) ∧ (cnd ((decide ((((List.length s.2) : Nat) : Int) ≤ (List.getD list (Int.toNat i) ((0 : Int), ((0 : Int), ([] : List Int)))).2.1)) || ((((List.length (List.getD list (Int.toNat i) ((0 : Int), ((0 : Int), ([] : List Int)))).2.2) : Nat) : Int) != (((List.length (List.getD s.2 (Int.toNat (List.getD list (Int.toNat i) ((0 : Int), ((0 : Int), ([] : List Int)))).2.1) (([] : List Int), ([] : List (List Int)))).1) : Nat) : Int))) (K (Bool.false, ())) (((List.length (List.getD list (Int.toNat i) ((0 : Int), ((0 : Int), ([] : List Int)))).2.2) ≤ 1099511627776) ∧ (((withinR (List.getD list (Int.toNat i) ((0 : Int), ((0 : Int), ([] : List Int)))).2.2 (((List.length context) : Nat) : Int)) = Bool.true) ∧ (((0 : Int) ≤ (List.getD list (Int.toNat i) ((0 : Int), ((0 : Int), ([] : List Int)))).2.1) ∧ (((List.getD list (Int.toNat i) ((0 : Int), ((0 : Int), ([] : List Int)))).2.1 < (((List.length s.2) : Nat) : Int)) ∧ (K ((eqR (T.sl (T.int IntKind.i64)) (thenR (List.getD list (Int.toNat i) ((0 : Int), ((0 : Int), ([] : List Int)))).2.2 context) (List.getD s.2 (Int.toNat (List.getD list (Int.toNat i) ((0 : Int), ((0 : Int), ([] : List Int)))).2.1) (([] : List Int), ([] : List (List Int)))).1), ())))))))) (cnd ((List.getD list (Int.toNat i) ((0 : Int), ((0 : Int), ([] : List Int)))).1 == (3 : Int)) (((0 : Int) ≤ (0 : Int)) ∧ (((0 : Int) < (((List.length (List.getD list (Int.toNat i) ((0 : Int), ((0 : Int), ([] : List Int)))).2.2) : Nat) : Int)) ∧ (((0 : Int) ≤ (List.getD (List.getD list (Int.toNat i) ((0 : Int), ((0 : Int), ([] : List Int)))).2.2 (Int.toNat (0 : Int)) (0 : Int))) ∧ (((List.getD (List.getD list (Int.toNat i) ((0 : Int), ((0 : Int), ([] : List Int)))).2.2 (Int.toNat (0 : Int)) (0 : Int)) < (((List.length context) : Nat) : Int)) ∧ (((0 : Int) ≤ (1 : Int)) ∧ (((1 : Int) < (((List.length (List.getD list (Int.toNat i) ((0 : Int), ((0 : Int), ([] : List Int)))).2.2) : Nat) : Int)) ∧ (((0 : Int) ≤ (List.getD (List.getD list (Int.toNat i) ((0 : Int), ((0 : Int), ([] : List Int)))).2.2 (Int.toNat (1 : Int)) (0 : Int))) ∧ (((List.getD (List.getD list (Int.toNat i) ((0 : Int), ((0 : Int), ([] : List Int)))).2.2 (Int.toNat (1 : Int)) (0 : Int)) < (((List.length context) : Nat) : Int)) ∧ (K (((List.getD context (Int.toNat (List.getD (List.getD list (Int.toNat i) ((0 : Int), ((0 : Int), ([] : List Int)))).2.2 (Int.toNat (0 : Int)) (0 : Int))) (0 : Int)) == (List.getD context (Int.toNat (List.getD (List.getD list (Int.toNat i) ((0 : Int), ((0 : Int), ([] : List Int)))).2.2 (Int.toNat (1 : Int)) (0 : Int))) (0 : Int))), ())))))))))) (joinW (S := ((Unit × (Unit × (Bool × Unit))) × (((List ((Int × ((List Int) × ((List Int) × ((List Int) × (List (List Int)))))) × ((List Int) × (List (List Int))))) × (List ((List Int) × (List (List Int))))) × ((Int × (Int × (List Int))) × Unit)))) (fun s1 => ((T.ok (T.sl SetFunctorT) s1.2.1.1) → ((T.ok (T.sl dataT) s1.2.1.2) → ((inK IntKind.i64 s1.2.2.1.1) → ((inK IntKind.i64 s1.2.2.1.2.1) → ((T.ok (T.sl (T.int IntKind.i64)) s1.2.2.1.2.2) → (cnd s1.1.2.2.1 ((inK IntKind.i64 (i + (1 : Int))) ∧ ((((List.length list) - (Int.toNat (i + (1 : Int)))) < n) ∧ ((TypP s1.2.1 context list) ∧ (((0 : Int) ≤ (i + (1 : Int))) ∧ (((fendR (List.drop (Int.toNat (i + (1 : Int))) list) (1 : Int) (i + (1 : Int))) ≠ (-(1 : Int))) ∧ ((((typBR s1.2.1 context list (Int.toNat (i + (1 : Int)))) = Bool.true) → (inK IntKind.i64 (i + (1 : Int)))) ∧ ((((typBR s1.2.1 context list (Int.toNat (i + (1 : Int)))) = Bool.true) → (((i + (1 : Int)) ≤ (((List.length list) : Nat) : Int)) ∧ (((List.length list) ≤ 1099511627776) ∧ ((0 : Int) ≤ (i + (1 : Int)))))) ∧ ((((typBR s1.2.1 context list (Int.toNat (i + (1 : Int)))) = Bool.true) → ((TypP s1.2.1 context list) ∧ (((0 : Int) ≤ (fendR (List.drop (Int.toNat (i + (1 : Int))) list) (1 : Int) (i + (1 : Int)))) ∧ (((fendR (List.drop (Int.toNat (fendR (List.drop (Int.toNat (i + (1 : Int))) list) (1 : Int) (i + (1 : Int)))) list) (1 : Int) (fendR (List.drop (Int.toNat (i + (1 : Int))) list) (1 : Int) (i + (1 : Int)))) ≠ (-(1 : Int))) ∧ (((List.length list) - (Int.toNat (fendR (List.drop (Int.toNat (i + (1 : Int))) list) (1 : Int) (i + (1 : Int))))) < n))))) ∧ (K (((typBR s1.2.1 context list (Int.toNat (i + (1 : Int)))) && (typBR s1.2.1 context list (Int.toNat (fendR (List.drop (Int.toNat (i + (1 : Int))) list) (1 : Int) (i + (1 : Int)))))), ())))))))))) (joinW (S := ((Unit × (Unit × (Bool × Unit))) × (((List ((Int × ((List Int) × ((List Int) × ((List Int) × (List (List Int)))))) × ((List Int) × (List (List Int))))) × (List ((List Int) × (List (List Int))))) × ((Int × (Int × (List Int))) × Unit)))) (fun s2 => ((T.ok (T.sl SetFunctorT) s2.2.1.1) → ((T.ok (T.sl dataT) s2.2.1.2) → ((inK IntKind.i64 s2.2.2.1.1) → ((inK IntKind.i64 s2.2.2.1.2.1) → ((T.ok (T.sl (T.int IntKind.i64)) s2.2.2.1.2.2) → (cnd s2.1.2.2.1 (cnd ((decide ((((List.length s2.2.1.1) : Nat) : Int) ≤ s2.2.2.1.2.1)) || ((((List.length context) : Nat) : Int) == (4 : Int))) (K (Bool.false, ())) (((List.length context) ≤ 1099511627776) ∧ ((inK IntKind.i64 (i + (1 : Int))) ∧ ((room (List.length context) (List.length (s2.2.2.1.2.1 :: ([] : List Int))) 8) ∧ ((((List.length list) - (Int.toNat (i + (1 : Int)))) < n) ∧ ((TypP s2.2.1 (context ++ (s2.2.2.1.2.1 :: ([] : List Int))) list) ∧ (((0 : Int) ≤ (i + (1 : Int))) ∧ (((fendR (List.drop (Int.toNat (i + (1 : Int))) list) (1 : Int) (i + (1 : Int))) ≠ (-(1 : Int))) ∧ (K ((typBR s2.2.1 (context ++ (s2.2.2.1.2.1 :: ([] : List Int))) list (Int.toNat (i + (1 : Int)))), ())))))))))) (K (Bool.true, ()))))))))) (fun k => (cnd ((List.getD list (Int.toNat i) ((0 : Int), ((0 : Int), ([] : List Int)))).1 == (7 : Int)) (k (((), ((), (((List.getD list (Int.toNat i) ((0 : Int), ((0 : Int), ([] : List Int)))).1 == (7 : Int)), ()))), (s1.2.1, (s1.2.2.1, ())))) (k (((), ((), (((List.getD list (Int.toNat i) ((0 : Int), ((0 : Int), ([] : List Int)))).1 == (8 : Int)), ()))), (s1.2.1, (s1.2.2.1, ())))))))))))))) (fun k => (cnd ((List.getD list (Int.toNat i) ((0 : Int), ((0 : Int), ([] : List Int)))).1 == (4 : Int)) (k (((), ((), (((List.getD list (Int.toNat i) ((0 : Int), ((0 : Int), ([] : List Int)))).1 == (4 : Int)), ()))), (s, ((List.getD list (Int.toNat i) ((0 : Int), ((0 : Int), ([] : List Int)))), ())))) (joinW (S := ((Unit × (Unit × (Bool × Unit))) × (((List ((Int × ((List Int) × ((List Int) × ((List Int) × (List (List Int)))))) × ((List Int) × (List (List Int))))) × (List ((List Int) × (List (List Int))))) × ((Int × (Int × (List Int))) × Unit)))) (fun s1 => ((T.ok (T.sl SetFunctorT) s1.2.1.1) → ((T.ok (T.sl dataT) s1.2.1.2) → ((inK IntKind.i64 s1.2.2.1.1) → ((inK IntKind.i64 s1.2.2.1.2.1) → ((T.ok (T.sl (T.int IntKind.i64)) s1.2.2.1.2.2) → (k (((), ((), (s1.1.2.2.1, ()))), (s1.2.1, (s1.2.2.1, ())))))))))) (fun k1 => (cnd ((List.getD list (Int.toNat i) ((0 : Int), ((0 : Int), ([] : List Int)))).1 == (5 : Int)) (k1 (((), ((), (((List.getD list (Int.toNat i) ((0 : Int), ((0 : Int), ([] : List Int)))).1 == (5 : Int)), ()))), (s, ((List.getD list (Int.toNat i) ((0 : Int), ((0 : Int), ([] : List Int)))), ())))) (k1 (((), ((), (((List.getD list (Int.toNat i) ((0 : Int), ((0 : Int), ([] : List Int)))).1 == (6 : Int)), ()))), (s, ((List.getD list (Int.toNat i) ((0 : Int), ((0 : Int), ([] : List Int)))), ())))))))))))))))
theorem w_spec_l29Typed (n : Nat) (x : denL c_spec_l29Typed.args) (K : Bool × Unit → Prop) : evF tab (lkp [(32, q_spec_l29Typed n), (49, c_spec_l01Map), (52, c_spec_l01Own), (50, c_spec_l01Same), (51, c_spec_l01Then), (48, c_spec_l29End)]) (cutL [(19, 3009), (6, 18), (8, 511), (10, 14), (14, 14)]) Tryz.f32 (bodyOf Tryz.f32) (.s .n (.s .n (.s .n (.s (.s .n (.s .n (.s .n (.s .n (.s .n (.s (.s .n (.j [(4, (.ad 4 [.de])), (9, (.ad 9 [.de])), (73, (.d .bool))] [(4, (.pt (.fz (.p (.sl (.p (.p (.int .i64) (.p (.sl (.int .i64)) (.p (.sl (.int .i64)) (.p (.sl (.int .i64)) (.sl (.sl (.int .i64))))))) (.p (.sl (.int .i64)) (.sl (.sl (.int .i64)))))) (.sl (.p (.sl (.int .i64)) (.sl (.sl (.int .i64))))))))), (9, (.pt (.fz (.p (.int .i64) (.p (.int .i64) (.sl (.int .i64)))))))] [1, 2, 3, 21] (.s .n (.s .n (.j [(4, (.ad 4 [.de])), (9, (.ad 9 [.de])), (73, (.d .bool))] [(4, (.pt (.fz (.p (.sl (.p (.p (.int .i64) (.p (.sl (.int .i64)) (.p (.sl (.int .i64)) (.p (.sl (.int .i64)) (.sl (.sl (.int .i64))))))) (.p (.sl (.int .i64)) (.sl (.sl (.int .i64)))))) (.sl (.p (.sl (.int .i64)) (.sl (.sl (.int .i64))))))))), (9, (.pt (.fz (.p (.int .i64) (.p (.int .i64) (.sl (.int .i64)))))))] [1, 2, 3, 21] .n))))) (.s .n (.s (.s .n (.j [(4, (.ad 4 [.de])), (9, (.ad 9 [.de])), (93, (.d .bool))] [(4, (.pt (.fz (.p (.sl (.p (.p (.int .i64) (.p (.sl (.int .i64)) (.p (.sl (.int .i64)) (.p (.sl (.int .i64)) (.sl (.sl (.int .i64))))))) (.p (.sl (.int .i64)) (.sl (.sl (.int .i64)))))) (.sl (.p (.sl (.int .i64)) (.sl (.sl (.int .i64))))))))), (9, (.pt (.fz (.p (.int .i64) (.p (.int .i64) (.sl (.int .i64)))))))] [1, 2, 3] .n)) .n)))))))) .n)))) (q_spec_l29Typed (n + 1)) x K = W_spec_l29Typed n x.1 x.2.1 x.2.2.1 x.2.2.2.1 K := by kernel_rfl
theorem k_spec_l29Typed : okC Tryz.f32.ntmps (cutL [(19, 3009), (6, 18), (8, 511), (10, 14), (14, 14)]) (bodyOf Tryz.f32) = true := by kernel_rfl
theorem m_spec_l29Typed (n : Nat) (s : StructureD) (context : List Int) (list : List ruleD) (i : Int) (hok : allP (okL c_spec_l29Typed.args (s, context, list, i, ()))) (hpre : allP ((q_spec_l29Typed (n + 1)).pre (s, context, list, i, ()))) : W_spec_l29Typed n s context list i (fun r => r = c_spec_l29Typed.res (s, context, list, i, ())) := by
  simp only [c_spec_l29Typed, q_spec_l29Typed, okL, T.oks, T.ok, ap, allP, true_and, and_true, implies_true] at hok hpre
  try dsimp only [T.den] at hok
  try dsimp only [T.den] at hpre
  unfold W_spec_l29Typed
  obtain ⟨hn, T, i0, he⟩ := hpre
  have hi := fend_lt i0 he
  have hx := List.all_eq_true.1 T.ok _ (getD_mem list (0, (0, [])) i0 hi)
  have hu := @typ_at s context list i i0 hi
  have hf := @fend_at list i i0 hi
  have hll := T.ll
  have hcl := T.cl
  have hsl := T.str
  have hrl := T.rel
  clear hok
  generalize list.getD i.toNat (0, (0, [])) = x at hx hu hf ⊢
  have hres : ∀ b, typBR s context list i.toNat = b → (b, ()) = c_spec_l29Typed.res (s, context, list, i, ()) := fun b h => by
    simp only [c_spec_l29Typed, h]
  have hN : typN s context x = (withinR x.2.2 context.length && (if x.1 = 2 then decide (x.2.1 < s.2.length) && eqR (.sl (.int .i64)) (thenR x.2.2 context) (s.2.getD x.2.1.toNat ([], [])).1 else if x.1 = 3 then decide ((thenR x.2.2 context).getD 0 0 = (thenR x.2.2 context).getD 1 0) else if x.1 = 7 ∨ x.1 = 8 then decide (x.2.1 < s.1.length) && decide (context.length ≠ 4) else true)) := rfl
  have hC : ctx2 context x = if x.1 = 7 ∨ x.1 = 8 then context ++ [x.2.1] else context := rfl
  have hP : ptsR x = if x.1 = 4 ∨ x.1 = 5 ∨ x.1 = 6 then 2 else if x.1 = 7 ∨ x.1 = 8 then 1 else 0 := rfl
  unfold okNodeR at hx
  rw [Bool.and_eq_true] at hx
  obtain ⟨hx1, hx⟩ := hx
  refine ⟨i0, hi, cnd_of (fun hw => hres _ ?_) (fun hw => ?_)⟩
  · rw [hu, hN, not_tF hw]; rfl
  have hw := not_fT hw
  rw [hw, Bool.true_and] at hN
  refine cnd_of (fun h2 => ?_) (fun h2 => ?_)
  · have e2 : x.1 = 2 := by simpa using h2
    rw [if_pos e2] at hN hx
    rw [if_neg (by omega), if_neg (by omega)] at hP
    rw [Bool.and_eq_true, inR_iff, decide_eq_true_eq] at hx
    rw [hP, if_pos rfl, Bool.and_true] at hu
    refine ⟨fun hg => by simp only [decide_eq_false_iff_not] at hg; omega, cnd_of (fun hb => hres _ ?_) (fun hg => ?_)⟩
    · rw [hu, hN]
      simp only [Bool.or_eq_true, decide_eq_true_eq, bne_iff_ne] at hb
      rw [Bool.and_eq_false_iff]
      rcases hb with hb | hb
      · left; exact decide_eq_false (by omega)
      · right; refine eqR_f fun e => hb ?_
        rw [← e]; unfold thenR; rw [List.length_map]
    · simp only [Bool.or_eq_false_iff, decide_eq_false_iff_not, bne_eq_false_iff_eq] at hg
      refine ⟨by omega, hw, hx.1.1, by omega, hres _ ?_⟩
      rw [hu, hN, decide_eq_true (by omega), Bool.true_and]
  have n2 : x.1 ≠ 2 := by simpa using h2
  rw [if_neg n2] at hN hx
  refine cnd_of (fun h3 => ?_) (fun h3 => ?_)
  · have e3 : x.1 = 3 := by simpa using h3
    rw [if_pos e3] at hN hx
    rw [if_neg (by omega), if_neg (by omega)] at hP
    rw [Bool.and_eq_true, decide_eq_true_eq, decide_eq_true_eq] at hx
    rw [hP, if_pos rfl, Bool.and_true] at hu
    have hw2 := within_iff.1 hw
    have w0 := hw2 0 (by omega) (by omega)
    have w1 := hw2 1 (by omega) (by omega)
    refine ⟨Int.le_refl _, by omega, w0.1, w0.2, by omega, by omega, w1.1, w1.2, hres _ ?_⟩
    rw [hu, hN]
    have t0 : (thenR x.2.2 context).getD 0 0 = context.getD (x.2.2.getD 0 0).toNat 0 := by unfold thenR; exact map_getD (d := 0) (by omega)
    have t1 : (thenR x.2.2 context).getD 1 0 = context.getD (x.2.2.getD 1 0).toNat 0 := by unfold thenR; exact map_getD (d := 0) (by omega)
    rw [t0, t1]
    rfl
  have n3 : x.1 ≠ 3 := by simpa using h3
  rw [if_neg n3] at hN hx
  refine join_of (fun q => q.1.2.2.1 = (x.1 == 4 || x.1 == 5 || x.1 == 6) ∧ q.2.1 = s ∧ q.2.2.1 = x) (fun q hq _ _ _ _ _ => ?_) (fun k hk => ?_)
  · obtain ⟨q1, q2, q3⟩ := hq
    rw [q1, q2, q3]
    refine cnd_of (fun h4 => ?_) (fun h4 => ?_)
    · have e4 : x.1 = 4 ∨ x.1 = 5 ∨ x.1 = 6 := by simpa [or_assoc] using h4
      rw [if_neg (by omega)] at hN hx hC
      rw [if_pos e4] at hP
      rw [hN, hP, hC, if_neg (by omega), if_neg (by omega), Bool.true_and] at hu
      rw [hP] at hf
      rw [hf] at he
      obtain ⟨e1, e2, e3⟩ := fend_two (by omega) he
      rw [if_pos (by omega)] at hu
      rw [← e3] at he
      have hlt := fend_lt (by omega) he
      refine ⟨by rw [inK64]; (try dsimp only); omega, by omega, T, by omega, e1, fun _ => by rw [inK64]; (try dsimp only); omega, fun _ => ⟨by omega, by omega, by omega⟩, fun _ => ⟨T, by omega, he, by omega⟩, hres _ hu⟩
    · have n4 : ¬ (x.1 = 4 ∨ x.1 = 5 ∨ x.1 = 6) := by simpa [or_assoc, and_assoc] using h4
      rw [if_neg n4] at hP
      refine join_of (fun q => q.1.2.2.1 = (x.1 == 7 || x.1 == 8) ∧ q.2.1 = s ∧ q.2.2.1 = x) (fun q hq _ _ _ _ _ => ?_) (fun k hk => cnd_of (fun h7 => hk _ ⟨by dsimp only; rw [h7]; rfl, rfl, rfl⟩) (fun h7 => hk _ ⟨by dsimp only; rw [h7]; rfl, rfl, rfl⟩))
      obtain ⟨q1, q2, q3⟩ := hq
      rw [q1, q2, q3]
      refine cnd_of (fun h7 => ?_) (fun h7 => hres _ ?_)
      · have e7 : x.1 = 7 ∨ x.1 = 8 := by simpa using h7
        rw [if_pos e7] at hN hx hC hP
        rw [hP, if_neg (by omega), if_pos rfl, Bool.and_true] at hu
        rw [hP] at hf
        refine cnd_of (fun hb => hres _ ?_) (fun hg => ?_)
        · rw [hu, hN]
          have : (decide (x.2.1 < s.1.length) && decide (context.length ≠ 4)) = false := by
            rw [Bool.and_eq_false_iff]
            simp only [Bool.or_eq_true, decide_eq_true_eq, beq_iff_eq] at hb
            rcases hb with hb | hb
            · left; exact decide_eq_false (by omega)
            · right; exact decide_eq_false (by omega)
          rw [this, Bool.false_and]
        · simp only [Bool.or_eq_false_iff, decide_eq_false_iff_not, beq_eq_false_iff_ne] at hg
          have hN1 : typN s context x = true := by
            rw [hN, Bool.and_eq_true]; exact ⟨decide_eq_true (by omega), decide_eq_true (by omega)⟩
          have T2 := typ_ctx T hN1
          rw [hN1, Bool.true_and, hC] at hu
          rw [hC] at T2
          rw [hf] at he
          exact ⟨by omega, by rw [inK64]; (try dsimp only); omega, room_of (by simp only [List.length_cons, List.length_nil]; omega), by omega, T2, by omega, he, hres _ hu⟩
      · have n7 : ¬ (x.1 = 7 ∨ x.1 = 8) := by simpa using h7
        rw [if_neg n7] at hN hP
        rw [hN, hP, if_pos rfl] at hu
        exact hu
  · refine cnd_of (fun h4 => hk _ ⟨by dsimp only; rw [h4]; rfl, rfl, rfl⟩) (fun h4 => join_of (fun q => q.1.2.2.1 = (x.1 == 5 || x.1 == 6) ∧ q.2.1 = s ∧ q.2.2.1 = x) (fun q hq _ _ _ _ _ => hk _ ⟨by dsimp only; rw [hq.1, h4, Bool.false_or], hq.2.1, hq.2.2⟩) (fun k1 hk1 => cnd_of (fun h5 => hk1 _ ⟨by dsimp only; rw [h5]; rfl, rfl, rfl⟩) (fun h5 => hk1 _ ⟨by dsimp only; rw [h5]; rfl, rfl, rfl⟩)))
theorem ct_spec_l29Typed : CtOk Tryz.prog 32 c_spec_l29Typed := by
  refine ct_rec (q := fun n => (q_spec_l29Typed n).pre) (callable_of (fn := Tryz.f32) (c := bodyOf Tryz.f32) (by kernel_rfl) (by kernel_rfl) (by kernel_rfl)) (fun x h => Nat.not_lt_zero _ h.1) (fun x h => ?_) (fun n ih => ?_)
  · exact ⟨_, Nat.lt_succ_self _, h⟩
  · exact ct_by (Φ := lkp [(32, q_spec_l29Typed n), (49, c_spec_l01Map), (52, c_spec_l01Own), (50, c_spec_l01Same), (51, c_spec_l01Then), (48, c_spec_l29End)]) (good_cons ih (good_cons ct_spec_l01Map (good_cons ct_spec_l01Own (good_cons ct_spec_l01Same (good_cons ct_spec_l01Then (good_cons ct_spec_l29End good_nil)))))) tab_ok (by kernel_rfl) (fn := Tryz.f32) (c := bodyOf Tryz.f32) (by kernel_rfl) (by kernel_rfl) (by kernel_rfl) (q_spec_l29Typed (n + 1)) rfl (.s .n (.s .n (.s .n (.s (.s .n (.s .n (.s .n (.s .n (.s .n (.s (.s .n (.j [(4, (.ad 4 [.de])), (9, (.ad 9 [.de])), (73, (.d .bool))] [(4, (.pt (.fz (.p (.sl (.p (.p (.int .i64) (.p (.sl (.int .i64)) (.p (.sl (.int .i64)) (.p (.sl (.int .i64)) (.sl (.sl (.int .i64))))))) (.p (.sl (.int .i64)) (.sl (.sl (.int .i64)))))) (.sl (.p (.sl (.int .i64)) (.sl (.sl (.int .i64))))))))), (9, (.pt (.fz (.p (.int .i64) (.p (.int .i64) (.sl (.int .i64)))))))] [1, 2, 3, 21] (.s .n (.s .n (.j [(4, (.ad 4 [.de])), (9, (.ad 9 [.de])), (73, (.d .bool))] [(4, (.pt (.fz (.p (.sl (.p (.p (.int .i64) (.p (.sl (.int .i64)) (.p (.sl (.int .i64)) (.p (.sl (.int .i64)) (.sl (.sl (.int .i64))))))) (.p (.sl (.int .i64)) (.sl (.sl (.int .i64)))))) (.sl (.p (.sl (.int .i64)) (.sl (.sl (.int .i64))))))))), (9, (.pt (.fz (.p (.int .i64) (.p (.int .i64) (.sl (.int .i64)))))))] [1, 2, 3, 21] .n))))) (.s .n (.s (.s .n (.j [(4, (.ad 4 [.de])), (9, (.ad 9 [.de])), (93, (.d .bool))] [(4, (.pt (.fz (.p (.sl (.p (.p (.int .i64) (.p (.sl (.int .i64)) (.p (.sl (.int .i64)) (.p (.sl (.int .i64)) (.sl (.sl (.int .i64))))))) (.p (.sl (.int .i64)) (.sl (.sl (.int .i64)))))) (.sl (.p (.sl (.int .i64)) (.sl (.sl (.int .i64))))))))), (9, (.pt (.fz (.p (.int .i64) (.p (.int .i64) (.sl (.int .i64)))))))] [1, 2, 3] .n)) .n)))))))) .n)))) (cutL [(19, 3009), (6, 18), (8, 511), (10, 14), (14, 14)]) (by kernel_rfl) (by kernel_rfl) k_spec_l29Typed (Nat.le_of_ble_eq_true rfl) (fun x K => W_spec_l29Typed n x.1 x.2.1 x.2.2.1 x.2.2.2.1 K) (w_spec_l29Typed n) (fun x h1 h2 => m_spec_l29Typed n x.1 x.2.1 x.2.2.1 x.2.2.2.1 h1 h2)
def codeFR (s : StructureD) (c : List Int) (l : List ruleD) : Int := if ctxCodeR s c [l] = 0 then (if typBR s c l 0 = true then 0 else 5) else ctxCodeR s c [l]
def c_spec_l29Code : Ct := ⟨[StructureT, (.sl (.int .i64)), (.sl ruleT)], [true, false, false], fun x => [], [(false, (.fz (.int .i64)))], fun x => (codeFR x.1 x.2.1 x.2.2.1, ()), false, none⟩
def W_spec_l29Code (s : StructureD) (context : List Int) (list : List ruleD) (K : Int × Unit → Prop) : Prop := (cnd ((!(strR s)) || (!(formR list))) (K ((1 : Int), ())) (((List.length s.1) ≤ 1099511627776) ∧ (cnd (!(ctxR s context)) (K ((2 : Int), ())) ((TypP s context list) ∧ (((0 : Int) ≤ (0 : Int)) ∧ (((fendR (List.drop (Int.toNat (0 : Int)) list) (1 : Int) (0 : Int)) ≠ (-(1 : Int))) ∧ (cnd (!(typBR s context list (Int.toNat (0 : Int)))) (K ((5 : Int), ())) (K ((0 : Int), ())))))))))
theorem w_spec_l29Code (x : denL c_spec_l29Code.args) (K : Int × Unit → Prop) : evF tab (lkp [(30, c_spec_IsFormula), (29, c_spec_IsStructure), (31, c_spec_l29Context), (32, c_spec_l29Typed)]) (cutL []) Tryz.f17 (bodyOf Tryz.f17) .n c_spec_l29Code x K = W_spec_l29Code x.1 x.2.1 x.2.2.1 K := by kernel_rfl
theorem k_spec_l29Code : okC Tryz.f17.ntmps (cutL []) (bodyOf Tryz.f17) = true := by kernel_rfl
theorem m_spec_l29Code (s : StructureD) (context : List Int) (list : List ruleD) (hok : allP (okL c_spec_l29Code.args (s, context, list, ()))) (hpre : allP (c_spec_l29Code.pre (s, context, list, ()))) : W_spec_l29Code s context list (fun r => r = c_spec_l29Code.res (s, context, list, ())) := by
  simp only [c_spec_l29Code, okL, T.oks, T.ok, ap, allP, true_and, and_true, implies_true] at hok hpre
  try dsimp only [T.den] at hok
  try dsimp only [T.den] at hpre
  unfold W_spec_l29Code
  clear hok
  have hv : ctxCodeR s context [list] = if strR s = false then 1 else if [list].all formR = false then 1 else if ctxR s context = false then 2 else 0 := rfl
  have hc : codeFR s context list = if ctxCodeR s context [list] = 0 then (if typBR s context list 0 = true then 0 else 5) else ctxCodeR s context [list] := rfl
  have res : ∀ b, codeFR s context list = b → (b, ()) = c_spec_l29Code.res (s, context, list, ()) := fun b h => by simp only [c_spec_l29Code, h]
  simp only [List.all_cons, List.all_nil, Bool.and_true] at hv
  refine cnd_of (fun hx => res _ ?_) (fun hx => ?_)
  · have : ctxCodeR s context [list] = 1 := by
      rw [hv]
      cases h1 : strR s with
      | false => rfl
      | true =>
        have h2 : formR list = false := by rw [h1] at hx; simpa using hx
        rw [h2]; rfl
    rw [hc, this]; rfl
  · have h12 : strR s = true ∧ formR list = true := by simpa using hx
    obtain ⟨h1, h2⟩ := h12
    rw [if_neg (by rw [h1]; simp), if_neg (by rw [h2]; simp)] at hv
    have hs2 := h1
    unfold strR at hs2
    simp only [Bool.and_eq_true, inR_iff] at hs2
    refine ⟨by omega, cnd_of (fun hx => res _ ?_) (fun hx => ?_)⟩
    · rw [if_pos (by simpa using hx)] at hv
      rw [hc, hv]; rfl
    · have h3 : ctxR s context = true := by simpa using hx
      rw [if_neg (by rw [h3]; simp)] at hv
      rw [if_pos hv] at hc
      have T := str_typ h1 h2 h3
      have hll := T.ll
      have hf2 := h2
      unfold formR at hf2
      simp only [Bool.and_eq_true, beq_iff_eq] at hf2
      refine ⟨T, Int.le_refl _, by show fendR list 1 0 ≠ -1; rw [hf2.2]; omega, cnd_of (fun hx => res _ ?_) (fun hx => res _ ?_)⟩
      · rw [hc, if_neg]; intro h; rw [show (0 : Int).toNat = 0 from rfl, h] at hx; cases hx
      · rw [hc, if_pos]; simpa using hx
theorem ct_spec_l29Code : CtOk Tryz.prog 17 c_spec_l29Code :=
  ct_by (Φ := lkp [(30, c_spec_IsFormula), (29, c_spec_IsStructure), (31, c_spec_l29Context), (32, c_spec_l29Typed)]) (good_cons ct_spec_IsFormula (good_cons ct_spec_IsStructure (good_cons ct_spec_l29Context (good_cons ct_spec_l29Typed good_nil)))) tab_ok (by kernel_rfl) (fn := Tryz.f17) (c := bodyOf Tryz.f17) (by kernel_rfl) (by kernel_rfl) (by kernel_rfl) c_spec_l29Code rfl .n (cutL []) (by kernel_rfl) (by kernel_rfl) k_spec_l29Code (by decide) (fun x K => W_spec_l29Code x.1 x.2.1 x.2.2.1 K) w_spec_l29Code (fun x h1 h2 => m_spec_l29Code x.1 x.2.1 x.2.2.1 h1 h2)
def c_spec_IsTyped : Ct := ⟨[StructureT, (.sl (.int .i64)), (.sl ruleT)], [true, false, false], fun x => [], [(false, (.fz .bool)), (false, (.fz (.int .i64)))], fun x => (isTypR x.1 x.2.1 x.2.2.1, ctxCodeR x.1 x.2.1 [x.2.2.1], ()), false, none⟩
def W_spec_IsTyped (s : StructureD) (context : List Int) (list : List ruleD) (K : Bool × Int × Unit → Prop) : Prop := (cnd (((codeFR s context list) == (1 : Int)) || ((codeFR s context list) == (2 : Int))) (K (Bool.false, ((codeFR s context list), ()))) (K (((codeFR s context list) == (0 : Int)), ((0 : Int), ()))))
theorem w_spec_IsTyped (x : denL c_spec_IsTyped.args) (K : Bool × Int × Unit → Prop) : evF tab (lkp [(17, c_spec_l29Code)]) (cutL []) Tryz.f6 (bodyOf Tryz.f6) .n c_spec_IsTyped x K = W_spec_IsTyped x.1 x.2.1 x.2.2.1 K := by kernel_rfl
theorem k_spec_IsTyped : okC Tryz.f6.ntmps (cutL []) (bodyOf Tryz.f6) = true := by kernel_rfl
theorem m_spec_IsTyped (s : StructureD) (context : List Int) (list : List ruleD) (hok : allP (okL c_spec_IsTyped.args (s, context, list, ()))) (hpre : allP (c_spec_IsTyped.pre (s, context, list, ()))) : W_spec_IsTyped s context list (fun r => r = c_spec_IsTyped.res (s, context, list, ())) := by
  simp only [c_spec_IsTyped, okL, T.oks, T.ok, ap, allP, true_and, and_true, implies_true] at hok hpre
  try dsimp only [T.den] at hok
  try dsimp only [T.den] at hpre
  unfold W_spec_IsTyped
  clear hok
  have hc : codeFR s context list = if ctxCodeR s context [list] = 0 then (if typBR s context list 0 = true then 0 else 5) else ctxCodeR s context [list] := rfl
  have hr : ctxCodeR s context [list] = 0 ∨ ctxCodeR s context [list] = 1 ∨ ctxCodeR s context [list] = 2 := by
    unfold ctxCodeR; split
    · omega
    · split
      · omega
      · split <;> omega
  have hi : isTypR s context list = (ctxCodeR s context [list] == 0 && typBR s context list 0) := rfl
  simp only [c_spec_IsTyped, hi]
  generalize ctxCodeR s context [list] = a at *
  generalize typBR s context list 0 = b at *
  generalize codeFR s context list = d at *
  rcases hr with rfl | rfl | rfl
  · cases b <;> simp at hc <;> subst hc <;> exact ⟨by simp, by simp⟩
  · simp at hc; subst hc; exact ⟨by simp, by simp⟩
  · simp at hc; subst hc; exact ⟨by simp, by simp⟩
theorem ct_spec_IsTyped : CtOk Tryz.prog 6 c_spec_IsTyped :=
  ct_by (Φ := lkp [(17, c_spec_l29Code)]) (good_cons ct_spec_l29Code good_nil) tab_ok (by kernel_rfl) (fn := Tryz.f6) (c := bodyOf Tryz.f6) (by kernel_rfl) (by kernel_rfl) (by kernel_rfl) c_spec_IsTyped rfl .n (cutL []) (by kernel_rfl) (by kernel_rfl) k_spec_IsTyped (by decide) (fun x K => W_spec_IsTyped x.1 x.2.1 x.2.2.1 K) w_spec_IsTyped (fun x h1 h2 => m_spec_IsTyped x.1 x.2.1 x.2.2.1 h1 h2)
def c_laws_FnExactIsTyped : Ct := ⟨[StructureT, (.sl (.int .i64)), (.sl ruleT)], [true, false, false], fun x => [], [(false, (.fz .bool))], fun x => (true, ()), false, none⟩
def W_laws_FnExactIsTyped (aS : StructureD) (aContext : List Int) (aList : List ruleD) (K : Bool × Unit → Prop) : Prop := (cnd (decide ((1048576 : Int) < (((List.length aContext) : Nat) : Int))) (K (Bool.true, ())) (((-(4611263805962321920 : Int)) ≤ (1048576 : Int)) ∧ (cnd (decide ((szR (wR StructureT aS) (1048576 : Int)) < (0 : Int))) (K (Bool.true, ())) (((-(4611404543450677248 : Int)) ≤ (szR (wR StructureT aS) (1048576 : Int))) ∧ (cnd (decide ((szR (wR (T.sl ruleT) aList) (szR (wR StructureT aS) (1048576 : Int))) < (0 : Int))) (K (Bool.true, ())) (((wR StructureT aS) ≤ 1048576) ∧ (((wR (T.sl (T.int IntKind.i64)) aContext) ≤ 1099511627776) ∧ (((wR (T.sl ruleT) aList) ≤ 1099511627776) ∧ (((wR StructureT aS) ≤ 1048576) ∧ (((wR (T.sl (T.int IntKind.i64)) aContext) ≤ 1099511627776) ∧ (((wR (T.sl ruleT) aList) ≤ 1099511627776) ∧ (cnd (((isTypR aS aContext aList) != (isTypR aS aContext aList)) || ((ctxCodeR aS aContext (aList :: ([] : List (List (Int × (Int × (List Int))))))) != (ctxCodeR aS aContext (aList :: ([] : List (List (Int × (Int × (List Int))))))))) (K (Bool.false, ())) (((wR StructureT aS) ≤ 1048576) ∧ (cnd (!(eqR StructureT aS aS)) (K (Bool.false, ())) (((wR (T.sl (T.int IntKind.i64)) aContext) ≤ 1099511627776) ∧ (cnd (!(eqR (T.sl (T.int IntKind.i64)) aContext aContext)) (K (Bool.false, ())) (((wR (T.sl ruleT) aList) ≤ 1099511627776) ∧ (cnd (!(eqR (T.sl ruleT) aList aList)) (K (Bool.false, ())) (K (Bool.true, ()))))))))))))))))))))
theorem w_laws_FnExactIsTyped (x : denL c_laws_FnExactIsTyped.args) (K : Bool × Unit → Prop) : evF tab (lkp [(10, c_impl_IsTyped), (12, c_laws_eqInt64S), (13, c_laws_eqNodeS), (11, c_laws_eqStructure), (5, c_laws_szNodeS), (4, c_laws_szStructure), (8, c_laws_toInt64S), (9, c_laws_toNodeS), (7, c_laws_toStructure), (6, c_spec_IsTyped)]) (cutL [(17, 503)]) Tryz.f3 (bodyOf Tryz.f3) .n c_laws_FnExactIsTyped x K = W_laws_FnExactIsTyped x.1 x.2.1 x.2.2.1 K := by kernel_rfl
theorem k_laws_FnExactIsTyped : okC Tryz.f3.ntmps (cutL [(17, 503)]) (bodyOf Tryz.f3) = true := by kernel_rfl
theorem m_laws_FnExactIsTyped (aS : StructureD) (aContext : List Int) (aList : List ruleD) (hok : allP (okL c_laws_FnExactIsTyped.args (aS, aContext, aList, ()))) (hpre : allP (c_laws_FnExactIsTyped.pre (aS, aContext, aList, ()))) : W_laws_FnExactIsTyped aS aContext aList (fun r => r = c_laws_FnExactIsTyped.res (aS, aContext, aList, ())) := by
  simp only [c_laws_FnExactIsTyped, okL, T.oks, T.ok, ap, allP, true_and, and_true, implies_true] at hok hpre
  try dsimp only [T.den] at hok
  try dsimp only [T.den] at hpre
  unfold W_laws_FnExactIsTyped
  have hw : wR (.sl (.int .i64)) aContext = aContext.length := wR_ints _
  simp only [hw]
  generalize wR StructureT aS = n1
  generalize wR (T.sl ruleT) aList = n2
  simp only [eqR_self]
  clear hok
  grind [cnd, nb_eq, inK64, szR, c_laws_FnExactIsTyped]
theorem ct_laws_FnExactIsTyped : CtOk Tryz.prog 3 c_laws_FnExactIsTyped :=
  ct_by (Φ := lkp [(10, c_impl_IsTyped), (12, c_laws_eqInt64S), (13, c_laws_eqNodeS), (11, c_laws_eqStructure), (5, c_laws_szNodeS), (4, c_laws_szStructure), (8, c_laws_toInt64S), (9, c_laws_toNodeS), (7, c_laws_toStructure), (6, c_spec_IsTyped)]) (good_cons ct_impl_IsTyped (good_cons ct_laws_eqInt64S (good_cons ct_laws_eqNodeS (good_cons ct_laws_eqStructure (good_cons ct_laws_szNodeS (good_cons ct_laws_szStructure (good_cons ct_laws_toInt64S (good_cons ct_laws_toNodeS (good_cons ct_laws_toStructure (good_cons ct_spec_IsTyped good_nil)))))))))) tab_ok (by kernel_rfl) (fn := Tryz.f3) (c := bodyOf Tryz.f3) (by kernel_rfl) (by kernel_rfl) (by kernel_rfl) c_laws_FnExactIsTyped rfl .n (cutL [(17, 503)]) (by kernel_rfl) (by kernel_rfl) k_laws_FnExactIsTyped (by decide) (fun x K => W_laws_FnExactIsTyped x.1 x.2.1 x.2.2.1 K) w_laws_FnExactIsTyped (fun x h1 h2 => m_laws_FnExactIsTyped x.1 x.2.1 x.2.2.1 h1 h2)
end Go.Bm
