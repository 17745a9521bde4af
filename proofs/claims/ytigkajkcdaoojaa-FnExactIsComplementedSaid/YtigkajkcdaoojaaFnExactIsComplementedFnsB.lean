/- What the functions that FnExactIsComplemented reaches give: for each its contract, what it asks, and the proof. No condition. -/
import Derived.Test.YtigkajkcdaoojaaFnExactIsComplementedFnsA
namespace Go.Bm
open Go.Proofs
set_option maxRecDepth 100000
set_option maxHeartbeats 1000000
set_option linter.unusedVariables false
set_option linter.unusedSimpArgs false
def impC (f : SetFunctorD) (p q : List (List Int)) (x e a : Int) : Bool := !(f.1.2.1.getD a.toNat 0 == x) || !mem2 p (f.1.2.2.1.getD a.toNat 0) (actR f a e) || mem2 q (f.1.2.2.1.getD a.toNat 0) (actR f a e)
theorem tabN_map {α β : Type} {f : Int → α} {g : α → β} : ∀ n : Nat, (tabN n f).map g = tabN n fun x => g (f x)
  | 0 => rfl
  | n + 1 => by rw [tabN, List.map_append, tabN_map n]; rfl
theorem marked_tab2 {n : Nat} {z : Int → Int} {G : Int → Int → Bool} : markedR (tab2 n z G) = tabN n fun x => selR (z x).toNat (G x) := by
  unfold markedR tab2
  rw [tabN_map]
  exact tabN_congr fun x _ _ => sel_tab

def c_spec_l26Imply : Ct := ⟨[SetFunctorT, (.sl (.sl (.int .i64))), (.sl (.sl (.int .i64)))], [true, false, false], fun x => [SfP x.1, PrtP x.1 x.2.1, PrtP x.1 x.2.2.1], [(false, (.sl (.sl (.fz (.int .i64)))))], fun x => (implyR x.1 x.2.1 x.2.2.1, ()), false, none⟩
def W_spec_l26Imply (f : SetFunctorD) (p : List (List Int)) (q : List (List Int)) (K : (List (List Int)) × Unit → Prop) : Prop := ((SfP f) ∧ ((PrtP f p) ∧ ((SfP f) ∧ ((PrtP f q) ∧ (loopW (S := ((Unit × (Int × Unit)) × ((List (List Bool)) × Unit))) (fun s => (fun next => ((inK IntKind.i64 s.1.2.1) → ((T.ok (T.sl (T.sl T.bool)) s.2.1) → (cnd (decide (s.1.2.1 < (((List.length (marksR f p)) : Nat) : Int))) (((0 : Int) ≤ s.1.2.1) ∧ ((s.1.2.1 < (((List.length (marksR f p)) : Nat) : Int)) ∧ (((0 : Int) ≤ (((List.length (List.getD (marksR f p) (Int.toNat s.1.2.1) ([] : List Bool))) : Nat) : Int)) ∧ (((((List.length (List.getD (marksR f p) (Int.toNat s.1.2.1) ([] : List Bool))) : Nat) : Int) ≤ (((List.length (List.getD (marksR f p) (Int.toNat s.1.2.1) ([] : List Bool))) : Nat) : Int)) ∧ (((((List.length (List.getD (marksR f p) (Int.toNat s.1.2.1) ([] : List Bool))) : Nat) : Int) ≤ ((140737488355328 : Nat) : Int)) ∧ ((((((List.length (List.getD (marksR f p) (Int.toNat s.1.2.1) ([] : List Bool))) : Nat) : Int) * ((1 : Nat) : Int)) ≤ ((140737488355328 : Nat) : Int)) ∧ (loopW (S := ((Unit × (Unit × (Int × Unit))) × ((List (List Bool)) × ((List Bool) × Unit)))) (fun s1 => (fun next1 => ((inK IntKind.i64 s1.1.2.2.1) → ((T.ok (T.sl (T.sl T.bool)) s1.2.1) → ((T.ok (T.sl T.bool) s1.2.2.1) → (cnd (decide (s1.1.2.2.1 < (((List.length s1.2.2.1) : Nat) : Int))) (((0 : Int) ≤ s1.1.2.2.1) ∧ ((s1.1.2.2.1 < (((List.length s1.2.2.1) : Nat) : Int)) ∧ ((inK IntKind.i64 (s1.1.2.2.1 + (1 : Int))) ∧ (next1 (((), ((), ((s1.1.2.2.1 + (1 : Int)), ()))), (s1.2.1, ((List.set s1.2.2.1 (Int.toNat s1.1.2.2.1) Bool.true), ()))))))) ((room (List.length s1.2.1) (List.length (s1.2.2.1 :: ([] : List (List Bool)))) 24) ∧ ((inK IntKind.i64 (s.1.2.1 + (1 : Int))) ∧ (next (((), ((s.1.2.1 + (1 : Int)), ())), ((s1.2.1 ++ (s1.2.2.1 :: ([] : List (List Bool)))), ()))))))))))) (((), ((), ((0 : Int), ()))), (s.2.1, ((List.replicate (Int.toNat (((List.length (List.getD (marksR f p) (Int.toNat s.1.2.1) ([] : List Bool))) : Nat) : Int)) Bool.false), ())))))))))) (loopW (S := ((Unit × (Int × Unit)) × ((List (List Bool)) × Unit))) (fun s1 => (fun next1 => ((inK IntKind.i64 s1.1.2.1) → ((T.ok (T.sl (T.sl T.bool)) s1.2.1) → (cnd (decide (s1.1.2.1 < (((List.length f.2.2) : Nat) : Int))) (((0 : Int) ≤ s1.1.2.1) ∧ ((s1.1.2.1 < (((List.length f.1.2.1) : Nat) : Int)) ∧ (((0 : Int) ≤ s1.1.2.1) ∧ ((s1.1.2.1 < (((List.length f.1.2.2.1) : Nat) : Int)) ∧ (loopW (S := ((Unit × (Int × Unit)) × ((List (List Bool)) × Unit))) (fun s2 => (fun next2 => ((inK IntKind.i64 s2.1.2.1) → ((T.ok (T.sl (T.sl T.bool)) s2.2.1) → (((0 : Int) ≤ s1.1.2.1) ∧ ((s1.1.2.1 < (((List.length f.2.2) : Nat) : Int)) ∧ (cnd (decide (s2.1.2.1 < (((List.length (List.getD f.2.2 (Int.toNat s1.1.2.1) ([] : List Int))) : Nat) : Int))) (((0 : Int) ≤ s1.1.2.1) ∧ ((s1.1.2.1 < (((List.length f.2.2) : Nat) : Int)) ∧ (((0 : Int) ≤ s2.1.2.1) ∧ ((s2.1.2.1 < (((List.length (List.getD f.2.2 (Int.toNat s1.1.2.1) ([] : List Int))) : Nat) : Int)) ∧ (((0 : Int) ≤ (List.getD f.1.2.1 (Int.toNat s1.1.2.1) (0 : Int))) ∧ (((List.getD f.1.2.1 (Int.toNat s1.1.2.1) (0 : Int)) < (((List.length s2.2.1) : Nat) : Int)) ∧ (((0 : Int) ≤ (List.getD f.1.2.1 (Int.toNat s1.1.2.1) (0 : Int))) ∧ (((List.getD f.1.2.1 (Int.toNat s1.1.2.1) (0 : Int)) < (((List.length s2.2.1) : Nat) : Int)) ∧ (((0 : Int) ≤ s2.1.2.1) ∧ ((s2.1.2.1 < (((List.length (List.getD s2.2.1 (Int.toNat (List.getD f.1.2.1 (Int.toNat s1.1.2.1) (0 : Int))) ([] : List Bool))) : Nat) : Int)) ∧ ((((List.getD (List.getD s2.2.1 (Int.toNat (List.getD f.1.2.1 (Int.toNat s1.1.2.1) (0 : Int))) ([] : List Bool)) (Int.toNat s2.1.2.1) Bool.false) = Bool.true) → (((List.getD f.1.2.2.1 (Int.toNat s1.1.2.1) (0 : Int)) < (((List.length (marksR f p)) : Nat) : Int)) ∧ ((0 : Int) ≤ (List.getD f.1.2.2.1 (Int.toNat s1.1.2.1) (0 : Int))))) ∧ ((((List.getD (List.getD s2.2.1 (Int.toNat (List.getD f.1.2.1 (Int.toNat s1.1.2.1) (0 : Int))) ([] : List Bool)) (Int.toNat s2.1.2.1) Bool.false) = Bool.true) → (((List.getD (List.getD f.2.2 (Int.toNat s1.1.2.1) ([] : List Int)) (Int.toNat s2.1.2.1) (0 : Int)) < (((List.length (List.getD (marksR f p) (Int.toNat (List.getD f.1.2.2.1 (Int.toNat s1.1.2.1) (0 : Int))) ([] : List Bool))) : Nat) : Int)) ∧ ((0 : Int) ≤ (List.getD (List.getD f.2.2 (Int.toNat s1.1.2.1) ([] : List Int)) (Int.toNat s2.1.2.1) (0 : Int))))) ∧ (((((List.getD (List.getD s2.2.1 (Int.toNat (List.getD f.1.2.1 (Int.toNat s1.1.2.1) (0 : Int))) ([] : List Bool)) (Int.toNat s2.1.2.1) Bool.false) = Bool.true) ∧ ((!(List.getD (List.getD (marksR f p) (Int.toNat (List.getD f.1.2.2.1 (Int.toNat s1.1.2.1) (0 : Int))) ([] : List Bool)) (Int.toNat (List.getD (List.getD f.2.2 (Int.toNat s1.1.2.1) ([] : List Int)) (Int.toNat s2.1.2.1) (0 : Int))) Bool.false)) = Bool.false)) → (((List.getD f.1.2.2.1 (Int.toNat s1.1.2.1) (0 : Int)) < (((List.length (marksR f q)) : Nat) : Int)) ∧ ((0 : Int) ≤ (List.getD f.1.2.2.1 (Int.toNat s1.1.2.1) (0 : Int))))) ∧ (((((List.getD (List.getD s2.2.1 (Int.toNat (List.getD f.1.2.1 (Int.toNat s1.1.2.1) (0 : Int))) ([] : List Bool)) (Int.toNat s2.1.2.1) Bool.false) = Bool.true) ∧ ((!(List.getD (List.getD (marksR f p) (Int.toNat (List.getD f.1.2.2.1 (Int.toNat s1.1.2.1) (0 : Int))) ([] : List Bool)) (Int.toNat (List.getD (List.getD f.2.2 (Int.toNat s1.1.2.1) ([] : List Int)) (Int.toNat s2.1.2.1) (0 : Int))) Bool.false)) = Bool.false)) → (((List.getD (List.getD f.2.2 (Int.toNat s1.1.2.1) ([] : List Int)) (Int.toNat s2.1.2.1) (0 : Int)) < (((List.length (List.getD (marksR f q) (Int.toNat (List.getD f.1.2.2.1 (Int.toNat s1.1.2.1) (0 : Int))) ([] : List Bool))) : Nat) : Int)) ∧ ((0 : Int) ≤ (List.getD (List.getD f.2.2 (Int.toNat s1.1.2.1) ([] : List Int)) (Int.toNat s2.1.2.1) (0 : Int))))) ∧ (((0 : Int) ≤ s2.1.2.1) ∧ ((s2.1.2.1 < (((List.length (List.getD s2.2.1 (Int.toNat (List.getD f.1.2.1 (Int.toNat s1.1.2.1) (0 : Int))) ([] : List Bool))) : Nat) : Int)) ∧ ((inK IntKind.i64 (s2.1.2.1 + (1 : Int))) ∧ (next2 (((), ((s2.1.2.1 + (1 : Int)), ())), ((List.set s2.2.1 (Int.toNat (List.getD f.1.2.1 (Int.toNat s1.1.2.1) (0 : Int))) (List.set (List.getD s2.2.1 (Int.toNat (List.getD f.1.2.1 (Int.toNat s1.1.2.1) (0 : Int))) ([] : List Bool)) (Int.toNat s2.1.2.1) ((List.getD (List.getD s2.2.1 (Int.toNat (List.getD f.1.2.1 (Int.toNat s1.1.2.1) (0 : Int))) ([] : List Bool)) (Int.toNat s2.1.2.1) Bool.false) && ((!(List.getD (List.getD (marksR f p) (Int.toNat (List.getD f.1.2.2.1 (Int.toNat s1.1.2.1) (0 : Int))) ([] : List Bool)) (Int.toNat (List.getD (List.getD f.2.2 (Int.toNat s1.1.2.1) ([] : List Int)) (Int.toNat s2.1.2.1) (0 : Int))) Bool.false)) || (List.getD (List.getD (marksR f q) (Int.toNat (List.getD f.1.2.2.1 (Int.toNat s1.1.2.1) (0 : Int))) ([] : List Bool)) (Int.toNat (List.getD (List.getD f.2.2 (Int.toNat s1.1.2.1) ([] : List Int)) (Int.toNat s2.1.2.1) (0 : Int))) Bool.false))))), ())))))))))))))))))))) ((inK IntKind.i64 (s1.1.2.1 + (1 : Int))) ∧ (next1 (((), ((s1.1.2.1 + (1 : Int)), ())), (s2.2.1, ()))))))))))) (((), ((0 : Int), ())), (s1.2.1, ()))))))) ((SmallM s1.2.1) ∧ (K ((markedR s1.2.1), ())))))))) (((), ((0 : Int), ())), (s.2.1, ())))))))) (((), ((0 : Int), ())), (([] : List (List Bool)), ())))))))
theorem w_spec_l26Imply (x : denL c_spec_l26Imply.args) (K : (List (List Int)) × Unit → Prop) : evF tab (lkp [(119, c_spec_l26Marked), (118, c_spec_l26Marks)]) (cutL [(1, 9), (19, 31), (14, 13)]) Try.f82 (bodyOf Try.f82) (.s .n (.s .n (.s (.s .n (.l [(9, (.ref 800009 [])), (10, (.d (.int .i64)))] [(800009, (.sl (.sl (.fz .bool))))] [3, 7, 8] (.s .n (.s (.s .n (.s (.s .n (.l [(9, (.ref 800009 [])), (11, (.ref 36 [])), (12, (.d (.int .i64)))] [(800009, (.sl (.sl (.fz .bool)))), (36, (.sl (.fz .bool)))] [3, 7, 8, 10] .n)) .n)) .n)))) (.s (.s .n (.l [(9, (.ref 800009 [])), (13, (.d (.int .i64)))] [(800009, (.sl (.sl (.fz .bool))))] [3, 7, 8] (.s .n (.s (.s .n (.s .n (.l [(9, (.ref 800009 [])), (16, (.d (.int .i64)))] [(800009, (.sl (.sl (.fz .bool))))] [3, 7, 8, 13, 14, 15] .n))) .n)))) .n)))) c_spec_l26Imply x K = W_spec_l26Imply x.1 x.2.1 x.2.2.1 K := by kernel_rfl
theorem k_spec_l26Imply : okC Try.f82.ntmps (cutL [(1, 9), (19, 31), (14, 13)]) (bodyOf Try.f82) = true := by kernel_rfl
theorem m_spec_l26Imply (f : SetFunctorD) (p : List (List Int)) (q : List (List Int)) (hok : allP (okL c_spec_l26Imply.args (f, p, q, ()))) (hpre : allP (c_spec_l26Imply.pre (f, p, q, ()))) : W_spec_l26Imply f p q (fun r => r = c_spec_l26Imply.res (f, p, q, ())) := by
  simp only [c_spec_l26Imply, okL, T.oks, T.ok, ap, allP, true_and, and_true, implies_true] at hok hpre
  try dsimp only [T.den] at hok
  try dsimp only [T.den] at hpre
  unfold W_spec_l26Imply
  obtain ⟨S, hp, hq⟩ := hpre
  have C := cat_shape S.cat
  have hm := C.m
  have hlt := C.lt
  have hla := S.la
  have hob := C.ob
  have hlz := S.lz
  have hn8 : f.2.1.length ≤ 8 := by omega
  have hml : ∀ p, ((marksR f p).length : Int) = f.2.1.length := fun p => by unfold marksR; rw [tabN_len]
  have hmr : ∀ p (x : Int), 0 ≤ x → x < f.2.1.length → (((marksR f p).getD x.toNat []).length : Int) = f.2.1.getD x.toNat 0 := fun p x h0 h1 => by
    have := S.size h0 (by omega)
    unfold marksR; rw [tabN_get h0 h1, tabN_len]; omega
  have hmg : ∀ p (x e : Int), 0 ≤ x → x < f.2.1.length → 0 ≤ e → e < f.2.1.getD x.toNat 0 → ((marksR f p).getD x.toNat []).getD e.toNat false = mem2 p x e := fun p x e h0 h1 e0 e1 => by
    unfold marksR; rw [tabN_get h0 h1, tabN_get e0 (by omega)]
  refine ⟨S, hp, S, hq, ?_⟩
  refine loop_of (fun (s : ((Unit × (Int × Unit)) × ((List (List Bool)) × Unit))) => 0 ≤ s.1.2.1 ∧ s.1.2.1 ≤ f.2.1.length ∧ s.2.1 = tabN s.1.2.1.toNat fun x => tabN (f.2.1.getD x.toNat 0).toNat fun _ => true) (fun (s : ((Unit × (Int × Unit)) × ((List (List Bool)) × Unit))) => (f.2.1.length - s.1.2.1).toNat) ?_ ⟨by simp, by simp, rfl⟩
  rintro ⟨⟨_, i, _⟩, L, _⟩ next ⟨h0, h1, h2⟩ hn hin _
  try dsimp only at h0 h1 h2 hn ⊢
  refine cnd_d (fun hc => ?_) (fun hc => ?_)
  · rw [hml] at hc
    have hz := S.size h0 (by omega)
    have hL : L.length = i.toNat := by rw [h2, tabN_len]
    have hr1 := hmr p i h0 hc
    rw [hr1]
    refine ⟨h0, by rw [hml]; omega, hz.1, Int.le_refl _, by omega, by omega, ?_⟩
    refine loop_of (fun (s : ((Unit × (Unit × (Int × Unit))) × ((List (List Bool)) × ((List Bool) × Unit)))) => s.2.1 = L ∧ 0 ≤ s.1.2.2.1 ∧ s.1.2.2.1 ≤ f.2.1.getD i.toNat 0 ∧ s.2.2.1 = tabN (f.2.1.getD i.toNat 0).toNat fun y => decide (y < s.1.2.2.1)) (fun (s : ((Unit × (Unit × (Int × Unit))) × ((List (List Bool)) × ((List Bool) × Unit)))) => (f.2.1.getD i.toNat 0 - s.1.2.2.1).toNat) ?_ ⟨rfl, by simp, hz.1, ?_⟩
    · rintro ⟨⟨_, _, j, _⟩, L', R, _⟩ next1 ⟨k0, k1, k2, k3⟩ hn1 hin1 _ _
      try dsimp only at k0 k1 k2 k3 hn1 ⊢
      subst k0
      have hR : (R.length : Int) = f.2.1.getD i.toNat 0 := by rw [k3, tabN_len]; omega
      refine cnd_d (fun hd => ⟨k1, hd, by rw [inK64]; (try dsimp only); omega, hn1 _ ⟨rfl, (by first | omega | (dsimp only; omega)), (by first | omega | (dsimp only; omega)), ?_⟩ (by first | omega | (dsimp only; omega))⟩) (fun hd => ⟨room_of (by simp only [List.length_cons, List.length_nil]; omega), by rw [inK64]; (try dsimp only); omega, hn _ ⟨(by first | omega | (dsimp only; omega)), (by first | omega | (dsimp only; omega)), ?_⟩ (by first | omega | (dsimp only; omega))⟩)
      · try dsimp only
        rw [k3, tab_set k1 (by omega)]
        refine tabN_congr fun y _ _ => ?_
        by_cases hy : y = j
        · rw [if_pos hy]; exact (decide_eq_true (by omega)).symm
        · rw [if_neg hy]; exact decide_eq_decide.2 (by omega)
      · try dsimp only
        rw [tabN_s h0, ← h2, k3]
        congr 2
        exact tabN_congr fun y _ hy => decide_eq_true (by omega)
    · rw [tab_rep]
      exact tabN_congr fun y hy _ => (decide_eq_false (by dsimp only; omega)).symm
  · rw [hml] at hc
    have hi : i = f.2.1.length := by omega
    have hL : L = tab2 f.2.1.length (fun x => f.2.1.getD x.toNat 0) fun x e => allB (0 : Int).toNat (impC f p q x e) := by rw [h2, hi]; rfl
    clear h2 hn hin
    refine loop_of (fun (s : ((Unit × (Int × Unit)) × ((List (List Bool)) × Unit))) => 0 ≤ s.1.2.1 ∧ s.1.2.1 ≤ f.2.2.length ∧ s.2.1 = tab2 f.2.1.length (fun x => f.2.1.getD x.toNat 0) fun x e => allB s.1.2.1.toNat (impC f p q x e)) (fun (s : ((Unit × (Int × Unit)) × ((List (List Bool)) × Unit))) => (f.2.2.length - s.1.2.1).toNat) ?_ ⟨by simp, by simp, hL⟩
    rintro ⟨⟨_, a, _⟩, L, _⟩ next ⟨a0, a1, a2⟩ hn hin _
    try dsimp only at a0 a1 a2 hn ⊢
    refine cnd_d (fun hd => ?_) (fun hd => ?_)
    · have hf := within_iff.1 C.fr a a0 (by omega)
      have hto := within_iff.1 C.to a a0 (by omega)
      have hact := S.act a a0 (by omega)
      have hzf := S.size hf.1 hf.2
      refine ⟨a0, by omega, a0, by omega, ?_⟩
      refine loop_of (fun (s : ((Unit × (Int × Unit)) × ((List (List Bool)) × Unit))) => 0 ≤ s.1.2.1 ∧ s.1.2.1 ≤ (f.2.2.getD a.toNat []).length ∧ s.2.1 = tab2 f.2.1.length (fun x => f.2.1.getD x.toNat 0) fun x e => allB a.toNat (impC f p q x e) && (!decide (x = f.1.2.1.getD a.toNat 0 ∧ e < s.1.2.1) || impC f p q x e a)) (fun (s : ((Unit × (Int × Unit)) × ((List (List Bool)) × Unit))) => ((f.2.2.getD a.toNat []).length - s.1.2.1).toNat) ?_ ⟨by simp, by simp, ?_⟩
      · rintro ⟨⟨_, e, _⟩, R, _⟩ next1 ⟨e0, e1, e2⟩ hn1 hin1 _
        try dsimp only at e0 e1 e2 hn1 ⊢
        have hRl : R.length = f.2.1.length := by rw [e2, tab2_len]
        refine ⟨a0, hd, cnd_d (fun he => ?_) (fun he => ?_)⟩
        · have hrow : (R.getD (f.1.2.1.getD a.toNat 0).toNat []).length = (f.2.1.getD (f.1.2.1.getD a.toNat 0).toNat 0).toNat := by rw [e2, tab2_row hf.1 (by omega), tabN_len]
          have hval : (R.getD (f.1.2.1.getD a.toNat 0).toNat []).getD e.toNat false = allB a.toNat (impC f p q (f.1.2.1.getD a.toNat 0) e) := by
            rw [e2, tab2_get hf.1 (by omega) e0 (by omega), show decide (f.1.2.1.getD a.toNat 0 = f.1.2.1.getD a.toNat 0 ∧ e < e) = false from decide_eq_false (by omega)]
            simp
          have hd2 := within_iff.1 hact.2 e e0 he
          have gp := hmg p _ _ hto.1 (by omega) hd2.1 hd2.2
          have gq := hmg q _ _ hto.1 (by omega) hd2.1 hd2.2
          have lp := hml p
          have lq := hml q
          have rp := hmr p _ hto.1 (by omega)
          have rq := hmr q _ hto.1 (by omega)
          refine ⟨a0, hd, e0, he, hf.1, by omega, hf.1, by omega, e0, by omega, fun _ => ⟨by omega, hto.1⟩, fun _ => ⟨by omega, hd2.1⟩, fun _ => ⟨by omega, hto.1⟩, fun _ => ⟨by omega, hd2.1⟩, e0, by omega, by rw [inK64]; (try dsimp only); omega, hn1 _ ⟨(by first | omega | (dsimp only; omega)), (by first | omega | (dsimp only; omega)), ?_⟩ (by first | omega | (dsimp only; omega))⟩
          try dsimp only
          rw [hval, gp, gq, e2, tab2_set hf.1 (by omega) e0 (by omega)]
          refine tab2_congr fun y d _ _ _ _ => ?_
          by_cases hy : y = f.1.2.1.getD a.toNat 0 ∧ d = e
          · rw [if_pos hy, hy.1, hy.2, show decide (f.1.2.1.getD a.toNat 0 = f.1.2.1.getD a.toNat 0 ∧ e < e + 1) = true from decide_eq_true (by omega)]
            simp [impC]
            rfl
          · rw [if_neg hy]
            congr 3
            exact decide_eq_decide.2 (by omega)
        · have he' : e = (f.2.2.getD a.toNat []).length := by omega
          refine ⟨by rw [inK64]; (try dsimp only); omega, hn _ ⟨(by first | omega | (dsimp only; omega)), (by first | omega | (dsimp only; omega)), ?_⟩ (by first | omega | (dsimp only; omega))⟩
          try dsimp only
          rw [e2]
          refine tab2_congr fun y d _ _ _ hy => ?_
          rw [allB_s a0]
          congr 1
          by_cases hx : y = f.1.2.1.getD a.toNat 0
          · rw [show decide (y = f.1.2.1.getD a.toNat 0 ∧ d < e) = true from decide_eq_true ⟨hx, by subst hx; omega⟩]; rfl
          · have : impC f p q y d a = true := by unfold impC; rw [show (f.1.2.1.getD a.toNat 0 == y) = false from by rw [beq_eq_false_iff_ne]; exact fun h => hx h.symm]; rfl
            rw [this, Bool.or_true]
      · rw [a2]
        refine tab2_congr fun y d _ _ hy _ => ?_
        rw [show decide (y = f.1.2.1.getD a.toNat 0 ∧ d < (0 : Int)) = false from decide_eq_false (by omega)]
        simp
    · have ha : a = f.2.2.length := by omega
      have hv : markedR L = implyR f p q := by
        rw [a2, ha, Int.toNat_natCast, hla, marked_tab2]; rfl
      simp only [c_spec_l26Imply, hv]
      refine ⟨⟨by rw [a2, tab2_len]; omega, fun r hr => ?_⟩, trivial⟩
      rw [a2] at hr
      unfold tab2 at hr
      rw [tabN_mem] at hr
      obtain ⟨y, y0, y1, rfl⟩ := hr
      have := S.size y0 (by omega)
      rw [tabN_len]; dsimp only; omega
theorem ct_spec_l26Imply : CtOk Try.prog 82 c_spec_l26Imply :=
  ct_by (Φ := lkp [(119, c_spec_l26Marked), (118, c_spec_l26Marks)]) (good_cons ct_spec_l26Marked (good_cons ct_spec_l26Marks good_nil)) tab_ok (by kernel_rfl) (fn := Try.f82) (c := bodyOf Try.f82) (by kernel_rfl) (by kernel_rfl) (by kernel_rfl) c_spec_l26Imply rfl (.s .n (.s .n (.s (.s .n (.l [(9, (.ref 800009 [])), (10, (.d (.int .i64)))] [(800009, (.sl (.sl (.fz .bool))))] [3, 7, 8] (.s .n (.s (.s .n (.s (.s .n (.l [(9, (.ref 800009 [])), (11, (.ref 36 [])), (12, (.d (.int .i64)))] [(800009, (.sl (.sl (.fz .bool)))), (36, (.sl (.fz .bool)))] [3, 7, 8, 10] .n)) .n)) .n)))) (.s (.s .n (.l [(9, (.ref 800009 [])), (13, (.d (.int .i64)))] [(800009, (.sl (.sl (.fz .bool))))] [3, 7, 8] (.s .n (.s (.s .n (.s .n (.l [(9, (.ref 800009 [])), (16, (.d (.int .i64)))] [(800009, (.sl (.sl (.fz .bool))))] [3, 7, 8, 13, 14, 15] .n))) .n)))) .n)))) (cutL [(1, 9), (19, 31), (14, 13)]) (by kernel_rfl) (by kernel_rfl) k_spec_l26Imply (by decide) (fun x K => W_spec_l26Imply x.1 x.2.1 x.2.2.1 K) w_spec_l26Imply (fun x h1 h2 => m_spec_l26Imply x.1 x.2.1 x.2.2.1 h1 h2)
def c_spec_l26Join : Ct := ⟨[SetFunctorT, (.sl (.sl (.int .i64))), (.sl (.sl (.int .i64)))], [true, false, false], fun x => [SfP x.1, PrtP x.1 x.2.1, PrtP x.1 x.2.2.1], [(false, (.sl (.sl (.fz (.int .i64)))))], fun x => (joinPR x.1 x.2.1 x.2.2.1, ()), false, none⟩
def W_spec_l26Join (f : SetFunctorD) (p : List (List Int)) (q : List (List Int)) (K : (List (List Int)) × Unit → Prop) : Prop := ((SfP f) ∧ ((PrtP f p) ∧ ((SfP f) ∧ ((PrtP f q) ∧ (loopW (S := ((Unit × (Int × Unit)) × ((List (List Bool)) × Unit))) (fun s => (fun next => ((inK IntKind.i64 s.1.2.1) → ((T.ok (T.sl (T.sl T.bool)) s.2.1) → (cnd (decide (s.1.2.1 < (((List.length s.2.1) : Nat) : Int))) (loopW (S := ((Unit × (Int × Unit)) × ((List (List Bool)) × Unit))) (fun s1 => (fun next1 => ((inK IntKind.i64 s1.1.2.1) → ((T.ok (T.sl (T.sl T.bool)) s1.2.1) → (((0 : Int) ≤ s.1.2.1) ∧ ((s.1.2.1 < (((List.length s1.2.1) : Nat) : Int)) ∧ (cnd (decide (s1.1.2.1 < (((List.length (List.getD s1.2.1 (Int.toNat s.1.2.1) ([] : List Bool))) : Nat) : Int))) (((0 : Int) ≤ s.1.2.1) ∧ ((s.1.2.1 < (((List.length s1.2.1) : Nat) : Int)) ∧ (((0 : Int) ≤ s.1.2.1) ∧ ((s.1.2.1 < (((List.length s1.2.1) : Nat) : Int)) ∧ (((0 : Int) ≤ s1.1.2.1) ∧ ((s1.1.2.1 < (((List.length (List.getD s1.2.1 (Int.toNat s.1.2.1) ([] : List Bool))) : Nat) : Int)) ∧ ((((List.getD (List.getD s1.2.1 (Int.toNat s.1.2.1) ([] : List Bool)) (Int.toNat s1.1.2.1) Bool.false) = Bool.false) → ((s.1.2.1 < (((List.length (marksR f q)) : Nat) : Int)) ∧ ((0 : Int) ≤ s.1.2.1))) ∧ ((((List.getD (List.getD s1.2.1 (Int.toNat s.1.2.1) ([] : List Bool)) (Int.toNat s1.1.2.1) Bool.false) = Bool.false) → ((s1.1.2.1 < (((List.length (List.getD (marksR f q) (Int.toNat s.1.2.1) ([] : List Bool))) : Nat) : Int)) ∧ ((0 : Int) ≤ s1.1.2.1))) ∧ (((0 : Int) ≤ s1.1.2.1) ∧ ((s1.1.2.1 < (((List.length (List.getD s1.2.1 (Int.toNat s.1.2.1) ([] : List Bool))) : Nat) : Int)) ∧ ((inK IntKind.i64 (s1.1.2.1 + (1 : Int))) ∧ (next1 (((), ((s1.1.2.1 + (1 : Int)), ())), ((List.set s1.2.1 (Int.toNat s.1.2.1) (List.set (List.getD s1.2.1 (Int.toNat s.1.2.1) ([] : List Bool)) (Int.toNat s1.1.2.1) ((List.getD (List.getD s1.2.1 (Int.toNat s.1.2.1) ([] : List Bool)) (Int.toNat s1.1.2.1) Bool.false) || (List.getD (List.getD (marksR f q) (Int.toNat s.1.2.1) ([] : List Bool)) (Int.toNat s1.1.2.1) Bool.false)))), ())))))))))))))) ((inK IntKind.i64 (s.1.2.1 + (1 : Int))) ∧ (next (((), ((s.1.2.1 + (1 : Int)), ())), (s1.2.1, ()))))))))))) (((), ((0 : Int), ())), (s.2.1, ()))) ((SmallM s.2.1) ∧ (K ((markedR s.2.1), ())))))))) (((), ((0 : Int), ())), ((marksR f p), ())))))))
theorem w_spec_l26Join (x : denL c_spec_l26Join.args) (K : (List (List Int)) × Unit → Prop) : evF tab (lkp [(119, c_spec_l26Marked), (118, c_spec_l26Marks)]) (cutL [(1, 505), (8, 21)]) Try.f79 (bodyOf Try.f79) (.s .n (.s .n (.s (.s .n (.l [(7, (.ref 101300 [])), (9, (.d (.int .i64)))] [(101300, (.sl (.sl (.fz .bool))))] [8] (.s .n (.s (.s .n (.l [(7, (.ref 101300 [])), (10, (.d (.int .i64)))] [(101300, (.sl (.sl (.fz .bool))))] [8, 9] .n)) .n)))) .n))) c_spec_l26Join x K = W_spec_l26Join x.1 x.2.1 x.2.2.1 K := by kernel_rfl
theorem k_spec_l26Join : okC Try.f79.ntmps (cutL [(1, 505), (8, 21)]) (bodyOf Try.f79) = true := by kernel_rfl
theorem m_spec_l26Join (f : SetFunctorD) (p : List (List Int)) (q : List (List Int)) (hok : allP (okL c_spec_l26Join.args (f, p, q, ()))) (hpre : allP (c_spec_l26Join.pre (f, p, q, ()))) : W_spec_l26Join f p q (fun r => r = c_spec_l26Join.res (f, p, q, ())) := by
  simp only [c_spec_l26Join, okL, T.oks, T.ok, ap, allP, true_and, and_true, implies_true] at hok hpre
  try dsimp only [T.den] at hok
  try dsimp only [T.den] at hpre
  unfold W_spec_l26Join
  obtain ⟨S, hp, hq⟩ := hpre
  have hlz := S.lz
  have hob := (cat_shape S.cat).ob
  have hm : ∀ p, marksR f p = tab2 f.2.1.length (fun x => f.2.1.getD x.toNat 0) (mem2 p) := fun p => rfl
  refine ⟨S, hp, S, hq, ?_⟩
  have hql := hm q
  refine loop_of (fun (s : ((Unit × (Int × Unit)) × ((List (List Bool)) × Unit))) => 0 ≤ s.1.2.1 ∧ s.1.2.1 ≤ f.2.1.length ∧ s.2.1 = tab2 f.2.1.length (fun x => f.2.1.getD x.toNat 0) fun x e => mem2 p x e || (decide (x < s.1.2.1) && mem2 q x e)) (fun (s : ((Unit × (Int × Unit)) × ((List (List Bool)) × Unit))) => (f.2.1.length - s.1.2.1).toNat) ?_ ⟨by simp, by simp, ?_⟩
  · rintro ⟨⟨_, x, _⟩, L, _⟩ next ⟨x0, x1, x2⟩ hn hin _
    try dsimp only at x0 x1 x2 hn ⊢
    have hL : L.length = f.2.1.length := by rw [x2, tab2_len]
    refine cnd_d (fun hc => ?_) (fun hc => ?_)
    · rw [hL] at hc
      have hz := S.size x0 (by omega)
      refine loop_of (fun (s : ((Unit × (Int × Unit)) × ((List (List Bool)) × Unit))) => 0 ≤ s.1.2.1 ∧ s.1.2.1 ≤ f.2.1.getD x.toNat 0 ∧ s.2.1 = tab2 f.2.1.length (fun x => f.2.1.getD x.toNat 0) fun y e => mem2 p y e || (decide (y < x ∨ y = x ∧ e < s.1.2.1) && mem2 q y e)) (fun (s : ((Unit × (Int × Unit)) × ((List (List Bool)) × Unit))) => (f.2.1.getD x.toNat 0 - s.1.2.1).toNat) ?_ ⟨by simp, hz.1, ?_⟩
      · rintro ⟨⟨_, e, _⟩, R, _⟩ next1 ⟨e0, e1, e2⟩ hn1 hin1 _
        try dsimp only at e0 e1 e2 hn1 ⊢
        have hRl : R.length = f.2.1.length := by rw [e2, tab2_len]
        have hrow : ((R.getD x.toNat []).length : Int) = f.2.1.getD x.toNat 0 := by rw [e2, tab2_row x0 hc, tabN_len]; omega
        have hqr : (((marksR f q).getD x.toNat []).length : Int) = f.2.1.getD x.toNat 0 := by rw [hql, tab2_row x0 hc, tabN_len]; omega
        have hql2 : (marksR f q).length = f.2.1.length := by rw [hql, tab2_len]
        refine ⟨x0, by omega, cnd_d (fun he => ?_) (fun he => ?_)⟩
        · rw [hrow] at he
          have hval : (R.getD x.toNat []).getD e.toNat false = mem2 p x e := by
            rw [e2, tab2_get x0 hc e0 he, show decide (x < x ∨ x = x ∧ e < e) = false from decide_eq_false (by omega)]
            simp
          have hqv : ((marksR f q).getD x.toNat []).getD e.toNat false = mem2 q x e := by rw [hql, tab2_get x0 hc e0 he]
          refine ⟨x0, by omega, x0, by omega, e0, by omega, fun _ => ⟨by omega, x0⟩, fun _ => ⟨by omega, e0⟩, e0, by omega, by rw [inK64]; (try dsimp only); omega, hn1 _ ⟨(by first | omega | (dsimp only; omega)), (by first | omega | (dsimp only; omega)), ?_⟩ (by first | omega | (dsimp only; omega))⟩
          try dsimp only
          rw [hval, hqv, e2, tab2_set x0 hc e0 he]
          refine tab2_congr fun y d _ _ _ _ => ?_
          by_cases hy : y = x ∧ d = e
          · rw [if_pos hy, hy.1, hy.2, show decide (x < x ∨ x = x ∧ e < e + 1) = true from decide_eq_true (by omega)]
            simp
          · rw [if_neg hy]
            congr 2
            exact decide_eq_decide.2 (by omega)
        · refine ⟨by rw [inK64]; (try dsimp only); omega, hn _ ⟨(by first | omega | (dsimp only; omega)), (by first | omega | (dsimp only; omega)), ?_⟩ (by first | omega | (dsimp only; omega))⟩
          try dsimp only
          rw [e2]
          refine tab2_congr fun y d _ _ _ hy => ?_
          try dsimp only at hy
          congr 2
          refine decide_eq_decide.2 ⟨fun h => by omega, fun h => ?_⟩
          by_cases hyx : y = x
          · subst hyx; right; exact ⟨rfl, by omega⟩
          · left; omega
      · try dsimp only
        rw [x2]
        refine tab2_congr fun y d _ _ hy _ => ?_
        congr 2
        exact decide_eq_decide.2 (by omega)
    · have hx : x = f.2.1.length := by omega
      have hv : markedR L = joinPR f p q := by
        rw [x2, marked_tab2]
        refine tabN_congr fun y y0 y1 => sel_congr fun e e0 e1 => ?_
        rw [show decide (y < x) = true from decide_eq_true (by omega), Bool.true_and]
      simp only [c_spec_l26Join, hv]
      refine ⟨⟨by rw [x2, tab2_len]; omega, fun r hr => ?_⟩, trivial⟩
      rw [x2] at hr
      unfold tab2 at hr
      rw [tabN_mem] at hr
      obtain ⟨y, y0, y1, rfl⟩ := hr
      have := S.size y0 (by omega)
      rw [tabN_len]; dsimp only; omega
  · rw [hm p]
    refine tab2_congr fun y d _ _ hy _ => ?_
    rw [show decide (y < (0 : Int)) = false from decide_eq_false (by omega)]
    simp
theorem ct_spec_l26Join : CtOk Try.prog 79 c_spec_l26Join :=
  ct_by (Φ := lkp [(119, c_spec_l26Marked), (118, c_spec_l26Marks)]) (good_cons ct_spec_l26Marked (good_cons ct_spec_l26Marks good_nil)) tab_ok (by kernel_rfl) (fn := Try.f79) (c := bodyOf Try.f79) (by kernel_rfl) (by kernel_rfl) (by kernel_rfl) c_spec_l26Join rfl (.s .n (.s .n (.s (.s .n (.l [(7, (.ref 101300 [])), (9, (.d (.int .i64)))] [(101300, (.sl (.sl (.fz .bool))))] [8] (.s .n (.s (.s .n (.l [(7, (.ref 101300 [])), (10, (.d (.int .i64)))] [(101300, (.sl (.sl (.fz .bool))))] [8, 9] .n)) .n)))) .n))) (cutL [(1, 505), (8, 21)]) (by kernel_rfl) (by kernel_rfl) k_spec_l26Join (by decide) (fun x K => W_spec_l26Join x.1 x.2.1 x.2.2.1 K) w_spec_l26Join (fun x h1 h2 => m_spec_l26Join x.1 x.2.1 x.2.2.1 h1 h2)
def c_spec_l26Empty : Ct := ⟨[SetFunctorT], [true], fun x => [SfP x.1], [(false, (.sl (.sl (.fz (.int .i64)))))], fun x => (emptyR x.1, ()), false, none⟩
def W_spec_l26Empty (f : SetFunctorD) (K : (List (List Int)) × Unit → Prop) : Prop := (loopW (S := ((Unit × (Int × Unit)) × ((List (List Int)) × Unit))) (fun s => (fun next => ((inK IntKind.i64 s.1.2.1) → ((T.ok (T.sl (T.sl (T.int IntKind.i64))) s.2.1) → (cnd (decide (s.1.2.1 < (((List.length f.2.1) : Nat) : Int))) ((room (List.length s.2.1) (List.length (([] : List Int) :: ([] : List (List Int)))) 24) ∧ ((inK IntKind.i64 (s.1.2.1 + (1 : Int))) ∧ (next (((), ((s.1.2.1 + (1 : Int)), ())), ((s.2.1 ++ (([] : List Int) :: ([] : List (List Int)))), ()))))) (K (s.2.1, ()))))))) (((), ((0 : Int), ())), (([] : List (List Int)), ())))
theorem w_spec_l26Empty (x : denL c_spec_l26Empty.args) (K : (List (List Int)) × Unit → Prop) : evF tab (lkp []) (cutL []) Try.f114 (bodyOf Try.f114) (.s .n (.s .n (.s (.s .n (.l [(3, (.ref 800003 [])), (4, (.d (.int .i64)))] [(800003, (.sl (.sl (.fz (.int .i64)))))] [1] .n)) .n))) c_spec_l26Empty x K = W_spec_l26Empty x.1 K := by kernel_rfl
theorem k_spec_l26Empty : okC Try.f114.ntmps (cutL []) (bodyOf Try.f114) = true := by kernel_rfl
theorem m_spec_l26Empty (f : SetFunctorD) (hok : allP (okL c_spec_l26Empty.args (f, ()))) (hpre : allP (c_spec_l26Empty.pre (f, ()))) : W_spec_l26Empty f (fun r => r = c_spec_l26Empty.res (f, ())) := by
  simp only [c_spec_l26Empty, okL, T.oks, T.ok, ap, allP, true_and, and_true, implies_true] at hok hpre
  try dsimp only [T.den] at hok
  try dsimp only [T.den] at hpre
  unfold W_spec_l26Empty
  refine loop_of (fun (s : ((Unit × (Int × Unit)) × ((List (List Int)) × Unit))) => 0 ≤ s.1.2.1 ∧ s.1.2.1 ≤ f.2.1.length ∧ s.2.1 = tabN s.1.2.1.toNat fun _ => []) (fun (s : ((Unit × (Int × Unit)) × ((List (List Int)) × Unit))) => (f.2.1.length - s.1.2.1).toNat) ?_ ⟨by simp, by simp, rfl⟩
  rintro ⟨⟨_, i, _⟩, L, _⟩ next ⟨h0, h1, h2⟩ hn hin _
  try dsimp only at h0 h1 h2 hn ⊢
  have S : SfP f := hpre
  have hlz := S.lz
  have hob := (cat_shape S.cat).ob
  have hL : L.length = i.toNat := by rw [h2, tabN_len]
  refine cnd_d (fun hc => ⟨room_of (by simp only [List.length_cons, List.length_nil]; omega), by rw [inK64]; (try dsimp only); omega, hn _ ⟨(by first | omega | (dsimp only; omega)), (by first | omega | (dsimp only; omega)), ?_⟩ (by first | omega | (dsimp only; omega))⟩) (fun hc => ?_)
  · try dsimp only; rw [tabN_s h0, ← h2]
  · have hi : i = f.2.1.length := by omega
    simp only [c_spec_l26Empty, emptyR]; rw [h2, hi]; simp
theorem ct_spec_l26Empty : CtOk Try.prog 114 c_spec_l26Empty :=
  ct_by (Φ := lkp []) good_nil tab_ok (by kernel_rfl) (fn := Try.f114) (c := bodyOf Try.f114) (by kernel_rfl) (by kernel_rfl) (by kernel_rfl) c_spec_l26Empty rfl (.s .n (.s .n (.s (.s .n (.l [(3, (.ref 800003 [])), (4, (.d (.int .i64)))] [(800003, (.sl (.sl (.fz (.int .i64)))))] [1] .n)) .n))) (cutL []) (by kernel_rfl) (by kernel_rfl) k_spec_l26Empty (by decide) (fun x K => W_spec_l26Empty x.1 K) w_spec_l26Empty (fun x h1 h2 => m_spec_l26Empty x.1 h1 h2)
def c_spec_l26Not : Ct := ⟨[SetFunctorT, (.sl (.sl (.int .i64)))], [true, false], fun x => [SfP x.1, PrtP x.1 x.2.1], [(false, (.sl (.sl (.fz (.int .i64)))))], fun x => (implyR x.1 x.2.1 (emptyR x.1), ()), false, none⟩
def W_spec_l26Not (f : SetFunctorD) (p : List (List Int)) (K : (List (List Int)) × Unit → Prop) : Prop := ((SfP f) ∧ ((SfP f) ∧ ((PrtP f p) ∧ ((PrtP f (emptyR f)) ∧ (K ((implyR f p (emptyR f)), ()))))))
theorem w_spec_l26Not (x : denL c_spec_l26Not.args) (K : (List (List Int)) × Unit → Prop) : evF tab (lkp [(114, c_spec_l26Empty), (82, c_spec_l26Imply)]) (cutL [(1, 4)]) Try.f75 (bodyOf Try.f75) .n c_spec_l26Not x K = W_spec_l26Not x.1 x.2.1 K := by kernel_rfl
theorem k_spec_l26Not : okC Try.f75.ntmps (cutL [(1, 4)]) (bodyOf Try.f75) = true := by kernel_rfl
theorem m_spec_l26Not (f : SetFunctorD) (p : List (List Int)) (hok : allP (okL c_spec_l26Not.args (f, p, ()))) (hpre : allP (c_spec_l26Not.pre (f, p, ()))) : W_spec_l26Not f p (fun r => r = c_spec_l26Not.res (f, p, ())) := by
  simp only [c_spec_l26Not, okL, T.oks, T.ok, ap, allP, true_and, and_true, implies_true] at hok hpre
  try dsimp only [T.den] at hok
  try dsimp only [T.den] at hpre
  unfold W_spec_l26Not
  obtain ⟨S, hp⟩ := hpre
  exact ⟨S, S, hp, by rw [← empty_of f]; exact PrtP.of S _, rfl⟩
theorem ct_spec_l26Not : CtOk Try.prog 75 c_spec_l26Not :=
  ct_by (Φ := lkp [(114, c_spec_l26Empty), (82, c_spec_l26Imply)]) (good_cons ct_spec_l26Empty (good_cons ct_spec_l26Imply good_nil)) tab_ok (by kernel_rfl) (fn := Try.f75) (c := bodyOf Try.f75) (by kernel_rfl) (by kernel_rfl) (by kernel_rfl) c_spec_l26Not rfl .n (cutL [(1, 4)]) (by kernel_rfl) (by kernel_rfl) k_spec_l26Not (by decide) (fun x K => W_spec_l26Not x.1 x.2.1 K) w_spec_l26Not (fun x h1 h2 => m_spec_l26Not x.1 x.2.1 h1 h2)
def c_spec_IsComplemented : Ct := ⟨[SetFunctorT, PartT], [true, true], fun x => [], [(false, (.fz .bool)), (false, (.fz (.int .i64)))], fun x => ((setfR x.1 && isPartR x.1 x.2.1 && fullR x.1 (joinPR x.1 x.2.1 (implyR x.1 x.2.1 (emptyR x.1)))), codPR (setfR x.1 && isPartR x.1 x.2.1), ()), false, none⟩
def W_spec_IsComplemented (f : SetFunctorD) (p : PartD) (K : Bool × Int × Unit → Prop) : Prop := (cnd (!((setfR f) && (isPartR f p))) (K (Bool.false, ((1 : Int), ()))) ((SfP f) ∧ ((PrtP f p) ∧ ((SfP f) ∧ ((PrtP f p) ∧ ((PrtP f (implyR f p (emptyR f))) ∧ (((List.length (joinPR f p (implyR f p (emptyR f)))) = (List.length f.2.1)) ∧ (K ((fullR f (joinPR f p (implyR f p (emptyR f)))), ((0 : Int), ()))))))))))
theorem w_spec_IsComplemented (x : denL c_spec_IsComplemented.args) (K : Bool × Int × Unit → Prop) : evF tab (lkp [(73, c_spec_IsPart), (74, c_spec_l26Full), (79, c_spec_l26Join), (75, c_spec_l26Not)]) (cutL [(3, 509)]) Try.f39 (bodyOf Try.f39) .n c_spec_IsComplemented x K = W_spec_IsComplemented x.1 x.2.1 K := by kernel_rfl
theorem k_spec_IsComplemented : okC Try.f39.ntmps (cutL [(3, 509)]) (bodyOf Try.f39) = true := by kernel_rfl
theorem m_spec_IsComplemented (f : SetFunctorD) (p : PartD) (hok : allP (okL c_spec_IsComplemented.args (f, p, ()))) (hpre : allP (c_spec_IsComplemented.pre (f, p, ()))) : W_spec_IsComplemented f p (fun r => r = c_spec_IsComplemented.res (f, p, ())) := by
  simp only [c_spec_IsComplemented, okL, T.oks, T.ok, ap, allP, true_and, and_true, implies_true] at hok hpre
  try dsimp only [T.den] at hok
  try dsimp only [T.den] at hpre
  unfold W_spec_IsComplemented
  refine cnd_of (fun hx => ?_) (fun hx => ?_)
  · have h : (setfR f && isPartR f p) = false := by rw [Bool.not_eq_true'] at hx; exact hx
    simp only [c_spec_IsComplemented, h, Bool.false_and, codP_f]
  · have h : (setfR f && isPartR f p) = true := by simpa using hx
    obtain ⟨h1, h2⟩ := Bool.and_eq_true_iff.1 h
    have S := setf_sf h1
    have hp := isPart_prt S h2
    have hN : PrtP f (implyR f p (emptyR f)) := PrtP.of S _
    have hE : PrtP f (emptyR f) := by rw [← empty_of f]; exact PrtP.of S _
    refine ⟨S, hp, S, hp, hN, tabN_len _, ?_⟩
    simp only [c_spec_IsComplemented, h, Bool.true_and, codP_t]
theorem ct_spec_IsComplemented : CtOk Try.prog 39 c_spec_IsComplemented :=
  ct_by (Φ := lkp [(73, c_spec_IsPart), (74, c_spec_l26Full), (79, c_spec_l26Join), (75, c_spec_l26Not)]) (good_cons ct_spec_IsPart (good_cons ct_spec_l26Full (good_cons ct_spec_l26Join (good_cons ct_spec_l26Not good_nil)))) tab_ok (by kernel_rfl) (fn := Try.f39) (c := bodyOf Try.f39) (by kernel_rfl) (by kernel_rfl) (by kernel_rfl) c_spec_IsComplemented rfl .n (cutL [(3, 509)]) (by kernel_rfl) (by kernel_rfl) k_spec_IsComplemented (by decide) (fun x K => W_spec_IsComplemented x.1 x.2.1 K) w_spec_IsComplemented (fun x h1 h2 => m_spec_IsComplemented x.1 x.2.1 h1 h2)
def c_laws_FnExactIsComplemented : Ct := ⟨[SetFunctorT, PartT], [true, true], fun x => [], [(false, (.fz .bool))], fun x => (true, ()), false, none⟩
def W_laws_FnExactIsComplemented (aF : SetFunctorD) (aP : PartD) (K : Bool × Unit → Prop) : Prop := (((-(4611404543450677248 : Int)) ≤ (1048576 : Int)) ∧ (cnd (decide ((szR (wR SetFunctorT aF) (1048576 : Int)) < (0 : Int))) (K (Bool.true, ())) (((-(4611404543450677248 : Int)) ≤ (szR (wR SetFunctorT aF) (1048576 : Int))) ∧ (cnd (decide ((szR (wR (T.sl (T.sl (T.int IntKind.i64))) aP) (szR (wR SetFunctorT aF) (1048576 : Int))) < (0 : Int))) (K (Bool.true, ())) (((wR SetFunctorT aF) ≤ 1099511627776) ∧ (((wR (T.sl (T.sl (T.int IntKind.i64))) aP) ≤ 1099511627776) ∧ (((wR SetFunctorT aF) ≤ 1099511627776) ∧ (((wR (T.sl (T.sl (T.int IntKind.i64))) aP) ≤ 1099511627776) ∧ (cnd (((((setfR aF) && (isPartR aF aP)) && (fullR aF (joinPR aF aP (implyR aF aP (emptyR aF))))) != (((setfR aF) && (isPartR aF aP)) && (fullR aF (joinPR aF aP (implyR aF aP (emptyR aF)))))) || ((codPR ((setfR aF) && (isPartR aF aP))) != (codPR ((setfR aF) && (isPartR aF aP))))) (K (Bool.false, ())) (((wR SetFunctorT aF) ≤ 1099511627776) ∧ (cnd (!(eqR SetFunctorT aF aF)) (K (Bool.false, ())) (((wR (T.sl (T.sl (T.int IntKind.i64))) aP) ≤ 1099511627776) ∧ (cnd (!(eqR (T.sl (T.sl (T.int IntKind.i64))) aP aP)) (K (Bool.false, ())) (K (Bool.true, ())))))))))))))))
theorem w_laws_FnExactIsComplemented (x : denL c_laws_FnExactIsComplemented.args) (K : Bool × Unit → Prop) : evF tab (lkp [(40, c_impl_IsComplemented), (38, c_laws_eqPart), (37, c_laws_eqSetFunctor), (32, c_laws_szPart), (31, c_laws_szSetFunctor), (35, c_laws_toPart), (34, c_laws_toSetFunctor), (39, c_spec_IsComplemented)]) (cutL [(16, 503), (8, 508), (14, 503)]) Try.f8 (bodyOf Try.f8) .n c_laws_FnExactIsComplemented x K = W_laws_FnExactIsComplemented x.1 x.2.1 K := by kernel_rfl
theorem k_laws_FnExactIsComplemented : okC Try.f8.ntmps (cutL [(16, 503), (8, 508), (14, 503)]) (bodyOf Try.f8) = true := by kernel_rfl
theorem m_laws_FnExactIsComplemented (aF : SetFunctorD) (aP : PartD) (hok : allP (okL c_laws_FnExactIsComplemented.args (aF, aP, ()))) (hpre : allP (c_laws_FnExactIsComplemented.pre (aF, aP, ()))) : W_laws_FnExactIsComplemented aF aP (fun r => r = c_laws_FnExactIsComplemented.res (aF, aP, ())) := by
  simp only [c_laws_FnExactIsComplemented, okL, T.oks, T.ok, ap, allP, true_and, and_true, implies_true] at hok hpre
  try dsimp only [T.den] at hok
  try dsimp only [T.den] at hpre
  unfold W_laws_FnExactIsComplemented
  generalize wR SetFunctorT aF = n1
  generalize wR PartT aP = n2
  simp only [eqR_self]
  clear hok
  grind [cnd, nb_eq, inK64, szR, c_laws_FnExactIsComplemented]
theorem ct_laws_FnExactIsComplemented : CtOk Try.prog 8 c_laws_FnExactIsComplemented :=
  ct_by (Φ := lkp [(40, c_impl_IsComplemented), (38, c_laws_eqPart), (37, c_laws_eqSetFunctor), (32, c_laws_szPart), (31, c_laws_szSetFunctor), (35, c_laws_toPart), (34, c_laws_toSetFunctor), (39, c_spec_IsComplemented)]) (good_cons ct_impl_IsComplemented (good_cons ct_laws_eqPart (good_cons ct_laws_eqSetFunctor (good_cons ct_laws_szPart (good_cons ct_laws_szSetFunctor (good_cons ct_laws_toPart (good_cons ct_laws_toSetFunctor (good_cons ct_spec_IsComplemented good_nil)))))))) tab_ok (by kernel_rfl) (fn := Try.f8) (c := bodyOf Try.f8) (by kernel_rfl) (by kernel_rfl) (by kernel_rfl) c_laws_FnExactIsComplemented rfl .n (cutL [(16, 503), (8, 508), (14, 503)]) (by kernel_rfl) (by kernel_rfl) k_laws_FnExactIsComplemented (by decide) (fun x K => W_laws_FnExactIsComplemented x.1 x.2.1 K) w_laws_FnExactIsComplemented (fun x h1 h2 => m_laws_FnExactIsComplemented x.1 x.2.1 h1 h2)
end Go.Bm
