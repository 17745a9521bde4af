/- What the functions that FnExactIsTyped reaches give: for each its contract, what it asks, and the proof. No condition. -/
import Derived.Test.YthgmhhibgcdjlaaGreatTab
namespace Go.Bm
open Go.Proofs
set_option maxRecDepth 100000
set_option maxHeartbeats 1000000
set_option linter.unusedVariables false
set_option linter.unusedSimpArgs false
def ptsR (n : ruleD) : Int := if n.1 = 4 ∨ n.1 = 5 ∨ n.1 = 6 then 2 else if n.1 = 7 ∨ n.1 = 8 then 1 else 0
theorem pts_ge (n : ruleD) : 0 ≤ ptsR n ∧ ptsR n ≤ 2 := by unfold ptsR; split <;> (try split) <;> omega
def c_impl_Node_parts : Ct := ⟨[(.pt ruleT)], [false], fun x => [], [(false, (.fz (.int .i64)))], fun x => (ptsR x.1, ()), false, none⟩
def W_impl_Node_parts (n : ruleD) (K : Int × Unit → Prop) : Prop := (joinW (S := ((Bool × Unit) × Unit)) (fun s => (cnd s.1.1 (K ((2 : Int), ())) (joinW (S := ((Bool × Unit) × Unit)) (fun s1 => (cnd s1.1.1 (K ((1 : Int), ())) (K ((0 : Int), ())))) (fun k => (cnd (n.1 == (7 : Int)) (k (((n.1 == (7 : Int)), ()), ())) (k (((n.1 == (8 : Int)), ()), ()))))))) (fun k => (cnd (n.1 == (4 : Int)) (k (((n.1 == (4 : Int)), ()), ())) (joinW (S := ((Bool × Unit) × Unit)) (fun s => (k ((s.1.1, ()), ()))) (fun k1 => (cnd (n.1 == (5 : Int)) (k1 (((n.1 == (5 : Int)), ()), ())) (k1 (((n.1 == (6 : Int)), ()), ()))))))))
theorem w_impl_Node_parts (x : denL c_impl_Node_parts.args) (K : Int × Unit → Prop) : evF tab (lkp []) (cutL []) Tryz.f65 (bodyOf Tryz.f65) (.s .n (.s (.s .n (.s (.s .n (.j [(7, (.d .bool))] [] [6] (.s .n (.s .n (.j [(7, (.d .bool))] [] [6] .n))))) (.s .n (.s (.s .n (.j [(11, (.d .bool))] [] [] .n)) .n)))) .n)) c_impl_Node_parts x K = W_impl_Node_parts x.1 K := by kernel_rfl
theorem k_impl_Node_parts : okC Tryz.f65.ntmps (cutL []) (bodyOf Tryz.f65) = true := by kernel_rfl
theorem m_impl_Node_parts (n : ruleD) (hok : allP (okL c_impl_Node_parts.args (n, ()))) (hpre : allP (c_impl_Node_parts.pre (n, ()))) : W_impl_Node_parts n (fun r => r = c_impl_Node_parts.res (n, ())) := by
  simp only [c_impl_Node_parts, okL, T.oks, T.ok, ap, allP, true_and, and_true, implies_true] at hok hpre
  try dsimp only [T.den] at hok
  try dsimp only [T.den] at hpre
  unfold W_impl_Node_parts
  simp only [c_impl_Node_parts, ptsR, joinW]
  generalize n.1 = k
  clear hok
  grind [cnd]
theorem ct_impl_Node_parts : CtOk Tryz.prog 65 c_impl_Node_parts :=
  ct_by (Φ := lkp []) good_nil tab_ok (by kernel_rfl) (fn := Tryz.f65) (c := bodyOf Tryz.f65) (by kernel_rfl) (by kernel_rfl) (by kernel_rfl) c_impl_Node_parts rfl (.s .n (.s (.s .n (.s (.s .n (.j [(7, (.d .bool))] [] [6] (.s .n (.s .n (.j [(7, (.d .bool))] [] [6] .n))))) (.s .n (.s (.s .n (.j [(11, (.d .bool))] [] [] .n)) .n)))) .n)) (cutL []) (by kernel_rfl) (by kernel_rfl) k_impl_Node_parts (by decide) (fun x K => W_impl_Node_parts x.1 K) w_impl_Node_parts (fun x h1 h2 => m_impl_Node_parts x.1 h1 h2)
def c_impl_clone : Ct := ⟨[(.sl (.int .i64))], [false], fun x => [x.1.length ≤ 1099511627776], [(false, (.sl (.fz (.int .i64))))], fun x => (x.1, ()), false, none⟩
def W_impl_clone (list : List Int) (K : (List Int) × Unit → Prop) : Prop := ((room 0 (List.length list) 8) ∧ (K (list, ())))
theorem w_impl_clone (x : denL c_impl_clone.args) (K : (List Int) × Unit → Prop) : evF tab (lkp []) (cutL []) Tryz.f85 (bodyOf Tryz.f85) .n c_impl_clone x K = W_impl_clone x.1 K := by kernel_rfl
theorem k_impl_clone : okC Tryz.f85.ntmps (cutL []) (bodyOf Tryz.f85) = true := by kernel_rfl
theorem m_impl_clone (list : List Int) (hok : allP (okL c_impl_clone.args (list, ()))) (hpre : allP (c_impl_clone.pre (list, ()))) : W_impl_clone list (fun r => r = c_impl_clone.res (list, ())) := by
  simp only [c_impl_clone, okL, T.oks, T.ok, ap, allP, true_and, and_true, implies_true] at hok hpre
  try dsimp only [T.den] at hok
  try dsimp only [T.den] at hpre
  unfold W_impl_clone
  have hl : list.length ≤ 1099511627776 := hpre
  exact ⟨room_of (by omega), rfl⟩
theorem ct_impl_clone : CtOk Tryz.prog 85 c_impl_clone :=
  ct_by (Φ := lkp []) good_nil tab_ok (by kernel_rfl) (fn := Tryz.f85) (c := bodyOf Tryz.f85) (by kernel_rfl) (by kernel_rfl) (by kernel_rfl) c_impl_clone rfl .n (cutL []) (by kernel_rfl) (by kernel_rfl) k_impl_clone (by decide) (fun x K => W_impl_clone x.1 K) w_impl_clone (fun x h1 h2 => m_impl_clone x.1 h1 h2)
def c_impl_extended : Ct := ⟨[(.sl (.int .i64)), (.int .i64)], [false, false], fun x => [x.1.length ≤ 1099511627776], [(false, (.sl (.fz (.int .i64))))], fun x => (x.1 ++ [x.2.1], ()), false, none⟩
def W_impl_extended (context : List Int) (sort : Int) (K : (List Int) × Unit → Prop) : Prop := (((List.length context) ≤ 1099511627776) ∧ ((room (List.length context) (List.length (sort :: ([] : List Int))) 8) ∧ (K ((context ++ (sort :: ([] : List Int))), ()))))
theorem w_impl_extended (x : denL c_impl_extended.args) (K : (List Int) × Unit → Prop) : evF tab (lkp [(85, c_impl_clone)]) (cutL []) Tryz.f64 (bodyOf Tryz.f64) .n c_impl_extended x K = W_impl_extended x.1 x.2.1 K := by kernel_rfl
theorem k_impl_extended : okC Tryz.f64.ntmps (cutL []) (bodyOf Tryz.f64) = true := by kernel_rfl
theorem m_impl_extended (context : List Int) (sort : Int) (hok : allP (okL c_impl_extended.args (context, sort, ()))) (hpre : allP (c_impl_extended.pre (context, sort, ()))) : W_impl_extended context sort (fun r => r = c_impl_extended.res (context, sort, ())) := by
  simp only [c_impl_extended, okL, T.oks, T.ok, ap, allP, true_and, and_true, implies_true] at hok hpre
  try dsimp only [T.den] at hok
  try dsimp only [T.den] at hpre
  unfold W_impl_extended
  have hl : context.length ≤ 1099511627776 := hpre
  exact ⟨hl, room_of (by simp only [List.length_cons, List.length_nil]; omega), rfl⟩
theorem ct_impl_extended : CtOk Tryz.prog 64 c_impl_extended :=
  ct_by (Φ := lkp [(85, c_impl_clone)]) (good_cons ct_impl_clone good_nil) tab_ok (by kernel_rfl) (fn := Tryz.f64) (c := bodyOf Tryz.f64) (by kernel_rfl) (by kernel_rfl) (by kernel_rfl) c_impl_extended rfl .n (cutL []) (by kernel_rfl) (by kernel_rfl) k_impl_extended (by decide) (fun x K => W_impl_extended x.1 x.2.1 K) w_impl_extended (fun x h1 h2 => m_impl_extended x.1 x.2.1 h1 h2)
def cmpLR : List Int → List Int → Int
  | [], [] => 0
  | [], _ :: _ => -1
  | _ :: _, [] => 1
  | x :: a, y :: b => if x = y then cmpLR a b else if x < y then -1 else 1
theorem cmpL_0 {a b : List Int} : cmpLR a b = 0 ↔ a = b := by
  induction a generalizing b with
  | nil => cases b <;> simp [cmpLR]
  | cons x a ih => cases b with
    | nil => simp [cmpLR]
    | cons y b =>
      simp only [cmpLR, List.cons.injEq]
      by_cases h : x = y
      · rw [if_pos h, ih]; simp [h]
      · rw [if_neg h]
        split <;> simp [h]
def c_impl_compare : Ct := ⟨[(.sl (.int .i64)), (.sl (.int .i64))], [false, false], fun x => [], [(false, (.fz (.int .i64)))], fun x => (cmpLR x.1 x.2.1, ()), false, none⟩
def W_impl_compare (a : List Int) (b : List Int) (K : Int × Unit → Prop) : Prop := (loopW (S := ((Int × Unit) × Unit)) (fun s => (fun next => ((inK IntKind.i64 s.1.1) → (cnd (decide (s.1.1 < (((List.length a) : Nat) : Int))) (cnd (s.1.1 == (((List.length b) : Nat) : Int)) (K ((1 : Int), ())) (((0 : Int) ≤ s.1.1) ∧ ((s.1.1 < (((List.length a) : Nat) : Int)) ∧ (((0 : Int) ≤ s.1.1) ∧ ((s.1.1 < (((List.length b) : Nat) : Int)) ∧ (cnd ((List.getD a (Int.toNat s.1.1) (0 : Int)) != (List.getD b (Int.toNat s.1.1) (0 : Int))) (((0 : Int) ≤ s.1.1) ∧ ((s.1.1 < (((List.length a) : Nat) : Int)) ∧ (((0 : Int) ≤ s.1.1) ∧ ((s.1.1 < (((List.length b) : Nat) : Int)) ∧ (cnd (decide ((List.getD a (Int.toNat s.1.1) (0 : Int)) < (List.getD b (Int.toNat s.1.1) (0 : Int)))) (K ((-(1 : Int)), ())) (K ((1 : Int), ()))))))) ((inK IntKind.i64 (s.1.1 + (1 : Int))) ∧ (next (((s.1.1 + (1 : Int)), ()), ()))))))))) (cnd (decide ((((List.length a) : Nat) : Int) < (((List.length b) : Nat) : Int))) (K ((-(1 : Int)), ())) (K ((0 : Int), ()))))))) (((0 : Int), ()), ()))
theorem w_impl_compare (x : denL c_impl_compare.args) (K : Int × Unit → Prop) : evF tab (lkp []) (cutL [(6, 9), (7, 9)]) Tryz.f84 (bodyOf Tryz.f84) (.s .n (.s (.s .n (.l [(8, (.d (.int .i64)))] [] [0, 1, 7] .n)) .n)) c_impl_compare x K = W_impl_compare x.1 x.2.1 K := by kernel_rfl
theorem k_impl_compare : okC Tryz.f84.ntmps (cutL [(6, 9), (7, 9)]) (bodyOf Tryz.f84) = true := by kernel_rfl
theorem m_impl_compare (a : List Int) (b : List Int) (hok : allP (okL c_impl_compare.args (a, b, ()))) (hpre : allP (c_impl_compare.pre (a, b, ()))) : W_impl_compare a b (fun r => r = c_impl_compare.res (a, b, ())) := by
  simp only [c_impl_compare, okL, T.oks, T.ok, ap, allP, true_and, and_true, implies_true] at hok hpre
  try dsimp only [T.den] at hok
  try dsimp only [T.den] at hpre
  unfold W_impl_compare
  have ha : a.length ≤ 140737488355328 := by simp only [nb_eq] at hok; omega
  clear hok
  refine loop_ix (n := a.length) (fun i => i ≤ b.length ∧ cmpLR a b = cmpLR (a.drop i.toNat) (b.drop i.toNat)) (by omega) ⟨by omega, by simp⟩ ?_ ?_
  · intro i next i0 i1 hP hn hin
    obtain ⟨hb, hP⟩ := hP
    rw [drop_c a 0 i0 i1] at hP
    refine cnd_d (fun _ => cnd_of (fun h => ?_) (fun h => ?_)) (fun h => absurd i1 h)
    · rw [beq_iff_eq] at h
      rw [drop_n b (by dsimp only at h; omega)] at hP
      simp only [c_impl_compare, hP, cmpLR]
    · rw [beq_eq_false_iff_ne] at h
      try dsimp only at h ⊢
      rw [drop_c b 0 i0 (by omega)] at hP
      simp only [cmpLR] at hP
      have hiK : inK .i64 (i + 1) := by rw [inK64]; (try dsimp only); omega
      refine ⟨i0, i1, i0, by omega, cnd_of (fun h1 => ?_) (fun h1 => ?_)⟩
      · rw [bne_iff_ne] at h1
        rw [if_neg h1] at hP
        refine ⟨i0, i1, i0, by omega, cnd_d (fun h2 => ?_) (fun h2 => ?_)⟩
        · rw [if_pos h2] at hP; simp only [c_impl_compare, hP]
        · rw [if_neg h2] at hP; simp only [c_impl_compare, hP]
      · rw [bne_eq_false_iff_eq] at h1
        rw [if_pos h1] at hP
        exact ⟨hiK, hn ⟨by omega, hP⟩⟩
  · intro next hP hin
    obtain ⟨hb, hP⟩ := hP
    rw [drop_n a (Int.le_refl _)] at hP
    refine cnd_d (fun h => absurd h (by dsimp only; omega)) (fun _ => cnd_d (fun h => ?_) (fun h => ?_))
    · rw [drop_c b 0 (by omega) h] at hP
      simp only [c_impl_compare, hP, cmpLR]
    · rw [drop_n b (by omega)] at hP
      simp only [c_impl_compare, hP, cmpLR]
theorem ct_impl_compare : CtOk Tryz.prog 84 c_impl_compare :=
  ct_by (Φ := lkp []) good_nil tab_ok (by kernel_rfl) (fn := Tryz.f84) (c := bodyOf Tryz.f84) (by kernel_rfl) (by kernel_rfl) (by kernel_rfl) c_impl_compare rfl (.s .n (.s (.s .n (.l [(8, (.d (.int .i64)))] [] [0, 1, 7] .n)) .n)) (cutL [(6, 9), (7, 9)]) (by kernel_rfl) (by kernel_rfl) k_impl_compare (by decide) (fun x K => W_impl_compare x.1 x.2.1 K) w_impl_compare (fun x h1 h2 => m_impl_compare x.1 x.2.1 h1 h2)
def c_impl_same : Ct := ⟨[(.sl (.int .i64)), (.sl (.int .i64))], [false, false], fun x => [], [(false, (.fz .bool))], fun x => (eqR (.sl (.int .i64)) x.1 x.2.1, ()), false, none⟩
def W_impl_same (a : List Int) (b : List Int) (K : Bool × Unit → Prop) : Prop := (K (((cmpLR a b) == (0 : Int)), ()))
theorem w_impl_same (x : denL c_impl_same.args) (K : Bool × Unit → Prop) : evF tab (lkp [(84, c_impl_compare)]) (cutL []) Tryz.f63 (bodyOf Tryz.f63) .n c_impl_same x K = W_impl_same x.1 x.2.1 K := by kernel_rfl
theorem k_impl_same : okC Tryz.f63.ntmps (cutL []) (bodyOf Tryz.f63) = true := by kernel_rfl
theorem m_impl_same (a : List Int) (b : List Int) (hok : allP (okL c_impl_same.args (a, b, ()))) (hpre : allP (c_impl_same.pre (a, b, ()))) : W_impl_same a b (fun r => r = c_impl_same.res (a, b, ())) := by
  simp only [c_impl_same, okL, T.oks, T.ok, ap, allP, true_and, and_true, implies_true] at hok hpre
  try dsimp only [T.den] at hok
  try dsimp only [T.den] at hpre
  unfold W_impl_same
  have h := @cmpL_0 a b
  have h2 : (cmpLR a b == 0) = eqR (.sl (.int .i64)) a b := by
    rw [Bool.eq_iff_iff, beq_iff_eq, h, eqR_iff]
  simp only [c_impl_same, h2]
theorem ct_impl_same : CtOk Tryz.prog 63 c_impl_same :=
  ct_by (Φ := lkp [(84, c_impl_compare)]) (good_cons ct_impl_compare good_nil) tab_ok (by kernel_rfl) (fn := Tryz.f63) (c := bodyOf Tryz.f63) (by kernel_rfl) (by kernel_rfl) (by kernel_rfl) c_impl_same rfl .n (cutL []) (by kernel_rfl) (by kernel_rfl) k_impl_same (by decide) (fun x K => W_impl_same x.1 x.2.1 K) w_impl_same (fun x h1 h2 => m_impl_same x.1 x.2.1 h1 h2)
def thenR (f g : List Int) : List Int := f.map fun y => g.getD y.toNat 0
def c_impl_then : Ct := ⟨[(.sl (.int .i64)), (.sl (.int .i64))], [false, false], fun x => [x.1.length ≤ 1099511627776, withinR x.1 x.2.1.length = true], [(false, (.sl (.fz (.int .i64))))], fun x => (thenR x.1 x.2.1, ()), false, none⟩
def W_impl_then (f : List Int) (g : List Int) (K : (List Int) × Unit → Prop) : Prop := (((0 : Int) ≤ (((List.length f) : Nat) : Int)) ∧ (((((List.length f) : Nat) : Int) ≤ (((List.length f) : Nat) : Int)) ∧ (((((List.length f) : Nat) : Int) ≤ ((140737488355328 : Nat) : Int)) ∧ ((((((List.length f) : Nat) : Int) * ((8 : Nat) : Int)) ≤ ((140737488355328 : Nat) : Int)) ∧ (loopW (S := ((Unit × (Int × Unit)) × ((List Int) × Unit))) (fun s => (fun next => ((inK IntKind.i64 s.1.2.1) → ((T.ok (T.sl (T.int IntKind.i64)) s.2.1) → (cnd (decide (s.1.2.1 < (((List.length f) : Nat) : Int))) (((0 : Int) ≤ s.1.2.1) ∧ ((s.1.2.1 < (((List.length f) : Nat) : Int)) ∧ (((0 : Int) ≤ (List.getD f (Int.toNat s.1.2.1) (0 : Int))) ∧ (((List.getD f (Int.toNat s.1.2.1) (0 : Int)) < (((List.length g) : Nat) : Int)) ∧ (((0 : Int) ≤ s.1.2.1) ∧ ((s.1.2.1 < (((List.length s.2.1) : Nat) : Int)) ∧ ((inK IntKind.i64 (s.1.2.1 + (1 : Int))) ∧ (next (((), ((s.1.2.1 + (1 : Int)), ())), ((List.set s.2.1 (Int.toNat s.1.2.1) (List.getD g (Int.toNat (List.getD f (Int.toNat s.1.2.1) (0 : Int))) (0 : Int))), ())))))))))) (K (s.2.1, ()))))))) (((), ((0 : Int), ())), ((List.replicate (Int.toNat (((List.length f) : Nat) : Int)) (0 : Int)), ())))))))
theorem w_impl_then (x : denL c_impl_then.args) (K : (List Int) × Unit → Prop) : evF tab (lkp []) (cutL []) Tryz.f83 (bodyOf Tryz.f83) (.s .n (.s .n (.s (.s .n (.l [(5, (.ref 10 [])), (13, (.d (.int .i64)))] [(10, (.sl (.fz (.int .i64))))] [1, 11, 12] .n)) .n))) c_impl_then x K = W_impl_then x.1 x.2.1 K := by kernel_rfl
theorem k_impl_then : okC Tryz.f83.ntmps (cutL []) (bodyOf Tryz.f83) = true := by kernel_rfl
theorem m_impl_then (f : List Int) (g : List Int) (hok : allP (okL c_impl_then.args (f, g, ()))) (hpre : allP (c_impl_then.pre (f, g, ()))) : W_impl_then f g (fun r => r = c_impl_then.res (f, g, ())) := by
  simp only [c_impl_then, okL, T.oks, T.ok, ap, allP, true_and, and_true, implies_true] at hok hpre
  try dsimp only [T.den] at hok
  try dsimp only [T.den] at hpre
  unfold W_impl_then
  obtain ⟨hl, hw⟩ := hpre
  have hw := within_iff.1 hw
  clear hok
  refine ⟨by omega, Int.le_refl _, by omega, by omega, ?_⟩
  refine loop_ixa (fun i => tabN f.length fun y => if y < i then g.getD (f.getD y.toNat 0).toNat 0 else 0) (n := f.length) (by omega) ?_ ?_ ?_
  · rw [fill_0, Int.toNat_natCast, tab_rep]
  · intro i next i0 i1 hn _ _
    try dsimp only at hn ⊢
    have h1 := hw i i0 i1
    rw [← fill_s i0 i1] at hn
    exact cnd_d (fun _ => ⟨i0, i1, h1.1, h1.2, i0, by rw [tabN_len]; exact i1, by rw [inK64]; (try dsimp only); omega, hn⟩) (fun h => absurd i1 h)
  · intro next _ _
    refine cnd_d (fun h => absurd h (Int.lt_irrefl _)) (fun _ => ?_)
    rw [fill_n, map_tab (fun y => g.getD y.toNat 0) 0 f]
    rfl
theorem ct_impl_then : CtOk Tryz.prog 83 c_impl_then :=
  ct_by (Φ := lkp []) good_nil tab_ok (by kernel_rfl) (fn := Tryz.f83) (c := bodyOf Tryz.f83) (by kernel_rfl) (by kernel_rfl) (by kernel_rfl) c_impl_then rfl (.s .n (.s .n (.s (.s .n (.l [(5, (.ref 10 [])), (13, (.d (.int .i64)))] [(10, (.sl (.fz (.int .i64))))] [1, 11, 12] .n)) .n))) (cutL []) (by kernel_rfl) (by kernel_rfl) k_impl_then (by decide) (fun x K => W_impl_then x.1 x.2.1 K) w_impl_then (fun x h1 h2 => m_impl_then x.1 x.2.1 h1 h2)
def c_impl_inRange : Ct := ⟨[(.int .i64), (.int .i64), (.int .i64)], [false, false, false], fun x => [], [(false, (.fz .bool))], fun x => (inR x.1 x.2.1 x.2.2.1, ()), false, none⟩
def W_impl_inRange (n : Int) (low : Int) (high : Int) (K : Bool × Unit → Prop) : Prop := (K (((decide (low ≤ n)) && (decide (n ≤ high))), ()))
theorem w_impl_inRange (x : denL c_impl_inRange.args) (K : Bool × Unit → Prop) : evF tab (lkp []) (cutL []) Tryz.f55 (bodyOf Tryz.f55) .n c_impl_inRange x K = W_impl_inRange x.1 x.2.1 x.2.2.1 K := by kernel_rfl
theorem k_impl_inRange : okC Tryz.f55.ntmps (cutL []) (bodyOf Tryz.f55) = true := by kernel_rfl
theorem m_impl_inRange (n : Int) (low : Int) (high : Int) (hok : allP (okL c_impl_inRange.args (n, low, high, ()))) (hpre : allP (c_impl_inRange.pre (n, low, high, ()))) : W_impl_inRange n low high (fun r => r = c_impl_inRange.res (n, low, high, ())) := by
  simp only [c_impl_inRange, okL, T.oks, T.ok, ap, allP, true_and, and_true, implies_true] at hok hpre
  try dsimp only [T.den] at hok
  try dsimp only [T.den] at hpre
  unfold W_impl_inRange
  grind [cnd, nb_eq, inK64, c_impl_inRange, inR]
theorem ct_impl_inRange : CtOk Tryz.prog 55 c_impl_inRange :=
  ct_by (Φ := lkp []) good_nil tab_ok (by kernel_rfl) (fn := Tryz.f55) (c := bodyOf Tryz.f55) (by kernel_rfl) (by kernel_rfl) (by kernel_rfl) c_impl_inRange rfl .n (cutL []) (by kernel_rfl) (by kernel_rfl) k_impl_inRange (by decide) (fun x K => W_impl_inRange x.1 x.2.1 x.2.2.1 K) w_impl_inRange (fun x h1 h2 => m_impl_inRange x.1 x.2.1 x.2.2.1 h1 h2)
def c_impl_within : Ct := ⟨[(.sl (.int .i64)), (.int .i64)], [false, false], fun x => [inK .i64 (x.2.1 - 1)], [(false, (.fz .bool))], fun x => (withinR x.1 x.2.1, ()), false, none⟩
def W_impl_within (list : List Int) (n : Int) (K : Bool × Unit → Prop) : Prop := (loopW (S := ((Int × Unit) × Unit)) (fun s => (fun next => ((inK IntKind.i64 s.1.1) → (cnd (decide (s.1.1 < (((List.length list) : Nat) : Int))) (((0 : Int) ≤ s.1.1) ∧ ((s.1.1 < (((List.length list) : Nat) : Int)) ∧ ((inK IntKind.i64 (n - (1 : Int))) ∧ (cnd (!(inR (List.getD list (Int.toNat s.1.1) (0 : Int)) (0 : Int) (n - (1 : Int)))) (K (Bool.false, ())) ((inK IntKind.i64 (s.1.1 + (1 : Int))) ∧ (next (((s.1.1 + (1 : Int)), ()), ()))))))) (K (Bool.true, ())))))) (((0 : Int), ()), ()))
theorem w_impl_within (x : denL c_impl_within.args) (K : Bool × Unit → Prop) : evF tab (lkp [(55, c_impl_inRange)]) (cutL []) Tryz.f61 (bodyOf Tryz.f61) (.s .n (.s (.s .n (.l [(9, (.d (.int .i64)))] [] [1, 7, 8] .n)) .n)) c_impl_within x K = W_impl_within x.1 x.2.1 K := by kernel_rfl
theorem k_impl_within : okC Tryz.f61.ntmps (cutL []) (bodyOf Tryz.f61) = true := by kernel_rfl
theorem m_impl_within (list : List Int) (n : Int) (hok : allP (okL c_impl_within.args (list, n, ()))) (hpre : allP (c_impl_within.pre (list, n, ()))) : W_impl_within list n (fun r => r = c_impl_within.res (list, n, ())) := by
  simp only [c_impl_within, okL, T.oks, T.ok, ap, allP, true_and, and_true, implies_true] at hok hpre
  try dsimp only [T.den] at hok
  try dsimp only [T.den] at hpre
  unfold W_impl_within
  refine loop_of (fun (s : ((Int × Unit) × Unit)) => 0 ≤ s.1.1 ∧ s.1.1 ≤ list.length ∧ withinR list n = withinR (list.drop s.1.1.toNat) n) (fun (s : ((Int × Unit) × Unit)) => (list.length - s.1.1).toNat) ?_ (by simp)
  rintro ⟨⟨i, _⟩, _⟩ next ⟨h0, h1, h2⟩ hn hin
  simp only at h0 h1 h2 hn ⊢
  refine cnd_d (fun hc => ?_) (fun hc => ?_)
  · rw [drop_c list 0 h0 hc] at h2
    simp only [withinR, List.all_cons] at h2
    grind [cnd, nb_eq, inK64, c_impl_within, withinR]
  · rw [drop_n list (by omega)] at h2
    grind [cnd, nb_eq, inK64, c_impl_within, withinR]
theorem ct_impl_within : CtOk Tryz.prog 61 c_impl_within :=
  ct_by (Φ := lkp [(55, c_impl_inRange)]) (good_cons ct_impl_inRange good_nil) tab_ok (by kernel_rfl) (fn := Tryz.f61) (c := bodyOf Tryz.f61) (by kernel_rfl) (by kernel_rfl) (by kernel_rfl) c_impl_within rfl (.s .n (.s (.s .n (.l [(9, (.d (.int .i64)))] [] [1, 7, 8] .n)) .n)) (cutL []) (by kernel_rfl) (by kernel_rfl) k_impl_within (by decide) (fun x K => W_impl_within x.1 x.2.1 K) w_impl_within (fun x h1 h2 => m_impl_within x.1 x.2.1 h1 h2)
def sortsR (c v : List Int) : List Int := if withinR v c.length = true then thenR v c else []
def c_impl_sortsOf : Ct := ⟨[(.sl (.int .i64)), (.sl (.int .i64))], [false, false], fun x => [x.2.1.length ≤ 1099511627776, x.1.length ≤ 1099511627776], [(false, (.sl (.fz (.int .i64)))), (false, (.fz .bool))], fun x => (sortsR x.1 x.2.1, withinR x.2.1 x.1.length, ()), false, none⟩
def W_impl_sortsOf (context : List Int) (variables : List Int) (K : (List Int) × Bool × Unit → Prop) : Prop := ((inK IntKind.i64 ((((List.length context) : Nat) : Int) - (1 : Int))) ∧ (cnd (!(withinR variables (((List.length context) : Nat) : Int))) (K (([] : List Int), (Bool.false, ()))) (((List.length variables) ≤ 1099511627776) ∧ (((withinR variables (((List.length context) : Nat) : Int)) = Bool.true) ∧ (K ((thenR variables context), (Bool.true, ())))))))
theorem w_impl_sortsOf (x : denL c_impl_sortsOf.args) (K : (List Int) × Bool × Unit → Prop) : evF tab (lkp [(83, c_impl_then), (61, c_impl_within)]) (cutL []) Tryz.f62 (bodyOf Tryz.f62) .n c_impl_sortsOf x K = W_impl_sortsOf x.1 x.2.1 K := by kernel_rfl
theorem k_impl_sortsOf : okC Tryz.f62.ntmps (cutL []) (bodyOf Tryz.f62) = true := by kernel_rfl
theorem m_impl_sortsOf (context : List Int) (variables : List Int) (hok : allP (okL c_impl_sortsOf.args (context, variables, ()))) (hpre : allP (c_impl_sortsOf.pre (context, variables, ()))) : W_impl_sortsOf context variables (fun r => r = c_impl_sortsOf.res (context, variables, ())) := by
  simp only [c_impl_sortsOf, okL, T.oks, T.ok, ap, allP, true_and, and_true, implies_true] at hok hpre
  try dsimp only [T.den] at hok
  try dsimp only [T.den] at hpre
  unfold W_impl_sortsOf
  obtain ⟨h1, h2⟩ := hpre
  refine ⟨by rw [inK64]; (try dsimp only); omega, cnd_of (fun h => ?_) (fun h => ?_)⟩
  · have hw : withinR variables context.length = false := by simpa using h
    simp only [c_impl_sortsOf, sortsR]
    rw [hw, if_neg (by simp)]
  · have hw : withinR variables context.length = true := by simpa using h
    refine ⟨h1, hw, ?_⟩
    simp only [c_impl_sortsOf, sortsR]
    rw [hw, if_pos rfl]
theorem ct_impl_sortsOf : CtOk Tryz.prog 62 c_impl_sortsOf :=
  ct_by (Φ := lkp [(83, c_impl_then), (61, c_impl_within)]) (good_cons ct_impl_then (good_cons ct_impl_within good_nil)) tab_ok (by kernel_rfl) (fn := Tryz.f62) (c := bodyOf Tryz.f62) (by kernel_rfl) (by kernel_rfl) (by kernel_rfl) c_impl_sortsOf rfl .n (cutL []) (by kernel_rfl) (by kernel_rfl) k_impl_sortsOf (by decide) (fun x K => W_impl_sortsOf x.1 x.2.1 K) w_impl_sortsOf (fun x h1 h2 => m_impl_sortsOf x.1 x.2.1 h1 h2)
def c_impl_Category_arrows : Ct := ⟨[(.pt CategoryT)], [false], fun x => [], [(false, (.fz (.int .i64)))], fun x => ((x.1.2.1.length : Int), ()), false, none⟩
def W_impl_Category_arrows (c : CategoryD) (K : Int × Unit → Prop) : Prop := (K ((((List.length c.2.1) : Nat) : Int), ()))
theorem w_impl_Category_arrows (x : denL c_impl_Category_arrows.args) (K : Int × Unit → Prop) : evF tab (lkp []) (cutL []) Tryz.f92 (bodyOf Tryz.f92) .n c_impl_Category_arrows x K = W_impl_Category_arrows x.1 K := by kernel_rfl
theorem k_impl_Category_arrows : okC Tryz.f92.ntmps (cutL []) (bodyOf Tryz.f92) = true := by kernel_rfl
theorem m_impl_Category_arrows (c : CategoryD) (hok : allP (okL c_impl_Category_arrows.args (c, ()))) (hpre : allP (c_impl_Category_arrows.pre (c, ()))) : W_impl_Category_arrows c (fun r => r = c_impl_Category_arrows.res (c, ())) := by
  simp only [c_impl_Category_arrows, okL, T.oks, T.ok, ap, allP, true_and, and_true, implies_true] at hok hpre
  try dsimp only [T.den] at hok
  try dsimp only [T.den] at hpre
  unfold W_impl_Category_arrows
  rfl
theorem ct_impl_Category_arrows : CtOk Tryz.prog 92 c_impl_Category_arrows :=
  ct_by (Φ := lkp []) good_nil tab_ok (by kernel_rfl) (fn := Tryz.f92) (c := bodyOf Tryz.f92) (by kernel_rfl) (by kernel_rfl) (by kernel_rfl) c_impl_Category_arrows rfl .n (cutL []) (by kernel_rfl) (by kernel_rfl) k_impl_Category_arrows (by decide) (fun x K => W_impl_Category_arrows x.1 K) w_impl_Category_arrows (fun x h1 h2 => m_impl_Category_arrows x.1 h1 h2)
def compR (c : CategoryD) (f g : Int) : Int := (c.2.2.2.2.getD f.toNat []).getD g.toNat 0
def c_impl_Category_then : Ct := ⟨[(.pt CategoryT), (.int .i64), (.int .i64)], [false, false, false], fun x => [0 ≤ x.2.1, x.2.1 < x.1.2.2.2.2.length, 0 ≤ x.2.2.1, x.2.2.1 < (x.1.2.2.2.2.getD x.2.1.toNat []).length], [(false, (.fz (.int .i64)))], fun x => (compR x.1 x.2.1 x.2.2.1, ()), false, none⟩
def W_impl_Category_then (c : CategoryD) (f : Int) (g : Int) (K : Int × Unit → Prop) : Prop := (((0 : Int) ≤ f) ∧ ((f < (((List.length c.2.2.2.2) : Nat) : Int)) ∧ (((0 : Int) ≤ g) ∧ ((g < (((List.length (List.getD c.2.2.2.2 (Int.toNat f) ([] : List Int))) : Nat) : Int)) ∧ (K ((List.getD (List.getD c.2.2.2.2 (Int.toNat f) ([] : List Int)) (Int.toNat g) (0 : Int)), ()))))))
theorem w_impl_Category_then (x : denL c_impl_Category_then.args) (K : Int × Unit → Prop) : evF tab (lkp []) (cutL []) Tryz.f103 (bodyOf Tryz.f103) .n c_impl_Category_then x K = W_impl_Category_then x.1 x.2.1 x.2.2.1 K := by kernel_rfl
theorem k_impl_Category_then : okC Tryz.f103.ntmps (cutL []) (bodyOf Tryz.f103) = true := by kernel_rfl
theorem m_impl_Category_then (c : CategoryD) (f : Int) (g : Int) (hok : allP (okL c_impl_Category_then.args (c, f, g, ()))) (hpre : allP (c_impl_Category_then.pre (c, f, g, ()))) : W_impl_Category_then c f g (fun r => r = c_impl_Category_then.res (c, f, g, ())) := by
  simp only [c_impl_Category_then, okL, T.oks, T.ok, ap, allP, true_and, and_true, implies_true] at hok hpre
  try dsimp only [T.den] at hok
  try dsimp only [T.den] at hpre
  unfold W_impl_Category_then
  exact ⟨hpre.1, hpre.2.1, hpre.2.2.1, hpre.2.2.2, rfl⟩
theorem ct_impl_Category_then : CtOk Tryz.prog 103 c_impl_Category_then :=
  ct_by (Φ := lkp []) good_nil tab_ok (by kernel_rfl) (fn := Tryz.f103) (c := bodyOf Tryz.f103) (by kernel_rfl) (by kernel_rfl) (by kernel_rfl) c_impl_Category_then rfl .n (cutL []) (by kernel_rfl) (by kernel_rfl) k_impl_Category_then (by decide) (fun x K => W_impl_Category_then x.1 x.2.1 x.2.2.1 K) w_impl_Category_then (fun x h1 h2 => m_impl_Category_then x.1 x.2.1 x.2.2.1 h1 h2)
def c_impl_Category_ends : Ct := ⟨[(.pt CategoryT), (.int .i64)], [false, false], fun x => [0 ≤ x.2.1, x.2.1 < x.1.2.1.length, x.2.1 < x.1.2.2.1.length], [(true, (.fz endsT))], fun x => (((x.1.2.1.getD x.2.1.toNat 0, x.1.2.2.1.getD x.2.1.toNat 0) : Int × Int), ()), false, none⟩
def W_impl_Category_ends (c : CategoryD) (f : Int) (K : endsD × Unit → Prop) : Prop := (((0 : Int) ≤ f) ∧ ((f < (((List.length c.2.1) : Nat) : Int)) ∧ (((0 : Int) ≤ f) ∧ ((f < (((List.length c.2.2.1) : Nat) : Int)) ∧ (K (((List.getD c.2.1 (Int.toNat f) (0 : Int)), (List.getD c.2.2.1 (Int.toNat f) (0 : Int))), ()))))))
theorem w_impl_Category_ends (x : denL c_impl_Category_ends.args) (K : endsD × Unit → Prop) : evF tab (lkp []) (cutL [(1, 15)]) Tryz.f102 (bodyOf Tryz.f102) .n c_impl_Category_ends x K = W_impl_Category_ends x.1 x.2.1 K := by kernel_rfl
theorem k_impl_Category_ends : okC Tryz.f102.ntmps (cutL [(1, 15)]) (bodyOf Tryz.f102) = true := by kernel_rfl
theorem m_impl_Category_ends (c : CategoryD) (f : Int) (hok : allP (okL c_impl_Category_ends.args (c, f, ()))) (hpre : allP (c_impl_Category_ends.pre (c, f, ()))) : W_impl_Category_ends c f (fun r => r = c_impl_Category_ends.res (c, f, ())) := by
  simp only [c_impl_Category_ends, okL, T.oks, T.ok, ap, allP, true_and, and_true, implies_true] at hok hpre
  try dsimp only [T.den] at hok
  try dsimp only [T.den] at hpre
  unfold W_impl_Category_ends
  exact ⟨hpre.1, hpre.2.1, hpre.1, hpre.2.2, rfl⟩
theorem ct_impl_Category_ends : CtOk Tryz.prog 102 c_impl_Category_ends :=
  ct_by (Φ := lkp []) good_nil tab_ok (by kernel_rfl) (fn := Tryz.f102) (c := bodyOf Tryz.f102) (by kernel_rfl) (by kernel_rfl) (by kernel_rfl) c_impl_Category_ends rfl .n (cutL [(1, 15)]) (by kernel_rfl) (by kernel_rfl) k_impl_Category_ends (by decide) (fun x K => W_impl_Category_ends x.1 x.2.1 K) w_impl_Category_ends (fun x h1 h2 => m_impl_Category_ends x.1 x.2.1 h1 h2)
def cellQ (c : CategoryD) (f g v : Int) : Bool :=
  if c.2.2.1.getD f.toNat 0 = c.2.1.getD g.toNat 0 then decide (0 ≤ v ∧ v < c.2.1.length ∧ c.2.1.getD v.toNat 0 = c.2.1.getD f.toNat 0 ∧ c.2.2.1.getD v.toNat 0 = c.2.2.1.getD g.toNat 0)
  else decide (v = -1)
def cellR (c : CategoryD) (f g : Int) : Bool := cellQ c f g (compR c f g)
structure ShapeP (c : CategoryD) : Prop where
  ob : 0 ≤ c.1 ∧ c.1 ≤ 8
  m : c.2.1.length ≤ 40
  lt : c.2.2.1.length = c.2.1.length
  fr : withinR c.2.1 c.1 = true
  to : withinR c.2.2.1 c.1 = true
  li : (c.2.2.2.1.length : Int) = c.1
  ids : withinR c.2.2.2.1 c.2.1.length = true
  lc : c.2.2.2.2.length = c.2.1.length
  idt : ∀ x : Int, 0 ≤ x → x < c.1 → c.2.1.getD (c.2.2.2.1.getD x.toNat 0).toNat 0 = x ∧ c.2.2.1.getD (c.2.2.2.1.getD x.toNat 0).toNat 0 = x
  row : ∀ f : Int, 0 ≤ f → f < c.2.1.length → (c.2.2.2.2.getD f.toNat []).length = c.2.1.length
  cell : ∀ f g : Int, 0 ≤ f → f < c.2.1.length → 0 ≤ g → g < c.2.1.length → cellR c f g = true
def shapeR (c : CategoryD) : Bool := inR c.1 0 8 && decide (c.2.1.length ≤ 40) && decide (c.2.2.1.length = c.2.1.length) && withinR c.2.1 c.1 && withinR c.2.2.1 c.1 && decide ((c.2.2.2.1.length : Int) = c.1) && withinR c.2.2.2.1 c.2.1.length &&
  decide (c.2.2.2.2.length = c.2.1.length) && allB c.1.toNat (fun x => decide (c.2.1.getD (c.2.2.2.1.getD x.toNat 0).toNat 0 = x ∧ c.2.2.1.getD (c.2.2.2.1.getD x.toNat 0).toNat 0 = x)) &&
  allB c.2.1.length (fun f => decide ((c.2.2.2.2.getD f.toNat []).length = c.2.1.length)) && allB c.2.1.length (fun f => allB c.2.1.length fun g => cellR c f g)
theorem shape_iff {c : CategoryD} : shapeR c = true ↔ ShapeP c := by
  simp only [shapeR, Bool.and_eq_true, decide_eq_true_eq, inR, allB_iff]
  constructor
  · rintro ⟨⟨⟨⟨⟨⟨⟨⟨⟨⟨h0, h1⟩, h2⟩, h3⟩, h4⟩, h5⟩, h6⟩, h7⟩, h8⟩, h9⟩, h10⟩
    exact ⟨h0, h1, h2, h3, h4, h5, h6, h7, fun x a b => h8 x a (by omega), h9, fun f g a b d e => h10 f a b g d e⟩
  · intro h
    exact ⟨⟨⟨⟨⟨⟨⟨⟨⟨⟨h.ob, h.m⟩, h.lt⟩, h.fr⟩, h.to⟩, h.li⟩, h.ids⟩, h.lc⟩, fun x a b => h.idt x a (by have := h.ob; omega)⟩, h.row⟩, fun f a b g d e => h.cell f g a b d e⟩
theorem shape_f {c : CategoryD} (h : ¬ ShapeP c) : shapeR c = false := by
  cases hs : shapeR c with
  | false => rfl
  | true => exact absurd (shape_iff.1 hs) h
theorem shape_t {c : CategoryD} (h : ShapeP c) : shapeR c = true := shape_iff.2 h
def c_impl_Category_isShape : Ct := ⟨[(.pt CategoryT)], [false], fun x => [], [(false, (.fz .bool))], fun x => (shapeR x.1, ()), false, none⟩
def W_impl_Category_isShape (c : CategoryD) (K : Bool × Unit → Prop) : Prop := ((((((!(inR c.1 (0 : Int) (8 : Int))) || (decide ((40 : Int) < (((List.length c.2.1) : Nat) : Int)))) || ((((List.length c.2.2.1) : Nat) : Int) != (((List.length c.2.1) : Nat) : Int))) = Bool.false) → (inK IntKind.i64 (c.1 - (1 : Int)))) ∧ (((((((!(inR c.1 (0 : Int) (8 : Int))) || (decide ((40 : Int) < (((List.length c.2.1) : Nat) : Int)))) || ((((List.length c.2.2.1) : Nat) : Int) != (((List.length c.2.1) : Nat) : Int))) || (!(withinR c.2.1 c.1))) = Bool.false) → (inK IntKind.i64 (c.1 - (1 : Int)))) ∧ (cnd (((((!(inR c.1 (0 : Int) (8 : Int))) || (decide ((40 : Int) < (((List.length c.2.1) : Nat) : Int)))) || ((((List.length c.2.2.1) : Nat) : Int) != (((List.length c.2.1) : Nat) : Int))) || (!(withinR c.2.1 c.1))) || (!(withinR c.2.2.1 c.1))) (K (Bool.false, ())) (((((((List.length c.2.2.2.1) : Nat) : Int) != c.1) = Bool.false) → (inK IntKind.i64 ((((List.length c.2.1) : Nat) : Int) - (1 : Int)))) ∧ (cnd ((((((List.length c.2.2.2.1) : Nat) : Int) != c.1) || (!(withinR c.2.2.2.1 (((List.length c.2.1) : Nat) : Int)))) || ((((List.length c.2.2.2.2) : Nat) : Int) != (((List.length c.2.1) : Nat) : Int))) (K (Bool.false, ())) (loopW (S := ((Int × Unit) × Unit)) (fun s => (fun next => ((inK IntKind.i64 s.1.1) → (cnd (decide (s.1.1 < (((List.length c.2.2.2.1) : Nat) : Int))) (((0 : Int) ≤ s.1.1) ∧ ((s.1.1 < (((List.length c.2.2.2.1) : Nat) : Int)) ∧ (((0 : Int) ≤ (List.getD c.2.2.2.1 (Int.toNat s.1.1) (0 : Int))) ∧ (((List.getD c.2.2.2.1 (Int.toNat s.1.1) (0 : Int)) < (((List.length c.2.1) : Nat) : Int)) ∧ (((List.getD c.2.2.2.1 (Int.toNat s.1.1) (0 : Int)) < (((List.length c.2.2.1) : Nat) : Int)) ∧ (cnd (!(((List.getD c.2.1 (Int.toNat (List.getD c.2.2.2.1 (Int.toNat s.1.1) (0 : Int))) (0 : Int)) == s.1.1) && ((List.getD c.2.2.1 (Int.toNat (List.getD c.2.2.2.1 (Int.toNat s.1.1) (0 : Int))) (0 : Int)) == s.1.1))) (K (Bool.false, ())) ((inK IntKind.i64 (s.1.1 + (1 : Int))) ∧ (next (((s.1.1 + (1 : Int)), ()), ()))))))))) (loopW (S := ((Int × Unit) × Unit)) (fun s1 => (fun next1 => ((inK IntKind.i64 s1.1.1) → (cnd (decide (s1.1.1 < (((List.length c.2.2.2.2) : Nat) : Int))) (((0 : Int) ≤ s1.1.1) ∧ ((s1.1.1 < (((List.length c.2.2.2.2) : Nat) : Int)) ∧ (cnd ((((List.length (List.getD c.2.2.2.2 (Int.toNat s1.1.1) ([] : List Int))) : Nat) : Int) != (((List.length c.2.1) : Nat) : Int)) (K (Bool.false, ())) (loopW (S := ((Int × Unit) × Unit)) (fun s2 => (fun next2 => ((inK IntKind.i64 s2.1.1) → (cnd (decide (s2.1.1 < (((List.length (List.getD c.2.2.2.2 (Int.toNat s1.1.1) ([] : List Int))) : Nat) : Int))) (joinW (S := (Unit × Unit)) (fun s3 => ((inK IntKind.i64 (s2.1.1 + (1 : Int))) ∧ (next2 (((s2.1.1 + (1 : Int)), ()), ())))) (fun k => (((0 : Int) ≤ s2.1.1) ∧ ((s2.1.1 < (((List.length (List.getD c.2.2.2.2 (Int.toNat s1.1.1) ([] : List Int))) : Nat) : Int)) ∧ (((0 : Int) ≤ s1.1.1) ∧ ((s1.1.1 < (((List.length c.2.2.1) : Nat) : Int)) ∧ (((0 : Int) ≤ s2.1.1) ∧ ((s2.1.1 < (((List.length c.2.1) : Nat) : Int)) ∧ (cnd ((List.getD c.2.2.1 (Int.toNat s1.1.1) (0 : Int)) != (List.getD c.2.1 (Int.toNat s2.1.1) (0 : Int))) (cnd ((List.getD (List.getD c.2.2.2.2 (Int.toNat s1.1.1) ([] : List Int)) (Int.toNat s2.1.1) (0 : Int)) != (-(1 : Int))) (K (Bool.false, ())) (k ((), ()))) ((inK IntKind.i64 ((((List.length c.2.1) : Nat) : Int) - (1 : Int))) ∧ ((((!(inR (List.getD (List.getD c.2.2.2.2 (Int.toNat s1.1.1) ([] : List Int)) (Int.toNat s2.1.1) (0 : Int)) (0 : Int) ((((List.length c.2.1) : Nat) : Int) - (1 : Int)))) = Bool.false) → (((List.getD (List.getD c.2.2.2.2 (Int.toNat s1.1.1) ([] : List Int)) (Int.toNat s2.1.1) (0 : Int)) < (((List.length c.2.1) : Nat) : Int)) ∧ (((List.getD (List.getD c.2.2.2.2 (Int.toNat s1.1.1) ([] : List Int)) (Int.toNat s2.1.1) (0 : Int)) < (((List.length c.2.2.1) : Nat) : Int)) ∧ ((0 : Int) ≤ (List.getD (List.getD c.2.2.2.2 (Int.toNat s1.1.1) ([] : List Int)) (Int.toNat s2.1.1) (0 : Int)))))) ∧ ((((!(inR (List.getD (List.getD c.2.2.2.2 (Int.toNat s1.1.1) ([] : List Int)) (Int.toNat s2.1.1) (0 : Int)) (0 : Int) ((((List.length c.2.1) : Nat) : Int) - (1 : Int)))) = Bool.false) → ((s1.1.1 < (((List.length c.2.1) : Nat) : Int)) ∧ ((0 : Int) ≤ s1.1.1))) ∧ ((((!(inR (List.getD (List.getD c.2.2.2.2 (Int.toNat s1.1.1) ([] : List Int)) (Int.toNat s2.1.1) (0 : Int)) (0 : Int) ((((List.length c.2.1) : Nat) : Int) - (1 : Int)))) = Bool.false) → ((s2.1.1 < (((List.length c.2.2.1) : Nat) : Int)) ∧ ((0 : Int) ≤ s2.1.1))) ∧ (cnd ((!(inR (List.getD (List.getD c.2.2.2.2 (Int.toNat s1.1.1) ([] : List Int)) (Int.toNat s2.1.1) (0 : Int)) (0 : Int) ((((List.length c.2.1) : Nat) : Int) - (1 : Int)))) || (!(((List.getD c.2.1 (Int.toNat (List.getD (List.getD c.2.2.2.2 (Int.toNat s1.1.1) ([] : List Int)) (Int.toNat s2.1.1) (0 : Int))) (0 : Int)) == (List.getD c.2.1 (Int.toNat s1.1.1) (0 : Int))) && ((List.getD c.2.2.1 (Int.toNat (List.getD (List.getD c.2.2.2.2 (Int.toNat s1.1.1) ([] : List Int)) (Int.toNat s2.1.1) (0 : Int))) (0 : Int)) == (List.getD c.2.2.1 (Int.toNat s2.1.1) (0 : Int)))))) (K (Bool.false, ())) (k ((), ())))))))))))))))) ((inK IntKind.i64 (s1.1.1 + (1 : Int))) ∧ (next1 (((s1.1.1 + (1 : Int)), ()), ()))))))) (((0 : Int), ()), ()))))) (K (Bool.true, ())))))) (((0 : Int), ()), ())))))) (((0 : Int), ()), ())))))))
theorem w_impl_Category_isShape (x : denL c_impl_Category_isShape.args) (K : Bool × Unit → Prop) : evF tab (lkp [(92, c_impl_Category_arrows), (102, c_impl_Category_ends), (55, c_impl_inRange), (61, c_impl_within)]) (cutL [(2, 43), (20, 15), (4, 28), (23, 26)]) Tryz.f98 (bodyOf Tryz.f98) (.s .n (.s .n (.s .n (.s .n (.s (.s .n (.l [(88, (.d (.int .i64)))] [] [0, 3, 86, 87] .n)) (.s (.s .n (.l [(106, (.d (.int .i64)))] [] [0, 3, 104, 105] (.s .n (.s .n (.s (.s .n (.s .n (.s .n (.l [(117, (.d (.int .i64)))] [] [0, 3, 6, 104, 105, 106, 115, 116] (.s .n (.s .n (.s (.j [] [] [0, 3, 6, 104, 105, 106, 115, 116, 117] .n) .n))))))) .n))))) .n)))))) c_impl_Category_isShape x K = W_impl_Category_isShape x.1 K := by kernel_rfl
theorem k_impl_Category_isShape : okC Tryz.f98.ntmps (cutL [(2, 43), (20, 15), (4, 28), (23, 26)]) (bodyOf Tryz.f98) = true := by kernel_rfl
theorem m_impl_Category_isShape (c : CategoryD) (hok : allP (okL c_impl_Category_isShape.args (c, ()))) (hpre : allP (c_impl_Category_isShape.pre (c, ()))) : W_impl_Category_isShape c (fun r => r = c_impl_Category_isShape.res (c, ())) := by
  simp only [c_impl_Category_isShape, okL, T.oks, T.ok, ap, allP, true_and, and_true, implies_true] at hok hpre
  try dsimp only [T.den] at hok
  try dsimp only [T.den] at hpre
  unfold W_impl_Category_isShape
  refine ⟨by grind [cnd, nb_eq, inK64, inR], by grind [cnd, nb_eq, inK64, inR], cnd_of (fun hc => ?_) (fun hc => ⟨by rw [inK64]; have := hok.2.1.1; grind [cnd, nb_eq, inK64], cnd_of (fun hd => ?_) (fun hd => ?_)⟩)⟩
  · simp only [c_impl_Category_isShape]; rw [shape_f]; intro h; have h1 := h.ob; have h2 := h.m; have h3 := h.lt; have h4 := h.fr; have h5 := h.to; simp only [inR] at hc; grind [cnd, nb_eq, inK64]
  · simp only [c_impl_Category_isShape]; rw [shape_f]; intro h; have h1 := h.li; have h2 := h.ids; have h3 := h.lc; grind [cnd, nb_eq, inK64]
  simp only [inR, Bool.or_eq_false_iff, Bool.not_eq_false', Bool.and_eq_true, decide_eq_true_eq, decide_eq_false_iff_not, bne_eq_false_iff_eq] at hc hd
  obtain ⟨⟨⟨⟨hob, hm⟩, hlt⟩, hfr⟩, hto⟩ := hc
  obtain ⟨⟨hli, hids⟩, hlc⟩ := hd
  have bad : ¬ ShapeP c → (false, ()) = c_impl_Category_isShape.res (c, ()) := fun h => by simp only [c_impl_Category_isShape]; rw [shape_f h]
  refine loop_ix (n := c.2.2.2.1.length) (fun x => ∀ y : Int, 0 ≤ y → y < x → c.2.1.getD (c.2.2.2.1.getD y.toNat 0).toNat 0 = y ∧ c.2.2.1.getD (c.2.2.2.1.getD y.toNat 0).toNat 0 = y) (by omega) (by intro y h0 h1; omega) ?_ ?_
  · intro x next h0 h1 hP hn hin
    have hb := within_iff.1 hids x h0 h1
    try dsimp only
    refine cnd_d (fun _ => ⟨h0, h1, hb.1, hb.2, by omega, cnd_of (fun hx => bad fun h => ?_) (fun hx => ?_)⟩) (fun h => absurd h1 h)
    · have := h.idt x h0 (by omega)
      rw [this.1, this.2] at hx
      simp at hx
    · simp only [Bool.not_eq_false', Bool.and_eq_true, beq_iff_eq] at hx
      refine ⟨by rw [inK64]; (try dsimp only); omega, hn fun y y0 y1 => ?_⟩
      by_cases e : y = x
      · rw [e]; exact hx
      · exact hP y y0 (by omega)
  intro next hidt hin
  refine cnd_d (fun h => absurd h (by dsimp only; omega)) (fun _ => ?_)
  refine loop_ix (n := c.2.2.2.2.length) (fun f => ∀ f' : Int, 0 ≤ f' → f' < f → (c.2.2.2.2.getD f'.toNat []).length = c.2.1.length ∧ ∀ g : Int, 0 ≤ g → g < c.2.1.length → cellR c f' g = true) (by omega) (by intro y h0 h1; omega) ?_ ?_
  · intro f next h0 h1 hP hn hin
    try dsimp only
    refine cnd_d (fun _ => ⟨h0, h1, cnd_of (fun hx => bad fun h => ?_) (fun hx => ?_)⟩) (fun h => absurd h1 h)
    · have := h.row f h0 (by omega)
      rw [this] at hx
      simp at hx
    simp only [bne_eq_false_iff_eq] at hx
    refine loop_ix (n := (c.2.2.2.2.getD f.toNat []).length) (fun g => ∀ g' : Int, 0 ≤ g' → g' < g → cellR c f g' = true) (by omega) (by intro y h0 h1; omega) ?_ ?_
    · intro g next3 g0 g1 hP3 hn3 hin3
      try dsimp only
      refine cnd_d (fun _ => ?_) (fun h => absurd g1 h)
      refine join_of (fun _ => cellR c f g = true) (fun _ hcell => ⟨by rw [inK64]; (try dsimp only); omega, hn3 fun g' y0 y1 => ?_⟩) (fun k hk => ?_)
      · by_cases e : g' = g
        · rw [e]; exact hcell
        · exact hP3 g' y0 (by omega)
      have hcell : ∀ b, cellR c f g = b → b = false → ¬ ShapeP c := fun b h1 h2 h => by
        have := h.cell f g h0 (by omega) g0 (by omega)
        rw [h1, h2] at this; cases this
      have hk' := hk ((), ())
      obtain ⟨v, hv⟩ : ∃ v, (c.2.2.2.2.getD f.toNat []).getD g.toNat 0 = v := ⟨_, rfl⟩
      have hR : cellR c f g = cellQ c f g v := by unfold cellR compR; rw [hv]
      rw [hR] at hk'
      rw [hR] at hcell
      rw [hv]
      clear hP3 hn3 hP hn hk hR hv hidt hok
      refine ⟨g0, g1, h0, by omega, g0, by omega, cnd_of (fun ha => cnd_of (fun hb => bad ?_) (fun hb => hk' ?_)) (fun ha => ⟨by rw [inK64]; (try dsimp only); omega, fun hv => ?_, fun _ => ⟨by omega, h0⟩, fun _ => ⟨by omega, g0⟩, cnd_of (fun hb => bad ?_) (fun hb => hk' ?_)⟩)⟩
      · exact hcell _ rfl (by grind [cnd, nb_eq, inK64, cellQ])
      · grind [cnd, nb_eq, inK64, cellQ]
      · simp only [inR, Bool.not_eq_false', Bool.and_eq_true, decide_eq_true_eq] at hv; omega
      · exact hcell _ rfl (by simp only [inR] at hb; grind [cnd, nb_eq, inK64, cellQ])
      · simp only [inR] at hb; grind [cnd, nb_eq, inK64, cellQ]
    · intro next3 hP3 hin3
      refine cnd_d (fun h => absurd h (by dsimp only; omega)) (fun _ => ⟨by rw [inK64]; (try dsimp only); omega, hn fun f' y0 y1 => ?_⟩)
      by_cases e : f' = f
      · rw [e]; exact ⟨by omega, fun g g0 g1 => hP3 g g0 (by omega)⟩
      · exact hP f' y0 (by omega)
  · intro next2 hP2 hin2
    refine cnd_d (fun h => absurd h (by dsimp only; omega)) (fun _ => ?_)
    simp only [c_impl_Category_isShape]
    rw [shape_t ⟨hob, by omega, by omega, hfr, hto, by omega, hids, by omega, fun x a b => hidt x a (by omega), fun f a b => (hP2 f a (by omega)).1, fun f g a b d e => (hP2 f a (by omega)).2 g d e⟩]
theorem ct_impl_Category_isShape : CtOk Tryz.prog 98 c_impl_Category_isShape :=
  ct_by (Φ := lkp [(92, c_impl_Category_arrows), (102, c_impl_Category_ends), (55, c_impl_inRange), (61, c_impl_within)]) (good_cons ct_impl_Category_arrows (good_cons ct_impl_Category_ends (good_cons ct_impl_inRange (good_cons ct_impl_within good_nil)))) tab_ok (by kernel_rfl) (fn := Tryz.f98) (c := bodyOf Tryz.f98) (by kernel_rfl) (by kernel_rfl) (by kernel_rfl) c_impl_Category_isShape rfl (.s .n (.s .n (.s .n (.s .n (.s (.s .n (.l [(88, (.d (.int .i64)))] [] [0, 3, 86, 87] .n)) (.s (.s .n (.l [(106, (.d (.int .i64)))] [] [0, 3, 104, 105] (.s .n (.s .n (.s (.s .n (.s .n (.s .n (.l [(117, (.d (.int .i64)))] [] [0, 3, 6, 104, 105, 106, 115, 116] (.s .n (.s .n (.s (.j [] [] [0, 3, 6, 104, 105, 106, 115, 116, 117] .n) .n))))))) .n))))) .n)))))) (cutL [(2, 43), (20, 15), (4, 28), (23, 26)]) (by kernel_rfl) (by kernel_rfl) k_impl_Category_isShape (by decide) (fun x K => W_impl_Category_isShape x.1 K) w_impl_Category_isShape (fun x h1 h2 => m_impl_Category_isShape x.1 h1 h2)
theorem ShapeP.frm {c : CategoryD} (h : ShapeP c) {f : Int} (h0 : 0 ≤ f) (h1 : f < c.2.1.length) : 0 ≤ c.2.1.getD f.toNat 0 ∧ c.2.1.getD f.toNat 0 < c.1 ∧ 0 ≤ c.2.2.1.getD f.toNat 0 ∧ c.2.2.1.getD f.toNat 0 < c.1 := by
  have a := within_iff.1 h.fr f h0 h1
  have b := within_iff.1 h.to f h0 (by have := h.lt; omega)
  exact ⟨a.1, a.2, b.1, b.2⟩
theorem ShapeP.idn {c : CategoryD} (h : ShapeP c) {x : Int} (h0 : 0 ≤ x) (h1 : x < c.1) : 0 ≤ c.2.2.2.1.getD x.toNat 0 ∧ c.2.2.2.1.getD x.toNat 0 < c.2.1.length ∧ c.2.1.getD (c.2.2.2.1.getD x.toNat 0).toNat 0 = x ∧ c.2.2.1.getD (c.2.2.2.1.getD x.toNat 0).toNat 0 = x := by
  have a := within_iff.1 h.ids x h0 (by have := h.li; omega)
  have b := h.idt x h0 h1
  exact ⟨a.1, a.2, b.1, b.2⟩
theorem ShapeP.yes {c : CategoryD} (h : ShapeP c) {f g : Int} (h0 : 0 ≤ f) (h1 : f < c.2.1.length) (g0 : 0 ≤ g) (g1 : g < c.2.1.length) (e : c.2.2.1.getD f.toNat 0 = c.2.1.getD g.toNat 0) :
    0 ≤ compR c f g ∧ compR c f g < c.2.1.length ∧ c.2.1.getD (compR c f g).toNat 0 = c.2.1.getD f.toNat 0 ∧ c.2.2.1.getD (compR c f g).toNat 0 = c.2.2.1.getD g.toNat 0 := by
  have := h.cell f g h0 h1 g0 g1
  unfold cellR cellQ at this
  rw [if_pos e] at this
  simpa using this
theorem ShapeP.no {c : CategoryD} (h : ShapeP c) {f g : Int} (h0 : 0 ≤ f) (h1 : f < c.2.1.length) (g0 : 0 ≤ g) (g1 : g < c.2.1.length) (e : c.2.2.1.getD f.toNat 0 ≠ c.2.1.getD g.toNat 0) : compR c f g = -1 := by
  have := h.cell f g h0 h1 g0 g1
  unfold cellR cellQ at this
  rw [if_neg e] at this
  simpa using this
theorem ShapeP.comp {c : CategoryD} (h : ShapeP c) {f g : Int} (h0 : 0 ≤ f) (h1 : f < c.2.1.length) (g0 : 0 ≤ g) (g1 : g < c.2.1.length) : 0 ≤ compR c f g ↔ c.2.2.1.getD f.toNat 0 = c.2.1.getD g.toNat 0 := by
  constructor
  · intro h2
    by_cases e : c.2.2.1.getD f.toNat 0 = c.2.1.getD g.toNat 0
    · exact e
    · have := h.no h0 h1 g0 g1 e; omega
  · intro e; exact (h.yes h0 h1 g0 g1 e).1
def faultI (c : CategoryD) (f : Int) : Option (Int × Int × Int × Int) :=
  if compR c (c.2.2.2.1.getD (c.2.1.getD f.toNat 0).toNat 0) f ≠ f ∨ compR c f (c.2.2.2.1.getD (c.2.2.1.getD f.toNat 0).toNat 0) ≠ f then some (1, f, 0, 0) else none
def faultH (c : CategoryD) (f g h : Int) : Option (Int × Int × Int × Int) :=
  if c.2.2.1.getD g.toNat 0 = c.2.1.getD h.toNat 0 ∧ compR c (compR c f g) h ≠ compR c f (compR c g h) then some (2, f, g, h) else none
def faultG (c : CategoryD) (f g : Int) : Option (Int × Int × Int × Int) :=
  if c.2.2.1.getD f.toNat 0 = c.2.1.getD g.toNat 0 then scanR (faultH c f g) c.2.1.length 0 else none
def faultF (c : CategoryD) (f : Int) : Option (Int × Int × Int × Int) := scanR (faultG c f) c.2.1.length 0
def faultR (c : CategoryD) : Int × Int × Int × Int :=
  orR (scanR (faultI c) c.2.1.length 0) (orR (scanR (faultF c) c.2.1.length 0) (0, 0, 0, 0))
def c_impl_Category_fault : Ct := ⟨[(.pt CategoryT)], [false], fun x => [ShapeP x.1], [(false, (.fz (.int .i64))), (false, (.fz (.int .i64))), (false, (.fz (.int .i64))), (false, (.fz (.int .i64)))], fun x => ((faultR x.1).1, (faultR x.1).2.1, (faultR x.1).2.2.1, (faultR x.1).2.2.2, ()), false, none⟩
def W_impl_Category_fault (c : CategoryD) (K : Int × Int × Int × Int × Unit → Prop) : Prop := (loopW (S := ((Int × Unit) × Unit)) (fun s => (fun next => ((inK IntKind.i64 s.1.1) → (cnd (decide (s.1.1 < (((List.length c.2.1) : Nat) : Int))) (((0 : Int) ≤ s.1.1) ∧ ((s.1.1 < (((List.length c.2.1) : Nat) : Int)) ∧ (((0 : Int) ≤ (List.getD c.2.1 (Int.toNat s.1.1) (0 : Int))) ∧ (((List.getD c.2.1 (Int.toNat s.1.1) (0 : Int)) < (((List.length c.2.2.2.1) : Nat) : Int)) ∧ (((0 : Int) ≤ (List.getD c.2.2.2.1 (Int.toNat (List.getD c.2.1 (Int.toNat s.1.1) (0 : Int))) (0 : Int))) ∧ (((List.getD c.2.2.2.1 (Int.toNat (List.getD c.2.1 (Int.toNat s.1.1) (0 : Int))) (0 : Int)) < (((List.length c.2.2.2.2) : Nat) : Int)) ∧ (((0 : Int) ≤ s.1.1) ∧ ((s.1.1 < (((List.length (List.getD c.2.2.2.2 (Int.toNat (List.getD c.2.2.2.1 (Int.toNat (List.getD c.2.1 (Int.toNat s.1.1) (0 : Int))) (0 : Int))) ([] : List Int))) : Nat) : Int)) ∧ (((((compR c (List.getD c.2.2.2.1 (Int.toNat (List.getD c.2.1 (Int.toNat s.1.1) (0 : Int))) (0 : Int)) s.1.1) != s.1.1) = Bool.false) → ((s.1.1 < (((List.length c.2.2.1) : Nat) : Int)) ∧ ((0 : Int) ≤ s.1.1))) ∧ (((((compR c (List.getD c.2.2.2.1 (Int.toNat (List.getD c.2.1 (Int.toNat s.1.1) (0 : Int))) (0 : Int)) s.1.1) != s.1.1) = Bool.false) → (((List.getD c.2.2.1 (Int.toNat s.1.1) (0 : Int)) < (((List.length c.2.2.2.1) : Nat) : Int)) ∧ ((0 : Int) ≤ (List.getD c.2.2.1 (Int.toNat s.1.1) (0 : Int))))) ∧ (((((compR c (List.getD c.2.2.2.1 (Int.toNat (List.getD c.2.1 (Int.toNat s.1.1) (0 : Int))) (0 : Int)) s.1.1) != s.1.1) = Bool.false) → ((s.1.1 < (((List.length c.2.2.2.2) : Nat) : Int)) ∧ (((0 : Int) ≤ (List.getD c.2.2.2.1 (Int.toNat (List.getD c.2.2.1 (Int.toNat s.1.1) (0 : Int))) (0 : Int))) ∧ (((List.getD c.2.2.2.1 (Int.toNat (List.getD c.2.2.1 (Int.toNat s.1.1) (0 : Int))) (0 : Int)) < (((List.length (List.getD c.2.2.2.2 (Int.toNat s.1.1) ([] : List Int))) : Nat) : Int)) ∧ ((0 : Int) ≤ s.1.1))))) ∧ (cnd (((compR c (List.getD c.2.2.2.1 (Int.toNat (List.getD c.2.1 (Int.toNat s.1.1) (0 : Int))) (0 : Int)) s.1.1) != s.1.1) || ((compR c s.1.1 (List.getD c.2.2.2.1 (Int.toNat (List.getD c.2.2.1 (Int.toNat s.1.1) (0 : Int))) (0 : Int))) != s.1.1)) (K ((1 : Int), (s.1.1, ((0 : Int), ((0 : Int), ()))))) ((inK IntKind.i64 (s.1.1 + (1 : Int))) ∧ (next (((s.1.1 + (1 : Int)), ()), ()))))))))))))))) (loopW (S := ((Int × Unit) × Unit)) (fun s1 => (fun next1 => ((inK IntKind.i64 s1.1.1) → (cnd (decide (s1.1.1 < (((List.length c.2.1) : Nat) : Int))) (loopW (S := ((Int × Unit) × Unit)) (fun s2 => (fun next2 => ((inK IntKind.i64 s2.1.1) → (cnd (decide (s2.1.1 < (((List.length c.2.1) : Nat) : Int))) (joinW (S := (Unit × Unit)) (fun s3 => ((inK IntKind.i64 (s2.1.1 + (1 : Int))) ∧ (next2 (((s2.1.1 + (1 : Int)), ()), ())))) (fun k => (((0 : Int) ≤ s1.1.1) ∧ ((s1.1.1 < (((List.length c.2.2.2.2) : Nat) : Int)) ∧ (((0 : Int) ≤ s2.1.1) ∧ ((s2.1.1 < (((List.length (List.getD c.2.2.2.2 (Int.toNat s1.1.1) ([] : List Int))) : Nat) : Int)) ∧ (cnd (decide ((compR c s1.1.1 s2.1.1) < (0 : Int))) (k ((), ())) (loopW (S := ((Int × Unit) × Unit)) (fun s3 => (fun next3 => ((inK IntKind.i64 s3.1.1) → (cnd (decide (s3.1.1 < (((List.length c.2.1) : Nat) : Int))) (((0 : Int) ≤ s2.1.1) ∧ ((s2.1.1 < (((List.length c.2.2.2.2) : Nat) : Int)) ∧ (((0 : Int) ≤ s3.1.1) ∧ ((s3.1.1 < (((List.length (List.getD c.2.2.2.2 (Int.toNat s2.1.1) ([] : List Int))) : Nat) : Int)) ∧ ((((decide ((0 : Int) ≤ (compR c s2.1.1 s3.1.1))) = Bool.true) → ((s1.1.1 < (((List.length c.2.2.2.2) : Nat) : Int)) ∧ (((0 : Int) ≤ s2.1.1) ∧ ((s2.1.1 < (((List.length (List.getD c.2.2.2.2 (Int.toNat s1.1.1) ([] : List Int))) : Nat) : Int)) ∧ ((0 : Int) ≤ s1.1.1))))) ∧ ((((decide ((0 : Int) ≤ (compR c s2.1.1 s3.1.1))) = Bool.true) → (((compR c s1.1.1 s2.1.1) < (((List.length c.2.2.2.2) : Nat) : Int)) ∧ (((0 : Int) ≤ s3.1.1) ∧ ((s3.1.1 < (((List.length (List.getD c.2.2.2.2 (Int.toNat (compR c s1.1.1 s2.1.1)) ([] : List Int))) : Nat) : Int)) ∧ ((0 : Int) ≤ (compR c s1.1.1 s2.1.1)))))) ∧ ((((decide ((0 : Int) ≤ (compR c s2.1.1 s3.1.1))) = Bool.true) → ((s2.1.1 < (((List.length c.2.2.2.2) : Nat) : Int)) ∧ (((0 : Int) ≤ s3.1.1) ∧ ((s3.1.1 < (((List.length (List.getD c.2.2.2.2 (Int.toNat s2.1.1) ([] : List Int))) : Nat) : Int)) ∧ ((0 : Int) ≤ s2.1.1))))) ∧ ((((decide ((0 : Int) ≤ (compR c s2.1.1 s3.1.1))) = Bool.true) → ((s1.1.1 < (((List.length c.2.2.2.2) : Nat) : Int)) ∧ (((0 : Int) ≤ (compR c s2.1.1 s3.1.1)) ∧ (((compR c s2.1.1 s3.1.1) < (((List.length (List.getD c.2.2.2.2 (Int.toNat s1.1.1) ([] : List Int))) : Nat) : Int)) ∧ ((0 : Int) ≤ s1.1.1))))) ∧ (cnd ((decide ((0 : Int) ≤ (compR c s2.1.1 s3.1.1))) && ((compR c (compR c s1.1.1 s2.1.1) s3.1.1) != (compR c s1.1.1 (compR c s2.1.1 s3.1.1)))) (K ((2 : Int), (s1.1.1, (s2.1.1, (s3.1.1, ()))))) ((inK IntKind.i64 (s3.1.1 + (1 : Int))) ∧ (next3 (((s3.1.1 + (1 : Int)), ()), ())))))))))))) (k ((), ())))))) (((0 : Int), ()), ()))))))))) ((inK IntKind.i64 (s1.1.1 + (1 : Int))) ∧ (next1 (((s1.1.1 + (1 : Int)), ()), ()))))))) (((0 : Int), ()), ())) (K ((0 : Int), ((0 : Int), ((0 : Int), ((0 : Int), ()))))))))) (((0 : Int), ()), ())))))) (((0 : Int), ()), ()))
theorem w_impl_Category_fault (x : denL c_impl_Category_fault.args) (K : Int × Int × Int × Int × Unit → Prop) : evF tab (lkp [(92, c_impl_Category_arrows), (103, c_impl_Category_then)]) (cutL [(5, 38)]) Tryz.f99 (bodyOf Tryz.f99) (.s .n (.s .n (.s (.s .n (.l [(7, (.d (.int .i64)))] [] [0, 6] .n)) (.s (.s .n (.l [(8, (.d (.int .i64)))] [] [0, 6] (.s .n (.s (.s .n (.l [(9, (.d (.int .i64)))] [] [0, 6, 8] (.s .n (.s (.j [] [] [0, 6, 8, 9] (.s .n (.s .n (.l [(10, (.d (.int .i64)))] [] [0, 6, 8, 9] .n)))) .n)))) .n)))) .n)))) c_impl_Category_fault x K = W_impl_Category_fault x.1 K := by kernel_rfl
theorem k_impl_Category_fault : okC Tryz.f99.ntmps (cutL [(5, 38)]) (bodyOf Tryz.f99) = true := by kernel_rfl
theorem m_impl_Category_fault (c : CategoryD) (hok : allP (okL c_impl_Category_fault.args (c, ()))) (hpre : allP (c_impl_Category_fault.pre (c, ()))) : W_impl_Category_fault c (fun r => r = c_impl_Category_fault.res (c, ())) := by
  simp only [c_impl_Category_fault, okL, T.oks, T.ok, ap, allP, true_and, and_true, implies_true] at hok hpre
  try dsimp only [T.den] at hok
  try dsimp only [T.den] at hpre
  unfold W_impl_Category_fault
  have S : ShapeP c := hpre
  have hlt := S.lt
  have hli := S.li
  have hlc := S.lc
  have hmm := S.m
  have resq : ∀ a b d e, faultR c = (a, b, d, e) → (a, b, d, e, ()) = c_impl_Category_fault.res (c, ()) := fun a b d e h => by simp only [c_impl_Category_fault, h]
  refine loop_ix (n := c.2.1.length) (fun f => scanR (faultI c) c.2.1.length 0 = scanR (faultI c) ((c.2.1.length : Int) - f).toNat f) (by omega) scan_0 ?_ ?_
  · intro f next h0 h1 hP hn hin
    try dsimp only
    obtain ⟨a1, a2, a3, a4⟩ := S.frm h0 h1
    obtain ⟨b1, b2, _, _⟩ := S.idn a1 a2
    obtain ⟨d1, d2, _, _⟩ := S.idn a3 a4
    have r1 := S.row _ b1 b2
    have r2 := S.row f h0 h1
    refine cnd_d (fun _ => ⟨h0, h1, by omega, by omega, by omega, by omega, h0, by omega, fun _ => by omega, fun _ => by omega, fun _ => by omega, cnd_of (fun hx => resq _ _ _ _ ?_) (fun hx => ⟨by rw [inK64]; (try dsimp only); omega, hn ?_⟩)⟩) (fun h => absurd h1 h)
    · have : faultI c f = some (1, f, 0, 0) := by unfold faultI; rw [if_pos]; simpa using hx
      unfold faultR; rw [hP, scan_s h1 this]; rfl
    · have : faultI c f = none := by unfold faultI; rw [if_neg]; simpa using hx
      rw [hP, scan_c h1 this]
  intro next hI hin
  rw [scan_n] at hI
  refine cnd_d (fun h => absurd h (by dsimp only; omega)) (fun _ => ?_)
  have hF : faultR c = orR (scanR (faultF c) c.2.1.length 0) (0, 0, 0, 0) := by unfold faultR; rw [hI]; rfl
  refine loop_ix (n := c.2.1.length) (fun f => scanR (faultF c) c.2.1.length 0 = scanR (faultF c) ((c.2.1.length : Int) - f).toNat f) (by omega) scan_0 ?_ ?_
  · intro f next h0 h1 hP hn hin
    try dsimp only
    refine cnd_d (fun _ => ?_) (fun h => absurd h1 h)
    have r1 := S.row f h0 h1
    refine loop_ix (n := c.2.1.length) (fun g => faultF c f = scanR (faultG c f) ((c.2.1.length : Int) - g).toNat g) (by omega) scan_0 ?_ ?_
    · intro g next3 g0 g1 hP3 hn3 hin3
      try dsimp only
      refine cnd_d (fun _ => ?_) (fun h => absurd g1 h)
      have r2 := S.row g g0 g1
      refine join_of (fun _ => faultG c f g = none) (fun _ hG => ⟨by rw [inK64]; (try dsimp only); omega, hn3 (by rw [hP3, scan_c g1 hG])⟩) (fun k hk => ?_)
      have hk' := hk ((), ())
      refine ⟨by omega, by omega, by omega, by omega, cnd_d (fun hx => hk' ?_) (fun hx => ?_)⟩
      · unfold faultG; rw [if_neg]; intro e; have := (S.comp h0 h1 g0 g1).2 e; omega
      have hfg := (S.comp h0 h1 g0 g1).1 (by omega)
      obtain ⟨y1, y2, _, _⟩ := S.yes h0 h1 g0 g1 hfg
      refine loop_ix (n := c.2.1.length) (fun h => faultG c f g = scanR (faultH c f g) ((c.2.1.length : Int) - h).toNat h) (by omega) (by unfold faultG; rw [if_pos hfg]; exact scan_0) ?_ ?_
      · intro h next4 i0 i1 hP4 hn4 hin4
        try dsimp only
        refine cnd_d (fun _ => ?_) (fun h => absurd i1 h)
        have r3 := S.row _ y1 y2
        have cgh := S.comp g0 g1 i0 i1
        have ygh := @ShapeP.yes c S g h g0 g1 i0 i1
        refine ⟨by omega, by omega, by omega, by omega, fun _ => by omega, fun _ => by omega, fun _ => by omega, fun he => ?_, cnd_of (fun hx => resq _ _ _ _ ?_) (fun hx => ⟨by rw [inK64]; (try dsimp only); omega, hn4 ?_⟩)⟩
        · have := ygh (cgh.1 (by simpa using he)); omega
        · have : faultH c f g h = some (2, f, g, h) := by unfold faultH; rw [if_pos]; rw [← cgh]; simpa using hx
          have e1 : faultG c f g = some (2, f, g, h) := by rw [hP4, scan_s i1 this]
          have e2 : faultF c f = some (2, f, g, h) := by rw [hP3, scan_s g1 e1]
          rw [hF, hP, scan_s h1 e2]; rfl
        · have : faultH c f g h = none := by unfold faultH; rw [if_neg]; rw [← cgh]; simpa using hx
          rw [hP4, scan_c i1 this]
      · intro next4 hP4 hin4
        rw [scan_n] at hP4
        exact cnd_d (fun h => absurd h (by dsimp only; omega)) (fun _ => hk' hP4)
    · intro next3 hP3 hin3
      rw [scan_n] at hP3
      exact cnd_d (fun h => absurd h (by dsimp only; omega)) (fun _ => ⟨by rw [inK64]; (try dsimp only); omega, hn (by rw [hP, scan_c h1 hP3])⟩)
  · intro next2 hP2 hin2
    rw [scan_n] at hP2
    refine cnd_d (fun h => absurd h (by dsimp only; omega)) (fun _ => resq _ _ _ _ ?_)
    rw [hF, hP2]; rfl
theorem ct_impl_Category_fault : CtOk Tryz.prog 99 c_impl_Category_fault :=
  ct_by (Φ := lkp [(92, c_impl_Category_arrows), (103, c_impl_Category_then)]) (good_cons ct_impl_Category_arrows (good_cons ct_impl_Category_then good_nil)) tab_ok (by kernel_rfl) (fn := Tryz.f99) (c := bodyOf Tryz.f99) (by kernel_rfl) (by kernel_rfl) (by kernel_rfl) c_impl_Category_fault rfl (.s .n (.s .n (.s (.s .n (.l [(7, (.d (.int .i64)))] [] [0, 6] .n)) (.s (.s .n (.l [(8, (.d (.int .i64)))] [] [0, 6] (.s .n (.s (.s .n (.l [(9, (.d (.int .i64)))] [] [0, 6, 8] (.s .n (.s (.j [] [] [0, 6, 8, 9] (.s .n (.s .n (.l [(10, (.d (.int .i64)))] [] [0, 6, 8, 9] .n)))) .n)))) .n)))) .n)))) (cutL [(5, 38)]) (by kernel_rfl) (by kernel_rfl) k_impl_Category_fault (by decide) (fun x K => W_impl_Category_fault x.1 K) w_impl_Category_fault (fun x h1 h2 => m_impl_Category_fault x.1 h1 h2)
def catR (c : CategoryD) : Bool := shapeR c && (faultR c).1 == 0
def c_impl_Category_isCategory : Ct := ⟨[(.pt CategoryT)], [false], fun x => [], [(false, (.fz .bool))], fun x => (catR x.1, ()), false, none⟩
def W_impl_Category_isCategory (c : CategoryD) (K : Bool × Unit → Prop) : Prop := (cnd (!(shapeR c)) (K (Bool.false, ())) ((ShapeP c) ∧ (K (((faultR c).1 == (0 : Int)), ()))))
theorem w_impl_Category_isCategory (x : denL c_impl_Category_isCategory.args) (K : Bool × Unit → Prop) : evF tab (lkp [(99, c_impl_Category_fault), (98, c_impl_Category_isShape)]) (cutL []) Tryz.f91 (bodyOf Tryz.f91) .n c_impl_Category_isCategory x K = W_impl_Category_isCategory x.1 K := by kernel_rfl
theorem k_impl_Category_isCategory : okC Tryz.f91.ntmps (cutL []) (bodyOf Tryz.f91) = true := by kernel_rfl
theorem m_impl_Category_isCategory (c : CategoryD) (hok : allP (okL c_impl_Category_isCategory.args (c, ()))) (hpre : allP (c_impl_Category_isCategory.pre (c, ()))) : W_impl_Category_isCategory c (fun r => r = c_impl_Category_isCategory.res (c, ())) := by
  simp only [c_impl_Category_isCategory, okL, T.oks, T.ok, ap, allP, true_and, and_true, implies_true] at hok hpre
  try dsimp only [T.den] at hok
  try dsimp only [T.den] at hpre
  unfold W_impl_Category_isCategory
  simp only [c_impl_Category_isCategory, catR]
  have := @shape_iff c
  grind [cnd, nb_eq, inK64]
theorem ct_impl_Category_isCategory : CtOk Tryz.prog 91 c_impl_Category_isCategory :=
  ct_by (Φ := lkp [(99, c_impl_Category_fault), (98, c_impl_Category_isShape)]) (good_cons ct_impl_Category_fault (good_cons ct_impl_Category_isShape good_nil)) tab_ok (by kernel_rfl) (fn := Tryz.f91) (c := bodyOf Tryz.f91) (by kernel_rfl) (by kernel_rfl) (by kernel_rfl) c_impl_Category_isCategory rfl .n (cutL []) (by kernel_rfl) (by kernel_rfl) k_impl_Category_isCategory (by decide) (fun x K => W_impl_Category_isCategory x.1 K) w_impl_Category_isCategory (fun x h1 h2 => m_impl_Category_isCategory x.1 h1 h2)
def c_impl_isMapOf : Ct := ⟨[(.sl (.int .i64)), (.int .i64), (.int .i64)], [false, false, false], fun x => [inK .i64 (x.2.2.1 - 1)], [(false, (.fz .bool))], fun x => ((decide ((x.1.length : Int) = x.2.1) && withinR x.1 x.2.2.1), ()), false, none⟩
def W_impl_isMapOf (f : List Int) (m : Int) (n : Int) (K : Bool × Unit → Prop) : Prop := (((((((List.length f) : Nat) : Int) == m) = Bool.true) → (inK IntKind.i64 (n - (1 : Int)))) ∧ (K ((((((List.length f) : Nat) : Int) == m) && (withinR f n)), ())))
theorem w_impl_isMapOf (x : denL c_impl_isMapOf.args) (K : Bool × Unit → Prop) : evF tab (lkp [(61, c_impl_within)]) (cutL []) Tryz.f93 (bodyOf Tryz.f93) .n c_impl_isMapOf x K = W_impl_isMapOf x.1 x.2.1 x.2.2.1 K := by kernel_rfl
theorem k_impl_isMapOf : okC Tryz.f93.ntmps (cutL []) (bodyOf Tryz.f93) = true := by kernel_rfl
theorem m_impl_isMapOf (f : List Int) (m : Int) (n : Int) (hok : allP (okL c_impl_isMapOf.args (f, m, n, ()))) (hpre : allP (c_impl_isMapOf.pre (f, m, n, ()))) : W_impl_isMapOf f m n (fun r => r = c_impl_isMapOf.res (f, m, n, ())) := by
  simp only [c_impl_isMapOf, okL, T.oks, T.ok, ap, allP, true_and, and_true, implies_true] at hok hpre
  try dsimp only [T.den] at hok
  try dsimp only [T.den] at hpre
  unfold W_impl_isMapOf
  simp only [c_impl_isMapOf]
  grind [cnd, nb_eq, inK64]
theorem ct_impl_isMapOf : CtOk Tryz.prog 93 c_impl_isMapOf :=
  ct_by (Φ := lkp [(61, c_impl_within)]) (good_cons ct_impl_within good_nil) tab_ok (by kernel_rfl) (fn := Tryz.f93) (c := bodyOf Tryz.f93) (by kernel_rfl) (by kernel_rfl) (by kernel_rfl) c_impl_isMapOf rfl .n (cutL []) (by kernel_rfl) (by kernel_rfl) k_impl_isMapOf (by decide) (fun x K => W_impl_isMapOf x.1 x.2.1 x.2.2.1 K) w_impl_isMapOf (fun x h1 h2 => m_impl_isMapOf x.1 x.2.1 x.2.2.1 h1 h2)
theorem cat_shape {c : CategoryD} (h : catR c = true) : ShapeP c := by
  simp only [catR, Bool.and_eq_true] at h; exact shape_iff.1 h.1
def sfActR (f : SetFunctorD) (a : Int) : Bool := decide (((f.2.2.getD a.toNat []).length : Int) = f.2.1.getD (f.1.2.1.getD a.toNat 0).toNat 0) && withinR (f.2.2.getD a.toNat []) (f.2.1.getD (f.1.2.2.1.getD a.toNat 0).toNat 0)
def sfShapeR (f : SetFunctorD) : Bool := catR f.1 && decide ((f.2.1.length : Int) = f.1.1) && withinR f.2.1 17 && decide (f.2.2.length = f.1.2.1.length) && allB f.2.2.length (sfActR f)
structure SfP (f : SetFunctorD) : Prop where
  cat : catR f.1 = true
  lz : (f.2.1.length : Int) = f.1.1
  wz : withinR f.2.1 17 = true
  la : f.2.2.length = f.1.2.1.length
  act : ∀ a : Int, 0 ≤ a → a < f.1.2.1.length → ((f.2.2.getD a.toNat []).length : Int) = f.2.1.getD (f.1.2.1.getD a.toNat 0).toNat 0 ∧ withinR (f.2.2.getD a.toNat []) (f.2.1.getD (f.1.2.2.1.getD a.toNat 0).toNat 0) = true
theorem sf_iff {f : SetFunctorD} : sfShapeR f = true ↔ SfP f := by
  simp only [sfShapeR, sfActR, Bool.and_eq_true, decide_eq_true_eq, allB_iff]
  constructor
  · rintro ⟨⟨⟨⟨h1, h2⟩, h3⟩, h4⟩, h5⟩
    exact ⟨h1, h2, h3, h4, fun a a0 a1 => h5 a a0 (by omega)⟩
  · rintro ⟨h1, h2, h3, h4, h5⟩
    exact ⟨⟨⟨⟨h1, h2⟩, h3⟩, h4⟩, fun a a0 a1 => h5 a a0 (by omega)⟩
theorem SfP.size {f : SetFunctorD} (S : SfP f) {x : Int} (h0 : 0 ≤ x) (h1 : x < f.1.1) : 0 ≤ f.2.1.getD x.toNat 0 ∧ f.2.1.getD x.toNat 0 ≤ 16 := by
  have := within_iff.1 S.wz x h0 (by have := S.lz; omega)
  exact ⟨this.1, by omega⟩
def actR (f : SetFunctorD) (a e : Int) : Int := (f.2.2.getD a.toNat []).getD e.toNat 0
theorem SfP.at_ {f : SetFunctorD} (S : SfP f) {a e : Int} (h0 : 0 ≤ a) (h1 : a < f.1.2.1.length) (e0 : 0 ≤ e) (e1 : e < f.2.1.getD (f.1.2.1.getD a.toNat 0).toNat 0) :
    e < (f.2.2.getD a.toNat []).length ∧ 0 ≤ actR f a e ∧ actR f a e < f.2.1.getD (f.1.2.2.1.getD a.toNat 0).toNat 0 := by
  obtain ⟨k1, k2⟩ := S.act a h0 h1
  have := within_iff.1 k2 e e0 (by omega)
  exact ⟨by omega, this.1, this.2⟩
def c_impl_SetFunctor_isShape : Ct := ⟨[(.pt SetFunctorT)], [false], fun x => [], [(false, (.fz .bool))], fun x => (sfShapeR x.1, ()), false, none⟩
def W_impl_SetFunctor_isShape (f : SetFunctorD) (K : Bool × Unit → Prop) : Prop := (((((!(catR f.1)) || ((((List.length f.2.1) : Nat) : Int) != f.1.1)) = Bool.false) → (inK IntKind.i64 ((17 : Int) - (1 : Int)))) ∧ (cnd ((((!(catR f.1)) || ((((List.length f.2.1) : Nat) : Int) != f.1.1)) || (!(withinR f.2.1 (17 : Int)))) || ((((List.length f.2.2) : Nat) : Int) != (((List.length f.1.2.1) : Nat) : Int))) (K (Bool.false, ())) (loopW (S := ((Int × Unit) × Unit)) (fun s => (fun next => ((inK IntKind.i64 s.1.1) → (cnd (decide (s.1.1 < (((List.length f.2.2) : Nat) : Int))) (((0 : Int) ≤ s.1.1) ∧ ((s.1.1 < (((List.length f.2.2) : Nat) : Int)) ∧ (((0 : Int) ≤ s.1.1) ∧ ((s.1.1 < (((List.length f.1.2.1) : Nat) : Int)) ∧ (((0 : Int) ≤ (List.getD f.1.2.1 (Int.toNat s.1.1) (0 : Int))) ∧ (((List.getD f.1.2.1 (Int.toNat s.1.1) (0 : Int)) < (((List.length f.2.1) : Nat) : Int)) ∧ (((0 : Int) ≤ s.1.1) ∧ ((s.1.1 < (((List.length f.1.2.2.1) : Nat) : Int)) ∧ (((0 : Int) ≤ (List.getD f.1.2.2.1 (Int.toNat s.1.1) (0 : Int))) ∧ (((List.getD f.1.2.2.1 (Int.toNat s.1.1) (0 : Int)) < (((List.length f.2.1) : Nat) : Int)) ∧ ((inK IntKind.i64 ((List.getD f.2.1 (Int.toNat (List.getD f.1.2.2.1 (Int.toNat s.1.1) (0 : Int))) (0 : Int)) - (1 : Int))) ∧ (cnd (!((decide ((((List.length (List.getD f.2.2 (Int.toNat s.1.1) ([] : List Int))) : Nat) : Int) = (List.getD f.2.1 (Int.toNat (List.getD f.1.2.1 (Int.toNat s.1.1) (0 : Int))) (0 : Int)))) && (withinR (List.getD f.2.2 (Int.toNat s.1.1) ([] : List Int)) (List.getD f.2.1 (Int.toNat (List.getD f.1.2.2.1 (Int.toNat s.1.1) (0 : Int))) (0 : Int))))) (K (Bool.false, ())) ((inK IntKind.i64 (s.1.1 + (1 : Int))) ∧ (next (((s.1.1 + (1 : Int)), ()), ()))))))))))))))) (K (Bool.true, ())))))) (((0 : Int), ()), ()))))
theorem w_impl_SetFunctor_isShape (x : denL c_impl_SetFunctor_isShape.args) (K : Bool × Unit → Prop) : evF tab (lkp [(92, c_impl_Category_arrows), (91, c_impl_Category_isCategory), (93, c_impl_isMapOf), (61, c_impl_within)]) (cutL [(2, 33), (7, 29)]) Tryz.f76 (bodyOf Tryz.f76) (.s .n (.s .n (.s .n (.s (.s .n (.l [(47, (.d (.int .i64)))] [] [0, 3, 45, 46] .n)) .n)))) c_impl_SetFunctor_isShape x K = W_impl_SetFunctor_isShape x.1 K := by kernel_rfl
theorem k_impl_SetFunctor_isShape : okC Tryz.f76.ntmps (cutL [(2, 33), (7, 29)]) (bodyOf Tryz.f76) = true := by kernel_rfl
theorem m_impl_SetFunctor_isShape (f : SetFunctorD) (hok : allP (okL c_impl_SetFunctor_isShape.args (f, ()))) (hpre : allP (c_impl_SetFunctor_isShape.pre (f, ()))) : W_impl_SetFunctor_isShape f (fun r => r = c_impl_SetFunctor_isShape.res (f, ())) := by
  simp only [c_impl_SetFunctor_isShape, okL, T.oks, T.ok, ap, allP, true_and, and_true, implies_true] at hok hpre
  try dsimp only [T.den] at hok
  try dsimp only [T.den] at hpre
  unfold W_impl_SetFunctor_isShape
  have hv : sfShapeR f = (catR f.1 && decide ((f.2.1.length : Int) = f.1.1) && withinR f.2.1 17 && decide (f.2.2.length = f.1.2.1.length) && allB f.2.2.length (sfActR f)) := rfl
  have res : ∀ b, sfShapeR f = b → (b, ()) = c_impl_SetFunctor_isShape.res (f, ()) := fun b h => by simp only [c_impl_SetFunctor_isShape, h]
  refine ⟨fun _ => by rw [inK64]; (try dsimp only); omega, cnd_of (fun hc => res _ ?_) (fun hc => ?_)⟩
  · rw [hv]; revert hc
    cases catR f.1 <;> cases withinR f.2.1 17 <;> simp
    omega
  simp only [Bool.or_eq_false_iff, Bool.not_eq_false', bne_eq_false_iff_eq] at hc
  obtain ⟨⟨⟨h1, h2⟩, h3⟩, h4⟩ := hc
  have h4' : f.2.2.length = f.1.2.1.length := by omega
  rw [h1, decide_eq_true h2, h3, decide_eq_true h4'] at hv
  simp only [Bool.true_and] at hv
  have S := cat_shape h1
  have hlt := S.lt
  have hm := S.m
  refine loop_allB f.2.2.length (sfActR f) ?_ ?_
  · intro a next a0 a1 hno hyes _
    try dsimp only
    obtain ⟨k1, k2, k3, k4⟩ := S.frm a0 (by omega)
    have hz := within_iff.1 h3 _ k3 (by omega)
    refine cnd_d (fun _ => ⟨a0, a1, a0, by omega, k1, by omega, a0, by omega, k3, by omega, by rw [inK64]; (try dsimp only); omega, cnd_of (fun hx => res _ ?_) (fun hx => ⟨by rw [inK64]; (try dsimp only); omega, hyes ?_⟩)⟩) (fun h => absurd a1 h)
    · rw [hv]; refine hno ?_; unfold sfActR; revert hx; cases withinR (f.2.2.getD a.toNat []) (f.2.1.getD (f.1.2.2.1.getD a.toNat 0).toNat 0) <;> simp
    · unfold sfActR; simpa using hx
  · intro next h _
    exact cnd_d (fun h => absurd h (Int.lt_irrefl _)) (fun _ => res _ (by rw [hv, h]))
theorem ct_impl_SetFunctor_isShape : CtOk Tryz.prog 76 c_impl_SetFunctor_isShape :=
  ct_by (Φ := lkp [(92, c_impl_Category_arrows), (91, c_impl_Category_isCategory), (93, c_impl_isMapOf), (61, c_impl_within)]) (good_cons ct_impl_Category_arrows (good_cons ct_impl_Category_isCategory (good_cons ct_impl_isMapOf (good_cons ct_impl_within good_nil)))) tab_ok (by kernel_rfl) (fn := Tryz.f76) (c := bodyOf Tryz.f76) (by kernel_rfl) (by kernel_rfl) (by kernel_rfl) c_impl_SetFunctor_isShape rfl (.s .n (.s .n (.s .n (.s (.s .n (.l [(47, (.d (.int .i64)))] [] [0, 3, 45, 46] .n)) .n)))) (cutL [(2, 33), (7, 29)]) (by kernel_rfl) (by kernel_rfl) k_impl_SetFunctor_isShape (by decide) (fun x K => W_impl_SetFunctor_isShape x.1 K) w_impl_SetFunctor_isShape (fun x h1 h2 => m_impl_SetFunctor_isShape x.1 h1 h2)
def sfI (f : SetFunctorD) (x e : Int) : Option (Int × Int × Int × Int) := if actR f (f.1.2.2.2.1.getD x.toNat 0) e ≠ e then some (1, x, e, 0) else none
def sfIx (f : SetFunctorD) (x : Int) : Option (Int × Int × Int × Int) := scanR (sfI f x) (f.2.1.getD x.toNat 0).toNat 0
def sfC (f : SetFunctorD) (a b e : Int) : Option (Int × Int × Int × Int) := if actR f (compR f.1 a b) e ≠ actR f b (actR f a e) then some (2, a, b, e) else none
def sfCb (f : SetFunctorD) (a b : Int) : Option (Int × Int × Int × Int) := if f.1.2.2.1.getD a.toNat 0 = f.1.2.1.getD b.toNat 0 then scanR (sfC f a b) (f.2.1.getD (f.1.2.1.getD a.toNat 0).toNat 0).toNat 0 else none
def sfCa (f : SetFunctorD) (a : Int) : Option (Int × Int × Int × Int) := scanR (sfCb f a) f.1.2.1.length 0
def sfFaultR (f : SetFunctorD) : Int × Int × Int × Int := orR (scanR (sfIx f) f.1.1.toNat 0) (orR (scanR (sfCa f) f.1.2.1.length 0) (0, 0, 0, 0))
def c_impl_SetFunctor_fault : Ct := ⟨[(.pt SetFunctorT)], [false], fun x => [SfP x.1], [(false, (.fz (.int .i64))), (false, (.fz (.int .i64))), (false, (.fz (.int .i64))), (false, (.fz (.int .i64)))], fun x => ((sfFaultR x.1).1, (sfFaultR x.1).2.1, (sfFaultR x.1).2.2.1, (sfFaultR x.1).2.2.2, ()), false, none⟩
def W_impl_SetFunctor_fault (f : SetFunctorD) (K : Int × Int × Int × Int × Unit → Prop) : Prop := (loopW (S := ((Int × Unit) × Unit)) (fun s => (fun next => ((inK IntKind.i64 s.1.1) → (cnd (decide (s.1.1 < (((List.length f.1.2.2.2.1) : Nat) : Int))) (((0 : Int) ≤ s.1.1) ∧ ((s.1.1 < (((List.length f.1.2.2.2.1) : Nat) : Int)) ∧ (((0 : Int) ≤ (List.getD f.1.2.2.2.1 (Int.toNat s.1.1) (0 : Int))) ∧ (((List.getD f.1.2.2.2.1 (Int.toNat s.1.1) (0 : Int)) < (((List.length f.2.2) : Nat) : Int)) ∧ (loopW (S := ((Int × Unit) × Unit)) (fun s1 => (fun next1 => ((inK IntKind.i64 s1.1.1) → (cnd (decide (s1.1.1 < (((List.length (List.getD f.2.2 (Int.toNat (List.getD f.1.2.2.2.1 (Int.toNat s.1.1) (0 : Int))) ([] : List Int))) : Nat) : Int))) (((0 : Int) ≤ s1.1.1) ∧ ((s1.1.1 < (((List.length (List.getD f.2.2 (Int.toNat (List.getD f.1.2.2.2.1 (Int.toNat s.1.1) (0 : Int))) ([] : List Int))) : Nat) : Int)) ∧ (cnd ((List.getD (List.getD f.2.2 (Int.toNat (List.getD f.1.2.2.2.1 (Int.toNat s.1.1) (0 : Int))) ([] : List Int)) (Int.toNat s1.1.1) (0 : Int)) != s1.1.1) (K ((1 : Int), (s.1.1, (s1.1.1, ((0 : Int), ()))))) ((inK IntKind.i64 (s1.1.1 + (1 : Int))) ∧ (next1 (((s1.1.1 + (1 : Int)), ()), ())))))) ((inK IntKind.i64 (s.1.1 + (1 : Int))) ∧ (next (((s.1.1 + (1 : Int)), ()), ()))))))) (((0 : Int), ()), ())))))) (loopW (S := ((Int × Unit) × Unit)) (fun s1 => (fun next1 => ((inK IntKind.i64 s1.1.1) → (cnd (decide (s1.1.1 < (((List.length f.1.2.2.2.2) : Nat) : Int))) (((0 : Int) ≤ s1.1.1) ∧ ((s1.1.1 < (((List.length f.1.2.2.2.2) : Nat) : Int)) ∧ (loopW (S := ((Int × Unit) × Unit)) (fun s2 => (fun next2 => ((inK IntKind.i64 s2.1.1) → (cnd (decide (s2.1.1 < (((List.length (List.getD f.1.2.2.2.2 (Int.toNat s1.1.1) ([] : List Int))) : Nat) : Int))) (joinW (S := (Unit × Unit)) (fun s3 => ((inK IntKind.i64 (s2.1.1 + (1 : Int))) ∧ (next2 (((s2.1.1 + (1 : Int)), ()), ())))) (fun k => (((0 : Int) ≤ s2.1.1) ∧ ((s2.1.1 < (((List.length (List.getD f.1.2.2.2.2 (Int.toNat s1.1.1) ([] : List Int))) : Nat) : Int)) ∧ (cnd (decide ((List.getD (List.getD f.1.2.2.2.2 (Int.toNat s1.1.1) ([] : List Int)) (Int.toNat s2.1.1) (0 : Int)) < (0 : Int))) (k ((), ())) (((0 : Int) ≤ s1.1.1) ∧ ((s1.1.1 < (((List.length f.2.2) : Nat) : Int)) ∧ (loopW (S := ((Int × Unit) × Unit)) (fun s3 => (fun next3 => ((inK IntKind.i64 s3.1.1) → (cnd (decide (s3.1.1 < (((List.length (List.getD f.2.2 (Int.toNat s1.1.1) ([] : List Int))) : Nat) : Int))) (((0 : Int) ≤ s3.1.1) ∧ ((s3.1.1 < (((List.length (List.getD f.2.2 (Int.toNat s1.1.1) ([] : List Int))) : Nat) : Int)) ∧ (((0 : Int) ≤ (List.getD (List.getD f.1.2.2.2.2 (Int.toNat s1.1.1) ([] : List Int)) (Int.toNat s2.1.1) (0 : Int))) ∧ (((List.getD (List.getD f.1.2.2.2.2 (Int.toNat s1.1.1) ([] : List Int)) (Int.toNat s2.1.1) (0 : Int)) < (((List.length f.2.2) : Nat) : Int)) ∧ (((0 : Int) ≤ s3.1.1) ∧ ((s3.1.1 < (((List.length (List.getD f.2.2 (Int.toNat (List.getD (List.getD f.1.2.2.2.2 (Int.toNat s1.1.1) ([] : List Int)) (Int.toNat s2.1.1) (0 : Int))) ([] : List Int))) : Nat) : Int)) ∧ (((0 : Int) ≤ s2.1.1) ∧ ((s2.1.1 < (((List.length f.2.2) : Nat) : Int)) ∧ (((0 : Int) ≤ (List.getD (List.getD f.2.2 (Int.toNat s1.1.1) ([] : List Int)) (Int.toNat s3.1.1) (0 : Int))) ∧ (((List.getD (List.getD f.2.2 (Int.toNat s1.1.1) ([] : List Int)) (Int.toNat s3.1.1) (0 : Int)) < (((List.length (List.getD f.2.2 (Int.toNat s2.1.1) ([] : List Int))) : Nat) : Int)) ∧ (cnd ((List.getD (List.getD f.2.2 (Int.toNat (List.getD (List.getD f.1.2.2.2.2 (Int.toNat s1.1.1) ([] : List Int)) (Int.toNat s2.1.1) (0 : Int))) ([] : List Int)) (Int.toNat s3.1.1) (0 : Int)) != (List.getD (List.getD f.2.2 (Int.toNat s2.1.1) ([] : List Int)) (Int.toNat (List.getD (List.getD f.2.2 (Int.toNat s1.1.1) ([] : List Int)) (Int.toNat s3.1.1) (0 : Int))) (0 : Int))) (K ((2 : Int), (s1.1.1, (s2.1.1, (s3.1.1, ()))))) ((inK IntKind.i64 (s3.1.1 + (1 : Int))) ∧ (next3 (((s3.1.1 + (1 : Int)), ()), ())))))))))))))) (k ((), ())))))) (((0 : Int), ()), ()))))))))) ((inK IntKind.i64 (s1.1.1 + (1 : Int))) ∧ (next1 (((s1.1.1 + (1 : Int)), ()), ()))))))) (((0 : Int), ()), ())))) (K ((0 : Int), ((0 : Int), ((0 : Int), ((0 : Int), ()))))))))) (((0 : Int), ()), ())))))) (((0 : Int), ()), ()))
theorem w_impl_SetFunctor_fault (x : denL c_impl_SetFunctor_fault.args) (K : Int × Int × Int × Int × Unit → Prop) : evF tab (lkp []) (cutL [(22, 21)]) Tryz.f77 (bodyOf Tryz.f77) (.s .n (.s .n (.s (.s .n (.l [(25, (.d (.int .i64)))] [] [0, 6, 23, 24] (.s .n (.s .n (.s (.s .n (.s .n (.l [(38, (.d (.int .i64)))] [] [0, 6, 7, 23, 24, 25, 36, 37] .n))) .n))))) (.s (.s .n (.l [(55, (.d (.int .i64)))] [] [0, 53, 54] (.s .n (.s .n (.s (.s .n (.s .n (.l [(62, (.d (.int .i64)))] [] [0, 11, 53, 54, 55, 60, 61] (.s .n (.s .n (.s (.j [] [] [0, 11, 53, 54, 55, 60, 61, 62] (.s .n (.s .n (.s .n (.l [(77, (.d (.int .i64)))] [] [0, 11, 13, 14, 53, 54, 55, 60, 61, 62, 75, 76] .n))))) .n)))))) .n))))) .n)))) c_impl_SetFunctor_fault x K = W_impl_SetFunctor_fault x.1 K := by kernel_rfl
theorem k_impl_SetFunctor_fault : okC Tryz.f77.ntmps (cutL [(22, 21)]) (bodyOf Tryz.f77) = true := by kernel_rfl
theorem m_impl_SetFunctor_fault (f : SetFunctorD) (hok : allP (okL c_impl_SetFunctor_fault.args (f, ()))) (hpre : allP (c_impl_SetFunctor_fault.pre (f, ()))) : W_impl_SetFunctor_fault f (fun r => r = c_impl_SetFunctor_fault.res (f, ())) := by
  simp only [c_impl_SetFunctor_fault, okL, T.oks, T.ok, ap, allP, true_and, and_true, implies_true] at hok hpre
  try dsimp only [T.den] at hok
  try dsimp only [T.den] at hpre
  unfold W_impl_SetFunctor_fault
  have P : SfP f := hpre
  have S := cat_shape P.cat
  have hlt := S.lt
  have hli := S.li
  have hlc := S.lc
  have hmm := S.m
  have hob := S.ob
  have hlz := P.lz
  have hla := P.la
  have resq : ∀ a b d e, sfFaultR f = (a, b, d, e) → (a, b, d, e, ()) = c_impl_SetFunctor_fault.res (f, ()) := fun a b d e h => by simp only [c_impl_SetFunctor_fault, h]
  have hac : ∀ a e : Int, (f.2.2.getD a.toNat []).getD e.toNat 0 = actR f a e := fun _ _ => rfl
  have hcr : ∀ a b : Int, (f.1.2.2.2.2.getD a.toNat []).getD b.toNat 0 = compR f.1 a b := fun _ _ => rfl
  simp only [hac, hcr]
  refine loop_ix (n := f.1.1) (fun x => scanR (sfIx f) f.1.1.toNat 0 = scanR (sfIx f) (f.1.1 - x).toNat x) (by omega) (by rw [Int.sub_zero]) ?_ ?_
  · intro x next x0 x1 hP hn hin
    try dsimp only
    obtain ⟨b1, b2, b3, b4⟩ := S.idn x0 x1
    obtain ⟨z1, z2⟩ := P.size x0 x1
    obtain ⟨q1, q2⟩ := P.act _ b1 b2
    rw [b3] at q1
    refine cnd_d (fun _ => ⟨x0, by omega, b1, by omega, ?_⟩) (fun h => absurd h (by omega))
    refine loop_ix (n := f.2.1.getD x.toNat 0) (fun e => sfIx f x = scanR (sfI f x) (f.2.1.getD x.toNat 0 - e).toNat e) z1 (by unfold sfIx; rw [Int.sub_zero]) ?_ ?_
    · intro e next2 e0 e1 hP2 hn2 hin2
      try dsimp only
      refine cnd_d (fun _ => ⟨e0, by omega, cnd_of (fun hx => resq _ _ _ _ ?_) (fun hx => ⟨by rw [inK64]; (try dsimp only); omega, hn2 ?_⟩)⟩) (fun h => absurd h (by omega))
      · have k1 : sfI f x e = some (1, x, e, 0) := by unfold sfI; rw [if_pos]; simpa using hx
        have k2 : sfIx f x = some (1, x, e, 0) := by rw [hP2, scan_s e1 k1]
        unfold sfFaultR; rw [hP, scan_s x1 k2]; rfl
      · have k1 : sfI f x e = none := by unfold sfI; rw [if_neg]; simpa using hx
        rw [hP2, scan_c e1 k1]
    · intro next2 hP2 hin2
      try dsimp only
      rw [scan_n] at hP2
      exact cnd_d (fun h => absurd h (by omega)) (fun _ => ⟨by rw [inK64]; (try dsimp only); omega, hn (by rw [hP, scan_c x1 hP2])⟩)
  intro next hI hin
  rw [scan_n] at hI
  refine cnd_d (fun h => absurd h (by dsimp only; omega)) (fun _ => ?_)
  have hF : sfFaultR f = orR (scanR (sfCa f) f.1.2.1.length 0) (0, 0, 0, 0) := by unfold sfFaultR; rw [hI]; rfl
  refine loop_ix (n := f.1.2.1.length) (fun a => scanR (sfCa f) f.1.2.1.length 0 = scanR (sfCa f) ((f.1.2.1.length : Int) - a).toNat a) (by omega) scan_0 ?_ ?_
  · intro a next a0 a1 hP hn hin
    try dsimp only
    have r1 := S.row a a0 a1
    obtain ⟨q1, q2⟩ := P.act _ a0 a1
    obtain ⟨fa1, fa2, ta1, ta2⟩ := S.frm a0 a1
    obtain ⟨z1, z2⟩ := P.size fa1 fa2
    refine cnd_d (fun _ => ⟨a0, by omega, ?_⟩) (fun h => absurd h (by omega))
    refine loop_ix (n := f.1.2.1.length) (fun b => sfCa f a = scanR (sfCb f a) ((f.1.2.1.length : Int) - b).toNat b) (by omega) scan_0 ?_ ?_
    · intro b next2 b0 b1 hP2 hn2 hin2
      try dsimp only
      refine cnd_d (fun _ => ?_) (fun h => absurd h (by omega))
      refine join_of (fun _ => sfCb f a b = none) (fun _ hG => ⟨by rw [inK64]; (try dsimp only); omega, hn2 (by rw [hP2, scan_c b1 hG])⟩) (fun k hk => ?_)
      have hk' := hk ((), ())
      refine ⟨b0, by omega, cnd_d (fun hx => hk' ?_) (fun hx => ?_)⟩
      · unfold sfCb; rw [if_neg]; intro e; have := (S.comp a0 a1 b0 b1).2 e; omega
      have hab := (S.comp a0 a1 b0 b1).1 (by omega)
      obtain ⟨y1, y2, y3, y4⟩ := S.yes a0 a1 b0 b1 hab
      obtain ⟨p1, p2⟩ := P.act _ y1 y2
      rw [y3] at p1
      obtain ⟨p3, p4⟩ := P.act _ b0 b1
      rw [← hab] at p3
      refine ⟨a0, by omega, ?_⟩
      refine loop_ix (n := f.2.1.getD (f.1.2.1.getD a.toNat 0).toNat 0) (fun e => sfCb f a b = scanR (sfC f a b) (f.2.1.getD (f.1.2.1.getD a.toNat 0).toNat 0 - e).toNat e) z1 (by unfold sfCb; rw [if_pos hab, Int.sub_zero]) ?_ ?_
      · intro e next3 e0 e1 hP3 hn3 hin3
        try dsimp only
        obtain ⟨m1, m2, m3⟩ := P.at_ a0 a1 e0 e1
        refine cnd_d (fun _ => ⟨e0, by omega, y1, by omega, e0, by omega, b0, by omega, m2, by omega, cnd_of (fun hx => resq _ _ _ _ ?_) (fun hx => ⟨by rw [inK64]; (try dsimp only); omega, hn3 ?_⟩)⟩) (fun h => absurd h (by omega))
        · have k0 : sfC f a b e = some (2, a, b, e) := by unfold sfC; rw [if_pos]; simpa using hx
          have k1 : sfCb f a b = some (2, a, b, e) := by rw [hP3, scan_s e1 k0]
          have k2 : sfCa f a = some (2, a, b, e) := by rw [hP2, scan_s b1 k1]
          rw [hF, hP, scan_s a1 k2]; rfl
        · have k0 : sfC f a b e = none := by unfold sfC; rw [if_neg]; simpa using hx
          rw [hP3, scan_c e1 k0]
      · intro next3 hP3 hin3
        try dsimp only
        rw [scan_n] at hP3
        exact cnd_d (fun h => absurd h (by omega)) (fun _ => hk' hP3)
    · intro next2 hP2 hin2
      try dsimp only
      rw [scan_n] at hP2
      exact cnd_d (fun h => absurd h (by omega)) (fun _ => ⟨by rw [inK64]; (try dsimp only); omega, hn (by rw [hP, scan_c a1 hP2])⟩)
  · intro next2 hP2 hin2
    rw [scan_n] at hP2
    refine cnd_d (fun h => absurd h (by dsimp only; omega)) (fun _ => resq _ _ _ _ ?_)
    rw [hF, hP2]; rfl
theorem ct_impl_SetFunctor_fault : CtOk Tryz.prog 77 c_impl_SetFunctor_fault :=
  ct_by (Φ := lkp []) good_nil tab_ok (by kernel_rfl) (fn := Tryz.f77) (c := bodyOf Tryz.f77) (by kernel_rfl) (by kernel_rfl) (by kernel_rfl) c_impl_SetFunctor_fault rfl (.s .n (.s .n (.s (.s .n (.l [(25, (.d (.int .i64)))] [] [0, 6, 23, 24] (.s .n (.s .n (.s (.s .n (.s .n (.l [(38, (.d (.int .i64)))] [] [0, 6, 7, 23, 24, 25, 36, 37] .n))) .n))))) (.s (.s .n (.l [(55, (.d (.int .i64)))] [] [0, 53, 54] (.s .n (.s .n (.s (.s .n (.s .n (.l [(62, (.d (.int .i64)))] [] [0, 11, 53, 54, 55, 60, 61] (.s .n (.s .n (.s (.j [] [] [0, 11, 53, 54, 55, 60, 61, 62] (.s .n (.s .n (.s .n (.l [(77, (.d (.int .i64)))] [] [0, 11, 13, 14, 53, 54, 55, 60, 61, 62, 75, 76] .n))))) .n)))))) .n))))) .n)))) (cutL [(22, 21)]) (by kernel_rfl) (by kernel_rfl) k_impl_SetFunctor_fault (by decide) (fun x K => W_impl_SetFunctor_fault x.1 K) w_impl_SetFunctor_fault (fun x h1 h2 => m_impl_SetFunctor_fault x.1 h1 h2)
def setfR (f : SetFunctorD) : Bool := sfShapeR f && (sfFaultR f).1 == 0
theorem setf_sf {f : SetFunctorD} (h : setfR f = true) : SfP f := by
  simp only [setfR, Bool.and_eq_true] at h; exact sf_iff.1 h.1
def c_impl_SetFunctor_isSetFunctor : Ct := ⟨[(.pt SetFunctorT)], [false], fun x => [], [(false, (.fz .bool))], fun x => (setfR x.1, ()), false, none⟩
def W_impl_SetFunctor_isSetFunctor (f : SetFunctorD) (K : Bool × Unit → Prop) : Prop := (cnd (!(sfShapeR f)) (K (Bool.false, ())) ((SfP f) ∧ (K (((sfFaultR f).1 == (0 : Int)), ()))))
theorem w_impl_SetFunctor_isSetFunctor (x : denL c_impl_SetFunctor_isSetFunctor.args) (K : Bool × Unit → Prop) : evF tab (lkp [(77, c_impl_SetFunctor_fault), (76, c_impl_SetFunctor_isShape)]) (cutL []) Tryz.f56 (bodyOf Tryz.f56) .n c_impl_SetFunctor_isSetFunctor x K = W_impl_SetFunctor_isSetFunctor x.1 K := by kernel_rfl
theorem k_impl_SetFunctor_isSetFunctor : okC Tryz.f56.ntmps (cutL []) (bodyOf Tryz.f56) = true := by kernel_rfl
theorem m_impl_SetFunctor_isSetFunctor (f : SetFunctorD) (hok : allP (okL c_impl_SetFunctor_isSetFunctor.args (f, ()))) (hpre : allP (c_impl_SetFunctor_isSetFunctor.pre (f, ()))) : W_impl_SetFunctor_isSetFunctor f (fun r => r = c_impl_SetFunctor_isSetFunctor.res (f, ())) := by
  simp only [c_impl_SetFunctor_isSetFunctor, okL, T.oks, T.ok, ap, allP, true_and, and_true, implies_true] at hok hpre
  try dsimp only [T.den] at hok
  try dsimp only [T.den] at hpre
  unfold W_impl_SetFunctor_isSetFunctor
  have h1 := @sf_iff f
  simp only [c_impl_SetFunctor_isSetFunctor, setfR]
  grind [cnd, nb_eq, inK64]
theorem ct_impl_SetFunctor_isSetFunctor : CtOk Tryz.prog 56 c_impl_SetFunctor_isSetFunctor :=
  ct_by (Φ := lkp [(77, c_impl_SetFunctor_fault), (76, c_impl_SetFunctor_isShape)]) (good_cons ct_impl_SetFunctor_fault (good_cons ct_impl_SetFunctor_isShape good_nil)) tab_ok (by kernel_rfl) (fn := Tryz.f56) (c := bodyOf Tryz.f56) (by kernel_rfl) (by kernel_rfl) (by kernel_rfl) c_impl_SetFunctor_isSetFunctor rfl .n (cutL []) (by kernel_rfl) (by kernel_rfl) k_impl_SetFunctor_isSetFunctor (by decide) (fun x K => W_impl_SetFunctor_isSetFunctor x.1 K) w_impl_SetFunctor_isSetFunctor (fun x h1 h2 => m_impl_SetFunctor_isSetFunctor x.1 h1 h2)
def sizesR (S : List SetFunctorD) (l : List Int) (x : Int) : List Int := l.map fun k => (S.getD k.toNat ((0, ([], ([], ([], [])))), ([], []))).2.1.getD x.toNat 0
structure SizP (S : List SetFunctorD) (l : List Int) (x : Int) : Prop where
  len : l.length ≤ 1099511627776
  wi : withinR l S.length = true
  x0 : 0 ≤ x
  at_ : ∀ k : Int, 0 ≤ k → k < S.length → x < (S.getD k.toNat ((0, ([], ([], ([], [])))), ([], []))).2.1.length
def c_impl_Structure_sizesAt : Ct := ⟨[(.pt StructureT), (.sl (.int .i64)), (.int .i64)], [false, false, false], fun x => [SizP x.1.1 x.2.1 x.2.2.1], [(false, (.sl (.fz (.int .i64))))], fun x => (sizesR x.1.1 x.2.1 x.2.2.1, ()), false, none⟩
def W_impl_Structure_sizesAt (s : StructureD) (sorts : List Int) (x : Int) (K : (List Int) × Unit → Prop) : Prop := (loopW (S := ((Unit × (Int × Unit)) × ((List Int) × Unit))) (fun s1 => (fun next => ((inK IntKind.i64 s1.1.2.1) → ((T.ok (T.sl (T.int IntKind.i64)) s1.2.1) → (cnd (decide (s1.1.2.1 < (((List.length sorts) : Nat) : Int))) (((0 : Int) ≤ s1.1.2.1) ∧ ((s1.1.2.1 < (((List.length sorts) : Nat) : Int)) ∧ (((0 : Int) ≤ (List.getD sorts (Int.toNat s1.1.2.1) (0 : Int))) ∧ (((List.getD sorts (Int.toNat s1.1.2.1) (0 : Int)) < (((List.length s.1) : Nat) : Int)) ∧ (((0 : Int) ≤ x) ∧ ((x < (((List.length (List.getD s.1 (Int.toNat (List.getD sorts (Int.toNat s1.1.2.1) (0 : Int))) (((0 : Int), (([] : List Int), (([] : List Int), (([] : List Int), ([] : List (List Int)))))), (([] : List Int), ([] : List (List Int))))).2.1) : Nat) : Int)) ∧ ((room (List.length s1.2.1) (List.length ((List.getD (List.getD s.1 (Int.toNat (List.getD sorts (Int.toNat s1.1.2.1) (0 : Int))) (((0 : Int), (([] : List Int), (([] : List Int), (([] : List Int), ([] : List (List Int)))))), (([] : List Int), ([] : List (List Int))))).2.1 (Int.toNat x) (0 : Int)) :: ([] : List Int))) 8) ∧ ((inK IntKind.i64 (s1.1.2.1 + (1 : Int))) ∧ (next (((), ((s1.1.2.1 + (1 : Int)), ())), ((s1.2.1 ++ ((List.getD (List.getD s.1 (Int.toNat (List.getD sorts (Int.toNat s1.1.2.1) (0 : Int))) (((0 : Int), (([] : List Int), (([] : List Int), (([] : List Int), ([] : List (List Int)))))), (([] : List Int), ([] : List (List Int))))).2.1 (Int.toNat x) (0 : Int)) :: ([] : List Int))), ()))))))))))) (K (s1.2.1, ()))))))) (((), ((0 : Int), ())), (([] : List Int), ())))
theorem w_impl_Structure_sizesAt (x : denL c_impl_Structure_sizesAt.args) (K : (List Int) × Unit → Prop) : evF tab (lkp []) (cutL []) Tryz.f80 (bodyOf Tryz.f80) (.s .n (.s .n (.s (.s .n (.l [(7, (.ref 800007 [])), (13, (.d (.int .i64)))] [(800007, (.sl (.fz (.int .i64))))] [0, 2, 11, 12] .n)) .n))) c_impl_Structure_sizesAt x K = W_impl_Structure_sizesAt x.1 x.2.1 x.2.2.1 K := by kernel_rfl
theorem k_impl_Structure_sizesAt : okC Tryz.f80.ntmps (cutL []) (bodyOf Tryz.f80) = true := by kernel_rfl
theorem m_impl_Structure_sizesAt (s : StructureD) (sorts : List Int) (x : Int) (hok : allP (okL c_impl_Structure_sizesAt.args (s, sorts, x, ()))) (hpre : allP (c_impl_Structure_sizesAt.pre (s, sorts, x, ()))) : W_impl_Structure_sizesAt s sorts x (fun r => r = c_impl_Structure_sizesAt.res (s, sorts, x, ())) := by
  simp only [c_impl_Structure_sizesAt, okL, T.oks, T.ok, ap, allP, true_and, and_true, implies_true] at hok hpre
  try dsimp only [T.den] at hok
  try dsimp only [T.den] at hpre
  unfold W_impl_Structure_sizesAt
  obtain ⟨hl, hw, x0, hx⟩ := hpre
  have hw := within_iff.1 hw
  clear hok
  refine loop_ixa (fun i => sizesR s.1 (sorts.take i.toNat) x) (n := sorts.length) (by omega) rfl ?_ ?_
  · intro i next i0 i1 hn _ _
    try dsimp only at hn ⊢
    have h1 := hw i i0 i1
    have h2 := hx _ h1.1 h1.2
    have hs : sizesR s.1 (sorts.take (i + 1).toNat) x = sizesR s.1 (sorts.take i.toNat) x ++ [(s.1.getD (sorts.getD i.toNat 0).toNat ((0, ([], ([], ([], [])))), ([], []))).2.1.getD x.toNat 0] := by unfold sizesR; rw [take_c sorts 0 i0 i1, List.map_append]; rfl
    have hln : (sizesR s.1 (sorts.take i.toNat) x).length ≤ sorts.length := by unfold sizesR; rw [List.length_map, List.length_take]; omega
    rw [hs] at hn
    exact cnd_d (fun _ => ⟨i0, i1, h1.1, h1.2, x0, h2, room_of (by simp only [List.length_cons, List.length_nil]; omega), by rw [inK64]; (try dsimp only); omega, hn⟩) (fun h => absurd i1 h)
  · intro next _ _
    refine cnd_d (fun h => absurd h (Int.lt_irrefl _)) (fun _ => ?_)
    rw [take_n _ (Int.le_refl _)]
    rfl
theorem ct_impl_Structure_sizesAt : CtOk Tryz.prog 80 c_impl_Structure_sizesAt :=
  ct_by (Φ := lkp []) good_nil tab_ok (by kernel_rfl) (fn := Tryz.f80) (c := bodyOf Tryz.f80) (by kernel_rfl) (by kernel_rfl) (by kernel_rfl) c_impl_Structure_sizesAt rfl (.s .n (.s .n (.s (.s .n (.l [(7, (.ref 800007 [])), (13, (.d (.int .i64)))] [(800007, (.sl (.fz (.int .i64))))] [0, 2, 11, 12] .n)) .n))) (cutL []) (by kernel_rfl) (by kernel_rfl) k_impl_Structure_sizesAt (by decide) (fun x K => W_impl_Structure_sizesAt x.1 x.2.1 x.2.2.1 K) w_impl_Structure_sizesAt (fun x h1 h2 => m_impl_Structure_sizesAt x.1 x.2.1 x.2.2.1 h1 h2)
def okNodeR (n : ruleD) : Bool := withinR n.2.2 4 && (if n.1 = 2 then inR n.2.1 0 3 && decide (n.2.2.length ≤ 2) else if n.1 = 3 then decide (n.2.1 = 0) && decide (n.2.2.length = 2) else if n.1 = 7 ∨ n.1 = 8 then inR n.2.1 0 2 && decide (n.2.2.length = 0) else inR n.1 0 8 && decide (n.2.1 = 0) && decide (n.2.2.length = 0))
def c_impl_Node_isNode : Ct := ⟨[(.pt ruleT)], [false], fun x => [], [(false, (.fz .bool))], fun x => (okNodeR x.1, ()), false, none⟩
def W_impl_Node_isNode (n : ruleD) (K : Bool × Unit → Prop) : Prop := ((inK IntKind.i64 ((4 : Int) - (1 : Int))) ∧ (cnd (!(withinR n.2.2 (4 : Int))) (K (Bool.false, ())) (cnd (n.1 == (2 : Int)) (K (((inR n.2.1 (0 : Int) (3 : Int)) && (decide ((((List.length n.2.2) : Nat) : Int) ≤ (2 : Int)))), ())) (cnd (n.1 == (3 : Int)) (K (((n.2.1 == (0 : Int)) && ((((List.length n.2.2) : Nat) : Int) == (2 : Int))), ())) (joinW (S := ((Bool × Unit) × Unit)) (fun s => (cnd s.1.1 (K (((inR n.2.1 (0 : Int) (2 : Int)) && ((((List.length n.2.2) : Nat) : Int) == (0 : Int))), ())) (K ((((inR n.1 (0 : Int) (8 : Int)) && (n.2.1 == (0 : Int))) && ((((List.length n.2.2) : Nat) : Int) == (0 : Int))), ())))) (fun k => (cnd (n.1 == (7 : Int)) (k (((n.1 == (7 : Int)), ()), ())) (k (((n.1 == (8 : Int)), ()), ())))))))))
theorem w_impl_Node_isNode (x : denL c_impl_Node_isNode.args) (K : Bool × Unit → Prop) : evF tab (lkp [(55, c_impl_inRange), (61, c_impl_within)]) (cutL []) Tryz.f59 (bodyOf Tryz.f59) (.s .n (.s .n (.s .n (.s (.s .n (.s .n (.s .n (.s .n (.s .n (.s (.s .n (.j [(41, (.d .bool))] [] [0, 3] .n)) .n)))))) .n)))) c_impl_Node_isNode x K = W_impl_Node_isNode x.1 K := by kernel_rfl
theorem k_impl_Node_isNode : okC Tryz.f59.ntmps (cutL []) (bodyOf Tryz.f59) = true := by kernel_rfl
theorem m_impl_Node_isNode (n : ruleD) (hok : allP (okL c_impl_Node_isNode.args (n, ()))) (hpre : allP (c_impl_Node_isNode.pre (n, ()))) : W_impl_Node_isNode n (fun r => r = c_impl_Node_isNode.res (n, ())) := by
  simp only [c_impl_Node_isNode, okL, T.oks, T.ok, ap, allP, true_and, and_true, implies_true] at hok hpre
  try dsimp only [T.den] at hok
  try dsimp only [T.den] at hpre
  unfold W_impl_Node_isNode
  refine ⟨by rw [inK64]; decide, ?_⟩
  have hc : okNodeR n = (withinR n.2.2 4 && (if n.1 = 2 then inR n.2.1 0 3 && decide (n.2.2.length ≤ 2) else if n.1 = 3 then decide (n.2.1 = 0) && decide (n.2.2.length = 2) else if n.1 = 7 ∨ n.1 = 8 then inR n.2.1 0 2 && decide (n.2.2.length = 0) else inR n.1 0 8 && decide (n.2.1 = 0) && decide (n.2.2.length = 0))) := rfl
  have res : ∀ b, okNodeR n = b → (b, ()) = c_impl_Node_isNode.res (n, ()) := fun b h => by simp only [c_impl_Node_isNode, h]
  clear hok
  simp only [joinW]
  generalize withinR n.2.2 4 = w at *
  generalize n.2.2.length = m at *
  generalize n.1 = k at *
  generalize n.2.1 = y at *
  grind [cnd]
theorem ct_impl_Node_isNode : CtOk Tryz.prog 59 c_impl_Node_isNode :=
  ct_by (Φ := lkp [(55, c_impl_inRange), (61, c_impl_within)]) (good_cons ct_impl_inRange (good_cons ct_impl_within good_nil)) tab_ok (by kernel_rfl) (fn := Tryz.f59) (c := bodyOf Tryz.f59) (by kernel_rfl) (by kernel_rfl) (by kernel_rfl) c_impl_Node_isNode rfl (.s .n (.s .n (.s .n (.s (.s .n (.s .n (.s .n (.s .n (.s .n (.s (.s .n (.j [(41, (.d .bool))] [] [0, 3] .n)) .n)))))) .n)))) (cutL []) (by kernel_rfl) (by kernel_rfl) k_impl_Node_isNode (by decide) (fun x K => W_impl_Node_isNode x.1 K) w_impl_Node_isNode (fun x h1 h2 => m_impl_Node_isNode x.1 h1 h2)
def fendR : List ruleD → Int → Int → Int
  | [], o, i => if o ≤ 0 then i else -1
  | a :: r, o, i => if o ≤ 0 then i else fendR r (o - 1 + ptsR a) (i + 1)
theorem fend_0 (l : List ruleD) (i : Int) : fendR l 0 i = i := by cases l <;> rfl
theorem fend_ge : ∀ (l : List ruleD) (o i : Int), fendR l o i = -1 ∨ (i ≤ fendR l o i ∧ fendR l o i ≤ i + l.length)
  | [], o, i => by unfold fendR; split <;> simp
  | a :: r, o, i => by
    unfold fendR
    split
    · right; simp only [List.length_cons]; omega
    · have := fend_ge r (o - 1 + ptsR a) (i + 1)
      simp only [List.length_cons]
      omega
theorem fend_split : ∀ (l : List ruleD) (o o' i : Int), 0 ≤ o → 0 ≤ o' → 0 ≤ i → fendR l (o + o') i = if fendR l o i = -1 then -1 else fendR (l.drop (fendR l o i - i).toNat) o' (fendR l o i)
  | [], o, o', i, h, h', hi => by
    by_cases e : o = 0
    · subst e; rw [fend_0, if_neg (by omega), Int.zero_add]; simp
    · have h1 : fendR [] o i = -1 := by unfold fendR; rw [if_neg (by omega)]
      rw [h1, if_pos rfl]; unfold fendR; rw [if_neg (by omega)]
  | a :: r, o, o', i, h, h', hi => by
    by_cases e : o = 0
    · subst e; rw [fend_0, if_neg (by omega), Int.zero_add, show (i - i).toNat = 0 from by omega, List.drop_zero]
    · have h1 : fendR (a :: r) o i = fendR r (o - 1 + ptsR a) (i + 1) := by rw [fendR, if_neg (by omega)]
      have h2 : fendR (a :: r) (o + o') i = fendR r ((o - 1 + ptsR a) + o') (i + 1) := by rw [fendR, if_neg (by omega), show o + o' - 1 + ptsR a = o - 1 + ptsR a + o' from by omega]
      have ha := (pts_ge a).1
      rw [h1, h2, fend_split r _ o' (i + 1) (by omega) h' (by omega)]
      split
      · rfl
      · rename_i hne
        have hg := fend_ge r (o - 1 + ptsR a) (i + 1)
        rw [show (fendR r (o - 1 + ptsR a) (i + 1) - i).toNat = (fendR r (o - 1 + ptsR a) (i + 1) - (i + 1)).toNat + 1 from by omega, List.drop_succ_cons]
def c_impl_partEnd : Ct := ⟨[(.sl ruleT), (.int .i64)], [false, false], fun x => [0 ≤ x.2.1, x.2.1 ≤ x.1.length, x.1.length ≤ 1099511627776], [(false, (.fz (.int .i64)))], fun x => (fendR (x.1.drop x.2.1.toNat) 1 x.2.1, ()), false, none⟩
def W_impl_partEnd (list : List ruleD) (i : Int) (K : Int × Unit → Prop) : Prop := (loopW (S := ((Int × (Int × Unit)) × Unit)) (fun s => (fun next => ((inK IntKind.i64 s.1.1) → ((inK IntKind.i64 s.1.2.1) → (cnd (decide ((0 : Int) < s.1.2.1)) (cnd (decide ((((List.length list) : Nat) : Int) ≤ s.1.1)) (K ((-(1 : Int)), ())) (((0 : Int) ≤ s.1.1) ∧ ((s.1.1 < (((List.length list) : Nat) : Int)) ∧ ((inK IntKind.i64 (s.1.2.1 + (ptsR (List.getD list (Int.toNat s.1.1) ((0 : Int), ((0 : Int), ([] : List Int))))))) ∧ ((inK IntKind.i64 (s.1.1 + (1 : Int))) ∧ ((inK IntKind.i64 ((s.1.2.1 + (ptsR (List.getD list (Int.toNat s.1.1) ((0 : Int), ((0 : Int), ([] : List Int)))))) - (1 : Int))) ∧ (next (((s.1.1 + (1 : Int)), (((s.1.2.1 + (ptsR (List.getD list (Int.toNat s.1.1) ((0 : Int), ((0 : Int), ([] : List Int)))))) - (1 : Int)), ())), ())))))))) (K (s.1.1, ()))))))) ((i, ((1 : Int), ())), ()))
theorem w_impl_partEnd (x : denL c_impl_partEnd.args) (K : Int × Unit → Prop) : evF tab (lkp [(65, c_impl_Node_parts)]) (cutL []) Tryz.f60 (bodyOf Tryz.f60) (.s .n (.s (.s .n (.l [(1, (.d (.int .i64))), (5, (.d (.int .i64)))] [] [0] .n)) .n)) c_impl_partEnd x K = W_impl_partEnd x.1 x.2.1 K := by kernel_rfl
theorem k_impl_partEnd : okC Tryz.f60.ntmps (cutL []) (bodyOf Tryz.f60) = true := by kernel_rfl
theorem m_impl_partEnd (list : List ruleD) (i : Int) (hok : allP (okL c_impl_partEnd.args (list, i, ()))) (hpre : allP (c_impl_partEnd.pre (list, i, ()))) : W_impl_partEnd list i (fun r => r = c_impl_partEnd.res (list, i, ())) := by
  simp only [c_impl_partEnd, okL, T.oks, T.ok, ap, allP, true_and, and_true, implies_true] at hok hpre
  try dsimp only [T.den] at hok
  try dsimp only [T.den] at hpre
  unfold W_impl_partEnd
  obtain ⟨hi0, hi1, hll⟩ := hpre
  clear hok
  refine loop_of (fun (s : ((Int × (Int × Unit)) × Unit)) => 0 ≤ s.1.1 ∧ s.1.1 ≤ list.length ∧ 0 ≤ s.1.2.1 ∧ s.1.2.1 ≤ 1 + s.1.1 ∧ fendR (list.drop s.1.1.toNat) s.1.2.1 s.1.1 = fendR (list.drop i.toNat) 1 i) (fun (s : ((Int × (Int × Unit)) × Unit)) => (list.length - s.1.1).toNat) ?_ ⟨hi0, hi1, by simp, by dsimp only; omega, rfl⟩
  rintro ⟨⟨j, o, _⟩, _⟩ next ⟨h0, h1, h2, h3, h4⟩ hn _ _
  try dsimp only at h0 h1 h2 h3 h4 hn ⊢
  refine cnd_d (fun hc => cnd_d (fun hd => ?_) (fun hd => ?_)) (fun hc => ?_)
  · simp only [c_impl_partEnd]
    rw [← h4, drop_n list hd]
    unfold fendR
    rw [if_neg (by omega)]
  · rw [drop_c list (0, (0, [])) h0 (by omega), fendR, if_neg (by omega)] at h4
    have hp := pts_ge (list.getD j.toNat (0, (0, [])))
    refine ⟨h0, by omega, by rw [inK64]; (try dsimp only); omega, by rw [inK64]; (try dsimp only); omega, by rw [inK64]; (try dsimp only); omega, hn _ ⟨(by first | omega | (dsimp only; omega)), (by first | omega | (dsimp only; omega)), by dsimp only; omega, by dsimp only; omega, ?_⟩ (by first | omega | (dsimp only; omega))⟩
    try dsimp only
    rw [show o + ptsR (list.getD j.toNat (0, (0, []))) - 1 = o - 1 + ptsR (list.getD j.toNat (0, (0, []))) from by omega]
    exact h4
  · have ho : o = 0 := by omega
    subst ho
    rw [fend_0] at h4
    simp only [c_impl_partEnd]
    rw [h4]
theorem ct_impl_partEnd : CtOk Tryz.prog 60 c_impl_partEnd :=
  ct_by (Φ := lkp [(65, c_impl_Node_parts)]) (good_cons ct_impl_Node_parts good_nil) tab_ok (by kernel_rfl) (fn := Tryz.f60) (c := bodyOf Tryz.f60) (by kernel_rfl) (by kernel_rfl) (by kernel_rfl) c_impl_partEnd rfl (.s .n (.s (.s .n (.l [(1, (.d (.int .i64))), (5, (.d (.int .i64)))] [] [0] .n)) .n)) (cutL []) (by kernel_rfl) (by kernel_rfl) k_impl_partEnd (by decide) (fun x K => W_impl_partEnd x.1 x.2.1 K) w_impl_partEnd (fun x h1 h2 => m_impl_partEnd x.1 x.2.1 h1 h2)
def formR (l : List ruleD) : Bool := inR l.length 1 40 && l.all okNodeR && (fendR l 1 0 == (l.length : Int))
def c_impl_isFormula : Ct := ⟨[(.sl ruleT)], [false], fun x => [], [(false, (.fz .bool))], fun x => (formR x.1, ()), false, none⟩
def W_impl_isFormula (list : List ruleD) (K : Bool × Unit → Prop) : Prop := (cnd (!(inR (((List.length list) : Nat) : Int) (1 : Int) (40 : Int))) (K (Bool.false, ())) (loopW (S := ((Int × Unit) × Unit)) (fun s => (fun next => ((inK IntKind.i64 s.1.1) → (cnd (decide (s.1.1 < (((List.length list) : Nat) : Int))) (((0 : Int) ≤ s.1.1) ∧ ((s.1.1 < (((List.length list) : Nat) : Int)) ∧ (cnd (!(okNodeR (List.getD list (Int.toNat s.1.1) ((0 : Int), ((0 : Int), ([] : List Int)))))) (K (Bool.false, ())) ((inK IntKind.i64 (s.1.1 + (1 : Int))) ∧ (next (((s.1.1 + (1 : Int)), ()), ())))))) (((0 : Int) ≤ (0 : Int)) ∧ (((0 : Int) ≤ (((List.length list) : Nat) : Int)) ∧ (((List.length list) ≤ 1099511627776) ∧ (K (((fendR (List.drop (Int.toNat (0 : Int)) list) (1 : Int) (0 : Int)) == (((List.length list) : Nat) : Int)), ()))))))))) (((0 : Int), ()), ())))
theorem w_impl_isFormula (x : denL c_impl_isFormula.args) (K : Bool × Unit → Prop) : evF tab (lkp [(59, c_impl_Node_isNode), (55, c_impl_inRange), (60, c_impl_partEnd)]) (cutL []) Tryz.f36 (bodyOf Tryz.f36) (.s .n (.s .n (.s (.s .n (.l [(10, (.d (.int .i64)))] [] [0, 9] .n)) .n))) c_impl_isFormula x K = W_impl_isFormula x.1 K := by kernel_rfl
theorem k_impl_isFormula : okC Tryz.f36.ntmps (cutL []) (bodyOf Tryz.f36) = true := by kernel_rfl
theorem m_impl_isFormula (list : List ruleD) (hok : allP (okL c_impl_isFormula.args (list, ()))) (hpre : allP (c_impl_isFormula.pre (list, ()))) : W_impl_isFormula list (fun r => r = c_impl_isFormula.res (list, ())) := by
  simp only [c_impl_isFormula, okL, T.oks, T.ok, ap, allP, true_and, and_true, implies_true] at hok hpre
  try dsimp only [T.den] at hok
  try dsimp only [T.den] at hpre
  unfold W_impl_isFormula
  have hll : list.length ≤ 140737488355328 := by simp only [nb_eq] at hok; omega
  clear hok
  have hv : formR list = (inR list.length 1 40 && list.all okNodeR && (fendR list 1 0 == (list.length : Int))) := rfl
  have res : ∀ b, formR list = b → (b, ()) = c_impl_isFormula.res (list, ()) := fun b h => by simp only [c_impl_isFormula, h]
  refine cnd_of (fun hx => res _ ?_) (fun hx => ?_)
  · have h : inR list.length 1 40 = false := by simpa using hx
    rw [hv, h]; rfl
  have h : inR list.length 1 40 = true := by simpa using hx
  rw [h, Bool.true_and] at hv
  have h40 := inR_iff.1 h
  refine loop_all list (0, (0, [])) okNodeR ?_ ?_
  · intro i next i0 i1 hno hyes _
    try dsimp only
    refine cnd_d (fun _ => ⟨i0, i1, cnd_of (fun hx => res _ ?_) (fun hx => ⟨by rw [inK64]; (try dsimp only); omega, hyes (by simpa using hx)⟩)⟩) (fun h => absurd i1 h)
    rw [hv, hno (by simpa using hx)]; rfl
  · intro next h _
    refine cnd_d (fun h => absurd h (Int.lt_irrefl _)) (fun _ => ⟨Int.le_refl _, by omega, by omega, res _ ?_⟩)
    rw [hv, h]; rfl
theorem ct_impl_isFormula : CtOk Tryz.prog 36 c_impl_isFormula :=
  ct_by (Φ := lkp [(59, c_impl_Node_isNode), (55, c_impl_inRange), (60, c_impl_partEnd)]) (good_cons ct_impl_Node_isNode (good_cons ct_impl_inRange (good_cons ct_impl_partEnd good_nil))) tab_ok (by kernel_rfl) (fn := Tryz.f36) (c := bodyOf Tryz.f36) (by kernel_rfl) (by kernel_rfl) (by kernel_rfl) c_impl_isFormula rfl (.s .n (.s .n (.s (.s .n (.l [(10, (.d (.int .i64)))] [] [0, 9] .n)) .n))) (cutL []) (by kernel_rfl) (by kernel_rfl) k_impl_isFormula (by decide) (fun x K => W_impl_isFormula x.1 K) w_impl_isFormula (fun x h1 h2 => m_impl_isFormula x.1 h1 h2)
def c_impl_isSize : Ct := ⟨[(.int .i64)], [false], fun x => [], [(false, (.fz .bool))], fun x => (inR x.1 0 256, ()), false, none⟩
def W_impl_isSize (n : Int) (K : Bool × Unit → Prop) : Prop := (K ((inR n (0 : Int) (256 : Int)), ()))
theorem w_impl_isSize (x : denL c_impl_isSize.args) (K : Bool × Unit → Prop) : evF tab (lkp [(55, c_impl_inRange)]) (cutL []) Tryz.f104 (bodyOf Tryz.f104) .n c_impl_isSize x K = W_impl_isSize x.1 K := by kernel_rfl
theorem k_impl_isSize : okC Tryz.f104.ntmps (cutL []) (bodyOf Tryz.f104) = true := by kernel_rfl
theorem m_impl_isSize (n : Int) (hok : allP (okL c_impl_isSize.args (n, ()))) (hpre : allP (c_impl_isSize.pre (n, ()))) : W_impl_isSize n (fun r => r = c_impl_isSize.res (n, ())) := by
  simp only [c_impl_isSize, okL, T.oks, T.ok, ap, allP, true_and, and_true, implies_true] at hok hpre
  try dsimp only [T.den] at hok
  try dsimp only [T.den] at hpre
  unfold W_impl_isSize
  rfl
theorem ct_impl_isSize : CtOk Tryz.prog 104 c_impl_isSize :=
  ct_by (Φ := lkp [(55, c_impl_inRange)]) (good_cons ct_impl_inRange good_nil) tab_ok (by kernel_rfl) (fn := Tryz.f104) (c := bodyOf Tryz.f104) (by kernel_rfl) (by kernel_rfl) (by kernel_rfl) c_impl_isSize rfl .n (cutL []) (by kernel_rfl) (by kernel_rfl) k_impl_isSize (by decide) (fun x K => W_impl_isSize x.1 K) w_impl_isSize (fun x h1 h2 => m_impl_isSize x.1 h1 h2)
def c_impl_areSizes : Ct := ⟨[(.sl (.int .i64))], [false], fun x => [], [(false, (.fz .bool))], fun x => (x.1.all fun a => inR a 0 256, ()), false, none⟩
def W_impl_areSizes (sizes : List Int) (K : Bool × Unit → Prop) : Prop := (loopW (S := ((Int × Unit) × Unit)) (fun s => (fun next => ((inK IntKind.i64 s.1.1) → (cnd (decide (s.1.1 < (((List.length sizes) : Nat) : Int))) (((0 : Int) ≤ s.1.1) ∧ ((s.1.1 < (((List.length sizes) : Nat) : Int)) ∧ (cnd (!(inR (List.getD sizes (Int.toNat s.1.1) (0 : Int)) (0 : Int) (256 : Int))) (K (Bool.false, ())) ((inK IntKind.i64 (s.1.1 + (1 : Int))) ∧ (next (((s.1.1 + (1 : Int)), ()), ())))))) (K (Bool.true, ())))))) (((0 : Int), ()), ()))
theorem w_impl_areSizes (x : denL c_impl_areSizes.args) (K : Bool × Unit → Prop) : evF tab (lkp [(104, c_impl_isSize)]) (cutL []) Tryz.f100 (bodyOf Tryz.f100) (.s .n (.s (.s .n (.l [(7, (.d (.int .i64)))] [] [5, 6] .n)) .n)) c_impl_areSizes x K = W_impl_areSizes x.1 K := by kernel_rfl
theorem k_impl_areSizes : okC Tryz.f100.ntmps (cutL []) (bodyOf Tryz.f100) = true := by kernel_rfl
theorem m_impl_areSizes (sizes : List Int) (hok : allP (okL c_impl_areSizes.args (sizes, ()))) (hpre : allP (c_impl_areSizes.pre (sizes, ()))) : W_impl_areSizes sizes (fun r => r = c_impl_areSizes.res (sizes, ())) := by
  simp only [c_impl_areSizes, okL, T.oks, T.ok, ap, allP, true_and, and_true, implies_true] at hok hpre
  try dsimp only [T.den] at hok
  try dsimp only [T.den] at hpre
  unfold W_impl_areSizes
  refine loop_all sizes 0 (fun a => inR a 0 256) ?_ ?_
  · intro i next i0 i1 hno hyes _
    try dsimp only
    have hl : sizes.length ≤ 140737488355328 := by simp only [nb_eq] at hok; omega
    refine cnd_d (fun _ => ⟨i0, i1, cnd_of (fun hx => ?_) (fun hx => ⟨by rw [inK64]; (try dsimp only); omega, hyes (by simpa using hx)⟩)⟩) (fun h => absurd i1 h)
    simp only [c_impl_areSizes]
    rw [hno (by simpa using hx)]
  · intro next h _
    refine cnd_d (fun h => absurd h (Int.lt_irrefl _)) (fun _ => ?_)
    simp only [c_impl_areSizes]
    rw [h]
theorem ct_impl_areSizes : CtOk Tryz.prog 100 c_impl_areSizes :=
  ct_by (Φ := lkp [(104, c_impl_isSize)]) (good_cons ct_impl_isSize good_nil) tab_ok (by kernel_rfl) (fn := Tryz.f100) (c := bodyOf Tryz.f100) (by kernel_rfl) (by kernel_rfl) (by kernel_rfl) c_impl_areSizes rfl (.s .n (.s (.s .n (.l [(7, (.d (.int .i64)))] [] [5, 6] .n)) .n)) (cutL []) (by kernel_rfl) (by kernel_rfl) k_impl_areSizes (by decide) (fun x K => W_impl_areSizes x.1 K) w_impl_areSizes (fun x h1 h2 => m_impl_areSizes x.1 h1 h2)
structure SzP (l : List Int) : Prop where
  len : l.length ≤ 2
  le : ∀ a ∈ l, 0 ≤ a ∧ a ≤ 16
def prodR (l : List Int) : Int := l.foldl (· * ·) 1
theorem sz_cases {l : List Int} (h : SzP l) : l = [] ∨ (∃ a, l = [a] ∧ 0 ≤ a ∧ a ≤ 16) ∨ ∃ a b, l = [a, b] ∧ (0 ≤ a ∧ a ≤ 16) ∧ 0 ≤ b ∧ b ≤ 16 := by
  match l, h with
  | [], _ => exact .inl rfl
  | [a], h => exact .inr (.inl ⟨a, rfl, h.le a (by simp)⟩)
  | [a, b], h => exact .inr (.inr ⟨a, b, rfl, h.le a (by simp), h.le b (by simp)⟩)
  | _ :: _ :: _ :: _, h => have := h.len; simp at this
theorem prod_le {l : List Int} (S : SzP l) : 0 ≤ prodR l ∧ prodR l ≤ 256 := by
  rcases sz_cases S with rfl | ⟨a, rfl, a0, a1⟩ | ⟨a, b, rfl, ⟨a0, a1⟩, b0, b1⟩
  · exact ⟨by decide, by decide⟩
  · have : prodR [a] = a := by simp [prodR]
    omega
  · have : prodR [a, b] = a * b := by simp [prodR]
    have h1 := Int.mul_nonneg a0 b0
    have h2 : a * b ≤ 16 * 16 := Int.mul_le_mul a1 b1 b0 (by omega)
    omega
def c_impl_tupleCount : Ct := ⟨[(.sl (.int .i64))], [false], fun x => [SzP x.1], [(false, (.fz (.int .i64)))], fun x => (prodR x.1, ()), false, none⟩
def W_impl_tupleCount (sizes : List Int) (K : Int × Unit → Prop) : Prop := (loopW (S := ((Int × (Int × Unit)) × Unit)) (fun s => (fun next => ((inK IntKind.i64 s.1.1) → ((inK IntKind.i64 s.1.2.1) → (cnd (decide (s.1.2.1 < (((List.length sizes) : Nat) : Int))) (((0 : Int) ≤ s.1.2.1) ∧ ((s.1.2.1 < (((List.length sizes) : Nat) : Int)) ∧ (cnd ((List.getD sizes (Int.toNat s.1.2.1) (0 : Int)) == (0 : Int)) (K ((0 : Int), ())) (joinW (S := ((Int × Unit) × Unit)) (fun s1 => ((inK IntKind.i64 s1.1.1) → ((inK IntKind.i64 (s.1.2.1 + (1 : Int))) ∧ (next ((s1.1.1, ((s.1.2.1 + (1 : Int)), ())), ()))))) (fun k => (cnd (decide (s.1.1 ≤ (1000000000000 : Int))) ((inK IntKind.i64 (s.1.1 * (List.getD sizes (Int.toNat s.1.2.1) (0 : Int)))) ∧ (k (((s.1.1 * (List.getD sizes (Int.toNat s.1.2.1) (0 : Int))), ()), ()))) (k ((s.1.1, ()), ())))))))) (K ((mnR s.1.1 (1000000000001 : Int)), ()))))))) (((1 : Int), ((0 : Int), ())), ()))
theorem w_impl_tupleCount (x : denL c_impl_tupleCount.args) (K : Int × Unit → Prop) : evF tab (lkp []) (cutL []) Tryz.f79 (bodyOf Tryz.f79) (.s .n (.s .n (.s (.s .n (.l [(3, (.d (.int .i64))), (8, (.d (.int .i64)))] [] [6, 7] (.s .n (.s .n (.s (.s .n (.s .n (.s .n (.j [(3, (.d (.int .i64)))] [] [6, 7, 8] .n)))) .n))))) .n))) c_impl_tupleCount x K = W_impl_tupleCount x.1 K := by kernel_rfl
theorem k_impl_tupleCount : okC Tryz.f79.ntmps (cutL []) (bodyOf Tryz.f79) = true := by kernel_rfl
theorem m_impl_tupleCount (sizes : List Int) (hok : allP (okL c_impl_tupleCount.args (sizes, ()))) (hpre : allP (c_impl_tupleCount.pre (sizes, ()))) : W_impl_tupleCount sizes (fun r => r = c_impl_tupleCount.res (sizes, ())) := by
  simp only [c_impl_tupleCount, okL, T.oks, T.ok, ap, allP, true_and, and_true, implies_true] at hok hpre
  try dsimp only [T.den] at hok
  try dsimp only [T.den] at hpre
  unfold W_impl_tupleCount
  have S : SzP sizes := hpre
  clear hok hpre
  rcases sz_cases S with rfl | ⟨a, rfl, a0, a1⟩ | ⟨a, b, rfl, ⟨a0, a1⟩, b0, b1⟩
  · refine ⟨1, ?_⟩
    simp [iterW, cnd, c_impl_tupleCount, prodR, mnR]
  · have e : mnR a 1000000000001 = a := by unfold mnR; split <;> omega
    refine ⟨2, ?_⟩
    simp [iterW, joinW, cnd, inK64, c_impl_tupleCount, prodR, e]
    omega
  · have h1 := Int.mul_nonneg a0 b0
    have h2 : a * b ≤ 16 * 16 := Int.mul_le_mul a1 b1 b0 (by omega)
    have e : mnR (a * b) 1000000000001 = a * b := by unfold mnR; split <;> omega
    by_cases ha : a = 0
    · subst ha
      refine ⟨2, ?_⟩
      simp [iterW, joinW, cnd, inK64, c_impl_tupleCount, prodR]
    · by_cases hb : b = 0
      · subst hb
        refine ⟨3, ?_⟩
        simp [iterW, joinW, cnd, inK64, c_impl_tupleCount, prodR, ha]
        omega
      · refine ⟨3, ?_⟩
        simp [iterW, joinW, cnd, inK64, c_impl_tupleCount, prodR, e, ha, hb]
        omega
theorem ct_impl_tupleCount : CtOk Tryz.prog 79 c_impl_tupleCount :=
  ct_by (Φ := lkp []) good_nil tab_ok (by kernel_rfl) (fn := Tryz.f79) (c := bodyOf Tryz.f79) (by kernel_rfl) (by kernel_rfl) (by kernel_rfl) c_impl_tupleCount rfl (.s .n (.s .n (.s (.s .n (.l [(3, (.d (.int .i64))), (8, (.d (.int .i64)))] [] [6, 7] (.s .n (.s .n (.s (.s .n (.s .n (.s .n (.j [(3, (.d (.int .i64)))] [] [6, 7, 8] .n)))) .n))))) .n))) (cutL []) (by kernel_rfl) (by kernel_rfl) k_impl_tupleCount (by decide) (fun x K => W_impl_tupleCount x.1 K) w_impl_tupleCount (fun x h1 h2 => m_impl_tupleCount x.1 h1 h2)
def tupR : List Int → Int → List Int
  | [], _ => []
  | [a], n => [n.tmod a]
  | [a, b], n => [(n.tdiv b).tmod a, n.tmod b]
  | _, _ => []
def c_impl_TupleAt : Ct := ⟨[(.sl (.int .i64)), (.int .i64)], [false, false], fun x => [SzP x.1, 0 ≤ x.2.1, x.2.1 < prodR x.1], [(false, (.sl (.fz (.int .i64)))), (false, (.fz (.int .i64)))], fun x => (tupR x.1 x.2.1, 0, ()), false, none⟩
def W_impl_TupleAt (sizes : List Int) (number : Int) (K : (List Int) × Int × Unit → Prop) : Prop := (cnd (!(List.all sizes (fun a => (inR a (0 : Int) (256 : Int))))) (K (([] : List Int), ((2 : Int), ()))) ((SzP sizes) ∧ (cnd (decide ((1000000000000 : Int) < (prodR sizes))) (K (([] : List Int), ((3 : Int), ()))) ((inK IntKind.i64 ((prodR sizes) - (1 : Int))) ∧ (cnd (!(inR number (0 : Int) ((prodR sizes) - (1 : Int)))) (K (([] : List Int), ((4 : Int), ()))) (((0 : Int) ≤ (((List.length sizes) : Nat) : Int)) ∧ (((((List.length sizes) : Nat) : Int) ≤ (((List.length sizes) : Nat) : Int)) ∧ (((((List.length sizes) : Nat) : Int) ≤ ((140737488355328 : Nat) : Int)) ∧ ((((((List.length sizes) : Nat) : Int) * ((8 : Nat) : Int)) ≤ ((140737488355328 : Nat) : Int)) ∧ ((inK IntKind.i64 ((((List.length sizes) : Nat) : Int) - (1 : Int))) ∧ (loopW (S := ((Int × (Unit × (Int × Unit))) × ((List Int) × Unit))) (fun s => (fun next => ((inK IntKind.i64 s.1.1) → ((inK IntKind.i64 s.1.2.2.1) → ((T.ok (T.sl (T.int IntKind.i64)) s.2.1) → (cnd (decide ((0 : Int) ≤ s.1.2.2.1)) (((0 : Int) ≤ s.1.2.2.1) ∧ ((s.1.2.2.1 < (((List.length sizes) : Nat) : Int)) ∧ (((List.getD sizes (Int.toNat s.1.2.2.1) (0 : Int)) ≠ (0 : Int)) ∧ ((inK IntKind.i64 (Int.tmod s.1.1 (List.getD sizes (Int.toNat s.1.2.2.1) (0 : Int)))) ∧ (((0 : Int) ≤ s.1.2.2.1) ∧ ((s.1.2.2.1 < (((List.length s.2.1) : Nat) : Int)) ∧ (((0 : Int) ≤ s.1.2.2.1) ∧ ((s.1.2.2.1 < (((List.length sizes) : Nat) : Int)) ∧ (((List.getD sizes (Int.toNat s.1.2.2.1) (0 : Int)) ≠ (0 : Int)) ∧ ((inK IntKind.i64 (Int.tdiv s.1.1 (List.getD sizes (Int.toNat s.1.2.2.1) (0 : Int)))) ∧ ((inK IntKind.i64 (s.1.2.2.1 - (1 : Int))) ∧ (next (((Int.tdiv s.1.1 (List.getD sizes (Int.toNat s.1.2.2.1) (0 : Int))), ((), ((s.1.2.2.1 - (1 : Int)), ()))), ((List.set s.2.1 (Int.toNat s.1.2.2.1) (Int.tmod s.1.1 (List.getD sizes (Int.toNat s.1.2.2.1) (0 : Int)))), ())))))))))))))) (K (s.2.1, ((0 : Int), ()))))))))) ((number, ((), (((((List.length sizes) : Nat) : Int) - (1 : Int)), ()))), ((List.replicate (Int.toNat (((List.length sizes) : Nat) : Int)) (0 : Int)), ())))))))))))))
theorem w_impl_TupleAt (x : denL c_impl_TupleAt.args) (K : (List Int) × Int × Unit → Prop) : evF tab (lkp [(100, c_impl_areSizes), (55, c_impl_inRange), (79, c_impl_tupleCount)]) (cutL []) Tryz.f94 (bodyOf Tryz.f94) (.s .n (.s .n (.s .n (.s .n (.s .n (.s .n (.s (.s .n (.l [(1, (.d (.int .i64))), (7, (.ref 23 [])), (8, (.d (.int .i64)))] [(23, (.sl (.fz (.int .i64))))] [0] .n)) .n))))))) c_impl_TupleAt x K = W_impl_TupleAt x.1 x.2.1 K := by kernel_rfl
theorem k_impl_TupleAt : okC Tryz.f94.ntmps (cutL []) (bodyOf Tryz.f94) = true := by kernel_rfl
theorem m_impl_TupleAt (sizes : List Int) (number : Int) (hok : allP (okL c_impl_TupleAt.args (sizes, number, ()))) (hpre : allP (c_impl_TupleAt.pre (sizes, number, ()))) : W_impl_TupleAt sizes number (fun r => r = c_impl_TupleAt.res (sizes, number, ())) := by
  simp only [c_impl_TupleAt, okL, T.oks, T.ok, ap, allP, true_and, and_true, implies_true] at hok hpre
  try dsimp only [T.den] at hok
  try dsimp only [T.den] at hpre
  unfold W_impl_TupleAt
  obtain ⟨S, h0, h1⟩ := hpre
  have hp := prod_le S
  have hz : (sizes.all fun a => inR a 0 256) = true := by
    rw [List.all_eq_true]; intro a ha; have := S.le a ha; rw [inR_iff]; omega
  have hlen := S.len
  clear hok
  refine cnd_of (fun hx => absurd hx (by rw [hz]; simp)) (fun _ => ⟨S, cnd_d (fun hx => by omega) (fun _ => ⟨by rw [inK64]; (try dsimp only); omega, cnd_of (fun hx => absurd hx (by rw [inR_iff.2 ⟨h0, by omega⟩]; simp)) (fun _ => ⟨by omega, by omega, by omega, by omega, by rw [inK64]; (try dsimp only); omega, ?_⟩)⟩)⟩)
  rcases sz_cases S with rfl | ⟨a, rfl, a0, a1⟩ | ⟨a, b, rfl, ⟨a0, a1⟩, b0, b1⟩
  · refine ⟨1, ?_⟩
    simp [iterW, cnd, c_impl_TupleAt, tupR, inK64]
  · have hp : number < a := by simpa [prodR] using h1
    have hb : a ≠ 0 := by omega
    have e1 : 0 ≤ number.tmod a ∧ number.tmod a < a := by
      rw [Int.tmod_eq_emod_of_nonneg h0]
      exact ⟨Int.emod_nonneg _ (by omega), Int.emod_lt_of_pos _ (by omega)⟩
    have e2 : 0 ≤ number.tdiv a ∧ number.tdiv a ≤ number := by
      rw [Int.tdiv_eq_ediv_of_nonneg h0]
      exact ⟨Int.ediv_nonneg h0 (by omega), Int.ediv_le_self _ h0⟩
    refine ⟨2, ?_⟩
    simp [iterW, cnd, inK64, c_impl_TupleAt, tupR, hb]
    omega
  · have hp : number < a * b := by simpa [prodR] using h1
    have hb : 0 < b := by
      rcases Int.lt_or_le 0 b with h | h
      · exact h
      · have : b = 0 := by omega
        subst this; rw [Int.mul_zero] at hp; omega
    have ha : 0 < a := by
      rcases Int.lt_or_le 0 a with h | h
      · exact h
      · have : a = 0 := by omega
        subst this; rw [Int.zero_mul] at hp; omega
    have hb' : b ≠ 0 := by omega
    have ha' : a ≠ 0 := by omega
    have e1 : 0 ≤ number.tmod b ∧ number.tmod b < b := by
      rw [Int.tmod_eq_emod_of_nonneg h0]
      exact ⟨Int.emod_nonneg _ (by omega), Int.emod_lt_of_pos _ (by omega)⟩
    have e2 : 0 ≤ number.tdiv b ∧ number.tdiv b ≤ number := by
      rw [Int.tdiv_eq_ediv_of_nonneg h0]
      exact ⟨Int.ediv_nonneg h0 (by omega), Int.ediv_le_self _ h0⟩
    have e3 : 0 ≤ (number.tdiv b).tmod a ∧ (number.tdiv b).tmod a < a := by
      rw [Int.tmod_eq_emod_of_nonneg e2.1]
      exact ⟨Int.emod_nonneg _ (by omega), Int.emod_lt_of_pos _ (by omega)⟩
    have e4 : 0 ≤ (number.tdiv b).tdiv a ∧ (number.tdiv b).tdiv a ≤ number.tdiv b := by
      rw [Int.tdiv_eq_ediv_of_nonneg e2.1]
      exact ⟨Int.ediv_nonneg e2.1 (by omega), Int.ediv_le_self _ e2.1⟩
    have h2 : a * b ≤ 16 * 16 := Int.mul_le_mul a1 b1 b0 (by omega)
    refine ⟨3, ?_⟩
    simp [iterW, cnd, inK64, c_impl_TupleAt, tupR, hb', ha']
    omega
theorem ct_impl_TupleAt : CtOk Tryz.prog 94 c_impl_TupleAt :=
  ct_by (Φ := lkp [(100, c_impl_areSizes), (55, c_impl_inRange), (79, c_impl_tupleCount)]) (good_cons ct_impl_areSizes (good_cons ct_impl_inRange (good_cons ct_impl_tupleCount good_nil))) tab_ok (by kernel_rfl) (fn := Tryz.f94) (c := bodyOf Tryz.f94) (by kernel_rfl) (by kernel_rfl) (by kernel_rfl) c_impl_TupleAt rfl (.s .n (.s .n (.s .n (.s .n (.s .n (.s .n (.s (.s .n (.l [(1, (.d (.int .i64))), (7, (.ref 23 [])), (8, (.d (.int .i64)))] [(23, (.sl (.fz (.int .i64))))] [0] .n)) .n))))))) (cutL []) (by kernel_rfl) (by kernel_rfl) k_impl_TupleAt (by decide) (fun x K => W_impl_TupleAt x.1 x.2.1 K) w_impl_TupleAt (fun x h1 h2 => m_impl_TupleAt x.1 x.2.1 h1 h2)
def numR : List Int → List Int → Int
  | [_], [y] => y
  | [_, b], [y, z] => y * b + z
  | _, _ => 0
structure TupP (l t : List Int) : Prop where
  sz : SzP l
  len : t.length = l.length
  le : ∀ i : Int, 0 ≤ i → i < l.length → 0 ≤ t.getD i.toNat 0 ∧ t.getD i.toNat 0 < l.getD i.toNat 0
theorem tup_ok {l : List Int} {n : Int} (S : SzP l) (h0 : 0 ≤ n) (h1 : n < prodR l) : TupP l (tupR l n) := by
  rcases sz_cases S with rfl | ⟨a, rfl, a0, a1⟩ | ⟨a, b, rfl, ⟨a0, a1⟩, b0, b1⟩
  · exact ⟨S, rfl, fun i h h2 => by simp at h2; omega⟩
  · have hp : n < a := by simpa [prodR] using h1
    refine ⟨S, rfl, fun i h h2 => ?_⟩
    have : i = 0 := by simp at h2; omega
    subst this
    show 0 ≤ n.tmod a ∧ n.tmod a < a
    rw [Int.tmod_eq_emod_of_nonneg h0]
    exact ⟨Int.emod_nonneg _ (by omega), Int.emod_lt_of_pos _ (by omega)⟩
  · have hp : n < a * b := by simpa [prodR] using h1
    have hb : 0 < b := by
      rcases Int.lt_or_le 0 b with h | h
      · exact h
      · have : b = 0 := by omega
        subst this; rw [Int.mul_zero] at hp; omega
    have ha : 0 < a := by
      rcases Int.lt_or_le 0 a with h | h
      · exact h
      · have : a = 0 := by omega
        subst this; rw [Int.zero_mul] at hp; omega
    refine ⟨S, rfl, fun i h h2 => ?_⟩
    have : i = 0 ∨ i = 1 := by simp at h2; omega
    rcases this with rfl | rfl
    · show 0 ≤ (n.tdiv b).tmod a ∧ (n.tdiv b).tmod a < a
      rw [Int.tdiv_eq_ediv_of_nonneg h0, Int.tmod_eq_emod_of_nonneg (Int.ediv_nonneg h0 (by omega))]
      exact ⟨Int.emod_nonneg _ (by omega), Int.emod_lt_of_pos _ ha⟩
    · show 0 ≤ n.tmod b ∧ n.tmod b < b
      rw [Int.tmod_eq_emod_of_nonneg h0]
      exact ⟨Int.emod_nonneg _ (by omega), Int.emod_lt_of_pos _ hb⟩
def c_impl_TupleNumber : Ct := ⟨[(.sl (.int .i64)), (.sl (.int .i64))], [false, false], fun x => [TupP x.1 x.2.1], [(false, (.fz (.int .i64))), (false, (.fz (.int .i64)))], fun x => (numR x.1 x.2.1, 0, ()), false, none⟩
def W_impl_TupleNumber (sizes : List Int) (tuple : List Int) (K : Int × Int × Unit → Prop) : Prop := (cnd (!(List.all sizes (fun a => (inR a (0 : Int) (256 : Int))))) (K ((0 : Int), ((2 : Int), ()))) (cnd ((((List.length tuple) : Nat) : Int) != (((List.length sizes) : Nat) : Int)) (K ((0 : Int), ((1 : Int), ()))) (loopW (S := ((Int × Unit) × Unit)) (fun s => (fun next => ((inK IntKind.i64 s.1.1) → (cnd (decide (s.1.1 < (((List.length tuple) : Nat) : Int))) (((0 : Int) ≤ s.1.1) ∧ ((s.1.1 < (((List.length tuple) : Nat) : Int)) ∧ (((0 : Int) ≤ s.1.1) ∧ ((s.1.1 < (((List.length sizes) : Nat) : Int)) ∧ ((inK IntKind.i64 ((List.getD sizes (Int.toNat s.1.1) (0 : Int)) - (1 : Int))) ∧ (cnd (!(inR (List.getD tuple (Int.toNat s.1.1) (0 : Int)) (0 : Int) ((List.getD sizes (Int.toNat s.1.1) (0 : Int)) - (1 : Int)))) (K ((0 : Int), ((1 : Int), ()))) ((inK IntKind.i64 (s.1.1 + (1 : Int))) ∧ (next (((s.1.1 + (1 : Int)), ()), ()))))))))) ((SzP sizes) ∧ (cnd (decide ((1000000000000 : Int) < (prodR sizes))) (K ((0 : Int), ((3 : Int), ()))) (loopW (S := ((Int × (Int × Unit)) × Unit)) (fun s1 => (fun next1 => ((inK IntKind.i64 s1.1.1) → ((inK IntKind.i64 s1.1.2.1) → (cnd (decide (s1.1.2.1 < (((List.length tuple) : Nat) : Int))) (((0 : Int) ≤ s1.1.2.1) ∧ ((s1.1.2.1 < (((List.length tuple) : Nat) : Int)) ∧ (((0 : Int) ≤ s1.1.2.1) ∧ ((s1.1.2.1 < (((List.length sizes) : Nat) : Int)) ∧ ((inK IntKind.i64 (s1.1.1 * (List.getD sizes (Int.toNat s1.1.2.1) (0 : Int)))) ∧ ((inK IntKind.i64 ((s1.1.1 * (List.getD sizes (Int.toNat s1.1.2.1) (0 : Int))) + (List.getD tuple (Int.toNat s1.1.2.1) (0 : Int)))) ∧ ((inK IntKind.i64 (s1.1.2.1 + (1 : Int))) ∧ (next1 ((((s1.1.1 * (List.getD sizes (Int.toNat s1.1.2.1) (0 : Int))) + (List.getD tuple (Int.toNat s1.1.2.1) (0 : Int))), ((s1.1.2.1 + (1 : Int)), ())), ()))))))))) (K (s1.1.1, ((0 : Int), ())))))))) (((0 : Int), ((0 : Int), ())), ())))))))) (((0 : Int), ()), ()))))
theorem w_impl_TupleNumber (x : denL c_impl_TupleNumber.args) (K : Int × Int × Unit → Prop) : evF tab (lkp [(100, c_impl_areSizes), (55, c_impl_inRange), (79, c_impl_tupleCount)]) (cutL []) Tryz.f95 (bodyOf Tryz.f95) (.s .n (.s .n (.s .n (.s (.s .n (.l [(21, (.d (.int .i64)))] [] [0, 1, 19, 20] .n)) (.s .n (.s .n (.s (.s .n (.l [(8, (.d (.int .i64))), (40, (.d (.int .i64)))] [] [0, 38, 39] .n)) .n))))))) c_impl_TupleNumber x K = W_impl_TupleNumber x.1 x.2.1 K := by kernel_rfl
theorem k_impl_TupleNumber : okC Tryz.f95.ntmps (cutL []) (bodyOf Tryz.f95) = true := by kernel_rfl
theorem m_impl_TupleNumber (sizes : List Int) (tuple : List Int) (hok : allP (okL c_impl_TupleNumber.args (sizes, tuple, ()))) (hpre : allP (c_impl_TupleNumber.pre (sizes, tuple, ()))) : W_impl_TupleNumber sizes tuple (fun r => r = c_impl_TupleNumber.res (sizes, tuple, ())) := by
  simp only [c_impl_TupleNumber, okL, T.oks, T.ok, ap, allP, true_and, and_true, implies_true] at hok hpre
  try dsimp only [T.den] at hok
  try dsimp only [T.den] at hpre
  unfold W_impl_TupleNumber
  have T : TupP sizes tuple := hpre
  have S := T.sz
  have hlen := S.len
  have htl := T.len
  have hle := T.le
  clear hok hpre
  have hp := prod_le S
  have hz : (sizes.all fun a => inR a 0 256) = true := by
    rw [List.all_eq_true]; intro a ha; have := S.le a ha; rw [inR_iff]; omega
  refine cnd_of (fun hx => absurd hx (by rw [hz]; simp)) (fun _ => cnd_of (fun hx => absurd hx (by rw [htl]; simp)) (fun _ => ?_))
  refine loop_ix (n := tuple.length) (fun _ => True) (by omega) trivial (fun i next i0 i1 _ hn _ => ?_) (fun next _ _ => ?_)
  · try dsimp only
    have h1 := hle i i0 (by omega)
    have h2 := S.le _ (getD_mem sizes 0 i0 (by omega))
    exact cnd_d (fun _ => ⟨i0, i1, i0, by omega, by rw [inK64]; (try dsimp only); omega, cnd_of (fun hx => absurd hx (by rw [inR_iff.2 ⟨h1.1, by omega⟩]; simp)) (fun _ => ⟨by rw [inK64]; (try dsimp only); omega, hn trivial⟩)⟩) (fun h => absurd i1 h)
  refine cnd_d (fun h => absurd h (Int.lt_irrefl _)) (fun _ => ⟨S, cnd_d (fun hx => by omega) (fun _ => ?_)⟩)
  rcases sz_cases S with rfl | ⟨a, rfl, a0, a1⟩ | ⟨a, b, rfl, ⟨a0, a1⟩, b0, b1⟩
  · obtain rfl : tuple = [] := List.length_eq_zero_iff.1 htl
    refine ⟨1, ?_⟩
    simp [iterW, cnd, c_impl_TupleNumber, numR, inK64]
  · obtain ⟨y, rfl⟩ : ∃ y, tuple = [y] := List.length_eq_one_iff.1 htl
    have h1 := hle 0 (by omega) (by simp)
    simp at h1
    refine ⟨2, ?_⟩
    simp [iterW, cnd, inK64, c_impl_TupleNumber, numR]
    omega
  · obtain ⟨y, z, rfl⟩ : ∃ y z, tuple = [y, z] := by
      match tuple, htl with
      | [y, z], _ => exact ⟨y, z, rfl⟩
    have h1 := hle 0 (by omega) (by simp)
    have h2 := hle 1 (by omega) (by simp)
    simp at h1 h2
    have h3 := Int.mul_nonneg h1.1 b0
    have h4 : y * b ≤ 16 * 16 := Int.mul_le_mul (by omega) b1 b0 (by omega)
    refine ⟨3, ?_⟩
    simp [iterW, cnd, inK64, c_impl_TupleNumber, numR]
    omega
theorem ct_impl_TupleNumber : CtOk Tryz.prog 95 c_impl_TupleNumber :=
  ct_by (Φ := lkp [(100, c_impl_areSizes), (55, c_impl_inRange), (79, c_impl_tupleCount)]) (good_cons ct_impl_areSizes (good_cons ct_impl_inRange (good_cons ct_impl_tupleCount good_nil))) tab_ok (by kernel_rfl) (fn := Tryz.f95) (c := bodyOf Tryz.f95) (by kernel_rfl) (by kernel_rfl) (by kernel_rfl) c_impl_TupleNumber rfl (.s .n (.s .n (.s .n (.s (.s .n (.l [(21, (.d (.int .i64)))] [] [0, 1, 19, 20] .n)) (.s .n (.s .n (.s (.s .n (.l [(8, (.d (.int .i64))), (40, (.d (.int .i64)))] [] [0, 38, 39] .n)) .n))))))) (cutL []) (by kernel_rfl) (by kernel_rfl) k_impl_TupleNumber (by decide) (fun x K => W_impl_TupleNumber x.1 x.2.1 K) w_impl_TupleNumber (fun x h1 h2 => m_impl_TupleNumber x.1 x.2.1 h1 h2)
structure SrtP (S : List SetFunctorD) : Prop where
  n0 : 1 ≤ S.length
  n1 : S.length ≤ 3
  ok : ∀ k : Int, 0 ≤ k → k < S.length → setfR (S.getD k.toNat ((0, ([], ([], ([], [])))), ([], []))) = true ∧ (S.getD k.toNat ((0, ([], ([], ([], [])))), ([], []))).1 = (S.getD 0 ((0, ([], ([], ([], [])))), ([], []))).1
def shpR (S : List SetFunctorD) : CategoryD := (S.getD 0 ((0, ([], ([], ([], [])))), ([], []))).1
structure MovP (S : List SetFunctorD) (l : List Int) (a n : Int) : Prop where
  len : l.length ≤ 2
  wi : withinR l S.length = true
  a0 : 0 ≤ a
  a1 : a < (shpR S).2.1.length
  n0 : 0 ≤ n
  n1 : n < prodR (sizesR S l ((shpR S).2.1.getD a.toNat 0))
def mvR (S : List SetFunctorD) (l : List Int) (a : Int) (t : List Int) : List Int := tabN l.length fun i => actR (S.getD (l.getD i.toNat 0).toNat ((0, ([], ([], ([], [])))), ([], []))) a (t.getD i.toNat 0)
def moveR (S : List SetFunctorD) (l : List Int) (a n : Int) : Int := numR (sizesR S l ((shpR S).2.2.1.getD a.toNat 0)) (mvR S l a (tupR (sizesR S l ((shpR S).2.1.getD a.toNat 0)) n))
theorem SrtP.sf {S : List SetFunctorD} (H : SrtP S) {k : Int} (h0 : 0 ≤ k) (h1 : k < S.length) : SfP (S.getD k.toNat ((0, ([], ([], ([], [])))), ([], []))) ∧ (S.getD k.toNat ((0, ([], ([], ([], [])))), ([], []))).1 = shpR S := ⟨setf_sf (H.ok k h0 h1).1, (H.ok k h0 h1).2⟩
theorem SrtP.shape {S : List SetFunctorD} (H : SrtP S) : ShapeP (shpR S) := by
  have := H.n0
  obtain ⟨h1, h2⟩ := H.sf (k := 0) (Int.le_refl _) (by omega)
  rw [← h2]
  exact cat_shape h1.cat
theorem SrtP.siz {S : List SetFunctorD} (H : SrtP S) {l : List Int} {x : Int} (hl : l.length ≤ 2) (hw : withinR l S.length = true) (x0 : 0 ≤ x) (x1 : x < (shpR S).1) : SizP S l x ∧ SzP (sizesR S l x) := by
  refine ⟨⟨by omega, hw, x0, fun k h0 h1 => ?_⟩, ⟨by unfold sizesR; rw [List.length_map]; exact hl, fun a ha => ?_⟩⟩
  · obtain ⟨s1, s2⟩ := H.sf h0 h1
    have := s1.lz
    rw [s2] at this
    omega
  · unfold sizesR at ha
    obtain ⟨k, hk, rfl⟩ := List.mem_map.1 ha
    have h2 := List.all_eq_true.1 hw k hk
    rw [inR_iff] at h2
    obtain ⟨s1, s2⟩ := H.sf h2.1 (by omega)
    exact s1.size x0 (by rw [s2]; exact x1)
theorem siz_get {S : List SetFunctorD} {l : List Int} {x i : Int} (h0 : 0 ≤ i) (h1 : i < l.length) : (sizesR S l x).getD i.toNat 0 = (S.getD (l.getD i.toNat 0).toNat ((0, ([], ([], ([], [])))), ([], []))).2.1.getD x.toNat 0 := by
  unfold sizesR
  exact map_getD (by omega)
theorem move_tup {S : List SetFunctorD} {l : List Int} {a n : Int} (H : SrtP S) (M : MovP S l a n) : TupP (sizesR S l ((shpR S).2.2.1.getD a.toNat 0)) (mvR S l a (tupR (sizesR S l ((shpR S).2.1.getD a.toNat 0)) n)) := by
  have C := H.shape
  obtain ⟨f0, f1, t0, t1⟩ := C.frm M.a0 M.a1
  obtain ⟨z1, z2⟩ := H.siz M.len M.wi f0 f1
  obtain ⟨y1, y2⟩ := H.siz M.len M.wi t0 t1
  have hT := tup_ok z2 M.n0 M.n1
  have hsl : ∀ x, (sizesR S l x).length = l.length := fun x => by unfold sizesR; rw [List.length_map]
  refine ⟨y2, by unfold mvR; rw [tabN_len, hsl], fun i i0 i1 => ?_⟩
  rw [hsl] at i1
  unfold mvR
  rw [tabN_get i0 i1, siz_get i0 i1]
  have hw := within_iff.1 M.wi i i0 i1
  obtain ⟨g1, g2⟩ := H.sf hw.1 hw.2
  have ht := hT.le i i0 (by rw [hsl]; exact i1)
  rw [siz_get i0 i1] at ht
  have hat := g1.at_ (a := a) (e := (tupR (sizesR S l ((shpR S).2.1.getD a.toNat 0)) n).getD i.toNat 0) M.a0 (by rw [g2]; exact M.a1) ht.1 (by rw [g2]; exact ht.2)
  rw [g2] at hat
  exact ⟨hat.2.1, hat.2.2⟩
def c_impl_Structure_moveTuple : Ct := ⟨[(.pt StructureT), (.sl (.int .i64)), (.int .i64), (.int .i64)], [false, false, false, false], fun x => [SrtP x.1.1, MovP x.1.1 x.2.1 x.2.2.1 x.2.2.2.1], [(false, (.fz (.int .i64)))], fun x => (moveR x.1.1 x.2.1 x.2.2.1 x.2.2.2.1, ()), false, none⟩
def W_impl_Structure_moveTuple (s : StructureD) (sorts : List Int) (a : Int) (number : Int) (K : Int × Unit → Prop) : Prop := (((0 : Int) ≤ (0 : Int)) ∧ (((0 : Int) < (((List.length s.1) : Nat) : Int)) ∧ (((0 : Int) ≤ a) ∧ ((a < (((List.length (List.getD s.1 (Int.toNat (0 : Int)) (((0 : Int), (([] : List Int), (([] : List Int), (([] : List Int), ([] : List (List Int)))))), (([] : List Int), ([] : List (List Int))))).1.2.1) : Nat) : Int)) ∧ ((SizP s.1 sorts (List.getD (List.getD s.1 (Int.toNat (0 : Int)) (((0 : Int), (([] : List Int), (([] : List Int), (([] : List Int), ([] : List (List Int)))))), (([] : List Int), ([] : List (List Int))))).1.2.1 (Int.toNat a) (0 : Int))) ∧ ((SzP (sizesR s.1 sorts (List.getD (List.getD s.1 (Int.toNat (0 : Int)) (((0 : Int), (([] : List Int), (([] : List Int), (([] : List Int), ([] : List (List Int)))))), (([] : List Int), ([] : List (List Int))))).1.2.1 (Int.toNat a) (0 : Int)))) ∧ (((0 : Int) ≤ number) ∧ ((number < (prodR (sizesR s.1 sorts (List.getD (List.getD s.1 (Int.toNat (0 : Int)) (((0 : Int), (([] : List Int), (([] : List Int), (([] : List Int), ([] : List (List Int)))))), (([] : List Int), ([] : List (List Int))))).1.2.1 (Int.toNat a) (0 : Int))))) ∧ (loopW (S := ((Unit × (Int × Unit)) × ((List Int) × Unit))) (fun s1 => (fun next => ((inK IntKind.i64 s1.1.2.1) → ((T.ok (T.sl (T.int IntKind.i64)) s1.2.1) → (cnd (decide (s1.1.2.1 < (((List.length sorts) : Nat) : Int))) (((0 : Int) ≤ s1.1.2.1) ∧ ((s1.1.2.1 < (((List.length sorts) : Nat) : Int)) ∧ (((0 : Int) ≤ (List.getD sorts (Int.toNat s1.1.2.1) (0 : Int))) ∧ (((List.getD sorts (Int.toNat s1.1.2.1) (0 : Int)) < (((List.length s.1) : Nat) : Int)) ∧ (((0 : Int) ≤ a) ∧ ((a < (((List.length (List.getD s.1 (Int.toNat (List.getD sorts (Int.toNat s1.1.2.1) (0 : Int))) (((0 : Int), (([] : List Int), (([] : List Int), (([] : List Int), ([] : List (List Int)))))), (([] : List Int), ([] : List (List Int))))).2.2) : Nat) : Int)) ∧ (((0 : Int) ≤ s1.1.2.1) ∧ ((s1.1.2.1 < (((List.length s1.2.1) : Nat) : Int)) ∧ (((0 : Int) ≤ (List.getD s1.2.1 (Int.toNat s1.1.2.1) (0 : Int))) ∧ (((List.getD s1.2.1 (Int.toNat s1.1.2.1) (0 : Int)) < (((List.length (List.getD (List.getD s.1 (Int.toNat (List.getD sorts (Int.toNat s1.1.2.1) (0 : Int))) (((0 : Int), (([] : List Int), (([] : List Int), (([] : List Int), ([] : List (List Int)))))), (([] : List Int), ([] : List (List Int))))).2.2 (Int.toNat a) ([] : List Int))) : Nat) : Int)) ∧ (((0 : Int) ≤ s1.1.2.1) ∧ ((s1.1.2.1 < (((List.length s1.2.1) : Nat) : Int)) ∧ ((inK IntKind.i64 (s1.1.2.1 + (1 : Int))) ∧ (next (((), ((s1.1.2.1 + (1 : Int)), ())), ((List.set s1.2.1 (Int.toNat s1.1.2.1) (List.getD (List.getD (List.getD s.1 (Int.toNat (List.getD sorts (Int.toNat s1.1.2.1) (0 : Int))) (((0 : Int), (([] : List Int), (([] : List Int), (([] : List Int), ([] : List (List Int)))))), (([] : List Int), ([] : List (List Int))))).2.2 (Int.toNat a) ([] : List Int)) (Int.toNat (List.getD s1.2.1 (Int.toNat s1.1.2.1) (0 : Int))) (0 : Int))), ())))))))))))))))) (((0 : Int) ≤ a) ∧ ((a < (((List.length (List.getD s.1 (Int.toNat (0 : Int)) (((0 : Int), (([] : List Int), (([] : List Int), (([] : List Int), ([] : List (List Int)))))), (([] : List Int), ([] : List (List Int))))).1.2.2.1) : Nat) : Int)) ∧ ((SizP s.1 sorts (List.getD (List.getD s.1 (Int.toNat (0 : Int)) (((0 : Int), (([] : List Int), (([] : List Int), (([] : List Int), ([] : List (List Int)))))), (([] : List Int), ([] : List (List Int))))).1.2.2.1 (Int.toNat a) (0 : Int))) ∧ ((TupP (sizesR s.1 sorts (List.getD (List.getD s.1 (Int.toNat (0 : Int)) (((0 : Int), (([] : List Int), (([] : List Int), (([] : List Int), ([] : List (List Int)))))), (([] : List Int), ([] : List (List Int))))).1.2.2.1 (Int.toNat a) (0 : Int))) s1.2.1) ∧ (K ((numR (sizesR s.1 sorts (List.getD (List.getD s.1 (Int.toNat (0 : Int)) (((0 : Int), (([] : List Int), (([] : List Int), (([] : List Int), ([] : List (List Int)))))), (([] : List Int), ([] : List (List Int))))).1.2.2.1 (Int.toNat a) (0 : Int))) s1.2.1), ()))))))))))) (((), ((0 : Int), ())), ((tupR (sizesR s.1 sorts (List.getD (List.getD s.1 (Int.toNat (0 : Int)) (((0 : Int), (([] : List Int), (([] : List Int), (([] : List Int), ([] : List (List Int)))))), (([] : List Int), ([] : List (List Int))))).1.2.1 (Int.toNat a) (0 : Int))) number), ())))))))))))
theorem w_impl_Structure_moveTuple (x : denL c_impl_Structure_moveTuple.args) (K : Int × Unit → Prop) : evF tab (lkp [(80, c_impl_Structure_sizesAt), (94, c_impl_TupleAt), (95, c_impl_TupleNumber)]) (cutL [(6, 19)]) Tryz.f82 (bodyOf Tryz.f82) (.s .n (.s .n (.s .n (.s (.s .n (.l [(10, (.ref 103400 [])), (39, (.d (.int .i64)))] [(103400, (.sl (.fz (.int .i64))))] [0, 1, 2, 9, 37, 38] .n)) .n)))) c_impl_Structure_moveTuple x K = W_impl_Structure_moveTuple x.1 x.2.1 x.2.2.1 x.2.2.2.1 K := by kernel_rfl
theorem k_impl_Structure_moveTuple : okC Tryz.f82.ntmps (cutL [(6, 19)]) (bodyOf Tryz.f82) = true := by kernel_rfl
theorem m_impl_Structure_moveTuple (s : StructureD) (sorts : List Int) (a : Int) (number : Int) (hok : allP (okL c_impl_Structure_moveTuple.args (s, sorts, a, number, ()))) (hpre : allP (c_impl_Structure_moveTuple.pre (s, sorts, a, number, ()))) : W_impl_Structure_moveTuple s sorts a number (fun r => r = c_impl_Structure_moveTuple.res (s, sorts, a, number, ())) := by
  simp only [c_impl_Structure_moveTuple, okL, T.oks, T.ok, ap, allP, true_and, and_true, implies_true] at hok hpre
  try dsimp only [T.den] at hok
  try dsimp only [T.den] at hpre
  unfold W_impl_Structure_moveTuple
  obtain ⟨H, M⟩ := hpre
  clear hok
  have S := H.shape
  have hlt := S.lt
  have hn0 := H.n0
  have hw := within_iff.1 M.wi
  have hml := M.len
  have a0 := M.a0
  have a1 := M.a1
  obtain ⟨f0, f1, t0, t1⟩ := S.frm a0 a1
  obtain ⟨z1, z2⟩ := H.siz M.len M.wi f0 f1
  obtain ⟨y1, y2⟩ := H.siz M.len M.wi t0 t1
  have hT := tup_ok z2 M.n0 M.n1
  have hM := move_tup H M
  have hlen : (tupR (sizesR s.1 sorts ((shpR s.1).2.1.getD a.toNat 0)) number).length = sorts.length := by rw [hT.len]; unfold sizesR; rw [List.length_map]
  have hmv : moveR s.1 sorts a number = numR (sizesR s.1 sorts ((shpR s.1).2.2.1.getD a.toNat 0)) (mvR s.1 sorts a (tupR (sizesR s.1 sorts ((shpR s.1).2.1.getD a.toNat 0)) number)) := rfl
  refine ⟨Int.le_refl _, by omega, a0, a1, z1, z2, M.n0, M.n1, ?_⟩
  have hT2 := hT.le
  rw [show (sizesR s.1 sorts ((shpR s.1).2.1.getD a.toNat 0)).length = sorts.length from by unfold sizesR; rw [List.length_map]] at hT2
  unfold mvR at hmv hM
  change loopW _ (((), ((0 : Int), ())), (tupR (sizesR s.1 sorts ((shpR s.1).2.1.getD a.toNat 0)) number, ()))
  generalize tupR (sizesR s.1 sorts ((shpR s.1).2.1.getD a.toNat 0)) number = t at *
  refine loop_ixa (fun i => tabN sorts.length fun y => if y < i then actR (s.1.getD (sorts.getD y.toNat 0).toNat ((0, ([], ([], ([], [])))), ([], []))) a (t.getD y.toNat 0) else t.getD y.toNat 0) (n := sorts.length) (by omega) ?_ ?_ ?_
  · rw [fill_0, ← hlen, tab_self]
  · intro i next i0 i1 hn _ _
    try dsimp only at hn ⊢
    obtain ⟨w0, w1⟩ := hw i i0 i1
    obtain ⟨g1, g2⟩ := H.sf w0 w1
    have ht := hT2 i i0 i1
    rw [siz_get i0 i1] at ht
    have hgla := g1.la
    have hat := g1.at_ (a := a) (e := t.getD i.toNat 0) a0 (by rw [g2]; exact a1) ht.1 (by rw [g2]; exact ht.2)
    have hgt : (tabN sorts.length fun y => if y < i then actR (s.1.getD (sorts.getD y.toNat 0).toNat ((0, ([], ([], ([], [])))), ([], []))) a (t.getD y.toNat 0) else t.getD y.toNat 0).getD i.toNat 0 = t.getD i.toNat 0 := by rw [tabN_get i0 i1, if_neg (Int.lt_irrefl _)]
    rw [← fill_s i0 i1] at hn
    refine cnd_d (fun _ => ⟨i0, i1, w0, w1, a0, by rw [hgla, g2]; exact a1, i0, by rw [tabN_len]; exact i1, by rw [hgt]; exact ht.1, by rw [hgt]; exact hat.1, i0, by rw [tabN_len]; exact i1, by rw [inK64]; (try dsimp only); omega, ?_⟩) (fun h => absurd i1 h)
    rw [hgt]
    exact hn
  · intro next _ _
    refine cnd_d (fun h => absurd h (Int.lt_irrefl _)) (fun _ => ⟨a0, by rw [show (((s.1.getD (Int.toNat 0) ((0, ([], ([], ([], [])))), ([], []))).1.2.2.1).length : Int) = ((shpR s.1).2.2.1.length : Int) from rfl]; omega, y1, ?_⟩)
    try dsimp only
    rw [fill_n]
    refine ⟨hM, ?_⟩
    simp only [c_impl_Structure_moveTuple]
    rw [hmv]
    rfl
theorem ct_impl_Structure_moveTuple : CtOk Tryz.prog 82 c_impl_Structure_moveTuple :=
  ct_by (Φ := lkp [(80, c_impl_Structure_sizesAt), (94, c_impl_TupleAt), (95, c_impl_TupleNumber)]) (good_cons ct_impl_Structure_sizesAt (good_cons ct_impl_TupleAt (good_cons ct_impl_TupleNumber good_nil))) tab_ok (by kernel_rfl) (fn := Tryz.f82) (c := bodyOf Tryz.f82) (by kernel_rfl) (by kernel_rfl) (by kernel_rfl) c_impl_Structure_moveTuple rfl (.s .n (.s .n (.s .n (.s (.s .n (.l [(10, (.ref 103400 [])), (39, (.d (.int .i64)))] [(103400, (.sl (.fz (.int .i64))))] [0, 1, 2, 9, 37, 38] .n)) .n)))) (cutL [(6, 19)]) (by kernel_rfl) (by kernel_rfl) k_impl_Structure_moveTuple (by decide) (fun x K => W_impl_Structure_moveTuple x.1 x.2.1 x.2.2.1 x.2.2.2.1 K) w_impl_Structure_moveTuple (fun x h1 h2 => m_impl_Structure_moveTuple x.1 x.2.1 x.2.2.1 x.2.2.2.1 h1 h2)
def hasR (l : List Int) (n : Int) : Bool := l.any fun x => x == n
def c_impl_has : Ct := ⟨[(.sl (.int .i64)), (.int .i64)], [false, false], fun x => [], [(false, (.fz .bool))], fun x => (hasR x.1 x.2.1, ()), false, none⟩
def W_impl_has (list : List Int) (n : Int) (K : Bool × Unit → Prop) : Prop := (loopW (S := ((Int × Unit) × Unit)) (fun s => (fun next => ((inK IntKind.i64 s.1.1) → (cnd (decide (s.1.1 < (((List.length list) : Nat) : Int))) (((0 : Int) ≤ s.1.1) ∧ ((s.1.1 < (((List.length list) : Nat) : Int)) ∧ (cnd ((List.getD list (Int.toNat s.1.1) (0 : Int)) == n) (K (Bool.true, ())) ((inK IntKind.i64 (s.1.1 + (1 : Int))) ∧ (next (((s.1.1 + (1 : Int)), ()), ())))))) (K (Bool.false, ())))))) (((0 : Int), ()), ()))
theorem w_impl_has (x : denL c_impl_has.args) (K : Bool × Unit → Prop) : evF tab (lkp []) (cutL []) Tryz.f81 (bodyOf Tryz.f81) (.s .n (.s (.s .n (.l [(9, (.d (.int .i64)))] [] [1, 7, 8] .n)) .n)) c_impl_has x K = W_impl_has x.1 x.2.1 K := by kernel_rfl
theorem k_impl_has : okC Tryz.f81.ntmps (cutL []) (bodyOf Tryz.f81) = true := by kernel_rfl
theorem m_impl_has (list : List Int) (n : Int) (hok : allP (okL c_impl_has.args (list, n, ()))) (hpre : allP (c_impl_has.pre (list, n, ()))) : W_impl_has list n (fun r => r = c_impl_has.res (list, n, ())) := by
  simp only [c_impl_has, okL, T.oks, T.ok, ap, allP, true_and, and_true, implies_true] at hok hpre
  try dsimp only [T.den] at hok
  try dsimp only [T.den] at hpre
  unfold W_impl_has
  refine loop_of (fun (s : ((Int × Unit) × Unit)) => 0 ≤ s.1.1 ∧ s.1.1 ≤ list.length ∧ hasR list n = hasR (list.drop s.1.1.toNat) n) (fun (s : ((Int × Unit) × Unit)) => (list.length - s.1.1).toNat) ?_ (by simp)
  rintro ⟨⟨i, _⟩, _⟩ next ⟨h0, h1, h2⟩ hn hin
  simp only at h0 h1 h2 hn ⊢
  refine cnd_d (fun hc => ?_) (fun hc => ?_)
  · rw [drop_c list 0 h0 hc] at h2
    simp only [hasR, List.any_cons] at h2
    grind [cnd, nb_eq, inK64, c_impl_has, hasR]
  · rw [drop_n list (by omega)] at h2
    grind [cnd, nb_eq, inK64, c_impl_has, hasR]
theorem ct_impl_has : CtOk Tryz.prog 81 c_impl_has :=
  ct_by (Φ := lkp []) good_nil tab_ok (by kernel_rfl) (fn := Tryz.f81) (c := bodyOf Tryz.f81) (by kernel_rfl) (by kernel_rfl) (by kernel_rfl) c_impl_has rfl (.s .n (.s (.s .n (.l [(9, (.d (.int .i64)))] [] [1, 7, 8] .n)) .n)) (cutL []) (by kernel_rfl) (by kernel_rfl) k_impl_has (by decide) (fun x K => W_impl_has x.1 x.2.1 K) w_impl_has (fun x h1 h2 => m_impl_has x.1 x.2.1 h1 h2)
def risesR (l : List Int) : Bool := allB l.length fun i => decide (1 ≤ i → l.getD (i - 1).toNat 0 < l.getD i.toNat 0)
theorem rises_iff {l : List Int} : risesR l = true ↔ ∀ i : Int, 1 ≤ i → i < l.length → l.getD (i - 1).toNat 0 < l.getD i.toNat 0 := by
  simp only [risesR, allB_iff, decide_eq_true_eq]
  constructor
  · intro h i h1 h2; exact h i (by omega) h2 h1
  · intro h i h0 h1 h2; exact h i h2 h1
def c_impl_rising : Ct := ⟨[(.sl (.int .i64))], [false], fun x => [], [(false, (.fz .bool))], fun x => (risesR x.1, ()), false, none⟩
def W_impl_rising (list : List Int) (K : Bool × Unit → Prop) : Prop := (loopW (S := ((Int × Unit) × Unit)) (fun s => (fun next => ((inK IntKind.i64 s.1.1) → (cnd (decide (s.1.1 < (((List.length list) : Nat) : Int))) ((inK IntKind.i64 (s.1.1 - (1 : Int))) ∧ (((0 : Int) ≤ (s.1.1 - (1 : Int))) ∧ (((s.1.1 - (1 : Int)) < (((List.length list) : Nat) : Int)) ∧ (((0 : Int) ≤ s.1.1) ∧ ((s.1.1 < (((List.length list) : Nat) : Int)) ∧ (cnd (decide ((List.getD list (Int.toNat s.1.1) (0 : Int)) ≤ (List.getD list (Int.toNat (s.1.1 - (1 : Int))) (0 : Int)))) (K (Bool.false, ())) ((inK IntKind.i64 (s.1.1 + (1 : Int))) ∧ (next (((s.1.1 + (1 : Int)), ()), ()))))))))) (K (Bool.true, ())))))) (((1 : Int), ()), ()))
theorem w_impl_rising (x : denL c_impl_rising.args) (K : Bool × Unit → Prop) : evF tab (lkp []) (cutL [(4, 10)]) Tryz.f78 (bodyOf Tryz.f78) (.s .n (.s (.s .n (.l [(3, (.d (.int .i64)))] [] [0] .n)) .n)) c_impl_rising x K = W_impl_rising x.1 K := by kernel_rfl
theorem k_impl_rising : okC Tryz.f78.ntmps (cutL [(4, 10)]) (bodyOf Tryz.f78) = true := by kernel_rfl
theorem m_impl_rising (list : List Int) (hok : allP (okL c_impl_rising.args (list, ()))) (hpre : allP (c_impl_rising.pre (list, ()))) : W_impl_rising list (fun r => r = c_impl_rising.res (list, ())) := by
  simp only [c_impl_rising, okL, T.oks, T.ok, ap, allP, true_and, and_true, implies_true] at hok hpre
  try dsimp only [T.den] at hok
  try dsimp only [T.den] at hpre
  unfold W_impl_rising
  have bad : ∀ i : Int, 1 ≤ i → i < list.length → list.getD i.toNat 0 ≤ list.getD (i - 1).toNat 0 → (false, ()) = c_impl_rising.res (list, ()) := fun i h1 h2 h3 => by
    simp only [c_impl_rising]
    cases h : risesR list with
    | false => rfl
    | true => have := rises_iff.1 h i h1 h2; omega
  refine loop_of (fun (s : ((Int × Unit) × Unit)) => 1 ≤ s.1.1 ∧ (s.1.1 ≤ list.length ∨ s.1.1 = 1) ∧ ∀ j : Int, 1 ≤ j → j < s.1.1 → list.getD (j - 1).toNat 0 < list.getD j.toNat 0) (fun (s : ((Int × Unit) × Unit)) => (list.length - s.1.1).toNat) ?_ ⟨by simp, by simp, fun j h1 h2 => by dsimp only at h2; omega⟩
  rintro ⟨⟨i, _⟩, _⟩ next ⟨h0, h1, h2⟩ hn hin
  try dsimp only at h0 h1 h2 hn ⊢
  have hin' : inK .i64 i := hin
  rw [inK64] at hin'
  have hl := hok.1
  rw [nb_eq] at hl
  refine cnd_d (fun hc => ⟨by rw [inK64]; (try dsimp only); omega, by omega, by omega, by omega, by omega, cnd_d (fun hx => bad i h0 hc hx) (fun hx => ⟨by rw [inK64]; (try dsimp only); omega, hn _ ⟨by dsimp only; omega, by dsimp only; omega, fun j j0 j1 => ?_⟩ (by dsimp only; omega)⟩)⟩) (fun hc => ?_)
  · by_cases e : j = i
    · rw [e]; omega
    · exact h2 j j0 (by dsimp only at j1; omega)
  · simp only [c_impl_rising]
    rw [rises_iff.2 fun j j0 j1 => h2 j j0 (by omega)]
theorem ct_impl_rising : CtOk Tryz.prog 78 c_impl_rising :=
  ct_by (Φ := lkp []) good_nil tab_ok (by kernel_rfl) (fn := Tryz.f78) (c := bodyOf Tryz.f78) (by kernel_rfl) (by kernel_rfl) (by kernel_rfl) c_impl_rising rfl (.s .n (.s (.s .n (.l [(3, (.d (.int .i64)))] [] [0] .n)) .n)) (cutL [(4, 10)]) (by kernel_rfl) (by kernel_rfl) k_impl_rising (by decide) (fun x K => W_impl_rising x.1 K) w_impl_rising (fun x h1 h2 => m_impl_rising x.1 h1 h2)
def relXR (S : List SetFunctorD) (r : dataD) (x : Int) : Bool := risesR (r.2.getD x.toNat []) && withinR (r.2.getD x.toNat []) (prodR (sizesR S r.1 x))
def relAR (S : List SetFunctorD) (r : dataD) (a : Int) : Bool := (r.2.getD ((shpR S).2.1.getD a.toNat 0).toNat []).all fun n => hasR (r.2.getD ((shpR S).2.2.1.getD a.toNat 0).toNat []) (moveR S r.1 a n)
def relR (S : List SetFunctorD) (r : dataD) : Bool := decide (r.1.length ≤ 2) && withinR r.1 S.length && decide ((r.2.length : Int) = (shpR S).1) && allB r.2.length (relXR S r) && allB (shpR S).2.1.length (relAR S r)
theorem not_fT {b : Bool} (h : (!b) = false) : b = true := by cases b <;> first | rfl | cases h
theorem not_tF {b : Bool} (h : (!b) = true) : b = false := by cases b <;> first | rfl | cases h
theorem and_f5 {a b c d e : Bool} : (a && b && c && d && e) = false ↔ a = false ∨ b = false ∨ c = false ∨ d = false ∨ e = false := by cases a <;> cases b <;> cases c <;> cases d <;> cases e <;> simp
def c_impl_Structure_isRelation : Ct := ⟨[(.pt StructureT), (.pt dataT)], [false, false], fun x => [SrtP x.1.1], [(false, (.fz .bool))], fun x => (relR x.1.1 x.2.1, ()), false, none⟩
def W_impl_Structure_isRelation (s : StructureD) (r : dataD) (K : Bool × Unit → Prop) : Prop := (((0 : Int) ≤ (0 : Int)) ∧ (((0 : Int) < (((List.length s.1) : Nat) : Int)) ∧ ((((decide ((2 : Int) < (((List.length r.1) : Nat) : Int))) = Bool.false) → (inK IntKind.i64 ((((List.length s.1) : Nat) : Int) - (1 : Int)))) ∧ (cnd (((decide ((2 : Int) < (((List.length r.1) : Nat) : Int))) || (!(withinR r.1 (((List.length s.1) : Nat) : Int)))) || ((((List.length r.2) : Nat) : Int) != (List.getD s.1 (Int.toNat (0 : Int)) (((0 : Int), (([] : List Int), (([] : List Int), (([] : List Int), ([] : List (List Int)))))), (([] : List Int), ([] : List (List Int))))).1.1)) (K (Bool.false, ())) (loopW (S := ((Int × Unit) × Unit)) (fun s1 => (fun next => ((inK IntKind.i64 s1.1.1) → (cnd (decide (s1.1.1 < (((List.length r.2) : Nat) : Int))) (((0 : Int) ≤ s1.1.1) ∧ ((s1.1.1 < (((List.length r.2) : Nat) : Int)) ∧ ((((!(risesR (List.getD r.2 (Int.toNat s1.1.1) ([] : List Int)))) = Bool.false) → (SizP s.1 r.1 s1.1.1)) ∧ ((((!(risesR (List.getD r.2 (Int.toNat s1.1.1) ([] : List Int)))) = Bool.false) → (SzP (sizesR s.1 r.1 s1.1.1))) ∧ ((((!(risesR (List.getD r.2 (Int.toNat s1.1.1) ([] : List Int)))) = Bool.false) → (inK IntKind.i64 ((prodR (sizesR s.1 r.1 s1.1.1)) - (1 : Int)))) ∧ (cnd ((!(risesR (List.getD r.2 (Int.toNat s1.1.1) ([] : List Int)))) || (!(withinR (List.getD r.2 (Int.toNat s1.1.1) ([] : List Int)) (prodR (sizesR s.1 r.1 s1.1.1))))) (K (Bool.false, ())) ((inK IntKind.i64 (s1.1.1 + (1 : Int))) ∧ (next (((s1.1.1 + (1 : Int)), ()), ()))))))))) (loopW (S := ((Int × Unit) × Unit)) (fun s2 => (fun next1 => ((inK IntKind.i64 s2.1.1) → (cnd (decide (s2.1.1 < (((List.length (List.getD s.1 (Int.toNat (0 : Int)) (((0 : Int), (([] : List Int), (([] : List Int), (([] : List Int), ([] : List (List Int)))))), (([] : List Int), ([] : List (List Int))))).1.2.1) : Nat) : Int))) (((0 : Int) ≤ s2.1.1) ∧ ((s2.1.1 < (((List.length (List.getD s.1 (Int.toNat (0 : Int)) (((0 : Int), (([] : List Int), (([] : List Int), (([] : List Int), ([] : List (List Int)))))), (([] : List Int), ([] : List (List Int))))).1.2.1) : Nat) : Int)) ∧ (((0 : Int) ≤ (List.getD (List.getD s.1 (Int.toNat (0 : Int)) (((0 : Int), (([] : List Int), (([] : List Int), (([] : List Int), ([] : List (List Int)))))), (([] : List Int), ([] : List (List Int))))).1.2.1 (Int.toNat s2.1.1) (0 : Int))) ∧ (((List.getD (List.getD s.1 (Int.toNat (0 : Int)) (((0 : Int), (([] : List Int), (([] : List Int), (([] : List Int), ([] : List (List Int)))))), (([] : List Int), ([] : List (List Int))))).1.2.1 (Int.toNat s2.1.1) (0 : Int)) < (((List.length r.2) : Nat) : Int)) ∧ (loopW (S := ((Int × Unit) × Unit)) (fun s3 => (fun next2 => ((inK IntKind.i64 s3.1.1) → (cnd (decide (s3.1.1 < (((List.length (List.getD r.2 (Int.toNat (List.getD (List.getD s.1 (Int.toNat (0 : Int)) (((0 : Int), (([] : List Int), (([] : List Int), (([] : List Int), ([] : List (List Int)))))), (([] : List Int), ([] : List (List Int))))).1.2.1 (Int.toNat s2.1.1) (0 : Int))) ([] : List Int))) : Nat) : Int))) (((0 : Int) ≤ s3.1.1) ∧ ((s3.1.1 < (((List.length (List.getD r.2 (Int.toNat (List.getD (List.getD s.1 (Int.toNat (0 : Int)) (((0 : Int), (([] : List Int), (([] : List Int), (([] : List Int), ([] : List (List Int)))))), (([] : List Int), ([] : List (List Int))))).1.2.1 (Int.toNat s2.1.1) (0 : Int))) ([] : List Int))) : Nat) : Int)) ∧ (((0 : Int) ≤ s2.1.1) ∧ ((s2.1.1 < (((List.length (List.getD s.1 (Int.toNat (0 : Int)) (((0 : Int), (([] : List Int), (([] : List Int), (([] : List Int), ([] : List (List Int)))))), (([] : List Int), ([] : List (List Int))))).1.2.2.1) : Nat) : Int)) ∧ (((0 : Int) ≤ (List.getD (List.getD s.1 (Int.toNat (0 : Int)) (((0 : Int), (([] : List Int), (([] : List Int), (([] : List Int), ([] : List (List Int)))))), (([] : List Int), ([] : List (List Int))))).1.2.2.1 (Int.toNat s2.1.1) (0 : Int))) ∧ (((List.getD (List.getD s.1 (Int.toNat (0 : Int)) (((0 : Int), (([] : List Int), (([] : List Int), (([] : List Int), ([] : List (List Int)))))), (([] : List Int), ([] : List (List Int))))).1.2.2.1 (Int.toNat s2.1.1) (0 : Int)) < (((List.length r.2) : Nat) : Int)) ∧ ((SrtP s.1) ∧ ((MovP s.1 r.1 s2.1.1 (List.getD (List.getD r.2 (Int.toNat (List.getD (List.getD s.1 (Int.toNat (0 : Int)) (((0 : Int), (([] : List Int), (([] : List Int), (([] : List Int), ([] : List (List Int)))))), (([] : List Int), ([] : List (List Int))))).1.2.1 (Int.toNat s2.1.1) (0 : Int))) ([] : List Int)) (Int.toNat s3.1.1) (0 : Int))) ∧ (cnd (!(hasR (List.getD r.2 (Int.toNat (List.getD (List.getD s.1 (Int.toNat (0 : Int)) (((0 : Int), (([] : List Int), (([] : List Int), (([] : List Int), ([] : List (List Int)))))), (([] : List Int), ([] : List (List Int))))).1.2.2.1 (Int.toNat s2.1.1) (0 : Int))) ([] : List Int)) (moveR s.1 r.1 s2.1.1 (List.getD (List.getD r.2 (Int.toNat (List.getD (List.getD s.1 (Int.toNat (0 : Int)) (((0 : Int), (([] : List Int), (([] : List Int), (([] : List Int), ([] : List (List Int)))))), (([] : List Int), ([] : List (List Int))))).1.2.1 (Int.toNat s2.1.1) (0 : Int))) ([] : List Int)) (Int.toNat s3.1.1) (0 : Int))))) (K (Bool.false, ())) ((inK IntKind.i64 (s3.1.1 + (1 : Int))) ∧ (next2 (((s3.1.1 + (1 : Int)), ()), ())))))))))))) ((inK IntKind.i64 (s2.1.1 + (1 : Int))) ∧ (next1 (((s2.1.1 + (1 : Int)), ()), ()))))))) (((0 : Int), ()), ())))))) (K (Bool.true, ())))))) (((0 : Int), ()), ())))))) (((0 : Int), ()), ()))))))
theorem w_impl_Structure_isRelation (x : denL c_impl_Structure_isRelation.args) (K : Bool × Unit → Prop) : evF tab (lkp [(82, c_impl_Structure_moveTuple), (80, c_impl_Structure_sizesAt), (81, c_impl_has), (78, c_impl_rising), (79, c_impl_tupleCount), (61, c_impl_within)]) (cutL [(16, 521), (2, 29), (13, 15)]) Tryz.f58 (bodyOf Tryz.f58) (.s .n (.s .n (.s .n (.s (.s .n (.l [(53, (.d (.int .i64)))] [] [0, 1, 5, 51, 52] .n)) (.s (.s .n (.l [(80, (.d (.int .i64)))] [] [0, 1, 5, 79] (.s .n (.s .n (.s (.s .n (.s .n (.l [(97, (.d (.int .i64)))] [] [0, 1, 5, 8, 79, 80, 95, 96] .n))) .n))))) .n))))) c_impl_Structure_isRelation x K = W_impl_Structure_isRelation x.1 x.2.1 K := by kernel_rfl
theorem k_impl_Structure_isRelation : okC Tryz.f58.ntmps (cutL [(16, 521), (2, 29), (13, 15)]) (bodyOf Tryz.f58) = true := by kernel_rfl
theorem m_impl_Structure_isRelation (s : StructureD) (r : dataD) (hok : allP (okL c_impl_Structure_isRelation.args (s, r, ()))) (hpre : allP (c_impl_Structure_isRelation.pre (s, r, ()))) : W_impl_Structure_isRelation s r (fun rs => rs = c_impl_Structure_isRelation.res (s, r, ())) := by
  simp only [c_impl_Structure_isRelation, okL, T.oks, T.ok, ap, allP, true_and, and_true, implies_true] at hok hpre
  try dsimp only [T.den] at hok
  try dsimp only [T.den] at hpre
  unfold W_impl_Structure_isRelation
  have H : SrtP s.1 := hpre
  have hr2 : r.2.length ≤ 140737488355328 := by simp only [nb_eq] at hok; omega
  have hr3 : ∀ l ∈ r.2, l.length ≤ 140737488355328 := by
    simp only [nb_eq] at hok
    have h := hok.2.2.2.2
    exact fun l hl => (h l hl).1
  clear hok hpre
  have C := H.shape
  have hm := C.m
  have hlt := C.lt
  have hob := C.ob
  have hn0 := H.n0
  have hn1 := H.n1
  have hv : relR s.1 r = (decide (r.1.length ≤ 2) && withinR r.1 s.1.length && decide ((r.2.length : Int) = (shpR s.1).1) && allB r.2.length (relXR s.1 r) && allB (shpR s.1).2.1.length (relAR s.1 r)) := rfl
  have res : ∀ b, relR s.1 r = b → (b, ()) = c_impl_Structure_isRelation.res (s, r, ()) := fun b h => by simp only [c_impl_Structure_isRelation, h]
  have hx0 : (s.1.getD (Int.toNat 0) ((0, ([], ([], ([], [])))), ([], []))).1 = shpR s.1 := rfl
  refine ⟨Int.le_refl _, by omega, fun _ => by rw [inK64]; (try dsimp only); omega, cnd_of (fun hc => res _ ?_) (fun hc => ?_)⟩
  · rw [hv, and_f5]
    simp only [Bool.or_eq_true, decide_eq_true_eq, Bool.not_eq_true', bne_iff_ne] at hc
    rcases hc with (hc | hc) | hc
    · left; exact decide_eq_false (by omega)
    · right; left; exact hc
    · right; right; left; exact decide_eq_false hc
  simp only [Bool.or_eq_false_iff, decide_eq_false_iff_not, Bool.not_eq_false', bne_eq_false_iff_eq] at hc
  obtain ⟨⟨h1, h2⟩, h3⟩ := hc
  have h1 : r.1.length ≤ 2 := by omega
  have h3 : (r.2.length : Int) = (shpR s.1).1 := h3
  rw [decide_eq_true h1, h2, decide_eq_true h3] at hv
  simp only [Bool.true_and] at hv
  
  refine loop_allB r.2.length (relXR s.1 r) ?_ ?_
  · intro y next y0 y1 hno hyes _
    try dsimp only
    obtain ⟨z1, z2⟩ := H.siz (x := y) h1 h2 y0 (by omega)
    have hp := prod_le z2
    refine cnd_d (fun _ => ⟨y0, y1, fun _ => z1, fun _ => z2, fun _ => by rw [inK64]; (try dsimp only); omega, cnd_of (fun hx => res _ ?_) (fun hx => ⟨by rw [inK64]; (try dsimp only); omega, hyes ?_⟩)⟩) (fun h => absurd y1 h)
    · rw [hv, hno ?_]
      · rfl
      · unfold relXR; revert hx; cases risesR (r.2.getD y.toNat []) <;> cases withinR (r.2.getD y.toNat []) (prodR (sizesR s.1 r.1 y)) <;> simp
    · unfold relXR; revert hx; cases risesR (r.2.getD y.toNat []) <;> cases withinR (r.2.getD y.toNat []) (prodR (sizesR s.1 r.1 y)) <;> simp
  intro next hX _
  rw [hX, Bool.true_and] at hv
  refine cnd_d (fun h => absurd h (Int.lt_irrefl _)) (fun _ => ?_)
  refine loop_allB (shpR s.1).2.1.length (relAR s.1 r) ?_ ?_
  · intro a next1 a0 a1 hno hyes _
    try dsimp only
    obtain ⟨f0, f1, t0, t1⟩ := C.frm a0 a1
    have hXf := allB_iff.1 hX _ f0 (by omega)
    unfold relXR at hXf
    rw [Bool.and_eq_true] at hXf
    have hW := within_iff.1 hXf.2
    have hml : (r.2.getD ((shpR s.1).2.1.getD a.toNat 0).toNat []).length ≤ 140737488355328 := hr3 _ (getD_mem _ [] f0 (by omega))
    have hA : relAR s.1 r a = (r.2.getD ((shpR s.1).2.1.getD a.toNat 0).toNat []).all fun n => hasR (r.2.getD ((shpR s.1).2.2.1.getD a.toNat 0).toNat []) (moveR s.1 r.1 a n) := rfl
    refine cnd_d (fun _ => ⟨a0, a1, f0, by rw [hx0]; omega, ?_⟩) (fun h => absurd a1 h)
    refine loop_all (r.2.getD ((shpR s.1).2.1.getD a.toNat 0).toNat []) 0 (fun n => hasR (r.2.getD ((shpR s.1).2.2.1.getD a.toNat 0).toNat []) (moveR s.1 r.1 a n)) ?_ ?_
    · intro k next2 k0 k1 hno2 hyes2 _
      try dsimp only
      have hw := hW k k0 k1
      refine cnd_d (fun _ => ⟨k0, k1, a0, by rw [hx0]; omega, t0, by rw [hx0]; omega, H, ⟨h1, h2, a0, a1, hw.1, hw.2⟩, cnd_of (fun hx => res _ ?_) (fun hx => ⟨by rw [inK64]; (try dsimp only); omega, hyes2 (not_fT hx)⟩)⟩) (fun h => absurd k1 h)
      rw [hv]
      refine hno ?_
      rw [hA]
      exact hno2 (not_tF hx)
    · intro next2 h2a _
      refine cnd_d (fun h => absurd h (Int.lt_irrefl _)) (fun _ => ⟨by rw [inK64]; (try dsimp only); omega, hyes ?_⟩)
      rw [hA]; exact h2a
  · intro next1 hAll _
    refine cnd_d (fun h => absurd h (Int.lt_irrefl _)) (fun _ => res _ ?_)
    rw [hv, hAll]
theorem ct_impl_Structure_isRelation : CtOk Tryz.prog 58 c_impl_Structure_isRelation :=
  ct_by (Φ := lkp [(82, c_impl_Structure_moveTuple), (80, c_impl_Structure_sizesAt), (81, c_impl_has), (78, c_impl_rising), (79, c_impl_tupleCount), (61, c_impl_within)]) (good_cons ct_impl_Structure_moveTuple (good_cons ct_impl_Structure_sizesAt (good_cons ct_impl_has (good_cons ct_impl_rising (good_cons ct_impl_tupleCount (good_cons ct_impl_within good_nil)))))) tab_ok (by kernel_rfl) (fn := Tryz.f58) (c := bodyOf Tryz.f58) (by kernel_rfl) (by kernel_rfl) (by kernel_rfl) c_impl_Structure_isRelation rfl (.s .n (.s .n (.s .n (.s (.s .n (.l [(53, (.d (.int .i64)))] [] [0, 1, 5, 51, 52] .n)) (.s (.s .n (.l [(80, (.d (.int .i64)))] [] [0, 1, 5, 79] (.s .n (.s .n (.s (.s .n (.s .n (.l [(97, (.d (.int .i64)))] [] [0, 1, 5, 8, 79, 80, 95, 96] .n))) .n))))) .n))))) (cutL [(16, 521), (2, 29), (13, 15)]) (by kernel_rfl) (by kernel_rfl) k_impl_Structure_isRelation (by decide) (fun x K => W_impl_Structure_isRelation x.1 x.2.1 K) w_impl_Structure_isRelation (fun x h1 h2 => m_impl_Structure_isRelation x.1 x.2.1 h1 h2)
def c_impl_sameCategory : Ct := ⟨[(.pt CategoryT), (.pt CategoryT)], [false, false], fun x => [], [(false, (.fz .bool))], fun x => (eqR CategoryT x.1 x.2.1, ()), false, none⟩
def W_impl_sameCategory (c : CategoryD) (d : CategoryD) (K : Bool × Unit → Prop) : Prop := (cnd (((((c.1 != d.1) || (!(eqR (T.sl (T.int IntKind.i64)) c.2.1 d.2.1))) || (!(eqR (T.sl (T.int IntKind.i64)) c.2.2.1 d.2.2.1))) || (!(eqR (T.sl (T.int IntKind.i64)) c.2.2.2.1 d.2.2.2.1))) || ((((List.length c.2.2.2.2) : Nat) : Int) != (((List.length d.2.2.2.2) : Nat) : Int))) (K (Bool.false, ())) (loopW (S := ((Int × Unit) × Unit)) (fun s => (fun next => ((inK IntKind.i64 s.1.1) → (cnd (decide (s.1.1 < (((List.length c.2.2.2.2) : Nat) : Int))) (((0 : Int) ≤ s.1.1) ∧ ((s.1.1 < (((List.length c.2.2.2.2) : Nat) : Int)) ∧ (((0 : Int) ≤ s.1.1) ∧ ((s.1.1 < (((List.length d.2.2.2.2) : Nat) : Int)) ∧ (cnd (!(eqR (T.sl (T.int IntKind.i64)) (List.getD c.2.2.2.2 (Int.toNat s.1.1) ([] : List Int)) (List.getD d.2.2.2.2 (Int.toNat s.1.1) ([] : List Int)))) (K (Bool.false, ())) ((inK IntKind.i64 (s.1.1 + (1 : Int))) ∧ (next (((s.1.1 + (1 : Int)), ()), ())))))))) (K (Bool.true, ())))))) (((0 : Int), ()), ())))
theorem w_impl_sameCategory (x : denL c_impl_sameCategory.args) (K : Bool × Unit → Prop) : evF tab (lkp [(63, c_impl_same)]) (cutL [(1, 58), (6, 16)]) Tryz.f57 (bodyOf Tryz.f57) (.s .n (.s .n (.s (.s .n (.l [(69, (.d (.int .i64)))] [] [0, 1, 68] .n)) .n))) c_impl_sameCategory x K = W_impl_sameCategory x.1 x.2.1 K := by kernel_rfl
theorem k_impl_sameCategory : okC Tryz.f57.ntmps (cutL [(1, 58), (6, 16)]) (bodyOf Tryz.f57) = true := by kernel_rfl
theorem m_impl_sameCategory (c : CategoryD) (d : CategoryD) (hok : allP (okL c_impl_sameCategory.args (c, d, ()))) (hpre : allP (c_impl_sameCategory.pre (c, d, ()))) : W_impl_sameCategory c d (fun r => r = c_impl_sameCategory.res (c, d, ())) := by
  simp only [c_impl_sameCategory, okL, T.oks, T.ok, ap, allP, true_and, and_true, implies_true] at hok hpre
  try dsimp only [T.den] at hok
  try dsimp only [T.den] at hpre
  unfold W_impl_sameCategory
  have res : ∀ b, eqR CategoryT c d = b → (b, ()) = c_impl_sameCategory.res (c, d, ()) := fun b h => by simp only [c_impl_sameCategory, h]
  have hl : c.2.2.2.2.length ≤ 140737488355328 := by simp only [nb_eq] at hok; omega
  refine cnd_of (fun hx => res _ ?_) (fun hx => ?_)
  · rw [eqR_f]; rintro rfl; simp [eqR_self] at hx
  simp only [Bool.or_eq_false_iff, Bool.not_eq_false', bne_eq_false_iff_eq, eqR_iff] at hx
  obtain ⟨⟨⟨⟨h1, h2⟩, h3⟩, h4⟩, h5⟩ := hx
  refine loop_ix (n := c.2.2.2.2.length) (fun i => c.2.2.2.2.take i.toNat = d.2.2.2.2.take i.toNat) (by omega) (by simp) ?_ ?_
  · intro i next i0 i1 hP hn hin
    try dsimp only
    have hta := take_c c.2.2.2.2 [] i0 i1
    have htb := take_c d.2.2.2.2 [] i0 (by omega)
    refine cnd_d (fun _ => ⟨i0, by omega, i0, by omega, cnd_of (fun h => res _ ?_) (fun h => ⟨by rw [inK64]; (try dsimp only); omega, hn ?_⟩)⟩) (fun h => absurd i1 h)
    · rw [eqR_f]; rintro rfl; simp [eqR_self] at h
    · simp only [Bool.not_eq_false', eqR_iff] at h
      rw [hta, htb, hP, h]
  · intro next hP hin
    rw [take_n _ (Int.le_refl _), take_n _ (by omega)] at hP
    refine cnd_d (fun h => absurd h (Int.lt_irrefl _)) (fun _ => res _ ?_)
    rw [eqR_iff]
    exact Prod.ext h1 (Prod.ext h2 (Prod.ext h3 (Prod.ext h4 hP)))
theorem ct_impl_sameCategory : CtOk Tryz.prog 57 c_impl_sameCategory :=
  ct_by (Φ := lkp [(63, c_impl_same)]) (good_cons ct_impl_same good_nil) tab_ok (by kernel_rfl) (fn := Tryz.f57) (c := bodyOf Tryz.f57) (by kernel_rfl) (by kernel_rfl) (by kernel_rfl) c_impl_sameCategory rfl (.s .n (.s .n (.s (.s .n (.l [(69, (.d (.int .i64)))] [] [0, 1, 68] .n)) .n))) (cutL [(1, 58), (6, 16)]) (by kernel_rfl) (by kernel_rfl) k_impl_sameCategory (by decide) (fun x K => W_impl_sameCategory x.1 x.2.1 K) w_impl_sameCategory (fun x h1 h2 => m_impl_sameCategory x.1 x.2.1 h1 h2)
def srtR (S : List SetFunctorD) (f : SetFunctorD) : Bool := setfR f && eqR CategoryT f.1 (S.getD 0 ((0, ([], ([], ([], [])))), ([], []))).1
def strR (s : StructureD) : Bool := inR s.1.length 1 3 && decide (s.2.length ≤ 4) && s.1.all (srtR s.1) && s.2.all (relR s.1)
def c_impl_Structure_isStructure : Ct := ⟨[(.pt StructureT)], [false], fun x => [], [(false, (.fz .bool))], fun x => (strR x.1, ()), false, none⟩
def W_impl_Structure_isStructure (s : StructureD) (K : Bool × Unit → Prop) : Prop := (cnd ((!(inR (((List.length s.1) : Nat) : Int) (1 : Int) (3 : Int))) || (decide ((4 : Int) < (((List.length s.2) : Nat) : Int)))) (K (Bool.false, ())) (loopW (S := ((Int × Unit) × Unit)) (fun s1 => (fun next => ((inK IntKind.i64 s1.1.1) → (cnd (decide (s1.1.1 < (((List.length s.1) : Nat) : Int))) (((0 : Int) ≤ s1.1.1) ∧ ((s1.1.1 < (((List.length s.1) : Nat) : Int)) ∧ ((((!(setfR (List.getD s.1 (Int.toNat s1.1.1) (((0 : Int), (([] : List Int), (([] : List Int), (([] : List Int), ([] : List (List Int)))))), (([] : List Int), ([] : List (List Int))))))) = Bool.false) → ((s1.1.1 < (((List.length s.1) : Nat) : Int)) ∧ ((0 : Int) ≤ s1.1.1))) ∧ ((((!(setfR (List.getD s.1 (Int.toNat s1.1.1) (((0 : Int), (([] : List Int), (([] : List Int), (([] : List Int), ([] : List (List Int)))))), (([] : List Int), ([] : List (List Int))))))) = Bool.false) → (((0 : Int) < (((List.length s.1) : Nat) : Int)) ∧ ((0 : Int) ≤ (0 : Int)))) ∧ (cnd ((!(setfR (List.getD s.1 (Int.toNat s1.1.1) (((0 : Int), (([] : List Int), (([] : List Int), (([] : List Int), ([] : List (List Int)))))), (([] : List Int), ([] : List (List Int))))))) || (!(eqR CategoryT (List.getD s.1 (Int.toNat s1.1.1) (((0 : Int), (([] : List Int), (([] : List Int), (([] : List Int), ([] : List (List Int)))))), (([] : List Int), ([] : List (List Int))))).1 (List.getD s.1 (Int.toNat (0 : Int)) (((0 : Int), (([] : List Int), (([] : List Int), (([] : List Int), ([] : List (List Int)))))), (([] : List Int), ([] : List (List Int))))).1))) (K (Bool.false, ())) ((inK IntKind.i64 (s1.1.1 + (1 : Int))) ∧ (next (((s1.1.1 + (1 : Int)), ()), ())))))))) (loopW (S := ((Int × Unit) × Unit)) (fun s2 => (fun next1 => ((inK IntKind.i64 s2.1.1) → (cnd (decide (s2.1.1 < (((List.length s.2) : Nat) : Int))) (((0 : Int) ≤ s2.1.1) ∧ ((s2.1.1 < (((List.length s.2) : Nat) : Int)) ∧ ((SrtP s.1) ∧ (cnd (!(relR s.1 (List.getD s.2 (Int.toNat s2.1.1) (([] : List Int), ([] : List (List Int)))))) (K (Bool.false, ())) ((inK IntKind.i64 (s2.1.1 + (1 : Int))) ∧ (next1 (((s2.1.1 + (1 : Int)), ()), ()))))))) (K (Bool.true, ())))))) (((0 : Int), ()), ())))))) (((0 : Int), ()), ())))
theorem w_impl_Structure_isStructure (x : denL c_impl_Structure_isStructure.args) (K : Bool × Unit → Prop) : evF tab (lkp [(56, c_impl_SetFunctor_isSetFunctor), (58, c_impl_Structure_isRelation), (55, c_impl_inRange), (57, c_impl_sameCategory)]) (cutL [(6, 22)]) Tryz.f35 (bodyOf Tryz.f35) (.s .n (.s .n (.s (.s .n (.l [(25, (.d (.int .i64)))] [] [0, 24] .n)) (.s (.s .n (.l [(59, (.d (.int .i64)))] [] [0, 58] .n)) .n)))) c_impl_Structure_isStructure x K = W_impl_Structure_isStructure x.1 K := by kernel_rfl
theorem k_impl_Structure_isStructure : okC Tryz.f35.ntmps (cutL [(6, 22)]) (bodyOf Tryz.f35) = true := by kernel_rfl
theorem m_impl_Structure_isStructure (s : StructureD) (hok : allP (okL c_impl_Structure_isStructure.args (s, ()))) (hpre : allP (c_impl_Structure_isStructure.pre (s, ()))) : W_impl_Structure_isStructure s (fun r => r = c_impl_Structure_isStructure.res (s, ())) := by
  simp only [c_impl_Structure_isStructure, okL, T.oks, T.ok, ap, allP, true_and, and_true, implies_true] at hok hpre
  try dsimp only [T.den] at hok
  try dsimp only [T.den] at hpre
  unfold W_impl_Structure_isStructure
  have hl1 : s.1.length ≤ 140737488355328 := by simp only [nb_eq] at hok; omega
  have hl2 : s.2.length ≤ 140737488355328 := by simp only [nb_eq] at hok; omega
  clear hok
  have hv : strR s = (inR s.1.length 1 3 && decide (s.2.length ≤ 4) && s.1.all (srtR s.1) && s.2.all (relR s.1)) := rfl
  have res : ∀ b, strR s = b → (b, ()) = c_impl_Structure_isStructure.res (s, ()) := fun b h => by simp only [c_impl_Structure_isStructure, h]
  refine cnd_of (fun hc => res _ ?_) (fun hc => ?_)
  · rw [hv]
    simp only [Bool.or_eq_true, decide_eq_true_eq, Bool.not_eq_true'] at hc
    rcases hc with hc | hc
    · rw [hc]; rfl
    · rw [decide_eq_false (by omega), Bool.and_false]; rfl
  simp only [Bool.or_eq_false_iff, decide_eq_false_iff_not, Bool.not_eq_false'] at hc
  obtain ⟨h1, h2⟩ := hc
  rw [h1, decide_eq_true (by omega)] at hv
  simp only [Bool.true_and] at hv
  have h3 := inR_iff.1 h1
  refine loop_all s.1 ((0, ([], ([], ([], [])))), ([], [])) (srtR s.1) ?_ ?_
  · intro i next i0 i1 hno hyes _
    try dsimp only
    have hsr : srtR s.1 (s.1.getD i.toNat ((0, ([], ([], ([], [])))), ([], []))) = (setfR (s.1.getD i.toNat ((0, ([], ([], ([], [])))), ([], []))) && eqR CategoryT (s.1.getD i.toNat ((0, ([], ([], ([], [])))), ([], []))).1 (s.1.getD (Int.toNat 0) ((0, ([], ([], ([], [])))), ([], []))).1) := rfl
    refine cnd_d (fun _ => ⟨i0, i1, fun _ => ⟨i1, i0⟩, fun _ => ⟨by omega, Int.le_refl _⟩, cnd_of (fun hx => res _ ?_) (fun hx => ⟨by rw [inK64]; (try dsimp only); omega, hyes ?_⟩)⟩) (fun h => absurd i1 h)
    · rw [hv, hno ?_]
      · rfl
      · rw [hsr]; revert hx; cases setfR (s.1.getD i.toNat ((0, ([], ([], ([], [])))), ([], []))) <;> cases eqR CategoryT (s.1.getD i.toNat ((0, ([], ([], ([], [])))), ([], []))).1 (s.1.getD (Int.toNat 0) ((0, ([], ([], ([], [])))), ([], []))).1 <;> simp
    · rw [hsr]; revert hx; cases setfR (s.1.getD i.toNat ((0, ([], ([], ([], [])))), ([], []))) <;> cases eqR CategoryT (s.1.getD i.toNat ((0, ([], ([], ([], [])))), ([], []))).1 (s.1.getD (Int.toNat 0) ((0, ([], ([], ([], [])))), ([], []))).1 <;> simp
  intro next hS _
  rw [hS, Bool.true_and] at hv
  have H : SrtP s.1 := by
    refine ⟨by omega, by omega, fun k k0 k1 => ?_⟩
    have := List.all_eq_true.1 hS _ (getD_mem s.1 ((0, ([], ([], ([], [])))), ([], [])) k0 k1)
    unfold srtR at this
    rw [Bool.and_eq_true, eqR_iff] at this
    exact this
  refine cnd_d (fun h => absurd h (Int.lt_irrefl _)) (fun _ => ?_)
  refine loop_all s.2 ([], []) (relR s.1) ?_ ?_
  · intro i next i0 i1 hno hyes _
    try dsimp only
    refine cnd_d (fun _ => ⟨i0, i1, H, cnd_of (fun hx => res _ ?_) (fun hx => ⟨by rw [inK64]; (try dsimp only); omega, hyes (by simpa using hx)⟩)⟩) (fun h => absurd i1 h)
    rw [hv]; exact hno (by simpa using hx)
  · intro next h _
    exact cnd_d (fun h => absurd h (Int.lt_irrefl _)) (fun _ => res _ (by rw [hv, h]))
theorem ct_impl_Structure_isStructure : CtOk Tryz.prog 35 c_impl_Structure_isStructure :=
  ct_by (Φ := lkp [(56, c_impl_SetFunctor_isSetFunctor), (58, c_impl_Structure_isRelation), (55, c_impl_inRange), (57, c_impl_sameCategory)]) (good_cons ct_impl_SetFunctor_isSetFunctor (good_cons ct_impl_Structure_isRelation (good_cons ct_impl_inRange (good_cons ct_impl_sameCategory good_nil)))) tab_ok (by kernel_rfl) (fn := Tryz.f35) (c := bodyOf Tryz.f35) (by kernel_rfl) (by kernel_rfl) (by kernel_rfl) c_impl_Structure_isStructure rfl (.s .n (.s .n (.s (.s .n (.l [(25, (.d (.int .i64)))] [] [0, 24] .n)) (.s (.s .n (.l [(59, (.d (.int .i64)))] [] [0, 58] .n)) .n)))) (cutL [(6, 22)]) (by kernel_rfl) (by kernel_rfl) k_impl_Structure_isStructure (by decide) (fun x K => W_impl_Structure_isStructure x.1 K) w_impl_Structure_isStructure (fun x h1 h2 => m_impl_Structure_isStructure x.1 h1 h2)
structure TypP (s : StructureD) (c : List Int) (l : List ruleD) : Prop where
  str : s.1.length ≤ 3
  rel : s.2.length ≤ 4
  cl : c.length ≤ 4
  ll : l.length ≤ 40
  ok : l.all okNodeR = true
def typN (s : StructureD) (c : List Int) (a : ruleD) : Bool := withinR a.2.2 c.length && (if a.1 = 2 then decide (a.2.1 < s.2.length) && eqR (.sl (.int .i64)) (thenR a.2.2 c) (s.2.getD a.2.1.toNat ([], [])).1 else if a.1 = 3 then decide ((thenR a.2.2 c).getD 0 0 = (thenR a.2.2 c).getD 1 0) else if a.1 = 7 ∨ a.1 = 8 then decide (a.2.1 < s.1.length) && decide (c.length ≠ 4) else true)
def ctx2 (c : List Int) (a : ruleD) : List Int := if a.1 = 7 ∨ a.1 = 8 then c ++ [a.2.1] else c
def typBR (s : StructureD) (c : List Int) (l : List ruleD) (i : Nat) : Bool :=
  if h : i < l.length then
    typN s c (l.getD i (0, (0, []))) &&
      (if ptsR (l.getD i (0, (0, []))) = 0 then true
      else typBR s (ctx2 c (l.getD i (0, (0, [])))) l (i + 1) &&
        (if ptsR (l.getD i (0, (0, []))) = 1 then true
        else if h2 : i < (fendR (l.drop (i + 1)) 1 ((i : Int) + 1)).toNat then typBR s c l (fendR (l.drop (i + 1)) 1 ((i : Int) + 1)).toNat else false))
  else false
termination_by l.length - i
def typR (s : StructureD) (c : List Int) (l : List ruleD) (i : Int) : Int := if typBR s c l i.toNat = true then fendR (l.drop i.toNat) 1 i else -1
theorem fend_at {l : List ruleD} {i : Int} (h0 : 0 ≤ i) (h1 : i < l.length) : fendR (l.drop i.toNat) 1 i = fendR (l.drop (i + 1).toNat) (ptsR (l.getD i.toNat (0, (0, [])))) (i + 1) := by
  rw [drop_c l (0, (0, [])) h0 h1, fendR, if_neg (by omega), show (1 : Int) - 1 + ptsR (l.getD i.toNat (0, (0, []))) = ptsR (l.getD i.toNat (0, (0, []))) from by omega]
theorem fend_lt {l : List ruleD} {i : Int} (h0 : 0 ≤ i) (he : fendR (l.drop i.toNat) 1 i ≠ -1) : i < l.length := by
  rcases Int.lt_or_le i l.length with h | h
  · exact h
  · rw [drop_n l h] at he; exact absurd (by unfold fendR; rw [if_neg (by omega)]) he
theorem fend_two {l : List ruleD} {i : Int} (h0 : 0 ≤ i) (he : fendR (l.drop i.toNat) 2 i ≠ -1) : fendR (l.drop i.toNat) 1 i ≠ -1 ∧ i ≤ fendR (l.drop i.toNat) 1 i ∧ fendR (l.drop (fendR (l.drop i.toNat) 1 i).toNat) 1 (fendR (l.drop i.toNat) 1 i) = fendR (l.drop i.toNat) 2 i := by
  have h := fend_split (l.drop i.toNat) 1 1 i (by omega) (by omega) h0
  have hg := fend_ge (l.drop i.toNat) 1 i
  rw [show (1 : Int) + 1 = 2 from rfl] at h
  by_cases e : fendR (l.drop i.toNat) 1 i = -1
  · rw [if_pos e] at h; exact absurd h he
  · rw [if_neg e, List.drop_drop, show i.toNat + (fendR (l.drop i.toNat) 1 i - i).toNat = (fendR (l.drop i.toNat) 1 i).toNat from by omega] at h
    exact ⟨e, by omega, h.symm⟩
theorem typ_at {s : StructureD} {c : List Int} {l : List ruleD} {i : Int} (h0 : 0 ≤ i) (h1 : i < l.length) : typBR s c l i.toNat = (typN s c (l.getD i.toNat (0, (0, []))) &&
    (if ptsR (l.getD i.toNat (0, (0, []))) = 0 then true else typBR s (ctx2 c (l.getD i.toNat (0, (0, [])))) l (i + 1).toNat && (if ptsR (l.getD i.toNat (0, (0, []))) = 1 then true else if i < fendR (l.drop (i + 1).toNat) 1 (i + 1) then typBR s c l (fendR (l.drop (i + 1).toNat) 1 (i + 1)).toNat else false))) := by
  rw [typBR, dif_pos (by omega), show i.toNat + 1 = (i + 1).toNat from by omega, show ((i.toNat : Nat) : Int) + 1 = i + 1 from by omega]
  by_cases h : i < fendR (l.drop (i + 1).toNat) 1 (i + 1)
  · rw [if_pos h, dif_pos (by omega)]
  · rw [if_neg h, dif_neg (by omega)]
theorem typR_at {s : StructureD} {c : List Int} {l : List ruleD} {j : Int} (h0 : 0 ≤ j) (he : fendR (l.drop j.toNat) 1 j ≠ -1) :
    (¬ typR s c l j < 0 → typBR s c l j.toNat = true ∧ typR s c l j = fendR (l.drop j.toNat) 1 j ∧ j ≤ fendR (l.drop j.toNat) 1 j) ∧ (typR s c l j < 0 → typBR s c l j.toNat = false) := by
  have hg := fend_ge (l.drop j.toNat) 1 j
  unfold typR
  cases h : typBR s c l j.toNat with
  | true => rw [if_pos rfl]; exact ⟨fun _ => ⟨rfl, rfl, by omega⟩, fun h => by omega⟩
  | false => rw [if_neg (by simp)]; exact ⟨fun h => by omega, fun _ => rfl⟩
theorem typ_ctx {s : StructureD} {c : List Int} {l : List ruleD} {x : ruleD} (T : TypP s c l) (h : typN s c x = true) : TypP s (ctx2 c x) l := by
  refine ⟨T.str, T.rel, ?_, T.ll, T.ok⟩
  have := T.cl
  unfold ctx2
  split
  · rename_i h7
    unfold typN at h
    rw [if_neg (by omega), if_neg (by omega), if_pos h7] at h
    simp only [Bool.and_eq_true, decide_eq_true_eq] at h
    rw [List.length_append]
    have := h.2.2
    simp only [List.length_cons, List.length_nil]
    omega
  · exact this
def c_impl_Structure_typed : Ct := ⟨[(.pt StructureT), (.sl (.int .i64)), (.sl ruleT), (.int .i64)], [false, false, false, false], fun x => [TypP x.1 x.2.1 x.2.2.1, 0 ≤ x.2.2.2.1, fendR (x.2.2.1.drop x.2.2.2.1.toNat) 1 x.2.2.2.1 ≠ -1], [(false, (.fz (.int .i64)))], fun x => (typR x.1 x.2.1 x.2.2.1 x.2.2.2.1, ()), false, none⟩
def q_impl_Structure_typed (n : Nat) : Ct := ⟨[(.pt StructureT), (.sl (.int .i64)), (.sl ruleT), (.int .i64)], [false, false, false, false], fun x => [x.2.2.1.length - x.2.2.2.1.toNat < n, TypP x.1 x.2.1 x.2.2.1, 0 ≤ x.2.2.2.1, fendR (x.2.2.1.drop x.2.2.2.1.toNat) 1 x.2.2.2.1 ≠ -1], [(false, (.fz (.int .i64)))], fun x => (typR x.1 x.2.1 x.2.2.1 x.2.2.2.1, ()), false, none⟩
def W_impl_Structure_typed (n : Nat) (s : StructureD) (context : List Int) (list : List ruleD) (i : Int) (K : Int × Unit → Prop) : Prop := (((0 : Int) ≤ i) ∧ ((i < (((List.length list) : Nat) : Int)) ∧ ((inK IntKind.i64 (i + (1 : Int))) ∧ (joinW (S := (((List Int) × Unit) × Unit)) (fun s1 => ((T.ok (T.sl (T.int IntKind.i64)) s1.1.1) → (loopW (S := ((Int × (Int × Unit)) × Unit)) (fun s2 => (fun next => ((inK IntKind.i64 s2.1.1) → ((inK IntKind.i64 s2.1.2.1) → (cnd (decide ((0 : Int) < s2.1.2.1)) ((((List.length list) - (Int.toNat s2.1.1)) < n) ∧ ((TypP s s1.1.1 list) ∧ (((0 : Int) ≤ s2.1.1) ∧ (((fendR (List.drop (Int.toNat s2.1.1) list) (1 : Int) s2.1.1) ≠ (-(1 : Int))) ∧ (cnd (decide ((typR s s1.1.1 list s2.1.1) < (0 : Int))) (K ((-(1 : Int)), ())) ((inK IntKind.i64 (s2.1.2.1 - (1 : Int))) ∧ (next (((typR s s1.1.1 list s2.1.1), ((s2.1.2.1 - (1 : Int)), ())), ())))))))) (K (s2.1.1, ()))))))) (((i + (1 : Int)), ((ptsR (List.getD list (Int.toNat i) ((0 : Int), ((0 : Int), ([] : List Int))))), ())), ())))) (fun k => (cnd ((List.getD list (Int.toNat i) ((0 : Int), ((0 : Int), ([] : List Int)))).1 == (2 : Int)) (((List.length (List.getD list (Int.toNat i) ((0 : Int), ((0 : Int), ([] : List Int)))).2.2) ≤ 1099511627776) ∧ (((List.length context) ≤ 1099511627776) ∧ (((((!(withinR (List.getD list (Int.toNat i) ((0 : Int), ((0 : Int), ([] : List Int)))).2.2 (((List.length context) : Nat) : Int))) || (decide ((((List.length s.2) : Nat) : Int) ≤ (List.getD list (Int.toNat i) ((0 : Int), ((0 : Int), ([] : List Int)))).2.1))) = Bool.false) → (((List.getD list (Int.toNat i) ((0 : Int), ((0 : Int), ([] : List Int)))).2.1 < (((List.length s.2) : Nat) : Int)) ∧ ((0 : Int) ≤ (List.getD list (Int.toNat i) ((0 : Int), ((0 : Int), ([] : List Int)))).2.1))) ∧ (cnd (((!(withinR (List.getD list (Int.toNat i) ((0 : Int), ((0 : Int), ([] : List Int)))).2.2 (((List.length context) : Nat) : Int))) || (decide ((((List.length s.2) : Nat) : Int) ≤ (List.getD list (Int.toNat i) ((0 : Int), ((0 : Int), ([] : List Int)))).2.1))) || (!(eqR (T.sl (T.int IntKind.i64)) (sortsR context (List.getD list (Int.toNat i) ((0 : Int), ((0 : Int), ([] : List Int)))).2.2) (List.getD s.2 (Int.toNat (List.getD list (Int.toNat i) ((0 : Int), ((0 : Int), ([] : List Int)))).2.1) (([] : List Int), ([] : List (List Int)))).1))) (K ((-(1 : Int)), ())) (k ((context, ()), ())))))) (joinW (S := (((List Int) × Unit) × Unit)) (fun s1 => ((T.ok (T.sl (T.int IntKind.i64)) s1.1.1) → (k ((s1.1.1, ()), ())))) (fun k1 => (cnd ((List.getD list (Int.toNat i) ((0 : Int), ((0 : Int), ([] : List Int)))).1 == (3 : Int)) (((List.length (List.getD list (Int.toNat i) ((0 : Int), ((0 : Int), ([] : List Int)))).2.2) ≤ 1099511627776) ∧ (((List.length context) ≤ 1099511627776) ∧ ((((!(withinR (List.getD list (Int.toNat i) ((0 : Int), ((0 : Int), ([] : List Int)))).2.2 (((List.length context) : Nat) : Int))) = Bool.false) → (((0 : Int) < (((List.length (sortsR context (List.getD list (Int.toNat i) ((0 : Int), ((0 : Int), ([] : List Int)))).2.2)) : Nat) : Int)) ∧ ((0 : Int) ≤ (0 : Int)))) ∧ ((((!(withinR (List.getD list (Int.toNat i) ((0 : Int), ((0 : Int), ([] : List Int)))).2.2 (((List.length context) : Nat) : Int))) = Bool.false) → (((1 : Int) < (((List.length (sortsR context (List.getD list (Int.toNat i) ((0 : Int), ((0 : Int), ([] : List Int)))).2.2)) : Nat) : Int)) ∧ ((0 : Int) ≤ (1 : Int)))) ∧ (cnd ((!(withinR (List.getD list (Int.toNat i) ((0 : Int), ((0 : Int), ([] : List Int)))).2.2 (((List.length context) : Nat) : Int))) || ((List.getD (sortsR context (List.getD list (Int.toNat i) ((0 : Int), ((0 : Int), ([] : List Int)))).2.2) (Int.toNat (0 : Int)) (0 : Int)) != (List.getD (sortsR context (List.getD list (Int.toNat i) ((0 : Int), ((0 : Int), ([] : List Int)))).2.2) (Int.toNat (1 : Int)) (0 : Int)))) (K ((-(1 : Int)), ())) (k1 ((context, ()), ()))))))) (joinW (S := ((Bool × Unit) × Unit)) (fun s1 => (joinW (S := (((List Int) × Unit) × Unit)) (fun s2 => ((T.ok (T.sl (T.int IntKind.i64)) s2.1.1) → (k1 ((s2.1.1, ()), ())))) (fun k2 => (cnd s1.1.1 (cnd ((decide ((((List.length s.1) : Nat) : Int) ≤ (List.getD list (Int.toNat i) ((0 : Int), ((0 : Int), ([] : List Int)))).2.1)) || ((((List.length context) : Nat) : Int) == (4 : Int))) (K ((-(1 : Int)), ())) (((List.length context) ≤ 1099511627776) ∧ (k2 (((context ++ ((List.getD list (Int.toNat i) ((0 : Int), ((0 : Int), ([] : List Int)))).2.1 :: ([] : List Int))), ()), ())))) (k2 ((context, ()), ())))))) (fun k2 => (cnd ((List.getD list (Int.toNat i) ((0 : Int), ((0 : Int), ([] : List Int)))).1 == (7 : Int)) (k2 ((((List.getD list (Int.toNat i) ((0 : Int), ((0 : Int), ([] : List Int)))).1 == (7 : Int)), ()), ())) (k2 ((((List.getD list (Int.toNat i) ((0 : Int), ((0 : Int), ([] : List Int)))).1 == (8 : Int)), ()), ()))))))))))))))
theorem w_impl_Structure_typed (n : Nat) (x : denL c_impl_Structure_typed.args) (K : Int × Unit → Prop) : evF tab (lkp [(38, q_impl_Structure_typed n), (65, c_impl_Node_parts), (64, c_impl_extended), (63, c_impl_same), (62, c_impl_sortsOf)]) (cutL [(6, 27), (10, 9), (14, 9)]) Tryz.f38 (bodyOf Tryz.f38) (.s .n (.s .n (.s .n (.s (.s .n (.s .n (.j [(1, (.d (.sl (.int .i64))))] [] [0, 2, 3, 9] (.s .n (.s .n (.j [(1, (.d (.sl (.int .i64))))] [] [0, 2, 3, 9] (.s .n (.s (.s .n (.j [(87, (.d .bool))] [] [0, 1, 2, 3, 9] .n)) (.j [(1, (.d (.sl (.int .i64))))] [] [0, 2, 3, 9] .n))))))))) (.s (.s .n (.l [(3, (.d (.int .i64))), (14, (.d (.int .i64)))] [] [0, 1, 2] .n)) .n))))) (q_impl_Structure_typed (n + 1)) x K = W_impl_Structure_typed n x.1 x.2.1 x.2.2.1 x.2.2.2.1 K := by kernel_rfl
theorem k_impl_Structure_typed : okC Tryz.f38.ntmps (cutL [(6, 27), (10, 9), (14, 9)]) (bodyOf Tryz.f38) = true := by kernel_rfl
theorem m_impl_Structure_typed (n : Nat) (s : StructureD) (context : List Int) (list : List ruleD) (i : Int) (hok : allP (okL c_impl_Structure_typed.args (s, context, list, i, ()))) (hpre : allP ((q_impl_Structure_typed (n + 1)).pre (s, context, list, i, ()))) : W_impl_Structure_typed n s context list i (fun r => r = c_impl_Structure_typed.res (s, context, list, i, ())) := by
  simp only [c_impl_Structure_typed, q_impl_Structure_typed, okL, T.oks, T.ok, ap, allP, true_and, and_true, implies_true] at hok hpre
  try dsimp only [T.den] at hok
  try dsimp only [T.den] at hpre
  unfold W_impl_Structure_typed
  obtain ⟨hn, T, i0, he⟩ := hpre
  have hi := fend_lt i0 he
  have hx := List.all_eq_true.1 T.ok _ (getD_mem list (0, (0, [])) i0 hi)
  have hu := @typ_at s context list i i0 hi
  have hf := @fend_at list i i0 hi
  have hll := T.ll
  have hcl := T.cl
  have hsl := T.str
  have hrl := T.rel
  clear hok
  generalize list.getD i.toNat (0, (0, [])) = x at hx hu hf ⊢
  have hres0 : typN s context x = false → (-1, ()) = c_impl_Structure_typed.res (s, context, list, i, ()) := fun h => by
    rw [h, Bool.false_and] at hu
    simp only [c_impl_Structure_typed, typR]
    rw [hu, if_neg (by simp)]
  have hres1 : ∀ e : Int, typBR s context list i.toNat = true → e = fendR (list.drop i.toNat) 1 i → (e, ()) = c_impl_Structure_typed.res (s, context, list, i, ()) := fun e h h2 => by
    simp only [c_impl_Structure_typed, typR]
    rw [h, if_pos rfl, h2]
  have hres2 : typBR s context list i.toNat = false → (-1, ()) = c_impl_Structure_typed.res (s, context, list, i, ()) := fun h => by
    simp only [c_impl_Structure_typed, typR]
    rw [h, if_neg (by simp)]
  refine ⟨i0, hi, by rw [inK64]; (try dsimp only); omega, join_of (fun q => q.1.1 = ctx2 context x ∧ typN s context x = true) (fun q hq _ => ?_) (fun k hk => ?_)⟩
  · obtain ⟨hq1, hq2⟩ := hq
    rw [hq2, Bool.true_and] at hu
    have T2 : TypP s (ctx2 context x) list := typ_ctx T hq2
    rw [hq1]
    have hp := pts_ge x
    rcases (show ptsR x = 0 ∨ ptsR x = 1 ∨ ptsR x = 2 by omega) with h | h | h
    · rw [h, if_pos rfl] at hu
      rw [h, fend_0] at hf
      rw [h]
      exact loop_st 0 (fun _ _ => cnd_d (fun h2 => absurd h2 (by simp)) (fun _ => hres1 _ hu hf.symm))
    · rw [h, if_neg (by omega), if_pos rfl, Bool.and_true] at hu
      rw [h] at hf
      rw [hf] at he
      have ht := typR_at (s := s) (c := ctx2 context x) (by omega) he
      rw [h]
      refine loop_st 1 (fun _ _ => cnd_d (fun _ => ⟨by dsimp only; omega, T2, by dsimp only; omega, he, cnd_d (fun hneg => hres2 ?_) (fun hpos => ⟨by rw [inK64]; (try dsimp only); omega, iter_st (fun _ _ => cnd_d (fun h2 => absurd h2 (by simp)) (fun _ => hres1 _ ?_ ?_))⟩)⟩) (fun h2 => absurd h2 (by simp)))
      · rw [hu]; exact ht.2 hneg
      · rw [hu]; exact (ht.1 hpos).1
      · rw [hf]; exact (ht.1 hpos).2.1
    · rw [h, if_neg (by omega), if_neg (by omega)] at hu
      rw [h] at hf
      rw [hf] at he
      obtain ⟨e1, e2, e3⟩ := fend_two (by omega) he
      rw [if_pos (by omega)] at hu
      have hc2 : ctx2 context x = context := by
        unfold ctx2; rw [if_neg]; intro h7; unfold ptsR at h; split at h <;> (try split at h) <;> omega
      rw [hc2] at hu T2 ⊢
      have ht := typR_at (s := s) (c := context) (by omega) e1
      rw [h]
      refine loop_st 2 (fun _ _ => cnd_d (fun _ => ⟨by dsimp only; omega, T2, by dsimp only; omega, e1, cnd_d (fun hneg => hres2 ?_) (fun hpos => ⟨by rw [inK64]; (try dsimp only); omega, iter_st (fun _ _ => cnd_d (fun h2 => ?_) (fun h2 => absurd h2 ?_))⟩)⟩) (fun h2 => absurd h2 (by simp)))
      · rw [hu, ht.2 hneg, Bool.false_and]
      · obtain ⟨t1, t2, t3⟩ := ht.1 hpos
        try dsimp only
        rw [t2]
        rw [← e3] at he
        have hlt := fend_lt (by omega) he
        have ht2 := typR_at (s := s) (c := context) (by omega) he
        refine ⟨by omega, T2, by omega, he, cnd_d (fun hneg => hres2 ?_) (fun hpos2 => ⟨by rw [inK64]; (try dsimp only); omega, iter_st (fun _ _ => cnd_d (fun h2 => absurd h2 (by simp)) (fun _ => hres1 _ ?_ ?_))⟩)⟩
        · rw [hu, ht2.2 hneg, Bool.and_false]
        · rw [hu, t1, (ht2.1 hpos2).1]; rfl
        · rw [hf, ← e3]; exact (ht2.1 hpos2).2.1
      · simp
  · have hN : typN s context x = (withinR x.2.2 context.length && (if x.1 = 2 then decide (x.2.1 < s.2.length) && eqR (.sl (.int .i64)) (thenR x.2.2 context) (s.2.getD x.2.1.toNat ([], [])).1 else if x.1 = 3 then decide ((thenR x.2.2 context).getD 0 0 = (thenR x.2.2 context).getD 1 0) else if x.1 = 7 ∨ x.1 = 8 then decide (x.2.1 < s.1.length) && decide (context.length ≠ 4) else true)) := rfl
    have hS : sortsR context x.2.2 = if withinR x.2.2 context.length = true then thenR x.2.2 context else [] := rfl
    have hC : ctx2 context x = if x.1 = 7 ∨ x.1 = 8 then context ++ [x.2.1] else context := rfl
    unfold okNodeR at hx
    rw [Bool.and_eq_true] at hx
    obtain ⟨hx1, hx⟩ := hx
    refine cnd_of (fun h2 => ?_) (fun h2 => ?_)
    · have e2 : x.1 = 2 := by simpa using h2
      rw [if_pos e2] at hN hx
      rw [if_neg (by omega)] at hC
      rw [Bool.and_eq_true, inR_iff, decide_eq_true_eq] at hx
      refine ⟨by omega, by omega, fun hg => ?_, cnd_of (fun hb => hres0 ?_) (fun hg => hk _ ⟨hC.symm, ?_⟩)⟩
      · simp only [Bool.or_eq_false_iff, decide_eq_false_iff_not] at hg; omega
      · rw [hN]; rw [hS] at hb
        cases hw : withinR x.2.2 context.length with
        | false => rfl
        | true =>
          rw [hw, if_pos rfl] at hb
          rw [Bool.true_and, Bool.and_eq_false_iff]
          simp only [Bool.not_true, Bool.false_or, Bool.or_eq_true, decide_eq_true_eq, Bool.not_eq_true'] at hb
          rcases hb with hb | hb
          · left; exact decide_eq_false (by omega)
          · right; exact hb
      · rw [hN]; rw [hS] at hg
        cases hw : withinR x.2.2 context.length with
        | false => rw [hw] at hg; simp at hg
        | true =>
          rw [hw, if_pos rfl] at hg
          simp only [Bool.not_true, Bool.false_or, Bool.or_eq_false_iff, decide_eq_false_iff_not, Bool.not_eq_false'] at hg
          rw [Bool.true_and, Bool.and_eq_true]
          exact ⟨decide_eq_true (by omega), hg.2⟩
    have n2 : x.1 ≠ 2 := by simpa using h2
    rw [if_neg n2] at hN hx
    refine join_of (fun q => q.1.1 = ctx2 context x ∧ typN s context x = true) (fun q hq _ => hk _ hq) (fun k1 hk1 => cnd_of (fun h3 => ?_) (fun h3 => ?_))
    · have e3 : x.1 = 3 := by simpa using h3
      rw [if_pos e3] at hN hx
      rw [if_neg (by omega)] at hC
      rw [Bool.and_eq_true, decide_eq_true_eq, decide_eq_true_eq] at hx
      have hlen : ∀ h : withinR x.2.2 context.length = true, (sortsR context x.2.2).length = 2 := fun h => by rw [hS, if_pos h]; unfold thenR; rw [List.length_map]; exact hx.2
      refine ⟨by omega, by omega, fun hg => ⟨by have := hlen (by simpa using hg); omega, Int.le_refl _⟩, fun hg => ⟨by have := hlen (by simpa using hg); omega, by decide⟩, cnd_of (fun hb => hres0 ?_) (fun hg => hk1 _ ⟨hC.symm, ?_⟩)⟩
      · rw [hN]; rw [hS] at hb
        cases hw : withinR x.2.2 context.length with
        | false => rfl
        | true =>
          rw [hw, if_pos rfl] at hb
          simp only [Bool.not_true, Bool.false_or, bne_iff_ne] at hb
          rw [Bool.true_and]; exact decide_eq_false hb
      · rw [hN]; rw [hS] at hg
        cases hw : withinR x.2.2 context.length with
        | false => rw [hw] at hg; simp at hg
        | true =>
          rw [hw, if_pos rfl] at hg
          simp only [Bool.not_true, Bool.false_or, bne_eq_false_iff_eq] at hg
          rw [Bool.true_and]; exact decide_eq_true hg
    have n3 : x.1 ≠ 3 := by simpa using h3
    rw [if_neg n3] at hN hx
    have hw : withinR x.2.2 context.length = true := by
      have : x.2.2 = [] := by
        refine List.length_eq_zero_iff.1 ?_
        split at hx
        · rw [Bool.and_eq_true, decide_eq_true_eq] at hx; exact hx.2
        · rw [Bool.and_eq_true, decide_eq_true_eq] at hx; exact hx.2
      rw [this]; rfl
    rw [hw, Bool.true_and] at hN
    refine join_of (fun q => q.1.1 = (x.1 == 7 || x.1 == 8)) (fun q hq => join_of (fun q => q.1.1 = ctx2 context x ∧ typN s context x = true) (fun q hq _ => hk1 _ hq) (fun k2 hk2 => ?_)) (fun k2 hk2 => cnd_of (fun h7 => hk2 _ (by dsimp only; rw [h7]; rfl)) (fun h7 => hk2 _ (by dsimp only; rw [h7]; rfl)))
    rw [hq]
    refine cnd_of (fun h7 => ?_) (fun h7 => hk2 _ ?_)
    · have e7 : x.1 = 7 ∨ x.1 = 8 := by simpa using h7
      rw [if_pos e7] at hN hC
      refine cnd_of (fun hb => hres0 ?_) (fun hg => ⟨by omega, hk2 _ ⟨hC.symm, ?_⟩⟩)
      · rw [hN, Bool.and_eq_false_iff]
        simp only [Bool.or_eq_true, decide_eq_true_eq, beq_iff_eq] at hb
        rcases hb with hb | hb
        · left; exact decide_eq_false (by omega)
        · right; exact decide_eq_false (by omega)
      · rw [hN, Bool.and_eq_true]
        simp only [Bool.or_eq_false_iff, decide_eq_false_iff_not, beq_eq_false_iff_ne] at hg
        exact ⟨decide_eq_true (by omega), decide_eq_true (by omega)⟩
    · have n7 : ¬ (x.1 = 7 ∨ x.1 = 8) := by simpa using h7
      rw [if_neg n7] at hN hC
      exact ⟨hC.symm, hN⟩
theorem ct_impl_Structure_typed : CtOk Tryz.prog 38 c_impl_Structure_typed := by
  refine ct_rec (q := fun n => (q_impl_Structure_typed n).pre) (callable_of (fn := Tryz.f38) (c := bodyOf Tryz.f38) (by kernel_rfl) (by kernel_rfl) (by kernel_rfl)) (fun x h => Nat.not_lt_zero _ h.1) (fun x h => ?_) (fun n ih => ?_)
  · exact ⟨_, Nat.lt_succ_self _, h⟩
  · exact ct_by (Φ := lkp [(38, q_impl_Structure_typed n), (65, c_impl_Node_parts), (64, c_impl_extended), (63, c_impl_same), (62, c_impl_sortsOf)]) (good_cons ih (good_cons ct_impl_Node_parts (good_cons ct_impl_extended (good_cons ct_impl_same (good_cons ct_impl_sortsOf good_nil))))) tab_ok (by kernel_rfl) (fn := Tryz.f38) (c := bodyOf Tryz.f38) (by kernel_rfl) (by kernel_rfl) (by kernel_rfl) (q_impl_Structure_typed (n + 1)) rfl (.s .n (.s .n (.s .n (.s (.s .n (.s .n (.j [(1, (.d (.sl (.int .i64))))] [] [0, 2, 3, 9] (.s .n (.s .n (.j [(1, (.d (.sl (.int .i64))))] [] [0, 2, 3, 9] (.s .n (.s (.s .n (.j [(87, (.d .bool))] [] [0, 1, 2, 3, 9] .n)) (.j [(1, (.d (.sl (.int .i64))))] [] [0, 2, 3, 9] .n))))))))) (.s (.s .n (.l [(3, (.d (.int .i64))), (14, (.d (.int .i64)))] [] [0, 1, 2] .n)) .n))))) (cutL [(6, 27), (10, 9), (14, 9)]) (by kernel_rfl) (by kernel_rfl) k_impl_Structure_typed (Nat.le_of_ble_eq_true rfl) (fun x K => W_impl_Structure_typed n x.1 x.2.1 x.2.2.1 x.2.2.2.1 K) (w_impl_Structure_typed n) (fun x h1 h2 => m_impl_Structure_typed n x.1 x.2.1 x.2.2.1 x.2.2.2.1 h1 h2)
def c_impl_Structure_isTyped : Ct := ⟨[(.pt StructureT), (.sl (.int .i64)), (.sl ruleT)], [false, false, false], fun x => [TypP x.1 x.2.1 x.2.2.1, formR x.2.2.1 = true], [(false, (.fz .bool))], fun x => (typBR x.1 x.2.1 x.2.2.1 0, ()), false, none⟩
def W_impl_Structure_isTyped (s : StructureD) (context : List Int) (list : List ruleD) (K : Bool × Unit → Prop) : Prop := ((TypP s context list) ∧ (((0 : Int) ≤ (0 : Int)) ∧ (((fendR (List.drop (Int.toNat (0 : Int)) list) (1 : Int) (0 : Int)) ≠ (-(1 : Int))) ∧ (K ((decide ((0 : Int) ≤ (typR s context list (0 : Int)))), ())))))
theorem w_impl_Structure_isTyped (x : denL c_impl_Structure_isTyped.args) (K : Bool × Unit → Prop) : evF tab (lkp [(38, c_impl_Structure_typed)]) (cutL []) Tryz.f22 (bodyOf Tryz.f22) .n c_impl_Structure_isTyped x K = W_impl_Structure_isTyped x.1 x.2.1 x.2.2.1 K := by kernel_rfl
theorem k_impl_Structure_isTyped : okC Tryz.f22.ntmps (cutL []) (bodyOf Tryz.f22) = true := by kernel_rfl
theorem m_impl_Structure_isTyped (s : StructureD) (context : List Int) (list : List ruleD) (hok : allP (okL c_impl_Structure_isTyped.args (s, context, list, ()))) (hpre : allP (c_impl_Structure_isTyped.pre (s, context, list, ()))) : W_impl_Structure_isTyped s context list (fun r => r = c_impl_Structure_isTyped.res (s, context, list, ())) := by
  simp only [c_impl_Structure_isTyped, okL, T.oks, T.ok, ap, allP, true_and, and_true, implies_true] at hok hpre
  try dsimp only [T.den] at hok
  try dsimp only [T.den] at hpre
  unfold W_impl_Structure_isTyped
  obtain ⟨T, hf⟩ := hpre
  have hll := T.ll
  clear hok
  unfold formR at hf
  simp only [Bool.and_eq_true, beq_iff_eq] at hf
  have he : fendR (list.drop (0 : Int).toNat) 1 0 ≠ -1 := by show fendR list 1 0 ≠ -1; rw [hf.2]; omega
  refine ⟨T, Int.le_refl _, he, ?_⟩
  have ht := typR_at (s := s) (c := context) (Int.le_refl 0) he
  simp only [c_impl_Structure_isTyped]
  by_cases h : typR s context list 0 < 0
  · have := ht.2 h
    rw [decide_eq_false (by omega)]
    exact (congrArg (fun b => (b, ())) this).symm
  · have := (ht.1 h).1
    rw [decide_eq_true (by omega)]
    exact (congrArg (fun b => (b, ())) this).symm
theorem ct_impl_Structure_isTyped : CtOk Tryz.prog 22 c_impl_Structure_isTyped :=
  ct_by (Φ := lkp [(38, c_impl_Structure_typed)]) (good_cons ct_impl_Structure_typed good_nil) tab_ok (by kernel_rfl) (fn := Tryz.f22) (c := bodyOf Tryz.f22) (by kernel_rfl) (by kernel_rfl) (by kernel_rfl) c_impl_Structure_isTyped rfl .n (cutL []) (by kernel_rfl) (by kernel_rfl) k_impl_Structure_isTyped (by decide) (fun x K => W_impl_Structure_isTyped x.1 x.2.1 x.2.2.1 K) w_impl_Structure_isTyped (fun x h1 h2 => m_impl_Structure_isTyped x.1 x.2.1 x.2.2.1 h1 h2)
def ctxR (s : StructureD) (c : List Int) : Bool := decide (c.length ≤ 4) && withinR c s.1.length
def c_impl_Structure_isContext : Ct := ⟨[(.pt StructureT), (.sl (.int .i64))], [false, false], fun x => [x.1.1.length ≤ 1099511627776], [(false, (.fz .bool))], fun x => (ctxR x.1 x.2.1, ()), false, none⟩
def W_impl_Structure_isContext (s : StructureD) (context : List Int) (K : Bool × Unit → Prop) : Prop := ((((decide ((((List.length context) : Nat) : Int) ≤ (4 : Int))) = Bool.true) → (inK IntKind.i64 ((((List.length s.1) : Nat) : Int) - (1 : Int)))) ∧ (K (((decide ((((List.length context) : Nat) : Int) ≤ (4 : Int))) && (withinR context (((List.length s.1) : Nat) : Int))), ())))
theorem w_impl_Structure_isContext (x : denL c_impl_Structure_isContext.args) (K : Bool × Unit → Prop) : evF tab (lkp [(61, c_impl_within)]) (cutL []) Tryz.f37 (bodyOf Tryz.f37) .n c_impl_Structure_isContext x K = W_impl_Structure_isContext x.1 x.2.1 K := by kernel_rfl
theorem k_impl_Structure_isContext : okC Tryz.f37.ntmps (cutL []) (bodyOf Tryz.f37) = true := by kernel_rfl
theorem m_impl_Structure_isContext (s : StructureD) (context : List Int) (hok : allP (okL c_impl_Structure_isContext.args (s, context, ()))) (hpre : allP (c_impl_Structure_isContext.pre (s, context, ()))) : W_impl_Structure_isContext s context (fun r => r = c_impl_Structure_isContext.res (s, context, ())) := by
  simp only [c_impl_Structure_isContext, okL, T.oks, T.ok, ap, allP, true_and, and_true, implies_true] at hok hpre
  try dsimp only [T.den] at hok
  try dsimp only [T.den] at hpre
  unfold W_impl_Structure_isContext
  have h : s.1.length ≤ 1099511627776 := hpre
  refine ⟨fun _ => by rw [inK64]; (try dsimp only); omega, ?_⟩
  simp only [c_impl_Structure_isContext, ctxR]
  congr 2
  exact decide_eq_decide.2 (by omega)
theorem ct_impl_Structure_isContext : CtOk Tryz.prog 37 c_impl_Structure_isContext :=
  ct_by (Φ := lkp [(61, c_impl_within)]) (good_cons ct_impl_within good_nil) tab_ok (by kernel_rfl) (fn := Tryz.f37) (c := bodyOf Tryz.f37) (by kernel_rfl) (by kernel_rfl) (by kernel_rfl) c_impl_Structure_isContext rfl .n (cutL []) (by kernel_rfl) (by kernel_rfl) k_impl_Structure_isContext (by decide) (fun x K => W_impl_Structure_isContext x.1 x.2.1 K) w_impl_Structure_isContext (fun x h1 h2 => m_impl_Structure_isContext x.1 x.2.1 h1 h2)
def ctxCodeR (s : StructureD) (c : List Int) (F : List (List ruleD)) : Int := if strR s = false then 1 else if F.all formR = false then 1 else if ctxR s c = false then 2 else 0
def c_impl_contextCode : Ct := ⟨[(.pt StructureT), (.sl (.int .i64)), (.sl (.sl ruleT))], [false, false, false], fun x => [x.2.2.1.length ≤ 1099511627776], [(false, (.fz (.int .i64)))], fun x => (ctxCodeR x.1 x.2.1 x.2.2.1, ()), false, none⟩
def W_impl_contextCode (s : StructureD) (context : List Int) (formulas : List (List ruleD)) (K : Int × Unit → Prop) : Prop := (cnd (!(strR s)) (K ((1 : Int), ())) (loopW (S := ((Int × Unit) × Unit)) (fun s1 => (fun next => ((inK IntKind.i64 s1.1.1) → (cnd (decide (s1.1.1 < (((List.length formulas) : Nat) : Int))) (((0 : Int) ≤ s1.1.1) ∧ ((s1.1.1 < (((List.length formulas) : Nat) : Int)) ∧ (cnd (!(formR (List.getD formulas (Int.toNat s1.1.1) ([] : List (Int × (Int × (List Int))))))) (K ((1 : Int), ())) ((inK IntKind.i64 (s1.1.1 + (1 : Int))) ∧ (next (((s1.1.1 + (1 : Int)), ()), ())))))) (((List.length s.1) ≤ 1099511627776) ∧ (cnd (!(ctxR s context)) (K ((2 : Int), ())) (K ((0 : Int), ())))))))) (((0 : Int), ()), ())))
theorem w_impl_contextCode (x : denL c_impl_contextCode.args) (K : Int × Unit → Prop) : evF tab (lkp [(37, c_impl_Structure_isContext), (35, c_impl_Structure_isStructure), (36, c_impl_isFormula)]) (cutL []) Tryz.f21 (bodyOf Tryz.f21) (.s .n (.s .n (.s (.s .n (.l [(14, (.d (.int .i64)))] [] [0, 1, 12, 13] .n)) .n))) c_impl_contextCode x K = W_impl_contextCode x.1 x.2.1 x.2.2.1 K := by kernel_rfl
theorem k_impl_contextCode : okC Tryz.f21.ntmps (cutL []) (bodyOf Tryz.f21) = true := by kernel_rfl
theorem m_impl_contextCode (s : StructureD) (context : List Int) (formulas : List (List ruleD)) (hok : allP (okL c_impl_contextCode.args (s, context, formulas, ()))) (hpre : allP (c_impl_contextCode.pre (s, context, formulas, ()))) : W_impl_contextCode s context formulas (fun r => r = c_impl_contextCode.res (s, context, formulas, ())) := by
  simp only [c_impl_contextCode, okL, T.oks, T.ok, ap, allP, true_and, and_true, implies_true] at hok hpre
  try dsimp only [T.den] at hok
  try dsimp only [T.den] at hpre
  unfold W_impl_contextCode
  have hF : formulas.length ≤ 1099511627776 := hpre
  clear hok hpre
  have hv : ctxCodeR s context formulas = if strR s = false then 1 else if formulas.all formR = false then 1 else if ctxR s context = false then 2 else 0 := rfl
  have res : ∀ b, ctxCodeR s context formulas = b → (b, ()) = c_impl_contextCode.res (s, context, formulas, ()) := fun b h => by simp only [c_impl_contextCode, h]
  refine cnd_of (fun hx => res _ ?_) (fun hx => ?_)
  · rw [hv, if_pos (by simpa using hx)]
  have hs : strR s = true := by simpa using hx
  rw [if_neg (by rw [hs]; simp)] at hv
  have hs2 := hs
  unfold strR at hs2
  simp only [Bool.and_eq_true, inR_iff] at hs2
  refine loop_all formulas [] formR ?_ ?_
  · intro i next i0 i1 hno hyes _
    try dsimp only
    refine cnd_d (fun _ => ⟨i0, i1, cnd_of (fun hx => res _ ?_) (fun hx => ⟨by rw [inK64]; (try dsimp only); omega, hyes (by simpa using hx)⟩)⟩) (fun h => absurd i1 h)
    rw [hv, if_pos (hno (by simpa using hx))]
  · intro next h _
    rw [if_neg (by rw [h]; simp)] at hv
    refine cnd_d (fun h => absurd h (Int.lt_irrefl _)) (fun _ => ⟨by omega, cnd_of (fun hx => res _ ?_) (fun hx => res _ ?_)⟩)
    · rw [hv, if_pos (by simpa using hx)]
    · rw [hv, if_neg (by simpa using hx)]
theorem ct_impl_contextCode : CtOk Tryz.prog 21 c_impl_contextCode :=
  ct_by (Φ := lkp [(37, c_impl_Structure_isContext), (35, c_impl_Structure_isStructure), (36, c_impl_isFormula)]) (good_cons ct_impl_Structure_isContext (good_cons ct_impl_Structure_isStructure (good_cons ct_impl_isFormula good_nil))) tab_ok (by kernel_rfl) (fn := Tryz.f21) (c := bodyOf Tryz.f21) (by kernel_rfl) (by kernel_rfl) (by kernel_rfl) c_impl_contextCode rfl (.s .n (.s .n (.s (.s .n (.l [(14, (.d (.int .i64)))] [] [0, 1, 12, 13] .n)) .n))) (cutL []) (by kernel_rfl) (by kernel_rfl) k_impl_contextCode (by decide) (fun x K => W_impl_contextCode x.1 x.2.1 x.2.2.1 K) w_impl_contextCode (fun x h1 h2 => m_impl_contextCode x.1 x.2.1 x.2.2.1 h1 h2)
def isTypR (s : StructureD) (c : List Int) (l : List ruleD) : Bool := ctxCodeR s c [l] == 0 && typBR s c l 0
theorem ctxCode_all {s : StructureD} {c : List Int} {l : List ruleD} (h : ctxCodeR s c [l] = 0) : strR s = true ∧ formR l = true ∧ ctxR s c = true := by
  unfold ctxCodeR at h
  cases h1 : strR s with
  | false => rw [if_pos h1] at h; omega
  | true =>
    rw [if_neg (by rw [h1]; simp)] at h
    cases h2 : ([l].all formR) with
    | false => rw [if_pos h2] at h; omega
    | true =>
      rw [if_neg (by rw [h2]; simp)] at h
      cases h3 : ctxR s c with
      | false => rw [if_pos h3] at h; omega
      | true => exact ⟨rfl, by simpa using h2, rfl⟩
theorem str_typ {s : StructureD} {c : List Int} {l : List ruleD} (h1 : strR s = true) (h2 : formR l = true) (h3 : ctxR s c = true) : TypP s c l := by
  unfold strR at h1
  unfold formR at h2
  unfold ctxR at h3
  simp only [Bool.and_eq_true, inR_iff, decide_eq_true_eq] at h1 h2 h3
  exact ⟨by omega, by omega, by omega, by omega, h2.1.2⟩
theorem ctxCode_typ {s : StructureD} {c : List Int} {l : List ruleD} (h : ctxCodeR s c [l] = 0) : TypP s c l ∧ formR l = true := by
  obtain ⟨h1, h2, h3⟩ := ctxCode_all h
  exact ⟨str_typ h1 h2 h3, h2⟩
def c_impl_IsTyped : Ct := ⟨[StructureT, (.sl (.int .i64)), (.sl ruleT)], [true, false, false], fun x => [], [(false, (.fz .bool)), (false, (.fz (.int .i64)))], fun x => (isTypR x.1 x.2.1 x.2.2.1, ctxCodeR x.1 x.2.1 [x.2.2.1], ()), false, none⟩
def W_impl_IsTyped (s : StructureD) (context : List Int) (list : List ruleD) (K : Bool × Int × Unit → Prop) : Prop := (((List.length (list :: ([] : List (List (Int × (Int × (List Int))))))) ≤ 1099511627776) ∧ (cnd ((ctxCodeR s context (list :: ([] : List (List (Int × (Int × (List Int))))))) != (0 : Int)) (K (Bool.false, ((ctxCodeR s context (list :: ([] : List (List (Int × (Int × (List Int))))))), ()))) ((TypP s context list) ∧ (((formR list) = Bool.true) ∧ (K ((typBR s context list 0), ((0 : Int), ())))))))
theorem w_impl_IsTyped (x : denL c_impl_IsTyped.args) (K : Bool × Int × Unit → Prop) : evF tab (lkp [(22, c_impl_Structure_isTyped), (21, c_impl_contextCode)]) (cutL []) Tryz.f10 (bodyOf Tryz.f10) .n c_impl_IsTyped x K = W_impl_IsTyped x.1 x.2.1 x.2.2.1 K := by kernel_rfl
theorem k_impl_IsTyped : okC Tryz.f10.ntmps (cutL []) (bodyOf Tryz.f10) = true := by kernel_rfl
theorem m_impl_IsTyped (s : StructureD) (context : List Int) (list : List ruleD) (hok : allP (okL c_impl_IsTyped.args (s, context, list, ()))) (hpre : allP (c_impl_IsTyped.pre (s, context, list, ()))) : W_impl_IsTyped s context list (fun r => r = c_impl_IsTyped.res (s, context, list, ())) := by
  simp only [c_impl_IsTyped, okL, T.oks, T.ok, ap, allP, true_and, and_true, implies_true] at hok hpre
  try dsimp only [T.den] at hok
  try dsimp only [T.den] at hpre
  unfold W_impl_IsTyped
  clear hok
  refine ⟨by simp, cnd_of (fun hx => ?_) (fun hx => ?_)⟩
  · have h : (ctxCodeR s context [list] == 0) = false := by rw [beq_eq_false_iff_ne]; simpa using hx
    simp only [c_impl_IsTyped, isTypR, h, Bool.false_and]
  · have h : ctxCodeR s context [list] = 0 := by simpa using hx
    obtain ⟨T, hf⟩ := ctxCode_typ h
    refine ⟨T, hf, ?_⟩
    simp only [c_impl_IsTyped, isTypR, h]
    rfl
theorem ct_impl_IsTyped : CtOk Tryz.prog 10 c_impl_IsTyped :=
  ct_by (Φ := lkp [(22, c_impl_Structure_isTyped), (21, c_impl_contextCode)]) (good_cons ct_impl_Structure_isTyped (good_cons ct_impl_contextCode good_nil)) tab_ok (by kernel_rfl) (fn := Tryz.f10) (c := bodyOf Tryz.f10) (by kernel_rfl) (by kernel_rfl) (by kernel_rfl) c_impl_IsTyped rfl .n (cutL []) (by kernel_rfl) (by kernel_rfl) k_impl_IsTyped (by decide) (fun x K => W_impl_IsTyped x.1 x.2.1 x.2.2.1 K) w_impl_IsTyped (fun x h1 h2 => m_impl_IsTyped x.1 x.2.1 x.2.2.1 h1 h2)
def c_laws_eqInt64S : Ct := ⟨[(.sl (.int .i64)), (.sl (.int .i64))], [false, false], fun x => [], [(false, (.fz .bool))], fun x => (eqR (.sl (.int .i64)) x.1 x.2.1, ()), false, none⟩
def W_laws_eqInt64S (a : List Int) (b : List Int) (K : Bool × Unit → Prop) : Prop := (cnd ((((List.length a) : Nat) : Int) != (((List.length b) : Nat) : Int)) (K (Bool.false, ())) (loopW (S := ((Int × Unit) × Unit)) (fun s => (fun next => ((inK IntKind.i64 s.1.1) → (cnd (decide (s.1.1 < (((List.length a) : Nat) : Int))) (((0 : Int) ≤ s.1.1) ∧ ((s.1.1 < (((List.length a) : Nat) : Int)) ∧ (((0 : Int) ≤ s.1.1) ∧ ((s.1.1 < (((List.length b) : Nat) : Int)) ∧ (cnd ((List.getD a (Int.toNat s.1.1) (0 : Int)) != (List.getD b (Int.toNat s.1.1) (0 : Int))) (K (Bool.false, ())) ((inK IntKind.i64 (s.1.1 + (1 : Int))) ∧ (next (((s.1.1 + (1 : Int)), ()), ())))))))) (K (Bool.true, ())))))) (((0 : Int), ()), ())))
theorem w_laws_eqInt64S (x : denL c_laws_eqInt64S.args) (K : Bool × Unit → Prop) : evF tab (lkp []) (cutL [(6, 9)]) Tryz.f12 (bodyOf Tryz.f12) (.s .n (.s .n (.s (.s .n (.l [(5, (.d (.int .i64)))] [] [0, 1] .n)) .n))) c_laws_eqInt64S x K = W_laws_eqInt64S x.1 x.2.1 K := by kernel_rfl
theorem k_laws_eqInt64S : okC Tryz.f12.ntmps (cutL [(6, 9)]) (bodyOf Tryz.f12) = true := by kernel_rfl
theorem m_laws_eqInt64S (a : List Int) (b : List Int) (hok : allP (okL c_laws_eqInt64S.args (a, b, ()))) (hpre : allP (c_laws_eqInt64S.pre (a, b, ()))) : W_laws_eqInt64S a b (fun r => r = c_laws_eqInt64S.res (a, b, ())) := by
  simp only [c_laws_eqInt64S, okL, T.oks, T.ok, ap, allP, true_and, and_true, implies_true] at hok hpre
  try dsimp only [T.den] at hok
  try dsimp only [T.den] at hpre
  unfold W_laws_eqInt64S
  refine cnd_of (fun hc => ?_) (fun hc => ?_)
  · simp only [c_laws_eqInt64S, Prod.mk.injEq, and_true]; rw [eqR_f]; rintro rfl; simp at hc
  have hl : a.length = b.length := by simp at hc; omega
  refine loop_of (fun (s : ((Int × Unit) × Unit)) => 0 ≤ s.1.1 ∧ s.1.1 ≤ a.length ∧ a.take s.1.1.toNat = b.take s.1.1.toNat) (fun (s : ((Int × Unit) × Unit)) => (a.length - s.1.1).toNat) ?_ (by simp)
  rintro ⟨⟨i, _⟩, _⟩ next ⟨h0, h1, h2⟩ hn hin
  simp only at h0 h1 h2 hn ⊢
  refine cnd_d (fun hc => ?_) (fun hc => ?_)
  · have ha := take_c a (0 : Int) h0 hc
    have hb := take_c b (0 : Int) h0 (by omega)
    refine ⟨by omega, by omega, by omega, by omega, cnd_of (fun hd => ?_) (fun hd => ?_)⟩
    · simp only [c_laws_eqInt64S, Prod.mk.injEq, and_true]; rw [eqR_f]; rintro rfl; simp at hd
    · refine ⟨by grind [cnd, nb_eq, inK64], hn _ ⟨(by first | omega | (dsimp only; omega)), (by first | omega | (dsimp only; omega)), ?_⟩ (by first | omega | (dsimp only; omega))⟩
      simp only [Bool.not_eq_false', eqR_iff, bne_eq_false_iff_eq] at hd
      simp only [ha, hb, h2, hd]
  · rw [take_n a (by omega), take_n b (by omega)] at h2
    simp [h2, c_laws_eqInt64S]
theorem ct_laws_eqInt64S : CtOk Tryz.prog 12 c_laws_eqInt64S :=
  ct_by (Φ := lkp []) good_nil tab_ok (by kernel_rfl) (fn := Tryz.f12) (c := bodyOf Tryz.f12) (by kernel_rfl) (by kernel_rfl) (by kernel_rfl) c_laws_eqInt64S rfl (.s .n (.s .n (.s (.s .n (.l [(5, (.d (.int .i64)))] [] [0, 1] .n)) .n))) (cutL [(6, 9)]) (by kernel_rfl) (by kernel_rfl) k_laws_eqInt64S (by decide) (fun x K => W_laws_eqInt64S x.1 x.2.1 K) w_laws_eqInt64S (fun x h1 h2 => m_laws_eqInt64S x.1 x.2.1 h1 h2)
def c_laws_eqNode : Ct := ⟨[ruleT, ruleT], [true, true], fun x => [], [(false, (.fz .bool))], fun x => (eqR ruleT x.1 x.2.1, ()), false, none⟩
def W_laws_eqNode (a : ruleD) (b : ruleD) (K : Bool × Unit → Prop) : Prop := (cnd (a.1 != b.1) (K (Bool.false, ())) (cnd (a.2.1 != b.2.1) (K (Bool.false, ())) (cnd (!(eqR (T.sl (T.int IntKind.i64)) a.2.2 b.2.2)) (K (Bool.false, ())) (K (Bool.true, ())))))
theorem w_laws_eqNode (x : denL c_laws_eqNode.args) (K : Bool × Unit → Prop) : evF tab (lkp [(12, c_laws_eqInt64S)]) (cutL []) Tryz.f25 (bodyOf Tryz.f25) .n c_laws_eqNode x K = W_laws_eqNode x.1 x.2.1 K := by kernel_rfl
theorem k_laws_eqNode : okC Tryz.f25.ntmps (cutL []) (bodyOf Tryz.f25) = true := by kernel_rfl
theorem m_laws_eqNode (a : ruleD) (b : ruleD) (hok : allP (okL c_laws_eqNode.args (a, b, ()))) (hpre : allP (c_laws_eqNode.pre (a, b, ()))) : W_laws_eqNode a b (fun r => r = c_laws_eqNode.res (a, b, ())) := by
  simp only [c_laws_eqNode, okL, T.oks, T.ok, ap, allP, true_and, and_true, implies_true] at hok hpre
  try dsimp only [T.den] at hok
  try dsimp only [T.den] at hpre
  unfold W_laws_eqNode
  simp only [c_laws_eqNode, eqR_p, eqR_int, eqR_bool]
  grind [cnd, nb_eq, inK64]
theorem ct_laws_eqNode : CtOk Tryz.prog 25 c_laws_eqNode :=
  ct_by (Φ := lkp [(12, c_laws_eqInt64S)]) (good_cons ct_laws_eqInt64S good_nil) tab_ok (by kernel_rfl) (fn := Tryz.f25) (c := bodyOf Tryz.f25) (by kernel_rfl) (by kernel_rfl) (by kernel_rfl) c_laws_eqNode rfl .n (cutL []) (by kernel_rfl) (by kernel_rfl) k_laws_eqNode (by decide) (fun x K => W_laws_eqNode x.1 x.2.1 K) w_laws_eqNode (fun x h1 h2 => m_laws_eqNode x.1 x.2.1 h1 h2)
def c_laws_eqNodeS : Ct := ⟨[(.sl ruleT), (.sl ruleT)], [false, false], fun x => [], [(false, (.fz .bool))], fun x => (eqR (.sl ruleT) x.1 x.2.1, ()), false, none⟩
def W_laws_eqNodeS (a : List ruleD) (b : List ruleD) (K : Bool × Unit → Prop) : Prop := (cnd ((((List.length a) : Nat) : Int) != (((List.length b) : Nat) : Int)) (K (Bool.false, ())) (loopW (S := ((Int × Unit) × Unit)) (fun s => (fun next => ((inK IntKind.i64 s.1.1) → (cnd (decide (s.1.1 < (((List.length a) : Nat) : Int))) (((0 : Int) ≤ s.1.1) ∧ ((s.1.1 < (((List.length a) : Nat) : Int)) ∧ (((0 : Int) ≤ s.1.1) ∧ ((s.1.1 < (((List.length b) : Nat) : Int)) ∧ (cnd (!(eqR ruleT (List.getD a (Int.toNat s.1.1) ((0 : Int), ((0 : Int), ([] : List Int)))) (List.getD b (Int.toNat s.1.1) ((0 : Int), ((0 : Int), ([] : List Int)))))) (K (Bool.false, ())) ((inK IntKind.i64 (s.1.1 + (1 : Int))) ∧ (next (((s.1.1 + (1 : Int)), ()), ())))))))) (K (Bool.true, ())))))) (((0 : Int), ()), ())))
theorem w_laws_eqNodeS (x : denL c_laws_eqNodeS.args) (K : Bool × Unit → Prop) : evF tab (lkp [(25, c_laws_eqNode)]) (cutL [(6, 508)]) Tryz.f13 (bodyOf Tryz.f13) (.s .n (.s .n (.s (.s .n (.l [(5, (.d (.int .i64)))] [] [0, 1] .n)) .n))) c_laws_eqNodeS x K = W_laws_eqNodeS x.1 x.2.1 K := by kernel_rfl
theorem k_laws_eqNodeS : okC Tryz.f13.ntmps (cutL [(6, 508)]) (bodyOf Tryz.f13) = true := by kernel_rfl
theorem m_laws_eqNodeS (a : List ruleD) (b : List ruleD) (hok : allP (okL c_laws_eqNodeS.args (a, b, ()))) (hpre : allP (c_laws_eqNodeS.pre (a, b, ()))) : W_laws_eqNodeS a b (fun r => r = c_laws_eqNodeS.res (a, b, ())) := by
  simp only [c_laws_eqNodeS, okL, T.oks, T.ok, ap, allP, true_and, and_true, implies_true] at hok hpre
  try dsimp only [T.den] at hok
  try dsimp only [T.den] at hpre
  unfold W_laws_eqNodeS
  refine cnd_of (fun hc => ?_) (fun hc => ?_)
  · simp only [c_laws_eqNodeS, Prod.mk.injEq, and_true]; rw [eqR_f]; rintro rfl; simp at hc
  have hl : a.length = b.length := by simp at hc; omega
  refine loop_of (fun (s : ((Int × Unit) × Unit)) => 0 ≤ s.1.1 ∧ s.1.1 ≤ a.length ∧ a.take s.1.1.toNat = b.take s.1.1.toNat) (fun (s : ((Int × Unit) × Unit)) => (a.length - s.1.1).toNat) ?_ (by simp)
  rintro ⟨⟨i, _⟩, _⟩ next ⟨h0, h1, h2⟩ hn hin
  simp only at h0 h1 h2 hn ⊢
  refine cnd_d (fun hc => ?_) (fun hc => ?_)
  · have ha := take_c a ((0 : Int), ((0 : Int), ([] : List Int))) h0 hc
    have hb := take_c b ((0 : Int), ((0 : Int), ([] : List Int))) h0 (by omega)
    refine ⟨by omega, by omega, by omega, by omega, cnd_of (fun hd => ?_) (fun hd => ?_)⟩
    · simp only [c_laws_eqNodeS, Prod.mk.injEq, and_true]; rw [eqR_f]; rintro rfl; simp at hd
    · refine ⟨by grind [cnd, nb_eq, inK64], hn _ ⟨(by first | omega | (dsimp only; omega)), (by first | omega | (dsimp only; omega)), ?_⟩ (by first | omega | (dsimp only; omega))⟩
      simp only [Bool.not_eq_false', eqR_iff, bne_eq_false_iff_eq] at hd
      simp only [ha, hb, h2, hd]
  · rw [take_n a (by omega), take_n b (by omega)] at h2
    simp [h2, c_laws_eqNodeS]
theorem ct_laws_eqNodeS : CtOk Tryz.prog 13 c_laws_eqNodeS :=
  ct_by (Φ := lkp [(25, c_laws_eqNode)]) (good_cons ct_laws_eqNode good_nil) tab_ok (by kernel_rfl) (fn := Tryz.f13) (c := bodyOf Tryz.f13) (by kernel_rfl) (by kernel_rfl) (by kernel_rfl) c_laws_eqNodeS rfl (.s .n (.s .n (.s (.s .n (.l [(5, (.d (.int .i64)))] [] [0, 1] .n)) .n))) (cutL [(6, 508)]) (by kernel_rfl) (by kernel_rfl) k_laws_eqNodeS (by decide) (fun x K => W_laws_eqNodeS x.1 x.2.1 K) w_laws_eqNodeS (fun x h1 h2 => m_laws_eqNodeS x.1 x.2.1 h1 h2)
def c_laws_eqInt64SS : Ct := ⟨[(.sl (.sl (.int .i64))), (.sl (.sl (.int .i64)))], [false, false], fun x => [], [(false, (.fz .bool))], fun x => (eqR (.sl (.sl (.int .i64))) x.1 x.2.1, ()), false, none⟩
def W_laws_eqInt64SS (a : List (List Int)) (b : List (List Int)) (K : Bool × Unit → Prop) : Prop := (cnd ((((List.length a) : Nat) : Int) != (((List.length b) : Nat) : Int)) (K (Bool.false, ())) (loopW (S := ((Int × Unit) × Unit)) (fun s => (fun next => ((inK IntKind.i64 s.1.1) → (cnd (decide (s.1.1 < (((List.length a) : Nat) : Int))) (((0 : Int) ≤ s.1.1) ∧ ((s.1.1 < (((List.length a) : Nat) : Int)) ∧ (((0 : Int) ≤ s.1.1) ∧ ((s.1.1 < (((List.length b) : Nat) : Int)) ∧ (cnd (!(eqR (T.sl (T.int IntKind.i64)) (List.getD a (Int.toNat s.1.1) ([] : List Int)) (List.getD b (Int.toNat s.1.1) ([] : List Int)))) (K (Bool.false, ())) ((inK IntKind.i64 (s.1.1 + (1 : Int))) ∧ (next (((s.1.1 + (1 : Int)), ()), ())))))))) (K (Bool.true, ())))))) (((0 : Int), ()), ())))
theorem w_laws_eqInt64SS (x : denL c_laws_eqInt64SS.args) (K : Bool × Unit → Prop) : evF tab (lkp [(12, c_laws_eqInt64S)]) (cutL [(6, 10)]) Tryz.f67 (bodyOf Tryz.f67) (.s .n (.s .n (.s (.s .n (.l [(5, (.d (.int .i64)))] [] [0, 1] .n)) .n))) c_laws_eqInt64SS x K = W_laws_eqInt64SS x.1 x.2.1 K := by kernel_rfl
theorem k_laws_eqInt64SS : okC Tryz.f67.ntmps (cutL [(6, 10)]) (bodyOf Tryz.f67) = true := by kernel_rfl
theorem m_laws_eqInt64SS (a : List (List Int)) (b : List (List Int)) (hok : allP (okL c_laws_eqInt64SS.args (a, b, ()))) (hpre : allP (c_laws_eqInt64SS.pre (a, b, ()))) : W_laws_eqInt64SS a b (fun r => r = c_laws_eqInt64SS.res (a, b, ())) := by
  simp only [c_laws_eqInt64SS, okL, T.oks, T.ok, ap, allP, true_and, and_true, implies_true] at hok hpre
  try dsimp only [T.den] at hok
  try dsimp only [T.den] at hpre
  unfold W_laws_eqInt64SS
  refine cnd_of (fun hc => ?_) (fun hc => ?_)
  · simp only [c_laws_eqInt64SS, Prod.mk.injEq, and_true]; rw [eqR_f]; rintro rfl; simp at hc
  have hl : a.length = b.length := by simp at hc; omega
  refine loop_of (fun (s : ((Int × Unit) × Unit)) => 0 ≤ s.1.1 ∧ s.1.1 ≤ a.length ∧ a.take s.1.1.toNat = b.take s.1.1.toNat) (fun (s : ((Int × Unit) × Unit)) => (a.length - s.1.1).toNat) ?_ (by simp)
  rintro ⟨⟨i, _⟩, _⟩ next ⟨h0, h1, h2⟩ hn hin
  simp only at h0 h1 h2 hn ⊢
  refine cnd_d (fun hc => ?_) (fun hc => ?_)
  · have ha := take_c a ([] : List Int) h0 hc
    have hb := take_c b ([] : List Int) h0 (by omega)
    refine ⟨by omega, by omega, by omega, by omega, cnd_of (fun hd => ?_) (fun hd => ?_)⟩
    · simp only [c_laws_eqInt64SS, Prod.mk.injEq, and_true]; rw [eqR_f]; rintro rfl; simp at hd
    · refine ⟨by grind [cnd, nb_eq, inK64], hn _ ⟨(by first | omega | (dsimp only; omega)), (by first | omega | (dsimp only; omega)), ?_⟩ (by first | omega | (dsimp only; omega))⟩
      simp only [Bool.not_eq_false', eqR_iff, bne_eq_false_iff_eq] at hd
      simp only [ha, hb, h2, hd]
  · rw [take_n a (by omega), take_n b (by omega)] at h2
    simp [h2, c_laws_eqInt64SS]
theorem ct_laws_eqInt64SS : CtOk Tryz.prog 67 c_laws_eqInt64SS :=
  ct_by (Φ := lkp [(12, c_laws_eqInt64S)]) (good_cons ct_laws_eqInt64S good_nil) tab_ok (by kernel_rfl) (fn := Tryz.f67) (c := bodyOf Tryz.f67) (by kernel_rfl) (by kernel_rfl) (by kernel_rfl) c_laws_eqInt64SS rfl (.s .n (.s .n (.s (.s .n (.l [(5, (.d (.int .i64)))] [] [0, 1] .n)) .n))) (cutL [(6, 10)]) (by kernel_rfl) (by kernel_rfl) k_laws_eqInt64SS (by decide) (fun x K => W_laws_eqInt64SS x.1 x.2.1 K) w_laws_eqInt64SS (fun x h1 h2 => m_laws_eqInt64SS x.1 x.2.1 h1 h2)
def c_laws_eqRelation : Ct := ⟨[dataT, dataT], [true, true], fun x => [], [(false, (.fz .bool))], fun x => (eqR dataT x.1 x.2.1, ()), false, none⟩
def W_laws_eqRelation (a : dataD) (b : dataD) (K : Bool × Unit → Prop) : Prop := (cnd (!(eqR (T.sl (T.int IntKind.i64)) a.1 b.1)) (K (Bool.false, ())) (cnd (!(eqR (T.sl (T.sl (T.int IntKind.i64))) a.2 b.2)) (K (Bool.false, ())) (K (Bool.true, ()))))
theorem w_laws_eqRelation (x : denL c_laws_eqRelation.args) (K : Bool × Unit → Prop) : evF tab (lkp [(12, c_laws_eqInt64S), (67, c_laws_eqInt64SS)]) (cutL []) Tryz.f40 (bodyOf Tryz.f40) .n c_laws_eqRelation x K = W_laws_eqRelation x.1 x.2.1 K := by kernel_rfl
theorem k_laws_eqRelation : okC Tryz.f40.ntmps (cutL []) (bodyOf Tryz.f40) = true := by kernel_rfl
theorem m_laws_eqRelation (a : dataD) (b : dataD) (hok : allP (okL c_laws_eqRelation.args (a, b, ()))) (hpre : allP (c_laws_eqRelation.pre (a, b, ()))) : W_laws_eqRelation a b (fun r => r = c_laws_eqRelation.res (a, b, ())) := by
  simp only [c_laws_eqRelation, okL, T.oks, T.ok, ap, allP, true_and, and_true, implies_true] at hok hpre
  try dsimp only [T.den] at hok
  try dsimp only [T.den] at hpre
  unfold W_laws_eqRelation
  simp only [c_laws_eqRelation, eqR_p, eqR_int, eqR_bool]
  grind [cnd, nb_eq, inK64]
theorem ct_laws_eqRelation : CtOk Tryz.prog 40 c_laws_eqRelation :=
  ct_by (Φ := lkp [(12, c_laws_eqInt64S), (67, c_laws_eqInt64SS)]) (good_cons ct_laws_eqInt64S (good_cons ct_laws_eqInt64SS good_nil)) tab_ok (by kernel_rfl) (fn := Tryz.f40) (c := bodyOf Tryz.f40) (by kernel_rfl) (by kernel_rfl) (by kernel_rfl) c_laws_eqRelation rfl .n (cutL []) (by kernel_rfl) (by kernel_rfl) k_laws_eqRelation (by decide) (fun x K => W_laws_eqRelation x.1 x.2.1 K) w_laws_eqRelation (fun x h1 h2 => m_laws_eqRelation x.1 x.2.1 h1 h2)
def c_laws_eqRelationS : Ct := ⟨[(.sl dataT), (.sl dataT)], [false, false], fun x => [], [(false, (.fz .bool))], fun x => (eqR (.sl dataT) x.1 x.2.1, ()), false, none⟩
def W_laws_eqRelationS (a : List dataD) (b : List dataD) (K : Bool × Unit → Prop) : Prop := (cnd ((((List.length a) : Nat) : Int) != (((List.length b) : Nat) : Int)) (K (Bool.false, ())) (loopW (S := ((Int × Unit) × Unit)) (fun s => (fun next => ((inK IntKind.i64 s.1.1) → (cnd (decide (s.1.1 < (((List.length a) : Nat) : Int))) (((0 : Int) ≤ s.1.1) ∧ ((s.1.1 < (((List.length a) : Nat) : Int)) ∧ (((0 : Int) ≤ s.1.1) ∧ ((s.1.1 < (((List.length b) : Nat) : Int)) ∧ (cnd (!(eqR dataT (List.getD a (Int.toNat s.1.1) (([] : List Int), ([] : List (List Int)))) (List.getD b (Int.toNat s.1.1) (([] : List Int), ([] : List (List Int)))))) (K (Bool.false, ())) ((inK IntKind.i64 (s.1.1 + (1 : Int))) ∧ (next (((s.1.1 + (1 : Int)), ()), ())))))))) (K (Bool.true, ())))))) (((0 : Int), ()), ())))
theorem w_laws_eqRelationS (x : denL c_laws_eqRelationS.args) (K : Bool × Unit → Prop) : evF tab (lkp [(40, c_laws_eqRelation)]) (cutL [(6, 508)]) Tryz.f24 (bodyOf Tryz.f24) (.s .n (.s .n (.s (.s .n (.l [(5, (.d (.int .i64)))] [] [0, 1] .n)) .n))) c_laws_eqRelationS x K = W_laws_eqRelationS x.1 x.2.1 K := by kernel_rfl
theorem k_laws_eqRelationS : okC Tryz.f24.ntmps (cutL [(6, 508)]) (bodyOf Tryz.f24) = true := by kernel_rfl
theorem m_laws_eqRelationS (a : List dataD) (b : List dataD) (hok : allP (okL c_laws_eqRelationS.args (a, b, ()))) (hpre : allP (c_laws_eqRelationS.pre (a, b, ()))) : W_laws_eqRelationS a b (fun r => r = c_laws_eqRelationS.res (a, b, ())) := by
  simp only [c_laws_eqRelationS, okL, T.oks, T.ok, ap, allP, true_and, and_true, implies_true] at hok hpre
  try dsimp only [T.den] at hok
  try dsimp only [T.den] at hpre
  unfold W_laws_eqRelationS
  refine cnd_of (fun hc => ?_) (fun hc => ?_)
  · simp only [c_laws_eqRelationS, Prod.mk.injEq, and_true]; rw [eqR_f]; rintro rfl; simp at hc
  have hl : a.length = b.length := by simp at hc; omega
  refine loop_of (fun (s : ((Int × Unit) × Unit)) => 0 ≤ s.1.1 ∧ s.1.1 ≤ a.length ∧ a.take s.1.1.toNat = b.take s.1.1.toNat) (fun (s : ((Int × Unit) × Unit)) => (a.length - s.1.1).toNat) ?_ (by simp)
  rintro ⟨⟨i, _⟩, _⟩ next ⟨h0, h1, h2⟩ hn hin
  simp only at h0 h1 h2 hn ⊢
  refine cnd_d (fun hc => ?_) (fun hc => ?_)
  · have ha := take_c a (([] : List Int), ([] : List (List Int))) h0 hc
    have hb := take_c b (([] : List Int), ([] : List (List Int))) h0 (by omega)
    refine ⟨by omega, by omega, by omega, by omega, cnd_of (fun hd => ?_) (fun hd => ?_)⟩
    · simp only [c_laws_eqRelationS, Prod.mk.injEq, and_true]; rw [eqR_f]; rintro rfl; simp at hd
    · refine ⟨by grind [cnd, nb_eq, inK64], hn _ ⟨(by first | omega | (dsimp only; omega)), (by first | omega | (dsimp only; omega)), ?_⟩ (by first | omega | (dsimp only; omega))⟩
      simp only [Bool.not_eq_false', eqR_iff, bne_eq_false_iff_eq] at hd
      simp only [ha, hb, h2, hd]
  · rw [take_n a (by omega), take_n b (by omega)] at h2
    simp [h2, c_laws_eqRelationS]
theorem ct_laws_eqRelationS : CtOk Tryz.prog 24 c_laws_eqRelationS :=
  ct_by (Φ := lkp [(40, c_laws_eqRelation)]) (good_cons ct_laws_eqRelation good_nil) tab_ok (by kernel_rfl) (fn := Tryz.f24) (c := bodyOf Tryz.f24) (by kernel_rfl) (by kernel_rfl) (by kernel_rfl) c_laws_eqRelationS rfl (.s .n (.s .n (.s (.s .n (.l [(5, (.d (.int .i64)))] [] [0, 1] .n)) .n))) (cutL [(6, 508)]) (by kernel_rfl) (by kernel_rfl) k_laws_eqRelationS (by decide) (fun x K => W_laws_eqRelationS x.1 x.2.1 K) w_laws_eqRelationS (fun x h1 h2 => m_laws_eqRelationS x.1 x.2.1 h1 h2)
def c_laws_eqCategory : Ct := ⟨[CategoryT, CategoryT], [true, true], fun x => [], [(false, (.fz .bool))], fun x => (eqR CategoryT x.1 x.2.1, ()), false, none⟩
def W_laws_eqCategory (a : CategoryD) (b : CategoryD) (K : Bool × Unit → Prop) : Prop := (cnd (a.1 != b.1) (K (Bool.false, ())) (cnd (!(eqR (T.sl (T.int IntKind.i64)) a.2.1 b.2.1)) (K (Bool.false, ())) (cnd (!(eqR (T.sl (T.int IntKind.i64)) a.2.2.1 b.2.2.1)) (K (Bool.false, ())) (cnd (!(eqR (T.sl (T.int IntKind.i64)) a.2.2.2.1 b.2.2.2.1)) (K (Bool.false, ())) (cnd (!(eqR (T.sl (T.sl (T.int IntKind.i64))) a.2.2.2.2 b.2.2.2.2)) (K (Bool.false, ())) (K (Bool.true, ())))))))
theorem w_laws_eqCategory (x : denL c_laws_eqCategory.args) (K : Bool × Unit → Prop) : evF tab (lkp [(12, c_laws_eqInt64S), (67, c_laws_eqInt64SS)]) (cutL []) Tryz.f66 (bodyOf Tryz.f66) .n c_laws_eqCategory x K = W_laws_eqCategory x.1 x.2.1 K := by kernel_rfl
theorem k_laws_eqCategory : okC Tryz.f66.ntmps (cutL []) (bodyOf Tryz.f66) = true := by kernel_rfl
theorem m_laws_eqCategory (a : CategoryD) (b : CategoryD) (hok : allP (okL c_laws_eqCategory.args (a, b, ()))) (hpre : allP (c_laws_eqCategory.pre (a, b, ()))) : W_laws_eqCategory a b (fun r => r = c_laws_eqCategory.res (a, b, ())) := by
  simp only [c_laws_eqCategory, okL, T.oks, T.ok, ap, allP, true_and, and_true, implies_true] at hok hpre
  try dsimp only [T.den] at hok
  try dsimp only [T.den] at hpre
  unfold W_laws_eqCategory
  simp only [c_laws_eqCategory, eqR_p, eqR_int, eqR_bool]
  grind [cnd, nb_eq, inK64]
theorem ct_laws_eqCategory : CtOk Tryz.prog 66 c_laws_eqCategory :=
  ct_by (Φ := lkp [(12, c_laws_eqInt64S), (67, c_laws_eqInt64SS)]) (good_cons ct_laws_eqInt64S (good_cons ct_laws_eqInt64SS good_nil)) tab_ok (by kernel_rfl) (fn := Tryz.f66) (c := bodyOf Tryz.f66) (by kernel_rfl) (by kernel_rfl) (by kernel_rfl) c_laws_eqCategory rfl .n (cutL []) (by kernel_rfl) (by kernel_rfl) k_laws_eqCategory (by decide) (fun x K => W_laws_eqCategory x.1 x.2.1 K) w_laws_eqCategory (fun x h1 h2 => m_laws_eqCategory x.1 x.2.1 h1 h2)
def c_laws_eqSetFunctor : Ct := ⟨[SetFunctorT, SetFunctorT], [true, true], fun x => [], [(false, (.fz .bool))], fun x => (eqR SetFunctorT x.1 x.2.1, ()), false, none⟩
def W_laws_eqSetFunctor (a : SetFunctorD) (b : SetFunctorD) (K : Bool × Unit → Prop) : Prop := (cnd (!(eqR CategoryT a.1 b.1)) (K (Bool.false, ())) (cnd (!(eqR (T.sl (T.int IntKind.i64)) a.2.1 b.2.1)) (K (Bool.false, ())) (cnd (!(eqR (T.sl (T.sl (T.int IntKind.i64))) a.2.2 b.2.2)) (K (Bool.false, ())) (K (Bool.true, ())))))
theorem w_laws_eqSetFunctor (x : denL c_laws_eqSetFunctor.args) (K : Bool × Unit → Prop) : evF tab (lkp [(66, c_laws_eqCategory), (12, c_laws_eqInt64S), (67, c_laws_eqInt64SS)]) (cutL []) Tryz.f39 (bodyOf Tryz.f39) .n c_laws_eqSetFunctor x K = W_laws_eqSetFunctor x.1 x.2.1 K := by kernel_rfl
theorem k_laws_eqSetFunctor : okC Tryz.f39.ntmps (cutL []) (bodyOf Tryz.f39) = true := by kernel_rfl
theorem m_laws_eqSetFunctor (a : SetFunctorD) (b : SetFunctorD) (hok : allP (okL c_laws_eqSetFunctor.args (a, b, ()))) (hpre : allP (c_laws_eqSetFunctor.pre (a, b, ()))) : W_laws_eqSetFunctor a b (fun r => r = c_laws_eqSetFunctor.res (a, b, ())) := by
  simp only [c_laws_eqSetFunctor, okL, T.oks, T.ok, ap, allP, true_and, and_true, implies_true] at hok hpre
  try dsimp only [T.den] at hok
  try dsimp only [T.den] at hpre
  unfold W_laws_eqSetFunctor
  simp only [c_laws_eqSetFunctor, eqR_p, eqR_int, eqR_bool]
  grind [cnd, nb_eq, inK64]
theorem ct_laws_eqSetFunctor : CtOk Tryz.prog 39 c_laws_eqSetFunctor :=
  ct_by (Φ := lkp [(66, c_laws_eqCategory), (12, c_laws_eqInt64S), (67, c_laws_eqInt64SS)]) (good_cons ct_laws_eqCategory (good_cons ct_laws_eqInt64S (good_cons ct_laws_eqInt64SS good_nil))) tab_ok (by kernel_rfl) (fn := Tryz.f39) (c := bodyOf Tryz.f39) (by kernel_rfl) (by kernel_rfl) (by kernel_rfl) c_laws_eqSetFunctor rfl .n (cutL []) (by kernel_rfl) (by kernel_rfl) k_laws_eqSetFunctor (by decide) (fun x K => W_laws_eqSetFunctor x.1 x.2.1 K) w_laws_eqSetFunctor (fun x h1 h2 => m_laws_eqSetFunctor x.1 x.2.1 h1 h2)
def c_laws_eqSetFunctorS : Ct := ⟨[(.sl SetFunctorT), (.sl SetFunctorT)], [false, false], fun x => [], [(false, (.fz .bool))], fun x => (eqR (.sl SetFunctorT) x.1 x.2.1, ()), false, none⟩
def W_laws_eqSetFunctorS (a : List SetFunctorD) (b : List SetFunctorD) (K : Bool × Unit → Prop) : Prop := (cnd ((((List.length a) : Nat) : Int) != (((List.length b) : Nat) : Int)) (K (Bool.false, ())) (loopW (S := ((Int × Unit) × Unit)) (fun s => (fun next => ((inK IntKind.i64 s.1.1) → (cnd (decide (s.1.1 < (((List.length a) : Nat) : Int))) (((0 : Int) ≤ s.1.1) ∧ ((s.1.1 < (((List.length a) : Nat) : Int)) ∧ (((0 : Int) ≤ s.1.1) ∧ ((s.1.1 < (((List.length b) : Nat) : Int)) ∧ (cnd (!(eqR SetFunctorT (List.getD a (Int.toNat s.1.1) (((0 : Int), (([] : List Int), (([] : List Int), (([] : List Int), ([] : List (List Int)))))), (([] : List Int), ([] : List (List Int))))) (List.getD b (Int.toNat s.1.1) (((0 : Int), (([] : List Int), (([] : List Int), (([] : List Int), ([] : List (List Int)))))), (([] : List Int), ([] : List (List Int))))))) (K (Bool.false, ())) ((inK IntKind.i64 (s.1.1 + (1 : Int))) ∧ (next (((s.1.1 + (1 : Int)), ()), ())))))))) (K (Bool.true, ())))))) (((0 : Int), ()), ())))
theorem w_laws_eqSetFunctorS (x : denL c_laws_eqSetFunctorS.args) (K : Bool × Unit → Prop) : evF tab (lkp [(39, c_laws_eqSetFunctor)]) (cutL [(6, 508)]) Tryz.f23 (bodyOf Tryz.f23) (.s .n (.s .n (.s (.s .n (.l [(5, (.d (.int .i64)))] [] [0, 1] .n)) .n))) c_laws_eqSetFunctorS x K = W_laws_eqSetFunctorS x.1 x.2.1 K := by kernel_rfl
theorem k_laws_eqSetFunctorS : okC Tryz.f23.ntmps (cutL [(6, 508)]) (bodyOf Tryz.f23) = true := by kernel_rfl
theorem m_laws_eqSetFunctorS (a : List SetFunctorD) (b : List SetFunctorD) (hok : allP (okL c_laws_eqSetFunctorS.args (a, b, ()))) (hpre : allP (c_laws_eqSetFunctorS.pre (a, b, ()))) : W_laws_eqSetFunctorS a b (fun r => r = c_laws_eqSetFunctorS.res (a, b, ())) := by
  simp only [c_laws_eqSetFunctorS, okL, T.oks, T.ok, ap, allP, true_and, and_true, implies_true] at hok hpre
  try dsimp only [T.den] at hok
  try dsimp only [T.den] at hpre
  unfold W_laws_eqSetFunctorS
  refine cnd_of (fun hc => ?_) (fun hc => ?_)
  · simp only [c_laws_eqSetFunctorS, Prod.mk.injEq, and_true]; rw [eqR_f]; rintro rfl; simp at hc
  have hl : a.length = b.length := by simp at hc; omega
  refine loop_of (fun (s : ((Int × Unit) × Unit)) => 0 ≤ s.1.1 ∧ s.1.1 ≤ a.length ∧ a.take s.1.1.toNat = b.take s.1.1.toNat) (fun (s : ((Int × Unit) × Unit)) => (a.length - s.1.1).toNat) ?_ (by simp)
  rintro ⟨⟨i, _⟩, _⟩ next ⟨h0, h1, h2⟩ hn hin
  simp only at h0 h1 h2 hn ⊢
  refine cnd_d (fun hc => ?_) (fun hc => ?_)
  · have ha := take_c a (((0 : Int), (([] : List Int), (([] : List Int), (([] : List Int), ([] : List (List Int)))))), (([] : List Int), ([] : List (List Int)))) h0 hc
    have hb := take_c b (((0 : Int), (([] : List Int), (([] : List Int), (([] : List Int), ([] : List (List Int)))))), (([] : List Int), ([] : List (List Int)))) h0 (by omega)
    refine ⟨by omega, by omega, by omega, by omega, cnd_of (fun hd => ?_) (fun hd => ?_)⟩
    · simp only [c_laws_eqSetFunctorS, Prod.mk.injEq, and_true]; rw [eqR_f]; rintro rfl; simp at hd
    · refine ⟨by grind [cnd, nb_eq, inK64], hn _ ⟨(by first | omega | (dsimp only; omega)), (by first | omega | (dsimp only; omega)), ?_⟩ (by first | omega | (dsimp only; omega))⟩
      simp only [Bool.not_eq_false', eqR_iff, bne_eq_false_iff_eq] at hd
      simp only [ha, hb, h2, hd]
  · rw [take_n a (by omega), take_n b (by omega)] at h2
    simp [h2, c_laws_eqSetFunctorS]
theorem ct_laws_eqSetFunctorS : CtOk Tryz.prog 23 c_laws_eqSetFunctorS :=
  ct_by (Φ := lkp [(39, c_laws_eqSetFunctor)]) (good_cons ct_laws_eqSetFunctor good_nil) tab_ok (by kernel_rfl) (fn := Tryz.f23) (c := bodyOf Tryz.f23) (by kernel_rfl) (by kernel_rfl) (by kernel_rfl) c_laws_eqSetFunctorS rfl (.s .n (.s .n (.s (.s .n (.l [(5, (.d (.int .i64)))] [] [0, 1] .n)) .n))) (cutL [(6, 508)]) (by kernel_rfl) (by kernel_rfl) k_laws_eqSetFunctorS (by decide) (fun x K => W_laws_eqSetFunctorS x.1 x.2.1 K) w_laws_eqSetFunctorS (fun x h1 h2 => m_laws_eqSetFunctorS x.1 x.2.1 h1 h2)
def c_laws_eqStructure : Ct := ⟨[StructureT, StructureT], [true, true], fun x => [], [(false, (.fz .bool))], fun x => (eqR StructureT x.1 x.2.1, ()), false, none⟩
def W_laws_eqStructure (a : StructureD) (b : StructureD) (K : Bool × Unit → Prop) : Prop := (cnd (!(eqR (T.sl SetFunctorT) a.1 b.1)) (K (Bool.false, ())) (cnd (!(eqR (T.sl dataT) a.2 b.2)) (K (Bool.false, ())) (K (Bool.true, ()))))
theorem w_laws_eqStructure (x : denL c_laws_eqStructure.args) (K : Bool × Unit → Prop) : evF tab (lkp [(24, c_laws_eqRelationS), (23, c_laws_eqSetFunctorS)]) (cutL []) Tryz.f11 (bodyOf Tryz.f11) .n c_laws_eqStructure x K = W_laws_eqStructure x.1 x.2.1 K := by kernel_rfl
theorem k_laws_eqStructure : okC Tryz.f11.ntmps (cutL []) (bodyOf Tryz.f11) = true := by kernel_rfl
theorem m_laws_eqStructure (a : StructureD) (b : StructureD) (hok : allP (okL c_laws_eqStructure.args (a, b, ()))) (hpre : allP (c_laws_eqStructure.pre (a, b, ()))) : W_laws_eqStructure a b (fun r => r = c_laws_eqStructure.res (a, b, ())) := by
  simp only [c_laws_eqStructure, okL, T.oks, T.ok, ap, allP, true_and, and_true, implies_true] at hok hpre
  try dsimp only [T.den] at hok
  try dsimp only [T.den] at hpre
  unfold W_laws_eqStructure
  simp only [c_laws_eqStructure, eqR_p, eqR_int, eqR_bool]
  grind [cnd, nb_eq, inK64]
theorem ct_laws_eqStructure : CtOk Tryz.prog 11 c_laws_eqStructure :=
  ct_by (Φ := lkp [(24, c_laws_eqRelationS), (23, c_laws_eqSetFunctorS)]) (good_cons ct_laws_eqRelationS (good_cons ct_laws_eqSetFunctorS good_nil)) tab_ok (by kernel_rfl) (fn := Tryz.f11) (c := bodyOf Tryz.f11) (by kernel_rfl) (by kernel_rfl) (by kernel_rfl) c_laws_eqStructure rfl .n (cutL []) (by kernel_rfl) (by kernel_rfl) k_laws_eqStructure (by decide) (fun x K => W_laws_eqStructure x.1 x.2.1 K) w_laws_eqStructure (fun x h1 h2 => m_laws_eqStructure x.1 x.2.1 h1 h2)
def c_laws_szInt64S : Ct := ⟨[(.sl (.int .i64)), (.int .i64)], [false, false], fun x => [-4611545280939032576 ≤ x.2.1], [(false, (.fz (.int .i64)))], fun x => (szR (wR (.sl (.int .i64)) x.1) x.2.1, ()), false, none⟩
def W_laws_szInt64S (a : List Int) (left : Int) (K : Int × Unit → Prop) : Prop := ((inK IntKind.i64 (left - (((List.length a) : Nat) : Int))) ∧ (cnd (decide ((left - (((List.length a) : Nat) : Int)) < (0 : Int))) (K ((-(1 : Int)), ())) (K ((left - (((List.length a) : Nat) : Int)), ()))))
theorem w_laws_szInt64S (x : denL c_laws_szInt64S.args) (K : Int × Unit → Prop) : evF tab (lkp []) (cutL []) Tryz.f28 (bodyOf Tryz.f28) .n c_laws_szInt64S x K = W_laws_szInt64S x.1 x.2.1 K := by kernel_rfl
theorem k_laws_szInt64S : okC Tryz.f28.ntmps (cutL []) (bodyOf Tryz.f28) = true := by kernel_rfl
theorem m_laws_szInt64S (a : List Int) (left : Int) (hok : allP (okL c_laws_szInt64S.args (a, left, ()))) (hpre : allP (c_laws_szInt64S.pre (a, left, ()))) : W_laws_szInt64S a left (fun r => r = c_laws_szInt64S.res (a, left, ())) := by
  simp only [c_laws_szInt64S, okL, T.oks, T.ok, ap, allP, true_and, and_true, implies_true] at hok hpre
  try dsimp only [T.den] at hok
  try dsimp only [T.den] at hpre
  unfold W_laws_szInt64S
  simp only [c_laws_szInt64S, wR_ints]
  grind [cnd, nb_eq, inK64, szR]
theorem ct_laws_szInt64S : CtOk Tryz.prog 28 c_laws_szInt64S :=
  ct_by (Φ := lkp []) good_nil tab_ok (by kernel_rfl) (fn := Tryz.f28) (c := bodyOf Tryz.f28) (by kernel_rfl) (by kernel_rfl) (by kernel_rfl) c_laws_szInt64S rfl .n (cutL []) (by kernel_rfl) (by kernel_rfl) k_laws_szInt64S (by decide) (fun x K => W_laws_szInt64S x.1 x.2.1 K) w_laws_szInt64S (fun x h1 h2 => m_laws_szInt64S x.1 x.2.1 h1 h2)
def c_laws_szNode : Ct := ⟨[ruleT, (.int .i64)], [true, false], fun x => [-4611545280939032576 ≤ x.2.1], [(false, (.fz (.int .i64)))], fun x => (szR (wR ruleT x.1) x.2.1, ()), false, none⟩
def W_laws_szNode (a : ruleD) (left : Int) (K : Int × Unit → Prop) : Prop := (((-(4611545280939032576 : Int)) ≤ left) ∧ (cnd (decide ((szR (wR (T.sl (T.int IntKind.i64)) a.2.2) left) < (0 : Int))) (K ((-(1 : Int)), ())) (K ((szR (wR (T.sl (T.int IntKind.i64)) a.2.2) left), ()))))
theorem w_laws_szNode (x : denL c_laws_szNode.args) (K : Int × Unit → Prop) : evF tab (lkp [(28, c_laws_szInt64S)]) (cutL []) Tryz.f16 (bodyOf Tryz.f16) .n c_laws_szNode x K = W_laws_szNode x.1 x.2.1 K := by kernel_rfl
theorem k_laws_szNode : okC Tryz.f16.ntmps (cutL []) (bodyOf Tryz.f16) = true := by kernel_rfl
theorem m_laws_szNode (a : ruleD) (left : Int) (hok : allP (okL c_laws_szNode.args (a, left, ()))) (hpre : allP (c_laws_szNode.pre (a, left, ()))) : W_laws_szNode a left (fun r => r = c_laws_szNode.res (a, left, ())) := by
  simp only [c_laws_szNode, okL, T.oks, T.ok, ap, allP, true_and, and_true, implies_true] at hok hpre
  try dsimp only [T.den] at hok
  try dsimp only [T.den] at hpre
  unfold W_laws_szNode
  simp only [c_laws_szNode, wR_p, wR_int, wR_bool, Nat.zero_add, Nat.add_zero]
  grind [cnd, nb_eq, inK64, szR]
theorem ct_laws_szNode : CtOk Tryz.prog 16 c_laws_szNode :=
  ct_by (Φ := lkp [(28, c_laws_szInt64S)]) (good_cons ct_laws_szInt64S good_nil) tab_ok (by kernel_rfl) (fn := Tryz.f16) (c := bodyOf Tryz.f16) (by kernel_rfl) (by kernel_rfl) (by kernel_rfl) c_laws_szNode rfl .n (cutL []) (by kernel_rfl) (by kernel_rfl) k_laws_szNode (by decide) (fun x K => W_laws_szNode x.1 x.2.1 K) w_laws_szNode (fun x h1 h2 => m_laws_szNode x.1 x.2.1 h1 h2)
def c_laws_szNodeS : Ct := ⟨[(.sl ruleT), (.int .i64)], [false, false], fun x => [-4611404543450677248 ≤ x.2.1], [(false, (.fz (.int .i64)))], fun x => (szR (wR (.sl ruleT) x.1) x.2.1, ()), false, none⟩
def W_laws_szNodeS (a : List ruleD) (left : Int) (K : Int × Unit → Prop) : Prop := ((inK IntKind.i64 (left - (((List.length a) : Nat) : Int))) ∧ (cnd (decide ((left - (((List.length a) : Nat) : Int)) < (0 : Int))) (K ((-(1 : Int)), ())) (loopW (S := ((Int × (Int × Unit)) × Unit)) (fun s => (fun next => ((inK IntKind.i64 s.1.1) → ((inK IntKind.i64 s.1.2.1) → (cnd (decide (s.1.2.1 < (((List.length a) : Nat) : Int))) (((0 : Int) ≤ s.1.2.1) ∧ ((s.1.2.1 < (((List.length a) : Nat) : Int)) ∧ (((-(4611545280939032576 : Int)) ≤ s.1.1) ∧ (cnd (decide ((szR (wR ruleT (List.getD a (Int.toNat s.1.2.1) ((0 : Int), ((0 : Int), ([] : List Int))))) s.1.1) < (0 : Int))) (K ((-(1 : Int)), ())) ((inK IntKind.i64 (s.1.2.1 + (1 : Int))) ∧ (next (((szR (wR ruleT (List.getD a (Int.toNat s.1.2.1) ((0 : Int), ((0 : Int), ([] : List Int))))) s.1.1), ((s.1.2.1 + (1 : Int)), ())), ()))))))) (K (s.1.1, ()))))))) (((left - (((List.length a) : Nat) : Int)), ((0 : Int), ())), ()))))
theorem w_laws_szNodeS (x : denL c_laws_szNodeS.args) (K : Int × Unit → Prop) : evF tab (lkp [(16, c_laws_szNode)]) (cutL []) Tryz.f5 (bodyOf Tryz.f5) (.s .n (.s .n (.s .n (.s (.s .n (.l [(1, (.d (.int .i64))), (5, (.d (.int .i64)))] [] [0] .n)) .n)))) c_laws_szNodeS x K = W_laws_szNodeS x.1 x.2.1 K := by kernel_rfl
theorem k_laws_szNodeS : okC Tryz.f5.ntmps (cutL []) (bodyOf Tryz.f5) = true := by kernel_rfl
theorem m_laws_szNodeS (a : List ruleD) (left : Int) (hok : allP (okL c_laws_szNodeS.args (a, left, ()))) (hpre : allP (c_laws_szNodeS.pre (a, left, ()))) : W_laws_szNodeS a left (fun r => r = c_laws_szNodeS.res (a, left, ())) := by
  simp only [c_laws_szNodeS, okL, T.oks, T.ok, ap, allP, true_and, and_true, implies_true] at hok hpre
  try dsimp only [T.den] at hok
  try dsimp only [T.den] at hpre
  unfold W_laws_szNodeS
  have hr := szR_ge (x := a.length) (r := (a.map (wR ruleT)).sum) (l := left)
  refine ⟨by grind [cnd, nb_eq, inK64], cnd_d (fun hc => ?_) (fun hc => ?_)⟩
  · simp only [c_laws_szNodeS]; rw [wR_sl, szR_lt (x := a.length) (by omega)]
  replace hr := hr (by omega)
  rw [szR_val (x := a.length) (by omega)] at hr
  refine loop_of (fun (s : ((Int × (Int × Unit)) × Unit)) => 0 ≤ s.1.1 ∧ 0 ≤ s.1.2.1 ∧ s.1.2.1 ≤ a.length ∧ szR (wR (.sl ruleT) a) left = szR ((a.drop s.1.2.1.toNat).map (wR ruleT)).sum s.1.1) (fun (s : ((Int × (Int × Unit)) × Unit)) => (a.length - s.1.2.1).toNat) ?_ ⟨(by first | omega | (dsimp only; omega)), by simp, by simp, by rw [wR_sl]; simpa using hr⟩
  rintro ⟨⟨l, i, _⟩, _⟩ next ⟨h0, h1, h2, h3⟩ hn hin hl
  simp only at h0 h1 h2 h3 hn ⊢
  refine cnd_d (fun hc => ?_) (fun hc => ?_)
  · rw [drop_c a ((0 : Int), ((0 : Int), ([] : List Int))) h1 hc, List.map_cons, List.sum_cons] at h3
    refine ⟨by omega, by omega, by omega, cnd_d (fun hd => ?_) (fun hd => ?_)⟩
    · rw [szR_neg] at hd
      rw [szR_lt hd] at h3
      simp only [c_laws_szNodeS]; rw [h3]
    · rw [szR_neg] at hd
      rw [szR_ge hd] at h3
      exact ⟨by grind [cnd, nb_eq, inK64], hn _ ⟨by simp only; rw [szR_val hd]; omega, (by first | omega | (dsimp only; omega)), (by first | omega | (dsimp only; omega)), h3⟩ (by first | omega | (dsimp only; omega))⟩
  · rw [drop_n a (by omega)] at h3
    simp only [List.map_nil, List.sum_nil] at h3
    rw [szR_zero h0] at h3
    simp only [c_laws_szNodeS]; rw [h3]
theorem ct_laws_szNodeS : CtOk Tryz.prog 5 c_laws_szNodeS :=
  ct_by (Φ := lkp [(16, c_laws_szNode)]) (good_cons ct_laws_szNode good_nil) tab_ok (by kernel_rfl) (fn := Tryz.f5) (c := bodyOf Tryz.f5) (by kernel_rfl) (by kernel_rfl) (by kernel_rfl) c_laws_szNodeS rfl (.s .n (.s .n (.s .n (.s (.s .n (.l [(1, (.d (.int .i64))), (5, (.d (.int .i64)))] [] [0] .n)) .n)))) (cutL []) (by kernel_rfl) (by kernel_rfl) k_laws_szNodeS (by decide) (fun x K => W_laws_szNodeS x.1 x.2.1 K) w_laws_szNodeS (fun x h1 h2 => m_laws_szNodeS x.1 x.2.1 h1 h2)
def c_laws_szInt64SS : Ct := ⟨[(.sl (.sl (.int .i64))), (.int .i64)], [false, false], fun x => [-4611404543450677248 ≤ x.2.1], [(false, (.fz (.int .i64)))], fun x => (szR (wR (.sl (.sl (.int .i64))) x.1) x.2.1, ()), false, none⟩
def W_laws_szInt64SS (a : List (List Int)) (left : Int) (K : Int × Unit → Prop) : Prop := ((inK IntKind.i64 (left - (((List.length a) : Nat) : Int))) ∧ (cnd (decide ((left - (((List.length a) : Nat) : Int)) < (0 : Int))) (K ((-(1 : Int)), ())) (loopW (S := ((Int × (Int × Unit)) × Unit)) (fun s => (fun next => ((inK IntKind.i64 s.1.1) → ((inK IntKind.i64 s.1.2.1) → (cnd (decide (s.1.2.1 < (((List.length a) : Nat) : Int))) (((0 : Int) ≤ s.1.2.1) ∧ ((s.1.2.1 < (((List.length a) : Nat) : Int)) ∧ (((-(4611545280939032576 : Int)) ≤ s.1.1) ∧ (cnd (decide ((szR (wR (T.sl (T.int IntKind.i64)) (List.getD a (Int.toNat s.1.2.1) ([] : List Int))) s.1.1) < (0 : Int))) (K ((-(1 : Int)), ())) ((inK IntKind.i64 (s.1.2.1 + (1 : Int))) ∧ (next (((szR (wR (T.sl (T.int IntKind.i64)) (List.getD a (Int.toNat s.1.2.1) ([] : List Int))) s.1.1), ((s.1.2.1 + (1 : Int)), ())), ()))))))) (K (s.1.1, ()))))))) (((left - (((List.length a) : Nat) : Int)), ((0 : Int), ())), ()))))
theorem w_laws_szInt64SS (x : denL c_laws_szInt64SS.args) (K : Int × Unit → Prop) : evF tab (lkp [(28, c_laws_szInt64S)]) (cutL []) Tryz.f42 (bodyOf Tryz.f42) (.s .n (.s .n (.s .n (.s (.s .n (.l [(1, (.d (.int .i64))), (5, (.d (.int .i64)))] [] [0] .n)) .n)))) c_laws_szInt64SS x K = W_laws_szInt64SS x.1 x.2.1 K := by kernel_rfl
theorem k_laws_szInt64SS : okC Tryz.f42.ntmps (cutL []) (bodyOf Tryz.f42) = true := by kernel_rfl
theorem m_laws_szInt64SS (a : List (List Int)) (left : Int) (hok : allP (okL c_laws_szInt64SS.args (a, left, ()))) (hpre : allP (c_laws_szInt64SS.pre (a, left, ()))) : W_laws_szInt64SS a left (fun r => r = c_laws_szInt64SS.res (a, left, ())) := by
  simp only [c_laws_szInt64SS, okL, T.oks, T.ok, ap, allP, true_and, and_true, implies_true] at hok hpre
  try dsimp only [T.den] at hok
  try dsimp only [T.den] at hpre
  unfold W_laws_szInt64SS
  have hr := szR_ge (x := a.length) (r := (a.map (wR (.sl (.int .i64)))).sum) (l := left)
  refine ⟨by grind [cnd, nb_eq, inK64], cnd_d (fun hc => ?_) (fun hc => ?_)⟩
  · simp only [c_laws_szInt64SS]; rw [wR_sl, szR_lt (x := a.length) (by omega)]
  replace hr := hr (by omega)
  rw [szR_val (x := a.length) (by omega)] at hr
  refine loop_of (fun (s : ((Int × (Int × Unit)) × Unit)) => 0 ≤ s.1.1 ∧ 0 ≤ s.1.2.1 ∧ s.1.2.1 ≤ a.length ∧ szR (wR (.sl (.sl (.int .i64))) a) left = szR ((a.drop s.1.2.1.toNat).map (wR (.sl (.int .i64)))).sum s.1.1) (fun (s : ((Int × (Int × Unit)) × Unit)) => (a.length - s.1.2.1).toNat) ?_ ⟨(by first | omega | (dsimp only; omega)), by simp, by simp, by rw [wR_sl]; simpa using hr⟩
  rintro ⟨⟨l, i, _⟩, _⟩ next ⟨h0, h1, h2, h3⟩ hn hin hl
  simp only at h0 h1 h2 h3 hn ⊢
  refine cnd_d (fun hc => ?_) (fun hc => ?_)
  · rw [drop_c a ([] : List Int) h1 hc, List.map_cons, List.sum_cons] at h3
    refine ⟨by omega, by omega, by omega, cnd_d (fun hd => ?_) (fun hd => ?_)⟩
    · rw [szR_neg] at hd
      rw [szR_lt hd] at h3
      simp only [c_laws_szInt64SS]; rw [h3]
    · rw [szR_neg] at hd
      rw [szR_ge hd] at h3
      exact ⟨by grind [cnd, nb_eq, inK64], hn _ ⟨by simp only; rw [szR_val hd]; omega, (by first | omega | (dsimp only; omega)), (by first | omega | (dsimp only; omega)), h3⟩ (by first | omega | (dsimp only; omega))⟩
  · rw [drop_n a (by omega)] at h3
    simp only [List.map_nil, List.sum_nil] at h3
    rw [szR_zero h0] at h3
    simp only [c_laws_szInt64SS]; rw [h3]
theorem ct_laws_szInt64SS : CtOk Tryz.prog 42 c_laws_szInt64SS :=
  ct_by (Φ := lkp [(28, c_laws_szInt64S)]) (good_cons ct_laws_szInt64S good_nil) tab_ok (by kernel_rfl) (fn := Tryz.f42) (c := bodyOf Tryz.f42) (by kernel_rfl) (by kernel_rfl) (by kernel_rfl) c_laws_szInt64SS rfl (.s .n (.s .n (.s .n (.s (.s .n (.l [(1, (.d (.int .i64))), (5, (.d (.int .i64)))] [] [0] .n)) .n)))) (cutL []) (by kernel_rfl) (by kernel_rfl) k_laws_szInt64SS (by decide) (fun x K => W_laws_szInt64SS x.1 x.2.1 K) w_laws_szInt64SS (fun x h1 h2 => m_laws_szInt64SS x.1 x.2.1 h1 h2)
def c_laws_szRelation : Ct := ⟨[dataT, (.int .i64)], [true, false], fun x => [-4611404543450677248 ≤ x.2.1], [(false, (.fz (.int .i64)))], fun x => (szR (wR dataT x.1) x.2.1, ()), false, none⟩
def W_laws_szRelation (a : dataD) (left : Int) (K : Int × Unit → Prop) : Prop := (((-(4611545280939032576 : Int)) ≤ left) ∧ (cnd (decide ((szR (wR (T.sl (T.int IntKind.i64)) a.1) left) < (0 : Int))) (K ((-(1 : Int)), ())) (((-(4611404543450677248 : Int)) ≤ (szR (wR (T.sl (T.int IntKind.i64)) a.1) left)) ∧ (cnd (decide ((szR (wR (T.sl (T.sl (T.int IntKind.i64))) a.2) (szR (wR (T.sl (T.int IntKind.i64)) a.1) left)) < (0 : Int))) (K ((-(1 : Int)), ())) (K ((szR (wR (T.sl (T.sl (T.int IntKind.i64))) a.2) (szR (wR (T.sl (T.int IntKind.i64)) a.1) left)), ()))))))
theorem w_laws_szRelation (x : denL c_laws_szRelation.args) (K : Int × Unit → Prop) : evF tab (lkp [(28, c_laws_szInt64S), (42, c_laws_szInt64SS)]) (cutL []) Tryz.f27 (bodyOf Tryz.f27) .n c_laws_szRelation x K = W_laws_szRelation x.1 x.2.1 K := by kernel_rfl
theorem k_laws_szRelation : okC Tryz.f27.ntmps (cutL []) (bodyOf Tryz.f27) = true := by kernel_rfl
theorem m_laws_szRelation (a : dataD) (left : Int) (hok : allP (okL c_laws_szRelation.args (a, left, ()))) (hpre : allP (c_laws_szRelation.pre (a, left, ()))) : W_laws_szRelation a left (fun r => r = c_laws_szRelation.res (a, left, ())) := by
  simp only [c_laws_szRelation, okL, T.oks, T.ok, ap, allP, true_and, and_true, implies_true] at hok hpre
  try dsimp only [T.den] at hok
  try dsimp only [T.den] at hpre
  unfold W_laws_szRelation
  simp only [c_laws_szRelation, wR_p, wR_int, wR_bool, Nat.zero_add, Nat.add_zero]
  grind [cnd, nb_eq, inK64, szR]
theorem ct_laws_szRelation : CtOk Tryz.prog 27 c_laws_szRelation :=
  ct_by (Φ := lkp [(28, c_laws_szInt64S), (42, c_laws_szInt64SS)]) (good_cons ct_laws_szInt64S (good_cons ct_laws_szInt64SS good_nil)) tab_ok (by kernel_rfl) (fn := Tryz.f27) (c := bodyOf Tryz.f27) (by kernel_rfl) (by kernel_rfl) (by kernel_rfl) c_laws_szRelation rfl .n (cutL []) (by kernel_rfl) (by kernel_rfl) k_laws_szRelation (by decide) (fun x K => W_laws_szRelation x.1 x.2.1 K) w_laws_szRelation (fun x h1 h2 => m_laws_szRelation x.1 x.2.1 h1 h2)
def c_laws_szRelationS : Ct := ⟨[(.sl dataT), (.int .i64)], [false, false], fun x => [-4611263805962321920 ≤ x.2.1], [(false, (.fz (.int .i64)))], fun x => (szR (wR (.sl dataT) x.1) x.2.1, ()), false, none⟩
def W_laws_szRelationS (a : List dataD) (left : Int) (K : Int × Unit → Prop) : Prop := ((inK IntKind.i64 (left - (((List.length a) : Nat) : Int))) ∧ (cnd (decide ((left - (((List.length a) : Nat) : Int)) < (0 : Int))) (K ((-(1 : Int)), ())) (loopW (S := ((Int × (Int × Unit)) × Unit)) (fun s => (fun next => ((inK IntKind.i64 s.1.1) → ((inK IntKind.i64 s.1.2.1) → (cnd (decide (s.1.2.1 < (((List.length a) : Nat) : Int))) (((0 : Int) ≤ s.1.2.1) ∧ ((s.1.2.1 < (((List.length a) : Nat) : Int)) ∧ (((-(4611404543450677248 : Int)) ≤ s.1.1) ∧ (cnd (decide ((szR (wR dataT (List.getD a (Int.toNat s.1.2.1) (([] : List Int), ([] : List (List Int))))) s.1.1) < (0 : Int))) (K ((-(1 : Int)), ())) ((inK IntKind.i64 (s.1.2.1 + (1 : Int))) ∧ (next (((szR (wR dataT (List.getD a (Int.toNat s.1.2.1) (([] : List Int), ([] : List (List Int))))) s.1.1), ((s.1.2.1 + (1 : Int)), ())), ()))))))) (K (s.1.1, ()))))))) (((left - (((List.length a) : Nat) : Int)), ((0 : Int), ())), ()))))
theorem w_laws_szRelationS (x : denL c_laws_szRelationS.args) (K : Int × Unit → Prop) : evF tab (lkp [(27, c_laws_szRelation)]) (cutL []) Tryz.f15 (bodyOf Tryz.f15) (.s .n (.s .n (.s .n (.s (.s .n (.l [(1, (.d (.int .i64))), (5, (.d (.int .i64)))] [] [0] .n)) .n)))) c_laws_szRelationS x K = W_laws_szRelationS x.1 x.2.1 K := by kernel_rfl
theorem k_laws_szRelationS : okC Tryz.f15.ntmps (cutL []) (bodyOf Tryz.f15) = true := by kernel_rfl
theorem m_laws_szRelationS (a : List dataD) (left : Int) (hok : allP (okL c_laws_szRelationS.args (a, left, ()))) (hpre : allP (c_laws_szRelationS.pre (a, left, ()))) : W_laws_szRelationS a left (fun r => r = c_laws_szRelationS.res (a, left, ())) := by
  simp only [c_laws_szRelationS, okL, T.oks, T.ok, ap, allP, true_and, and_true, implies_true] at hok hpre
  try dsimp only [T.den] at hok
  try dsimp only [T.den] at hpre
  unfold W_laws_szRelationS
  have hr := szR_ge (x := a.length) (r := (a.map (wR dataT)).sum) (l := left)
  refine ⟨by grind [cnd, nb_eq, inK64], cnd_d (fun hc => ?_) (fun hc => ?_)⟩
  · simp only [c_laws_szRelationS]; rw [wR_sl, szR_lt (x := a.length) (by omega)]
  replace hr := hr (by omega)
  rw [szR_val (x := a.length) (by omega)] at hr
  refine loop_of (fun (s : ((Int × (Int × Unit)) × Unit)) => 0 ≤ s.1.1 ∧ 0 ≤ s.1.2.1 ∧ s.1.2.1 ≤ a.length ∧ szR (wR (.sl dataT) a) left = szR ((a.drop s.1.2.1.toNat).map (wR dataT)).sum s.1.1) (fun (s : ((Int × (Int × Unit)) × Unit)) => (a.length - s.1.2.1).toNat) ?_ ⟨(by first | omega | (dsimp only; omega)), by simp, by simp, by rw [wR_sl]; simpa using hr⟩
  rintro ⟨⟨l, i, _⟩, _⟩ next ⟨h0, h1, h2, h3⟩ hn hin hl
  simp only at h0 h1 h2 h3 hn ⊢
  refine cnd_d (fun hc => ?_) (fun hc => ?_)
  · rw [drop_c a (([] : List Int), ([] : List (List Int))) h1 hc, List.map_cons, List.sum_cons] at h3
    refine ⟨by omega, by omega, by omega, cnd_d (fun hd => ?_) (fun hd => ?_)⟩
    · rw [szR_neg] at hd
      rw [szR_lt hd] at h3
      simp only [c_laws_szRelationS]; rw [h3]
    · rw [szR_neg] at hd
      rw [szR_ge hd] at h3
      exact ⟨by grind [cnd, nb_eq, inK64], hn _ ⟨by simp only; rw [szR_val hd]; omega, (by first | omega | (dsimp only; omega)), (by first | omega | (dsimp only; omega)), h3⟩ (by first | omega | (dsimp only; omega))⟩
  · rw [drop_n a (by omega)] at h3
    simp only [List.map_nil, List.sum_nil] at h3
    rw [szR_zero h0] at h3
    simp only [c_laws_szRelationS]; rw [h3]
theorem ct_laws_szRelationS : CtOk Tryz.prog 15 c_laws_szRelationS :=
  ct_by (Φ := lkp [(27, c_laws_szRelation)]) (good_cons ct_laws_szRelation good_nil) tab_ok (by kernel_rfl) (fn := Tryz.f15) (c := bodyOf Tryz.f15) (by kernel_rfl) (by kernel_rfl) (by kernel_rfl) c_laws_szRelationS rfl (.s .n (.s .n (.s .n (.s (.s .n (.l [(1, (.d (.int .i64))), (5, (.d (.int .i64)))] [] [0] .n)) .n)))) (cutL []) (by kernel_rfl) (by kernel_rfl) k_laws_szRelationS (by decide) (fun x K => W_laws_szRelationS x.1 x.2.1 K) w_laws_szRelationS (fun x h1 h2 => m_laws_szRelationS x.1 x.2.1 h1 h2)
def c_laws_szCategory : Ct := ⟨[CategoryT, (.int .i64)], [true, false], fun x => [-4611404543450677248 ≤ x.2.1], [(false, (.fz (.int .i64)))], fun x => (szR (wR CategoryT x.1) x.2.1, ()), false, none⟩
def W_laws_szCategory (a : CategoryD) (left : Int) (K : Int × Unit → Prop) : Prop := (((-(4611545280939032576 : Int)) ≤ left) ∧ (cnd (decide ((szR (wR (T.sl (T.int IntKind.i64)) a.2.1) left) < (0 : Int))) (K ((-(1 : Int)), ())) (((-(4611545280939032576 : Int)) ≤ (szR (wR (T.sl (T.int IntKind.i64)) a.2.1) left)) ∧ (cnd (decide ((szR (wR (T.sl (T.int IntKind.i64)) a.2.2.1) (szR (wR (T.sl (T.int IntKind.i64)) a.2.1) left)) < (0 : Int))) (K ((-(1 : Int)), ())) (((-(4611545280939032576 : Int)) ≤ (szR (wR (T.sl (T.int IntKind.i64)) a.2.2.1) (szR (wR (T.sl (T.int IntKind.i64)) a.2.1) left))) ∧ (cnd (decide ((szR (wR (T.sl (T.int IntKind.i64)) a.2.2.2.1) (szR (wR (T.sl (T.int IntKind.i64)) a.2.2.1) (szR (wR (T.sl (T.int IntKind.i64)) a.2.1) left))) < (0 : Int))) (K ((-(1 : Int)), ())) (((-(4611404543450677248 : Int)) ≤ (szR (wR (T.sl (T.int IntKind.i64)) a.2.2.2.1) (szR (wR (T.sl (T.int IntKind.i64)) a.2.2.1) (szR (wR (T.sl (T.int IntKind.i64)) a.2.1) left)))) ∧ (cnd (decide ((szR (wR (T.sl (T.sl (T.int IntKind.i64))) a.2.2.2.2) (szR (wR (T.sl (T.int IntKind.i64)) a.2.2.2.1) (szR (wR (T.sl (T.int IntKind.i64)) a.2.2.1) (szR (wR (T.sl (T.int IntKind.i64)) a.2.1) left)))) < (0 : Int))) (K ((-(1 : Int)), ())) (K ((szR (wR (T.sl (T.sl (T.int IntKind.i64))) a.2.2.2.2) (szR (wR (T.sl (T.int IntKind.i64)) a.2.2.2.1) (szR (wR (T.sl (T.int IntKind.i64)) a.2.2.1) (szR (wR (T.sl (T.int IntKind.i64)) a.2.1) left)))), ()))))))))))
theorem w_laws_szCategory (x : denL c_laws_szCategory.args) (K : Int × Unit → Prop) : evF tab (lkp [(28, c_laws_szInt64S), (42, c_laws_szInt64SS)]) (cutL []) Tryz.f41 (bodyOf Tryz.f41) .n c_laws_szCategory x K = W_laws_szCategory x.1 x.2.1 K := by kernel_rfl
theorem k_laws_szCategory : okC Tryz.f41.ntmps (cutL []) (bodyOf Tryz.f41) = true := by kernel_rfl
theorem m_laws_szCategory (a : CategoryD) (left : Int) (hok : allP (okL c_laws_szCategory.args (a, left, ()))) (hpre : allP (c_laws_szCategory.pre (a, left, ()))) : W_laws_szCategory a left (fun r => r = c_laws_szCategory.res (a, left, ())) := by
  simp only [c_laws_szCategory, okL, T.oks, T.ok, ap, allP, true_and, and_true, implies_true] at hok hpre
  try dsimp only [T.den] at hok
  try dsimp only [T.den] at hpre
  unfold W_laws_szCategory
  simp only [c_laws_szCategory, wR_p, wR_int, wR_bool, Nat.zero_add, Nat.add_zero]
  grind [cnd, nb_eq, inK64, szR]
theorem ct_laws_szCategory : CtOk Tryz.prog 41 c_laws_szCategory :=
  ct_by (Φ := lkp [(28, c_laws_szInt64S), (42, c_laws_szInt64SS)]) (good_cons ct_laws_szInt64S (good_cons ct_laws_szInt64SS good_nil)) tab_ok (by kernel_rfl) (fn := Tryz.f41) (c := bodyOf Tryz.f41) (by kernel_rfl) (by kernel_rfl) (by kernel_rfl) c_laws_szCategory rfl .n (cutL []) (by kernel_rfl) (by kernel_rfl) k_laws_szCategory (by decide) (fun x K => W_laws_szCategory x.1 x.2.1 K) w_laws_szCategory (fun x h1 h2 => m_laws_szCategory x.1 x.2.1 h1 h2)
def c_laws_szSetFunctor : Ct := ⟨[SetFunctorT, (.int .i64)], [true, false], fun x => [-4611404543450677248 ≤ x.2.1], [(false, (.fz (.int .i64)))], fun x => (szR (wR SetFunctorT x.1) x.2.1, ()), false, none⟩
def W_laws_szSetFunctor (a : SetFunctorD) (left : Int) (K : Int × Unit → Prop) : Prop := (((-(4611404543450677248 : Int)) ≤ left) ∧ (cnd (decide ((szR (wR CategoryT a.1) left) < (0 : Int))) (K ((-(1 : Int)), ())) (((-(4611545280939032576 : Int)) ≤ (szR (wR CategoryT a.1) left)) ∧ (cnd (decide ((szR (wR (T.sl (T.int IntKind.i64)) a.2.1) (szR (wR CategoryT a.1) left)) < (0 : Int))) (K ((-(1 : Int)), ())) (((-(4611404543450677248 : Int)) ≤ (szR (wR (T.sl (T.int IntKind.i64)) a.2.1) (szR (wR CategoryT a.1) left))) ∧ (cnd (decide ((szR (wR (T.sl (T.sl (T.int IntKind.i64))) a.2.2) (szR (wR (T.sl (T.int IntKind.i64)) a.2.1) (szR (wR CategoryT a.1) left))) < (0 : Int))) (K ((-(1 : Int)), ())) (K ((szR (wR (T.sl (T.sl (T.int IntKind.i64))) a.2.2) (szR (wR (T.sl (T.int IntKind.i64)) a.2.1) (szR (wR CategoryT a.1) left))), ()))))))))
theorem w_laws_szSetFunctor (x : denL c_laws_szSetFunctor.args) (K : Int × Unit → Prop) : evF tab (lkp [(41, c_laws_szCategory), (28, c_laws_szInt64S), (42, c_laws_szInt64SS)]) (cutL []) Tryz.f26 (bodyOf Tryz.f26) .n c_laws_szSetFunctor x K = W_laws_szSetFunctor x.1 x.2.1 K := by kernel_rfl
theorem k_laws_szSetFunctor : okC Tryz.f26.ntmps (cutL []) (bodyOf Tryz.f26) = true := by kernel_rfl
theorem m_laws_szSetFunctor (a : SetFunctorD) (left : Int) (hok : allP (okL c_laws_szSetFunctor.args (a, left, ()))) (hpre : allP (c_laws_szSetFunctor.pre (a, left, ()))) : W_laws_szSetFunctor a left (fun r => r = c_laws_szSetFunctor.res (a, left, ())) := by
  simp only [c_laws_szSetFunctor, okL, T.oks, T.ok, ap, allP, true_and, and_true, implies_true] at hok hpre
  try dsimp only [T.den] at hok
  try dsimp only [T.den] at hpre
  unfold W_laws_szSetFunctor
  simp only [c_laws_szSetFunctor, wR_p, wR_int, wR_bool, Nat.zero_add, Nat.add_zero]
  grind [cnd, nb_eq, inK64, szR]
theorem ct_laws_szSetFunctor : CtOk Tryz.prog 26 c_laws_szSetFunctor :=
  ct_by (Φ := lkp [(41, c_laws_szCategory), (28, c_laws_szInt64S), (42, c_laws_szInt64SS)]) (good_cons ct_laws_szCategory (good_cons ct_laws_szInt64S (good_cons ct_laws_szInt64SS good_nil))) tab_ok (by kernel_rfl) (fn := Tryz.f26) (c := bodyOf Tryz.f26) (by kernel_rfl) (by kernel_rfl) (by kernel_rfl) c_laws_szSetFunctor rfl .n (cutL []) (by kernel_rfl) (by kernel_rfl) k_laws_szSetFunctor (by decide) (fun x K => W_laws_szSetFunctor x.1 x.2.1 K) w_laws_szSetFunctor (fun x h1 h2 => m_laws_szSetFunctor x.1 x.2.1 h1 h2)
def c_laws_szSetFunctorS : Ct := ⟨[(.sl SetFunctorT), (.int .i64)], [false, false], fun x => [-4611263805962321920 ≤ x.2.1], [(false, (.fz (.int .i64)))], fun x => (szR (wR (.sl SetFunctorT) x.1) x.2.1, ()), false, none⟩
def W_laws_szSetFunctorS (a : List SetFunctorD) (left : Int) (K : Int × Unit → Prop) : Prop := ((inK IntKind.i64 (left - (((List.length a) : Nat) : Int))) ∧ (cnd (decide ((left - (((List.length a) : Nat) : Int)) < (0 : Int))) (K ((-(1 : Int)), ())) (loopW (S := ((Int × (Int × Unit)) × Unit)) (fun s => (fun next => ((inK IntKind.i64 s.1.1) → ((inK IntKind.i64 s.1.2.1) → (cnd (decide (s.1.2.1 < (((List.length a) : Nat) : Int))) (((0 : Int) ≤ s.1.2.1) ∧ ((s.1.2.1 < (((List.length a) : Nat) : Int)) ∧ (((-(4611404543450677248 : Int)) ≤ s.1.1) ∧ (cnd (decide ((szR (wR SetFunctorT (List.getD a (Int.toNat s.1.2.1) (((0 : Int), (([] : List Int), (([] : List Int), (([] : List Int), ([] : List (List Int)))))), (([] : List Int), ([] : List (List Int)))))) s.1.1) < (0 : Int))) (K ((-(1 : Int)), ())) ((inK IntKind.i64 (s.1.2.1 + (1 : Int))) ∧ (next (((szR (wR SetFunctorT (List.getD a (Int.toNat s.1.2.1) (((0 : Int), (([] : List Int), (([] : List Int), (([] : List Int), ([] : List (List Int)))))), (([] : List Int), ([] : List (List Int)))))) s.1.1), ((s.1.2.1 + (1 : Int)), ())), ()))))))) (K (s.1.1, ()))))))) (((left - (((List.length a) : Nat) : Int)), ((0 : Int), ())), ()))))
theorem w_laws_szSetFunctorS (x : denL c_laws_szSetFunctorS.args) (K : Int × Unit → Prop) : evF tab (lkp [(26, c_laws_szSetFunctor)]) (cutL []) Tryz.f14 (bodyOf Tryz.f14) (.s .n (.s .n (.s .n (.s (.s .n (.l [(1, (.d (.int .i64))), (5, (.d (.int .i64)))] [] [0] .n)) .n)))) c_laws_szSetFunctorS x K = W_laws_szSetFunctorS x.1 x.2.1 K := by kernel_rfl
theorem k_laws_szSetFunctorS : okC Tryz.f14.ntmps (cutL []) (bodyOf Tryz.f14) = true := by kernel_rfl
theorem m_laws_szSetFunctorS (a : List SetFunctorD) (left : Int) (hok : allP (okL c_laws_szSetFunctorS.args (a, left, ()))) (hpre : allP (c_laws_szSetFunctorS.pre (a, left, ()))) : W_laws_szSetFunctorS a left (fun r => r = c_laws_szSetFunctorS.res (a, left, ())) := by
  simp only [c_laws_szSetFunctorS, okL, T.oks, T.ok, ap, allP, true_and, and_true, implies_true] at hok hpre
  try dsimp only [T.den] at hok
  try dsimp only [T.den] at hpre
  unfold W_laws_szSetFunctorS
  have hr := szR_ge (x := a.length) (r := (a.map (wR SetFunctorT)).sum) (l := left)
  refine ⟨by grind [cnd, nb_eq, inK64], cnd_d (fun hc => ?_) (fun hc => ?_)⟩
  · simp only [c_laws_szSetFunctorS]; rw [wR_sl, szR_lt (x := a.length) (by omega)]
  replace hr := hr (by omega)
  rw [szR_val (x := a.length) (by omega)] at hr
  refine loop_of (fun (s : ((Int × (Int × Unit)) × Unit)) => 0 ≤ s.1.1 ∧ 0 ≤ s.1.2.1 ∧ s.1.2.1 ≤ a.length ∧ szR (wR (.sl SetFunctorT) a) left = szR ((a.drop s.1.2.1.toNat).map (wR SetFunctorT)).sum s.1.1) (fun (s : ((Int × (Int × Unit)) × Unit)) => (a.length - s.1.2.1).toNat) ?_ ⟨(by first | omega | (dsimp only; omega)), by simp, by simp, by rw [wR_sl]; simpa using hr⟩
  rintro ⟨⟨l, i, _⟩, _⟩ next ⟨h0, h1, h2, h3⟩ hn hin hl
  simp only at h0 h1 h2 h3 hn ⊢
  refine cnd_d (fun hc => ?_) (fun hc => ?_)
  · rw [drop_c a (((0 : Int), (([] : List Int), (([] : List Int), (([] : List Int), ([] : List (List Int)))))), (([] : List Int), ([] : List (List Int)))) h1 hc, List.map_cons, List.sum_cons] at h3
    refine ⟨by omega, by omega, by omega, cnd_d (fun hd => ?_) (fun hd => ?_)⟩
    · rw [szR_neg] at hd
      rw [szR_lt hd] at h3
      simp only [c_laws_szSetFunctorS]; rw [h3]
    · rw [szR_neg] at hd
      rw [szR_ge hd] at h3
      exact ⟨by grind [cnd, nb_eq, inK64], hn _ ⟨by simp only; rw [szR_val hd]; omega, (by first | omega | (dsimp only; omega)), (by first | omega | (dsimp only; omega)), h3⟩ (by first | omega | (dsimp only; omega))⟩
  · rw [drop_n a (by omega)] at h3
    simp only [List.map_nil, List.sum_nil] at h3
    rw [szR_zero h0] at h3
    simp only [c_laws_szSetFunctorS]; rw [h3]
theorem ct_laws_szSetFunctorS : CtOk Tryz.prog 14 c_laws_szSetFunctorS :=
  ct_by (Φ := lkp [(26, c_laws_szSetFunctor)]) (good_cons ct_laws_szSetFunctor good_nil) tab_ok (by kernel_rfl) (fn := Tryz.f14) (c := bodyOf Tryz.f14) (by kernel_rfl) (by kernel_rfl) (by kernel_rfl) c_laws_szSetFunctorS rfl (.s .n (.s .n (.s .n (.s (.s .n (.l [(1, (.d (.int .i64))), (5, (.d (.int .i64)))] [] [0] .n)) .n)))) (cutL []) (by kernel_rfl) (by kernel_rfl) k_laws_szSetFunctorS (by decide) (fun x K => W_laws_szSetFunctorS x.1 x.2.1 K) w_laws_szSetFunctorS (fun x h1 h2 => m_laws_szSetFunctorS x.1 x.2.1 h1 h2)
def c_laws_szStructure : Ct := ⟨[StructureT, (.int .i64)], [true, false], fun x => [-4611263805962321920 ≤ x.2.1], [(false, (.fz (.int .i64)))], fun x => (szR (wR StructureT x.1) x.2.1, ()), false, none⟩
def W_laws_szStructure (a : StructureD) (left : Int) (K : Int × Unit → Prop) : Prop := (((-(4611263805962321920 : Int)) ≤ left) ∧ (cnd (decide ((szR (wR (T.sl SetFunctorT) a.1) left) < (0 : Int))) (K ((-(1 : Int)), ())) (((-(4611263805962321920 : Int)) ≤ (szR (wR (T.sl SetFunctorT) a.1) left)) ∧ (cnd (decide ((szR (wR (T.sl dataT) a.2) (szR (wR (T.sl SetFunctorT) a.1) left)) < (0 : Int))) (K ((-(1 : Int)), ())) (K ((szR (wR (T.sl dataT) a.2) (szR (wR (T.sl SetFunctorT) a.1) left)), ()))))))
theorem w_laws_szStructure (x : denL c_laws_szStructure.args) (K : Int × Unit → Prop) : evF tab (lkp [(15, c_laws_szRelationS), (14, c_laws_szSetFunctorS)]) (cutL []) Tryz.f4 (bodyOf Tryz.f4) .n c_laws_szStructure x K = W_laws_szStructure x.1 x.2.1 K := by kernel_rfl
theorem k_laws_szStructure : okC Tryz.f4.ntmps (cutL []) (bodyOf Tryz.f4) = true := by kernel_rfl
theorem m_laws_szStructure (a : StructureD) (left : Int) (hok : allP (okL c_laws_szStructure.args (a, left, ()))) (hpre : allP (c_laws_szStructure.pre (a, left, ()))) : W_laws_szStructure a left (fun r => r = c_laws_szStructure.res (a, left, ())) := by
  simp only [c_laws_szStructure, okL, T.oks, T.ok, ap, allP, true_and, and_true, implies_true] at hok hpre
  try dsimp only [T.den] at hok
  try dsimp only [T.den] at hpre
  unfold W_laws_szStructure
  simp only [c_laws_szStructure, wR_p, wR_int, wR_bool, Nat.zero_add, Nat.add_zero]
  grind [cnd, nb_eq, inK64, szR]
theorem ct_laws_szStructure : CtOk Tryz.prog 4 c_laws_szStructure :=
  ct_by (Φ := lkp [(15, c_laws_szRelationS), (14, c_laws_szSetFunctorS)]) (good_cons ct_laws_szRelationS (good_cons ct_laws_szSetFunctorS good_nil)) tab_ok (by kernel_rfl) (fn := Tryz.f4) (c := bodyOf Tryz.f4) (by kernel_rfl) (by kernel_rfl) (by kernel_rfl) c_laws_szStructure rfl .n (cutL []) (by kernel_rfl) (by kernel_rfl) k_laws_szStructure (by decide) (fun x K => W_laws_szStructure x.1 x.2.1 K) w_laws_szStructure (fun x h1 h2 => m_laws_szStructure x.1 x.2.1 h1 h2)
def c_laws_toInt64S : Ct := ⟨[(.sl (.int .i64))], [false], fun x => [wR (.sl (.int .i64)) x.1 ≤ 1099511627776], [(false, (.sl (.fz (.int .i64))))], fun x => (x.1, ()), false, none⟩
def W_laws_toInt64S (a : List Int) (K : (List Int) × Unit → Prop) : Prop := (((0 : Int) ≤ (((List.length a) : Nat) : Int)) ∧ (((((List.length a) : Nat) : Int) ≤ (((List.length a) : Nat) : Int)) ∧ (((((List.length a) : Nat) : Int) ≤ ((140737488355328 : Nat) : Int)) ∧ ((((((List.length a) : Nat) : Int) * ((8 : Nat) : Int)) ≤ ((140737488355328 : Nat) : Int)) ∧ (loopW (S := ((Unit × (Int × Unit)) × ((List Int) × Unit))) (fun s => (fun next => ((inK IntKind.i64 s.1.2.1) → ((T.ok (T.sl (T.int IntKind.i64)) s.2.1) → (cnd (decide (s.1.2.1 < (((List.length a) : Nat) : Int))) (((0 : Int) ≤ s.1.2.1) ∧ ((s.1.2.1 < (((List.length a) : Nat) : Int)) ∧ (((0 : Int) ≤ s.1.2.1) ∧ ((s.1.2.1 < (((List.length s.2.1) : Nat) : Int)) ∧ ((inK IntKind.i64 (s.1.2.1 + (1 : Int))) ∧ (next (((), ((s.1.2.1 + (1 : Int)), ())), ((List.set s.2.1 (Int.toNat s.1.2.1) (List.getD a (Int.toNat s.1.2.1) (0 : Int))), ())))))))) (K (s.2.1, ()))))))) (((), ((0 : Int), ())), ((List.replicate (Int.toNat (((List.length a) : Nat) : Int)) (0 : Int)), ())))))))
theorem w_laws_toInt64S (x : denL c_laws_toInt64S.args) (K : (List Int) × Unit → Prop) : evF tab (lkp []) (cutL []) Tryz.f8 (bodyOf Tryz.f8) (.s .n (.s .n (.s (.s .n (.l [(3, (.ref 7 [])), (4, (.d (.int .i64)))] [(7, (.sl (.fz (.int .i64))))] [0] .n)) .n))) c_laws_toInt64S x K = W_laws_toInt64S x.1 K := by kernel_rfl
theorem k_laws_toInt64S : okC Tryz.f8.ntmps (cutL []) (bodyOf Tryz.f8) = true := by kernel_rfl
theorem m_laws_toInt64S (a : List Int) (hok : allP (okL c_laws_toInt64S.args (a, ()))) (hpre : allP (c_laws_toInt64S.pre (a, ()))) : W_laws_toInt64S a (fun r => r = c_laws_toInt64S.res (a, ())) := by
  simp only [c_laws_toInt64S, okL, T.oks, T.ok, ap, allP, true_and, and_true, implies_true] at hok hpre
  try dsimp only [T.den] at hok
  try dsimp only [T.den] at hpre
  unfold W_laws_toInt64S
  rw [wR_sl] at hpre
  refine ⟨by omega, by omega, by first | omega | (rw [nb_eq]; omega), by first | omega | (rw [nb_eq]; omega), ?_⟩
  refine loop_of (fun (s : ((Unit × (Int × Unit)) × ((List Int) × Unit))) => 0 ≤ s.1.2.1 ∧ s.1.2.1 ≤ a.length ∧ s.2.1.length = a.length ∧ s.2.1.take s.1.2.1.toNat = a.take s.1.2.1.toNat) (fun (s : ((Unit × (Int × Unit)) × ((List Int) × Unit))) => (a.length - s.1.2.1).toNat) ?_ (by simp)
  rintro ⟨⟨_, i, _⟩, l, _⟩ next ⟨h0, h1, h2, h3⟩ hn hin hl
  simp only at h0 h1 h2 h3 hn ⊢
  refine cnd_d (fun hc => ?_) (fun hc => ?_)
  · refine ⟨by omega, by omega, by omega, by omega, by grind [cnd, nb_eq, inK64], hn _ ⟨(by first | omega | (dsimp only; omega)), (by first | omega | (dsimp only; omega)), by simp [h2], ?_⟩ (by first | omega | (dsimp only; omega))⟩
    simp only
    rw [take_c a (0 : Int) h0 hc, ← h3]
    exact take_set l h0 (by omega) _
  · rw [take_n a (by omega), take_n l (by omega)] at h3
    simp [h3, c_laws_toInt64S]
theorem ct_laws_toInt64S : CtOk Tryz.prog 8 c_laws_toInt64S :=
  ct_by (Φ := lkp []) good_nil tab_ok (by kernel_rfl) (fn := Tryz.f8) (c := bodyOf Tryz.f8) (by kernel_rfl) (by kernel_rfl) (by kernel_rfl) c_laws_toInt64S rfl (.s .n (.s .n (.s (.s .n (.l [(3, (.ref 7 [])), (4, (.d (.int .i64)))] [(7, (.sl (.fz (.int .i64))))] [0] .n)) .n))) (cutL []) (by kernel_rfl) (by kernel_rfl) k_laws_toInt64S (by decide) (fun x K => W_laws_toInt64S x.1 K) w_laws_toInt64S (fun x h1 h2 => m_laws_toInt64S x.1 h1 h2)
def c_laws_toNode : Ct := ⟨[ruleT], [true], fun x => [wR ruleT x.1 ≤ 1099511627776], [(true, ruleO)], fun x => (x.1, ()), false, none⟩
def W_laws_toNode (a : ruleD) (K : ruleD × Unit → Prop) : Prop := (((wR (T.sl (T.int IntKind.i64)) a.2.2) ≤ 1099511627776) ∧ (K (a, ())))
theorem w_laws_toNode (x : denL c_laws_toNode.args) (K : ruleD × Unit → Prop) : evF tab (lkp [(8, c_laws_toInt64S)]) (cutL []) Tryz.f20 (bodyOf Tryz.f20) .n c_laws_toNode x K = W_laws_toNode x.1 K := by kernel_rfl
theorem k_laws_toNode : okC Tryz.f20.ntmps (cutL []) (bodyOf Tryz.f20) = true := by kernel_rfl
theorem m_laws_toNode (a : ruleD) (hok : allP (okL c_laws_toNode.args (a, ()))) (hpre : allP (c_laws_toNode.pre (a, ()))) : W_laws_toNode a (fun r => r = c_laws_toNode.res (a, ())) := by
  simp only [c_laws_toNode, okL, T.oks, T.ok, ap, allP, true_and, and_true, implies_true] at hok hpre
  try dsimp only [T.den] at hok
  try dsimp only [T.den] at hpre
  unfold W_laws_toNode
  simp only [wR_p, wR_int, wR_bool] at hpre
  repeat' apply And.intro
  all_goals first | rfl | ((try simp only [wR_p, wR_int, wR_bool]); omega)
theorem ct_laws_toNode : CtOk Tryz.prog 20 c_laws_toNode :=
  ct_by (Φ := lkp [(8, c_laws_toInt64S)]) (good_cons ct_laws_toInt64S good_nil) tab_ok (by kernel_rfl) (fn := Tryz.f20) (c := bodyOf Tryz.f20) (by kernel_rfl) (by kernel_rfl) (by kernel_rfl) c_laws_toNode rfl .n (cutL []) (by kernel_rfl) (by kernel_rfl) k_laws_toNode (by decide) (fun x K => W_laws_toNode x.1 K) w_laws_toNode (fun x h1 h2 => m_laws_toNode x.1 h1 h2)
end Go.Bm
