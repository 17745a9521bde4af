/- What the functions that FnExactFirstBrokenEquation reaches give: for each its contract, what it asks, and the proof. No condition. -/
import Derived.Test.YtfkeefladmafpabTab
namespace Go.Bm
open Go.Proofs
set_option maxRecDepth 100000
set_option maxHeartbeats 1000000
set_option linter.unusedVariables false
set_option linter.unusedSimpArgs false
def c_impl_inRange : Ct := ⟨[(.int .i64), (.int .i64), (.int .i64)], [false, false, false], fun x => [], [(false, (.fz .bool))], fun x => (inR x.1 x.2.1 x.2.2.1, ()), false⟩
def W_impl_inRange (n : Int) (low : Int) (high : Int) (K : Bool × Unit → Prop) : Prop := (K (((decide (low ≤ n)) && (decide (n ≤ high))), ()))
theorem w_impl_inRange (x : denL c_impl_inRange.args) (K : Bool × Unit → Prop) : evF tab (lkp []) (cutL []) Try.f31 (bodyOf Try.f31) .n c_impl_inRange x K = W_impl_inRange x.1 x.2.1 x.2.2.1 K := by kernel_rfl
theorem k_impl_inRange : okC Try.f31.ntmps (cutL []) (bodyOf Try.f31) = true := by kernel_rfl
theorem m_impl_inRange (n : Int) (low : Int) (high : Int) (hok : allP (okL c_impl_inRange.args (n, low, high, ()))) (hpre : allP (c_impl_inRange.pre (n, low, high, ()))) : W_impl_inRange n low high (fun r => r = c_impl_inRange.res (n, low, high, ())) := by
  simp only [c_impl_inRange, okL, T.oks, T.ok, ap, allP, true_and, and_true, implies_true] at hok hpre
  try dsimp only [T.den] at hok
  try dsimp only [T.den] at hpre
  unfold W_impl_inRange
  grind [cnd, nb_eq, inK64, c_impl_inRange, inR]
theorem ct_impl_inRange : CtOk Try.prog 31 c_impl_inRange :=
  ct_by (Φ := lkp []) good_nil tab_ok (by kernel_rfl) (fn := Try.f31) (c := bodyOf Try.f31) (by kernel_rfl) (by kernel_rfl) (by kernel_rfl) c_impl_inRange .n (cutL []) (by kernel_rfl) (by kernel_rfl) k_impl_inRange (by decide) (fun x K => W_impl_inRange x.1 x.2.1 x.2.2.1 K) w_impl_inRange (fun x h1 h2 => m_impl_inRange x.1 x.2.1 x.2.2.1 h1 h2)
def c_impl_within : Ct := ⟨[(.sl (.int .i64)), (.int .i64)], [false, false], fun x => [inK .i64 (x.2.1 - 1)], [(false, (.fz .bool))], fun x => (withinR x.1 x.2.1, ()), false⟩
def W_impl_within (list : List Int) (n : Int) (K : Bool × Unit → Prop) : Prop := (loopW (S := ((Int × Unit) × Unit)) (fun s => (fun next => ((inK IntKind.i64 s.1.1) → (cnd (decide (s.1.1 < (((List.length list) : Nat) : Int))) (((0 : Int) ≤ s.1.1) ∧ ((s.1.1 < (((List.length list) : Nat) : Int)) ∧ ((inK IntKind.i64 (n - (1 : Int))) ∧ (cnd (!(inR (List.getD list (Int.toNat s.1.1) (0 : Int)) (0 : Int) (n - (1 : Int)))) (K (Bool.false, ())) ((inK IntKind.i64 (s.1.1 + (1 : Int))) ∧ (next (((s.1.1 + (1 : Int)), ()), ()))))))) (K (Bool.true, ())))))) (((0 : Int), ()), ()))
theorem w_impl_within (x : denL c_impl_within.args) (K : Bool × Unit → Prop) : evF tab (lkp [(31, c_impl_inRange)]) (cutL []) Try.f32 (bodyOf Try.f32) (.s .n (.s (.s .n (.l [(9, (.d (.int .i64)))] [] [1, 7, 8] .n)) .n)) c_impl_within x K = W_impl_within x.1 x.2.1 K := by kernel_rfl
theorem k_impl_within : okC Try.f32.ntmps (cutL []) (bodyOf Try.f32) = true := by kernel_rfl
theorem m_impl_within (list : List Int) (n : Int) (hok : allP (okL c_impl_within.args (list, n, ()))) (hpre : allP (c_impl_within.pre (list, n, ()))) : W_impl_within list n (fun r => r = c_impl_within.res (list, n, ())) := by
  simp only [c_impl_within, okL, T.oks, T.ok, ap, allP, true_and, and_true, implies_true] at hok hpre
  try dsimp only [T.den] at hok
  try dsimp only [T.den] at hpre
  unfold W_impl_within
  refine loop_of (fun (s : ((Int × Unit) × Unit)) => 0 ≤ s.1.1 ∧ s.1.1 ≤ list.length ∧ withinR list n = withinR (list.drop s.1.1.toNat) n) (fun (s : ((Int × Unit) × Unit)) => (list.length - s.1.1).toNat) ?_ (by simp)
  rintro ⟨⟨i, _⟩, _⟩ next ⟨h0, h1, h2⟩ hn hin
  simp only at h0 h1 h2 hn ⊢
  refine cnd_d (fun hc => ?_) (fun hc => ?_)
  · rw [drop_c list 0 h0 hc] at h2
    simp only [withinR, List.all_cons] at h2
    grind [cnd, nb_eq, inK64, c_impl_within, withinR]
  · rw [drop_n list (by omega)] at h2
    grind [cnd, nb_eq, inK64, c_impl_within, withinR]
theorem ct_impl_within : CtOk Try.prog 32 c_impl_within :=
  ct_by (Φ := lkp [(31, c_impl_inRange)]) (good_cons ct_impl_inRange good_nil) tab_ok (by kernel_rfl) (fn := Try.f32) (c := bodyOf Try.f32) (by kernel_rfl) (by kernel_rfl) (by kernel_rfl) c_impl_within (.s .n (.s (.s .n (.l [(9, (.d (.int .i64)))] [] [1, 7, 8] .n)) .n)) (cutL []) (by kernel_rfl) (by kernel_rfl) k_impl_within (by decide) (fun x K => W_impl_within x.1 x.2.1 K) w_impl_within (fun x h1 h2 => m_impl_within x.1 x.2.1 h1 h2)
def c_impl_fitting : Ct := ⟨[(.sl (.int .i64))], [false], fun x => [], [(false, (.fz .bool))], fun x => (withinR x.1 17, ()), false⟩
def W_impl_fitting (sizes : List Int) (K : Bool × Unit → Prop) : Prop := ((inK IntKind.i64 ((17 : Int) - (1 : Int))) ∧ (K ((withinR sizes (17 : Int)), ())))
theorem w_impl_fitting (x : denL c_impl_fitting.args) (K : Bool × Unit → Prop) : evF tab (lkp [(32, c_impl_within)]) (cutL []) Try.f34 (bodyOf Try.f34) .n c_impl_fitting x K = W_impl_fitting x.1 K := by kernel_rfl
theorem k_impl_fitting : okC Try.f34.ntmps (cutL []) (bodyOf Try.f34) = true := by kernel_rfl
theorem m_impl_fitting (sizes : List Int) (hok : allP (okL c_impl_fitting.args (sizes, ()))) (hpre : allP (c_impl_fitting.pre (sizes, ()))) : W_impl_fitting sizes (fun r => r = c_impl_fitting.res (sizes, ())) := by
  simp only [c_impl_fitting, okL, T.oks, T.ok, ap, allP, true_and, and_true, implies_true] at hok hpre
  try dsimp only [T.den] at hok
  try dsimp only [T.den] at hpre
  unfold W_impl_fitting
  exact ⟨by rw [inK64]; omega, rfl⟩
theorem ct_impl_fitting : CtOk Try.prog 34 c_impl_fitting :=
  ct_by (Φ := lkp [(32, c_impl_within)]) (good_cons ct_impl_within good_nil) tab_ok (by kernel_rfl) (fn := Try.f34) (c := bodyOf Try.f34) (by kernel_rfl) (by kernel_rfl) (by kernel_rfl) c_impl_fitting .n (cutL []) (by kernel_rfl) (by kernel_rfl) k_impl_fitting (by decide) (fun x K => W_impl_fitting x.1 K) w_impl_fitting (fun x h1 h2 => m_impl_fitting x.1 h1 h2)
def c_impl_isMapOf : Ct := ⟨[(.sl (.int .i64)), (.int .i64), (.int .i64)], [false, false, false], fun x => [inK .i64 (x.2.2.1 - 1)], [(false, (.fz .bool))], fun x => ((decide ((x.1.length : Int) = x.2.1) && withinR x.1 x.2.2.1), ()), false⟩
def W_impl_isMapOf (f : List Int) (m : Int) (n : Int) (K : Bool × Unit → Prop) : Prop := (((((((List.length f) : Nat) : Int) == m) = Bool.true) → (inK IntKind.i64 (n - (1 : Int)))) ∧ (K ((((((List.length f) : Nat) : Int) == m) && (withinR f n)), ())))
theorem w_impl_isMapOf (x : denL c_impl_isMapOf.args) (K : Bool × Unit → Prop) : evF tab (lkp [(32, c_impl_within)]) (cutL []) Try.f35 (bodyOf Try.f35) .n c_impl_isMapOf x K = W_impl_isMapOf x.1 x.2.1 x.2.2.1 K := by kernel_rfl
theorem k_impl_isMapOf : okC Try.f35.ntmps (cutL []) (bodyOf Try.f35) = true := by kernel_rfl
theorem m_impl_isMapOf (f : List Int) (m : Int) (n : Int) (hok : allP (okL c_impl_isMapOf.args (f, m, n, ()))) (hpre : allP (c_impl_isMapOf.pre (f, m, n, ()))) : W_impl_isMapOf f m n (fun r => r = c_impl_isMapOf.res (f, m, n, ())) := by
  simp only [c_impl_isMapOf, okL, T.oks, T.ok, ap, allP, true_and, and_true, implies_true] at hok hpre
  try dsimp only [T.den] at hok
  try dsimp only [T.den] at hpre
  unfold W_impl_isMapOf
  simp only [c_impl_isMapOf]
  grind [cnd, nb_eq, inK64]
theorem ct_impl_isMapOf : CtOk Try.prog 35 c_impl_isMapOf :=
  ct_by (Φ := lkp [(32, c_impl_within)]) (good_cons ct_impl_within good_nil) tab_ok (by kernel_rfl) (fn := Try.f35) (c := bodyOf Try.f35) (by kernel_rfl) (by kernel_rfl) (by kernel_rfl) c_impl_isMapOf .n (cutL []) (by kernel_rfl) (by kernel_rfl) k_impl_isMapOf (by decide) (fun x K => W_impl_isMapOf x.1 x.2.1 x.2.2.1 K) w_impl_isMapOf (fun x h1 h2 => m_impl_isMapOf x.1 x.2.1 x.2.2.1 h1 h2)
def followR (s : SchemaD) : Int → List Int → Int × Bool
  | n, [] => (n, true)
  | n, e :: r => if inR e 0 ((s.2.1.length : Int) - 1) = true ∧ s.2.1.getD e.toNat 0 = n then followR s (s.2.2.1.getD e.toNat 0) r else (0, false)

def c_impl_Schema_follow : Ct := ⟨[(.pt SchemaT), (.int .i64), (.sl (.int .i64))], [false, false, false], fun x => [x.1.2.1.length ≤ x.1.2.2.1.length], [(false, (.fz (.int .i64))), (false, (.fz .bool))], fun x => ((followR x.1 x.2.1 x.2.2.1).1, (followR x.1 x.2.1 x.2.2.1).2, ()), false⟩
def W_impl_Schema_follow (s : SchemaD) (node : Int) (edges : List Int) (K : Int × Bool × Unit → Prop) : Prop := (loopW (S := ((Int × (Int × Unit)) × Unit)) (fun s1 => (fun next => ((inK IntKind.i64 s1.1.1) → ((inK IntKind.i64 s1.1.2.1) → (cnd (decide (s1.1.2.1 < (((List.length edges) : Nat) : Int))) (((0 : Int) ≤ s1.1.2.1) ∧ ((s1.1.2.1 < (((List.length edges) : Nat) : Int)) ∧ ((inK IntKind.i64 ((((List.length s.2.1) : Nat) : Int) - (1 : Int))) ∧ ((((!(inR (List.getD edges (Int.toNat s1.1.2.1) (0 : Int)) (0 : Int) ((((List.length s.2.1) : Nat) : Int) - (1 : Int)))) = Bool.false) → (((List.getD edges (Int.toNat s1.1.2.1) (0 : Int)) < (((List.length s.2.1) : Nat) : Int)) ∧ ((0 : Int) ≤ (List.getD edges (Int.toNat s1.1.2.1) (0 : Int))))) ∧ (cnd ((!(inR (List.getD edges (Int.toNat s1.1.2.1) (0 : Int)) (0 : Int) ((((List.length s.2.1) : Nat) : Int) - (1 : Int)))) || ((List.getD s.2.1 (Int.toNat (List.getD edges (Int.toNat s1.1.2.1) (0 : Int))) (0 : Int)) != s1.1.1)) (K ((0 : Int), (Bool.false, ()))) (((0 : Int) ≤ (List.getD edges (Int.toNat s1.1.2.1) (0 : Int))) ∧ (((List.getD edges (Int.toNat s1.1.2.1) (0 : Int)) < (((List.length s.2.2.1) : Nat) : Int)) ∧ ((inK IntKind.i64 (s1.1.2.1 + (1 : Int))) ∧ (next (((List.getD s.2.2.1 (Int.toNat (List.getD edges (Int.toNat s1.1.2.1) (0 : Int))) (0 : Int)), ((s1.1.2.1 + (1 : Int)), ())), ())))))))))) (K (s1.1.1, (Bool.true, ())))))))) ((node, ((0 : Int), ())), ()))
theorem w_impl_Schema_follow (x : denL c_impl_Schema_follow.args) (K : Int × Bool × Unit → Prop) : evF tab (lkp [(31, c_impl_inRange)]) (cutL []) Try.f38 (bodyOf Try.f38) (.s .n (.s (.s .n (.l [(1, (.d (.int .i64))), (12, (.d (.int .i64)))] [] [0, 10, 11] .n)) .n)) c_impl_Schema_follow x K = W_impl_Schema_follow x.1 x.2.1 x.2.2.1 K := by kernel_rfl
theorem k_impl_Schema_follow : okC Try.f38.ntmps (cutL []) (bodyOf Try.f38) = true := by kernel_rfl
theorem m_impl_Schema_follow (s : SchemaD) (node : Int) (edges : List Int) (hok : allP (okL c_impl_Schema_follow.args (s, node, edges, ()))) (hpre : allP (c_impl_Schema_follow.pre (s, node, edges, ()))) : W_impl_Schema_follow s node edges (fun r => r = c_impl_Schema_follow.res (s, node, edges, ())) := by
  simp only [c_impl_Schema_follow, okL, T.oks, T.ok, ap, allP, true_and, and_true, implies_true] at hok hpre
  try dsimp only [T.den] at hok
  try dsimp only [T.den] at hpre
  unfold W_impl_Schema_follow
  refine loop_of (fun (s1 : ((Int × (Int × Unit)) × Unit)) => 0 ≤ s1.1.2.1 ∧ s1.1.2.1 ≤ edges.length ∧ followR s node edges = followR s s1.1.1 (edges.drop s1.1.2.1.toNat)) (fun (s1 : ((Int × (Int × Unit)) × Unit)) => (edges.length - s1.1.2.1).toNat) ?_ (by simp)
  rintro ⟨⟨nd, i, _⟩, _⟩ next ⟨h0, h1, h2⟩ hn ha hin
  simp only at h0 h1 h2 hn ⊢
  refine cnd_d (fun hc => ?_) (fun hc => ?_)
  · rw [drop_c edges 0 h0 hc] at h2
    simp only [followR] at h2
    generalize edges.getD i.toNat 0 = e at *
    grind [cnd, nb_eq, inK64, c_impl_Schema_follow, inR]
  · rw [drop_n edges (by omega)] at h2
    simp [followR, h2, c_impl_Schema_follow]
theorem ct_impl_Schema_follow : CtOk Try.prog 38 c_impl_Schema_follow :=
  ct_by (Φ := lkp [(31, c_impl_inRange)]) (good_cons ct_impl_inRange good_nil) tab_ok (by kernel_rfl) (fn := Try.f38) (c := bodyOf Try.f38) (by kernel_rfl) (by kernel_rfl) (by kernel_rfl) c_impl_Schema_follow (.s .n (.s (.s .n (.l [(1, (.d (.int .i64))), (12, (.d (.int .i64)))] [] [0, 10, 11] .n)) .n)) (cutL []) (by kernel_rfl) (by kernel_rfl) k_impl_Schema_follow (by decide) (fun x K => W_impl_Schema_follow x.1 x.2.1 x.2.2.1 K) w_impl_Schema_follow (fun x h1 h2 => m_impl_Schema_follow x.1 x.2.1 x.2.2.1 h1 h2)
def endR (s : SchemaD) (p : PathD) : Int × Bool :=
  if inR p.1 0 (s.1 - 1) = true ∧ p.2.length ≤ 6 then followR s p.1 p.2 else (0, false)

def c_impl_Schema_end : Ct := ⟨[(.pt SchemaT), PathT], [false, true], fun x => [x.1.2.1.length ≤ x.1.2.2.1.length, inK .i64 (x.1.1 - 1)], [(false, (.fz (.int .i64))), (false, (.fz .bool))], fun x => ((endR x.1 x.2.1).1, (endR x.1 x.2.1).2, ()), false⟩
def W_impl_Schema_end (s : SchemaD) (p : PathD) (K : Int × Bool × Unit → Prop) : Prop := ((inK IntKind.i64 (s.1 - (1 : Int))) ∧ (cnd ((!(inR p.1 (0 : Int) (s.1 - (1 : Int)))) || (decide ((6 : Int) < (((List.length p.2) : Nat) : Int)))) (K ((0 : Int), (Bool.false, ()))) (((List.length s.2.1) ≤ (List.length s.2.2.1)) ∧ (K ((followR s p.1 p.2).1, ((followR s p.1 p.2).2, ()))))))
theorem w_impl_Schema_end (x : denL c_impl_Schema_end.args) (K : Int × Bool × Unit → Prop) : evF tab (lkp [(38, c_impl_Schema_follow), (31, c_impl_inRange)]) (cutL [(1, 15)]) Try.f33 (bodyOf Try.f33) .n c_impl_Schema_end x K = W_impl_Schema_end x.1 x.2.1 K := by kernel_rfl
theorem k_impl_Schema_end : okC Try.f33.ntmps (cutL [(1, 15)]) (bodyOf Try.f33) = true := by kernel_rfl
theorem m_impl_Schema_end (s : SchemaD) (p : PathD) (hok : allP (okL c_impl_Schema_end.args (s, p, ()))) (hpre : allP (c_impl_Schema_end.pre (s, p, ()))) : W_impl_Schema_end s p (fun r => r = c_impl_Schema_end.res (s, p, ())) := by
  simp only [c_impl_Schema_end, okL, T.oks, T.ok, ap, allP, true_and, and_true, implies_true] at hok hpre
  try dsimp only [T.den] at hok
  try dsimp only [T.den] at hpre
  unfold W_impl_Schema_end
  simp only [c_impl_Schema_end, endR]
  grind [cnd, nb_eq, inK64]
theorem ct_impl_Schema_end : CtOk Try.prog 33 c_impl_Schema_end :=
  ct_by (Φ := lkp [(38, c_impl_Schema_follow), (31, c_impl_inRange)]) (good_cons ct_impl_Schema_follow (good_cons ct_impl_inRange good_nil)) tab_ok (by kernel_rfl) (fn := Try.f33) (c := bodyOf Try.f33) (by kernel_rfl) (by kernel_rfl) (by kernel_rfl) c_impl_Schema_end .n (cutL [(1, 15)]) (by kernel_rfl) (by kernel_rfl) k_impl_Schema_end (by decide) (fun x K => W_impl_Schema_end x.1 x.2.1 K) w_impl_Schema_end (fun x h1 h2 => m_impl_Schema_end x.1 x.2.1 h1 h2)
def eqnR (s : SchemaD) (p q : PathD) : Bool := (endR s p).2 && (endR s q).2 && decide (p.1 = q.1) && decide ((endR s p).1 = (endR s q).1)
def eqnsR (s : SchemaD) : List PathD → List PathD → Bool
  | p :: l, q :: r => eqnR s p q && eqnsR s l r
  | _, _ => true
def isSchemaR (s : SchemaD) : Bool := inR s.1 0 8 && decide (s.2.1.length ≤ 8) && decide (s.2.2.1.length = s.2.1.length) && withinR s.2.1 s.1 && withinR s.2.2.1 s.1 && decide (s.2.2.2.1.length ≤ 8) && decide (s.2.2.2.2.length = s.2.2.2.1.length) && eqnsR s s.2.2.2.1 s.2.2.2.2

def c_impl_Schema_isSchema : Ct := ⟨[(.pt SchemaT)], [false], fun x => [], [(false, (.fz .bool))], fun x => (isSchemaR x.1, ()), false⟩
def W_impl_Schema_isSchema (s : SchemaD) (K : Bool × Unit → Prop) : Prop := ((((((!(inR s.1 (0 : Int) (8 : Int))) || (decide ((8 : Int) < (((List.length s.2.1) : Nat) : Int)))) || ((((List.length s.2.2.1) : Nat) : Int) != (((List.length s.2.1) : Nat) : Int))) = Bool.false) → (inK IntKind.i64 (s.1 - (1 : Int)))) ∧ (((((((!(inR s.1 (0 : Int) (8 : Int))) || (decide ((8 : Int) < (((List.length s.2.1) : Nat) : Int)))) || ((((List.length s.2.2.1) : Nat) : Int) != (((List.length s.2.1) : Nat) : Int))) || (!(withinR s.2.1 s.1))) = Bool.false) → (inK IntKind.i64 (s.1 - (1 : Int)))) ∧ (cnd (((((!(inR s.1 (0 : Int) (8 : Int))) || (decide ((8 : Int) < (((List.length s.2.1) : Nat) : Int)))) || ((((List.length s.2.2.1) : Nat) : Int) != (((List.length s.2.1) : Nat) : Int))) || (!(withinR s.2.1 s.1))) || (!(withinR s.2.2.1 s.1))) (K (Bool.false, ())) (cnd ((decide ((8 : Int) < (((List.length s.2.2.2.1) : Nat) : Int))) || ((((List.length s.2.2.2.2) : Nat) : Int) != (((List.length s.2.2.2.1) : Nat) : Int))) (K (Bool.false, ())) (loopW (S := ((Int × Unit) × Unit)) (fun s1 => (fun next => ((inK IntKind.i64 s1.1.1) → (cnd (decide (s1.1.1 < (((List.length s.2.2.2.1) : Nat) : Int))) (((0 : Int) ≤ s1.1.1) ∧ ((s1.1.1 < (((List.length s.2.2.2.1) : Nat) : Int)) ∧ (((0 : Int) ≤ s1.1.1) ∧ ((s1.1.1 < (((List.length s.2.2.2.2) : Nat) : Int)) ∧ (((List.length s.2.1) ≤ (List.length s.2.2.1)) ∧ ((inK IntKind.i64 (s.1 - (1 : Int))) ∧ (((List.length s.2.1) ≤ (List.length s.2.2.1)) ∧ ((inK IntKind.i64 (s.1 - (1 : Int))) ∧ (cnd ((((!(endR s (List.getD s.2.2.2.1 (Int.toNat s1.1.1) ((0 : Int), ([] : List Int)))).2) || (!(endR s (List.getD s.2.2.2.2 (Int.toNat s1.1.1) ((0 : Int), ([] : List Int)))).2)) || ((List.getD s.2.2.2.1 (Int.toNat s1.1.1) ((0 : Int), ([] : List Int))).1 != (List.getD s.2.2.2.2 (Int.toNat s1.1.1) ((0 : Int), ([] : List Int))).1)) || ((endR s (List.getD s.2.2.2.1 (Int.toNat s1.1.1) ((0 : Int), ([] : List Int)))).1 != (endR s (List.getD s.2.2.2.2 (Int.toNat s1.1.1) ((0 : Int), ([] : List Int)))).1)) (K (Bool.false, ())) ((inK IntKind.i64 (s1.1.1 + (1 : Int))) ∧ (next (((s1.1.1 + (1 : Int)), ()), ())))))))))))) (K (Bool.true, ())))))) (((0 : Int), ()), ()))))))
theorem w_impl_Schema_isSchema (x : denL c_impl_Schema_isSchema.args) (K : Bool × Unit → Prop) : evF tab (lkp [(33, c_impl_Schema_end), (31, c_impl_inRange), (32, c_impl_within)]) (cutL [(1, 51), (3, 19)]) Try.f20 (bodyOf Try.f20) (.s .n (.s .n (.s .n (.s (.s .n (.l [(85, (.d (.int .i64)))] [] [0, 83, 84] .n)) .n)))) c_impl_Schema_isSchema x K = W_impl_Schema_isSchema x.1 K := by kernel_rfl
theorem k_impl_Schema_isSchema : okC Try.f20.ntmps (cutL [(1, 51), (3, 19)]) (bodyOf Try.f20) = true := by kernel_rfl
theorem m_impl_Schema_isSchema (s : SchemaD) (hok : allP (okL c_impl_Schema_isSchema.args (s, ()))) (hpre : allP (c_impl_Schema_isSchema.pre (s, ()))) : W_impl_Schema_isSchema s (fun r => r = c_impl_Schema_isSchema.res (s, ())) := by
  simp only [c_impl_Schema_isSchema, okL, T.oks, T.ok, ap, allP, true_and, and_true, implies_true] at hok hpre
  try dsimp only [T.den] at hok
  try dsimp only [T.den] at hpre
  unfold W_impl_Schema_isSchema
  refine ⟨by grind [cnd, nb_eq, inK64, inR], by grind [cnd, nb_eq, inK64, inR], cnd_of (fun hc => ?_) (fun hc => cnd_of (fun hd => ?_) (fun hd => ?_))⟩
  · grind [cnd, nb_eq, inK64, c_impl_Schema_isSchema, isSchemaR]
  · grind [cnd, nb_eq, inK64, c_impl_Schema_isSchema, isSchemaR]
  have he : isSchemaR s = eqnsR s s.2.2.2.1 s.2.2.2.2 := by grind [cnd, nb_eq, inK64, isSchemaR]
  simp only [c_impl_Schema_isSchema, he]
  simp only [inR, Bool.or_eq_false_iff, Bool.not_eq_false', Bool.and_eq_true, decide_eq_true_eq, decide_eq_false_iff_not, bne_eq_false_iff_eq] at hc hd
  refine loop_of (fun (s1 : ((Int × Unit) × Unit)) => 0 ≤ s1.1.1 ∧ s1.1.1 ≤ s.2.2.2.1.length ∧ eqnsR s s.2.2.2.1 s.2.2.2.2 = eqnsR s (s.2.2.2.1.drop s1.1.1.toNat) (s.2.2.2.2.drop s1.1.1.toNat)) (fun (s1 : ((Int × Unit) × Unit)) => (s.2.2.2.1.length - s1.1.1).toNat) ?_ (by simp)
  rintro ⟨⟨i, _⟩, _⟩ next ⟨h0, h1, h2⟩ hn hin
  simp only at h0 h1 h2 hn ⊢
  refine cnd_d (fun hx => ?_) (fun hx => ?_)
  · rw [drop_c s.2.2.2.1 (0, []) h0 hx, drop_c s.2.2.2.2 (0, []) h0 (by omega)] at h2
    simp only [eqnsR, eqnR] at h2
    generalize s.2.2.2.1.getD i.toNat (0, []) = p at *
    generalize s.2.2.2.2.getD i.toNat (0, []) = q at *
    refine ⟨by omega, by omega, by omega, by omega, by omega, by rw [inK64]; omega, by omega, by rw [inK64]; omega, cnd_of (fun hy => ?_) (fun hy => ?_)⟩
    · grind [cnd, nb_eq, inK64]
    · grind [cnd, nb_eq, inK64]
  · rw [drop_n s.2.2.2.1 (by omega)] at h2
    simp [eqnsR, h2]
theorem ct_impl_Schema_isSchema : CtOk Try.prog 20 c_impl_Schema_isSchema :=
  ct_by (Φ := lkp [(33, c_impl_Schema_end), (31, c_impl_inRange), (32, c_impl_within)]) (good_cons ct_impl_Schema_end (good_cons ct_impl_inRange (good_cons ct_impl_within good_nil))) tab_ok (by kernel_rfl) (fn := Try.f20) (c := bodyOf Try.f20) (by kernel_rfl) (by kernel_rfl) (by kernel_rfl) c_impl_Schema_isSchema (.s .n (.s .n (.s .n (.s (.s .n (.l [(85, (.d (.int .i64)))] [] [0, 83, 84] .n)) .n)))) (cutL [(1, 51), (3, 19)]) (by kernel_rfl) (by kernel_rfl) k_impl_Schema_isSchema (by decide) (fun x K => W_impl_Schema_isSchema x.1 K) w_impl_Schema_isSchema (fun x h1 h2 => m_impl_Schema_isSchema x.1 h1 h2)
def dataR (s : SchemaD) (sizes : List Int) (maps : List (List Int)) : Bool := decide ((sizes.length : Int) = s.1) && withinR sizes 17 && decide (maps.length = s.2.1.length) &&
  allB maps.length fun e => decide (((maps.getD e.toNat []).length : Int) = sizes.getD (s.2.1.getD e.toNat 0).toNat 0) && withinR (maps.getD e.toNat []) (sizes.getD (s.2.2.1.getD e.toNat 0).toNat 0)
structure DataP (s : SchemaD) (sizes : List Int) (maps : List (List Int)) : Prop where
  len : (sizes.length : Int) = s.1
  sz : withinR sizes 17 = true
  ml : maps.length = s.2.1.length
  at_ : ∀ e : Int, 0 ≤ e → e < maps.length → ((maps.getD e.toNat []).length : Int) = sizes.getD (s.2.1.getD e.toNat 0).toNat 0 ∧ withinR (maps.getD e.toNat []) (sizes.getD (s.2.2.1.getD e.toNat 0).toNat 0) = true
theorem data_iff {s : SchemaD} {sizes : List Int} {maps : List (List Int)} : dataR s sizes maps = true ↔ DataP s sizes maps := by
  simp only [dataR, Bool.and_eq_true, decide_eq_true_eq, allB_iff]
  exact ⟨fun h => ⟨h.1.1.1, h.1.1.2, h.1.2, h.2⟩, fun h => ⟨⟨⟨h.len, h.sz⟩, h.ml⟩, h.at_⟩⟩
structure SchP (s : SchemaD) : Prop where
  nd : 0 ≤ s.1 ∧ s.1 ≤ 8
  lt : s.2.2.1.length = s.2.1.length
  fr : withinR s.2.1 s.1 = true
  to : withinR s.2.2.1 s.1 = true
  ll : s.2.2.2.1.length ≤ 8
  lr : s.2.2.2.2.length = s.2.2.2.1.length
  eq : eqnsR s s.2.2.2.1 s.2.2.2.2 = true
theorem sch_of {s : SchemaD} (h : isSchemaR s = true) : SchP s := by
  simp only [isSchemaR, inR, Bool.and_eq_true, decide_eq_true_eq] at h
  obtain ⟨⟨⟨⟨⟨⟨⟨h1, h2⟩, h3⟩, h4⟩, h5⟩, h6⟩, h7⟩, h8⟩ := h
  exact ⟨h1, h3, h4, h5, h6, h7, h8⟩

def c_impl_Schema_hasRows : Ct := ⟨[(.pt SchemaT), (.sl (.int .i64)), (.sl (.sl (.int .i64)))], [false, false, false], fun x => [isSchemaR x.1 = true], [(false, (.fz .bool))], fun x => (dataR x.1 x.2.1 x.2.2.1, ()), false⟩
def W_impl_Schema_hasRows (s : SchemaD) (sizes : List Int) (maps : List (List Int)) (K : Bool × Unit → Prop) : Prop := (cnd ((((((List.length sizes) : Nat) : Int) != s.1) || (!(withinR sizes (17 : Int)))) || ((((List.length maps) : Nat) : Int) != (((List.length s.2.1) : Nat) : Int))) (K (Bool.false, ())) (loopW (S := ((Int × Unit) × Unit)) (fun s1 => (fun next => ((inK IntKind.i64 s1.1.1) → (cnd (decide (s1.1.1 < (((List.length maps) : Nat) : Int))) (((0 : Int) ≤ s1.1.1) ∧ ((s1.1.1 < (((List.length maps) : Nat) : Int)) ∧ (((0 : Int) ≤ s1.1.1) ∧ ((s1.1.1 < (((List.length s.2.1) : Nat) : Int)) ∧ (((0 : Int) ≤ (List.getD s.2.1 (Int.toNat s1.1.1) (0 : Int))) ∧ (((List.getD s.2.1 (Int.toNat s1.1.1) (0 : Int)) < (((List.length sizes) : Nat) : Int)) ∧ (((0 : Int) ≤ s1.1.1) ∧ ((s1.1.1 < (((List.length s.2.2.1) : Nat) : Int)) ∧ (((0 : Int) ≤ (List.getD s.2.2.1 (Int.toNat s1.1.1) (0 : Int))) ∧ (((List.getD s.2.2.1 (Int.toNat s1.1.1) (0 : Int)) < (((List.length sizes) : Nat) : Int)) ∧ ((inK IntKind.i64 ((List.getD sizes (Int.toNat (List.getD s.2.2.1 (Int.toNat s1.1.1) (0 : Int))) (0 : Int)) - (1 : Int))) ∧ (cnd (!((decide ((((List.length (List.getD maps (Int.toNat s1.1.1) ([] : List Int))) : Nat) : Int) = (List.getD sizes (Int.toNat (List.getD s.2.1 (Int.toNat s1.1.1) (0 : Int))) (0 : Int)))) && (withinR (List.getD maps (Int.toNat s1.1.1) ([] : List Int)) (List.getD sizes (Int.toNat (List.getD s.2.2.1 (Int.toNat s1.1.1) (0 : Int))) (0 : Int))))) (K (Bool.false, ())) ((inK IntKind.i64 (s1.1.1 + (1 : Int))) ∧ (next (((s1.1.1 + (1 : Int)), ()), ()))))))))))))))) (K (Bool.true, ())))))) (((0 : Int), ()), ())))
theorem w_impl_Schema_hasRows (x : denL c_impl_Schema_hasRows.args) (K : Bool × Unit → Prop) : evF tab (lkp [(34, c_impl_fitting), (35, c_impl_isMapOf)]) (cutL [(6, 23)]) Try.f21 (bodyOf Try.f21) (.s .n (.s .n (.s (.s .n (.l [(33, (.d (.int .i64)))] [] [0, 1, 31, 32] .n)) .n))) c_impl_Schema_hasRows x K = W_impl_Schema_hasRows x.1 x.2.1 x.2.2.1 K := by kernel_rfl
theorem k_impl_Schema_hasRows : okC Try.f21.ntmps (cutL [(6, 23)]) (bodyOf Try.f21) = true := by kernel_rfl
theorem m_impl_Schema_hasRows (s : SchemaD) (sizes : List Int) (maps : List (List Int)) (hok : allP (okL c_impl_Schema_hasRows.args (s, sizes, maps, ()))) (hpre : allP (c_impl_Schema_hasRows.pre (s, sizes, maps, ()))) : W_impl_Schema_hasRows s sizes maps (fun r => r = c_impl_Schema_hasRows.res (s, sizes, maps, ())) := by
  simp only [c_impl_Schema_hasRows, okL, T.oks, T.ok, ap, allP, true_and, and_true, implies_true] at hok hpre
  try dsimp only [T.den] at hok
  try dsimp only [T.den] at hpre
  unfold W_impl_Schema_hasRows
  have S := sch_of hpre
  have hlt := S.lt
  have hnd := S.nd
  have hml : maps.length ≤ 140737488355328 := by simp only [nb_eq] at hok; omega
  have bad : ¬ DataP s sizes maps → (false, ()) = c_impl_Schema_hasRows.res (s, sizes, maps, ()) := fun h => by
    simp only [c_impl_Schema_hasRows]
    cases hs : dataR s sizes maps with
    | false => rfl
    | true => exact absurd (data_iff.1 hs) h
  refine cnd_of (fun hc => bad fun h => ?_) (fun hc => ?_)
  · have h1 := h.len; have h2 := h.sz; have h3 := h.ml; grind [cnd, nb_eq, inK64]
  simp only [Bool.or_eq_false_iff, Bool.not_eq_false', bne_eq_false_iff_eq] at hc
  refine loop_ix (n := maps.length) (fun i => ∀ e : Int, 0 ≤ e → e < i → ((maps.getD e.toNat []).length : Int) = sizes.getD (s.2.1.getD e.toNat 0).toNat 0 ∧ withinR (maps.getD e.toNat []) (sizes.getD (s.2.2.1.getD e.toNat 0).toNat 0) = true) (by omega) (by intro y h0 h1; omega) ?_ ?_
  · intro e next h0 h1 hP hn hin
    dsimp only
    have a := within_iff.1 S.fr e h0 (by omega)
    have b := within_iff.1 S.to e h0 (by omega)
    have sb := within_iff.1 hc.1.2 _ b.1 (by omega)
    refine cnd_d (fun _ => ⟨h0, h1, h0, by omega, a.1, by omega, h0, by omega, b.1, by omega, by rw [inK64]; omega, cnd_of (fun hx => bad fun h => ?_) (fun hx => ⟨by rw [inK64]; omega, hn fun j j0 j1 => ?_⟩)⟩) (fun h => absurd h1 h)
    · have := h.at_ e h0 h1
      rw [this.1, this.2] at hx; simp at hx
    · by_cases e2 : j = e
      · rw [e2]; simpa using hx
      · exact hP j j0 (by omega)
  · intro next hP hin
    refine cnd_d (fun h => absurd h (by dsimp only; omega)) (fun _ => ?_)
    simp only [c_impl_Schema_hasRows]
    rw [data_iff.2 ⟨by omega, hc.1.2, by omega, hP⟩]
theorem ct_impl_Schema_hasRows : CtOk Try.prog 21 c_impl_Schema_hasRows :=
  ct_by (Φ := lkp [(34, c_impl_fitting), (35, c_impl_isMapOf)]) (good_cons ct_impl_fitting (good_cons ct_impl_isMapOf good_nil)) tab_ok (by kernel_rfl) (fn := Try.f21) (c := bodyOf Try.f21) (by kernel_rfl) (by kernel_rfl) (by kernel_rfl) c_impl_Schema_hasRows (.s .n (.s .n (.s (.s .n (.l [(33, (.d (.int .i64)))] [] [0, 1, 31, 32] .n)) .n))) (cutL [(6, 23)]) (by kernel_rfl) (by kernel_rfl) k_impl_Schema_hasRows (by decide) (fun x K => W_impl_Schema_hasRows x.1 x.2.1 x.2.2.1 K) w_impl_Schema_hasRows (fun x h1 h2 => m_impl_Schema_hasRows x.1 x.2.1 x.2.2.1 h1 h2)
def leadP (maps : List (List Int)) : List Int → Int → Prop
  | [], _ => True
  | e :: r, row => 0 ≤ e ∧ e < maps.length ∧ 0 ≤ row ∧ row < (maps.getD e.toNat []).length ∧ leadP maps r ((maps.getD e.toNat []).getD row.toNat 0)
def leadR (maps : List (List Int)) : List Int → Int → Int
  | [], row => row
  | e :: r, row => leadR maps r ((maps.getD e.toNat []).getD row.toNat 0)

def c_impl_lead : Ct := ⟨[(.sl (.sl (.int .i64))), (.sl (.int .i64)), (.int .i64)], [false, false, false], fun x => [leadP x.1 x.2.1 x.2.2.1], [(false, (.fz (.int .i64)))], fun x => (leadR x.1 x.2.1 x.2.2.1, ()), false⟩
def W_impl_lead (maps : List (List Int)) (edges : List Int) (row : Int) (K : Int × Unit → Prop) : Prop := (loopW (S := ((Int × (Int × Unit)) × Unit)) (fun s => (fun next => ((inK IntKind.i64 s.1.1) → ((inK IntKind.i64 s.1.2.1) → (cnd (decide (s.1.2.1 < (((List.length edges) : Nat) : Int))) (((0 : Int) ≤ s.1.2.1) ∧ ((s.1.2.1 < (((List.length edges) : Nat) : Int)) ∧ (((0 : Int) ≤ (List.getD edges (Int.toNat s.1.2.1) (0 : Int))) ∧ (((List.getD edges (Int.toNat s.1.2.1) (0 : Int)) < (((List.length maps) : Nat) : Int)) ∧ (((0 : Int) ≤ s.1.1) ∧ ((s.1.1 < (((List.length (List.getD maps (Int.toNat (List.getD edges (Int.toNat s.1.2.1) (0 : Int))) ([] : List Int))) : Nat) : Int)) ∧ ((inK IntKind.i64 (s.1.2.1 + (1 : Int))) ∧ (next (((List.getD (List.getD maps (Int.toNat (List.getD edges (Int.toNat s.1.2.1) (0 : Int))) ([] : List Int)) (Int.toNat s.1.1) (0 : Int)), ((s.1.2.1 + (1 : Int)), ())), ()))))))))) (K (s.1.1, ()))))))) ((row, ((0 : Int), ())), ()))
theorem w_impl_lead (x : denL c_impl_lead.args) (K : Int × Unit → Prop) : evF tab (lkp []) (cutL []) Try.f36 (bodyOf Try.f36) (.s .n (.s (.s .n (.l [(2, (.d (.int .i64))), (11, (.d (.int .i64)))] [] [0, 9, 10] .n)) .n)) c_impl_lead x K = W_impl_lead x.1 x.2.1 x.2.2.1 K := by kernel_rfl
theorem k_impl_lead : okC Try.f36.ntmps (cutL []) (bodyOf Try.f36) = true := by kernel_rfl
theorem m_impl_lead (maps : List (List Int)) (edges : List Int) (row : Int) (hok : allP (okL c_impl_lead.args (maps, edges, row, ()))) (hpre : allP (c_impl_lead.pre (maps, edges, row, ()))) : W_impl_lead maps edges row (fun r => r = c_impl_lead.res (maps, edges, row, ())) := by
  simp only [c_impl_lead, okL, T.oks, T.ok, ap, allP, true_and, and_true, implies_true] at hok hpre
  try dsimp only [T.den] at hok
  try dsimp only [T.den] at hpre
  unfold W_impl_lead
  refine loop_of (fun (s : ((Int × (Int × Unit)) × Unit)) => 0 ≤ s.1.2.1 ∧ s.1.2.1 ≤ edges.length ∧ leadP maps (edges.drop s.1.2.1.toNat) s.1.1 ∧ leadR maps edges row = leadR maps (edges.drop s.1.2.1.toNat) s.1.1) (fun (s : ((Int × (Int × Unit)) × Unit)) => (edges.length - s.1.2.1).toNat) ?_ ⟨by simp, by simp, hpre, by simp⟩
  rintro ⟨⟨r, i, _⟩, _⟩ next ⟨h0, h1, h2, h3⟩ hn hr hin
  have hl : edges.length ≤ 140737488355328 := by simp only [nb_eq] at hok; omega
  dsimp only at h0 h1 h2 h3 hn ⊢
  refine cnd_d (fun hc => ?_) (fun hc => ?_)
  · rw [drop_c edges 0 h0 hc] at h2 h3
    simp only [leadP] at h2
    simp only [leadR] at h3
    exact ⟨h0, hc, h2.1, h2.2.1, h2.2.2.1, h2.2.2.2.1, by rw [inK64]; omega, hn _ ⟨(by first | omega | (dsimp only; omega)), (by first | omega | (dsimp only; omega)), h2.2.2.2.2, h3⟩ (by first | omega | (dsimp only; omega))⟩
  · rw [drop_n edges (by omega)] at h3
    simp only [c_impl_lead]
    rw [h3]; rfl
theorem ct_impl_lead : CtOk Try.prog 36 c_impl_lead :=
  ct_by (Φ := lkp []) good_nil tab_ok (by kernel_rfl) (fn := Try.f36) (c := bodyOf Try.f36) (by kernel_rfl) (by kernel_rfl) (by kernel_rfl) c_impl_lead (.s .n (.s (.s .n (.l [(2, (.d (.int .i64))), (11, (.d (.int .i64)))] [] [0, 9, 10] .n)) .n)) (cutL []) (by kernel_rfl) (by kernel_rfl) k_impl_lead (by decide) (fun x K => W_impl_lead x.1 x.2.1 x.2.2.1 K) w_impl_lead (fun x h1 h2 => m_impl_lead x.1 x.2.1 x.2.2.1 h1 h2)
def brokenI (s : SchemaD) (maps : List (List Int)) (i row : Int) : Option (Int × Int) :=
  if leadR maps (s.2.2.2.1.getD i.toNat (0, [])).2 row ≠ leadR maps (s.2.2.2.2.getD i.toNat (0, [])).2 row then some (i, row) else none
def brokenQ (s : SchemaD) (sizes : List Int) (maps : List (List Int)) (i : Int) : Option (Int × Int) := scanR (brokenI s maps i) (sizes.getD (s.2.2.2.1.getD i.toNat (0, [])).1.toNat 0).toNat 0
def brokenR (s : SchemaD) (sizes : List Int) (maps : List (List Int)) : Int × Int := orR (scanR (brokenQ s sizes maps) s.2.2.2.1.length 0) (-1, 0)
theorem eqns_at {s : SchemaD} : ∀ {l r : List PathD}, eqnsR s l r = true → l.length = r.length → ∀ p ∈ l.zip r, eqnR s p.1 p.2 = true
  | [], _, _, _, p, hp => by simp at hp
  | a :: l, [], _, h, p, hp => by simp at h
  | a :: l, b :: r, h, hl, p, hp => by
    simp only [eqnsR, Bool.and_eq_true] at h
    simp only [List.zip_cons_cons, List.mem_cons] at hp
    rcases hp with rfl | hp
    · exact h.1
    · exact eqns_at h.2 (by simpa using hl) p hp
theorem eqn_at {s : SchemaD} (S : SchP s) {i : Int} (h0 : 0 ≤ i) (h1 : i < s.2.2.2.1.length) : eqnR s (s.2.2.2.1.getD i.toNat (0, [])) (s.2.2.2.2.getD i.toNat (0, [])) = true := by
  have hr := S.lr
  have a : i.toNat < s.2.2.2.1.length := by omega
  have b : i.toNat < s.2.2.2.2.length := by omega
  have e1 : s.2.2.2.1.getD i.toNat (0, []) = s.2.2.2.1[i.toNat] := by rw [List.getD_eq_getElem?_getD, List.getElem?_eq_getElem a]; rfl
  have e2 : s.2.2.2.2.getD i.toNat (0, []) = s.2.2.2.2[i.toNat] := by rw [List.getD_eq_getElem?_getD, List.getElem?_eq_getElem b]; rfl
  have hz : i.toNat < (s.2.2.2.1.zip s.2.2.2.2).length := by rw [List.length_zip]; omega
  have hm := List.getElem_mem hz
  rw [List.getElem_zip] at hm
  have := eqns_at S.eq hr.symm _ hm
  rw [e1, e2]
  exact this
theorem follow_lead {s : SchemaD} {sizes : List Int} {maps : List (List Int)} (S : SchP s) (D : DataP s sizes maps) : ∀ (l : List Int) (nd row : Int), (followR s nd l).2 = true → 0 ≤ row → row < sizes.getD nd.toNat 0 → leadP maps l row
  | [], _, _, _, _, _ => trivial
  | e :: r, nd, row, h, h0, h1 => by
    simp only [followR] at h
    split at h
    · rename_i hc
      have hi := inR_iff.1 hc.1
      have hml := D.ml
      have d := D.at_ e hi.1 (by omega)
      rw [hc.2] at d
      have w := within_iff.1 d.2 row h0 (by omega)
      exact ⟨hi.1, by omega, h0, by omega, follow_lead S D r _ _ h w.1 w.2⟩
    · cases h
theorem end_follow {s : SchemaD} {p : PathD} (h : (endR s p).2 = true) : (followR s p.1 p.2).2 = true ∧ 0 ≤ p.1 ∧ p.1 < s.1 := by
  unfold endR at h
  split at h
  · rename_i hc; have := inR_iff.1 hc.1; exact ⟨h, this.1, by omega⟩
  · cases h

def c_impl_Schema_broken : Ct := ⟨[(.pt SchemaT), (.sl (.int .i64)), (.sl (.sl (.int .i64)))], [false, false, false], fun x => [isSchemaR x.1 = true, dataR x.1 x.2.1 x.2.2.1 = true], [(false, (.fz (.int .i64))), (false, (.fz (.int .i64)))], fun x => ((brokenR x.1 x.2.1 x.2.2.1).1, (brokenR x.1 x.2.1 x.2.2.1).2, ()), false⟩
def W_impl_Schema_broken (s : SchemaD) (sizes : List Int) (maps : List (List Int)) (K : Int × Int × Unit → Prop) : Prop := (loopW (S := ((Int × Unit) × Unit)) (fun s1 => (fun next => ((inK IntKind.i64 s1.1.1) → (cnd (decide (s1.1.1 < (((List.length s.2.2.2.1) : Nat) : Int))) (((0 : Int) ≤ s1.1.1) ∧ ((s1.1.1 < (((List.length s.2.2.2.1) : Nat) : Int)) ∧ (((0 : Int) ≤ (List.getD s.2.2.2.1 (Int.toNat s1.1.1) ((0 : Int), ([] : List Int))).1) ∧ (((List.getD s.2.2.2.1 (Int.toNat s1.1.1) ((0 : Int), ([] : List Int))).1 < (((List.length sizes) : Nat) : Int)) ∧ (loopW (S := ((Unit × (Int × Unit)) × ((Int × (List Int)) × Unit))) (fun s2 => (fun next1 => ((inK IntKind.i64 s2.1.2.1) → ((inK IntKind.i64 s2.2.1.1) → ((T.ok (T.sl (T.int IntKind.i64)) s2.2.1.2) → (cnd (decide (s2.1.2.1 < (List.getD sizes (Int.toNat (List.getD s.2.2.2.1 (Int.toNat s1.1.1) ((0 : Int), ([] : List Int))).1) (0 : Int)))) ((leadP maps s2.2.1.2 s2.1.2.1) ∧ (((0 : Int) ≤ s1.1.1) ∧ ((s1.1.1 < (((List.length s.2.2.2.2) : Nat) : Int)) ∧ ((leadP maps (List.getD s.2.2.2.2 (Int.toNat s1.1.1) ((0 : Int), ([] : List Int))).2 s2.1.2.1) ∧ (cnd ((leadR maps s2.2.1.2 s2.1.2.1) != (leadR maps (List.getD s.2.2.2.2 (Int.toNat s1.1.1) ((0 : Int), ([] : List Int))).2 s2.1.2.1)) (K (s1.1.1, (s2.1.2.1, ()))) ((inK IntKind.i64 (s2.1.2.1 + (1 : Int))) ∧ (next1 (((), ((s2.1.2.1 + (1 : Int)), ())), (s2.2.1, ()))))))))) ((inK IntKind.i64 (s1.1.1 + (1 : Int))) ∧ (next (((s1.1.1 + (1 : Int)), ()), ()))))))))) (((), ((0 : Int), ())), ((List.getD s.2.2.2.1 (Int.toNat s1.1.1) ((0 : Int), ([] : List Int))), ()))))))) (K ((-(1 : Int)), ((0 : Int), ()))))))) (((0 : Int), ()), ()))
theorem w_impl_Schema_broken (x : denL c_impl_Schema_broken.args) (K : Int × Int × Unit → Prop) : evF tab (lkp [(36, c_impl_lead)]) (cutL [(7, 17)]) Try.f22 (bodyOf Try.f22) (.s .n (.s (.s .n (.l [(16, (.d (.int .i64)))] [] [0, 1, 2, 14, 15] (.s .n (.s .n (.s (.s .n (.s .n (.l [(9, (.ad 9 [.de])), (26, (.d (.int .i64)))] [(9, (.pt (.fz (.p (.int .i64) (.sl (.int .i64))))))] [0, 1, 2, 8, 14, 15, 16, 25] .n))) .n))))) .n)) c_impl_Schema_broken x K = W_impl_Schema_broken x.1 x.2.1 x.2.2.1 K := by kernel_rfl
theorem k_impl_Schema_broken : okC Try.f22.ntmps (cutL [(7, 17)]) (bodyOf Try.f22) = true := by kernel_rfl
theorem m_impl_Schema_broken (s : SchemaD) (sizes : List Int) (maps : List (List Int)) (hok : allP (okL c_impl_Schema_broken.args (s, sizes, maps, ()))) (hpre : allP (c_impl_Schema_broken.pre (s, sizes, maps, ()))) : W_impl_Schema_broken s sizes maps (fun r => r = c_impl_Schema_broken.res (s, sizes, maps, ())) := by
  simp only [c_impl_Schema_broken, okL, T.oks, T.ok, ap, allP, true_and, and_true, implies_true] at hok hpre
  try dsimp only [T.den] at hok
  try dsimp only [T.den] at hpre
  unfold W_impl_Schema_broken
  have S := sch_of hpre.1
  have D := data_iff.1 hpre.2
  have hll := S.ll
  have hlr := S.lr
  have hlen := D.len
  have resq : ∀ a b, brokenR s sizes maps = (a, b) → (a, b, ()) = c_impl_Schema_broken.res (s, sizes, maps, ()) := fun a b h => by simp only [c_impl_Schema_broken, h]
  refine loop_ix (n := s.2.2.2.1.length) (fun i => scanR (brokenQ s sizes maps) s.2.2.2.1.length 0 = scanR (brokenQ s sizes maps) ((s.2.2.2.1.length : Int) - i).toNat i) (by omega) scan_0 ?_ ?_
  · intro i next h0 h1 hP hn hin
    dsimp only
    have he := eqn_at S h0 h1
    simp only [eqnR, Bool.and_eq_true, decide_eq_true_eq] at he
    obtain ⟨⟨⟨e1, e2⟩, e3⟩, _⟩ := he
    have f1 := end_follow e1
    have f2 := end_follow e2
    have sb := within_iff.1 D.sz _ f1.2.1 (by omega)
    have hq : ∀ r, brokenI s maps i r = if leadR maps (s.2.2.2.1.getD i.toNat (0, [])).2 r ≠ leadR maps (s.2.2.2.2.getD i.toNat (0, [])).2 r then some (i, r) else none := fun _ => rfl
    have hQ : brokenQ s sizes maps i = scanR (brokenI s maps i) (sizes.getD (s.2.2.2.1.getD i.toNat (0, [])).1.toNat 0).toNat 0 := rfl
    have l1 := fun r => follow_lead S D (s.2.2.2.1.getD i.toNat (0, [])).2 (s.2.2.2.1.getD i.toNat (0, [])).1 r f1.1
    have l2 := fun r => follow_lead S D (s.2.2.2.2.getD i.toNat (0, [])).2 (s.2.2.2.2.getD i.toNat (0, [])).1 r f2.1
    rw [← e3] at l2
    generalize s.2.2.2.1.getD i.toNat (0, []) = p at *
    generalize s.2.2.2.2.getD i.toNat (0, []) = q at *
    generalize hm : sizes.getD p.1.toNat 0 = m at *
    refine cnd_d (fun _ => ⟨h0, h1, f1.2.1, by omega, ?_⟩) (fun h => absurd h1 h)
    refine loop_of (fun (s2 : ((Unit × (Int × Unit)) × ((Int × (List Int)) × Unit))) => s2.2.1 = p ∧ 0 ≤ s2.1.2.1 ∧ s2.1.2.1 ≤ m ∧ brokenQ s sizes maps i = scanR (brokenI s maps i) (m - s2.1.2.1).toNat s2.1.2.1) (fun (s2 : ((Unit × (Int × Unit)) × ((Int × (List Int)) × Unit))) => (m - s2.1.2.1).toNat) ?_ ⟨rfl, by simp, sb.1, by rw [hQ]; simp⟩
    rintro ⟨⟨_, r, _⟩, p', _⟩ next2 ⟨hp, r0, r1, hP2⟩ hn2 hin2 ha hb
    dsimp only at hp r0 r1 hP2 hn2 ⊢
    subst hp
    refine cnd_d (fun hr => ⟨l1 r r0 (by omega), h0, by omega, l2 r r0 (by omega), cnd_of (fun hx => resq _ _ ?_) (fun hx => ⟨by rw [inK64]; omega, hn2 _ ⟨rfl, (by first | omega | (dsimp only; omega)), (by first | omega | (dsimp only; omega)), ?_⟩ (by first | omega | (dsimp only; omega))⟩)⟩) (fun hr => ?_)
    · have e : brokenI s maps i r = some (i, r) := by rw [hq, if_pos (by simpa using hx)]
      have e4 : brokenQ s sizes maps i = some (i, r) := by rw [hP2, scan_s hr e]
      unfold brokenR; rw [hP, scan_s h1 e4]; rfl
    · have e : brokenI s maps i r = none := by rw [hq, if_neg (by simpa using hx)]
      dsimp only
      rw [hP2, scan_c hr e]
    · have e : r = m := by omega
      rw [e, scan_n] at hP2
      exact ⟨by rw [inK64]; omega, hn (by rw [hP, scan_c h1 hP2])⟩
  · intro next hP hin
    rw [scan_n] at hP
    refine cnd_d (fun h => absurd h (by dsimp only; omega)) (fun _ => resq _ _ ?_)
    unfold brokenR; rw [hP]; rfl
theorem ct_impl_Schema_broken : CtOk Try.prog 22 c_impl_Schema_broken :=
  ct_by (Φ := lkp [(36, c_impl_lead)]) (good_cons ct_impl_lead good_nil) tab_ok (by kernel_rfl) (fn := Try.f22) (c := bodyOf Try.f22) (by kernel_rfl) (by kernel_rfl) (by kernel_rfl) c_impl_Schema_broken (.s .n (.s (.s .n (.l [(16, (.d (.int .i64)))] [] [0, 1, 2, 14, 15] (.s .n (.s .n (.s (.s .n (.s .n (.l [(9, (.ad 9 [.de])), (26, (.d (.int .i64)))] [(9, (.pt (.fz (.p (.int .i64) (.sl (.int .i64))))))] [0, 1, 2, 8, 14, 15, 16, 25] .n))) .n))))) .n)) (cutL [(7, 17)]) (by kernel_rfl) (by kernel_rfl) k_impl_Schema_broken (by decide) (fun x K => W_impl_Schema_broken x.1 x.2.1 x.2.2.1 K) w_impl_Schema_broken (fun x h1 h2 => m_impl_Schema_broken x.1 x.2.1 x.2.2.1 h1 h2)
def fbR (s : SchemaD) (sizes : List Int) (maps : List (List Int)) : Int × Int × Int := if isSchemaR s = true then (if dataR s sizes maps = true then ((brokenR s sizes maps).1, (brokenR s sizes maps).2, 0) else (0, 0, 2)) else (0, 0, 1)

def c_impl_FirstBrokenEquation : Ct := ⟨[SchemaT, (.sl (.int .i64)), (.sl (.sl (.int .i64)))], [true, false, false], fun x => [], [(false, (.fz (.int .i64))), (false, (.fz (.int .i64))), (false, (.fz (.int .i64)))], fun x => ((fbR x.1 x.2.1 x.2.2.1).1, (fbR x.1 x.2.1 x.2.2.1).2.1, (fbR x.1 x.2.1 x.2.2.1).2.2, ()), false⟩
def W_impl_FirstBrokenEquation (s : SchemaD) (sizes : List Int) (maps : List (List Int)) (K : Int × Int × Int × Unit → Prop) : Prop := (cnd (!(isSchemaR s)) (K ((0 : Int), ((0 : Int), ((1 : Int), ())))) (((isSchemaR s) = Bool.true) ∧ (cnd (!(dataR s sizes maps)) (K ((0 : Int), ((0 : Int), ((2 : Int), ())))) (((isSchemaR s) = Bool.true) ∧ (((dataR s sizes maps) = Bool.true) ∧ (K ((brokenR s sizes maps).1, ((brokenR s sizes maps).2, ((0 : Int), ())))))))))
theorem w_impl_FirstBrokenEquation (x : denL c_impl_FirstBrokenEquation.args) (K : Int × Int × Int × Unit → Prop) : evF tab (lkp [(22, c_impl_Schema_broken), (21, c_impl_Schema_hasRows), (20, c_impl_Schema_isSchema)]) (cutL []) Try.f10 (bodyOf Try.f10) .n c_impl_FirstBrokenEquation x K = W_impl_FirstBrokenEquation x.1 x.2.1 x.2.2.1 K := by kernel_rfl
theorem k_impl_FirstBrokenEquation : okC Try.f10.ntmps (cutL []) (bodyOf Try.f10) = true := by kernel_rfl
theorem m_impl_FirstBrokenEquation (s : SchemaD) (sizes : List Int) (maps : List (List Int)) (hok : allP (okL c_impl_FirstBrokenEquation.args (s, sizes, maps, ()))) (hpre : allP (c_impl_FirstBrokenEquation.pre (s, sizes, maps, ()))) : W_impl_FirstBrokenEquation s sizes maps (fun r => r = c_impl_FirstBrokenEquation.res (s, sizes, maps, ())) := by
  simp only [c_impl_FirstBrokenEquation, okL, T.oks, T.ok, ap, allP, true_and, and_true, implies_true] at hok hpre
  try dsimp only [T.den] at hok
  try dsimp only [T.den] at hpre
  unfold W_impl_FirstBrokenEquation
  simp only [c_impl_FirstBrokenEquation, fbR]
  grind [cnd, nb_eq, inK64]
theorem ct_impl_FirstBrokenEquation : CtOk Try.prog 10 c_impl_FirstBrokenEquation :=
  ct_by (Φ := lkp [(22, c_impl_Schema_broken), (21, c_impl_Schema_hasRows), (20, c_impl_Schema_isSchema)]) (good_cons ct_impl_Schema_broken (good_cons ct_impl_Schema_hasRows (good_cons ct_impl_Schema_isSchema good_nil))) tab_ok (by kernel_rfl) (fn := Try.f10) (c := bodyOf Try.f10) (by kernel_rfl) (by kernel_rfl) (by kernel_rfl) c_impl_FirstBrokenEquation .n (cutL []) (by kernel_rfl) (by kernel_rfl) k_impl_FirstBrokenEquation (by decide) (fun x K => W_impl_FirstBrokenEquation x.1 x.2.1 x.2.2.1 K) w_impl_FirstBrokenEquation (fun x h1 h2 => m_impl_FirstBrokenEquation x.1 x.2.1 x.2.2.1 h1 h2)
def c_laws_eqInt64S : Ct := ⟨[(.sl (.int .i64)), (.sl (.int .i64))], [false, false], fun x => [], [(false, (.fz .bool))], fun x => (eqR (.sl (.int .i64)) x.1 x.2.1, ()), false⟩
def W_laws_eqInt64S (a : List Int) (b : List Int) (K : Bool × Unit → Prop) : Prop := (cnd ((((List.length a) : Nat) : Int) != (((List.length b) : Nat) : Int)) (K (Bool.false, ())) (loopW (S := ((Int × Unit) × Unit)) (fun s => (fun next => ((inK IntKind.i64 s.1.1) → (cnd (decide (s.1.1 < (((List.length a) : Nat) : Int))) (((0 : Int) ≤ s.1.1) ∧ ((s.1.1 < (((List.length a) : Nat) : Int)) ∧ (((0 : Int) ≤ s.1.1) ∧ ((s.1.1 < (((List.length b) : Nat) : Int)) ∧ (cnd ((List.getD a (Int.toNat s.1.1) (0 : Int)) != (List.getD b (Int.toNat s.1.1) (0 : Int))) (K (Bool.false, ())) ((inK IntKind.i64 (s.1.1 + (1 : Int))) ∧ (next (((s.1.1 + (1 : Int)), ()), ())))))))) (K (Bool.true, ())))))) (((0 : Int), ()), ())))
theorem w_laws_eqInt64S (x : denL c_laws_eqInt64S.args) (K : Bool × Unit → Prop) : evF tab (lkp []) (cutL [(6, 9)]) Try.f12 (bodyOf Try.f12) (.s .n (.s .n (.s (.s .n (.l [(5, (.d (.int .i64)))] [] [0, 1] .n)) .n))) c_laws_eqInt64S x K = W_laws_eqInt64S x.1 x.2.1 K := by kernel_rfl
theorem k_laws_eqInt64S : okC Try.f12.ntmps (cutL [(6, 9)]) (bodyOf Try.f12) = true := by kernel_rfl
theorem m_laws_eqInt64S (a : List Int) (b : List Int) (hok : allP (okL c_laws_eqInt64S.args (a, b, ()))) (hpre : allP (c_laws_eqInt64S.pre (a, b, ()))) : W_laws_eqInt64S a b (fun r => r = c_laws_eqInt64S.res (a, b, ())) := by
  simp only [c_laws_eqInt64S, okL, T.oks, T.ok, ap, allP, true_and, and_true, implies_true] at hok hpre
  try dsimp only [T.den] at hok
  try dsimp only [T.den] at hpre
  unfold W_laws_eqInt64S
  refine cnd_of (fun hc => ?_) (fun hc => ?_)
  · simp only [c_laws_eqInt64S, Prod.mk.injEq, and_true]; rw [eqR_f]; rintro rfl; simp at hc
  have hl : a.length = b.length := by simp at hc; omega
  refine loop_of (fun (s : ((Int × Unit) × Unit)) => 0 ≤ s.1.1 ∧ s.1.1 ≤ a.length ∧ a.take s.1.1.toNat = b.take s.1.1.toNat) (fun (s : ((Int × Unit) × Unit)) => (a.length - s.1.1).toNat) ?_ (by simp)
  rintro ⟨⟨i, _⟩, _⟩ next ⟨h0, h1, h2⟩ hn hin
  simp only at h0 h1 h2 hn ⊢
  refine cnd_d (fun hc => ?_) (fun hc => ?_)
  · have ha := take_c a (0 : Int) h0 hc
    have hb := take_c b (0 : Int) h0 (by omega)
    refine ⟨by omega, by omega, by omega, by omega, cnd_of (fun hd => ?_) (fun hd => ?_)⟩
    · simp only [c_laws_eqInt64S, Prod.mk.injEq, and_true]; rw [eqR_f]; rintro rfl; simp at hd
    · refine ⟨by grind [cnd, nb_eq, inK64], hn _ ⟨(by first | omega | (dsimp only; omega)), (by first | omega | (dsimp only; omega)), ?_⟩ (by first | omega | (dsimp only; omega))⟩
      simp only [Bool.not_eq_false', eqR_iff, bne_eq_false_iff_eq] at hd
      simp only [ha, hb, h2, hd]
  · rw [take_n a (by omega), take_n b (by omega)] at h2
    simp [h2, c_laws_eqInt64S]
theorem ct_laws_eqInt64S : CtOk Try.prog 12 c_laws_eqInt64S :=
  ct_by (Φ := lkp []) good_nil tab_ok (by kernel_rfl) (fn := Try.f12) (c := bodyOf Try.f12) (by kernel_rfl) (by kernel_rfl) (by kernel_rfl) c_laws_eqInt64S (.s .n (.s .n (.s (.s .n (.l [(5, (.d (.int .i64)))] [] [0, 1] .n)) .n))) (cutL [(6, 9)]) (by kernel_rfl) (by kernel_rfl) k_laws_eqInt64S (by decide) (fun x K => W_laws_eqInt64S x.1 x.2.1 K) w_laws_eqInt64S (fun x h1 h2 => m_laws_eqInt64S x.1 x.2.1 h1 h2)
def c_laws_eqInt64SS : Ct := ⟨[(.sl (.sl (.int .i64))), (.sl (.sl (.int .i64)))], [false, false], fun x => [], [(false, (.fz .bool))], fun x => (eqR (.sl (.sl (.int .i64))) x.1 x.2.1, ()), false⟩
def W_laws_eqInt64SS (a : List (List Int)) (b : List (List Int)) (K : Bool × Unit → Prop) : Prop := (cnd ((((List.length a) : Nat) : Int) != (((List.length b) : Nat) : Int)) (K (Bool.false, ())) (loopW (S := ((Int × Unit) × Unit)) (fun s => (fun next => ((inK IntKind.i64 s.1.1) → (cnd (decide (s.1.1 < (((List.length a) : Nat) : Int))) (((0 : Int) ≤ s.1.1) ∧ ((s.1.1 < (((List.length a) : Nat) : Int)) ∧ (((0 : Int) ≤ s.1.1) ∧ ((s.1.1 < (((List.length b) : Nat) : Int)) ∧ (cnd (!(eqR (T.sl (T.int IntKind.i64)) (List.getD a (Int.toNat s.1.1) ([] : List Int)) (List.getD b (Int.toNat s.1.1) ([] : List Int)))) (K (Bool.false, ())) ((inK IntKind.i64 (s.1.1 + (1 : Int))) ∧ (next (((s.1.1 + (1 : Int)), ()), ())))))))) (K (Bool.true, ())))))) (((0 : Int), ()), ())))
theorem w_laws_eqInt64SS (x : denL c_laws_eqInt64SS.args) (K : Bool × Unit → Prop) : evF tab (lkp [(12, c_laws_eqInt64S)]) (cutL [(6, 10)]) Try.f13 (bodyOf Try.f13) (.s .n (.s .n (.s (.s .n (.l [(5, (.d (.int .i64)))] [] [0, 1] .n)) .n))) c_laws_eqInt64SS x K = W_laws_eqInt64SS x.1 x.2.1 K := by kernel_rfl
theorem k_laws_eqInt64SS : okC Try.f13.ntmps (cutL [(6, 10)]) (bodyOf Try.f13) = true := by kernel_rfl
theorem m_laws_eqInt64SS (a : List (List Int)) (b : List (List Int)) (hok : allP (okL c_laws_eqInt64SS.args (a, b, ()))) (hpre : allP (c_laws_eqInt64SS.pre (a, b, ()))) : W_laws_eqInt64SS a b (fun r => r = c_laws_eqInt64SS.res (a, b, ())) := by
  simp only [c_laws_eqInt64SS, okL, T.oks, T.ok, ap, allP, true_and, and_true, implies_true] at hok hpre
  try dsimp only [T.den] at hok
  try dsimp only [T.den] at hpre
  unfold W_laws_eqInt64SS
  refine cnd_of (fun hc => ?_) (fun hc => ?_)
  · simp only [c_laws_eqInt64SS, Prod.mk.injEq, and_true]; rw [eqR_f]; rintro rfl; simp at hc
  have hl : a.length = b.length := by simp at hc; omega
  refine loop_of (fun (s : ((Int × Unit) × Unit)) => 0 ≤ s.1.1 ∧ s.1.1 ≤ a.length ∧ a.take s.1.1.toNat = b.take s.1.1.toNat) (fun (s : ((Int × Unit) × Unit)) => (a.length - s.1.1).toNat) ?_ (by simp)
  rintro ⟨⟨i, _⟩, _⟩ next ⟨h0, h1, h2⟩ hn hin
  simp only at h0 h1 h2 hn ⊢
  refine cnd_d (fun hc => ?_) (fun hc => ?_)
  · have ha := take_c a ([] : List Int) h0 hc
    have hb := take_c b ([] : List Int) h0 (by omega)
    refine ⟨by omega, by omega, by omega, by omega, cnd_of (fun hd => ?_) (fun hd => ?_)⟩
    · simp only [c_laws_eqInt64SS, Prod.mk.injEq, and_true]; rw [eqR_f]; rintro rfl; simp at hd
    · refine ⟨by grind [cnd, nb_eq, inK64], hn _ ⟨(by first | omega | (dsimp only; omega)), (by first | omega | (dsimp only; omega)), ?_⟩ (by first | omega | (dsimp only; omega))⟩
      simp only [Bool.not_eq_false', eqR_iff, bne_eq_false_iff_eq] at hd
      simp only [ha, hb, h2, hd]
  · rw [take_n a (by omega), take_n b (by omega)] at h2
    simp [h2, c_laws_eqInt64SS]
theorem ct_laws_eqInt64SS : CtOk Try.prog 13 c_laws_eqInt64SS :=
  ct_by (Φ := lkp [(12, c_laws_eqInt64S)]) (good_cons ct_laws_eqInt64S good_nil) tab_ok (by kernel_rfl) (fn := Try.f13) (c := bodyOf Try.f13) (by kernel_rfl) (by kernel_rfl) (by kernel_rfl) c_laws_eqInt64SS (.s .n (.s .n (.s (.s .n (.l [(5, (.d (.int .i64)))] [] [0, 1] .n)) .n))) (cutL [(6, 10)]) (by kernel_rfl) (by kernel_rfl) k_laws_eqInt64SS (by decide) (fun x K => W_laws_eqInt64SS x.1 x.2.1 K) w_laws_eqInt64SS (fun x h1 h2 => m_laws_eqInt64SS x.1 x.2.1 h1 h2)
def c_laws_eqPath : Ct := ⟨[PathT, PathT], [true, true], fun x => [], [(false, (.fz .bool))], fun x => (eqR PathT x.1 x.2.1, ()), false⟩
def W_laws_eqPath (a : PathD) (b : PathD) (K : Bool × Unit → Prop) : Prop := (cnd (a.1 != b.1) (K (Bool.false, ())) (cnd (!(eqR (T.sl (T.int IntKind.i64)) a.2 b.2)) (K (Bool.false, ())) (K (Bool.true, ()))))
theorem w_laws_eqPath (x : denL c_laws_eqPath.args) (K : Bool × Unit → Prop) : evF tab (lkp [(12, c_laws_eqInt64S)]) (cutL []) Try.f37 (bodyOf Try.f37) .n c_laws_eqPath x K = W_laws_eqPath x.1 x.2.1 K := by kernel_rfl
theorem k_laws_eqPath : okC Try.f37.ntmps (cutL []) (bodyOf Try.f37) = true := by kernel_rfl
theorem m_laws_eqPath (a : PathD) (b : PathD) (hok : allP (okL c_laws_eqPath.args (a, b, ()))) (hpre : allP (c_laws_eqPath.pre (a, b, ()))) : W_laws_eqPath a b (fun r => r = c_laws_eqPath.res (a, b, ())) := by
  simp only [c_laws_eqPath, okL, T.oks, T.ok, ap, allP, true_and, and_true, implies_true] at hok hpre
  try dsimp only [T.den] at hok
  try dsimp only [T.den] at hpre
  unfold W_laws_eqPath
  simp only [c_laws_eqPath, eqR_p, eqR_int, eqR_bool]
  grind [cnd, nb_eq, inK64]
theorem ct_laws_eqPath : CtOk Try.prog 37 c_laws_eqPath :=
  ct_by (Φ := lkp [(12, c_laws_eqInt64S)]) (good_cons ct_laws_eqInt64S good_nil) tab_ok (by kernel_rfl) (fn := Try.f37) (c := bodyOf Try.f37) (by kernel_rfl) (by kernel_rfl) (by kernel_rfl) c_laws_eqPath .n (cutL []) (by kernel_rfl) (by kernel_rfl) k_laws_eqPath (by decide) (fun x K => W_laws_eqPath x.1 x.2.1 K) w_laws_eqPath (fun x h1 h2 => m_laws_eqPath x.1 x.2.1 h1 h2)
def c_laws_eqPathS : Ct := ⟨[(.sl PathT), (.sl PathT)], [false, false], fun x => [], [(false, (.fz .bool))], fun x => (eqR (.sl PathT) x.1 x.2.1, ()), false⟩
def W_laws_eqPathS (a : List PathD) (b : List PathD) (K : Bool × Unit → Prop) : Prop := (cnd ((((List.length a) : Nat) : Int) != (((List.length b) : Nat) : Int)) (K (Bool.false, ())) (loopW (S := ((Int × Unit) × Unit)) (fun s => (fun next => ((inK IntKind.i64 s.1.1) → (cnd (decide (s.1.1 < (((List.length a) : Nat) : Int))) (((0 : Int) ≤ s.1.1) ∧ ((s.1.1 < (((List.length a) : Nat) : Int)) ∧ (((0 : Int) ≤ s.1.1) ∧ ((s.1.1 < (((List.length b) : Nat) : Int)) ∧ (cnd (!(eqR PathT (List.getD a (Int.toNat s.1.1) ((0 : Int), ([] : List Int))) (List.getD b (Int.toNat s.1.1) ((0 : Int), ([] : List Int))))) (K (Bool.false, ())) ((inK IntKind.i64 (s.1.1 + (1 : Int))) ∧ (next (((s.1.1 + (1 : Int)), ()), ())))))))) (K (Bool.true, ())))))) (((0 : Int), ()), ())))
theorem w_laws_eqPathS (x : denL c_laws_eqPathS.args) (K : Bool × Unit → Prop) : evF tab (lkp [(37, c_laws_eqPath)]) (cutL [(6, 10)]) Try.f23 (bodyOf Try.f23) (.s .n (.s .n (.s (.s .n (.l [(5, (.d (.int .i64)))] [] [0, 1] .n)) .n))) c_laws_eqPathS x K = W_laws_eqPathS x.1 x.2.1 K := by kernel_rfl
theorem k_laws_eqPathS : okC Try.f23.ntmps (cutL [(6, 10)]) (bodyOf Try.f23) = true := by kernel_rfl
theorem m_laws_eqPathS (a : List PathD) (b : List PathD) (hok : allP (okL c_laws_eqPathS.args (a, b, ()))) (hpre : allP (c_laws_eqPathS.pre (a, b, ()))) : W_laws_eqPathS a b (fun r => r = c_laws_eqPathS.res (a, b, ())) := by
  simp only [c_laws_eqPathS, okL, T.oks, T.ok, ap, allP, true_and, and_true, implies_true] at hok hpre
  try dsimp only [T.den] at hok
  try dsimp only [T.den] at hpre
  unfold W_laws_eqPathS
  refine cnd_of (fun hc => ?_) (fun hc => ?_)
  · simp only [c_laws_eqPathS, Prod.mk.injEq, and_true]; rw [eqR_f]; rintro rfl; simp at hc
  have hl : a.length = b.length := by simp at hc; omega
  refine loop_of (fun (s : ((Int × Unit) × Unit)) => 0 ≤ s.1.1 ∧ s.1.1 ≤ a.length ∧ a.take s.1.1.toNat = b.take s.1.1.toNat) (fun (s : ((Int × Unit) × Unit)) => (a.length - s.1.1).toNat) ?_ (by simp)
  rintro ⟨⟨i, _⟩, _⟩ next ⟨h0, h1, h2⟩ hn hin
  simp only at h0 h1 h2 hn ⊢
  refine cnd_d (fun hc => ?_) (fun hc => ?_)
  · have ha := take_c a ((0 : Int), ([] : List Int)) h0 hc
    have hb := take_c b ((0 : Int), ([] : List Int)) h0 (by omega)
    refine ⟨by omega, by omega, by omega, by omega, cnd_of (fun hd => ?_) (fun hd => ?_)⟩
    · simp only [c_laws_eqPathS, Prod.mk.injEq, and_true]; rw [eqR_f]; rintro rfl; simp at hd
    · refine ⟨by grind [cnd, nb_eq, inK64], hn _ ⟨(by first | omega | (dsimp only; omega)), (by first | omega | (dsimp only; omega)), ?_⟩ (by first | omega | (dsimp only; omega))⟩
      simp only [Bool.not_eq_false', eqR_iff, bne_eq_false_iff_eq] at hd
      simp only [ha, hb, h2, hd]
  · rw [take_n a (by omega), take_n b (by omega)] at h2
    simp [h2, c_laws_eqPathS]
theorem ct_laws_eqPathS : CtOk Try.prog 23 c_laws_eqPathS :=
  ct_by (Φ := lkp [(37, c_laws_eqPath)]) (good_cons ct_laws_eqPath good_nil) tab_ok (by kernel_rfl) (fn := Try.f23) (c := bodyOf Try.f23) (by kernel_rfl) (by kernel_rfl) (by kernel_rfl) c_laws_eqPathS (.s .n (.s .n (.s (.s .n (.l [(5, (.d (.int .i64)))] [] [0, 1] .n)) .n))) (cutL [(6, 10)]) (by kernel_rfl) (by kernel_rfl) k_laws_eqPathS (by decide) (fun x K => W_laws_eqPathS x.1 x.2.1 K) w_laws_eqPathS (fun x h1 h2 => m_laws_eqPathS x.1 x.2.1 h1 h2)
def c_laws_eqSchema : Ct := ⟨[SchemaT, SchemaT], [true, true], fun x => [], [(false, (.fz .bool))], fun x => (eqR SchemaT x.1 x.2.1, ()), false⟩
def W_laws_eqSchema (a : SchemaD) (b : SchemaD) (K : Bool × Unit → Prop) : Prop := (cnd (a.1 != b.1) (K (Bool.false, ())) (cnd (!(eqR (T.sl (T.int IntKind.i64)) a.2.1 b.2.1)) (K (Bool.false, ())) (cnd (!(eqR (T.sl (T.int IntKind.i64)) a.2.2.1 b.2.2.1)) (K (Bool.false, ())) (cnd (!(eqR (T.sl PathT) a.2.2.2.1 b.2.2.2.1)) (K (Bool.false, ())) (cnd (!(eqR (T.sl PathT) a.2.2.2.2 b.2.2.2.2)) (K (Bool.false, ())) (K (Bool.true, ())))))))
theorem w_laws_eqSchema (x : denL c_laws_eqSchema.args) (K : Bool × Unit → Prop) : evF tab (lkp [(12, c_laws_eqInt64S), (23, c_laws_eqPathS)]) (cutL []) Try.f11 (bodyOf Try.f11) .n c_laws_eqSchema x K = W_laws_eqSchema x.1 x.2.1 K := by kernel_rfl
theorem k_laws_eqSchema : okC Try.f11.ntmps (cutL []) (bodyOf Try.f11) = true := by kernel_rfl
theorem m_laws_eqSchema (a : SchemaD) (b : SchemaD) (hok : allP (okL c_laws_eqSchema.args (a, b, ()))) (hpre : allP (c_laws_eqSchema.pre (a, b, ()))) : W_laws_eqSchema a b (fun r => r = c_laws_eqSchema.res (a, b, ())) := by
  simp only [c_laws_eqSchema, okL, T.oks, T.ok, ap, allP, true_and, and_true, implies_true] at hok hpre
  try dsimp only [T.den] at hok
  try dsimp only [T.den] at hpre
  unfold W_laws_eqSchema
  simp only [c_laws_eqSchema, eqR_p, eqR_int, eqR_bool]
  grind [cnd, nb_eq, inK64]
theorem ct_laws_eqSchema : CtOk Try.prog 11 c_laws_eqSchema :=
  ct_by (Φ := lkp [(12, c_laws_eqInt64S), (23, c_laws_eqPathS)]) (good_cons ct_laws_eqInt64S (good_cons ct_laws_eqPathS good_nil)) tab_ok (by kernel_rfl) (fn := Try.f11) (c := bodyOf Try.f11) (by kernel_rfl) (by kernel_rfl) (by kernel_rfl) c_laws_eqSchema .n (cutL []) (by kernel_rfl) (by kernel_rfl) k_laws_eqSchema (by decide) (fun x K => W_laws_eqSchema x.1 x.2.1 K) w_laws_eqSchema (fun x h1 h2 => m_laws_eqSchema x.1 x.2.1 h1 h2)
def c_laws_szInt64S : Ct := ⟨[(.sl (.int .i64)), (.int .i64)], [false, false], fun x => [-4611545280939032576 ≤ x.2.1], [(false, (.fz (.int .i64)))], fun x => (szR (wR (.sl (.int .i64)) x.1) x.2.1, ()), false⟩
def W_laws_szInt64S (a : List Int) (left : Int) (K : Int × Unit → Prop) : Prop := ((inK IntKind.i64 (left - (((List.length a) : Nat) : Int))) ∧ (cnd (decide ((left - (((List.length a) : Nat) : Int)) < (0 : Int))) (K ((-(1 : Int)), ())) (K ((left - (((List.length a) : Nat) : Int)), ()))))
theorem w_laws_szInt64S (x : denL c_laws_szInt64S.args) (K : Int × Unit → Prop) : evF tab (lkp []) (cutL []) Try.f14 (bodyOf Try.f14) .n c_laws_szInt64S x K = W_laws_szInt64S x.1 x.2.1 K := by kernel_rfl
theorem k_laws_szInt64S : okC Try.f14.ntmps (cutL []) (bodyOf Try.f14) = true := by kernel_rfl
theorem m_laws_szInt64S (a : List Int) (left : Int) (hok : allP (okL c_laws_szInt64S.args (a, left, ()))) (hpre : allP (c_laws_szInt64S.pre (a, left, ()))) : W_laws_szInt64S a left (fun r => r = c_laws_szInt64S.res (a, left, ())) := by
  simp only [c_laws_szInt64S, okL, T.oks, T.ok, ap, allP, true_and, and_true, implies_true] at hok hpre
  try dsimp only [T.den] at hok
  try dsimp only [T.den] at hpre
  unfold W_laws_szInt64S
  simp only [c_laws_szInt64S, wR_ints]
  grind [cnd, nb_eq, inK64, szR]
theorem ct_laws_szInt64S : CtOk Try.prog 14 c_laws_szInt64S :=
  ct_by (Φ := lkp []) good_nil tab_ok (by kernel_rfl) (fn := Try.f14) (c := bodyOf Try.f14) (by kernel_rfl) (by kernel_rfl) (by kernel_rfl) c_laws_szInt64S .n (cutL []) (by kernel_rfl) (by kernel_rfl) k_laws_szInt64S (by decide) (fun x K => W_laws_szInt64S x.1 x.2.1 K) w_laws_szInt64S (fun x h1 h2 => m_laws_szInt64S x.1 x.2.1 h1 h2)
def c_laws_szInt64SS : Ct := ⟨[(.sl (.sl (.int .i64))), (.int .i64)], [false, false], fun x => [-4611404543450677248 ≤ x.2.1], [(false, (.fz (.int .i64)))], fun x => (szR (wR (.sl (.sl (.int .i64))) x.1) x.2.1, ()), false⟩
def W_laws_szInt64SS (a : List (List Int)) (left : Int) (K : Int × Unit → Prop) : Prop := ((inK IntKind.i64 (left - (((List.length a) : Nat) : Int))) ∧ (cnd (decide ((left - (((List.length a) : Nat) : Int)) < (0 : Int))) (K ((-(1 : Int)), ())) (loopW (S := ((Int × (Int × Unit)) × Unit)) (fun s => (fun next => ((inK IntKind.i64 s.1.1) → ((inK IntKind.i64 s.1.2.1) → (cnd (decide (s.1.2.1 < (((List.length a) : Nat) : Int))) (((0 : Int) ≤ s.1.2.1) ∧ ((s.1.2.1 < (((List.length a) : Nat) : Int)) ∧ (((-(4611545280939032576 : Int)) ≤ s.1.1) ∧ (cnd (decide ((szR (wR (T.sl (T.int IntKind.i64)) (List.getD a (Int.toNat s.1.2.1) ([] : List Int))) s.1.1) < (0 : Int))) (K ((-(1 : Int)), ())) ((inK IntKind.i64 (s.1.2.1 + (1 : Int))) ∧ (next (((szR (wR (T.sl (T.int IntKind.i64)) (List.getD a (Int.toNat s.1.2.1) ([] : List Int))) s.1.1), ((s.1.2.1 + (1 : Int)), ())), ()))))))) (K (s.1.1, ()))))))) (((left - (((List.length a) : Nat) : Int)), ((0 : Int), ())), ()))))
theorem w_laws_szInt64SS (x : denL c_laws_szInt64SS.args) (K : Int × Unit → Prop) : evF tab (lkp [(14, c_laws_szInt64S)]) (cutL []) Try.f5 (bodyOf Try.f5) (.s .n (.s .n (.s .n (.s (.s .n (.l [(1, (.d (.int .i64))), (5, (.d (.int .i64)))] [] [0] .n)) .n)))) c_laws_szInt64SS x K = W_laws_szInt64SS x.1 x.2.1 K := by kernel_rfl
theorem k_laws_szInt64SS : okC Try.f5.ntmps (cutL []) (bodyOf Try.f5) = true := by kernel_rfl
theorem m_laws_szInt64SS (a : List (List Int)) (left : Int) (hok : allP (okL c_laws_szInt64SS.args (a, left, ()))) (hpre : allP (c_laws_szInt64SS.pre (a, left, ()))) : W_laws_szInt64SS a left (fun r => r = c_laws_szInt64SS.res (a, left, ())) := by
  simp only [c_laws_szInt64SS, okL, T.oks, T.ok, ap, allP, true_and, and_true, implies_true] at hok hpre
  try dsimp only [T.den] at hok
  try dsimp only [T.den] at hpre
  unfold W_laws_szInt64SS
  have hr := szR_ge (x := a.length) (r := (a.map (wR (.sl (.int .i64)))).sum) (l := left)
  refine ⟨by grind [cnd, nb_eq, inK64], cnd_d (fun hc => ?_) (fun hc => ?_)⟩
  · simp only [c_laws_szInt64SS]; rw [wR_sl, szR_lt (x := a.length) (by omega)]
  replace hr := hr (by omega)
  rw [szR_val (x := a.length) (by omega)] at hr
  refine loop_of (fun (s : ((Int × (Int × Unit)) × Unit)) => 0 ≤ s.1.1 ∧ 0 ≤ s.1.2.1 ∧ s.1.2.1 ≤ a.length ∧ szR (wR (.sl (.sl (.int .i64))) a) left = szR ((a.drop s.1.2.1.toNat).map (wR (.sl (.int .i64)))).sum s.1.1) (fun (s : ((Int × (Int × Unit)) × Unit)) => (a.length - s.1.2.1).toNat) ?_ ⟨(by first | omega | (dsimp only; omega)), by simp, by simp, by rw [wR_sl]; simpa using hr⟩
  rintro ⟨⟨l, i, _⟩, _⟩ next ⟨h0, h1, h2, h3⟩ hn hin hl
  simp only at h0 h1 h2 h3 hn ⊢
  refine cnd_d (fun hc => ?_) (fun hc => ?_)
  · rw [drop_c a ([] : List Int) h1 hc, List.map_cons, List.sum_cons] at h3
    refine ⟨by omega, by omega, by omega, cnd_d (fun hd => ?_) (fun hd => ?_)⟩
    · rw [szR_neg] at hd
      rw [szR_lt hd] at h3
      simp only [c_laws_szInt64SS]; rw [h3]
    · rw [szR_neg] at hd
      rw [szR_ge hd] at h3
      exact ⟨by grind [cnd, nb_eq, inK64], hn _ ⟨by simp only; rw [szR_val hd]; omega, (by first | omega | (dsimp only; omega)), (by first | omega | (dsimp only; omega)), h3⟩ (by first | omega | (dsimp only; omega))⟩
  · rw [drop_n a (by omega)] at h3
    simp only [List.map_nil, List.sum_nil] at h3
    rw [szR_zero h0] at h3
    simp only [c_laws_szInt64SS]; rw [h3]
theorem ct_laws_szInt64SS : CtOk Try.prog 5 c_laws_szInt64SS :=
  ct_by (Φ := lkp [(14, c_laws_szInt64S)]) (good_cons ct_laws_szInt64S good_nil) tab_ok (by kernel_rfl) (fn := Try.f5) (c := bodyOf Try.f5) (by kernel_rfl) (by kernel_rfl) (by kernel_rfl) c_laws_szInt64SS (.s .n (.s .n (.s .n (.s (.s .n (.l [(1, (.d (.int .i64))), (5, (.d (.int .i64)))] [] [0] .n)) .n)))) (cutL []) (by kernel_rfl) (by kernel_rfl) k_laws_szInt64SS (by decide) (fun x K => W_laws_szInt64SS x.1 x.2.1 K) w_laws_szInt64SS (fun x h1 h2 => m_laws_szInt64SS x.1 x.2.1 h1 h2)
def c_laws_szPath : Ct := ⟨[PathT, (.int .i64)], [true, false], fun x => [-4611545280939032576 ≤ x.2.1], [(false, (.fz (.int .i64)))], fun x => (szR (wR PathT x.1) x.2.1, ()), false⟩
def W_laws_szPath (a : PathD) (left : Int) (K : Int × Unit → Prop) : Prop := (((-(4611545280939032576 : Int)) ≤ left) ∧ (cnd (decide ((szR (wR (T.sl (T.int IntKind.i64)) a.2) left) < (0 : Int))) (K ((-(1 : Int)), ())) (K ((szR (wR (T.sl (T.int IntKind.i64)) a.2) left), ()))))
theorem w_laws_szPath (x : denL c_laws_szPath.args) (K : Int × Unit → Prop) : evF tab (lkp [(14, c_laws_szInt64S)]) (cutL []) Try.f24 (bodyOf Try.f24) .n c_laws_szPath x K = W_laws_szPath x.1 x.2.1 K := by kernel_rfl
theorem k_laws_szPath : okC Try.f24.ntmps (cutL []) (bodyOf Try.f24) = true := by kernel_rfl
theorem m_laws_szPath (a : PathD) (left : Int) (hok : allP (okL c_laws_szPath.args (a, left, ()))) (hpre : allP (c_laws_szPath.pre (a, left, ()))) : W_laws_szPath a left (fun r => r = c_laws_szPath.res (a, left, ())) := by
  simp only [c_laws_szPath, okL, T.oks, T.ok, ap, allP, true_and, and_true, implies_true] at hok hpre
  try dsimp only [T.den] at hok
  try dsimp only [T.den] at hpre
  unfold W_laws_szPath
  simp only [c_laws_szPath, wR_p, wR_int, wR_bool, Nat.zero_add, Nat.add_zero]
  grind [cnd, nb_eq, inK64, szR]
theorem ct_laws_szPath : CtOk Try.prog 24 c_laws_szPath :=
  ct_by (Φ := lkp [(14, c_laws_szInt64S)]) (good_cons ct_laws_szInt64S good_nil) tab_ok (by kernel_rfl) (fn := Try.f24) (c := bodyOf Try.f24) (by kernel_rfl) (by kernel_rfl) (by kernel_rfl) c_laws_szPath .n (cutL []) (by kernel_rfl) (by kernel_rfl) k_laws_szPath (by decide) (fun x K => W_laws_szPath x.1 x.2.1 K) w_laws_szPath (fun x h1 h2 => m_laws_szPath x.1 x.2.1 h1 h2)
def c_laws_szPathS : Ct := ⟨[(.sl PathT), (.int .i64)], [false, false], fun x => [-4611404543450677248 ≤ x.2.1], [(false, (.fz (.int .i64)))], fun x => (szR (wR (.sl PathT) x.1) x.2.1, ()), false⟩
def W_laws_szPathS (a : List PathD) (left : Int) (K : Int × Unit → Prop) : Prop := ((inK IntKind.i64 (left - (((List.length a) : Nat) : Int))) ∧ (cnd (decide ((left - (((List.length a) : Nat) : Int)) < (0 : Int))) (K ((-(1 : Int)), ())) (loopW (S := ((Int × (Int × Unit)) × Unit)) (fun s => (fun next => ((inK IntKind.i64 s.1.1) → ((inK IntKind.i64 s.1.2.1) → (cnd (decide (s.1.2.1 < (((List.length a) : Nat) : Int))) (((0 : Int) ≤ s.1.2.1) ∧ ((s.1.2.1 < (((List.length a) : Nat) : Int)) ∧ (((-(4611545280939032576 : Int)) ≤ s.1.1) ∧ (cnd (decide ((szR (wR PathT (List.getD a (Int.toNat s.1.2.1) ((0 : Int), ([] : List Int)))) s.1.1) < (0 : Int))) (K ((-(1 : Int)), ())) ((inK IntKind.i64 (s.1.2.1 + (1 : Int))) ∧ (next (((szR (wR PathT (List.getD a (Int.toNat s.1.2.1) ((0 : Int), ([] : List Int)))) s.1.1), ((s.1.2.1 + (1 : Int)), ())), ()))))))) (K (s.1.1, ()))))))) (((left - (((List.length a) : Nat) : Int)), ((0 : Int), ())), ()))))
theorem w_laws_szPathS (x : denL c_laws_szPathS.args) (K : Int × Unit → Prop) : evF tab (lkp [(24, c_laws_szPath)]) (cutL []) Try.f15 (bodyOf Try.f15) (.s .n (.s .n (.s .n (.s (.s .n (.l [(1, (.d (.int .i64))), (5, (.d (.int .i64)))] [] [0] .n)) .n)))) c_laws_szPathS x K = W_laws_szPathS x.1 x.2.1 K := by kernel_rfl
theorem k_laws_szPathS : okC Try.f15.ntmps (cutL []) (bodyOf Try.f15) = true := by kernel_rfl
theorem m_laws_szPathS (a : List PathD) (left : Int) (hok : allP (okL c_laws_szPathS.args (a, left, ()))) (hpre : allP (c_laws_szPathS.pre (a, left, ()))) : W_laws_szPathS a left (fun r => r = c_laws_szPathS.res (a, left, ())) := by
  simp only [c_laws_szPathS, okL, T.oks, T.ok, ap, allP, true_and, and_true, implies_true] at hok hpre
  try dsimp only [T.den] at hok
  try dsimp only [T.den] at hpre
  unfold W_laws_szPathS
  have hr := szR_ge (x := a.length) (r := (a.map (wR PathT)).sum) (l := left)
  refine ⟨by grind [cnd, nb_eq, inK64], cnd_d (fun hc => ?_) (fun hc => ?_)⟩
  · simp only [c_laws_szPathS]; rw [wR_sl, szR_lt (x := a.length) (by omega)]
  replace hr := hr (by omega)
  rw [szR_val (x := a.length) (by omega)] at hr
  refine loop_of (fun (s : ((Int × (Int × Unit)) × Unit)) => 0 ≤ s.1.1 ∧ 0 ≤ s.1.2.1 ∧ s.1.2.1 ≤ a.length ∧ szR (wR (.sl PathT) a) left = szR ((a.drop s.1.2.1.toNat).map (wR PathT)).sum s.1.1) (fun (s : ((Int × (Int × Unit)) × Unit)) => (a.length - s.1.2.1).toNat) ?_ ⟨(by first | omega | (dsimp only; omega)), by simp, by simp, by rw [wR_sl]; simpa using hr⟩
  rintro ⟨⟨l, i, _⟩, _⟩ next ⟨h0, h1, h2, h3⟩ hn hin hl
  simp only at h0 h1 h2 h3 hn ⊢
  refine cnd_d (fun hc => ?_) (fun hc => ?_)
  · rw [drop_c a ((0 : Int), ([] : List Int)) h1 hc, List.map_cons, List.sum_cons] at h3
    refine ⟨by omega, by omega, by omega, cnd_d (fun hd => ?_) (fun hd => ?_)⟩
    · rw [szR_neg] at hd
      rw [szR_lt hd] at h3
      simp only [c_laws_szPathS]; rw [h3]
    · rw [szR_neg] at hd
      rw [szR_ge hd] at h3
      exact ⟨by grind [cnd, nb_eq, inK64], hn _ ⟨by simp only; rw [szR_val hd]; omega, (by first | omega | (dsimp only; omega)), (by first | omega | (dsimp only; omega)), h3⟩ (by first | omega | (dsimp only; omega))⟩
  · rw [drop_n a (by omega)] at h3
    simp only [List.map_nil, List.sum_nil] at h3
    rw [szR_zero h0] at h3
    simp only [c_laws_szPathS]; rw [h3]
theorem ct_laws_szPathS : CtOk Try.prog 15 c_laws_szPathS :=
  ct_by (Φ := lkp [(24, c_laws_szPath)]) (good_cons ct_laws_szPath good_nil) tab_ok (by kernel_rfl) (fn := Try.f15) (c := bodyOf Try.f15) (by kernel_rfl) (by kernel_rfl) (by kernel_rfl) c_laws_szPathS (.s .n (.s .n (.s .n (.s (.s .n (.l [(1, (.d (.int .i64))), (5, (.d (.int .i64)))] [] [0] .n)) .n)))) (cutL []) (by kernel_rfl) (by kernel_rfl) k_laws_szPathS (by decide) (fun x K => W_laws_szPathS x.1 x.2.1 K) w_laws_szPathS (fun x h1 h2 => m_laws_szPathS x.1 x.2.1 h1 h2)
def c_laws_szSchema : Ct := ⟨[SchemaT, (.int .i64)], [true, false], fun x => [-4611404543450677248 ≤ x.2.1], [(false, (.fz (.int .i64)))], fun x => (szR (wR SchemaT x.1) x.2.1, ()), false⟩
def W_laws_szSchema (a : SchemaD) (left : Int) (K : Int × Unit → Prop) : Prop := (((-(4611545280939032576 : Int)) ≤ left) ∧ (cnd (decide ((szR (wR (T.sl (T.int IntKind.i64)) a.2.1) left) < (0 : Int))) (K ((-(1 : Int)), ())) (((-(4611545280939032576 : Int)) ≤ (szR (wR (T.sl (T.int IntKind.i64)) a.2.1) left)) ∧ (cnd (decide ((szR (wR (T.sl (T.int IntKind.i64)) a.2.2.1) (szR (wR (T.sl (T.int IntKind.i64)) a.2.1) left)) < (0 : Int))) (K ((-(1 : Int)), ())) (((-(4611404543450677248 : Int)) ≤ (szR (wR (T.sl (T.int IntKind.i64)) a.2.2.1) (szR (wR (T.sl (T.int IntKind.i64)) a.2.1) left))) ∧ (cnd (decide ((szR (wR (T.sl PathT) a.2.2.2.1) (szR (wR (T.sl (T.int IntKind.i64)) a.2.2.1) (szR (wR (T.sl (T.int IntKind.i64)) a.2.1) left))) < (0 : Int))) (K ((-(1 : Int)), ())) (((-(4611404543450677248 : Int)) ≤ (szR (wR (T.sl PathT) a.2.2.2.1) (szR (wR (T.sl (T.int IntKind.i64)) a.2.2.1) (szR (wR (T.sl (T.int IntKind.i64)) a.2.1) left)))) ∧ (cnd (decide ((szR (wR (T.sl PathT) a.2.2.2.2) (szR (wR (T.sl PathT) a.2.2.2.1) (szR (wR (T.sl (T.int IntKind.i64)) a.2.2.1) (szR (wR (T.sl (T.int IntKind.i64)) a.2.1) left)))) < (0 : Int))) (K ((-(1 : Int)), ())) (K ((szR (wR (T.sl PathT) a.2.2.2.2) (szR (wR (T.sl PathT) a.2.2.2.1) (szR (wR (T.sl (T.int IntKind.i64)) a.2.2.1) (szR (wR (T.sl (T.int IntKind.i64)) a.2.1) left)))), ()))))))))))
theorem w_laws_szSchema (x : denL c_laws_szSchema.args) (K : Int × Unit → Prop) : evF tab (lkp [(14, c_laws_szInt64S), (15, c_laws_szPathS)]) (cutL []) Try.f4 (bodyOf Try.f4) .n c_laws_szSchema x K = W_laws_szSchema x.1 x.2.1 K := by kernel_rfl
theorem k_laws_szSchema : okC Try.f4.ntmps (cutL []) (bodyOf Try.f4) = true := by kernel_rfl
theorem m_laws_szSchema (a : SchemaD) (left : Int) (hok : allP (okL c_laws_szSchema.args (a, left, ()))) (hpre : allP (c_laws_szSchema.pre (a, left, ()))) : W_laws_szSchema a left (fun r => r = c_laws_szSchema.res (a, left, ())) := by
  simp only [c_laws_szSchema, okL, T.oks, T.ok, ap, allP, true_and, and_true, implies_true] at hok hpre
  try dsimp only [T.den] at hok
  try dsimp only [T.den] at hpre
  unfold W_laws_szSchema
  simp only [c_laws_szSchema, wR_p, wR_int, wR_bool, Nat.zero_add, Nat.add_zero]
  grind [cnd, nb_eq, inK64, szR]
theorem ct_laws_szSchema : CtOk Try.prog 4 c_laws_szSchema :=
  ct_by (Φ := lkp [(14, c_laws_szInt64S), (15, c_laws_szPathS)]) (good_cons ct_laws_szInt64S (good_cons ct_laws_szPathS good_nil)) tab_ok (by kernel_rfl) (fn := Try.f4) (c := bodyOf Try.f4) (by kernel_rfl) (by kernel_rfl) (by kernel_rfl) c_laws_szSchema .n (cutL []) (by kernel_rfl) (by kernel_rfl) k_laws_szSchema (by decide) (fun x K => W_laws_szSchema x.1 x.2.1 K) w_laws_szSchema (fun x h1 h2 => m_laws_szSchema x.1 x.2.1 h1 h2)
def c_laws_toInt64S : Ct := ⟨[(.sl (.int .i64))], [false], fun x => [wR (.sl (.int .i64)) x.1 ≤ 1099511627776], [(false, (.sl (.fz (.int .i64))))], fun x => (x.1, ()), false⟩
def W_laws_toInt64S (a : List Int) (K : (List Int) × Unit → Prop) : Prop := (((0 : Int) ≤ (((List.length a) : Nat) : Int)) ∧ (((((List.length a) : Nat) : Int) ≤ (((List.length a) : Nat) : Int)) ∧ (((((List.length a) : Nat) : Int) ≤ ((140737488355328 : Nat) : Int)) ∧ ((((((List.length a) : Nat) : Int) * ((8 : Nat) : Int)) ≤ ((140737488355328 : Nat) : Int)) ∧ (loopW (S := ((Unit × (Int × Unit)) × ((List Int) × Unit))) (fun s => (fun next => ((inK IntKind.i64 s.1.2.1) → ((T.ok (T.sl (T.int IntKind.i64)) s.2.1) → (cnd (decide (s.1.2.1 < (((List.length a) : Nat) : Int))) (((0 : Int) ≤ s.1.2.1) ∧ ((s.1.2.1 < (((List.length a) : Nat) : Int)) ∧ (((0 : Int) ≤ s.1.2.1) ∧ ((s.1.2.1 < (((List.length s.2.1) : Nat) : Int)) ∧ ((inK IntKind.i64 (s.1.2.1 + (1 : Int))) ∧ (next (((), ((s.1.2.1 + (1 : Int)), ())), ((List.set s.2.1 (Int.toNat s.1.2.1) (List.getD a (Int.toNat s.1.2.1) (0 : Int))), ())))))))) (K (s.2.1, ()))))))) (((), ((0 : Int), ())), ((List.replicate (Int.toNat (((List.length a) : Nat) : Int)) (0 : Int)), ())))))))
theorem w_laws_toInt64S (x : denL c_laws_toInt64S.args) (K : (List Int) × Unit → Prop) : evF tab (lkp []) (cutL []) Try.f8 (bodyOf Try.f8) (.s .n (.s .n (.s (.s .n (.l [(3, (.ref 7 [])), (4, (.d (.int .i64)))] [(7, (.sl (.fz (.int .i64))))] [0] .n)) .n))) c_laws_toInt64S x K = W_laws_toInt64S x.1 K := by kernel_rfl
theorem k_laws_toInt64S : okC Try.f8.ntmps (cutL []) (bodyOf Try.f8) = true := by kernel_rfl
theorem m_laws_toInt64S (a : List Int) (hok : allP (okL c_laws_toInt64S.args (a, ()))) (hpre : allP (c_laws_toInt64S.pre (a, ()))) : W_laws_toInt64S a (fun r => r = c_laws_toInt64S.res (a, ())) := by
  simp only [c_laws_toInt64S, okL, T.oks, T.ok, ap, allP, true_and, and_true, implies_true] at hok hpre
  try dsimp only [T.den] at hok
  try dsimp only [T.den] at hpre
  unfold W_laws_toInt64S
  rw [wR_sl] at hpre
  refine ⟨by omega, by omega, by first | omega | (rw [nb_eq]; omega), by first | omega | (rw [nb_eq]; omega), ?_⟩
  refine loop_of (fun (s : ((Unit × (Int × Unit)) × ((List Int) × Unit))) => 0 ≤ s.1.2.1 ∧ s.1.2.1 ≤ a.length ∧ s.2.1.length = a.length ∧ s.2.1.take s.1.2.1.toNat = a.take s.1.2.1.toNat) (fun (s : ((Unit × (Int × Unit)) × ((List Int) × Unit))) => (a.length - s.1.2.1).toNat) ?_ (by simp)
  rintro ⟨⟨_, i, _⟩, l, _⟩ next ⟨h0, h1, h2, h3⟩ hn hin hl
  simp only at h0 h1 h2 h3 hn ⊢
  refine cnd_d (fun hc => ?_) (fun hc => ?_)
  · refine ⟨by omega, by omega, by omega, by omega, by grind [cnd, nb_eq, inK64], hn _ ⟨(by first | omega | (dsimp only; omega)), (by first | omega | (dsimp only; omega)), by simp [h2], ?_⟩ (by first | omega | (dsimp only; omega))⟩
    simp only
    rw [take_c a (0 : Int) h0 hc, ← h3]
    exact take_set l h0 (by omega) _
  · rw [take_n a (by omega), take_n l (by omega)] at h3
    simp [h3, c_laws_toInt64S]
theorem ct_laws_toInt64S : CtOk Try.prog 8 c_laws_toInt64S :=
  ct_by (Φ := lkp []) good_nil tab_ok (by kernel_rfl) (fn := Try.f8) (c := bodyOf Try.f8) (by kernel_rfl) (by kernel_rfl) (by kernel_rfl) c_laws_toInt64S (.s .n (.s .n (.s (.s .n (.l [(3, (.ref 7 [])), (4, (.d (.int .i64)))] [(7, (.sl (.fz (.int .i64))))] [0] .n)) .n))) (cutL []) (by kernel_rfl) (by kernel_rfl) k_laws_toInt64S (by decide) (fun x K => W_laws_toInt64S x.1 K) w_laws_toInt64S (fun x h1 h2 => m_laws_toInt64S x.1 h1 h2)
def c_laws_toInt64SS : Ct := ⟨[(.sl (.sl (.int .i64)))], [false], fun x => [wR (.sl (.sl (.int .i64))) x.1 ≤ 1099511627776], [(false, (.sl (.sl (.fz (.int .i64)))))], fun x => (x.1, ()), false⟩
def W_laws_toInt64SS (a : List (List Int)) (K : (List (List Int)) × Unit → Prop) : Prop := (((0 : Int) ≤ (((List.length a) : Nat) : Int)) ∧ (((((List.length a) : Nat) : Int) ≤ (((List.length a) : Nat) : Int)) ∧ (((((List.length a) : Nat) : Int) ≤ ((140737488355328 : Nat) : Int)) ∧ ((((((List.length a) : Nat) : Int) * ((24 : Nat) : Int)) ≤ ((140737488355328 : Nat) : Int)) ∧ (loopW (S := ((Unit × (Int × Unit)) × ((List (List Int)) × Unit))) (fun s => (fun next => ((inK IntKind.i64 s.1.2.1) → ((T.ok (T.sl (T.sl (T.int IntKind.i64))) s.2.1) → (cnd (decide (s.1.2.1 < (((List.length a) : Nat) : Int))) (((0 : Int) ≤ s.1.2.1) ∧ ((s.1.2.1 < (((List.length a) : Nat) : Int)) ∧ (((wR (T.sl (T.int IntKind.i64)) (List.getD a (Int.toNat s.1.2.1) ([] : List Int))) ≤ 1099511627776) ∧ (((0 : Int) ≤ s.1.2.1) ∧ ((s.1.2.1 < (((List.length s.2.1) : Nat) : Int)) ∧ ((inK IntKind.i64 (s.1.2.1 + (1 : Int))) ∧ (next (((), ((s.1.2.1 + (1 : Int)), ())), ((List.set s.2.1 (Int.toNat s.1.2.1) (List.getD a (Int.toNat s.1.2.1) ([] : List Int))), ()))))))))) (K (s.2.1, ()))))))) (((), ((0 : Int), ())), ((List.replicate (Int.toNat (((List.length a) : Nat) : Int)) ([] : List Int)), ())))))))
theorem w_laws_toInt64SS (x : denL c_laws_toInt64SS.args) (K : (List (List Int)) × Unit → Prop) : evF tab (lkp [(8, c_laws_toInt64S)]) (cutL []) Try.f9 (bodyOf Try.f9) (.s .n (.s .n (.s (.s .n (.l [(3, (.ref 7 [])), (4, (.d (.int .i64)))] [(7, (.sl (.sl (.fz (.int .i64)))))] [0] .n)) .n))) c_laws_toInt64SS x K = W_laws_toInt64SS x.1 K := by kernel_rfl
theorem k_laws_toInt64SS : okC Try.f9.ntmps (cutL []) (bodyOf Try.f9) = true := by kernel_rfl
theorem m_laws_toInt64SS (a : List (List Int)) (hok : allP (okL c_laws_toInt64SS.args (a, ()))) (hpre : allP (c_laws_toInt64SS.pre (a, ()))) : W_laws_toInt64SS a (fun r => r = c_laws_toInt64SS.res (a, ())) := by
  simp only [c_laws_toInt64SS, okL, T.oks, T.ok, ap, allP, true_and, and_true, implies_true] at hok hpre
  try dsimp only [T.den] at hok
  try dsimp only [T.den] at hpre
  unfold W_laws_toInt64SS
  rw [wR_sl] at hpre
  refine ⟨by omega, by omega, by first | omega | (rw [nb_eq]; omega), by first | omega | (rw [nb_eq]; omega), ?_⟩
  refine loop_of (fun (s : ((Unit × (Int × Unit)) × ((List (List Int)) × Unit))) => 0 ≤ s.1.2.1 ∧ s.1.2.1 ≤ a.length ∧ s.2.1.length = a.length ∧ s.2.1.take s.1.2.1.toNat = a.take s.1.2.1.toNat) (fun (s : ((Unit × (Int × Unit)) × ((List (List Int)) × Unit))) => (a.length - s.1.2.1).toNat) ?_ (by simp)
  rintro ⟨⟨_, i, _⟩, l, _⟩ next ⟨h0, h1, h2, h3⟩ hn hin hl
  simp only at h0 h1 h2 h3 hn ⊢
  refine cnd_d (fun hc => ?_) (fun hc => ?_)
  · have hm := wR_mem (e := (.sl (.int .i64))) (getD_mem a ([] : List Int) h0 hc)
    refine ⟨by omega, by omega, by omega, by omega, by omega, by grind [cnd, nb_eq, inK64], hn _ ⟨(by first | omega | (dsimp only; omega)), (by first | omega | (dsimp only; omega)), by simp [h2], ?_⟩ (by first | omega | (dsimp only; omega))⟩
    simp only
    rw [take_c a ([] : List Int) h0 hc, ← h3]
    exact take_set l h0 (by omega) _
  · rw [take_n a (by omega), take_n l (by omega)] at h3
    simp [h3, c_laws_toInt64SS]
theorem ct_laws_toInt64SS : CtOk Try.prog 9 c_laws_toInt64SS :=
  ct_by (Φ := lkp [(8, c_laws_toInt64S)]) (good_cons ct_laws_toInt64S good_nil) tab_ok (by kernel_rfl) (fn := Try.f9) (c := bodyOf Try.f9) (by kernel_rfl) (by kernel_rfl) (by kernel_rfl) c_laws_toInt64SS (.s .n (.s .n (.s (.s .n (.l [(3, (.ref 7 [])), (4, (.d (.int .i64)))] [(7, (.sl (.sl (.fz (.int .i64)))))] [0] .n)) .n))) (cutL []) (by kernel_rfl) (by kernel_rfl) k_laws_toInt64SS (by decide) (fun x K => W_laws_toInt64SS x.1 K) w_laws_toInt64SS (fun x h1 h2 => m_laws_toInt64SS x.1 h1 h2)
def c_laws_toPath : Ct := ⟨[PathT], [true], fun x => [wR PathT x.1 ≤ 1099511627776], [(true, PathO)], fun x => (x.1, ()), false⟩
def W_laws_toPath (a : PathD) (K : PathD × Unit → Prop) : Prop := (((wR (T.sl (T.int IntKind.i64)) a.2) ≤ 1099511627776) ∧ (K (a, ())))
theorem w_laws_toPath (x : denL c_laws_toPath.args) (K : PathD × Unit → Prop) : evF tab (lkp [(8, c_laws_toInt64S)]) (cutL []) Try.f30 (bodyOf Try.f30) .n c_laws_toPath x K = W_laws_toPath x.1 K := by kernel_rfl
theorem k_laws_toPath : okC Try.f30.ntmps (cutL []) (bodyOf Try.f30) = true := by kernel_rfl
theorem m_laws_toPath (a : PathD) (hok : allP (okL c_laws_toPath.args (a, ()))) (hpre : allP (c_laws_toPath.pre (a, ()))) : W_laws_toPath a (fun r => r = c_laws_toPath.res (a, ())) := by
  simp only [c_laws_toPath, okL, T.oks, T.ok, ap, allP, true_and, and_true, implies_true] at hok hpre
  try dsimp only [T.den] at hok
  try dsimp only [T.den] at hpre
  unfold W_laws_toPath
  simp only [wR_p, wR_int, wR_bool] at hpre
  repeat' apply And.intro
  all_goals first | rfl | ((try simp only [wR_p, wR_int, wR_bool]); omega)
theorem ct_laws_toPath : CtOk Try.prog 30 c_laws_toPath :=
  ct_by (Φ := lkp [(8, c_laws_toInt64S)]) (good_cons ct_laws_toInt64S good_nil) tab_ok (by kernel_rfl) (fn := Try.f30) (c := bodyOf Try.f30) (by kernel_rfl) (by kernel_rfl) (by kernel_rfl) c_laws_toPath .n (cutL []) (by kernel_rfl) (by kernel_rfl) k_laws_toPath (by decide) (fun x K => W_laws_toPath x.1 K) w_laws_toPath (fun x h1 h2 => m_laws_toPath x.1 h1 h2)
def c_laws_toPathS : Ct := ⟨[(.sl PathT)], [false], fun x => [wR (.sl PathT) x.1 ≤ 1099511627776], [(false, (.sl PathO))], fun x => (x.1, ()), false⟩
def W_laws_toPathS (a : List PathD) (K : (List PathD) × Unit → Prop) : Prop := (((0 : Int) ≤ (((List.length a) : Nat) : Int)) ∧ (((((List.length a) : Nat) : Int) ≤ (((List.length a) : Nat) : Int)) ∧ (((((List.length a) : Nat) : Int) ≤ ((nb : Nat) : Int)) ∧ ((((((List.length a) : Nat) : Int) * ((32 : Nat) : Int)) ≤ ((nb : Nat) : Int)) ∧ (loopW (S := ((Unit × (Int × Unit)) × ((List (Int × (List Int))) × Unit))) (fun s => (fun next => ((inK IntKind.i64 s.1.2.1) → ((T.ok (T.sl PathT) s.2.1) → (cnd (decide (s.1.2.1 < (((List.length a) : Nat) : Int))) (((0 : Int) ≤ s.1.2.1) ∧ ((s.1.2.1 < (((List.length a) : Nat) : Int)) ∧ (((wR PathT (List.getD a (Int.toNat s.1.2.1) ((0 : Int), ([] : List Int)))) ≤ 1099511627776) ∧ (((0 : Int) ≤ s.1.2.1) ∧ ((s.1.2.1 < (((List.length s.2.1) : Nat) : Int)) ∧ ((inK IntKind.i64 (s.1.2.1 + (1 : Int))) ∧ (next (((), ((s.1.2.1 + (1 : Int)), ())), ((List.set s.2.1 (Int.toNat s.1.2.1) (List.getD a (Int.toNat s.1.2.1) ((0 : Int), ([] : List Int)))), ()))))))))) (K (s.2.1, ()))))))) (((), ((0 : Int), ())), ((List.replicate (Int.toNat (((List.length a) : Nat) : Int)) ((0 : Int), ([] : List Int))), ())))))))
theorem w_laws_toPathS (x : denL c_laws_toPathS.args) (K : (List PathD) × Unit → Prop) : evF tab (lkp [(30, c_laws_toPath)]) (cutL []) Try.f19 (bodyOf Try.f19) (.s .n (.s .n (.s (.s .n (.l [(3, (.ref 7 [])), (4, (.d (.int .i64)))] [(7, (.sl (.p (.fz (.int .i64)) (.sl (.fz (.int .i64))))))] [0] .n)) .n))) c_laws_toPathS x K = W_laws_toPathS x.1 K := by kernel_rfl
theorem k_laws_toPathS : okC Try.f19.ntmps (cutL []) (bodyOf Try.f19) = true := by kernel_rfl
theorem m_laws_toPathS (a : List PathD) (hok : allP (okL c_laws_toPathS.args (a, ()))) (hpre : allP (c_laws_toPathS.pre (a, ()))) : W_laws_toPathS a (fun r => r = c_laws_toPathS.res (a, ())) := by
  simp only [c_laws_toPathS, okL, T.oks, T.ok, ap, allP, true_and, and_true, implies_true] at hok hpre
  try dsimp only [T.den] at hok
  try dsimp only [T.den] at hpre
  unfold W_laws_toPathS
  rw [wR_sl] at hpre
  refine ⟨by omega, by omega, by first | omega | (rw [nb_eq]; omega), by first | omega | (rw [nb_eq]; omega), ?_⟩
  refine loop_of (fun (s : ((Unit × (Int × Unit)) × ((List (Int × (List Int))) × Unit))) => 0 ≤ s.1.2.1 ∧ s.1.2.1 ≤ a.length ∧ s.2.1.length = a.length ∧ s.2.1.take s.1.2.1.toNat = a.take s.1.2.1.toNat) (fun (s : ((Unit × (Int × Unit)) × ((List (Int × (List Int))) × Unit))) => (a.length - s.1.2.1).toNat) ?_ (by simp)
  rintro ⟨⟨_, i, _⟩, l, _⟩ next ⟨h0, h1, h2, h3⟩ hn hin hl
  simp only at h0 h1 h2 h3 hn ⊢
  refine cnd_d (fun hc => ?_) (fun hc => ?_)
  · have hm := wR_mem (e := PathT) (getD_mem a ((0 : Int), ([] : List Int)) h0 hc)
    refine ⟨by omega, by omega, by omega, by omega, by omega, by grind [cnd, nb_eq, inK64], hn _ ⟨(by first | omega | (dsimp only; omega)), (by first | omega | (dsimp only; omega)), by simp [h2], ?_⟩ (by first | omega | (dsimp only; omega))⟩
    simp only
    rw [take_c a ((0 : Int), ([] : List Int)) h0 hc, ← h3]
    exact take_set l h0 (by omega) _
  · rw [take_n a (by omega), take_n l (by omega)] at h3
    simp [h3, c_laws_toPathS]
theorem ct_laws_toPathS : CtOk Try.prog 19 c_laws_toPathS :=
  ct_by (Φ := lkp [(30, c_laws_toPath)]) (good_cons ct_laws_toPath good_nil) tab_ok (by kernel_rfl) (fn := Try.f19) (c := bodyOf Try.f19) (by kernel_rfl) (by kernel_rfl) (by kernel_rfl) c_laws_toPathS (.s .n (.s .n (.s (.s .n (.l [(3, (.ref 7 [])), (4, (.d (.int .i64)))] [(7, (.sl (.p (.fz (.int .i64)) (.sl (.fz (.int .i64))))))] [0] .n)) .n))) (cutL []) (by kernel_rfl) (by kernel_rfl) k_laws_toPathS (by decide) (fun x K => W_laws_toPathS x.1 K) w_laws_toPathS (fun x h1 h2 => m_laws_toPathS x.1 h1 h2)
def c_laws_toSchema : Ct := ⟨[SchemaT], [true], fun x => [wR SchemaT x.1 ≤ 1099511627776], [(true, SchemaO)], fun x => (x.1, ()), false⟩
def W_laws_toSchema (a : SchemaD) (K : SchemaD × Unit → Prop) : Prop := (((wR (T.sl (T.int IntKind.i64)) a.2.1) ≤ 1099511627776) ∧ (((wR (T.sl (T.int IntKind.i64)) a.2.2.1) ≤ 1099511627776) ∧ (((wR (T.sl PathT) a.2.2.2.1) ≤ 1099511627776) ∧ (((wR (T.sl PathT) a.2.2.2.2) ≤ 1099511627776) ∧ (K (a, ()))))))
theorem w_laws_toSchema (x : denL c_laws_toSchema.args) (K : SchemaD × Unit → Prop) : evF tab (lkp [(8, c_laws_toInt64S), (19, c_laws_toPathS)]) (cutL []) Try.f7 (bodyOf Try.f7) .n c_laws_toSchema x K = W_laws_toSchema x.1 K := by kernel_rfl
theorem k_laws_toSchema : okC Try.f7.ntmps (cutL []) (bodyOf Try.f7) = true := by kernel_rfl
theorem m_laws_toSchema (a : SchemaD) (hok : allP (okL c_laws_toSchema.args (a, ()))) (hpre : allP (c_laws_toSchema.pre (a, ()))) : W_laws_toSchema a (fun r => r = c_laws_toSchema.res (a, ())) := by
  simp only [c_laws_toSchema, okL, T.oks, T.ok, ap, allP, true_and, and_true, implies_true] at hok hpre
  try dsimp only [T.den] at hok
  try dsimp only [T.den] at hpre
  unfold W_laws_toSchema
  simp only [wR_p, wR_int, wR_bool] at hpre
  repeat' apply And.intro
  all_goals first | rfl | ((try simp only [wR_p, wR_int, wR_bool]); omega)
theorem ct_laws_toSchema : CtOk Try.prog 7 c_laws_toSchema :=
  ct_by (Φ := lkp [(8, c_laws_toInt64S), (19, c_laws_toPathS)]) (good_cons ct_laws_toInt64S (good_cons ct_laws_toPathS good_nil)) tab_ok (by kernel_rfl) (fn := Try.f7) (c := bodyOf Try.f7) (by kernel_rfl) (by kernel_rfl) (by kernel_rfl) c_laws_toSchema .n (cutL []) (by kernel_rfl) (by kernel_rfl) k_laws_toSchema (by decide) (fun x K => W_laws_toSchema x.1 K) w_laws_toSchema (fun x h1 h2 => m_laws_toSchema x.1 h1 h2)
def c_spec_l01In : Ct := ⟨[(.int .i64), (.int .i64), (.int .i64)], [false, false, false], fun x => [], [(false, (.fz .bool))], fun x => (inR x.1 x.2.1 x.2.2.1, ()), false⟩
def W_spec_l01In (n : Int) (low : Int) (high : Int) (K : Bool × Unit → Prop) : Prop := (K (((decide (low ≤ n)) && (decide (n ≤ high))), ()))
theorem w_spec_l01In (x : denL c_spec_l01In.args) (K : Bool × Unit → Prop) : evF tab (lkp []) (cutL []) Try.f25 (bodyOf Try.f25) .n c_spec_l01In x K = W_spec_l01In x.1 x.2.1 x.2.2.1 K := by kernel_rfl
theorem k_spec_l01In : okC Try.f25.ntmps (cutL []) (bodyOf Try.f25) = true := by kernel_rfl
theorem m_spec_l01In (n : Int) (low : Int) (high : Int) (hok : allP (okL c_spec_l01In.args (n, low, high, ()))) (hpre : allP (c_spec_l01In.pre (n, low, high, ()))) : W_spec_l01In n low high (fun r => r = c_spec_l01In.res (n, low, high, ())) := by
  simp only [c_spec_l01In, okL, T.oks, T.ok, ap, allP, true_and, and_true, implies_true] at hok hpre
  try dsimp only [T.den] at hok
  try dsimp only [T.den] at hpre
  unfold W_spec_l01In
  grind [cnd, nb_eq, inK64, c_spec_l01In, inR]
theorem ct_spec_l01In : CtOk Try.prog 25 c_spec_l01In :=
  ct_by (Φ := lkp []) good_nil tab_ok (by kernel_rfl) (fn := Try.f25) (c := bodyOf Try.f25) (by kernel_rfl) (by kernel_rfl) (by kernel_rfl) c_spec_l01In .n (cutL []) (by kernel_rfl) (by kernel_rfl) k_spec_l01In (by decide) (fun x K => W_spec_l01In x.1 x.2.1 x.2.2.1 K) w_spec_l01In (fun x h1 h2 => m_spec_l01In x.1 x.2.1 x.2.2.1 h1 h2)
def c_spec_l01Map : Ct := ⟨[(.int .i64), (.sl (.int .i64))], [false, false], fun x => [], [(false, (.fz .bool))], fun x => (withinR x.2.1 x.1, ()), false⟩
def W_spec_l01Map (n : Int) (f : List Int) (K : Bool × Unit → Prop) : Prop := (loopW (S := ((Int × Unit) × Unit)) (fun s => (fun next => ((inK IntKind.i64 s.1.1) → (cnd (decide (s.1.1 < (((List.length f) : Nat) : Int))) (((0 : Int) ≤ s.1.1) ∧ ((s.1.1 < (((List.length f) : Nat) : Int)) ∧ ((((decide ((List.getD f (Int.toNat s.1.1) (0 : Int)) < (0 : Int))) = Bool.false) → ((s.1.1 < (((List.length f) : Nat) : Int)) ∧ ((0 : Int) ≤ s.1.1))) ∧ (cnd ((decide ((List.getD f (Int.toNat s.1.1) (0 : Int)) < (0 : Int))) || (decide (n ≤ (List.getD f (Int.toNat s.1.1) (0 : Int))))) (K (Bool.false, ())) ((inK IntKind.i64 (s.1.1 + (1 : Int))) ∧ (next (((s.1.1 + (1 : Int)), ()), ()))))))) (K (Bool.true, ())))))) (((0 : Int), ()), ()))
theorem w_spec_l01Map (x : denL c_spec_l01Map.args) (K : Bool × Unit → Prop) : evF tab (lkp []) (cutL []) Try.f26 (bodyOf Try.f26) (.s .n (.s (.s .n (.l [(5, (.d (.int .i64)))] [] [0, 1] .n)) .n)) c_spec_l01Map x K = W_spec_l01Map x.1 x.2.1 K := by kernel_rfl
theorem k_spec_l01Map : okC Try.f26.ntmps (cutL []) (bodyOf Try.f26) = true := by kernel_rfl
theorem m_spec_l01Map (n : Int) (f : List Int) (hok : allP (okL c_spec_l01Map.args (n, f, ()))) (hpre : allP (c_spec_l01Map.pre (n, f, ()))) : W_spec_l01Map n f (fun r => r = c_spec_l01Map.res (n, f, ())) := by
  simp only [c_spec_l01Map, okL, T.oks, T.ok, ap, allP, true_and, and_true, implies_true] at hok hpre
  try dsimp only [T.den] at hok
  try dsimp only [T.den] at hpre
  unfold W_spec_l01Map
  refine loop_of (fun (s : ((Int × Unit) × Unit)) => 0 ≤ s.1.1 ∧ s.1.1 ≤ f.length ∧ withinR f n = withinR (f.drop s.1.1.toNat) n) (fun (s : ((Int × Unit) × Unit)) => (f.length - s.1.1).toNat) ?_ (by simp)
  rintro ⟨⟨i, _⟩, _⟩ next ⟨h0, h1, h2⟩ hn hin
  simp only at h0 h1 h2 hn ⊢
  refine cnd_d (fun hc => ?_) (fun hc => ?_)
  · rw [drop_c f 0 h0 hc] at h2
    simp only [withinR, List.all_cons] at h2
    grind [cnd, nb_eq, inK64, c_spec_l01Map, withinR, inR]
  · rw [drop_n f (by omega)] at h2
    grind [cnd, nb_eq, inK64, c_spec_l01Map, withinR]
theorem ct_spec_l01Map : CtOk Try.prog 26 c_spec_l01Map :=
  ct_by (Φ := lkp []) good_nil tab_ok (by kernel_rfl) (fn := Try.f26) (c := bodyOf Try.f26) (by kernel_rfl) (by kernel_rfl) (by kernel_rfl) c_spec_l01Map (.s .n (.s (.s .n (.l [(5, (.d (.int .i64)))] [] [0, 1] .n)) .n)) (cutL []) (by kernel_rfl) (by kernel_rfl) k_spec_l01Map (by decide) (fun x K => W_spec_l01Map x.1 x.2.1 K) w_spec_l01Map (fun x h1 h2 => m_spec_l01Map x.1 x.2.1 h1 h2)
def lastR (s : SchemaD) (p : PathD) : Int := if p.2.length = 0 then p.1 else s.2.2.1.getD (p.2.getD (p.2.length - 1) 0).toNat 0

def c_spec_l36End : Ct := ⟨[SchemaT, PathT], [true, true], fun x => [withinR x.2.1.2 x.1.2.2.1.length = true], [(false, (.fz (.int .i64)))], fun x => (lastR x.1 x.2.1, ()), false⟩
def W_spec_l36End (s : SchemaD) (p : PathD) (K : Int × Unit → Prop) : Prop := (cnd ((((List.length p.2) : Nat) : Int) == (0 : Int)) (K (p.1, ())) ((inK IntKind.i64 ((((List.length p.2) : Nat) : Int) - (1 : Int))) ∧ (((0 : Int) ≤ ((((List.length p.2) : Nat) : Int) - (1 : Int))) ∧ ((((((List.length p.2) : Nat) : Int) - (1 : Int)) < (((List.length p.2) : Nat) : Int)) ∧ (((0 : Int) ≤ (List.getD p.2 (Int.toNat ((((List.length p.2) : Nat) : Int) - (1 : Int))) (0 : Int))) ∧ (((List.getD p.2 (Int.toNat ((((List.length p.2) : Nat) : Int) - (1 : Int))) (0 : Int)) < (((List.length s.2.2.1) : Nat) : Int)) ∧ (K ((List.getD s.2.2.1 (Int.toNat (List.getD p.2 (Int.toNat ((((List.length p.2) : Nat) : Int) - (1 : Int))) (0 : Int))) (0 : Int)), ()))))))))
theorem w_spec_l36End (x : denL c_spec_l36End.args) (K : Int × Unit → Prop) : evF tab (lkp []) (cutL [(3, 13)]) Try.f28 (bodyOf Try.f28) .n c_spec_l36End x K = W_spec_l36End x.1 x.2.1 K := by kernel_rfl
theorem k_spec_l36End : okC Try.f28.ntmps (cutL [(3, 13)]) (bodyOf Try.f28) = true := by kernel_rfl
theorem m_spec_l36End (s : SchemaD) (p : PathD) (hok : allP (okL c_spec_l36End.args (s, p, ()))) (hpre : allP (c_spec_l36End.pre (s, p, ()))) : W_spec_l36End s p (fun r => r = c_spec_l36End.res (s, p, ())) := by
  simp only [c_spec_l36End, okL, T.oks, T.ok, ap, allP, true_and, and_true, implies_true] at hok hpre
  try dsimp only [T.den] at hok
  try dsimp only [T.den] at hpre
  unfold W_spec_l36End
  simp only [c_spec_l36End, lastR]
  refine cnd_of (fun hc => ?_) (fun hc => ?_)
  · grind [cnd, nb_eq, inK64]
  · simp at hc
    have hl : 0 < p.2.length := by grind [cnd, nb_eq, inK64]
    have hi : ((p.2.length : Int) - 1).toNat = p.2.length - 1 := by omega
    have hm : p.2.getD (p.2.length - 1) 0 ∈ p.2 := by rw [← hi]; exact getD_mem p.2 0 (by omega) (by omega)
    have := List.all_eq_true.1 hpre _ hm
    rw [hi]
    grind [cnd, nb_eq, inK64, inR]
theorem ct_spec_l36End : CtOk Try.prog 28 c_spec_l36End :=
  ct_by (Φ := lkp []) good_nil tab_ok (by kernel_rfl) (fn := Try.f28) (c := bodyOf Try.f28) (by kernel_rfl) (by kernel_rfl) (by kernel_rfl) c_spec_l36End .n (cutL [(3, 13)]) (by kernel_rfl) (by kernel_rfl) k_spec_l36End (by decide) (fun x K => W_spec_l36End x.1 x.2.1 K) w_spec_l36End (fun x h1 h2 => m_spec_l36End x.1 x.2.1 h1 h2)
def c_spec_l36Path : Ct := ⟨[SchemaT, PathT], [true, true], fun x => [x.1.2.1.length ≤ x.1.2.2.1.length, inK .i64 (x.1.1 - 1)], [(false, (.fz .bool))], fun x => ((endR x.1 x.2.1).2, ()), false⟩
def W_spec_l36Path (s : SchemaD) (p : PathD) (K : Bool × Unit → Prop) : Prop := ((inK IntKind.i64 (s.1 - (1 : Int))) ∧ (cnd (((!(inR p.1 (0 : Int) (s.1 - (1 : Int)))) || (decide ((6 : Int) < (((List.length p.2) : Nat) : Int)))) || (!(withinR p.2 (((List.length s.2.1) : Nat) : Int)))) (K (Bool.false, ())) (loopW (S := ((Int × (Int × Unit)) × Unit)) (fun s1 => (fun next => ((inK IntKind.i64 s1.1.1) → ((inK IntKind.i64 s1.1.2.1) → (cnd (decide (s1.1.2.1 < (((List.length p.2) : Nat) : Int))) (((0 : Int) ≤ s1.1.2.1) ∧ ((s1.1.2.1 < (((List.length p.2) : Nat) : Int)) ∧ (((0 : Int) ≤ (List.getD p.2 (Int.toNat s1.1.2.1) (0 : Int))) ∧ (((List.getD p.2 (Int.toNat s1.1.2.1) (0 : Int)) < (((List.length s.2.1) : Nat) : Int)) ∧ (cnd ((List.getD s.2.1 (Int.toNat (List.getD p.2 (Int.toNat s1.1.2.1) (0 : Int))) (0 : Int)) != s1.1.1) (K (Bool.false, ())) (((0 : Int) ≤ s1.1.2.1) ∧ ((s1.1.2.1 < (((List.length p.2) : Nat) : Int)) ∧ (((0 : Int) ≤ (List.getD p.2 (Int.toNat s1.1.2.1) (0 : Int))) ∧ (((List.getD p.2 (Int.toNat s1.1.2.1) (0 : Int)) < (((List.length s.2.2.1) : Nat) : Int)) ∧ ((inK IntKind.i64 (s1.1.2.1 + (1 : Int))) ∧ (next (((List.getD s.2.2.1 (Int.toNat (List.getD p.2 (Int.toNat s1.1.2.1) (0 : Int))) (0 : Int)), ((s1.1.2.1 + (1 : Int)), ())), ())))))))))))) (K (Bool.true, ()))))))) ((p.1, ((0 : Int), ())), ()))))
theorem w_spec_l36Path (x : denL c_spec_l36Path.args) (K : Bool × Unit → Prop) : evF tab (lkp [(25, c_spec_l01In), (26, c_spec_l01Map)]) (cutL [(7, 11), (9, 10)]) Try.f27 (bodyOf Try.f27) (.s .n (.s .n (.s .n (.s (.s .n (.l [(5, (.d (.int .i64))), (6, (.d (.int .i64)))] [] [2, 3] .n)) .n)))) c_spec_l36Path x K = W_spec_l36Path x.1 x.2.1 K := by kernel_rfl
theorem k_spec_l36Path : okC Try.f27.ntmps (cutL [(7, 11), (9, 10)]) (bodyOf Try.f27) = true := by kernel_rfl
theorem m_spec_l36Path (s : SchemaD) (p : PathD) (hok : allP (okL c_spec_l36Path.args (s, p, ()))) (hpre : allP (c_spec_l36Path.pre (s, p, ()))) : W_spec_l36Path s p (fun r => r = c_spec_l36Path.res (s, p, ())) := by
  simp only [c_spec_l36Path, okL, T.oks, T.ok, ap, allP, true_and, and_true, implies_true] at hok hpre
  try dsimp only [T.den] at hok
  try dsimp only [T.den] at hpre
  unfold W_spec_l36Path
  simp only [c_spec_l36Path, endR]
  have key : ∀ (nd : Int) (l : List Int), (followR s nd l).2 = true → withinR l s.2.1.length = true := by
    intro nd l
    induction l generalizing nd with
    | nil => intro _; rfl
    | cons e l ih =>
      simp only [followR]
      split
      · rename_i h; intro hf; simp only [withinR, List.all_cons]; have := ih _ hf; simp only [withinR] at this; rw [this, h.1]; rfl
      · intro h; cases h
  refine ⟨hpre.2, cnd_of (fun hc => ?_) (fun hc => ?_)⟩
  · have := key p.1 p.2
    grind [cnd, nb_eq, inK64]
  · simp only [inR, Bool.or_eq_false_iff, Bool.not_eq_false', Bool.and_eq_true, decide_eq_true_eq, decide_eq_false_iff_not] at hc
    rw [if_pos ⟨by simp [inR, hc.1.1], by omega⟩]
    refine loop_of (fun (s1 : ((Int × (Int × Unit)) × Unit)) => 0 ≤ s1.1.2.1 ∧ s1.1.2.1 ≤ p.2.length ∧ followR s p.1 p.2 = followR s s1.1.1 (p.2.drop s1.1.2.1.toNat)) (fun (s1 : ((Int × (Int × Unit)) × Unit)) => (p.2.length - s1.1.2.1).toNat) ?_ (by simp)
    rintro ⟨⟨nd, i, _⟩, _⟩ next ⟨h0, h1, h2⟩ hn ha hin
    simp only at h0 h1 h2 hn ⊢
    refine cnd_d (fun hx => ?_) (fun hx => ?_)
    · have hm := List.all_eq_true.1 hc.2 _ (getD_mem p.2 0 h0 hx)
      rw [drop_c p.2 0 h0 hx] at h2
      simp only [followR, hm, true_and] at h2
      generalize p.2.getD i.toNat 0 = e at *
      simp only [inR, Bool.and_eq_true, decide_eq_true_eq] at hm
      grind [cnd, nb_eq, inK64]
    · rw [drop_n p.2 (by omega)] at h2
      simp [followR, h2]
theorem ct_spec_l36Path : CtOk Try.prog 27 c_spec_l36Path :=
  ct_by (Φ := lkp [(25, c_spec_l01In), (26, c_spec_l01Map)]) (good_cons ct_spec_l01In (good_cons ct_spec_l01Map good_nil)) tab_ok (by kernel_rfl) (fn := Try.f27) (c := bodyOf Try.f27) (by kernel_rfl) (by kernel_rfl) (by kernel_rfl) c_spec_l36Path (.s .n (.s .n (.s .n (.s (.s .n (.l [(5, (.d (.int .i64))), (6, (.d (.int .i64)))] [] [2, 3] .n)) .n)))) (cutL [(7, 11), (9, 10)]) (by kernel_rfl) (by kernel_rfl) k_spec_l36Path (by decide) (fun x K => W_spec_l36Path x.1 x.2.1 K) w_spec_l36Path (fun x h1 h2 => m_spec_l36Path x.1 x.2.1 h1 h2)
theorem follow_last (s : SchemaD) : ∀ (nd : Int) (l : List Int), (followR s nd l).2 = true → (followR s nd l).1 = if l.length = 0 then nd else s.2.2.1.getD (l.getD (l.length - 1) 0).toNat 0
  | nd, [], _ => rfl
  | nd, e :: r, h => by
    simp only [followR] at h ⊢
    split at h
    · rename_i hc
      rw [if_pos hc]
      rw [follow_last s _ r h]
      cases r with
      | nil => simp
      | cons e' r' => simp
    · cases h
theorem follow_within (s : SchemaD) : ∀ (nd : Int) (l : List Int), (followR s nd l).2 = true → withinR l s.2.1.length = true
  | nd, [], _ => rfl
  | nd, e :: r, h => by
    simp only [followR] at h
    split at h
    · rename_i hc
      have := follow_within s _ r h
      simp only [withinR, List.all_cons] at this ⊢
      rw [this, hc.1]; rfl
    · cases h
theorem end_last {s : SchemaD} {p : PathD} (h : (endR s p).2 = true) : lastR s p = (endR s p).1 ∧ withinR p.2 s.2.1.length = true := by
  unfold endR at h ⊢
  split at h
  · rename_i hc
    rw [if_pos hc]
    exact ⟨(follow_last s _ _ h).symm, follow_within s _ _ h⟩
  · cases h

def c_spec_IsSchema : Ct := ⟨[SchemaT], [true], fun x => [], [(false, (.fz .bool))], fun x => (isSchemaR x.1, ()), false⟩
def W_spec_IsSchema (s : SchemaD) (K : Bool × Unit → Prop) : Prop := (cnd (((((((!(inR s.1 (0 : Int) (8 : Int))) || (decide ((8 : Int) < (((List.length s.2.1) : Nat) : Int)))) || ((((List.length s.2.2.1) : Nat) : Int) != (((List.length s.2.1) : Nat) : Int))) || (!(withinR s.2.1 s.1))) || (!(withinR s.2.2.1 s.1))) || (decide ((8 : Int) < (((List.length s.2.2.2.1) : Nat) : Int)))) || ((((List.length s.2.2.2.2) : Nat) : Int) != (((List.length s.2.2.2.1) : Nat) : Int))) (K (Bool.false, ())) (loopW (S := ((Int × Unit) × Unit)) (fun s1 => (fun next => ((inK IntKind.i64 s1.1.1) → (cnd (decide (s1.1.1 < (((List.length s.2.2.2.1) : Nat) : Int))) (((0 : Int) ≤ s1.1.1) ∧ ((s1.1.1 < (((List.length s.2.2.2.1) : Nat) : Int)) ∧ (((0 : Int) ≤ s1.1.1) ∧ ((s1.1.1 < (((List.length s.2.2.2.2) : Nat) : Int)) ∧ (((List.length s.2.1) ≤ (List.length s.2.2.1)) ∧ ((inK IntKind.i64 (s.1 - (1 : Int))) ∧ ((((!(endR s (List.getD s.2.2.2.1 (Int.toNat s1.1.1) ((0 : Int), ([] : List Int)))).2) = Bool.false) → ((inK IntKind.i64 (s.1 - (1 : Int))) ∧ ((List.length s.2.1) ≤ (List.length s.2.2.1)))) ∧ ((((((!(endR s (List.getD s.2.2.2.1 (Int.toNat s1.1.1) ((0 : Int), ([] : List Int)))).2) || (!(endR s (List.getD s.2.2.2.2 (Int.toNat s1.1.1) ((0 : Int), ([] : List Int)))).2)) || ((List.getD s.2.2.2.1 (Int.toNat s1.1.1) ((0 : Int), ([] : List Int))).1 != (List.getD s.2.2.2.2 (Int.toNat s1.1.1) ((0 : Int), ([] : List Int))).1)) = Bool.false) → ((withinR (List.getD s.2.2.2.1 (Int.toNat s1.1.1) ((0 : Int), ([] : List Int))).2 (((List.length s.2.2.1) : Nat) : Int)) = Bool.true)) ∧ ((((((!(endR s (List.getD s.2.2.2.1 (Int.toNat s1.1.1) ((0 : Int), ([] : List Int)))).2) || (!(endR s (List.getD s.2.2.2.2 (Int.toNat s1.1.1) ((0 : Int), ([] : List Int)))).2)) || ((List.getD s.2.2.2.1 (Int.toNat s1.1.1) ((0 : Int), ([] : List Int))).1 != (List.getD s.2.2.2.2 (Int.toNat s1.1.1) ((0 : Int), ([] : List Int))).1)) = Bool.false) → ((withinR (List.getD s.2.2.2.2 (Int.toNat s1.1.1) ((0 : Int), ([] : List Int))).2 (((List.length s.2.2.1) : Nat) : Int)) = Bool.true)) ∧ (cnd ((((!(endR s (List.getD s.2.2.2.1 (Int.toNat s1.1.1) ((0 : Int), ([] : List Int)))).2) || (!(endR s (List.getD s.2.2.2.2 (Int.toNat s1.1.1) ((0 : Int), ([] : List Int)))).2)) || ((List.getD s.2.2.2.1 (Int.toNat s1.1.1) ((0 : Int), ([] : List Int))).1 != (List.getD s.2.2.2.2 (Int.toNat s1.1.1) ((0 : Int), ([] : List Int))).1)) || ((lastR s (List.getD s.2.2.2.1 (Int.toNat s1.1.1) ((0 : Int), ([] : List Int)))) != (lastR s (List.getD s.2.2.2.2 (Int.toNat s1.1.1) ((0 : Int), ([] : List Int)))))) (K (Bool.false, ())) ((inK IntKind.i64 (s1.1.1 + (1 : Int))) ∧ (next (((s1.1.1 + (1 : Int)), ()), ()))))))))))))) (K (Bool.true, ())))))) (((0 : Int), ()), ())))
theorem w_spec_IsSchema (x : denL c_spec_IsSchema.args) (K : Bool × Unit → Prop) : evF tab (lkp [(25, c_spec_l01In), (26, c_spec_l01Map), (28, c_spec_l36End), (27, c_spec_l36Path)]) (cutL [(6, 999999), (7, 26)]) Try.f16 (bodyOf Try.f16) (.s .n (.s .n (.s (.s .n (.l [(3, (.d (.int .i64)))] [] [1] .n)) .n))) c_spec_IsSchema x K = W_spec_IsSchema x.1 K := by kernel_rfl
theorem k_spec_IsSchema : okC Try.f16.ntmps (cutL [(6, 999999), (7, 26)]) (bodyOf Try.f16) = true := by kernel_rfl
theorem m_spec_IsSchema (s : SchemaD) (hok : allP (okL c_spec_IsSchema.args (s, ()))) (hpre : allP (c_spec_IsSchema.pre (s, ()))) : W_spec_IsSchema s (fun r => r = c_spec_IsSchema.res (s, ())) := by
  simp only [c_spec_IsSchema, okL, T.oks, T.ok, ap, allP, true_and, and_true, implies_true] at hok hpre
  try dsimp only [T.den] at hok
  try dsimp only [T.den] at hpre
  unfold W_spec_IsSchema
  refine cnd_of (fun hc => ?_) (fun hc => ?_)
  · grind [cnd, nb_eq, inK64, c_spec_IsSchema, isSchemaR]
  have he : isSchemaR s = eqnsR s s.2.2.2.1 s.2.2.2.2 := by grind [cnd, nb_eq, inK64, isSchemaR]
  simp only [c_spec_IsSchema, he]
  simp only [inR, Bool.or_eq_false_iff, Bool.not_eq_false', Bool.and_eq_true, decide_eq_true_eq, decide_eq_false_iff_not, bne_eq_false_iff_eq] at hc
  refine loop_of (fun (s1 : ((Int × Unit) × Unit)) => 0 ≤ s1.1.1 ∧ s1.1.1 ≤ s.2.2.2.1.length ∧ eqnsR s s.2.2.2.1 s.2.2.2.2 = eqnsR s (s.2.2.2.1.drop s1.1.1.toNat) (s.2.2.2.2.drop s1.1.1.toNat)) (fun (s1 : ((Int × Unit) × Unit)) => (s.2.2.2.1.length - s1.1.1).toNat) ?_ (by simp)
  rintro ⟨⟨i, _⟩, _⟩ next ⟨h0, h1, h2⟩ hn hin
  simp only at h0 h1 h2 hn ⊢
  refine cnd_d (fun hx => ?_) (fun hx => ?_)
  · rw [drop_c s.2.2.2.1 (0, []) h0 hx, drop_c s.2.2.2.2 (0, []) h0 (by omega)] at h2
    simp only [eqnsR, eqnR] at h2
    generalize s.2.2.2.1.getD i.toNat (0, []) = p at *
    generalize s.2.2.2.2.getD i.toNat (0, []) = q at *
    have ep := @end_last s p
    have eq := @end_last s q
    have hl : s.2.2.1.length = s.2.1.length := by omega
    rw [hl]
    refine ⟨by omega, by omega, by omega, by omega, by omega, by rw [inK64]; omega, fun _ => ⟨by rw [inK64]; omega, by omega⟩, fun hy => ?_, fun hy => ?_, cnd_of (fun hy => ?_) (fun hy => ?_)⟩
    · grind [cnd, nb_eq, inK64]
    · grind [cnd, nb_eq, inK64]
    · grind [cnd, nb_eq, inK64]
    · grind [cnd, nb_eq, inK64]
  · rw [drop_n s.2.2.2.1 (by omega)] at h2
    simp [eqnsR, h2]
theorem ct_spec_IsSchema : CtOk Try.prog 16 c_spec_IsSchema :=
  ct_by (Φ := lkp [(25, c_spec_l01In), (26, c_spec_l01Map), (28, c_spec_l36End), (27, c_spec_l36Path)]) (good_cons ct_spec_l01In (good_cons ct_spec_l01Map (good_cons ct_spec_l36End (good_cons ct_spec_l36Path good_nil)))) tab_ok (by kernel_rfl) (fn := Try.f16) (c := bodyOf Try.f16) (by kernel_rfl) (by kernel_rfl) (by kernel_rfl) c_spec_IsSchema (.s .n (.s .n (.s (.s .n (.l [(3, (.d (.int .i64)))] [] [1] .n)) .n))) (cutL [(6, 999999), (7, 26)]) (by kernel_rfl) (by kernel_rfl) k_spec_IsSchema (by decide) (fun x K => W_spec_IsSchema x.1 K) w_spec_IsSchema (fun x h1 h2 => m_spec_IsSchema x.1 h1 h2)
def c_spec_l36Walk : Ct := ⟨[(.sl (.sl (.int .i64))), (.sl (.int .i64)), (.int .i64)], [false, false, false], fun x => [leadP x.1 x.2.1 x.2.2.1], [(false, (.fz (.int .i64)))], fun x => (leadR x.1 x.2.1 x.2.2.1, ()), false⟩
def W_spec_l36Walk (maps : List (List Int)) (edges : List Int) (row : Int) (K : Int × Unit → Prop) : Prop := (loopW (S := ((Int × (Int × Unit)) × Unit)) (fun s => (fun next => ((inK IntKind.i64 s.1.1) → ((inK IntKind.i64 s.1.2.1) → (cnd (decide (s.1.2.1 < (((List.length edges) : Nat) : Int))) (((0 : Int) ≤ s.1.2.1) ∧ ((s.1.2.1 < (((List.length edges) : Nat) : Int)) ∧ (((0 : Int) ≤ (List.getD edges (Int.toNat s.1.2.1) (0 : Int))) ∧ (((List.getD edges (Int.toNat s.1.2.1) (0 : Int)) < (((List.length maps) : Nat) : Int)) ∧ (((0 : Int) ≤ s.1.1) ∧ ((s.1.1 < (((List.length (List.getD maps (Int.toNat (List.getD edges (Int.toNat s.1.2.1) (0 : Int))) ([] : List Int))) : Nat) : Int)) ∧ ((inK IntKind.i64 (s.1.2.1 + (1 : Int))) ∧ (next (((List.getD (List.getD maps (Int.toNat (List.getD edges (Int.toNat s.1.2.1) (0 : Int))) ([] : List Int)) (Int.toNat s.1.1) (0 : Int)), ((s.1.2.1 + (1 : Int)), ())), ()))))))))) (K (s.1.1, ()))))))) ((row, ((0 : Int), ())), ()))
theorem w_spec_l36Walk (x : denL c_spec_l36Walk.args) (K : Int × Unit → Prop) : evF tab (lkp []) (cutL []) Try.f29 (bodyOf Try.f29) (.s .n (.s (.s .n (.l [(2, (.d (.int .i64))), (7, (.d (.int .i64)))] [] [0, 1] .n)) .n)) c_spec_l36Walk x K = W_spec_l36Walk x.1 x.2.1 x.2.2.1 K := by kernel_rfl
theorem k_spec_l36Walk : okC Try.f29.ntmps (cutL []) (bodyOf Try.f29) = true := by kernel_rfl
theorem m_spec_l36Walk (maps : List (List Int)) (edges : List Int) (row : Int) (hok : allP (okL c_spec_l36Walk.args (maps, edges, row, ()))) (hpre : allP (c_spec_l36Walk.pre (maps, edges, row, ()))) : W_spec_l36Walk maps edges row (fun r => r = c_spec_l36Walk.res (maps, edges, row, ())) := by
  simp only [c_spec_l36Walk, okL, T.oks, T.ok, ap, allP, true_and, and_true, implies_true] at hok hpre
  try dsimp only [T.den] at hok
  try dsimp only [T.den] at hpre
  unfold W_spec_l36Walk
  refine loop_of (fun (s : ((Int × (Int × Unit)) × Unit)) => 0 ≤ s.1.2.1 ∧ s.1.2.1 ≤ edges.length ∧ leadP maps (edges.drop s.1.2.1.toNat) s.1.1 ∧ leadR maps edges row = leadR maps (edges.drop s.1.2.1.toNat) s.1.1) (fun (s : ((Int × (Int × Unit)) × Unit)) => (edges.length - s.1.2.1).toNat) ?_ ⟨by simp, by simp, hpre, by simp⟩
  rintro ⟨⟨r, i, _⟩, _⟩ next ⟨h0, h1, h2, h3⟩ hn hr hin
  have hl : edges.length ≤ 140737488355328 := by simp only [nb_eq] at hok; omega
  dsimp only at h0 h1 h2 h3 hn ⊢
  refine cnd_d (fun hc => ?_) (fun hc => ?_)
  · rw [drop_c edges 0 h0 hc] at h2 h3
    simp only [leadP] at h2
    simp only [leadR] at h3
    exact ⟨h0, hc, h2.1, h2.2.1, h2.2.2.1, h2.2.2.2.1, by rw [inK64]; omega, hn _ ⟨(by first | omega | (dsimp only; omega)), (by first | omega | (dsimp only; omega)), h2.2.2.2.2, h3⟩ (by first | omega | (dsimp only; omega))⟩
  · rw [drop_n edges (by omega)] at h3
    simp only [c_spec_l36Walk]
    rw [h3]; rfl
theorem ct_spec_l36Walk : CtOk Try.prog 29 c_spec_l36Walk :=
  ct_by (Φ := lkp []) good_nil tab_ok (by kernel_rfl) (fn := Try.f29) (c := bodyOf Try.f29) (by kernel_rfl) (by kernel_rfl) (by kernel_rfl) c_spec_l36Walk (.s .n (.s (.s .n (.l [(2, (.d (.int .i64))), (7, (.d (.int .i64)))] [] [0, 1] .n)) .n)) (cutL []) (by kernel_rfl) (by kernel_rfl) k_spec_l36Walk (by decide) (fun x K => W_spec_l36Walk x.1 x.2.1 x.2.2.1 K) w_spec_l36Walk (fun x h1 h2 => m_spec_l36Walk x.1 x.2.1 x.2.2.1 h1 h2)
def c_spec_l36Broken : Ct := ⟨[SchemaT, (.sl (.int .i64)), (.sl (.sl (.int .i64)))], [true, false, false], fun x => [isSchemaR x.1 = true, dataR x.1 x.2.1 x.2.2.1 = true], [(false, (.fz (.int .i64))), (false, (.fz (.int .i64)))], fun x => ((brokenR x.1 x.2.1 x.2.2.1).1, (brokenR x.1 x.2.1 x.2.2.1).2, ()), false⟩
def W_spec_l36Broken (s : SchemaD) (sizes : List Int) (maps : List (List Int)) (K : Int × Int × Unit → Prop) : Prop := (loopW (S := ((Int × Unit) × Unit)) (fun s1 => (fun next => ((inK IntKind.i64 s1.1.1) → (cnd (decide (s1.1.1 < (((List.length s.2.2.2.1) : Nat) : Int))) (loopW (S := ((Int × Unit) × Unit)) (fun s2 => (fun next1 => ((inK IntKind.i64 s2.1.1) → (((0 : Int) ≤ s1.1.1) ∧ ((s1.1.1 < (((List.length s.2.2.2.1) : Nat) : Int)) ∧ (((0 : Int) ≤ (List.getD s.2.2.2.1 (Int.toNat s1.1.1) ((0 : Int), ([] : List Int))).1) ∧ (((List.getD s.2.2.2.1 (Int.toNat s1.1.1) ((0 : Int), ([] : List Int))).1 < (((List.length sizes) : Nat) : Int)) ∧ (cnd (decide (s2.1.1 < (List.getD sizes (Int.toNat (List.getD s.2.2.2.1 (Int.toNat s1.1.1) ((0 : Int), ([] : List Int))).1) (0 : Int)))) (((0 : Int) ≤ s1.1.1) ∧ ((s1.1.1 < (((List.length s.2.2.2.1) : Nat) : Int)) ∧ ((leadP maps (List.getD s.2.2.2.1 (Int.toNat s1.1.1) ((0 : Int), ([] : List Int))).2 s2.1.1) ∧ (((0 : Int) ≤ s1.1.1) ∧ ((s1.1.1 < (((List.length s.2.2.2.2) : Nat) : Int)) ∧ ((leadP maps (List.getD s.2.2.2.2 (Int.toNat s1.1.1) ((0 : Int), ([] : List Int))).2 s2.1.1) ∧ (cnd ((leadR maps (List.getD s.2.2.2.1 (Int.toNat s1.1.1) ((0 : Int), ([] : List Int))).2 s2.1.1) != (leadR maps (List.getD s.2.2.2.2 (Int.toNat s1.1.1) ((0 : Int), ([] : List Int))).2 s2.1.1)) (K (s1.1.1, (s2.1.1, ()))) ((inK IntKind.i64 (s2.1.1 + (1 : Int))) ∧ (next1 (((s2.1.1 + (1 : Int)), ()), ())))))))))) ((inK IntKind.i64 (s1.1.1 + (1 : Int))) ∧ (next (((s1.1.1 + (1 : Int)), ()), ()))))))))))) (((0 : Int), ()), ())) (K ((-(1 : Int)), ((0 : Int), ()))))))) (((0 : Int), ()), ()))
theorem w_spec_l36Broken (x : denL c_spec_l36Broken.args) (K : Int × Int × Unit → Prop) : evF tab (lkp [(29, c_spec_l36Walk)]) (cutL [(7, 19)]) Try.f18 (bodyOf Try.f18) (.s .n (.s (.s .n (.l [(8, (.d (.int .i64)))] [] [1, 2, 3] (.s .n (.s (.s .n (.l [(9, (.d (.int .i64)))] [] [1, 2, 3, 8] .n)) .n)))) .n)) c_spec_l36Broken x K = W_spec_l36Broken x.1 x.2.1 x.2.2.1 K := by kernel_rfl
theorem k_spec_l36Broken : okC Try.f18.ntmps (cutL [(7, 19)]) (bodyOf Try.f18) = true := by kernel_rfl
theorem m_spec_l36Broken (s : SchemaD) (sizes : List Int) (maps : List (List Int)) (hok : allP (okL c_spec_l36Broken.args (s, sizes, maps, ()))) (hpre : allP (c_spec_l36Broken.pre (s, sizes, maps, ()))) : W_spec_l36Broken s sizes maps (fun r => r = c_spec_l36Broken.res (s, sizes, maps, ())) := by
  simp only [c_spec_l36Broken, okL, T.oks, T.ok, ap, allP, true_and, and_true, implies_true] at hok hpre
  try dsimp only [T.den] at hok
  try dsimp only [T.den] at hpre
  unfold W_spec_l36Broken
  have S := sch_of hpre.1
  have D := data_iff.1 hpre.2
  have hll := S.ll
  have hlr := S.lr
  have hlen := D.len
  have resq : ∀ a b, brokenR s sizes maps = (a, b) → (a, b, ()) = c_spec_l36Broken.res (s, sizes, maps, ()) := fun a b h => by simp only [c_spec_l36Broken, h]
  refine loop_ix (n := s.2.2.2.1.length) (fun i => scanR (brokenQ s sizes maps) s.2.2.2.1.length 0 = scanR (brokenQ s sizes maps) ((s.2.2.2.1.length : Int) - i).toNat i) (by omega) scan_0 ?_ ?_
  · intro i next h0 h1 hP hn hin
    dsimp only
    have he := eqn_at S h0 h1
    simp only [eqnR, Bool.and_eq_true, decide_eq_true_eq] at he
    obtain ⟨⟨⟨e1, e2⟩, e3⟩, _⟩ := he
    have f1 := end_follow e1
    have f2 := end_follow e2
    have sb := within_iff.1 D.sz _ f1.2.1 (by omega)
    have hq : ∀ r, brokenI s maps i r = if leadR maps (s.2.2.2.1.getD i.toNat (0, [])).2 r ≠ leadR maps (s.2.2.2.2.getD i.toNat (0, [])).2 r then some (i, r) else none := fun _ => rfl
    have hQ : brokenQ s sizes maps i = scanR (brokenI s maps i) (sizes.getD (s.2.2.2.1.getD i.toNat (0, [])).1.toNat 0).toNat 0 := rfl
    have l1 := fun r => follow_lead S D (s.2.2.2.1.getD i.toNat (0, [])).2 (s.2.2.2.1.getD i.toNat (0, [])).1 r f1.1
    have l2 := fun r => follow_lead S D (s.2.2.2.2.getD i.toNat (0, [])).2 (s.2.2.2.2.getD i.toNat (0, [])).1 r f2.1
    rw [← e3] at l2
    generalize s.2.2.2.1.getD i.toNat (0, []) = p at *
    generalize s.2.2.2.2.getD i.toNat (0, []) = q at *
    generalize hm : sizes.getD p.1.toNat 0 = m at *
    refine cnd_d (fun _ => ?_) (fun h => absurd h1 h)
    refine loop_ix (n := m) (fun r => brokenQ s sizes maps i = scanR (brokenI s maps i) (m - r).toNat r) sb.1 (by rw [hQ]; simp) ?_ ?_
    · intro r next2 r0 r1 hP2 hn2 hin2
      dsimp only
      refine ⟨h0, h1, f1.2.1, by omega, cnd_d (fun _ => ⟨h0, h1, l1 r r0 (by omega), h0, by omega, l2 r r0 (by omega), cnd_of (fun hx => resq _ _ ?_) (fun hx => ⟨by rw [inK64]; omega, hn2 ?_⟩)⟩) (fun h => absurd r1 h)⟩
      · have e : brokenI s maps i r = some (i, r) := by rw [hq, if_pos (by simpa using hx)]
        have e4 : brokenQ s sizes maps i = some (i, r) := by rw [hP2, scan_s r1 e]
        unfold brokenR; rw [hP, scan_s h1 e4]; rfl
      · have e : brokenI s maps i r = none := by rw [hq, if_neg (by simpa using hx)]
        rw [hP2, scan_c r1 e]
    · intro next2 hP2 hin2
      rw [scan_n] at hP2
      exact ⟨h0, h1, f1.2.1, by omega, cnd_d (fun h => absurd h (by dsimp only; omega)) (fun _ => ⟨by rw [inK64]; omega, hn (by rw [hP, scan_c h1 hP2])⟩)⟩
  · intro next hP hin
    rw [scan_n] at hP
    refine cnd_d (fun h => absurd h (by dsimp only; omega)) (fun _ => resq _ _ ?_)
    unfold brokenR; rw [hP]; rfl
theorem ct_spec_l36Broken : CtOk Try.prog 18 c_spec_l36Broken :=
  ct_by (Φ := lkp [(29, c_spec_l36Walk)]) (good_cons ct_spec_l36Walk good_nil) tab_ok (by kernel_rfl) (fn := Try.f18) (c := bodyOf Try.f18) (by kernel_rfl) (by kernel_rfl) (by kernel_rfl) c_spec_l36Broken (.s .n (.s (.s .n (.l [(8, (.d (.int .i64)))] [] [1, 2, 3] (.s .n (.s (.s .n (.l [(9, (.d (.int .i64)))] [] [1, 2, 3, 8] .n)) .n)))) .n)) (cutL [(7, 19)]) (by kernel_rfl) (by kernel_rfl) k_spec_l36Broken (by decide) (fun x K => W_spec_l36Broken x.1 x.2.1 x.2.2.1 K) w_spec_l36Broken (fun x h1 h2 => m_spec_l36Broken x.1 x.2.1 x.2.2.1 h1 h2)
def c_spec_l36Data : Ct := ⟨[SchemaT, (.sl (.int .i64)), (.sl (.sl (.int .i64)))], [true, false, false], fun x => [isSchemaR x.1 = true], [(false, (.fz .bool))], fun x => (dataR x.1 x.2.1 x.2.2.1, ()), false⟩
def W_spec_l36Data (s : SchemaD) (sizes : List Int) (maps : List (List Int)) (K : Bool × Unit → Prop) : Prop := (cnd ((((((List.length sizes) : Nat) : Int) != s.1) || ((((List.length maps) : Nat) : Int) != (((List.length s.2.1) : Nat) : Int))) || (!(withinR sizes (17 : Int)))) (K (Bool.false, ())) (loopW (S := ((Int × Unit) × Unit)) (fun s1 => (fun next => ((inK IntKind.i64 s1.1.1) → (cnd (decide (s1.1.1 < (((List.length maps) : Nat) : Int))) (((0 : Int) ≤ s1.1.1) ∧ ((s1.1.1 < (((List.length maps) : Nat) : Int)) ∧ (((0 : Int) ≤ s1.1.1) ∧ ((s1.1.1 < (((List.length s.2.1) : Nat) : Int)) ∧ (((0 : Int) ≤ (List.getD s.2.1 (Int.toNat s1.1.1) (0 : Int))) ∧ (((List.getD s.2.1 (Int.toNat s1.1.1) (0 : Int)) < (((List.length sizes) : Nat) : Int)) ∧ (((((((List.length (List.getD maps (Int.toNat s1.1.1) ([] : List Int))) : Nat) : Int) != (List.getD sizes (Int.toNat (List.getD s.2.1 (Int.toNat s1.1.1) (0 : Int))) (0 : Int))) = Bool.false) → ((s1.1.1 < (((List.length s.2.2.1) : Nat) : Int)) ∧ ((0 : Int) ≤ s1.1.1))) ∧ (((((((List.length (List.getD maps (Int.toNat s1.1.1) ([] : List Int))) : Nat) : Int) != (List.getD sizes (Int.toNat (List.getD s.2.1 (Int.toNat s1.1.1) (0 : Int))) (0 : Int))) = Bool.false) → (((List.getD s.2.2.1 (Int.toNat s1.1.1) (0 : Int)) < (((List.length sizes) : Nat) : Int)) ∧ ((0 : Int) ≤ (List.getD s.2.2.1 (Int.toNat s1.1.1) (0 : Int))))) ∧ (((((((List.length (List.getD maps (Int.toNat s1.1.1) ([] : List Int))) : Nat) : Int) != (List.getD sizes (Int.toNat (List.getD s.2.1 (Int.toNat s1.1.1) (0 : Int))) (0 : Int))) = Bool.false) → ((s1.1.1 < (((List.length maps) : Nat) : Int)) ∧ ((0 : Int) ≤ s1.1.1))) ∧ (cnd (((((List.length (List.getD maps (Int.toNat s1.1.1) ([] : List Int))) : Nat) : Int) != (List.getD sizes (Int.toNat (List.getD s.2.1 (Int.toNat s1.1.1) (0 : Int))) (0 : Int))) || (!(withinR (List.getD maps (Int.toNat s1.1.1) ([] : List Int)) (List.getD sizes (Int.toNat (List.getD s.2.2.1 (Int.toNat s1.1.1) (0 : Int))) (0 : Int))))) (K (Bool.false, ())) ((inK IntKind.i64 (s1.1.1 + (1 : Int))) ∧ (next (((s1.1.1 + (1 : Int)), ()), ()))))))))))))) (K (Bool.true, ())))))) (((0 : Int), ()), ())))
theorem w_spec_l36Data (x : denL c_spec_l36Data.args) (K : Bool × Unit → Prop) : evF tab (lkp [(26, c_spec_l01Map)]) (cutL [(6, 30)]) Try.f17 (bodyOf Try.f17) (.s .n (.s .n (.s (.s .n (.l [(7, (.d (.int .i64)))] [] [1, 2, 3] .n)) .n))) c_spec_l36Data x K = W_spec_l36Data x.1 x.2.1 x.2.2.1 K := by kernel_rfl
theorem k_spec_l36Data : okC Try.f17.ntmps (cutL [(6, 30)]) (bodyOf Try.f17) = true := by kernel_rfl
theorem m_spec_l36Data (s : SchemaD) (sizes : List Int) (maps : List (List Int)) (hok : allP (okL c_spec_l36Data.args (s, sizes, maps, ()))) (hpre : allP (c_spec_l36Data.pre (s, sizes, maps, ()))) : W_spec_l36Data s sizes maps (fun r => r = c_spec_l36Data.res (s, sizes, maps, ())) := by
  simp only [c_spec_l36Data, okL, T.oks, T.ok, ap, allP, true_and, and_true, implies_true] at hok hpre
  try dsimp only [T.den] at hok
  try dsimp only [T.den] at hpre
  unfold W_spec_l36Data
  have S := sch_of hpre
  have hlt := S.lt
  have hnd := S.nd
  have hml : maps.length ≤ 140737488355328 := by simp only [nb_eq] at hok; omega
  have bad : ¬ DataP s sizes maps → (false, ()) = c_spec_l36Data.res (s, sizes, maps, ()) := fun h => by
    simp only [c_spec_l36Data]
    cases hs : dataR s sizes maps with
    | false => rfl
    | true => exact absurd (data_iff.1 hs) h
  refine cnd_of (fun hc => bad fun h => ?_) (fun hc => ?_)
  · have h1 := h.len; have h2 := h.sz; have h3 := h.ml; grind [cnd, nb_eq, inK64]
  simp only [Bool.or_eq_false_iff, Bool.not_eq_false', bne_eq_false_iff_eq] at hc
  refine loop_ix (n := maps.length) (fun i => ∀ e : Int, 0 ≤ e → e < i → ((maps.getD e.toNat []).length : Int) = sizes.getD (s.2.1.getD e.toNat 0).toNat 0 ∧ withinR (maps.getD e.toNat []) (sizes.getD (s.2.2.1.getD e.toNat 0).toNat 0) = true) (by omega) (by intro y h0 h1; omega) ?_ ?_
  · intro e next h0 h1 hP hn hin
    dsimp only
    have a := within_iff.1 S.fr e h0 (by omega)
    have b := within_iff.1 S.to e h0 (by omega)
    have sb := within_iff.1 hc.2 _ b.1 (by omega)
    refine cnd_d (fun _ => ⟨h0, h1, h0, by omega, a.1, by omega, fun _ => by omega, fun _ => by omega, fun _ => by omega, cnd_of (fun hx => bad fun h => ?_) (fun hx => ⟨by rw [inK64]; omega, hn fun j j0 j1 => ?_⟩)⟩) (fun h => absurd h1 h)
    · have := h.at_ e h0 h1
      rw [this.1, this.2] at hx; simp at hx
    · by_cases e2 : j = e
      · rw [e2]; simpa using hx
      · exact hP j j0 (by omega)
  · intro next hP hin
    refine cnd_d (fun h => absurd h (by dsimp only; omega)) (fun _ => ?_)
    simp only [c_spec_l36Data]
    rw [data_iff.2 ⟨by omega, hc.2, by omega, hP⟩]
theorem ct_spec_l36Data : CtOk Try.prog 17 c_spec_l36Data :=
  ct_by (Φ := lkp [(26, c_spec_l01Map)]) (good_cons ct_spec_l01Map good_nil) tab_ok (by kernel_rfl) (fn := Try.f17) (c := bodyOf Try.f17) (by kernel_rfl) (by kernel_rfl) (by kernel_rfl) c_spec_l36Data (.s .n (.s .n (.s (.s .n (.l [(7, (.d (.int .i64)))] [] [1, 2, 3] .n)) .n))) (cutL [(6, 30)]) (by kernel_rfl) (by kernel_rfl) k_spec_l36Data (by decide) (fun x K => W_spec_l36Data x.1 x.2.1 x.2.2.1 K) w_spec_l36Data (fun x h1 h2 => m_spec_l36Data x.1 x.2.1 x.2.2.1 h1 h2)
def c_spec_FirstBrokenEquation : Ct := ⟨[SchemaT, (.sl (.int .i64)), (.sl (.sl (.int .i64)))], [true, false, false], fun x => [], [(false, (.fz (.int .i64))), (false, (.fz (.int .i64))), (false, (.fz (.int .i64)))], fun x => ((fbR x.1 x.2.1 x.2.2.1).1, (fbR x.1 x.2.1 x.2.2.1).2.1, (fbR x.1 x.2.1 x.2.2.1).2.2, ()), false⟩
def W_spec_FirstBrokenEquation (s : SchemaD) (sizes : List Int) (maps : List (List Int)) (K : Int × Int × Int × Unit → Prop) : Prop := (cnd (!(isSchemaR s)) (K ((0 : Int), ((0 : Int), ((1 : Int), ())))) (((isSchemaR s) = Bool.true) ∧ (cnd (!(dataR s sizes maps)) (K ((0 : Int), ((0 : Int), ((2 : Int), ())))) (((isSchemaR s) = Bool.true) ∧ (((dataR s sizes maps) = Bool.true) ∧ (K ((brokenR s sizes maps).1, ((brokenR s sizes maps).2, ((0 : Int), ())))))))))
theorem w_spec_FirstBrokenEquation (x : denL c_spec_FirstBrokenEquation.args) (K : Int × Int × Int × Unit → Prop) : evF tab (lkp [(16, c_spec_IsSchema), (18, c_spec_l36Broken), (17, c_spec_l36Data)]) (cutL []) Try.f6 (bodyOf Try.f6) .n c_spec_FirstBrokenEquation x K = W_spec_FirstBrokenEquation x.1 x.2.1 x.2.2.1 K := by kernel_rfl
theorem k_spec_FirstBrokenEquation : okC Try.f6.ntmps (cutL []) (bodyOf Try.f6) = true := by kernel_rfl
theorem m_spec_FirstBrokenEquation (s : SchemaD) (sizes : List Int) (maps : List (List Int)) (hok : allP (okL c_spec_FirstBrokenEquation.args (s, sizes, maps, ()))) (hpre : allP (c_spec_FirstBrokenEquation.pre (s, sizes, maps, ()))) : W_spec_FirstBrokenEquation s sizes maps (fun r => r = c_spec_FirstBrokenEquation.res (s, sizes, maps, ())) := by
  simp only [c_spec_FirstBrokenEquation, okL, T.oks, T.ok, ap, allP, true_and, and_true, implies_true] at hok hpre
  try dsimp only [T.den] at hok
  try dsimp only [T.den] at hpre
  unfold W_spec_FirstBrokenEquation
  simp only [c_spec_FirstBrokenEquation, fbR]
  grind [cnd, nb_eq, inK64]
theorem ct_spec_FirstBrokenEquation : CtOk Try.prog 6 c_spec_FirstBrokenEquation :=
  ct_by (Φ := lkp [(16, c_spec_IsSchema), (18, c_spec_l36Broken), (17, c_spec_l36Data)]) (good_cons ct_spec_IsSchema (good_cons ct_spec_l36Broken (good_cons ct_spec_l36Data good_nil))) tab_ok (by kernel_rfl) (fn := Try.f6) (c := bodyOf Try.f6) (by kernel_rfl) (by kernel_rfl) (by kernel_rfl) c_spec_FirstBrokenEquation .n (cutL []) (by kernel_rfl) (by kernel_rfl) k_spec_FirstBrokenEquation (by decide) (fun x K => W_spec_FirstBrokenEquation x.1 x.2.1 x.2.2.1 K) w_spec_FirstBrokenEquation (fun x h1 h2 => m_spec_FirstBrokenEquation x.1 x.2.1 x.2.2.1 h1 h2)
def c_laws_FnExactFirstBrokenEquation : Ct := ⟨[SchemaT, (.sl (.int .i64)), (.sl (.sl (.int .i64)))], [true, false, false], fun x => [], [(false, (.fz .bool))], fun x => (true, ()), false⟩
def W_laws_FnExactFirstBrokenEquation (aS : SchemaD) (aSizes : List Int) (aMaps : List (List Int)) (K : Bool × Unit → Prop) : Prop := (cnd (decide ((1048576 : Int) < (((List.length aSizes) : Nat) : Int))) (K (Bool.true, ())) (((-(4611404543450677248 : Int)) ≤ (1048576 : Int)) ∧ (cnd (decide ((szR (wR SchemaT aS) (1048576 : Int)) < (0 : Int))) (K (Bool.true, ())) (((-(4611404543450677248 : Int)) ≤ (szR (wR SchemaT aS) (1048576 : Int))) ∧ (cnd (decide ((szR (wR (T.sl (T.sl (T.int IntKind.i64))) aMaps) (szR (wR SchemaT aS) (1048576 : Int))) < (0 : Int))) (K (Bool.true, ())) (((wR SchemaT aS) ≤ 1099511627776) ∧ (((wR (T.sl (T.int IntKind.i64)) aSizes) ≤ 1099511627776) ∧ (((wR (T.sl (T.sl (T.int IntKind.i64))) aMaps) ≤ 1099511627776) ∧ (((wR SchemaT aS) ≤ 1099511627776) ∧ (((wR (T.sl (T.int IntKind.i64)) aSizes) ≤ 1099511627776) ∧ (((wR (T.sl (T.sl (T.int IntKind.i64))) aMaps) ≤ 1099511627776) ∧ (cnd ((((fbR aS aSizes aMaps).1 != (fbR aS aSizes aMaps).1) || ((fbR aS aSizes aMaps).2.1 != (fbR aS aSizes aMaps).2.1)) || ((fbR aS aSizes aMaps).2.2 != (fbR aS aSizes aMaps).2.2)) (K (Bool.false, ())) (((wR SchemaT aS) ≤ 1099511627776) ∧ (cnd (!(eqR SchemaT aS aS)) (K (Bool.false, ())) (((wR (T.sl (T.int IntKind.i64)) aSizes) ≤ 1099511627776) ∧ (cnd (!(eqR (T.sl (T.int IntKind.i64)) aSizes aSizes)) (K (Bool.false, ())) (((wR (T.sl (T.sl (T.int IntKind.i64))) aMaps) ≤ 1099511627776) ∧ (cnd (!(eqR (T.sl (T.sl (T.int IntKind.i64))) aMaps aMaps)) (K (Bool.false, ())) (K (Bool.true, ()))))))))))))))))))))
theorem w_laws_FnExactFirstBrokenEquation (x : denL c_laws_FnExactFirstBrokenEquation.args) (K : Bool × Unit → Prop) : evF tab (lkp [(10, c_impl_FirstBrokenEquation), (12, c_laws_eqInt64S), (13, c_laws_eqInt64SS), (11, c_laws_eqSchema), (5, c_laws_szInt64SS), (4, c_laws_szSchema), (8, c_laws_toInt64S), (9, c_laws_toInt64SS), (7, c_laws_toSchema), (6, c_spec_FirstBrokenEquation)]) (cutL [(17, 5)]) Try.f3 (bodyOf Try.f3) .n c_laws_FnExactFirstBrokenEquation x K = W_laws_FnExactFirstBrokenEquation x.1 x.2.1 x.2.2.1 K := by kernel_rfl
theorem k_laws_FnExactFirstBrokenEquation : okC Try.f3.ntmps (cutL [(17, 5)]) (bodyOf Try.f3) = true := by kernel_rfl
theorem m_laws_FnExactFirstBrokenEquation (aS : SchemaD) (aSizes : List Int) (aMaps : List (List Int)) (hok : allP (okL c_laws_FnExactFirstBrokenEquation.args (aS, aSizes, aMaps, ()))) (hpre : allP (c_laws_FnExactFirstBrokenEquation.pre (aS, aSizes, aMaps, ()))) : W_laws_FnExactFirstBrokenEquation aS aSizes aMaps (fun r => r = c_laws_FnExactFirstBrokenEquation.res (aS, aSizes, aMaps, ())) := by
  simp only [c_laws_FnExactFirstBrokenEquation, okL, T.oks, T.ok, ap, allP, true_and, and_true, implies_true] at hok hpre
  try dsimp only [T.den] at hok
  try dsimp only [T.den] at hpre
  unfold W_laws_FnExactFirstBrokenEquation
  rw [wR_ints]
  generalize wR SchemaT aS = n1
  generalize wR (.sl (.sl (.int .i64))) aMaps = n2
  simp only [eqR_self]
  clear hok
  grind [cnd, nb_eq, inK64, szR, c_laws_FnExactFirstBrokenEquation]
theorem ct_laws_FnExactFirstBrokenEquation : CtOk Try.prog 3 c_laws_FnExactFirstBrokenEquation :=
  ct_by (Φ := lkp [(10, c_impl_FirstBrokenEquation), (12, c_laws_eqInt64S), (13, c_laws_eqInt64SS), (11, c_laws_eqSchema), (5, c_laws_szInt64SS), (4, c_laws_szSchema), (8, c_laws_toInt64S), (9, c_laws_toInt64SS), (7, c_laws_toSchema), (6, c_spec_FirstBrokenEquation)]) (good_cons ct_impl_FirstBrokenEquation (good_cons ct_laws_eqInt64S (good_cons ct_laws_eqInt64SS (good_cons ct_laws_eqSchema (good_cons ct_laws_szInt64SS (good_cons ct_laws_szSchema (good_cons ct_laws_toInt64S (good_cons ct_laws_toInt64SS (good_cons ct_laws_toSchema (good_cons ct_spec_FirstBrokenEquation good_nil)))))))))) tab_ok (by kernel_rfl) (fn := Try.f3) (c := bodyOf Try.f3) (by kernel_rfl) (by kernel_rfl) (by kernel_rfl) c_laws_FnExactFirstBrokenEquation .n (cutL [(17, 5)]) (by kernel_rfl) (by kernel_rfl) k_laws_FnExactFirstBrokenEquation (by decide) (fun x K => W_laws_FnExactFirstBrokenEquation x.1 x.2.1 x.2.2.1 K) w_laws_FnExactFirstBrokenEquation (fun x h1 h2 => m_laws_FnExactFirstBrokenEquation x.1 x.2.1 x.2.2.1 h1 h2)
end Go.Bm
