/- What the functions that FnExactPathEnd reaches give: for each its contract, what it asks, and the proof. No condition. -/
import Derived.Test.YtfkeefladmafpaaTab
namespace Go.Bm
open Go.Proofs
set_option maxRecDepth 100000
set_option maxHeartbeats 1000000
set_option linter.unusedVariables false
set_option linter.unusedSimpArgs false
def inR (n lo hi : Int) : Bool := decide (lo ≤ n) && decide (n ≤ hi)
theorem inR_iff {n lo hi : Int} : inR n lo hi = true ↔ lo ≤ n ∧ n ≤ hi := by simp [inR]

def c_impl_inRange : Ct := ⟨[(.int .i64), (.int .i64), (.int .i64)], [false, false, false], fun x => [], [(false, (.fz .bool))], fun x => (inR x.1 x.2.1 x.2.2.1, ()), false⟩
def W_impl_inRange (n : Int) (low : Int) (high : Int) (K : Bool × Unit → Prop) : Prop := (K (((decide (low ≤ n)) && (decide (n ≤ high))), ()))
theorem w_impl_inRange (x : denL c_impl_inRange.args) (K : Bool × Unit → Prop) : evF tab (lkp []) (cutL []) Try.f62 (bodyOf Try.f62) .n c_impl_inRange x K = W_impl_inRange x.1 x.2.1 x.2.2.1 K := by kernel_rfl
theorem k_impl_inRange : okC Try.f62.ntmps (cutL []) (bodyOf Try.f62) = true := by kernel_rfl
theorem m_impl_inRange (n : Int) (low : Int) (high : Int) (hok : allP (okL c_impl_inRange.args (n, low, high, ()))) (hpre : allP (c_impl_inRange.pre (n, low, high, ()))) : W_impl_inRange n low high (fun r => r = c_impl_inRange.res (n, low, high, ())) := by
  simp only [c_impl_inRange, okL, T.oks, T.ok, ap, allP, true_and, and_true, implies_true] at hok hpre
  try dsimp only [T.den] at hok
  unfold W_impl_inRange
  grind [cnd, nb_eq, inK64, c_impl_inRange, inR]
theorem ct_impl_inRange : CtOk Try.prog 62 c_impl_inRange :=
  ct_by (Φ := lkp []) good_nil tab_ok (by kernel_rfl) (fn := Try.f62) (c := bodyOf Try.f62) (by kernel_rfl) (by kernel_rfl) (by kernel_rfl) c_impl_inRange .n (cutL []) (by kernel_rfl) (by kernel_rfl) k_impl_inRange (by decide) (fun x K => W_impl_inRange x.1 x.2.1 x.2.2.1 K) w_impl_inRange (fun x h1 h2 => m_impl_inRange x.1 x.2.1 x.2.2.1 h1 h2)
def followR (s : SchemaT.den) : Int → List Int → Int × Bool
  | n, [] => (n, true)
  | n, e :: r => if inR e 0 ((s.2.1.length : Int) - 1) = true ∧ s.2.1.getD e.toNat 0 = n then followR s (s.2.2.1.getD e.toNat 0) r else (0, false)

def c_impl_Schema_follow : Ct := ⟨[(.pt SchemaT), (.int .i64), (.sl (.int .i64))], [false, false, false], fun x => [x.1.2.1.length ≤ x.1.2.2.1.length], [(false, (.fz (.int .i64))), (false, (.fz .bool))], fun x => ((followR x.1 x.2.1 x.2.2.1).1, (followR x.1 x.2.1 x.2.2.1).2, ()), false⟩
def W_impl_Schema_follow (s : T.den SchemaT) (node : Int) (edges : List Int) (K : Int × Bool × Unit → Prop) : Prop := (loopW (S := ((Int × (Int × Unit)) × Unit)) (fun s1 => (fun next => ((inK IntKind.i64 s1.1.1) → ((inK IntKind.i64 s1.1.2.1) → (cnd (decide (s1.1.2.1 < (((List.length edges) : Nat) : Int))) (((0 : Int) ≤ s1.1.2.1) ∧ ((s1.1.2.1 < (((List.length edges) : Nat) : Int)) ∧ ((inK IntKind.i64 ((((List.length s.2.1) : Nat) : Int) - (1 : Int))) ∧ ((((!(inR (List.getD edges (Int.toNat s1.1.2.1) (0 : Int)) (0 : Int) ((((List.length s.2.1) : Nat) : Int) - (1 : Int)))) = Bool.false) → (((List.getD edges (Int.toNat s1.1.2.1) (0 : Int)) < (((List.length s.2.1) : Nat) : Int)) ∧ ((0 : Int) ≤ (List.getD edges (Int.toNat s1.1.2.1) (0 : Int))))) ∧ (cnd ((!(inR (List.getD edges (Int.toNat s1.1.2.1) (0 : Int)) (0 : Int) ((((List.length s.2.1) : Nat) : Int) - (1 : Int)))) || ((List.getD s.2.1 (Int.toNat (List.getD edges (Int.toNat s1.1.2.1) (0 : Int))) (0 : Int)) != s1.1.1)) (K ((0 : Int), (Bool.false, ()))) (((0 : Int) ≤ (List.getD edges (Int.toNat s1.1.2.1) (0 : Int))) ∧ (((List.getD edges (Int.toNat s1.1.2.1) (0 : Int)) < (((List.length s.2.2.1) : Nat) : Int)) ∧ ((inK IntKind.i64 (s1.1.2.1 + (1 : Int))) ∧ (next (((List.getD s.2.2.1 (Int.toNat (List.getD edges (Int.toNat s1.1.2.1) (0 : Int))) (0 : Int)), ((s1.1.2.1 + (1 : Int)), ())), ())))))))))) (K (s1.1.1, (Bool.true, ())))))))) ((node, ((0 : Int), ())), ()))
theorem w_impl_Schema_follow (x : denL c_impl_Schema_follow.args) (K : Int × Bool × Unit → Prop) : evF tab (lkp [(62, c_impl_inRange)]) (cutL []) Try.f68 (bodyOf Try.f68) (.s .n (.s (.s .n (.l [(1, (.d (.int .i64))), (12, (.d (.int .i64)))] [] [0, 10, 11] .n)) .n)) c_impl_Schema_follow x K = W_impl_Schema_follow x.1 x.2.1 x.2.2.1 K := by kernel_rfl
theorem k_impl_Schema_follow : okC Try.f68.ntmps (cutL []) (bodyOf Try.f68) = true := by kernel_rfl
theorem m_impl_Schema_follow (s : T.den SchemaT) (node : Int) (edges : List Int) (hok : allP (okL c_impl_Schema_follow.args (s, node, edges, ()))) (hpre : allP (c_impl_Schema_follow.pre (s, node, edges, ()))) : W_impl_Schema_follow s node edges (fun r => r = c_impl_Schema_follow.res (s, node, edges, ())) := by
  simp only [c_impl_Schema_follow, okL, T.oks, T.ok, ap, allP, true_and, and_true, implies_true] at hok hpre
  try dsimp only [T.den] at hok
  unfold W_impl_Schema_follow
  refine loop_of (fun (s1 : ((Int × (Int × Unit)) × Unit)) => 0 ≤ s1.1.2.1 ∧ s1.1.2.1 ≤ edges.length ∧ followR s node edges = followR s s1.1.1 (edges.drop s1.1.2.1.toNat)) (fun (s1 : ((Int × (Int × Unit)) × Unit)) => (edges.length - s1.1.2.1).toNat) ?_ (by simp)
  rintro ⟨⟨nd, i, _⟩, _⟩ next ⟨h0, h1, h2⟩ hn ha hin
  simp only at h0 h1 h2 hn ⊢
  refine cnd_d (fun hc => ?_) (fun hc => ?_)
  · rw [drop_c edges 0 h0 hc] at h2
    simp only [followR] at h2
    generalize edges.getD i.toNat 0 = e at *
    grind [cnd, nb_eq, inK64, c_impl_Schema_follow, inR]
  · rw [drop_n edges (by omega)] at h2
    simp [followR, h2, c_impl_Schema_follow]
theorem ct_impl_Schema_follow : CtOk Try.prog 68 c_impl_Schema_follow :=
  ct_by (Φ := lkp [(62, c_impl_inRange)]) (good_cons ct_impl_inRange good_nil) tab_ok (by kernel_rfl) (fn := Try.f68) (c := bodyOf Try.f68) (by kernel_rfl) (by kernel_rfl) (by kernel_rfl) c_impl_Schema_follow (.s .n (.s (.s .n (.l [(1, (.d (.int .i64))), (12, (.d (.int .i64)))] [] [0, 10, 11] .n)) .n)) (cutL []) (by kernel_rfl) (by kernel_rfl) k_impl_Schema_follow (by decide) (fun x K => W_impl_Schema_follow x.1 x.2.1 x.2.2.1 K) w_impl_Schema_follow (fun x h1 h2 => m_impl_Schema_follow x.1 x.2.1 x.2.2.1 h1 h2)
def endR (s : SchemaT.den) (p : PathT.den) : Int × Bool :=
  if inR p.1 0 (s.1 - 1) = true ∧ p.2.length ≤ 6 then followR s p.1 p.2 else (0, false)

def c_impl_Schema_end : Ct := ⟨[(.pt SchemaT), PathT], [false, true], fun x => [x.1.2.1.length ≤ x.1.2.2.1.length, inK .i64 (x.1.1 - 1)], [(false, (.fz (.int .i64))), (false, (.fz .bool))], fun x => ((endR x.1 x.2.1).1, (endR x.1 x.2.1).2, ()), false⟩
def W_impl_Schema_end (s : T.den SchemaT) (p : T.den PathT) (K : Int × Bool × Unit → Prop) : Prop := ((inK IntKind.i64 (s.1 - (1 : Int))) ∧ (cnd ((!(inR p.1 (0 : Int) (s.1 - (1 : Int)))) || (decide ((6 : Int) < (((List.length p.2) : Nat) : Int)))) (K ((0 : Int), (Bool.false, ()))) (((List.length s.2.1) ≤ (List.length s.2.2.1)) ∧ (K ((followR s p.1 p.2).1, ((followR s p.1 p.2).2, ()))))))
theorem w_impl_Schema_end (x : denL c_impl_Schema_end.args) (K : Int × Bool × Unit → Prop) : evF tab (lkp [(68, c_impl_Schema_follow), (62, c_impl_inRange)]) (cutL [(1, 15)]) Try.f57 (bodyOf Try.f57) .n c_impl_Schema_end x K = W_impl_Schema_end x.1 x.2.1 K := by kernel_rfl
theorem k_impl_Schema_end : okC Try.f57.ntmps (cutL [(1, 15)]) (bodyOf Try.f57) = true := by kernel_rfl
theorem m_impl_Schema_end (s : T.den SchemaT) (p : T.den PathT) (hok : allP (okL c_impl_Schema_end.args (s, p, ()))) (hpre : allP (c_impl_Schema_end.pre (s, p, ()))) : W_impl_Schema_end s p (fun r => r = c_impl_Schema_end.res (s, p, ())) := by
  simp only [c_impl_Schema_end, okL, T.oks, T.ok, ap, allP, true_and, and_true, implies_true] at hok hpre
  try dsimp only [T.den] at hok
  unfold W_impl_Schema_end
  simp only [c_impl_Schema_end, endR]
  grind [cnd, nb_eq, inK64]
theorem ct_impl_Schema_end : CtOk Try.prog 57 c_impl_Schema_end :=
  ct_by (Φ := lkp [(68, c_impl_Schema_follow), (62, c_impl_inRange)]) (good_cons ct_impl_Schema_follow (good_cons ct_impl_inRange good_nil)) tab_ok (by kernel_rfl) (fn := Try.f57) (c := bodyOf Try.f57) (by kernel_rfl) (by kernel_rfl) (by kernel_rfl) c_impl_Schema_end .n (cutL [(1, 15)]) (by kernel_rfl) (by kernel_rfl) k_impl_Schema_end (by decide) (fun x K => W_impl_Schema_end x.1 x.2.1 K) w_impl_Schema_end (fun x h1 h2 => m_impl_Schema_end x.1 x.2.1 h1 h2)
def withinR (l : List Int) (n : Int) : Bool := l.all fun y => inR y 0 (n - 1)

def c_impl_within : Ct := ⟨[(.sl (.int .i64)), (.int .i64)], [false, false], fun x => [inK .i64 (x.2.1 - 1)], [(false, (.fz .bool))], fun x => (withinR x.1 x.2.1, ()), false⟩
def W_impl_within (list : List Int) (n : Int) (K : Bool × Unit → Prop) : Prop := (loopW (S := ((Int × Unit) × Unit)) (fun s => (fun next => ((inK IntKind.i64 s.1.1) → (cnd (decide (s.1.1 < (((List.length list) : Nat) : Int))) (((0 : Int) ≤ s.1.1) ∧ ((s.1.1 < (((List.length list) : Nat) : Int)) ∧ ((inK IntKind.i64 (n - (1 : Int))) ∧ (cnd (!(inR (List.getD list (Int.toNat s.1.1) (0 : Int)) (0 : Int) (n - (1 : Int)))) (K (Bool.false, ())) ((inK IntKind.i64 (s.1.1 + (1 : Int))) ∧ (next (((s.1.1 + (1 : Int)), ()), ()))))))) (K (Bool.true, ())))))) (((0 : Int), ()), ()))
theorem w_impl_within (x : denL c_impl_within.args) (K : Bool × Unit → Prop) : evF tab (lkp [(62, c_impl_inRange)]) (cutL []) Try.f63 (bodyOf Try.f63) (.s .n (.s (.s .n (.l [(9, (.d (.int .i64)))] [] [1, 7, 8] .n)) .n)) c_impl_within x K = W_impl_within x.1 x.2.1 K := by kernel_rfl
theorem k_impl_within : okC Try.f63.ntmps (cutL []) (bodyOf Try.f63) = true := by kernel_rfl
theorem m_impl_within (list : List Int) (n : Int) (hok : allP (okL c_impl_within.args (list, n, ()))) (hpre : allP (c_impl_within.pre (list, n, ()))) : W_impl_within list n (fun r => r = c_impl_within.res (list, n, ())) := by
  simp only [c_impl_within, okL, T.oks, T.ok, ap, allP, true_and, and_true, implies_true] at hok hpre
  try dsimp only [T.den] at hok
  unfold W_impl_within
  refine loop_of (fun (s : ((Int × Unit) × Unit)) => 0 ≤ s.1.1 ∧ s.1.1 ≤ list.length ∧ withinR list n = withinR (list.drop s.1.1.toNat) n) (fun (s : ((Int × Unit) × Unit)) => (list.length - s.1.1).toNat) ?_ (by simp)
  rintro ⟨⟨i, _⟩, _⟩ next ⟨h0, h1, h2⟩ hn hin
  simp only at h0 h1 h2 hn ⊢
  refine cnd_d (fun hc => ?_) (fun hc => ?_)
  · rw [drop_c list 0 h0 hc] at h2
    simp only [withinR, List.all_cons] at h2
    grind [cnd, nb_eq, inK64, c_impl_within, withinR]
  · rw [drop_n list (by omega)] at h2
    grind [cnd, nb_eq, inK64, c_impl_within, withinR]
theorem ct_impl_within : CtOk Try.prog 63 c_impl_within :=
  ct_by (Φ := lkp [(62, c_impl_inRange)]) (good_cons ct_impl_inRange good_nil) tab_ok (by kernel_rfl) (fn := Try.f63) (c := bodyOf Try.f63) (by kernel_rfl) (by kernel_rfl) (by kernel_rfl) c_impl_within (.s .n (.s (.s .n (.l [(9, (.d (.int .i64)))] [] [1, 7, 8] .n)) .n)) (cutL []) (by kernel_rfl) (by kernel_rfl) k_impl_within (by decide) (fun x K => W_impl_within x.1 x.2.1 K) w_impl_within (fun x h1 h2 => m_impl_within x.1 x.2.1 h1 h2)
def eqnR (s : SchemaT.den) (p q : PathT.den) : Bool := (endR s p).2 && (endR s q).2 && decide (p.1 = q.1) && decide ((endR s p).1 = (endR s q).1)
def eqnsR (s : SchemaT.den) : List PathT.den → List PathT.den → Bool
  | p :: l, q :: r => eqnR s p q && eqnsR s l r
  | _, _ => true
def isSchemaR (s : SchemaT.den) : Bool := inR s.1 0 8 && decide (s.2.1.length ≤ 8) && decide (s.2.2.1.length = s.2.1.length) && withinR s.2.1 s.1 && withinR s.2.2.1 s.1 && decide (s.2.2.2.1.length ≤ 8) && decide (s.2.2.2.2.length = s.2.2.2.1.length) && eqnsR s s.2.2.2.1 s.2.2.2.2

def c_impl_Schema_isSchema : Ct := ⟨[(.pt SchemaT)], [false], fun x => [], [(false, (.fz .bool))], fun x => (isSchemaR x.1, ()), false⟩
def W_impl_Schema_isSchema (s : T.den SchemaT) (K : Bool × Unit → Prop) : Prop := ((((((!(inR s.1 (0 : Int) (8 : Int))) || (decide ((8 : Int) < (((List.length s.2.1) : Nat) : Int)))) || ((((List.length s.2.2.1) : Nat) : Int) != (((List.length s.2.1) : Nat) : Int))) = Bool.false) → (inK IntKind.i64 (s.1 - (1 : Int)))) ∧ (((((((!(inR s.1 (0 : Int) (8 : Int))) || (decide ((8 : Int) < (((List.length s.2.1) : Nat) : Int)))) || ((((List.length s.2.2.1) : Nat) : Int) != (((List.length s.2.1) : Nat) : Int))) || (!(withinR s.2.1 s.1))) = Bool.false) → (inK IntKind.i64 (s.1 - (1 : Int)))) ∧ (cnd (((((!(inR s.1 (0 : Int) (8 : Int))) || (decide ((8 : Int) < (((List.length s.2.1) : Nat) : Int)))) || ((((List.length s.2.2.1) : Nat) : Int) != (((List.length s.2.1) : Nat) : Int))) || (!(withinR s.2.1 s.1))) || (!(withinR s.2.2.1 s.1))) (K (Bool.false, ())) (cnd ((decide ((8 : Int) < (((List.length s.2.2.2.1) : Nat) : Int))) || ((((List.length s.2.2.2.2) : Nat) : Int) != (((List.length s.2.2.2.1) : Nat) : Int))) (K (Bool.false, ())) (loopW (S := ((Int × Unit) × Unit)) (fun s1 => (fun next => ((inK IntKind.i64 s1.1.1) → (cnd (decide (s1.1.1 < (((List.length s.2.2.2.1) : Nat) : Int))) (((0 : Int) ≤ s1.1.1) ∧ ((s1.1.1 < (((List.length s.2.2.2.1) : Nat) : Int)) ∧ (((0 : Int) ≤ s1.1.1) ∧ ((s1.1.1 < (((List.length s.2.2.2.2) : Nat) : Int)) ∧ (((List.length s.2.1) ≤ (List.length s.2.2.1)) ∧ ((inK IntKind.i64 (s.1 - (1 : Int))) ∧ (((List.length s.2.1) ≤ (List.length s.2.2.1)) ∧ ((inK IntKind.i64 (s.1 - (1 : Int))) ∧ (cnd ((((!(endR s (List.getD s.2.2.2.1 (Int.toNat s1.1.1) ((0 : Int), ([] : List (T.den (T.int IntKind.i64)))))).2) || (!(endR s (List.getD s.2.2.2.2 (Int.toNat s1.1.1) ((0 : Int), ([] : List (T.den (T.int IntKind.i64)))))).2)) || ((List.getD s.2.2.2.1 (Int.toNat s1.1.1) ((0 : Int), ([] : List (T.den (T.int IntKind.i64))))).1 != (List.getD s.2.2.2.2 (Int.toNat s1.1.1) ((0 : Int), ([] : List (T.den (T.int IntKind.i64))))).1)) || ((endR s (List.getD s.2.2.2.1 (Int.toNat s1.1.1) ((0 : Int), ([] : List (T.den (T.int IntKind.i64)))))).1 != (endR s (List.getD s.2.2.2.2 (Int.toNat s1.1.1) ((0 : Int), ([] : List (T.den (T.int IntKind.i64)))))).1)) (K (Bool.false, ())) ((inK IntKind.i64 (s1.1.1 + (1 : Int))) ∧ (next (((s1.1.1 + (1 : Int)), ()), ())))))))))))) (K (Bool.true, ())))))) (((0 : Int), ()), ()))))))
theorem w_impl_Schema_isSchema (x : denL c_impl_Schema_isSchema.args) (K : Bool × Unit → Prop) : evF tab (lkp [(57, c_impl_Schema_end), (62, c_impl_inRange), (63, c_impl_within)]) (cutL [(1, 51), (3, 19)]) Try.f49 (bodyOf Try.f49) (.s .n (.s .n (.s .n (.s (.s .n (.l [(85, (.d (.int .i64)))] [] [0, 83, 84] .n)) .n)))) c_impl_Schema_isSchema x K = W_impl_Schema_isSchema x.1 K := by kernel_rfl
theorem k_impl_Schema_isSchema : okC Try.f49.ntmps (cutL [(1, 51), (3, 19)]) (bodyOf Try.f49) = true := by kernel_rfl
theorem m_impl_Schema_isSchema (s : T.den SchemaT) (hok : allP (okL c_impl_Schema_isSchema.args (s, ()))) (hpre : allP (c_impl_Schema_isSchema.pre (s, ()))) : W_impl_Schema_isSchema s (fun r => r = c_impl_Schema_isSchema.res (s, ())) := by
  simp only [c_impl_Schema_isSchema, okL, T.oks, T.ok, ap, allP, true_and, and_true, implies_true] at hok hpre
  try dsimp only [T.den] at hok
  unfold W_impl_Schema_isSchema
  refine ⟨by grind [cnd, nb_eq, inK64, inR], by grind [cnd, nb_eq, inK64, inR], cnd_of (fun hc => ?_) (fun hc => cnd_of (fun hd => ?_) (fun hd => ?_))⟩
  · grind [cnd, nb_eq, inK64, c_impl_Schema_isSchema, isSchemaR]
  · grind [cnd, nb_eq, inK64, c_impl_Schema_isSchema, isSchemaR]
  have he : isSchemaR s = eqnsR s s.2.2.2.1 s.2.2.2.2 := by grind [cnd, nb_eq, inK64, isSchemaR]
  simp only [c_impl_Schema_isSchema, he]
  simp only [inR, Bool.or_eq_false_iff, Bool.not_eq_false', Bool.and_eq_true, decide_eq_true_eq, decide_eq_false_iff_not, bne_eq_false_iff_eq] at hc hd
  refine loop_of (fun (s1 : ((Int × Unit) × Unit)) => 0 ≤ s1.1.1 ∧ s1.1.1 ≤ s.2.2.2.1.length ∧ eqnsR s s.2.2.2.1 s.2.2.2.2 = eqnsR s (s.2.2.2.1.drop s1.1.1.toNat) (s.2.2.2.2.drop s1.1.1.toNat)) (fun (s1 : ((Int × Unit) × Unit)) => (s.2.2.2.1.length - s1.1.1).toNat) ?_ (by simp)
  rintro ⟨⟨i, _⟩, _⟩ next ⟨h0, h1, h2⟩ hn hin
  simp only at h0 h1 h2 hn ⊢
  refine cnd_d (fun hx => ?_) (fun hx => ?_)
  · rw [drop_c s.2.2.2.1 (0, []) h0 hx, drop_c s.2.2.2.2 (0, []) h0 (by omega)] at h2
    simp only [eqnsR, eqnR] at h2
    generalize s.2.2.2.1.getD i.toNat (0, []) = p at *
    generalize s.2.2.2.2.getD i.toNat (0, []) = q at *
    refine ⟨by omega, by omega, by omega, by omega, by omega, by rw [inK64]; omega, by omega, by rw [inK64]; omega, cnd_of (fun hy => ?_) (fun hy => ?_)⟩
    · grind [cnd, nb_eq, inK64]
    · grind [cnd, nb_eq, inK64]
  · rw [drop_n s.2.2.2.1 (by omega)] at h2
    simp [eqnsR, h2]
theorem ct_impl_Schema_isSchema : CtOk Try.prog 49 c_impl_Schema_isSchema :=
  ct_by (Φ := lkp [(57, c_impl_Schema_end), (62, c_impl_inRange), (63, c_impl_within)]) (good_cons ct_impl_Schema_end (good_cons ct_impl_inRange (good_cons ct_impl_within good_nil))) tab_ok (by kernel_rfl) (fn := Try.f49) (c := bodyOf Try.f49) (by kernel_rfl) (by kernel_rfl) (by kernel_rfl) c_impl_Schema_isSchema (.s .n (.s .n (.s .n (.s (.s .n (.l [(85, (.d (.int .i64)))] [] [0, 83, 84] .n)) .n)))) (cutL [(1, 51), (3, 19)]) (by kernel_rfl) (by kernel_rfl) k_impl_Schema_isSchema (by decide) (fun x K => W_impl_Schema_isSchema x.1 K) w_impl_Schema_isSchema (fun x h1 h2 => m_impl_Schema_isSchema x.1 h1 h2)
def c_spec_l01In : Ct := ⟨[(.int .i64), (.int .i64), (.int .i64)], [false, false, false], fun x => [], [(false, (.fz .bool))], fun x => (inR x.1 x.2.1 x.2.2.1, ()), false⟩
def W_spec_l01In (n : Int) (low : Int) (high : Int) (K : Bool × Unit → Prop) : Prop := (K (((decide (low ≤ n)) && (decide (n ≤ high))), ()))
theorem w_spec_l01In (x : denL c_spec_l01In.args) (K : Bool × Unit → Prop) : evF tab (lkp []) (cutL []) Try.f44 (bodyOf Try.f44) .n c_spec_l01In x K = W_spec_l01In x.1 x.2.1 x.2.2.1 K := by kernel_rfl
theorem k_spec_l01In : okC Try.f44.ntmps (cutL []) (bodyOf Try.f44) = true := by kernel_rfl
theorem m_spec_l01In (n : Int) (low : Int) (high : Int) (hok : allP (okL c_spec_l01In.args (n, low, high, ()))) (hpre : allP (c_spec_l01In.pre (n, low, high, ()))) : W_spec_l01In n low high (fun r => r = c_spec_l01In.res (n, low, high, ())) := by
  simp only [c_spec_l01In, okL, T.oks, T.ok, ap, allP, true_and, and_true, implies_true] at hok hpre
  try dsimp only [T.den] at hok
  unfold W_spec_l01In
  grind [cnd, nb_eq, inK64, c_spec_l01In, inR]
theorem ct_spec_l01In : CtOk Try.prog 44 c_spec_l01In :=
  ct_by (Φ := lkp []) good_nil tab_ok (by kernel_rfl) (fn := Try.f44) (c := bodyOf Try.f44) (by kernel_rfl) (by kernel_rfl) (by kernel_rfl) c_spec_l01In .n (cutL []) (by kernel_rfl) (by kernel_rfl) k_spec_l01In (by decide) (fun x K => W_spec_l01In x.1 x.2.1 x.2.2.1 K) w_spec_l01In (fun x h1 h2 => m_spec_l01In x.1 x.2.1 x.2.2.1 h1 h2)
def c_spec_l01Map : Ct := ⟨[(.int .i64), (.sl (.int .i64))], [false, false], fun x => [], [(false, (.fz .bool))], fun x => (withinR x.2.1 x.1, ()), false⟩
def W_spec_l01Map (n : Int) (f : List Int) (K : Bool × Unit → Prop) : Prop := (loopW (S := ((Int × Unit) × Unit)) (fun s => (fun next => ((inK IntKind.i64 s.1.1) → (cnd (decide (s.1.1 < (((List.length f) : Nat) : Int))) (((0 : Int) ≤ s.1.1) ∧ ((s.1.1 < (((List.length f) : Nat) : Int)) ∧ ((((decide ((List.getD f (Int.toNat s.1.1) (0 : Int)) < (0 : Int))) = Bool.false) → ((s.1.1 < (((List.length f) : Nat) : Int)) ∧ ((0 : Int) ≤ s.1.1))) ∧ (cnd ((decide ((List.getD f (Int.toNat s.1.1) (0 : Int)) < (0 : Int))) || (decide (n ≤ (List.getD f (Int.toNat s.1.1) (0 : Int))))) (K (Bool.false, ())) ((inK IntKind.i64 (s.1.1 + (1 : Int))) ∧ (next (((s.1.1 + (1 : Int)), ()), ()))))))) (K (Bool.true, ())))))) (((0 : Int), ()), ()))
theorem w_spec_l01Map (x : denL c_spec_l01Map.args) (K : Bool × Unit → Prop) : evF tab (lkp []) (cutL []) Try.f45 (bodyOf Try.f45) (.s .n (.s (.s .n (.l [(5, (.d (.int .i64)))] [] [0, 1] .n)) .n)) c_spec_l01Map x K = W_spec_l01Map x.1 x.2.1 K := by kernel_rfl
theorem k_spec_l01Map : okC Try.f45.ntmps (cutL []) (bodyOf Try.f45) = true := by kernel_rfl
theorem m_spec_l01Map (n : Int) (f : List Int) (hok : allP (okL c_spec_l01Map.args (n, f, ()))) (hpre : allP (c_spec_l01Map.pre (n, f, ()))) : W_spec_l01Map n f (fun r => r = c_spec_l01Map.res (n, f, ())) := by
  simp only [c_spec_l01Map, okL, T.oks, T.ok, ap, allP, true_and, and_true, implies_true] at hok hpre
  try dsimp only [T.den] at hok
  unfold W_spec_l01Map
  refine loop_of (fun (s : ((Int × Unit) × Unit)) => 0 ≤ s.1.1 ∧ s.1.1 ≤ f.length ∧ withinR f n = withinR (f.drop s.1.1.toNat) n) (fun (s : ((Int × Unit) × Unit)) => (f.length - s.1.1).toNat) ?_ (by simp)
  rintro ⟨⟨i, _⟩, _⟩ next ⟨h0, h1, h2⟩ hn hin
  simp only at h0 h1 h2 hn ⊢
  refine cnd_d (fun hc => ?_) (fun hc => ?_)
  · rw [drop_c f 0 h0 hc] at h2
    simp only [withinR, List.all_cons] at h2
    grind [cnd, nb_eq, inK64, c_spec_l01Map, withinR, inR]
  · rw [drop_n f (by omega)] at h2
    grind [cnd, nb_eq, inK64, c_spec_l01Map, withinR]
theorem ct_spec_l01Map : CtOk Try.prog 45 c_spec_l01Map :=
  ct_by (Φ := lkp []) good_nil tab_ok (by kernel_rfl) (fn := Try.f45) (c := bodyOf Try.f45) (by kernel_rfl) (by kernel_rfl) (by kernel_rfl) c_spec_l01Map (.s .n (.s (.s .n (.l [(5, (.d (.int .i64)))] [] [0, 1] .n)) .n)) (cutL []) (by kernel_rfl) (by kernel_rfl) k_spec_l01Map (by decide) (fun x K => W_spec_l01Map x.1 x.2.1 K) w_spec_l01Map (fun x h1 h2 => m_spec_l01Map x.1 x.2.1 h1 h2)
def lastR (s : SchemaT.den) (p : PathT.den) : Int := if p.2.length = 0 then p.1 else s.2.2.1.getD (p.2.getD (p.2.length - 1) 0).toNat 0

def c_spec_l36End : Ct := ⟨[SchemaT, PathT], [true, true], fun x => [withinR x.2.1.2 x.1.2.2.1.length = true], [(false, (.fz (.int .i64)))], fun x => (lastR x.1 x.2.1, ()), false⟩
def W_spec_l36End (s : T.den SchemaT) (p : T.den PathT) (K : Int × Unit → Prop) : Prop := (cnd ((((List.length p.2) : Nat) : Int) == (0 : Int)) (K (p.1, ())) ((inK IntKind.i64 ((((List.length p.2) : Nat) : Int) - (1 : Int))) ∧ (((0 : Int) ≤ ((((List.length p.2) : Nat) : Int) - (1 : Int))) ∧ ((((((List.length p.2) : Nat) : Int) - (1 : Int)) < (((List.length p.2) : Nat) : Int)) ∧ (((0 : Int) ≤ (List.getD p.2 (Int.toNat ((((List.length p.2) : Nat) : Int) - (1 : Int))) (0 : Int))) ∧ (((List.getD p.2 (Int.toNat ((((List.length p.2) : Nat) : Int) - (1 : Int))) (0 : Int)) < (((List.length s.2.2.1) : Nat) : Int)) ∧ (K ((List.getD s.2.2.1 (Int.toNat (List.getD p.2 (Int.toNat ((((List.length p.2) : Nat) : Int) - (1 : Int))) (0 : Int))) (0 : Int)), ()))))))))
theorem w_spec_l36End (x : denL c_spec_l36End.args) (K : Int × Unit → Prop) : evF tab (lkp []) (cutL [(3, 13)]) Try.f47 (bodyOf Try.f47) .n c_spec_l36End x K = W_spec_l36End x.1 x.2.1 K := by kernel_rfl
theorem k_spec_l36End : okC Try.f47.ntmps (cutL [(3, 13)]) (bodyOf Try.f47) = true := by kernel_rfl
theorem m_spec_l36End (s : T.den SchemaT) (p : T.den PathT) (hok : allP (okL c_spec_l36End.args (s, p, ()))) (hpre : allP (c_spec_l36End.pre (s, p, ()))) : W_spec_l36End s p (fun r => r = c_spec_l36End.res (s, p, ())) := by
  simp only [c_spec_l36End, okL, T.oks, T.ok, ap, allP, true_and, and_true, implies_true] at hok hpre
  try dsimp only [T.den] at hok
  unfold W_spec_l36End
  simp only [c_spec_l36End, lastR]
  refine cnd_of (fun hc => ?_) (fun hc => ?_)
  · grind [cnd, nb_eq, inK64]
  · simp at hc
    have hl : 0 < p.2.length := by grind [cnd, nb_eq, inK64]
    have hi : ((p.2.length : Int) - 1).toNat = p.2.length - 1 := by omega
    have hm : p.2.getD (p.2.length - 1) 0 ∈ p.2 := by rw [← hi]; exact getD_mem p.2 0 (by omega) (by omega)
    have := List.all_eq_true.1 hpre _ hm
    rw [hi]
    grind [cnd, nb_eq, inK64, inR]
theorem ct_spec_l36End : CtOk Try.prog 47 c_spec_l36End :=
  ct_by (Φ := lkp []) good_nil tab_ok (by kernel_rfl) (fn := Try.f47) (c := bodyOf Try.f47) (by kernel_rfl) (by kernel_rfl) (by kernel_rfl) c_spec_l36End .n (cutL [(3, 13)]) (by kernel_rfl) (by kernel_rfl) k_spec_l36End (by decide) (fun x K => W_spec_l36End x.1 x.2.1 K) w_spec_l36End (fun x h1 h2 => m_spec_l36End x.1 x.2.1 h1 h2)
def c_spec_l36Path : Ct := ⟨[SchemaT, PathT], [true, true], fun x => [x.1.2.1.length ≤ x.1.2.2.1.length, inK .i64 (x.1.1 - 1)], [(false, (.fz .bool))], fun x => ((endR x.1 x.2.1).2, ()), false⟩
def W_spec_l36Path (s : T.den SchemaT) (p : T.den PathT) (K : Bool × Unit → Prop) : Prop := ((inK IntKind.i64 (s.1 - (1 : Int))) ∧ (cnd (((!(inR p.1 (0 : Int) (s.1 - (1 : Int)))) || (decide ((6 : Int) < (((List.length p.2) : Nat) : Int)))) || (!(withinR p.2 (((List.length s.2.1) : Nat) : Int)))) (K (Bool.false, ())) (loopW (S := ((Int × (Int × Unit)) × Unit)) (fun s1 => (fun next => ((inK IntKind.i64 s1.1.1) → ((inK IntKind.i64 s1.1.2.1) → (cnd (decide (s1.1.2.1 < (((List.length p.2) : Nat) : Int))) (((0 : Int) ≤ s1.1.2.1) ∧ ((s1.1.2.1 < (((List.length p.2) : Nat) : Int)) ∧ (((0 : Int) ≤ (List.getD p.2 (Int.toNat s1.1.2.1) (0 : Int))) ∧ (((List.getD p.2 (Int.toNat s1.1.2.1) (0 : Int)) < (((List.length s.2.1) : Nat) : Int)) ∧ (cnd ((List.getD s.2.1 (Int.toNat (List.getD p.2 (Int.toNat s1.1.2.1) (0 : Int))) (0 : Int)) != s1.1.1) (K (Bool.false, ())) (((0 : Int) ≤ s1.1.2.1) ∧ ((s1.1.2.1 < (((List.length p.2) : Nat) : Int)) ∧ (((0 : Int) ≤ (List.getD p.2 (Int.toNat s1.1.2.1) (0 : Int))) ∧ (((List.getD p.2 (Int.toNat s1.1.2.1) (0 : Int)) < (((List.length s.2.2.1) : Nat) : Int)) ∧ ((inK IntKind.i64 (s1.1.2.1 + (1 : Int))) ∧ (next (((List.getD s.2.2.1 (Int.toNat (List.getD p.2 (Int.toNat s1.1.2.1) (0 : Int))) (0 : Int)), ((s1.1.2.1 + (1 : Int)), ())), ())))))))))))) (K (Bool.true, ()))))))) ((p.1, ((0 : Int), ())), ()))))
theorem w_spec_l36Path (x : denL c_spec_l36Path.args) (K : Bool × Unit → Prop) : evF tab (lkp [(44, c_spec_l01In), (45, c_spec_l01Map)]) (cutL [(7, 11), (9, 10)]) Try.f46 (bodyOf Try.f46) (.s .n (.s .n (.s .n (.s (.s .n (.l [(5, (.d (.int .i64))), (6, (.d (.int .i64)))] [] [2, 3] .n)) .n)))) c_spec_l36Path x K = W_spec_l36Path x.1 x.2.1 K := by kernel_rfl
theorem k_spec_l36Path : okC Try.f46.ntmps (cutL [(7, 11), (9, 10)]) (bodyOf Try.f46) = true := by kernel_rfl
theorem m_spec_l36Path (s : T.den SchemaT) (p : T.den PathT) (hok : allP (okL c_spec_l36Path.args (s, p, ()))) (hpre : allP (c_spec_l36Path.pre (s, p, ()))) : W_spec_l36Path s p (fun r => r = c_spec_l36Path.res (s, p, ())) := by
  simp only [c_spec_l36Path, okL, T.oks, T.ok, ap, allP, true_and, and_true, implies_true] at hok hpre
  try dsimp only [T.den] at hok
  unfold W_spec_l36Path
  simp only [c_spec_l36Path, endR]
  have key : ∀ (nd : Int) (l : List Int), (followR s nd l).2 = true → withinR l s.2.1.length = true := by
    intro nd l
    induction l generalizing nd with
    | nil => intro _; rfl
    | cons e l ih =>
      simp only [followR]
      split
      · rename_i h; intro hf; simp only [withinR, List.all_cons]; have := ih _ hf; simp only [withinR] at this; rw [this, h.1]; rfl
      · intro h; cases h
  refine ⟨hpre.2, cnd_of (fun hc => ?_) (fun hc => ?_)⟩
  · have := key p.1 p.2
    grind [cnd, nb_eq, inK64]
  · simp only [inR, Bool.or_eq_false_iff, Bool.not_eq_false', Bool.and_eq_true, decide_eq_true_eq, decide_eq_false_iff_not] at hc
    rw [if_pos ⟨by simp [inR, hc.1.1], by omega⟩]
    refine loop_of (fun (s1 : ((Int × (Int × Unit)) × Unit)) => 0 ≤ s1.1.2.1 ∧ s1.1.2.1 ≤ p.2.length ∧ followR s p.1 p.2 = followR s s1.1.1 (p.2.drop s1.1.2.1.toNat)) (fun (s1 : ((Int × (Int × Unit)) × Unit)) => (p.2.length - s1.1.2.1).toNat) ?_ (by simp)
    rintro ⟨⟨nd, i, _⟩, _⟩ next ⟨h0, h1, h2⟩ hn ha hin
    simp only at h0 h1 h2 hn ⊢
    refine cnd_d (fun hx => ?_) (fun hx => ?_)
    · have hm := List.all_eq_true.1 hc.2 _ (getD_mem p.2 0 h0 hx)
      rw [drop_c p.2 0 h0 hx] at h2
      simp only [followR, hm, true_and] at h2
      generalize p.2.getD i.toNat 0 = e at *
      simp only [inR, Bool.and_eq_true, decide_eq_true_eq] at hm
      grind [cnd, nb_eq, inK64]
    · rw [drop_n p.2 (by omega)] at h2
      simp [followR, h2]
theorem ct_spec_l36Path : CtOk Try.prog 46 c_spec_l36Path :=
  ct_by (Φ := lkp [(44, c_spec_l01In), (45, c_spec_l01Map)]) (good_cons ct_spec_l01In (good_cons ct_spec_l01Map good_nil)) tab_ok (by kernel_rfl) (fn := Try.f46) (c := bodyOf Try.f46) (by kernel_rfl) (by kernel_rfl) (by kernel_rfl) c_spec_l36Path (.s .n (.s .n (.s .n (.s (.s .n (.l [(5, (.d (.int .i64))), (6, (.d (.int .i64)))] [] [2, 3] .n)) .n)))) (cutL [(7, 11), (9, 10)]) (by kernel_rfl) (by kernel_rfl) k_spec_l36Path (by decide) (fun x K => W_spec_l36Path x.1 x.2.1 K) w_spec_l36Path (fun x h1 h2 => m_spec_l36Path x.1 x.2.1 h1 h2)
theorem follow_last (s : SchemaT.den) : ∀ (nd : Int) (l : List Int), (followR s nd l).2 = true → (followR s nd l).1 = if l.length = 0 then nd else s.2.2.1.getD (l.getD (l.length - 1) 0).toNat 0
  | nd, [], _ => rfl
  | nd, e :: r, h => by
    simp only [followR] at h ⊢
    split at h
    · rename_i hc
      rw [if_pos hc]
      rw [follow_last s _ r h]
      cases r with
      | nil => simp
      | cons e' r' => simp
    · cases h
theorem follow_within (s : SchemaT.den) : ∀ (nd : Int) (l : List Int), (followR s nd l).2 = true → withinR l s.2.1.length = true
  | nd, [], _ => rfl
  | nd, e :: r, h => by
    simp only [followR] at h
    split at h
    · rename_i hc
      have := follow_within s _ r h
      simp only [withinR, List.all_cons] at this ⊢
      rw [this, hc.1]; rfl
    · cases h
theorem end_last {s : SchemaT.den} {p : PathT.den} (h : (endR s p).2 = true) : lastR s p = (endR s p).1 ∧ withinR p.2 s.2.1.length = true := by
  unfold endR at h ⊢
  split at h
  · rename_i hc
    rw [if_pos hc]
    exact ⟨(follow_last s _ _ h).symm, follow_within s _ _ h⟩
  · cases h

def c_spec_IsSchema : Ct := ⟨[SchemaT], [true], fun x => [], [(false, (.fz .bool))], fun x => (isSchemaR x.1, ()), false⟩
def W_spec_IsSchema (s : T.den SchemaT) (K : Bool × Unit → Prop) : Prop := (cnd (((((((!(inR s.1 (0 : Int) (8 : Int))) || (decide ((8 : Int) < (((List.length s.2.1) : Nat) : Int)))) || ((((List.length s.2.2.1) : Nat) : Int) != (((List.length s.2.1) : Nat) : Int))) || (!(withinR s.2.1 s.1))) || (!(withinR s.2.2.1 s.1))) || (decide ((8 : Int) < (((List.length s.2.2.2.1) : Nat) : Int)))) || ((((List.length s.2.2.2.2) : Nat) : Int) != (((List.length s.2.2.2.1) : Nat) : Int))) (K (Bool.false, ())) (loopW (S := ((Int × Unit) × Unit)) (fun s1 => (fun next => ((inK IntKind.i64 s1.1.1) → (cnd (decide (s1.1.1 < (((List.length s.2.2.2.1) : Nat) : Int))) (((0 : Int) ≤ s1.1.1) ∧ ((s1.1.1 < (((List.length s.2.2.2.1) : Nat) : Int)) ∧ (((0 : Int) ≤ s1.1.1) ∧ ((s1.1.1 < (((List.length s.2.2.2.2) : Nat) : Int)) ∧ (((List.length s.2.1) ≤ (List.length s.2.2.1)) ∧ ((inK IntKind.i64 (s.1 - (1 : Int))) ∧ ((((!(endR s (List.getD s.2.2.2.1 (Int.toNat s1.1.1) ((0 : Int), ([] : List (T.den (T.int IntKind.i64)))))).2) = Bool.false) → ((inK IntKind.i64 (s.1 - (1 : Int))) ∧ ((List.length s.2.1) ≤ (List.length s.2.2.1)))) ∧ ((((((!(endR s (List.getD s.2.2.2.1 (Int.toNat s1.1.1) ((0 : Int), ([] : List (T.den (T.int IntKind.i64)))))).2) || (!(endR s (List.getD s.2.2.2.2 (Int.toNat s1.1.1) ((0 : Int), ([] : List (T.den (T.int IntKind.i64)))))).2)) || ((List.getD s.2.2.2.1 (Int.toNat s1.1.1) ((0 : Int), ([] : List (T.den (T.int IntKind.i64))))).1 != (List.getD s.2.2.2.2 (Int.toNat s1.1.1) ((0 : Int), ([] : List (T.den (T.int IntKind.i64))))).1)) = Bool.false) → ((withinR (List.getD s.2.2.2.1 (Int.toNat s1.1.1) ((0 : Int), ([] : List (T.den (T.int IntKind.i64))))).2 (((List.length s.2.2.1) : Nat) : Int)) = Bool.true)) ∧ ((((((!(endR s (List.getD s.2.2.2.1 (Int.toNat s1.1.1) ((0 : Int), ([] : List (T.den (T.int IntKind.i64)))))).2) || (!(endR s (List.getD s.2.2.2.2 (Int.toNat s1.1.1) ((0 : Int), ([] : List (T.den (T.int IntKind.i64)))))).2)) || ((List.getD s.2.2.2.1 (Int.toNat s1.1.1) ((0 : Int), ([] : List (T.den (T.int IntKind.i64))))).1 != (List.getD s.2.2.2.2 (Int.toNat s1.1.1) ((0 : Int), ([] : List (T.den (T.int IntKind.i64))))).1)) = Bool.false) → ((withinR (List.getD s.2.2.2.2 (Int.toNat s1.1.1) ((0 : Int), ([] : List (T.den (T.int IntKind.i64))))).2 (((List.length s.2.2.1) : Nat) : Int)) = Bool.true)) ∧ (cnd ((((!(endR s (List.getD s.2.2.2.1 (Int.toNat s1.1.1) ((0 : Int), ([] : List (T.den (T.int IntKind.i64)))))).2) || (!(endR s (List.getD s.2.2.2.2 (Int.toNat s1.1.1) ((0 : Int), ([] : List (T.den (T.int IntKind.i64)))))).2)) || ((List.getD s.2.2.2.1 (Int.toNat s1.1.1) ((0 : Int), ([] : List (T.den (T.int IntKind.i64))))).1 != (List.getD s.2.2.2.2 (Int.toNat s1.1.1) ((0 : Int), ([] : List (T.den (T.int IntKind.i64))))).1)) || ((lastR s (List.getD s.2.2.2.1 (Int.toNat s1.1.1) ((0 : Int), ([] : List (T.den (T.int IntKind.i64)))))) != (lastR s (List.getD s.2.2.2.2 (Int.toNat s1.1.1) ((0 : Int), ([] : List (T.den (T.int IntKind.i64)))))))) (K (Bool.false, ())) ((inK IntKind.i64 (s1.1.1 + (1 : Int))) ∧ (next (((s1.1.1 + (1 : Int)), ()), ()))))))))))))) (K (Bool.true, ())))))) (((0 : Int), ()), ())))
theorem w_spec_IsSchema (x : denL c_spec_IsSchema.args) (K : Bool × Unit → Prop) : evF tab (lkp [(44, c_spec_l01In), (45, c_spec_l01Map), (47, c_spec_l36End), (46, c_spec_l36Path)]) (cutL [(6, 999999), (7, 26)]) Try.f18 (bodyOf Try.f18) (.s .n (.s .n (.s (.s .n (.l [(3, (.d (.int .i64)))] [] [1] .n)) .n))) c_spec_IsSchema x K = W_spec_IsSchema x.1 K := by kernel_rfl
theorem k_spec_IsSchema : okC Try.f18.ntmps (cutL [(6, 999999), (7, 26)]) (bodyOf Try.f18) = true := by kernel_rfl
theorem m_spec_IsSchema (s : T.den SchemaT) (hok : allP (okL c_spec_IsSchema.args (s, ()))) (hpre : allP (c_spec_IsSchema.pre (s, ()))) : W_spec_IsSchema s (fun r => r = c_spec_IsSchema.res (s, ())) := by
  simp only [c_spec_IsSchema, okL, T.oks, T.ok, ap, allP, true_and, and_true, implies_true] at hok hpre
  try dsimp only [T.den] at hok
  unfold W_spec_IsSchema
  refine cnd_of (fun hc => ?_) (fun hc => ?_)
  · grind [cnd, nb_eq, inK64, c_spec_IsSchema, isSchemaR]
  have he : isSchemaR s = eqnsR s s.2.2.2.1 s.2.2.2.2 := by grind [cnd, nb_eq, inK64, isSchemaR]
  simp only [c_spec_IsSchema, he]
  simp only [inR, Bool.or_eq_false_iff, Bool.not_eq_false', Bool.and_eq_true, decide_eq_true_eq, decide_eq_false_iff_not, bne_eq_false_iff_eq] at hc
  refine loop_of (fun (s1 : ((Int × Unit) × Unit)) => 0 ≤ s1.1.1 ∧ s1.1.1 ≤ s.2.2.2.1.length ∧ eqnsR s s.2.2.2.1 s.2.2.2.2 = eqnsR s (s.2.2.2.1.drop s1.1.1.toNat) (s.2.2.2.2.drop s1.1.1.toNat)) (fun (s1 : ((Int × Unit) × Unit)) => (s.2.2.2.1.length - s1.1.1).toNat) ?_ (by simp)
  rintro ⟨⟨i, _⟩, _⟩ next ⟨h0, h1, h2⟩ hn hin
  simp only at h0 h1 h2 hn ⊢
  refine cnd_d (fun hx => ?_) (fun hx => ?_)
  · rw [drop_c s.2.2.2.1 (0, []) h0 hx, drop_c s.2.2.2.2 (0, []) h0 (by omega)] at h2
    simp only [eqnsR, eqnR] at h2
    generalize s.2.2.2.1.getD i.toNat (0, []) = p at *
    generalize s.2.2.2.2.getD i.toNat (0, []) = q at *
    have ep := @end_last s p
    have eq := @end_last s q
    have hl : s.2.2.1.length = s.2.1.length := by omega
    rw [hl]
    refine ⟨by omega, by omega, by omega, by omega, by omega, by rw [inK64]; omega, fun _ => ⟨by rw [inK64]; omega, by omega⟩, fun hy => ?_, fun hy => ?_, cnd_of (fun hy => ?_) (fun hy => ?_)⟩
    · grind [cnd, nb_eq, inK64]
    · grind [cnd, nb_eq, inK64]
    · grind [cnd, nb_eq, inK64]
    · grind [cnd, nb_eq, inK64]
  · rw [drop_n s.2.2.2.1 (by omega)] at h2
    simp [eqnsR, h2]
theorem ct_spec_IsSchema : CtOk Try.prog 18 c_spec_IsSchema :=
  ct_by (Φ := lkp [(44, c_spec_l01In), (45, c_spec_l01Map), (47, c_spec_l36End), (46, c_spec_l36Path)]) (good_cons ct_spec_l01In (good_cons ct_spec_l01Map (good_cons ct_spec_l36End (good_cons ct_spec_l36Path good_nil)))) tab_ok (by kernel_rfl) (fn := Try.f18) (c := bodyOf Try.f18) (by kernel_rfl) (by kernel_rfl) (by kernel_rfl) c_spec_IsSchema (.s .n (.s .n (.s (.s .n (.l [(3, (.d (.int .i64)))] [] [1] .n)) .n))) (cutL [(6, 999999), (7, 26)]) (by kernel_rfl) (by kernel_rfl) k_spec_IsSchema (by decide) (fun x K => W_spec_IsSchema x.1 K) w_spec_IsSchema (fun x h1 h2 => m_spec_IsSchema x.1 h1 h2)
def isPathR (s : SchemaT.den) (p : PathT.den) : Bool := isSchemaR s && (endR s p).2
theorem schema_pre {s : SchemaT.den} (h : isSchemaR s = true) : 0 ≤ s.1 ∧ s.1 ≤ 8 ∧ s.2.2.1.length = s.2.1.length := by
  simp only [isSchemaR, inR, Bool.and_eq_true, decide_eq_true_eq] at h
  exact ⟨h.1.1.1.1.1.1.1.1, h.1.1.1.1.1.1.1.2, h.1.1.1.1.1.2⟩

def c_impl_Schema_isPath : Ct := ⟨[(.pt SchemaT), PathT], [false, true], fun x => [], [(false, (.fz .bool))], fun x => (isPathR x.1 x.2.1, ()), false⟩
def W_impl_Schema_isPath (s : T.den SchemaT) (p : T.den PathT) (K : Bool × Unit → Prop) : Prop := (cnd (!(isSchemaR s)) (K (Bool.false, ())) (((List.length s.2.1) ≤ (List.length s.2.2.1)) ∧ ((inK IntKind.i64 (s.1 - (1 : Int))) ∧ (K ((endR s p).2, ())))))
theorem w_impl_Schema_isPath (x : denL c_impl_Schema_isPath.args) (K : Bool × Unit → Prop) : evF tab (lkp [(57, c_impl_Schema_end), (49, c_impl_Schema_isSchema)]) (cutL []) Try.f51 (bodyOf Try.f51) .n c_impl_Schema_isPath x K = W_impl_Schema_isPath x.1 x.2.1 K := by kernel_rfl
theorem k_impl_Schema_isPath : okC Try.f51.ntmps (cutL []) (bodyOf Try.f51) = true := by kernel_rfl
theorem m_impl_Schema_isPath (s : T.den SchemaT) (p : T.den PathT) (hok : allP (okL c_impl_Schema_isPath.args (s, p, ()))) (hpre : allP (c_impl_Schema_isPath.pre (s, p, ()))) : W_impl_Schema_isPath s p (fun r => r = c_impl_Schema_isPath.res (s, p, ())) := by
  simp only [c_impl_Schema_isPath, okL, T.oks, T.ok, ap, allP, true_and, and_true, implies_true] at hok hpre
  try dsimp only [T.den] at hok
  unfold W_impl_Schema_isPath
  have := @schema_pre s
  grind [cnd, nb_eq, inK64, c_impl_Schema_isPath, isPathR]
theorem ct_impl_Schema_isPath : CtOk Try.prog 51 c_impl_Schema_isPath :=
  ct_by (Φ := lkp [(57, c_impl_Schema_end), (49, c_impl_Schema_isSchema)]) (good_cons ct_impl_Schema_end (good_cons ct_impl_Schema_isSchema good_nil)) tab_ok (by kernel_rfl) (fn := Try.f51) (c := bodyOf Try.f51) (by kernel_rfl) (by kernel_rfl) (by kernel_rfl) c_impl_Schema_isPath .n (cutL []) (by kernel_rfl) (by kernel_rfl) k_impl_Schema_isPath (by decide) (fun x K => W_impl_Schema_isPath x.1 x.2.1 K) w_impl_Schema_isPath (fun x h1 h2 => m_impl_Schema_isPath x.1 x.2.1 h1 h2)
def pathEndR (s : SchemaT.den) (p : PathT.den) : Int × Int := if isPathR s p = true then ((endR s p).1, 0) else (0, 1)

def c_impl_PathEnd : Ct := ⟨[SchemaT, PathT], [true, true], fun x => [], [(false, (.fz (.int .i64))), (false, (.fz (.int .i64)))], fun x => ((pathEndR x.1 x.2.1).1, (pathEndR x.1 x.2.1).2, ()), false⟩
def W_impl_PathEnd (s : T.den SchemaT) (p : T.den PathT) (K : Int × Int × Unit → Prop) : Prop := (cnd (!(isPathR s p)) (K ((0 : Int), ((1 : Int), ()))) (((List.length s.2.1) ≤ (List.length s.2.2.1)) ∧ ((inK IntKind.i64 (s.1 - (1 : Int))) ∧ (K ((endR s p).1, ((0 : Int), ()))))))
theorem w_impl_PathEnd (x : denL c_impl_PathEnd.args) (K : Int × Int × Unit → Prop) : evF tab (lkp [(57, c_impl_Schema_end), (51, c_impl_Schema_isPath)]) (cutL []) Try.f35 (bodyOf Try.f35) .n c_impl_PathEnd x K = W_impl_PathEnd x.1 x.2.1 K := by kernel_rfl
theorem k_impl_PathEnd : okC Try.f35.ntmps (cutL []) (bodyOf Try.f35) = true := by kernel_rfl
theorem m_impl_PathEnd (s : T.den SchemaT) (p : T.den PathT) (hok : allP (okL c_impl_PathEnd.args (s, p, ()))) (hpre : allP (c_impl_PathEnd.pre (s, p, ()))) : W_impl_PathEnd s p (fun r => r = c_impl_PathEnd.res (s, p, ())) := by
  simp only [c_impl_PathEnd, okL, T.oks, T.ok, ap, allP, true_and, and_true, implies_true] at hok hpre
  try dsimp only [T.den] at hok
  unfold W_impl_PathEnd
  have := @schema_pre s
  grind [cnd, nb_eq, inK64, c_impl_PathEnd, isPathR, pathEndR]
theorem ct_impl_PathEnd : CtOk Try.prog 35 c_impl_PathEnd :=
  ct_by (Φ := lkp [(57, c_impl_Schema_end), (51, c_impl_Schema_isPath)]) (good_cons ct_impl_Schema_end (good_cons ct_impl_Schema_isPath good_nil)) tab_ok (by kernel_rfl) (fn := Try.f35) (c := bodyOf Try.f35) (by kernel_rfl) (by kernel_rfl) (by kernel_rfl) c_impl_PathEnd .n (cutL []) (by kernel_rfl) (by kernel_rfl) k_impl_PathEnd (by decide) (fun x K => W_impl_PathEnd x.1 x.2.1 K) w_impl_PathEnd (fun x h1 h2 => m_impl_PathEnd x.1 x.2.1 h1 h2)
def c_laws_eqInt64S : Ct := ⟨[(.sl (.int .i64)), (.sl (.int .i64))], [false, false], fun x => [], [(false, (.fz .bool))], fun x => (eqR (.sl (.int .i64)) x.1 x.2.1, ()), false⟩
def W_laws_eqInt64S (a : List Int) (b : List Int) (K : Bool × Unit → Prop) : Prop := (cnd ((((List.length a) : Nat) : Int) != (((List.length b) : Nat) : Int)) (K (Bool.false, ())) (loopW (S := ((Int × Unit) × Unit)) (fun s => (fun next => ((inK IntKind.i64 s.1.1) → (cnd (decide (s.1.1 < (((List.length a) : Nat) : Int))) (((0 : Int) ≤ s.1.1) ∧ ((s.1.1 < (((List.length a) : Nat) : Int)) ∧ (((0 : Int) ≤ s.1.1) ∧ ((s.1.1 < (((List.length b) : Nat) : Int)) ∧ (cnd ((List.getD a (Int.toNat s.1.1) (0 : Int)) != (List.getD b (Int.toNat s.1.1) (0 : Int))) (K (Bool.false, ())) ((inK IntKind.i64 (s.1.1 + (1 : Int))) ∧ (next (((s.1.1 + (1 : Int)), ()), ())))))))) (K (Bool.true, ())))))) (((0 : Int), ()), ())))
theorem w_laws_eqInt64S (x : denL c_laws_eqInt64S.args) (K : Bool × Unit → Prop) : evF tab (lkp []) (cutL [(6, 9)]) Try.f12 (bodyOf Try.f12) (.s .n (.s .n (.s (.s .n (.l [(5, (.d (.int .i64)))] [] [0, 1] .n)) .n))) c_laws_eqInt64S x K = W_laws_eqInt64S x.1 x.2.1 K := by kernel_rfl
theorem k_laws_eqInt64S : okC Try.f12.ntmps (cutL [(6, 9)]) (bodyOf Try.f12) = true := by kernel_rfl
theorem m_laws_eqInt64S (a : List Int) (b : List Int) (hok : allP (okL c_laws_eqInt64S.args (a, b, ()))) (hpre : allP (c_laws_eqInt64S.pre (a, b, ()))) : W_laws_eqInt64S a b (fun r => r = c_laws_eqInt64S.res (a, b, ())) := by
  simp only [c_laws_eqInt64S, okL, T.oks, T.ok, ap, allP, true_and, and_true, implies_true] at hok hpre
  try dsimp only [T.den] at hok
  unfold W_laws_eqInt64S
  refine cnd_of (fun hc => ?_) (fun hc => ?_)
  · simp only [c_laws_eqInt64S, Prod.mk.injEq, and_true]; rw [eqR_f]; rintro rfl; simp at hc
  have hl : a.length = b.length := by simp at hc; omega
  refine loop_of (fun (s : ((Int × Unit) × Unit)) => 0 ≤ s.1.1 ∧ s.1.1 ≤ a.length ∧ a.take s.1.1.toNat = b.take s.1.1.toNat) (fun (s : ((Int × Unit) × Unit)) => (a.length - s.1.1).toNat) ?_ (by simp)
  rintro ⟨⟨i, _⟩, _⟩ next ⟨h0, h1, h2⟩ hn hin
  simp only at h0 h1 h2 hn ⊢
  refine cnd_d (fun hc => ?_) (fun hc => ?_)
  · have ha := take_c a (0 : Int) h0 hc
    have hb := take_c b (0 : Int) h0 (by omega)
    refine ⟨by omega, by omega, by omega, by omega, cnd_of (fun hd => ?_) (fun hd => ?_)⟩
    · simp only [c_laws_eqInt64S, Prod.mk.injEq, and_true]; rw [eqR_f]; rintro rfl; simp at hd
    · refine ⟨by grind [cnd, nb_eq, inK64], hn _ ⟨(by first | omega | (dsimp only; omega)), (by first | omega | (dsimp only; omega)), ?_⟩ (by first | omega | (dsimp only; omega))⟩
      simp only [Bool.not_eq_false', eqR_iff, bne_eq_false_iff_eq] at hd
      simp only [ha, hb, h2, hd]
  · rw [take_n a (by omega), take_n b (by omega)] at h2
    simp [h2, c_laws_eqInt64S]
theorem ct_laws_eqInt64S : CtOk Try.prog 12 c_laws_eqInt64S :=
  ct_by (Φ := lkp []) good_nil tab_ok (by kernel_rfl) (fn := Try.f12) (c := bodyOf Try.f12) (by kernel_rfl) (by kernel_rfl) (by kernel_rfl) c_laws_eqInt64S (.s .n (.s .n (.s (.s .n (.l [(5, (.d (.int .i64)))] [] [0, 1] .n)) .n))) (cutL [(6, 9)]) (by kernel_rfl) (by kernel_rfl) k_laws_eqInt64S (by decide) (fun x K => W_laws_eqInt64S x.1 x.2.1 K) w_laws_eqInt64S (fun x h1 h2 => m_laws_eqInt64S x.1 x.2.1 h1 h2)
def c_laws_eqPath : Ct := ⟨[PathT, PathT], [true, true], fun x => [], [(false, (.fz .bool))], fun x => (eqR PathT x.1 x.2.1, ()), false⟩
def W_laws_eqPath (a : T.den PathT) (b : T.den PathT) (K : Bool × Unit → Prop) : Prop := (cnd (a.1 != b.1) (K (Bool.false, ())) (cnd (!(eqR (T.sl (T.int IntKind.i64)) a.2 b.2)) (K (Bool.false, ())) (K (Bool.true, ()))))
theorem w_laws_eqPath (x : denL c_laws_eqPath.args) (K : Bool × Unit → Prop) : evF tab (lkp [(12, c_laws_eqInt64S)]) (cutL []) Try.f26 (bodyOf Try.f26) .n c_laws_eqPath x K = W_laws_eqPath x.1 x.2.1 K := by kernel_rfl
theorem k_laws_eqPath : okC Try.f26.ntmps (cutL []) (bodyOf Try.f26) = true := by kernel_rfl
theorem m_laws_eqPath (a : T.den PathT) (b : T.den PathT) (hok : allP (okL c_laws_eqPath.args (a, b, ()))) (hpre : allP (c_laws_eqPath.pre (a, b, ()))) : W_laws_eqPath a b (fun r => r = c_laws_eqPath.res (a, b, ())) := by
  simp only [c_laws_eqPath, okL, T.oks, T.ok, ap, allP, true_and, and_true, implies_true] at hok hpre
  try dsimp only [T.den] at hok
  unfold W_laws_eqPath
  simp only [c_laws_eqPath, eqR_p, eqR_int, eqR_bool]
  grind [cnd, nb_eq, inK64]
theorem ct_laws_eqPath : CtOk Try.prog 26 c_laws_eqPath :=
  ct_by (Φ := lkp [(12, c_laws_eqInt64S)]) (good_cons ct_laws_eqInt64S good_nil) tab_ok (by kernel_rfl) (fn := Try.f26) (c := bodyOf Try.f26) (by kernel_rfl) (by kernel_rfl) (by kernel_rfl) c_laws_eqPath .n (cutL []) (by kernel_rfl) (by kernel_rfl) k_laws_eqPath (by decide) (fun x K => W_laws_eqPath x.1 x.2.1 K) w_laws_eqPath (fun x h1 h2 => m_laws_eqPath x.1 x.2.1 h1 h2)
def c_laws_eqPathS : Ct := ⟨[(.sl PathT), (.sl PathT)], [false, false], fun x => [], [(false, (.fz .bool))], fun x => (eqR (.sl PathT) x.1 x.2.1, ()), false⟩
def W_laws_eqPathS (a : List (T.den PathT)) (b : List (T.den PathT)) (K : Bool × Unit → Prop) : Prop := (cnd ((((List.length a) : Nat) : Int) != (((List.length b) : Nat) : Int)) (K (Bool.false, ())) (loopW (S := ((Int × Unit) × Unit)) (fun s => (fun next => ((inK IntKind.i64 s.1.1) → (cnd (decide (s.1.1 < (((List.length a) : Nat) : Int))) (((0 : Int) ≤ s.1.1) ∧ ((s.1.1 < (((List.length a) : Nat) : Int)) ∧ (((0 : Int) ≤ s.1.1) ∧ ((s.1.1 < (((List.length b) : Nat) : Int)) ∧ (cnd (!(eqR PathT (List.getD a (Int.toNat s.1.1) ((0 : Int), ([] : List (T.den (T.int IntKind.i64))))) (List.getD b (Int.toNat s.1.1) ((0 : Int), ([] : List (T.den (T.int IntKind.i64))))))) (K (Bool.false, ())) ((inK IntKind.i64 (s.1.1 + (1 : Int))) ∧ (next (((s.1.1 + (1 : Int)), ()), ())))))))) (K (Bool.true, ())))))) (((0 : Int), ()), ())))
theorem w_laws_eqPathS (x : denL c_laws_eqPathS.args) (K : Bool × Unit → Prop) : evF tab (lkp [(26, c_laws_eqPath)]) (cutL [(6, 10)]) Try.f50 (bodyOf Try.f50) (.s .n (.s .n (.s (.s .n (.l [(5, (.d (.int .i64)))] [] [0, 1] .n)) .n))) c_laws_eqPathS x K = W_laws_eqPathS x.1 x.2.1 K := by kernel_rfl
theorem k_laws_eqPathS : okC Try.f50.ntmps (cutL [(6, 10)]) (bodyOf Try.f50) = true := by kernel_rfl
theorem m_laws_eqPathS (a : List (T.den PathT)) (b : List (T.den PathT)) (hok : allP (okL c_laws_eqPathS.args (a, b, ()))) (hpre : allP (c_laws_eqPathS.pre (a, b, ()))) : W_laws_eqPathS a b (fun r => r = c_laws_eqPathS.res (a, b, ())) := by
  simp only [c_laws_eqPathS, okL, T.oks, T.ok, ap, allP, true_and, and_true, implies_true] at hok hpre
  try dsimp only [T.den] at hok
  unfold W_laws_eqPathS
  refine cnd_of (fun hc => ?_) (fun hc => ?_)
  · simp only [c_laws_eqPathS, Prod.mk.injEq, and_true]; rw [eqR_f]; rintro rfl; simp at hc
  have hl : a.length = b.length := by simp at hc; omega
  refine loop_of (fun (s : ((Int × Unit) × Unit)) => 0 ≤ s.1.1 ∧ s.1.1 ≤ a.length ∧ a.take s.1.1.toNat = b.take s.1.1.toNat) (fun (s : ((Int × Unit) × Unit)) => (a.length - s.1.1).toNat) ?_ (by simp)
  rintro ⟨⟨i, _⟩, _⟩ next ⟨h0, h1, h2⟩ hn hin
  simp only at h0 h1 h2 hn ⊢
  refine cnd_d (fun hc => ?_) (fun hc => ?_)
  · have ha := take_c a ((0 : Int), ([] : List (T.den (T.int IntKind.i64)))) h0 hc
    have hb := take_c b ((0 : Int), ([] : List (T.den (T.int IntKind.i64)))) h0 (by omega)
    refine ⟨by omega, by omega, by omega, by omega, cnd_of (fun hd => ?_) (fun hd => ?_)⟩
    · simp only [c_laws_eqPathS, Prod.mk.injEq, and_true]; rw [eqR_f]; rintro rfl; simp at hd
    · refine ⟨by grind [cnd, nb_eq, inK64], hn _ ⟨(by first | omega | (dsimp only; omega)), (by first | omega | (dsimp only; omega)), ?_⟩ (by first | omega | (dsimp only; omega))⟩
      simp only [Bool.not_eq_false', eqR_iff, bne_eq_false_iff_eq] at hd
      simp only [ha, hb, h2, hd]
  · rw [take_n a (by omega), take_n b (by omega)] at h2
    simp [h2, c_laws_eqPathS]
theorem ct_laws_eqPathS : CtOk Try.prog 50 c_laws_eqPathS :=
  ct_by (Φ := lkp [(26, c_laws_eqPath)]) (good_cons ct_laws_eqPath good_nil) tab_ok (by kernel_rfl) (fn := Try.f50) (c := bodyOf Try.f50) (by kernel_rfl) (by kernel_rfl) (by kernel_rfl) c_laws_eqPathS (.s .n (.s .n (.s (.s .n (.l [(5, (.d (.int .i64)))] [] [0, 1] .n)) .n))) (cutL [(6, 10)]) (by kernel_rfl) (by kernel_rfl) k_laws_eqPathS (by decide) (fun x K => W_laws_eqPathS x.1 x.2.1 K) w_laws_eqPathS (fun x h1 h2 => m_laws_eqPathS x.1 x.2.1 h1 h2)
def c_laws_eqSchema : Ct := ⟨[SchemaT, SchemaT], [true, true], fun x => [], [(false, (.fz .bool))], fun x => (eqR SchemaT x.1 x.2.1, ()), false⟩
def W_laws_eqSchema (a : T.den SchemaT) (b : T.den SchemaT) (K : Bool × Unit → Prop) : Prop := (cnd (a.1 != b.1) (K (Bool.false, ())) (cnd (!(eqR (T.sl (T.int IntKind.i64)) a.2.1 b.2.1)) (K (Bool.false, ())) (cnd (!(eqR (T.sl (T.int IntKind.i64)) a.2.2.1 b.2.2.1)) (K (Bool.false, ())) (cnd (!(eqR (T.sl PathT) a.2.2.2.1 b.2.2.2.1)) (K (Bool.false, ())) (cnd (!(eqR (T.sl PathT) a.2.2.2.2 b.2.2.2.2)) (K (Bool.false, ())) (K (Bool.true, ())))))))
theorem w_laws_eqSchema (x : denL c_laws_eqSchema.args) (K : Bool × Unit → Prop) : evF tab (lkp [(12, c_laws_eqInt64S), (50, c_laws_eqPathS)]) (cutL []) Try.f21 (bodyOf Try.f21) .n c_laws_eqSchema x K = W_laws_eqSchema x.1 x.2.1 K := by kernel_rfl
theorem k_laws_eqSchema : okC Try.f21.ntmps (cutL []) (bodyOf Try.f21) = true := by kernel_rfl
theorem m_laws_eqSchema (a : T.den SchemaT) (b : T.den SchemaT) (hok : allP (okL c_laws_eqSchema.args (a, b, ()))) (hpre : allP (c_laws_eqSchema.pre (a, b, ()))) : W_laws_eqSchema a b (fun r => r = c_laws_eqSchema.res (a, b, ())) := by
  simp only [c_laws_eqSchema, okL, T.oks, T.ok, ap, allP, true_and, and_true, implies_true] at hok hpre
  try dsimp only [T.den] at hok
  unfold W_laws_eqSchema
  simp only [c_laws_eqSchema, eqR_p, eqR_int, eqR_bool]
  grind [cnd, nb_eq, inK64]
theorem ct_laws_eqSchema : CtOk Try.prog 21 c_laws_eqSchema :=
  ct_by (Φ := lkp [(12, c_laws_eqInt64S), (50, c_laws_eqPathS)]) (good_cons ct_laws_eqInt64S (good_cons ct_laws_eqPathS good_nil)) tab_ok (by kernel_rfl) (fn := Try.f21) (c := bodyOf Try.f21) (by kernel_rfl) (by kernel_rfl) (by kernel_rfl) c_laws_eqSchema .n (cutL []) (by kernel_rfl) (by kernel_rfl) k_laws_eqSchema (by decide) (fun x K => W_laws_eqSchema x.1 x.2.1 K) w_laws_eqSchema (fun x h1 h2 => m_laws_eqSchema x.1 x.2.1 h1 h2)
def c_laws_szInt64S : Ct := ⟨[(.sl (.int .i64)), (.int .i64)], [false, false], fun x => [-4611545280939032576 ≤ x.2.1], [(false, (.fz (.int .i64)))], fun x => (szR (wR (.sl (.int .i64)) x.1) x.2.1, ()), false⟩
def W_laws_szInt64S (a : List Int) (left : Int) (K : Int × Unit → Prop) : Prop := ((inK IntKind.i64 (left - (((List.length a) : Nat) : Int))) ∧ (cnd (decide ((left - (((List.length a) : Nat) : Int)) < (0 : Int))) (K ((-(1 : Int)), ())) (K ((left - (((List.length a) : Nat) : Int)), ()))))
theorem w_laws_szInt64S (x : denL c_laws_szInt64S.args) (K : Int × Unit → Prop) : evF tab (lkp []) (cutL []) Try.f42 (bodyOf Try.f42) .n c_laws_szInt64S x K = W_laws_szInt64S x.1 x.2.1 K := by kernel_rfl
theorem k_laws_szInt64S : okC Try.f42.ntmps (cutL []) (bodyOf Try.f42) = true := by kernel_rfl
theorem m_laws_szInt64S (a : List Int) (left : Int) (hok : allP (okL c_laws_szInt64S.args (a, left, ()))) (hpre : allP (c_laws_szInt64S.pre (a, left, ()))) : W_laws_szInt64S a left (fun r => r = c_laws_szInt64S.res (a, left, ())) := by
  simp only [c_laws_szInt64S, okL, T.oks, T.ok, ap, allP, true_and, and_true, implies_true] at hok hpre
  try dsimp only [T.den] at hok
  unfold W_laws_szInt64S
  simp only [c_laws_szInt64S, wR_ints]
  grind [cnd, nb_eq, inK64, szR]
theorem ct_laws_szInt64S : CtOk Try.prog 42 c_laws_szInt64S :=
  ct_by (Φ := lkp []) good_nil tab_ok (by kernel_rfl) (fn := Try.f42) (c := bodyOf Try.f42) (by kernel_rfl) (by kernel_rfl) (by kernel_rfl) c_laws_szInt64S .n (cutL []) (by kernel_rfl) (by kernel_rfl) k_laws_szInt64S (by decide) (fun x K => W_laws_szInt64S x.1 x.2.1 K) w_laws_szInt64S (fun x h1 h2 => m_laws_szInt64S x.1 x.2.1 h1 h2)
def c_laws_szPath : Ct := ⟨[PathT, (.int .i64)], [true, false], fun x => [-4611545280939032576 ≤ x.2.1], [(false, (.fz (.int .i64)))], fun x => (szR (wR PathT x.1) x.2.1, ()), false⟩
def W_laws_szPath (a : T.den PathT) (left : Int) (K : Int × Unit → Prop) : Prop := (((-(4611545280939032576 : Int)) ≤ left) ∧ (cnd (decide ((szR (wR (T.sl (T.int IntKind.i64)) a.2) left) < (0 : Int))) (K ((-(1 : Int)), ())) (K ((szR (wR (T.sl (T.int IntKind.i64)) a.2) left), ()))))
theorem w_laws_szPath (x : denL c_laws_szPath.args) (K : Int × Unit → Prop) : evF tab (lkp [(42, c_laws_szInt64S)]) (cutL []) Try.f22 (bodyOf Try.f22) .n c_laws_szPath x K = W_laws_szPath x.1 x.2.1 K := by kernel_rfl
theorem k_laws_szPath : okC Try.f22.ntmps (cutL []) (bodyOf Try.f22) = true := by kernel_rfl
theorem m_laws_szPath (a : T.den PathT) (left : Int) (hok : allP (okL c_laws_szPath.args (a, left, ()))) (hpre : allP (c_laws_szPath.pre (a, left, ()))) : W_laws_szPath a left (fun r => r = c_laws_szPath.res (a, left, ())) := by
  simp only [c_laws_szPath, okL, T.oks, T.ok, ap, allP, true_and, and_true, implies_true] at hok hpre
  try dsimp only [T.den] at hok
  unfold W_laws_szPath
  simp only [c_laws_szPath, wR_p, wR_int, wR_bool, Nat.zero_add, Nat.add_zero]
  grind [cnd, nb_eq, inK64, szR]
theorem ct_laws_szPath : CtOk Try.prog 22 c_laws_szPath :=
  ct_by (Φ := lkp [(42, c_laws_szInt64S)]) (good_cons ct_laws_szInt64S good_nil) tab_ok (by kernel_rfl) (fn := Try.f22) (c := bodyOf Try.f22) (by kernel_rfl) (by kernel_rfl) (by kernel_rfl) c_laws_szPath .n (cutL []) (by kernel_rfl) (by kernel_rfl) k_laws_szPath (by decide) (fun x K => W_laws_szPath x.1 x.2.1 K) w_laws_szPath (fun x h1 h2 => m_laws_szPath x.1 x.2.1 h1 h2)
def c_laws_szPathS : Ct := ⟨[(.sl PathT), (.int .i64)], [false, false], fun x => [-4611404543450677248 ≤ x.2.1], [(false, (.fz (.int .i64)))], fun x => (szR (wR (.sl PathT) x.1) x.2.1, ()), false⟩
def W_laws_szPathS (a : List (T.den PathT)) (left : Int) (K : Int × Unit → Prop) : Prop := ((inK IntKind.i64 (left - (((List.length a) : Nat) : Int))) ∧ (cnd (decide ((left - (((List.length a) : Nat) : Int)) < (0 : Int))) (K ((-(1 : Int)), ())) (loopW (S := ((Int × (Int × Unit)) × Unit)) (fun s => (fun next => ((inK IntKind.i64 s.1.1) → ((inK IntKind.i64 s.1.2.1) → (cnd (decide (s.1.2.1 < (((List.length a) : Nat) : Int))) (((0 : Int) ≤ s.1.2.1) ∧ ((s.1.2.1 < (((List.length a) : Nat) : Int)) ∧ (((-(4611545280939032576 : Int)) ≤ s.1.1) ∧ (cnd (decide ((szR (wR PathT (List.getD a (Int.toNat s.1.2.1) ((0 : Int), ([] : List (T.den (T.int IntKind.i64)))))) s.1.1) < (0 : Int))) (K ((-(1 : Int)), ())) ((inK IntKind.i64 (s.1.2.1 + (1 : Int))) ∧ (next (((szR (wR PathT (List.getD a (Int.toNat s.1.2.1) ((0 : Int), ([] : List (T.den (T.int IntKind.i64)))))) s.1.1), ((s.1.2.1 + (1 : Int)), ())), ()))))))) (K (s.1.1, ()))))))) (((left - (((List.length a) : Nat) : Int)), ((0 : Int), ())), ()))))
theorem w_laws_szPathS (x : denL c_laws_szPathS.args) (K : Int × Unit → Prop) : evF tab (lkp [(22, c_laws_szPath)]) (cutL []) Try.f43 (bodyOf Try.f43) (.s .n (.s .n (.s .n (.s (.s .n (.l [(1, (.d (.int .i64))), (5, (.d (.int .i64)))] [] [0] .n)) .n)))) c_laws_szPathS x K = W_laws_szPathS x.1 x.2.1 K := by kernel_rfl
theorem k_laws_szPathS : okC Try.f43.ntmps (cutL []) (bodyOf Try.f43) = true := by kernel_rfl
theorem m_laws_szPathS (a : List (T.den PathT)) (left : Int) (hok : allP (okL c_laws_szPathS.args (a, left, ()))) (hpre : allP (c_laws_szPathS.pre (a, left, ()))) : W_laws_szPathS a left (fun r => r = c_laws_szPathS.res (a, left, ())) := by
  simp only [c_laws_szPathS, okL, T.oks, T.ok, ap, allP, true_and, and_true, implies_true] at hok hpre
  try dsimp only [T.den] at hok
  unfold W_laws_szPathS
  have hr := szR_ge (x := a.length) (r := (a.map (wR PathT)).sum) (l := left)
  refine ⟨by grind [cnd, nb_eq, inK64], cnd_d (fun hc => ?_) (fun hc => ?_)⟩
  · simp only [c_laws_szPathS]; rw [wR_sl, szR_lt (x := a.length) (by omega)]
  replace hr := hr (by omega)
  rw [szR_val (x := a.length) (by omega)] at hr
  refine loop_of (fun (s : ((Int × (Int × Unit)) × Unit)) => 0 ≤ s.1.1 ∧ 0 ≤ s.1.2.1 ∧ s.1.2.1 ≤ a.length ∧ szR (wR (.sl PathT) a) left = szR ((a.drop s.1.2.1.toNat).map (wR PathT)).sum s.1.1) (fun (s : ((Int × (Int × Unit)) × Unit)) => (a.length - s.1.2.1).toNat) ?_ ⟨(by first | omega | (dsimp only; omega)), by simp, by simp, by rw [wR_sl]; simpa using hr⟩
  rintro ⟨⟨l, i, _⟩, _⟩ next ⟨h0, h1, h2, h3⟩ hn hin hl
  simp only at h0 h1 h2 h3 hn ⊢
  refine cnd_d (fun hc => ?_) (fun hc => ?_)
  · rw [drop_c a ((0 : Int), ([] : List (T.den (T.int IntKind.i64)))) h1 hc, List.map_cons, List.sum_cons] at h3
    refine ⟨by omega, by omega, by omega, cnd_d (fun hd => ?_) (fun hd => ?_)⟩
    · rw [szR_neg] at hd
      rw [szR_lt hd] at h3
      simp only [c_laws_szPathS]; rw [h3]
    · rw [szR_neg] at hd
      rw [szR_ge hd] at h3
      exact ⟨by grind [cnd, nb_eq, inK64], hn _ ⟨by simp only; rw [szR_val hd]; omega, (by first | omega | (dsimp only; omega)), (by first | omega | (dsimp only; omega)), h3⟩ (by first | omega | (dsimp only; omega))⟩
  · rw [drop_n a (by omega)] at h3
    simp only [List.map_nil, List.sum_nil] at h3
    rw [szR_zero h0] at h3
    simp only [c_laws_szPathS]; rw [h3]
theorem ct_laws_szPathS : CtOk Try.prog 43 c_laws_szPathS :=
  ct_by (Φ := lkp [(22, c_laws_szPath)]) (good_cons ct_laws_szPath good_nil) tab_ok (by kernel_rfl) (fn := Try.f43) (c := bodyOf Try.f43) (by kernel_rfl) (by kernel_rfl) (by kernel_rfl) c_laws_szPathS (.s .n (.s .n (.s .n (.s (.s .n (.l [(1, (.d (.int .i64))), (5, (.d (.int .i64)))] [] [0] .n)) .n)))) (cutL []) (by kernel_rfl) (by kernel_rfl) k_laws_szPathS (by decide) (fun x K => W_laws_szPathS x.1 x.2.1 K) w_laws_szPathS (fun x h1 h2 => m_laws_szPathS x.1 x.2.1 h1 h2)
def c_laws_szSchema : Ct := ⟨[SchemaT, (.int .i64)], [true, false], fun x => [-4611404543450677248 ≤ x.2.1], [(false, (.fz (.int .i64)))], fun x => (szR (wR SchemaT x.1) x.2.1, ()), false⟩
def W_laws_szSchema (a : T.den SchemaT) (left : Int) (K : Int × Unit → Prop) : Prop := (((-(4611545280939032576 : Int)) ≤ left) ∧ (cnd (decide ((szR (wR (T.sl (T.int IntKind.i64)) a.2.1) left) < (0 : Int))) (K ((-(1 : Int)), ())) (((-(4611545280939032576 : Int)) ≤ (szR (wR (T.sl (T.int IntKind.i64)) a.2.1) left)) ∧ (cnd (decide ((szR (wR (T.sl (T.int IntKind.i64)) a.2.2.1) (szR (wR (T.sl (T.int IntKind.i64)) a.2.1) left)) < (0 : Int))) (K ((-(1 : Int)), ())) (((-(4611404543450677248 : Int)) ≤ (szR (wR (T.sl (T.int IntKind.i64)) a.2.2.1) (szR (wR (T.sl (T.int IntKind.i64)) a.2.1) left))) ∧ (cnd (decide ((szR (wR (T.sl PathT) a.2.2.2.1) (szR (wR (T.sl (T.int IntKind.i64)) a.2.2.1) (szR (wR (T.sl (T.int IntKind.i64)) a.2.1) left))) < (0 : Int))) (K ((-(1 : Int)), ())) (((-(4611404543450677248 : Int)) ≤ (szR (wR (T.sl PathT) a.2.2.2.1) (szR (wR (T.sl (T.int IntKind.i64)) a.2.2.1) (szR (wR (T.sl (T.int IntKind.i64)) a.2.1) left)))) ∧ (cnd (decide ((szR (wR (T.sl PathT) a.2.2.2.2) (szR (wR (T.sl PathT) a.2.2.2.1) (szR (wR (T.sl (T.int IntKind.i64)) a.2.2.1) (szR (wR (T.sl (T.int IntKind.i64)) a.2.1) left)))) < (0 : Int))) (K ((-(1 : Int)), ())) (K ((szR (wR (T.sl PathT) a.2.2.2.2) (szR (wR (T.sl PathT) a.2.2.2.1) (szR (wR (T.sl (T.int IntKind.i64)) a.2.2.1) (szR (wR (T.sl (T.int IntKind.i64)) a.2.1) left)))), ()))))))))))
theorem w_laws_szSchema (x : denL c_laws_szSchema.args) (K : Int × Unit → Prop) : evF tab (lkp [(42, c_laws_szInt64S), (43, c_laws_szPathS)]) (cutL []) Try.f17 (bodyOf Try.f17) .n c_laws_szSchema x K = W_laws_szSchema x.1 x.2.1 K := by kernel_rfl
theorem k_laws_szSchema : okC Try.f17.ntmps (cutL []) (bodyOf Try.f17) = true := by kernel_rfl
theorem m_laws_szSchema (a : T.den SchemaT) (left : Int) (hok : allP (okL c_laws_szSchema.args (a, left, ()))) (hpre : allP (c_laws_szSchema.pre (a, left, ()))) : W_laws_szSchema a left (fun r => r = c_laws_szSchema.res (a, left, ())) := by
  simp only [c_laws_szSchema, okL, T.oks, T.ok, ap, allP, true_and, and_true, implies_true] at hok hpre
  try dsimp only [T.den] at hok
  unfold W_laws_szSchema
  simp only [c_laws_szSchema, wR_p, wR_int, wR_bool, Nat.zero_add, Nat.add_zero]
  grind [cnd, nb_eq, inK64, szR]
theorem ct_laws_szSchema : CtOk Try.prog 17 c_laws_szSchema :=
  ct_by (Φ := lkp [(42, c_laws_szInt64S), (43, c_laws_szPathS)]) (good_cons ct_laws_szInt64S (good_cons ct_laws_szPathS good_nil)) tab_ok (by kernel_rfl) (fn := Try.f17) (c := bodyOf Try.f17) (by kernel_rfl) (by kernel_rfl) (by kernel_rfl) c_laws_szSchema .n (cutL []) (by kernel_rfl) (by kernel_rfl) k_laws_szSchema (by decide) (fun x K => W_laws_szSchema x.1 x.2.1 K) w_laws_szSchema (fun x h1 h2 => m_laws_szSchema x.1 x.2.1 h1 h2)
def c_laws_toInt64S : Ct := ⟨[(.sl (.int .i64))], [false], fun x => [wR (.sl (.int .i64)) x.1 ≤ 1099511627776], [(false, (.sl (.fz (.int .i64))))], fun x => (x.1, ()), false⟩
def W_laws_toInt64S (a : List Int) (K : (List Int) × Unit → Prop) : Prop := (((0 : Int) ≤ (((List.length a) : Nat) : Int)) ∧ (((((List.length a) : Nat) : Int) ≤ (((List.length a) : Nat) : Int)) ∧ (((((List.length a) : Nat) : Int) ≤ ((nb : Nat) : Int)) ∧ ((((((List.length a) : Nat) : Int) * ((8 : Nat) : Int)) ≤ ((nb : Nat) : Int)) ∧ (loopW (S := ((Unit × (Int × Unit)) × ((List Int) × Unit))) (fun s => (fun next => ((inK IntKind.i64 s.1.2.1) → ((T.ok (T.sl (T.int IntKind.i64)) s.2.1) → (cnd (decide (s.1.2.1 < (((List.length a) : Nat) : Int))) (((0 : Int) ≤ s.1.2.1) ∧ ((s.1.2.1 < (((List.length a) : Nat) : Int)) ∧ (((0 : Int) ≤ s.1.2.1) ∧ ((s.1.2.1 < (((List.length s.2.1) : Nat) : Int)) ∧ ((inK IntKind.i64 (s.1.2.1 + (1 : Int))) ∧ (next (((), ((s.1.2.1 + (1 : Int)), ())), ((List.set s.2.1 (Int.toNat s.1.2.1) (List.getD a (Int.toNat s.1.2.1) (0 : Int))), ())))))))) (K (s.2.1, ()))))))) (((), ((0 : Int), ())), ((List.replicate (Int.toNat (((List.length a) : Nat) : Int)) (0 : Int)), ())))))))
theorem w_laws_toInt64S (x : denL c_laws_toInt64S.args) (K : (List Int) × Unit → Prop) : evF tab (lkp []) (cutL []) Try.f10 (bodyOf Try.f10) (.s .n (.s .n (.s (.s .n (.l [(3, (.ref 7 [])), (4, (.d (.int .i64)))] [(7, (.sl (.fz (.int .i64))))] [0] .n)) .n))) c_laws_toInt64S x K = W_laws_toInt64S x.1 K := by kernel_rfl
theorem k_laws_toInt64S : okC Try.f10.ntmps (cutL []) (bodyOf Try.f10) = true := by kernel_rfl
theorem m_laws_toInt64S (a : List Int) (hok : allP (okL c_laws_toInt64S.args (a, ()))) (hpre : allP (c_laws_toInt64S.pre (a, ()))) : W_laws_toInt64S a (fun r => r = c_laws_toInt64S.res (a, ())) := by
  simp only [c_laws_toInt64S, okL, T.oks, T.ok, ap, allP, true_and, and_true, implies_true] at hok hpre
  try dsimp only [T.den] at hok
  unfold W_laws_toInt64S
  rw [wR_sl] at hpre
  refine ⟨by omega, by omega, by rw [nb_eq]; omega, by rw [nb_eq]; omega, ?_⟩
  refine loop_of (fun (s : ((Unit × (Int × Unit)) × ((List Int) × Unit))) => 0 ≤ s.1.2.1 ∧ s.1.2.1 ≤ a.length ∧ s.2.1.length = a.length ∧ s.2.1.take s.1.2.1.toNat = a.take s.1.2.1.toNat) (fun (s : ((Unit × (Int × Unit)) × ((List Int) × Unit))) => (a.length - s.1.2.1).toNat) ?_ (by simp)
  rintro ⟨⟨_, i, _⟩, l, _⟩ next ⟨h0, h1, h2, h3⟩ hn hin hl
  simp only at h0 h1 h2 h3 hn ⊢
  refine cnd_d (fun hc => ?_) (fun hc => ?_)
  · refine ⟨by omega, by omega, by omega, by omega, by grind [cnd, nb_eq, inK64], hn _ ⟨(by first | omega | (dsimp only; omega)), (by first | omega | (dsimp only; omega)), by simp [h2], ?_⟩ (by first | omega | (dsimp only; omega))⟩
    simp only
    rw [take_c a (0 : Int) h0 hc, ← h3]
    exact take_set l h0 (by omega) _
  · rw [take_n a (by omega), take_n l (by omega)] at h3
    simp [h3, c_laws_toInt64S]
theorem ct_laws_toInt64S : CtOk Try.prog 10 c_laws_toInt64S :=
  ct_by (Φ := lkp []) good_nil tab_ok (by kernel_rfl) (fn := Try.f10) (c := bodyOf Try.f10) (by kernel_rfl) (by kernel_rfl) (by kernel_rfl) c_laws_toInt64S (.s .n (.s .n (.s (.s .n (.l [(3, (.ref 7 [])), (4, (.d (.int .i64)))] [(7, (.sl (.fz (.int .i64))))] [0] .n)) .n))) (cutL []) (by kernel_rfl) (by kernel_rfl) k_laws_toInt64S (by decide) (fun x K => W_laws_toInt64S x.1 K) w_laws_toInt64S (fun x h1 h2 => m_laws_toInt64S x.1 h1 h2)
def c_laws_toPath : Ct := ⟨[PathT], [true], fun x => [wR PathT x.1 ≤ 1099511627776], [(true, PathO)], fun x => (x.1, ()), false⟩
def W_laws_toPath (a : T.den PathT) (K : (T.den PathT) × Unit → Prop) : Prop := (((wR (T.sl (T.int IntKind.i64)) a.2) ≤ 1099511627776) ∧ (K (a, ())))
theorem w_laws_toPath (x : denL c_laws_toPath.args) (K : (T.den PathT) × Unit → Prop) : evF tab (lkp [(10, c_laws_toInt64S)]) (cutL []) Try.f24 (bodyOf Try.f24) .n c_laws_toPath x K = W_laws_toPath x.1 K := by kernel_rfl
theorem k_laws_toPath : okC Try.f24.ntmps (cutL []) (bodyOf Try.f24) = true := by kernel_rfl
theorem m_laws_toPath (a : T.den PathT) (hok : allP (okL c_laws_toPath.args (a, ()))) (hpre : allP (c_laws_toPath.pre (a, ()))) : W_laws_toPath a (fun r => r = c_laws_toPath.res (a, ())) := by
  simp only [c_laws_toPath, okL, T.oks, T.ok, ap, allP, true_and, and_true, implies_true] at hok hpre
  try dsimp only [T.den] at hok
  unfold W_laws_toPath
  simp only [wR_p, wR_int, wR_bool] at hpre
  repeat' apply And.intro
  all_goals first | rfl | ((try simp only [wR_p, wR_int, wR_bool]); omega)
theorem ct_laws_toPath : CtOk Try.prog 24 c_laws_toPath :=
  ct_by (Φ := lkp [(10, c_laws_toInt64S)]) (good_cons ct_laws_toInt64S good_nil) tab_ok (by kernel_rfl) (fn := Try.f24) (c := bodyOf Try.f24) (by kernel_rfl) (by kernel_rfl) (by kernel_rfl) c_laws_toPath .n (cutL []) (by kernel_rfl) (by kernel_rfl) k_laws_toPath (by decide) (fun x K => W_laws_toPath x.1 K) w_laws_toPath (fun x h1 h2 => m_laws_toPath x.1 h1 h2)
def c_laws_toPathS : Ct := ⟨[(.sl PathT)], [false], fun x => [wR (.sl PathT) x.1 ≤ 1099511627776], [(false, (.sl PathO))], fun x => (x.1, ()), false⟩
def W_laws_toPathS (a : List (T.den PathT)) (K : (List (T.den PathT)) × Unit → Prop) : Prop := (((0 : Int) ≤ (((List.length a) : Nat) : Int)) ∧ (((((List.length a) : Nat) : Int) ≤ (((List.length a) : Nat) : Int)) ∧ (((((List.length a) : Nat) : Int) ≤ ((nb : Nat) : Int)) ∧ ((((((List.length a) : Nat) : Int) * ((32 : Nat) : Int)) ≤ ((nb : Nat) : Int)) ∧ (loopW (S := ((Unit × (Int × Unit)) × ((List (Int × (List Int))) × Unit))) (fun s => (fun next => ((inK IntKind.i64 s.1.2.1) → ((T.ok (T.sl PathT) s.2.1) → (cnd (decide (s.1.2.1 < (((List.length a) : Nat) : Int))) (((0 : Int) ≤ s.1.2.1) ∧ ((s.1.2.1 < (((List.length a) : Nat) : Int)) ∧ (((wR PathT (List.getD a (Int.toNat s.1.2.1) ((0 : Int), ([] : List (T.den (T.int IntKind.i64)))))) ≤ 1099511627776) ∧ (((0 : Int) ≤ s.1.2.1) ∧ ((s.1.2.1 < (((List.length s.2.1) : Nat) : Int)) ∧ ((inK IntKind.i64 (s.1.2.1 + (1 : Int))) ∧ (next (((), ((s.1.2.1 + (1 : Int)), ())), ((List.set s.2.1 (Int.toNat s.1.2.1) (List.getD a (Int.toNat s.1.2.1) ((0 : Int), ([] : List (T.den (T.int IntKind.i64)))))), ()))))))))) (K (s.2.1, ()))))))) (((), ((0 : Int), ())), ((List.replicate (Int.toNat (((List.length a) : Nat) : Int)) ((0 : Int), ([] : List (T.den (O.strip (T.deep (T.int IntKind.i64))))))), ())))))))
theorem w_laws_toPathS (x : denL c_laws_toPathS.args) (K : (List (T.den PathT)) × Unit → Prop) : evF tab (lkp [(24, c_laws_toPath)]) (cutL []) Try.f48 (bodyOf Try.f48) (.s .n (.s .n (.s (.s .n (.l [(3, (.ref 7 [])), (4, (.d (.int .i64)))] [(7, (.sl (.p (.fz (.int .i64)) (.sl (.fz (.int .i64))))))] [0] .n)) .n))) c_laws_toPathS x K = W_laws_toPathS x.1 K := by kernel_rfl
theorem k_laws_toPathS : okC Try.f48.ntmps (cutL []) (bodyOf Try.f48) = true := by kernel_rfl
theorem m_laws_toPathS (a : List (T.den PathT)) (hok : allP (okL c_laws_toPathS.args (a, ()))) (hpre : allP (c_laws_toPathS.pre (a, ()))) : W_laws_toPathS a (fun r => r = c_laws_toPathS.res (a, ())) := by
  simp only [c_laws_toPathS, okL, T.oks, T.ok, ap, allP, true_and, and_true, implies_true] at hok hpre
  try dsimp only [T.den] at hok
  unfold W_laws_toPathS
  rw [wR_sl] at hpre
  refine ⟨by omega, by omega, by rw [nb_eq]; omega, by rw [nb_eq]; omega, ?_⟩
  refine loop_of (fun (s : ((Unit × (Int × Unit)) × ((List (Int × (List Int))) × Unit))) => 0 ≤ s.1.2.1 ∧ s.1.2.1 ≤ a.length ∧ s.2.1.length = a.length ∧ s.2.1.take s.1.2.1.toNat = a.take s.1.2.1.toNat) (fun (s : ((Unit × (Int × Unit)) × ((List (Int × (List Int))) × Unit))) => (a.length - s.1.2.1).toNat) ?_ (by simp)
  rintro ⟨⟨_, i, _⟩, l, _⟩ next ⟨h0, h1, h2, h3⟩ hn hin hl
  simp only at h0 h1 h2 h3 hn ⊢
  refine cnd_d (fun hc => ?_) (fun hc => ?_)
  · have hm := wR_mem (e := PathT) (getD_mem a ((0 : Int), ([] : List (T.den (T.int IntKind.i64)))) h0 hc)
    refine ⟨by omega, by omega, by omega, by omega, by omega, by grind [cnd, nb_eq, inK64], hn _ ⟨(by first | omega | (dsimp only; omega)), (by first | omega | (dsimp only; omega)), by simp [h2], ?_⟩ (by first | omega | (dsimp only; omega))⟩
    simp only
    rw [take_c a ((0 : Int), ([] : List (T.den (T.int IntKind.i64)))) h0 hc, ← h3]
    exact take_set l h0 (by omega) _
  · rw [take_n a (by omega), take_n l (by omega)] at h3
    simp [h3, c_laws_toPathS]
theorem ct_laws_toPathS : CtOk Try.prog 48 c_laws_toPathS :=
  ct_by (Φ := lkp [(24, c_laws_toPath)]) (good_cons ct_laws_toPath good_nil) tab_ok (by kernel_rfl) (fn := Try.f48) (c := bodyOf Try.f48) (by kernel_rfl) (by kernel_rfl) (by kernel_rfl) c_laws_toPathS (.s .n (.s .n (.s (.s .n (.l [(3, (.ref 7 [])), (4, (.d (.int .i64)))] [(7, (.sl (.p (.fz (.int .i64)) (.sl (.fz (.int .i64))))))] [0] .n)) .n))) (cutL []) (by kernel_rfl) (by kernel_rfl) k_laws_toPathS (by decide) (fun x K => W_laws_toPathS x.1 K) w_laws_toPathS (fun x h1 h2 => m_laws_toPathS x.1 h1 h2)
def c_laws_toSchema : Ct := ⟨[SchemaT], [true], fun x => [wR SchemaT x.1 ≤ 1099511627776], [(true, SchemaO)], fun x => (x.1, ()), false⟩
def W_laws_toSchema (a : T.den SchemaT) (K : (T.den SchemaT) × Unit → Prop) : Prop := (((wR (T.sl (T.int IntKind.i64)) a.2.1) ≤ 1099511627776) ∧ (((wR (T.sl (T.int IntKind.i64)) a.2.2.1) ≤ 1099511627776) ∧ (((wR (T.sl PathT) a.2.2.2.1) ≤ 1099511627776) ∧ (((wR (T.sl PathT) a.2.2.2.2) ≤ 1099511627776) ∧ (K (a, ()))))))
theorem w_laws_toSchema (x : denL c_laws_toSchema.args) (K : (T.den SchemaT) × Unit → Prop) : evF tab (lkp [(10, c_laws_toInt64S), (48, c_laws_toPathS)]) (cutL []) Try.f19 (bodyOf Try.f19) .n c_laws_toSchema x K = W_laws_toSchema x.1 K := by kernel_rfl
theorem k_laws_toSchema : okC Try.f19.ntmps (cutL []) (bodyOf Try.f19) = true := by kernel_rfl
theorem m_laws_toSchema (a : T.den SchemaT) (hok : allP (okL c_laws_toSchema.args (a, ()))) (hpre : allP (c_laws_toSchema.pre (a, ()))) : W_laws_toSchema a (fun r => r = c_laws_toSchema.res (a, ())) := by
  simp only [c_laws_toSchema, okL, T.oks, T.ok, ap, allP, true_and, and_true, implies_true] at hok hpre
  try dsimp only [T.den] at hok
  unfold W_laws_toSchema
  simp only [wR_p, wR_int, wR_bool] at hpre
  repeat' apply And.intro
  all_goals first | rfl | ((try simp only [wR_p, wR_int, wR_bool]); omega)
theorem ct_laws_toSchema : CtOk Try.prog 19 c_laws_toSchema :=
  ct_by (Φ := lkp [(10, c_laws_toInt64S), (48, c_laws_toPathS)]) (good_cons ct_laws_toInt64S (good_cons ct_laws_toPathS good_nil)) tab_ok (by kernel_rfl) (fn := Try.f19) (c := bodyOf Try.f19) (by kernel_rfl) (by kernel_rfl) (by kernel_rfl) c_laws_toSchema .n (cutL []) (by kernel_rfl) (by kernel_rfl) k_laws_toSchema (by decide) (fun x K => W_laws_toSchema x.1 K) w_laws_toSchema (fun x h1 h2 => m_laws_toSchema x.1 h1 h2)
def c_spec_IsPathOf : Ct := ⟨[SchemaT, PathT], [true, true], fun x => [], [(false, (.fz .bool))], fun x => (isPathR x.1 x.2.1, ()), false⟩
def W_spec_IsPathOf (s : T.den SchemaT) (p : T.den PathT) (K : Bool × Unit → Prop) : Prop := ((((isSchemaR s) = Bool.true) → ((inK IntKind.i64 (s.1 - (1 : Int))) ∧ ((List.length s.2.1) ≤ (List.length s.2.2.1)))) ∧ (K (((isSchemaR s) && (endR s p).2), ())))
theorem w_spec_IsPathOf (x : denL c_spec_IsPathOf.args) (K : Bool × Unit → Prop) : evF tab (lkp [(18, c_spec_IsSchema), (46, c_spec_l36Path)]) (cutL []) Try.f23 (bodyOf Try.f23) .n c_spec_IsPathOf x K = W_spec_IsPathOf x.1 x.2.1 K := by kernel_rfl
theorem k_spec_IsPathOf : okC Try.f23.ntmps (cutL []) (bodyOf Try.f23) = true := by kernel_rfl
theorem m_spec_IsPathOf (s : T.den SchemaT) (p : T.den PathT) (hok : allP (okL c_spec_IsPathOf.args (s, p, ()))) (hpre : allP (c_spec_IsPathOf.pre (s, p, ()))) : W_spec_IsPathOf s p (fun r => r = c_spec_IsPathOf.res (s, p, ())) := by
  simp only [c_spec_IsPathOf, okL, T.oks, T.ok, ap, allP, true_and, and_true, implies_true] at hok hpre
  try dsimp only [T.den] at hok
  unfold W_spec_IsPathOf
  have := @schema_pre s
  grind [cnd, nb_eq, inK64, c_spec_IsPathOf, isPathR]
theorem ct_spec_IsPathOf : CtOk Try.prog 23 c_spec_IsPathOf :=
  ct_by (Φ := lkp [(18, c_spec_IsSchema), (46, c_spec_l36Path)]) (good_cons ct_spec_IsSchema (good_cons ct_spec_l36Path good_nil)) tab_ok (by kernel_rfl) (fn := Try.f23) (c := bodyOf Try.f23) (by kernel_rfl) (by kernel_rfl) (by kernel_rfl) c_spec_IsPathOf .n (cutL []) (by kernel_rfl) (by kernel_rfl) k_spec_IsPathOf (by decide) (fun x K => W_spec_IsPathOf x.1 x.2.1 K) w_spec_IsPathOf (fun x h1 h2 => m_spec_IsPathOf x.1 x.2.1 h1 h2)
def c_spec_PathEnd : Ct := ⟨[SchemaT, PathT], [true, true], fun x => [], [(false, (.fz (.int .i64))), (false, (.fz (.int .i64)))], fun x => ((pathEndR x.1 x.2.1).1, (pathEndR x.1 x.2.1).2, ()), false⟩
def W_spec_PathEnd (s : T.den SchemaT) (p : T.den PathT) (K : Int × Int × Unit → Prop) : Prop := (cnd (!(isPathR s p)) (K ((0 : Int), ((1 : Int), ()))) (((withinR p.2 (((List.length s.2.2.1) : Nat) : Int)) = Bool.true) ∧ (K ((lastR s p), ((0 : Int), ())))))
theorem w_spec_PathEnd (x : denL c_spec_PathEnd.args) (K : Int × Int × Unit → Prop) : evF tab (lkp [(23, c_spec_IsPathOf), (47, c_spec_l36End)]) (cutL []) Try.f34 (bodyOf Try.f34) .n c_spec_PathEnd x K = W_spec_PathEnd x.1 x.2.1 K := by kernel_rfl
theorem k_spec_PathEnd : okC Try.f34.ntmps (cutL []) (bodyOf Try.f34) = true := by kernel_rfl
theorem m_spec_PathEnd (s : T.den SchemaT) (p : T.den PathT) (hok : allP (okL c_spec_PathEnd.args (s, p, ()))) (hpre : allP (c_spec_PathEnd.pre (s, p, ()))) : W_spec_PathEnd s p (fun r => r = c_spec_PathEnd.res (s, p, ())) := by
  simp only [c_spec_PathEnd, okL, T.oks, T.ok, ap, allP, true_and, and_true, implies_true] at hok hpre
  try dsimp only [T.den] at hok
  unfold W_spec_PathEnd
  have h1 := @schema_pre s
  have h2 := @end_last s p
  grind [cnd, nb_eq, inK64, c_spec_PathEnd, isPathR, pathEndR]
theorem ct_spec_PathEnd : CtOk Try.prog 34 c_spec_PathEnd :=
  ct_by (Φ := lkp [(23, c_spec_IsPathOf), (47, c_spec_l36End)]) (good_cons ct_spec_IsPathOf (good_cons ct_spec_l36End good_nil)) tab_ok (by kernel_rfl) (fn := Try.f34) (c := bodyOf Try.f34) (by kernel_rfl) (by kernel_rfl) (by kernel_rfl) c_spec_PathEnd .n (cutL []) (by kernel_rfl) (by kernel_rfl) k_spec_PathEnd (by decide) (fun x K => W_spec_PathEnd x.1 x.2.1 K) w_spec_PathEnd (fun x h1 h2 => m_spec_PathEnd x.1 x.2.1 h1 h2)
def c_laws_FnExactPathEnd : Ct := ⟨[SchemaT, PathT], [true, true], fun x => [], [(false, (.fz .bool))], fun x => (true, ()), false⟩
def W_laws_FnExactPathEnd (aS : T.den SchemaT) (aP : T.den PathT) (K : Bool × Unit → Prop) : Prop := (((-(4611404543450677248 : Int)) ≤ (1048576 : Int)) ∧ (cnd (decide ((szR (wR SchemaT aS) (1048576 : Int)) < (0 : Int))) (K (Bool.true, ())) (((-(4611545280939032576 : Int)) ≤ (szR (wR SchemaT aS) (1048576 : Int))) ∧ (cnd (decide ((szR (wR PathT aP) (szR (wR SchemaT aS) (1048576 : Int))) < (0 : Int))) (K (Bool.true, ())) (((wR SchemaT aS) ≤ 1099511627776) ∧ (((wR PathT aP) ≤ 1099511627776) ∧ (((wR SchemaT aS) ≤ 1099511627776) ∧ (((wR PathT aP) ≤ 1099511627776) ∧ (cnd (((pathEndR aS aP).1 != (pathEndR aS aP).1) || ((pathEndR aS aP).2 != (pathEndR aS aP).2)) (K (Bool.false, ())) (((wR SchemaT aS) ≤ 1099511627776) ∧ (cnd (!(eqR SchemaT aS aS)) (K (Bool.false, ())) (((wR PathT aP) ≤ 1099511627776) ∧ (cnd (!(eqR PathT aP aP)) (K (Bool.false, ())) (K (Bool.true, ())))))))))))))))
theorem w_laws_FnExactPathEnd (x : denL c_laws_FnExactPathEnd.args) (K : Bool × Unit → Prop) : evF tab (lkp [(35, c_impl_PathEnd), (26, c_laws_eqPath), (21, c_laws_eqSchema), (22, c_laws_szPath), (17, c_laws_szSchema), (24, c_laws_toPath), (19, c_laws_toSchema), (34, c_spec_PathEnd)]) (cutL [(16, 5), (8, 10), (14, 5)]) Try.f8 (bodyOf Try.f8) .n c_laws_FnExactPathEnd x K = W_laws_FnExactPathEnd x.1 x.2.1 K := by kernel_rfl
theorem k_laws_FnExactPathEnd : okC Try.f8.ntmps (cutL [(16, 5), (8, 10), (14, 5)]) (bodyOf Try.f8) = true := by kernel_rfl
theorem m_laws_FnExactPathEnd (aS : T.den SchemaT) (aP : T.den PathT) (hok : allP (okL c_laws_FnExactPathEnd.args (aS, aP, ()))) (hpre : allP (c_laws_FnExactPathEnd.pre (aS, aP, ()))) : W_laws_FnExactPathEnd aS aP (fun r => r = c_laws_FnExactPathEnd.res (aS, aP, ())) := by
  simp only [c_laws_FnExactPathEnd, okL, T.oks, T.ok, ap, allP, true_and, and_true, implies_true] at hok hpre
  try dsimp only [T.den] at hok
  unfold W_laws_FnExactPathEnd
  generalize wR SchemaT aS = n1
  generalize wR PathT aP = n2
  simp only [eqR_self]
  clear hok
  grind [cnd, nb_eq, inK64, szR, c_laws_FnExactPathEnd]
theorem ct_laws_FnExactPathEnd : CtOk Try.prog 8 c_laws_FnExactPathEnd :=
  ct_by (Φ := lkp [(35, c_impl_PathEnd), (26, c_laws_eqPath), (21, c_laws_eqSchema), (22, c_laws_szPath), (17, c_laws_szSchema), (24, c_laws_toPath), (19, c_laws_toSchema), (34, c_spec_PathEnd)]) (good_cons ct_impl_PathEnd (good_cons ct_laws_eqPath (good_cons ct_laws_eqSchema (good_cons ct_laws_szPath (good_cons ct_laws_szSchema (good_cons ct_laws_toPath (good_cons ct_laws_toSchema (good_cons ct_spec_PathEnd good_nil)))))))) tab_ok (by kernel_rfl) (fn := Try.f8) (c := bodyOf Try.f8) (by kernel_rfl) (by kernel_rfl) (by kernel_rfl) c_laws_FnExactPathEnd .n (cutL [(16, 5), (8, 10), (14, 5)]) (by kernel_rfl) (by kernel_rfl) k_laws_FnExactPathEnd (by decide) (fun x K => W_laws_FnExactPathEnd x.1 x.2.1 K) w_laws_FnExactPathEnd (fun x h1 h2 => m_laws_FnExactPathEnd x.1 x.2.1 h1 h2)
end Go.Bm
