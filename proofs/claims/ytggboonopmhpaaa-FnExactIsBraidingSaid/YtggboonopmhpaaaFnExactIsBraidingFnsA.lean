/- What the functions that FnExactIsBraiding reaches give: for each its contract, what it asks, and the proof. No condition. -/
import Derived.Test.YtggboonopmhpaaaTab
namespace Go.Bm
open Go.Proofs
set_option maxRecDepth 100000
set_option maxHeartbeats 1000000
set_option linter.unusedVariables false
set_option linter.unusedSimpArgs false
def c_impl_Category_arrows : Ct := ⟨[(.pt CategoryT)], [false], fun x => [], [(false, (.fz (.int .i64)))], fun x => ((x.1.2.1.length : Int), ()), false⟩
def W_impl_Category_arrows (c : CategoryD) (K : Int × Unit → Prop) : Prop := (K ((((List.length c.2.1) : Nat) : Int), ()))
theorem w_impl_Category_arrows (x : denL c_impl_Category_arrows.args) (K : Int × Unit → Prop) : evF tab (lkp []) (cutL []) Try.f52 (bodyOf Try.f52) .n c_impl_Category_arrows x K = W_impl_Category_arrows x.1 K := by kernel_rfl
theorem k_impl_Category_arrows : okC Try.f52.ntmps (cutL []) (bodyOf Try.f52) = true := by kernel_rfl
theorem m_impl_Category_arrows (c : CategoryD) (hok : allP (okL c_impl_Category_arrows.args (c, ()))) (hpre : allP (c_impl_Category_arrows.pre (c, ()))) : W_impl_Category_arrows c (fun r => r = c_impl_Category_arrows.res (c, ())) := by
  simp only [c_impl_Category_arrows, okL, T.oks, T.ok, ap, allP, true_and, and_true, implies_true] at hok hpre
  try dsimp only [T.den] at hok
  try dsimp only [T.den] at hpre
  unfold W_impl_Category_arrows
  rfl
theorem ct_impl_Category_arrows : CtOk Try.prog 52 c_impl_Category_arrows :=
  ct_by (Φ := lkp []) good_nil tab_ok (by kernel_rfl) (fn := Try.f52) (c := bodyOf Try.f52) (by kernel_rfl) (by kernel_rfl) (by kernel_rfl) c_impl_Category_arrows .n (cutL []) (by kernel_rfl) (by kernel_rfl) k_impl_Category_arrows (by decide) (fun x K => W_impl_Category_arrows x.1 K) w_impl_Category_arrows (fun x h1 h2 => m_impl_Category_arrows x.1 h1 h2)
def c_impl_Category_ends : Ct := ⟨[(.pt CategoryT), (.int .i64)], [false, false], fun x => [0 ≤ x.2.1, x.2.1 < x.1.2.1.length, x.2.1 < x.1.2.2.1.length], [(true, (.fz endsT))], fun x => (((x.1.2.1.getD x.2.1.toNat 0, x.1.2.2.1.getD x.2.1.toNat 0) : Int × Int), ()), false⟩
def W_impl_Category_ends (c : CategoryD) (f : Int) (K : endsD × Unit → Prop) : Prop := (((0 : Int) ≤ f) ∧ ((f < (((List.length c.2.1) : Nat) : Int)) ∧ (((0 : Int) ≤ f) ∧ ((f < (((List.length c.2.2.1) : Nat) : Int)) ∧ (K (((List.getD c.2.1 (Int.toNat f) (0 : Int)), (List.getD c.2.2.1 (Int.toNat f) (0 : Int))), ()))))))
theorem w_impl_Category_ends (x : denL c_impl_Category_ends.args) (K : endsD × Unit → Prop) : evF tab (lkp []) (cutL [(1, 15)]) Try.f79 (bodyOf Try.f79) .n c_impl_Category_ends x K = W_impl_Category_ends x.1 x.2.1 K := by kernel_rfl
theorem k_impl_Category_ends : okC Try.f79.ntmps (cutL [(1, 15)]) (bodyOf Try.f79) = true := by kernel_rfl
theorem m_impl_Category_ends (c : CategoryD) (f : Int) (hok : allP (okL c_impl_Category_ends.args (c, f, ()))) (hpre : allP (c_impl_Category_ends.pre (c, f, ()))) : W_impl_Category_ends c f (fun r => r = c_impl_Category_ends.res (c, f, ())) := by
  simp only [c_impl_Category_ends, okL, T.oks, T.ok, ap, allP, true_and, and_true, implies_true] at hok hpre
  try dsimp only [T.den] at hok
  try dsimp only [T.den] at hpre
  unfold W_impl_Category_ends
  exact ⟨hpre.1, hpre.2.1, hpre.1, hpre.2.2, rfl⟩
theorem ct_impl_Category_ends : CtOk Try.prog 79 c_impl_Category_ends :=
  ct_by (Φ := lkp []) good_nil tab_ok (by kernel_rfl) (fn := Try.f79) (c := bodyOf Try.f79) (by kernel_rfl) (by kernel_rfl) (by kernel_rfl) c_impl_Category_ends .n (cutL [(1, 15)]) (by kernel_rfl) (by kernel_rfl) k_impl_Category_ends (by decide) (fun x K => W_impl_Category_ends x.1 x.2.1 K) w_impl_Category_ends (fun x h1 h2 => m_impl_Category_ends x.1 x.2.1 h1 h2)
def compR (c : CategoryD) (f g : Int) : Int := (c.2.2.2.2.getD f.toNat []).getD g.toNat 0

def c_impl_Category_then : Ct := ⟨[(.pt CategoryT), (.int .i64), (.int .i64)], [false, false, false], fun x => [0 ≤ x.2.1, x.2.1 < x.1.2.2.2.2.length, 0 ≤ x.2.2.1, x.2.2.1 < (x.1.2.2.2.2.getD x.2.1.toNat []).length], [(false, (.fz (.int .i64)))], fun x => (compR x.1 x.2.1 x.2.2.1, ()), false⟩
def W_impl_Category_then (c : CategoryD) (f : Int) (g : Int) (K : Int × Unit → Prop) : Prop := (((0 : Int) ≤ f) ∧ ((f < (((List.length c.2.2.2.2) : Nat) : Int)) ∧ (((0 : Int) ≤ g) ∧ ((g < (((List.length (List.getD c.2.2.2.2 (Int.toNat f) ([] : List Int))) : Nat) : Int)) ∧ (K ((List.getD (List.getD c.2.2.2.2 (Int.toNat f) ([] : List Int)) (Int.toNat g) (0 : Int)), ()))))))
theorem w_impl_Category_then (x : denL c_impl_Category_then.args) (K : Int × Unit → Prop) : evF tab (lkp []) (cutL []) Try.f70 (bodyOf Try.f70) .n c_impl_Category_then x K = W_impl_Category_then x.1 x.2.1 x.2.2.1 K := by kernel_rfl
theorem k_impl_Category_then : okC Try.f70.ntmps (cutL []) (bodyOf Try.f70) = true := by kernel_rfl
theorem m_impl_Category_then (c : CategoryD) (f : Int) (g : Int) (hok : allP (okL c_impl_Category_then.args (c, f, g, ()))) (hpre : allP (c_impl_Category_then.pre (c, f, g, ()))) : W_impl_Category_then c f g (fun r => r = c_impl_Category_then.res (c, f, g, ())) := by
  simp only [c_impl_Category_then, okL, T.oks, T.ok, ap, allP, true_and, and_true, implies_true] at hok hpre
  try dsimp only [T.den] at hok
  try dsimp only [T.den] at hpre
  unfold W_impl_Category_then
  exact ⟨hpre.1, hpre.2.1, hpre.2.2.1, hpre.2.2.2, rfl⟩
theorem ct_impl_Category_then : CtOk Try.prog 70 c_impl_Category_then :=
  ct_by (Φ := lkp []) good_nil tab_ok (by kernel_rfl) (fn := Try.f70) (c := bodyOf Try.f70) (by kernel_rfl) (by kernel_rfl) (by kernel_rfl) c_impl_Category_then .n (cutL []) (by kernel_rfl) (by kernel_rfl) k_impl_Category_then (by decide) (fun x K => W_impl_Category_then x.1 x.2.1 x.2.2.1 K) w_impl_Category_then (fun x h1 h2 => m_impl_Category_then x.1 x.2.1 x.2.2.1 h1 h2)
def c_impl_inRange : Ct := ⟨[(.int .i64), (.int .i64), (.int .i64)], [false, false, false], fun x => [], [(false, (.fz .bool))], fun x => (inR x.1 x.2.1 x.2.2.1, ()), false⟩
def W_impl_inRange (n : Int) (low : Int) (high : Int) (K : Bool × Unit → Prop) : Prop := (K (((decide (low ≤ n)) && (decide (n ≤ high))), ()))
theorem w_impl_inRange (x : denL c_impl_inRange.args) (K : Bool × Unit → Prop) : evF tab (lkp []) (cutL []) Try.f57 (bodyOf Try.f57) .n c_impl_inRange x K = W_impl_inRange x.1 x.2.1 x.2.2.1 K := by kernel_rfl
theorem k_impl_inRange : okC Try.f57.ntmps (cutL []) (bodyOf Try.f57) = true := by kernel_rfl
theorem m_impl_inRange (n : Int) (low : Int) (high : Int) (hok : allP (okL c_impl_inRange.args (n, low, high, ()))) (hpre : allP (c_impl_inRange.pre (n, low, high, ()))) : W_impl_inRange n low high (fun r => r = c_impl_inRange.res (n, low, high, ())) := by
  simp only [c_impl_inRange, okL, T.oks, T.ok, ap, allP, true_and, and_true, implies_true] at hok hpre
  try dsimp only [T.den] at hok
  try dsimp only [T.den] at hpre
  unfold W_impl_inRange
  grind [cnd, nb_eq, inK64, c_impl_inRange, inR]
theorem ct_impl_inRange : CtOk Try.prog 57 c_impl_inRange :=
  ct_by (Φ := lkp []) good_nil tab_ok (by kernel_rfl) (fn := Try.f57) (c := bodyOf Try.f57) (by kernel_rfl) (by kernel_rfl) (by kernel_rfl) c_impl_inRange .n (cutL []) (by kernel_rfl) (by kernel_rfl) k_impl_inRange (by decide) (fun x K => W_impl_inRange x.1 x.2.1 x.2.2.1 K) w_impl_inRange (fun x h1 h2 => m_impl_inRange x.1 x.2.1 x.2.2.1 h1 h2)
def c_impl_within : Ct := ⟨[(.sl (.int .i64)), (.int .i64)], [false, false], fun x => [inK .i64 (x.2.1 - 1)], [(false, (.fz .bool))], fun x => (withinR x.1 x.2.1, ()), false⟩
def W_impl_within (list : List Int) (n : Int) (K : Bool × Unit → Prop) : Prop := (loopW (S := ((Int × Unit) × Unit)) (fun s => (fun next => ((inK IntKind.i64 s.1.1) → (cnd (decide (s.1.1 < (((List.length list) : Nat) : Int))) (((0 : Int) ≤ s.1.1) ∧ ((s.1.1 < (((List.length list) : Nat) : Int)) ∧ ((inK IntKind.i64 (n - (1 : Int))) ∧ (cnd (!(inR (List.getD list (Int.toNat s.1.1) (0 : Int)) (0 : Int) (n - (1 : Int)))) (K (Bool.false, ())) ((inK IntKind.i64 (s.1.1 + (1 : Int))) ∧ (next (((s.1.1 + (1 : Int)), ()), ()))))))) (K (Bool.true, ())))))) (((0 : Int), ()), ()))
theorem w_impl_within (x : denL c_impl_within.args) (K : Bool × Unit → Prop) : evF tab (lkp [(57, c_impl_inRange)]) (cutL []) Try.f51 (bodyOf Try.f51) (.s .n (.s (.s .n (.l [(9, (.d (.int .i64)))] [] [1, 7, 8] .n)) .n)) c_impl_within x K = W_impl_within x.1 x.2.1 K := by kernel_rfl
theorem k_impl_within : okC Try.f51.ntmps (cutL []) (bodyOf Try.f51) = true := by kernel_rfl
theorem m_impl_within (list : List Int) (n : Int) (hok : allP (okL c_impl_within.args (list, n, ()))) (hpre : allP (c_impl_within.pre (list, n, ()))) : W_impl_within list n (fun r => r = c_impl_within.res (list, n, ())) := by
  simp only [c_impl_within, okL, T.oks, T.ok, ap, allP, true_and, and_true, implies_true] at hok hpre
  try dsimp only [T.den] at hok
  try dsimp only [T.den] at hpre
  unfold W_impl_within
  refine loop_of (fun (s : ((Int × Unit) × Unit)) => 0 ≤ s.1.1 ∧ s.1.1 ≤ list.length ∧ withinR list n = withinR (list.drop s.1.1.toNat) n) (fun (s : ((Int × Unit) × Unit)) => (list.length - s.1.1).toNat) ?_ (by simp)
  rintro ⟨⟨i, _⟩, _⟩ next ⟨h0, h1, h2⟩ hn hin
  simp only at h0 h1 h2 hn ⊢
  refine cnd_d (fun hc => ?_) (fun hc => ?_)
  · rw [drop_c list 0 h0 hc] at h2
    simp only [withinR, List.all_cons] at h2
    grind [cnd, nb_eq, inK64, c_impl_within, withinR]
  · rw [drop_n list (by omega)] at h2
    grind [cnd, nb_eq, inK64, c_impl_within, withinR]
theorem ct_impl_within : CtOk Try.prog 51 c_impl_within :=
  ct_by (Φ := lkp [(57, c_impl_inRange)]) (good_cons ct_impl_inRange good_nil) tab_ok (by kernel_rfl) (fn := Try.f51) (c := bodyOf Try.f51) (by kernel_rfl) (by kernel_rfl) (by kernel_rfl) c_impl_within (.s .n (.s (.s .n (.l [(9, (.d (.int .i64)))] [] [1, 7, 8] .n)) .n)) (cutL []) (by kernel_rfl) (by kernel_rfl) k_impl_within (by decide) (fun x K => W_impl_within x.1 x.2.1 K) w_impl_within (fun x h1 h2 => m_impl_within x.1 x.2.1 h1 h2)
/-- what a cell of the table must be -/
def cellQ (c : CategoryD) (f g v : Int) : Bool :=
  if c.2.2.1.getD f.toNat 0 = c.2.1.getD g.toNat 0 then decide (0 ≤ v ∧ v < c.2.1.length ∧ c.2.1.getD v.toNat 0 = c.2.1.getD f.toNat 0 ∧ c.2.2.1.getD v.toNat 0 = c.2.2.1.getD g.toNat 0)
  else decide (v = -1)
def cellR (c : CategoryD) (f g : Int) : Bool := cellQ c f g (compR c f g)
structure ShapeP (c : CategoryD) : Prop where
  ob : 0 ≤ c.1 ∧ c.1 ≤ 8
  m : c.2.1.length ≤ 40
  lt : c.2.2.1.length = c.2.1.length
  fr : withinR c.2.1 c.1 = true
  to : withinR c.2.2.1 c.1 = true
  li : (c.2.2.2.1.length : Int) = c.1
  ids : withinR c.2.2.2.1 c.2.1.length = true
  lc : c.2.2.2.2.length = c.2.1.length
  idt : ∀ x : Int, 0 ≤ x → x < c.1 → c.2.1.getD (c.2.2.2.1.getD x.toNat 0).toNat 0 = x ∧ c.2.2.1.getD (c.2.2.2.1.getD x.toNat 0).toNat 0 = x
  row : ∀ f : Int, 0 ≤ f → f < c.2.1.length → (c.2.2.2.2.getD f.toNat []).length = c.2.1.length
  cell : ∀ f g : Int, 0 ≤ f → f < c.2.1.length → 0 ≤ g → g < c.2.1.length → cellR c f g = true
def shapeR (c : CategoryD) : Bool := inR c.1 0 8 && decide (c.2.1.length ≤ 40) && decide (c.2.2.1.length = c.2.1.length) && withinR c.2.1 c.1 && withinR c.2.2.1 c.1 && decide ((c.2.2.2.1.length : Int) = c.1) && withinR c.2.2.2.1 c.2.1.length &&
  decide (c.2.2.2.2.length = c.2.1.length) && allB c.1.toNat (fun x => decide (c.2.1.getD (c.2.2.2.1.getD x.toNat 0).toNat 0 = x ∧ c.2.2.1.getD (c.2.2.2.1.getD x.toNat 0).toNat 0 = x)) &&
  allB c.2.1.length (fun f => decide ((c.2.2.2.2.getD f.toNat []).length = c.2.1.length)) && allB c.2.1.length (fun f => allB c.2.1.length fun g => cellR c f g)
theorem shape_iff {c : CategoryD} : shapeR c = true ↔ ShapeP c := by
  simp only [shapeR, Bool.and_eq_true, decide_eq_true_eq, inR, allB_iff]
  constructor
  · rintro ⟨⟨⟨⟨⟨⟨⟨⟨⟨⟨h0, h1⟩, h2⟩, h3⟩, h4⟩, h5⟩, h6⟩, h7⟩, h8⟩, h9⟩, h10⟩
    exact ⟨h0, h1, h2, h3, h4, h5, h6, h7, fun x a b => h8 x a (by omega), h9, fun f g a b d e => h10 f a b g d e⟩
  · intro h
    exact ⟨⟨⟨⟨⟨⟨⟨⟨⟨⟨h.ob, h.m⟩, h.lt⟩, h.fr⟩, h.to⟩, h.li⟩, h.ids⟩, h.lc⟩, fun x a b => h.idt x a (by have := h.ob; omega)⟩, h.row⟩, fun f a b g d e => h.cell f g a b d e⟩
theorem shape_f {c : CategoryD} (h : ¬ ShapeP c) : shapeR c = false := by
  cases hs : shapeR c with
  | false => rfl
  | true => exact absurd (shape_iff.1 hs) h
theorem shape_t {c : CategoryD} (h : ShapeP c) : shapeR c = true := shape_iff.2 h

def c_impl_Category_isShape : Ct := ⟨[(.pt CategoryT)], [false], fun x => [], [(false, (.fz .bool))], fun x => (shapeR x.1, ()), false⟩
def W_impl_Category_isShape (c : CategoryD) (K : Bool × Unit → Prop) : Prop := ((((((!(inR c.1 (0 : Int) (8 : Int))) || (decide ((40 : Int) < (((List.length c.2.1) : Nat) : Int)))) || ((((List.length c.2.2.1) : Nat) : Int) != (((List.length c.2.1) : Nat) : Int))) = Bool.false) → (inK IntKind.i64 (c.1 - (1 : Int)))) ∧ (((((((!(inR c.1 (0 : Int) (8 : Int))) || (decide ((40 : Int) < (((List.length c.2.1) : Nat) : Int)))) || ((((List.length c.2.2.1) : Nat) : Int) != (((List.length c.2.1) : Nat) : Int))) || (!(withinR c.2.1 c.1))) = Bool.false) → (inK IntKind.i64 (c.1 - (1 : Int)))) ∧ (cnd (((((!(inR c.1 (0 : Int) (8 : Int))) || (decide ((40 : Int) < (((List.length c.2.1) : Nat) : Int)))) || ((((List.length c.2.2.1) : Nat) : Int) != (((List.length c.2.1) : Nat) : Int))) || (!(withinR c.2.1 c.1))) || (!(withinR c.2.2.1 c.1))) (K (Bool.false, ())) (((((((List.length c.2.2.2.1) : Nat) : Int) != c.1) = Bool.false) → (inK IntKind.i64 ((((List.length c.2.1) : Nat) : Int) - (1 : Int)))) ∧ (cnd ((((((List.length c.2.2.2.1) : Nat) : Int) != c.1) || (!(withinR c.2.2.2.1 (((List.length c.2.1) : Nat) : Int)))) || ((((List.length c.2.2.2.2) : Nat) : Int) != (((List.length c.2.1) : Nat) : Int))) (K (Bool.false, ())) (loopW (S := ((Int × Unit) × Unit)) (fun s => (fun next => ((inK IntKind.i64 s.1.1) → (cnd (decide (s.1.1 < (((List.length c.2.2.2.1) : Nat) : Int))) (((0 : Int) ≤ s.1.1) ∧ ((s.1.1 < (((List.length c.2.2.2.1) : Nat) : Int)) ∧ (((0 : Int) ≤ (List.getD c.2.2.2.1 (Int.toNat s.1.1) (0 : Int))) ∧ (((List.getD c.2.2.2.1 (Int.toNat s.1.1) (0 : Int)) < (((List.length c.2.1) : Nat) : Int)) ∧ (((List.getD c.2.2.2.1 (Int.toNat s.1.1) (0 : Int)) < (((List.length c.2.2.1) : Nat) : Int)) ∧ (cnd (!(((List.getD c.2.1 (Int.toNat (List.getD c.2.2.2.1 (Int.toNat s.1.1) (0 : Int))) (0 : Int)) == s.1.1) && ((List.getD c.2.2.1 (Int.toNat (List.getD c.2.2.2.1 (Int.toNat s.1.1) (0 : Int))) (0 : Int)) == s.1.1))) (K (Bool.false, ())) ((inK IntKind.i64 (s.1.1 + (1 : Int))) ∧ (next (((s.1.1 + (1 : Int)), ()), ()))))))))) (loopW (S := ((Int × Unit) × Unit)) (fun s1 => (fun next1 => ((inK IntKind.i64 s1.1.1) → (cnd (decide (s1.1.1 < (((List.length c.2.2.2.2) : Nat) : Int))) (((0 : Int) ≤ s1.1.1) ∧ ((s1.1.1 < (((List.length c.2.2.2.2) : Nat) : Int)) ∧ (cnd ((((List.length (List.getD c.2.2.2.2 (Int.toNat s1.1.1) ([] : List Int))) : Nat) : Int) != (((List.length c.2.1) : Nat) : Int)) (K (Bool.false, ())) (loopW (S := ((Int × Unit) × Unit)) (fun s2 => (fun next2 => ((inK IntKind.i64 s2.1.1) → (cnd (decide (s2.1.1 < (((List.length (List.getD c.2.2.2.2 (Int.toNat s1.1.1) ([] : List Int))) : Nat) : Int))) (joinW (S := (Unit × Unit)) (fun s3 => ((inK IntKind.i64 (s2.1.1 + (1 : Int))) ∧ (next2 (((s2.1.1 + (1 : Int)), ()), ())))) (fun k => (((0 : Int) ≤ s2.1.1) ∧ ((s2.1.1 < (((List.length (List.getD c.2.2.2.2 (Int.toNat s1.1.1) ([] : List Int))) : Nat) : Int)) ∧ (((0 : Int) ≤ s1.1.1) ∧ ((s1.1.1 < (((List.length c.2.2.1) : Nat) : Int)) ∧ (((0 : Int) ≤ s2.1.1) ∧ ((s2.1.1 < (((List.length c.2.1) : Nat) : Int)) ∧ (cnd ((List.getD c.2.2.1 (Int.toNat s1.1.1) (0 : Int)) != (List.getD c.2.1 (Int.toNat s2.1.1) (0 : Int))) (cnd ((List.getD (List.getD c.2.2.2.2 (Int.toNat s1.1.1) ([] : List Int)) (Int.toNat s2.1.1) (0 : Int)) != (-(1 : Int))) (K (Bool.false, ())) (k ((), ()))) ((inK IntKind.i64 ((((List.length c.2.1) : Nat) : Int) - (1 : Int))) ∧ ((((!(inR (List.getD (List.getD c.2.2.2.2 (Int.toNat s1.1.1) ([] : List Int)) (Int.toNat s2.1.1) (0 : Int)) (0 : Int) ((((List.length c.2.1) : Nat) : Int) - (1 : Int)))) = Bool.false) → (((List.getD (List.getD c.2.2.2.2 (Int.toNat s1.1.1) ([] : List Int)) (Int.toNat s2.1.1) (0 : Int)) < (((List.length c.2.1) : Nat) : Int)) ∧ (((List.getD (List.getD c.2.2.2.2 (Int.toNat s1.1.1) ([] : List Int)) (Int.toNat s2.1.1) (0 : Int)) < (((List.length c.2.2.1) : Nat) : Int)) ∧ ((0 : Int) ≤ (List.getD (List.getD c.2.2.2.2 (Int.toNat s1.1.1) ([] : List Int)) (Int.toNat s2.1.1) (0 : Int)))))) ∧ ((((!(inR (List.getD (List.getD c.2.2.2.2 (Int.toNat s1.1.1) ([] : List Int)) (Int.toNat s2.1.1) (0 : Int)) (0 : Int) ((((List.length c.2.1) : Nat) : Int) - (1 : Int)))) = Bool.false) → ((s1.1.1 < (((List.length c.2.1) : Nat) : Int)) ∧ ((0 : Int) ≤ s1.1.1))) ∧ ((((!(inR (List.getD (List.getD c.2.2.2.2 (Int.toNat s1.1.1) ([] : List Int)) (Int.toNat s2.1.1) (0 : Int)) (0 : Int) ((((List.length c.2.1) : Nat) : Int) - (1 : Int)))) = Bool.false) → ((s2.1.1 < (((List.length c.2.2.1) : Nat) : Int)) ∧ ((0 : Int) ≤ s2.1.1))) ∧ (cnd ((!(inR (List.getD (List.getD c.2.2.2.2 (Int.toNat s1.1.1) ([] : List Int)) (Int.toNat s2.1.1) (0 : Int)) (0 : Int) ((((List.length c.2.1) : Nat) : Int) - (1 : Int)))) || (!(((List.getD c.2.1 (Int.toNat (List.getD (List.getD c.2.2.2.2 (Int.toNat s1.1.1) ([] : List Int)) (Int.toNat s2.1.1) (0 : Int))) (0 : Int)) == (List.getD c.2.1 (Int.toNat s1.1.1) (0 : Int))) && ((List.getD c.2.2.1 (Int.toNat (List.getD (List.getD c.2.2.2.2 (Int.toNat s1.1.1) ([] : List Int)) (Int.toNat s2.1.1) (0 : Int))) (0 : Int)) == (List.getD c.2.2.1 (Int.toNat s2.1.1) (0 : Int)))))) (K (Bool.false, ())) (k ((), ())))))))))))))))) ((inK IntKind.i64 (s1.1.1 + (1 : Int))) ∧ (next1 (((s1.1.1 + (1 : Int)), ()), ()))))))) (((0 : Int), ()), ()))))) (K (Bool.true, ())))))) (((0 : Int), ()), ())))))) (((0 : Int), ()), ())))))))
theorem w_impl_Category_isShape (x : denL c_impl_Category_isShape.args) (K : Bool × Unit → Prop) : evF tab (lkp [(52, c_impl_Category_arrows), (79, c_impl_Category_ends), (57, c_impl_inRange), (51, c_impl_within)]) (cutL [(2, 43), (20, 15), (4, 28), (23, 26)]) Try.f95 (bodyOf Try.f95) (.s .n (.s .n (.s .n (.s .n (.s (.s .n (.l [(88, (.d (.int .i64)))] [] [0, 3, 86, 87] .n)) (.s (.s .n (.l [(106, (.d (.int .i64)))] [] [0, 3, 104, 105] (.s .n (.s .n (.s (.s .n (.s .n (.s .n (.l [(117, (.d (.int .i64)))] [] [0, 3, 6, 104, 105, 106, 115, 116] (.s .n (.s .n (.s (.j [] [] [0, 3, 6, 104, 105, 106, 115, 116, 117] .n) .n))))))) .n))))) .n)))))) c_impl_Category_isShape x K = W_impl_Category_isShape x.1 K := by kernel_rfl
theorem k_impl_Category_isShape : okC Try.f95.ntmps (cutL [(2, 43), (20, 15), (4, 28), (23, 26)]) (bodyOf Try.f95) = true := by kernel_rfl
theorem m_impl_Category_isShape (c : CategoryD) (hok : allP (okL c_impl_Category_isShape.args (c, ()))) (hpre : allP (c_impl_Category_isShape.pre (c, ()))) : W_impl_Category_isShape c (fun r => r = c_impl_Category_isShape.res (c, ())) := by
  simp only [c_impl_Category_isShape, okL, T.oks, T.ok, ap, allP, true_and, and_true, implies_true] at hok hpre
  try dsimp only [T.den] at hok
  try dsimp only [T.den] at hpre
  unfold W_impl_Category_isShape
  refine ⟨by grind [cnd, nb_eq, inK64, inR], by grind [cnd, nb_eq, inK64, inR], cnd_of (fun hc => ?_) (fun hc => ⟨by rw [inK64]; have := hok.2.1.1; grind [cnd, nb_eq, inK64], cnd_of (fun hd => ?_) (fun hd => ?_)⟩)⟩
  · simp only [c_impl_Category_isShape]; rw [shape_f]; intro h; have h1 := h.ob; have h2 := h.m; have h3 := h.lt; have h4 := h.fr; have h5 := h.to; simp only [inR] at hc; grind [cnd, nb_eq, inK64]
  · simp only [c_impl_Category_isShape]; rw [shape_f]; intro h; have h1 := h.li; have h2 := h.ids; have h3 := h.lc; grind [cnd, nb_eq, inK64]
  simp only [inR, Bool.or_eq_false_iff, Bool.not_eq_false', Bool.and_eq_true, decide_eq_true_eq, decide_eq_false_iff_not, bne_eq_false_iff_eq] at hc hd
  obtain ⟨⟨⟨⟨hob, hm⟩, hlt⟩, hfr⟩, hto⟩ := hc
  obtain ⟨⟨hli, hids⟩, hlc⟩ := hd
  have bad : ¬ ShapeP c → (false, ()) = c_impl_Category_isShape.res (c, ()) := fun h => by simp only [c_impl_Category_isShape]; rw [shape_f h]
  refine loop_ix (n := c.2.2.2.1.length) (fun x => ∀ y : Int, 0 ≤ y → y < x → c.2.1.getD (c.2.2.2.1.getD y.toNat 0).toNat 0 = y ∧ c.2.2.1.getD (c.2.2.2.1.getD y.toNat 0).toNat 0 = y) (by omega) (by intro y h0 h1; omega) ?_ ?_
  · intro x next h0 h1 hP hn hin
    have hb := within_iff.1 hids x h0 h1
    dsimp only
    refine cnd_d (fun _ => ⟨h0, h1, hb.1, hb.2, by omega, cnd_of (fun hx => bad fun h => ?_) (fun hx => ?_)⟩) (fun h => absurd h1 h)
    · have := h.idt x h0 (by omega)
      rw [this.1, this.2] at hx
      simp at hx
    · simp only [Bool.not_eq_false', Bool.and_eq_true, beq_iff_eq] at hx
      refine ⟨by rw [inK64]; omega, hn fun y y0 y1 => ?_⟩
      by_cases e : y = x
      · rw [e]; exact hx
      · exact hP y y0 (by omega)
  intro next hidt hin
  refine cnd_d (fun h => absurd h (by dsimp only; omega)) (fun _ => ?_)
  refine loop_ix (n := c.2.2.2.2.length) (fun f => ∀ f' : Int, 0 ≤ f' → f' < f → (c.2.2.2.2.getD f'.toNat []).length = c.2.1.length ∧ ∀ g : Int, 0 ≤ g → g < c.2.1.length → cellR c f' g = true) (by omega) (by intro y h0 h1; omega) ?_ ?_
  · intro f next h0 h1 hP hn hin
    dsimp only
    refine cnd_d (fun _ => ⟨h0, h1, cnd_of (fun hx => bad fun h => ?_) (fun hx => ?_)⟩) (fun h => absurd h1 h)
    · have := h.row f h0 (by omega)
      rw [this] at hx
      simp at hx
    simp only [bne_eq_false_iff_eq] at hx
    refine loop_ix (n := (c.2.2.2.2.getD f.toNat []).length) (fun g => ∀ g' : Int, 0 ≤ g' → g' < g → cellR c f g' = true) (by omega) (by intro y h0 h1; omega) ?_ ?_
    · intro g next3 g0 g1 hP3 hn3 hin3
      dsimp only
      refine cnd_d (fun _ => ?_) (fun h => absurd g1 h)
      refine join_of (fun _ => cellR c f g = true) (fun _ hcell => ⟨by rw [inK64]; omega, hn3 fun g' y0 y1 => ?_⟩) (fun k hk => ?_)
      · by_cases e : g' = g
        · rw [e]; exact hcell
        · exact hP3 g' y0 (by omega)
      have hcell : ∀ b, cellR c f g = b → b = false → ¬ ShapeP c := fun b h1 h2 h => by
        have := h.cell f g h0 (by omega) g0 (by omega)
        rw [h1, h2] at this; cases this
      have hk' := hk ((), ())
      obtain ⟨v, hv⟩ : ∃ v, (c.2.2.2.2.getD f.toNat []).getD g.toNat 0 = v := ⟨_, rfl⟩
      have hR : cellR c f g = cellQ c f g v := by unfold cellR compR; rw [hv]
      rw [hR] at hk'
      rw [hR] at hcell
      rw [hv]
      clear hP3 hn3 hP hn hk hR hv hidt hok
      refine ⟨g0, g1, h0, by omega, g0, by omega, cnd_of (fun ha => cnd_of (fun hb => bad ?_) (fun hb => hk' ?_)) (fun ha => ⟨by rw [inK64]; omega, fun hv => ?_, fun _ => ⟨by omega, h0⟩, fun _ => ⟨by omega, g0⟩, cnd_of (fun hb => bad ?_) (fun hb => hk' ?_)⟩)⟩
      · exact hcell _ rfl (by grind [cnd, nb_eq, inK64, cellQ])
      · grind [cnd, nb_eq, inK64, cellQ]
      · simp only [inR, Bool.not_eq_false', Bool.and_eq_true, decide_eq_true_eq] at hv; omega
      · exact hcell _ rfl (by simp only [inR] at hb; grind [cnd, nb_eq, inK64, cellQ])
      · simp only [inR] at hb; grind [cnd, nb_eq, inK64, cellQ]
    · intro next3 hP3 hin3
      refine cnd_d (fun h => absurd h (by dsimp only; omega)) (fun _ => ⟨by rw [inK64]; omega, hn fun f' y0 y1 => ?_⟩)
      by_cases e : f' = f
      · rw [e]; exact ⟨by omega, fun g g0 g1 => hP3 g g0 (by omega)⟩
      · exact hP f' y0 (by omega)
  · intro next2 hP2 hin2
    refine cnd_d (fun h => absurd h (by dsimp only; omega)) (fun _ => ?_)
    simp only [c_impl_Category_isShape]
    rw [shape_t ⟨hob, by omega, by omega, hfr, hto, by omega, hids, by omega, fun x a b => hidt x a (by omega), fun f a b => (hP2 f a (by omega)).1, fun f g a b d e => (hP2 f a (by omega)).2 g d e⟩]
theorem ct_impl_Category_isShape : CtOk Try.prog 95 c_impl_Category_isShape :=
  ct_by (Φ := lkp [(52, c_impl_Category_arrows), (79, c_impl_Category_ends), (57, c_impl_inRange), (51, c_impl_within)]) (good_cons ct_impl_Category_arrows (good_cons ct_impl_Category_ends (good_cons ct_impl_inRange (good_cons ct_impl_within good_nil)))) tab_ok (by kernel_rfl) (fn := Try.f95) (c := bodyOf Try.f95) (by kernel_rfl) (by kernel_rfl) (by kernel_rfl) c_impl_Category_isShape (.s .n (.s .n (.s .n (.s .n (.s (.s .n (.l [(88, (.d (.int .i64)))] [] [0, 3, 86, 87] .n)) (.s (.s .n (.l [(106, (.d (.int .i64)))] [] [0, 3, 104, 105] (.s .n (.s .n (.s (.s .n (.s .n (.s .n (.l [(117, (.d (.int .i64)))] [] [0, 3, 6, 104, 105, 106, 115, 116] (.s .n (.s .n (.s (.j [] [] [0, 3, 6, 104, 105, 106, 115, 116, 117] .n) .n))))))) .n))))) .n)))))) (cutL [(2, 43), (20, 15), (4, 28), (23, 26)]) (by kernel_rfl) (by kernel_rfl) k_impl_Category_isShape (by decide) (fun x K => W_impl_Category_isShape x.1 K) w_impl_Category_isShape (fun x h1 h2 => m_impl_Category_isShape x.1 h1 h2)
theorem ShapeP.frm {c : CategoryD} (h : ShapeP c) {f : Int} (h0 : 0 ≤ f) (h1 : f < c.2.1.length) : 0 ≤ c.2.1.getD f.toNat 0 ∧ c.2.1.getD f.toNat 0 < c.1 ∧ 0 ≤ c.2.2.1.getD f.toNat 0 ∧ c.2.2.1.getD f.toNat 0 < c.1 := by
  have a := within_iff.1 h.fr f h0 h1
  have b := within_iff.1 h.to f h0 (by have := h.lt; omega)
  exact ⟨a.1, a.2, b.1, b.2⟩
theorem ShapeP.idn {c : CategoryD} (h : ShapeP c) {x : Int} (h0 : 0 ≤ x) (h1 : x < c.1) : 0 ≤ c.2.2.2.1.getD x.toNat 0 ∧ c.2.2.2.1.getD x.toNat 0 < c.2.1.length ∧ c.2.1.getD (c.2.2.2.1.getD x.toNat 0).toNat 0 = x ∧ c.2.2.1.getD (c.2.2.2.1.getD x.toNat 0).toNat 0 = x := by
  have a := within_iff.1 h.ids x h0 (by have := h.li; omega)
  have b := h.idt x h0 h1
  exact ⟨a.1, a.2, b.1, b.2⟩
theorem ShapeP.yes {c : CategoryD} (h : ShapeP c) {f g : Int} (h0 : 0 ≤ f) (h1 : f < c.2.1.length) (g0 : 0 ≤ g) (g1 : g < c.2.1.length) (e : c.2.2.1.getD f.toNat 0 = c.2.1.getD g.toNat 0) :
    0 ≤ compR c f g ∧ compR c f g < c.2.1.length ∧ c.2.1.getD (compR c f g).toNat 0 = c.2.1.getD f.toNat 0 ∧ c.2.2.1.getD (compR c f g).toNat 0 = c.2.2.1.getD g.toNat 0 := by
  have := h.cell f g h0 h1 g0 g1
  unfold cellR cellQ at this
  rw [if_pos e] at this
  simpa using this
theorem ShapeP.no {c : CategoryD} (h : ShapeP c) {f g : Int} (h0 : 0 ≤ f) (h1 : f < c.2.1.length) (g0 : 0 ≤ g) (g1 : g < c.2.1.length) (e : c.2.2.1.getD f.toNat 0 ≠ c.2.1.getD g.toNat 0) : compR c f g = -1 := by
  have := h.cell f g h0 h1 g0 g1
  unfold cellR cellQ at this
  rw [if_neg e] at this
  simpa using this
theorem ShapeP.comp {c : CategoryD} (h : ShapeP c) {f g : Int} (h0 : 0 ≤ f) (h1 : f < c.2.1.length) (g0 : 0 ≤ g) (g1 : g < c.2.1.length) : 0 ≤ compR c f g ↔ c.2.2.1.getD f.toNat 0 = c.2.1.getD g.toNat 0 := by
  constructor
  · intro h2
    by_cases e : c.2.2.1.getD f.toNat 0 = c.2.1.getD g.toNat 0
    · exact e
    · have := h.no h0 h1 g0 g1 e; omega
  · intro e; exact (h.yes h0 h1 g0 g1 e).1
def faultI (c : CategoryD) (f : Int) : Option (Int × Int × Int × Int) :=
  if compR c (c.2.2.2.1.getD (c.2.1.getD f.toNat 0).toNat 0) f ≠ f ∨ compR c f (c.2.2.2.1.getD (c.2.2.1.getD f.toNat 0).toNat 0) ≠ f then some (1, f, 0, 0) else none
def faultH (c : CategoryD) (f g h : Int) : Option (Int × Int × Int × Int) :=
  if c.2.2.1.getD g.toNat 0 = c.2.1.getD h.toNat 0 ∧ compR c (compR c f g) h ≠ compR c f (compR c g h) then some (2, f, g, h) else none
def faultG (c : CategoryD) (f g : Int) : Option (Int × Int × Int × Int) :=
  if c.2.2.1.getD f.toNat 0 = c.2.1.getD g.toNat 0 then scanR (faultH c f g) c.2.1.length 0 else none
def faultF (c : CategoryD) (f : Int) : Option (Int × Int × Int × Int) := scanR (faultG c f) c.2.1.length 0
def faultR (c : CategoryD) : Int × Int × Int × Int :=
  orR (scanR (faultI c) c.2.1.length 0) (orR (scanR (faultF c) c.2.1.length 0) (0, 0, 0, 0))

def c_impl_Category_fault : Ct := ⟨[(.pt CategoryT)], [false], fun x => [ShapeP x.1], [(false, (.fz (.int .i64))), (false, (.fz (.int .i64))), (false, (.fz (.int .i64))), (false, (.fz (.int .i64)))], fun x => ((faultR x.1).1, (faultR x.1).2.1, (faultR x.1).2.2.1, (faultR x.1).2.2.2, ()), false⟩
def W_impl_Category_fault (c : CategoryD) (K : Int × Int × Int × Int × Unit → Prop) : Prop := (loopW (S := ((Int × Unit) × Unit)) (fun s => (fun next => ((inK IntKind.i64 s.1.1) → (cnd (decide (s.1.1 < (((List.length c.2.1) : Nat) : Int))) (((0 : Int) ≤ s.1.1) ∧ ((s.1.1 < (((List.length c.2.1) : Nat) : Int)) ∧ (((0 : Int) ≤ (List.getD c.2.1 (Int.toNat s.1.1) (0 : Int))) ∧ (((List.getD c.2.1 (Int.toNat s.1.1) (0 : Int)) < (((List.length c.2.2.2.1) : Nat) : Int)) ∧ (((0 : Int) ≤ (List.getD c.2.2.2.1 (Int.toNat (List.getD c.2.1 (Int.toNat s.1.1) (0 : Int))) (0 : Int))) ∧ (((List.getD c.2.2.2.1 (Int.toNat (List.getD c.2.1 (Int.toNat s.1.1) (0 : Int))) (0 : Int)) < (((List.length c.2.2.2.2) : Nat) : Int)) ∧ (((0 : Int) ≤ s.1.1) ∧ ((s.1.1 < (((List.length (List.getD c.2.2.2.2 (Int.toNat (List.getD c.2.2.2.1 (Int.toNat (List.getD c.2.1 (Int.toNat s.1.1) (0 : Int))) (0 : Int))) ([] : List Int))) : Nat) : Int)) ∧ (((((compR c (List.getD c.2.2.2.1 (Int.toNat (List.getD c.2.1 (Int.toNat s.1.1) (0 : Int))) (0 : Int)) s.1.1) != s.1.1) = Bool.false) → ((s.1.1 < (((List.length c.2.2.1) : Nat) : Int)) ∧ ((0 : Int) ≤ s.1.1))) ∧ (((((compR c (List.getD c.2.2.2.1 (Int.toNat (List.getD c.2.1 (Int.toNat s.1.1) (0 : Int))) (0 : Int)) s.1.1) != s.1.1) = Bool.false) → (((List.getD c.2.2.1 (Int.toNat s.1.1) (0 : Int)) < (((List.length c.2.2.2.1) : Nat) : Int)) ∧ ((0 : Int) ≤ (List.getD c.2.2.1 (Int.toNat s.1.1) (0 : Int))))) ∧ (((((compR c (List.getD c.2.2.2.1 (Int.toNat (List.getD c.2.1 (Int.toNat s.1.1) (0 : Int))) (0 : Int)) s.1.1) != s.1.1) = Bool.false) → ((s.1.1 < (((List.length c.2.2.2.2) : Nat) : Int)) ∧ (((0 : Int) ≤ (List.getD c.2.2.2.1 (Int.toNat (List.getD c.2.2.1 (Int.toNat s.1.1) (0 : Int))) (0 : Int))) ∧ (((List.getD c.2.2.2.1 (Int.toNat (List.getD c.2.2.1 (Int.toNat s.1.1) (0 : Int))) (0 : Int)) < (((List.length (List.getD c.2.2.2.2 (Int.toNat s.1.1) ([] : List Int))) : Nat) : Int)) ∧ ((0 : Int) ≤ s.1.1))))) ∧ (cnd (((compR c (List.getD c.2.2.2.1 (Int.toNat (List.getD c.2.1 (Int.toNat s.1.1) (0 : Int))) (0 : Int)) s.1.1) != s.1.1) || ((compR c s.1.1 (List.getD c.2.2.2.1 (Int.toNat (List.getD c.2.2.1 (Int.toNat s.1.1) (0 : Int))) (0 : Int))) != s.1.1)) (K ((1 : Int), (s.1.1, ((0 : Int), ((0 : Int), ()))))) ((inK IntKind.i64 (s.1.1 + (1 : Int))) ∧ (next (((s.1.1 + (1 : Int)), ()), ()))))))))))))))) (loopW (S := ((Int × Unit) × Unit)) (fun s1 => (fun next1 => ((inK IntKind.i64 s1.1.1) → (cnd (decide (s1.1.1 < (((List.length c.2.1) : Nat) : Int))) (loopW (S := ((Int × Unit) × Unit)) (fun s2 => (fun next2 => ((inK IntKind.i64 s2.1.1) → (cnd (decide (s2.1.1 < (((List.length c.2.1) : Nat) : Int))) (joinW (S := (Unit × Unit)) (fun s3 => ((inK IntKind.i64 (s2.1.1 + (1 : Int))) ∧ (next2 (((s2.1.1 + (1 : Int)), ()), ())))) (fun k => (((0 : Int) ≤ s1.1.1) ∧ ((s1.1.1 < (((List.length c.2.2.2.2) : Nat) : Int)) ∧ (((0 : Int) ≤ s2.1.1) ∧ ((s2.1.1 < (((List.length (List.getD c.2.2.2.2 (Int.toNat s1.1.1) ([] : List Int))) : Nat) : Int)) ∧ (cnd (decide ((compR c s1.1.1 s2.1.1) < (0 : Int))) (k ((), ())) (loopW (S := ((Int × Unit) × Unit)) (fun s3 => (fun next3 => ((inK IntKind.i64 s3.1.1) → (cnd (decide (s3.1.1 < (((List.length c.2.1) : Nat) : Int))) (((0 : Int) ≤ s2.1.1) ∧ ((s2.1.1 < (((List.length c.2.2.2.2) : Nat) : Int)) ∧ (((0 : Int) ≤ s3.1.1) ∧ ((s3.1.1 < (((List.length (List.getD c.2.2.2.2 (Int.toNat s2.1.1) ([] : List Int))) : Nat) : Int)) ∧ ((((decide ((0 : Int) ≤ (compR c s2.1.1 s3.1.1))) = Bool.true) → ((s1.1.1 < (((List.length c.2.2.2.2) : Nat) : Int)) ∧ (((0 : Int) ≤ s2.1.1) ∧ ((s2.1.1 < (((List.length (List.getD c.2.2.2.2 (Int.toNat s1.1.1) ([] : List Int))) : Nat) : Int)) ∧ ((0 : Int) ≤ s1.1.1))))) ∧ ((((decide ((0 : Int) ≤ (compR c s2.1.1 s3.1.1))) = Bool.true) → (((compR c s1.1.1 s2.1.1) < (((List.length c.2.2.2.2) : Nat) : Int)) ∧ (((0 : Int) ≤ s3.1.1) ∧ ((s3.1.1 < (((List.length (List.getD c.2.2.2.2 (Int.toNat (compR c s1.1.1 s2.1.1)) ([] : List Int))) : Nat) : Int)) ∧ ((0 : Int) ≤ (compR c s1.1.1 s2.1.1)))))) ∧ ((((decide ((0 : Int) ≤ (compR c s2.1.1 s3.1.1))) = Bool.true) → ((s2.1.1 < (((List.length c.2.2.2.2) : Nat) : Int)) ∧ (((0 : Int) ≤ s3.1.1) ∧ ((s3.1.1 < (((List.length (List.getD c.2.2.2.2 (Int.toNat s2.1.1) ([] : List Int))) : Nat) : Int)) ∧ ((0 : Int) ≤ s2.1.1))))) ∧ ((((decide ((0 : Int) ≤ (compR c s2.1.1 s3.1.1))) = Bool.true) → ((s1.1.1 < (((List.length c.2.2.2.2) : Nat) : Int)) ∧ (((0 : Int) ≤ (compR c s2.1.1 s3.1.1)) ∧ (((compR c s2.1.1 s3.1.1) < (((List.length (List.getD c.2.2.2.2 (Int.toNat s1.1.1) ([] : List Int))) : Nat) : Int)) ∧ ((0 : Int) ≤ s1.1.1))))) ∧ (cnd ((decide ((0 : Int) ≤ (compR c s2.1.1 s3.1.1))) && ((compR c (compR c s1.1.1 s2.1.1) s3.1.1) != (compR c s1.1.1 (compR c s2.1.1 s3.1.1)))) (K ((2 : Int), (s1.1.1, (s2.1.1, (s3.1.1, ()))))) ((inK IntKind.i64 (s3.1.1 + (1 : Int))) ∧ (next3 (((s3.1.1 + (1 : Int)), ()), ())))))))))))) (k ((), ())))))) (((0 : Int), ()), ()))))))))) ((inK IntKind.i64 (s1.1.1 + (1 : Int))) ∧ (next1 (((s1.1.1 + (1 : Int)), ()), ()))))))) (((0 : Int), ()), ())) (K ((0 : Int), ((0 : Int), ((0 : Int), ((0 : Int), ()))))))))) (((0 : Int), ()), ())))))) (((0 : Int), ()), ()))
theorem w_impl_Category_fault (x : denL c_impl_Category_fault.args) (K : Int × Int × Int × Int × Unit → Prop) : evF tab (lkp [(52, c_impl_Category_arrows), (70, c_impl_Category_then)]) (cutL [(5, 38)]) Try.f96 (bodyOf Try.f96) (.s .n (.s .n (.s (.s .n (.l [(7, (.d (.int .i64)))] [] [0, 6] .n)) (.s (.s .n (.l [(8, (.d (.int .i64)))] [] [0, 6] (.s .n (.s (.s .n (.l [(9, (.d (.int .i64)))] [] [0, 6, 8] (.s .n (.s (.j [] [] [0, 6, 8, 9] (.s .n (.s .n (.l [(10, (.d (.int .i64)))] [] [0, 6, 8, 9] .n)))) .n)))) .n)))) .n)))) c_impl_Category_fault x K = W_impl_Category_fault x.1 K := by kernel_rfl
theorem k_impl_Category_fault : okC Try.f96.ntmps (cutL [(5, 38)]) (bodyOf Try.f96) = true := by kernel_rfl
theorem m_impl_Category_fault (c : CategoryD) (hok : allP (okL c_impl_Category_fault.args (c, ()))) (hpre : allP (c_impl_Category_fault.pre (c, ()))) : W_impl_Category_fault c (fun r => r = c_impl_Category_fault.res (c, ())) := by
  simp only [c_impl_Category_fault, okL, T.oks, T.ok, ap, allP, true_and, and_true, implies_true] at hok hpre
  try dsimp only [T.den] at hok
  try dsimp only [T.den] at hpre
  unfold W_impl_Category_fault
  have S : ShapeP c := hpre
  have hlt := S.lt
  have hli := S.li
  have hlc := S.lc
  have hmm := S.m
  have resq : ∀ a b d e, faultR c = (a, b, d, e) → (a, b, d, e, ()) = c_impl_Category_fault.res (c, ()) := fun a b d e h => by simp only [c_impl_Category_fault, h]
  refine loop_ix (n := c.2.1.length) (fun f => scanR (faultI c) c.2.1.length 0 = scanR (faultI c) ((c.2.1.length : Int) - f).toNat f) (by omega) scan_0 ?_ ?_
  · intro f next h0 h1 hP hn hin
    dsimp only
    obtain ⟨a1, a2, a3, a4⟩ := S.frm h0 h1
    obtain ⟨b1, b2, _, _⟩ := S.idn a1 a2
    obtain ⟨d1, d2, _, _⟩ := S.idn a3 a4
    have r1 := S.row _ b1 b2
    have r2 := S.row f h0 h1
    refine cnd_d (fun _ => ⟨h0, h1, by omega, by omega, by omega, by omega, h0, by omega, fun _ => by omega, fun _ => by omega, fun _ => by omega, cnd_of (fun hx => resq _ _ _ _ ?_) (fun hx => ⟨by rw [inK64]; omega, hn ?_⟩)⟩) (fun h => absurd h1 h)
    · have : faultI c f = some (1, f, 0, 0) := by unfold faultI; rw [if_pos]; simpa using hx
      unfold faultR; rw [hP, scan_s h1 this]; rfl
    · have : faultI c f = none := by unfold faultI; rw [if_neg]; simpa using hx
      rw [hP, scan_c h1 this]
  intro next hI hin
  rw [scan_n] at hI
  refine cnd_d (fun h => absurd h (by dsimp only; omega)) (fun _ => ?_)
  have hF : faultR c = orR (scanR (faultF c) c.2.1.length 0) (0, 0, 0, 0) := by unfold faultR; rw [hI]; rfl
  refine loop_ix (n := c.2.1.length) (fun f => scanR (faultF c) c.2.1.length 0 = scanR (faultF c) ((c.2.1.length : Int) - f).toNat f) (by omega) scan_0 ?_ ?_
  · intro f next h0 h1 hP hn hin
    dsimp only
    refine cnd_d (fun _ => ?_) (fun h => absurd h1 h)
    have r1 := S.row f h0 h1
    refine loop_ix (n := c.2.1.length) (fun g => faultF c f = scanR (faultG c f) ((c.2.1.length : Int) - g).toNat g) (by omega) scan_0 ?_ ?_
    · intro g next3 g0 g1 hP3 hn3 hin3
      dsimp only
      refine cnd_d (fun _ => ?_) (fun h => absurd g1 h)
      have r2 := S.row g g0 g1
      refine join_of (fun _ => faultG c f g = none) (fun _ hG => ⟨by rw [inK64]; omega, hn3 (by rw [hP3, scan_c g1 hG])⟩) (fun k hk => ?_)
      have hk' := hk ((), ())
      refine ⟨by omega, by omega, by omega, by omega, cnd_d (fun hx => hk' ?_) (fun hx => ?_)⟩
      · unfold faultG; rw [if_neg]; intro e; have := (S.comp h0 h1 g0 g1).2 e; omega
      have hfg := (S.comp h0 h1 g0 g1).1 (by omega)
      obtain ⟨y1, y2, _, _⟩ := S.yes h0 h1 g0 g1 hfg
      refine loop_ix (n := c.2.1.length) (fun h => faultG c f g = scanR (faultH c f g) ((c.2.1.length : Int) - h).toNat h) (by omega) (by unfold faultG; rw [if_pos hfg]; exact scan_0) ?_ ?_
      · intro h next4 i0 i1 hP4 hn4 hin4
        dsimp only
        refine cnd_d (fun _ => ?_) (fun h => absurd i1 h)
        have r3 := S.row _ y1 y2
        have cgh := S.comp g0 g1 i0 i1
        have ygh := @ShapeP.yes c S g h g0 g1 i0 i1
        refine ⟨by omega, by omega, by omega, by omega, fun _ => by omega, fun _ => by omega, fun _ => by omega, fun he => ?_, cnd_of (fun hx => resq _ _ _ _ ?_) (fun hx => ⟨by rw [inK64]; omega, hn4 ?_⟩)⟩
        · have := ygh (cgh.1 (by simpa using he)); omega
        · have : faultH c f g h = some (2, f, g, h) := by unfold faultH; rw [if_pos]; rw [← cgh]; simpa using hx
          have e1 : faultG c f g = some (2, f, g, h) := by rw [hP4, scan_s i1 this]
          have e2 : faultF c f = some (2, f, g, h) := by rw [hP3, scan_s g1 e1]
          rw [hF, hP, scan_s h1 e2]; rfl
        · have : faultH c f g h = none := by unfold faultH; rw [if_neg]; rw [← cgh]; simpa using hx
          rw [hP4, scan_c i1 this]
      · intro next4 hP4 hin4
        rw [scan_n] at hP4
        exact cnd_d (fun h => absurd h (by dsimp only; omega)) (fun _ => hk' hP4)
    · intro next3 hP3 hin3
      rw [scan_n] at hP3
      exact cnd_d (fun h => absurd h (by dsimp only; omega)) (fun _ => ⟨by rw [inK64]; omega, hn (by rw [hP, scan_c h1 hP3])⟩)
  · intro next2 hP2 hin2
    rw [scan_n] at hP2
    refine cnd_d (fun h => absurd h (by dsimp only; omega)) (fun _ => resq _ _ _ _ ?_)
    rw [hF, hP2]; rfl
theorem ct_impl_Category_fault : CtOk Try.prog 96 c_impl_Category_fault :=
  ct_by (Φ := lkp [(52, c_impl_Category_arrows), (70, c_impl_Category_then)]) (good_cons ct_impl_Category_arrows (good_cons ct_impl_Category_then good_nil)) tab_ok (by kernel_rfl) (fn := Try.f96) (c := bodyOf Try.f96) (by kernel_rfl) (by kernel_rfl) (by kernel_rfl) c_impl_Category_fault (.s .n (.s .n (.s (.s .n (.l [(7, (.d (.int .i64)))] [] [0, 6] .n)) (.s (.s .n (.l [(8, (.d (.int .i64)))] [] [0, 6] (.s .n (.s (.s .n (.l [(9, (.d (.int .i64)))] [] [0, 6, 8] (.s .n (.s (.j [] [] [0, 6, 8, 9] (.s .n (.s .n (.l [(10, (.d (.int .i64)))] [] [0, 6, 8, 9] .n)))) .n)))) .n)))) .n)))) (cutL [(5, 38)]) (by kernel_rfl) (by kernel_rfl) k_impl_Category_fault (by decide) (fun x K => W_impl_Category_fault x.1 K) w_impl_Category_fault (fun x h1 h2 => m_impl_Category_fault x.1 h1 h2)
/-- the arrows from x to y -/
def homR (c : CategoryD) (x y : Int) : List Int := selR c.2.1.length fun f => c.2.1.getD f.toNat 0 == x && c.2.2.1.getD f.toNat 0 == y
theorem hom_mem {c : CategoryD} {x y g : Int} : g ∈ homR c x y ↔ 0 ≤ g ∧ g < c.2.1.length ∧ c.2.1.getD g.toNat 0 = x ∧ c.2.2.1.getD g.toNat 0 = y := by
  unfold homR; rw [sel_mem, Bool.and_eq_true, beq_iff_eq, beq_iff_eq]

def c_impl_Category_hom : Ct := ⟨[(.pt CategoryT), (.int .i64), (.int .i64)], [false, false, false], fun x => [x.1.2.1.length ≤ 40, x.1.2.2.1.length = x.1.2.1.length], [(false, (.sl (.fz (.int .i64))))], fun x => (homR x.1 x.2.1 x.2.2.1, ()), false⟩
def W_impl_Category_hom (c : CategoryD) (x : Int) (y : Int) (K : (List Int) × Unit → Prop) : Prop := (loopW (S := ((Unit × (Int × Unit)) × ((List Int) × Unit))) (fun s => (fun next => ((inK IntKind.i64 s.1.2.1) → ((T.ok (T.sl (T.int IntKind.i64)) s.2.1) → (cnd (decide (s.1.2.1 < (((List.length c.2.1) : Nat) : Int))) (((0 : Int) ≤ s.1.2.1) ∧ ((s.1.2.1 < (((List.length c.2.1) : Nat) : Int)) ∧ (((((List.getD c.2.1 (Int.toNat s.1.2.1) (0 : Int)) == x) = Bool.true) → ((s.1.2.1 < (((List.length c.2.2.1) : Nat) : Int)) ∧ ((0 : Int) ≤ s.1.2.1))) ∧ (joinW (S := ((Unit × Unit) × ((List Int) × Unit))) (fun s1 => ((T.ok (T.sl (T.int IntKind.i64)) s1.2.1) → ((inK IntKind.i64 (s.1.2.1 + (1 : Int))) ∧ (next (((), ((s.1.2.1 + (1 : Int)), ())), (s1.2.1, ())))))) (fun k => (cnd (((List.getD c.2.1 (Int.toNat s.1.2.1) (0 : Int)) == x) && ((List.getD c.2.2.1 (Int.toNat s.1.2.1) (0 : Int)) == y)) ((room (List.length s.2.1) (List.length (s.1.2.1 :: ([] : List Int))) 8) ∧ (k (((), ()), ((s.2.1 ++ (s.1.2.1 :: ([] : List Int))), ())))) (k (((), ()), (s.2.1, ()))))))))) (K (s.2.1, ()))))))) (((), ((0 : Int), ())), (([] : List Int), ())))
theorem w_impl_Category_hom (x : denL c_impl_Category_hom.args) (K : (List Int) × Unit → Prop) : evF tab (lkp []) (cutL []) Try.f85 (bodyOf Try.f85) (.s .n (.s .n (.s (.s .n (.l [(7, (.ref 9 [])), (15, (.d (.int .i64)))] [(9, (.sl (.fz (.int .i64))))] [0, 1, 2, 14] (.s .n (.s .n (.s (.s .n (.s .n (.j [(7, (.ref 9 []))] [(9, (.sl (.fz (.int .i64))))] [0, 1, 2, 14, 15] .n))) .n))))) .n))) c_impl_Category_hom x K = W_impl_Category_hom x.1 x.2.1 x.2.2.1 K := by kernel_rfl
theorem k_impl_Category_hom : okC Try.f85.ntmps (cutL []) (bodyOf Try.f85) = true := by kernel_rfl
theorem m_impl_Category_hom (c : CategoryD) (x : Int) (y : Int) (hok : allP (okL c_impl_Category_hom.args (c, x, y, ()))) (hpre : allP (c_impl_Category_hom.pre (c, x, y, ()))) : W_impl_Category_hom c x y (fun r => r = c_impl_Category_hom.res (c, x, y, ())) := by
  simp only [c_impl_Category_hom, okL, T.oks, T.ok, ap, allP, true_and, and_true, implies_true] at hok hpre
  try dsimp only [T.den] at hok
  try dsimp only [T.den] at hpre
  unfold W_impl_Category_hom
  have hm : c.2.1.length ≤ 40 := hpre.1
  have hlt : c.2.2.1.length = c.2.1.length := hpre.2
  refine loop_of (fun (s : ((Unit × (Int × Unit)) × ((List Int) × Unit))) => 0 ≤ s.1.2.1 ∧ s.1.2.1 ≤ c.2.1.length ∧ s.2.1 = selR s.1.2.1.toNat fun f => c.2.1.getD f.toNat 0 == x && c.2.2.1.getD f.toNat 0 == y) (fun (s : ((Unit × (Int × Unit)) × ((List Int) × Unit))) => (c.2.1.length - s.1.2.1).toNat) ?_ ⟨by simp, by simp, rfl⟩
  rintro ⟨⟨_, i, _⟩, l, _⟩ next ⟨h0, h1, h2⟩ hn hin hl
  dsimp only at h0 h1 h2 hn ⊢
  subst h2
  refine cnd_d (fun hc => ⟨h0, hc, fun _ => by omega, join_of (fun s1 => s1.2.1 = selR (i + 1).toNat fun f => c.2.1.getD f.toNat 0 == x && c.2.2.1.getD f.toNat 0 == y) (fun s1 hs _ => ⟨by rw [inK64]; omega, hn _ ⟨(by first | omega | (dsimp only; omega)), (by first | omega | (dsimp only; omega)), hs⟩ (by first | omega | (dsimp only; omega))⟩) (fun k hk => cnd_of (fun hx => ⟨?_, hk _ ?_⟩) (fun hx => hk _ ?_))⟩) (fun hc => ?_)
  · have := sel_len (p := fun f => c.2.1.getD f.toNat 0 == x && c.2.2.1.getD f.toNat 0 == y) i.toNat
    unfold room
    rw [nb_eq]
    have h3 : (i :: ([] : List Int)).length = 1 := rfl
    rw [h3]
    omega
  · exact (sel_t h0 hx).symm
  · exact (sel_f h0 hx).symm
  · have e1 : i.toNat = c.2.1.length := by omega
    simp only [c_impl_Category_hom, homR]
    rw [e1]
theorem ct_impl_Category_hom : CtOk Try.prog 85 c_impl_Category_hom :=
  ct_by (Φ := lkp []) good_nil tab_ok (by kernel_rfl) (fn := Try.f85) (c := bodyOf Try.f85) (by kernel_rfl) (by kernel_rfl) (by kernel_rfl) c_impl_Category_hom (.s .n (.s .n (.s (.s .n (.l [(7, (.ref 9 [])), (15, (.d (.int .i64)))] [(9, (.sl (.fz (.int .i64))))] [0, 1, 2, 14] (.s .n (.s .n (.s (.s .n (.s .n (.j [(7, (.ref 9 []))] [(9, (.sl (.fz (.int .i64))))] [0, 1, 2, 14, 15] .n))) .n))))) .n))) (cutL []) (by kernel_rfl) (by kernel_rfl) k_impl_Category_hom (by decide) (fun x K => W_impl_Category_hom x.1 x.2.1 x.2.2.1 K) w_impl_Category_hom (fun x h1 h2 => m_impl_Category_hom x.1 x.2.1 x.2.2.1 h1 h2)
def idR (c : CategoryD) (f : Int) : Bool := c.2.2.2.1.getD (c.2.1.getD f.toNat 0).toNat 0 == f

def c_impl_Category_isIdentity : Ct := ⟨[(.pt CategoryT), (.int .i64)], [false, false], fun x => [ShapeP x.1, 0 ≤ x.2.1, x.2.1 < x.1.2.1.length], [(false, (.fz .bool))], fun x => (idR x.1 x.2.1, ()), false⟩
def W_impl_Category_isIdentity (c : CategoryD) (f : Int) (K : Bool × Unit → Prop) : Prop := (((0 : Int) ≤ f) ∧ ((f < (((List.length c.2.1) : Nat) : Int)) ∧ (((0 : Int) ≤ (List.getD c.2.1 (Int.toNat f) (0 : Int))) ∧ (((List.getD c.2.1 (Int.toNat f) (0 : Int)) < (((List.length c.2.2.2.1) : Nat) : Int)) ∧ (K (((List.getD c.2.2.2.1 (Int.toNat (List.getD c.2.1 (Int.toNat f) (0 : Int))) (0 : Int)) == f), ()))))))
theorem w_impl_Category_isIdentity (x : denL c_impl_Category_isIdentity.args) (K : Bool × Unit → Prop) : evF tab (lkp []) (cutL [(1, 16)]) Try.f69 (bodyOf Try.f69) .n c_impl_Category_isIdentity x K = W_impl_Category_isIdentity x.1 x.2.1 K := by kernel_rfl
theorem k_impl_Category_isIdentity : okC Try.f69.ntmps (cutL [(1, 16)]) (bodyOf Try.f69) = true := by kernel_rfl
theorem m_impl_Category_isIdentity (c : CategoryD) (f : Int) (hok : allP (okL c_impl_Category_isIdentity.args (c, f, ()))) (hpre : allP (c_impl_Category_isIdentity.pre (c, f, ()))) : W_impl_Category_isIdentity c f (fun r => r = c_impl_Category_isIdentity.res (c, f, ())) := by
  simp only [c_impl_Category_isIdentity, okL, T.oks, T.ok, ap, allP, true_and, and_true, implies_true] at hok hpre
  try dsimp only [T.den] at hok
  try dsimp only [T.den] at hpre
  unfold W_impl_Category_isIdentity
  have S : ShapeP c := hpre.1
  have a := S.frm hpre.2.1 hpre.2.2
  have := S.li
  exact ⟨hpre.2.1, hpre.2.2, a.1, by omega, rfl⟩
theorem ct_impl_Category_isIdentity : CtOk Try.prog 69 c_impl_Category_isIdentity :=
  ct_by (Φ := lkp []) good_nil tab_ok (by kernel_rfl) (fn := Try.f69) (c := bodyOf Try.f69) (by kernel_rfl) (by kernel_rfl) (by kernel_rfl) c_impl_Category_isIdentity .n (cutL [(1, 16)]) (by kernel_rfl) (by kernel_rfl) k_impl_Category_isIdentity (by decide) (fun x K => W_impl_Category_isIdentity x.1 x.2.1 K) w_impl_Category_isIdentity (fun x h1 h2 => m_impl_Category_isIdentity x.1 x.2.1 h1 h2)
def invG (c : CategoryD) (f g : Int) : Bool := compR c f g == c.2.2.2.1.getD (c.2.1.getD f.toNat 0).toNat 0 && compR c g f == c.2.2.2.1.getD (c.2.2.1.getD f.toNat 0).toNat 0
def invL (c : CategoryD) (f : Int) : List Int → Int
  | [] => -1
  | g :: r => if invG c f g = true then g else invL c f r
def invR (c : CategoryD) (f : Int) : Int := invL c f (homR c (c.2.2.1.getD f.toNat 0) (c.2.1.getD f.toNat 0))
theorem inv_id {c : CategoryD} (S : ShapeP c) {f g : Int} (f0 : 0 ≤ f) (f1 : f < c.2.1.length) (hg : g ∈ homR c (c.2.2.1.getD f.toNat 0) (c.2.1.getD f.toNat 0)) : invG c f g = (idR c (compR c f g) && idR c (compR c g f)) := by
  obtain ⟨g0, g1, g2, g3⟩ := hom_mem.1 hg
  have a := S.yes f0 f1 g0 g1 g2.symm
  have b := S.yes g0 g1 f0 f1 g3
  simp only [invG, idR, a.2.2.1, b.2.2.1, g2]
  rw [Bool.eq_iff_iff]
  simp only [Bool.and_eq_true, beq_iff_eq]
  constructor <;> (intro h; exact ⟨h.1.symm, h.2.symm⟩)

def c_impl_Category_inverse : Ct := ⟨[(.pt CategoryT), (.int .i64)], [false, false], fun x => [ShapeP x.1, 0 ≤ x.2.1, x.2.1 < x.1.2.1.length], [(false, (.fz (.int .i64)))], fun x => (invR x.1 x.2.1, ()), false⟩
def W_impl_Category_inverse (c : CategoryD) (f : Int) (K : Int × Unit → Prop) : Prop := (((0 : Int) ≤ f) ∧ ((f < (((List.length c.2.1) : Nat) : Int)) ∧ (((0 : Int) ≤ f) ∧ ((f < (((List.length c.2.2.1) : Nat) : Int)) ∧ (((List.length c.2.1) ≤ 40) ∧ (((List.length c.2.2.1) = (List.length c.2.1)) ∧ (loopW (S := ((Int × Unit) × Unit)) (fun s => (fun next => ((inK IntKind.i64 s.1.1) → (cnd (decide (s.1.1 < (((List.length (homR c (List.getD c.2.2.1 (Int.toNat f) (0 : Int)) (List.getD c.2.1 (Int.toNat f) (0 : Int)))) : Nat) : Int))) (((0 : Int) ≤ s.1.1) ∧ ((s.1.1 < (((List.length (homR c (List.getD c.2.2.1 (Int.toNat f) (0 : Int)) (List.getD c.2.1 (Int.toNat f) (0 : Int)))) : Nat) : Int)) ∧ (((0 : Int) ≤ f) ∧ ((f < (((List.length c.2.2.2.2) : Nat) : Int)) ∧ (((0 : Int) ≤ (List.getD (homR c (List.getD c.2.2.1 (Int.toNat f) (0 : Int)) (List.getD c.2.1 (Int.toNat f) (0 : Int))) (Int.toNat s.1.1) (0 : Int))) ∧ (((List.getD (homR c (List.getD c.2.2.1 (Int.toNat f) (0 : Int)) (List.getD c.2.1 (Int.toNat f) (0 : Int))) (Int.toNat s.1.1) (0 : Int)) < (((List.length (List.getD c.2.2.2.2 (Int.toNat f) ([] : List Int))) : Nat) : Int)) ∧ (((0 : Int) ≤ (List.getD c.2.1 (Int.toNat f) (0 : Int))) ∧ (((List.getD c.2.1 (Int.toNat f) (0 : Int)) < (((List.length c.2.2.2.1) : Nat) : Int)) ∧ (((((compR c f (List.getD (homR c (List.getD c.2.2.1 (Int.toNat f) (0 : Int)) (List.getD c.2.1 (Int.toNat f) (0 : Int))) (Int.toNat s.1.1) (0 : Int))) == (List.getD c.2.2.2.1 (Int.toNat (List.getD c.2.1 (Int.toNat f) (0 : Int))) (0 : Int))) = Bool.true) → (((List.getD (homR c (List.getD c.2.2.1 (Int.toNat f) (0 : Int)) (List.getD c.2.1 (Int.toNat f) (0 : Int))) (Int.toNat s.1.1) (0 : Int)) < (((List.length c.2.2.2.2) : Nat) : Int)) ∧ (((0 : Int) ≤ f) ∧ ((f < (((List.length (List.getD c.2.2.2.2 (Int.toNat (List.getD (homR c (List.getD c.2.2.1 (Int.toNat f) (0 : Int)) (List.getD c.2.1 (Int.toNat f) (0 : Int))) (Int.toNat s.1.1) (0 : Int))) ([] : List Int))) : Nat) : Int)) ∧ ((0 : Int) ≤ (List.getD (homR c (List.getD c.2.2.1 (Int.toNat f) (0 : Int)) (List.getD c.2.1 (Int.toNat f) (0 : Int))) (Int.toNat s.1.1) (0 : Int))))))) ∧ (((((compR c f (List.getD (homR c (List.getD c.2.2.1 (Int.toNat f) (0 : Int)) (List.getD c.2.1 (Int.toNat f) (0 : Int))) (Int.toNat s.1.1) (0 : Int))) == (List.getD c.2.2.2.1 (Int.toNat (List.getD c.2.1 (Int.toNat f) (0 : Int))) (0 : Int))) = Bool.true) → (((List.getD c.2.2.1 (Int.toNat f) (0 : Int)) < (((List.length c.2.2.2.1) : Nat) : Int)) ∧ ((0 : Int) ≤ (List.getD c.2.2.1 (Int.toNat f) (0 : Int))))) ∧ (cnd (((compR c f (List.getD (homR c (List.getD c.2.2.1 (Int.toNat f) (0 : Int)) (List.getD c.2.1 (Int.toNat f) (0 : Int))) (Int.toNat s.1.1) (0 : Int))) == (List.getD c.2.2.2.1 (Int.toNat (List.getD c.2.1 (Int.toNat f) (0 : Int))) (0 : Int))) && ((compR c (List.getD (homR c (List.getD c.2.2.1 (Int.toNat f) (0 : Int)) (List.getD c.2.1 (Int.toNat f) (0 : Int))) (Int.toNat s.1.1) (0 : Int)) f) == (List.getD c.2.2.2.1 (Int.toNat (List.getD c.2.2.1 (Int.toNat f) (0 : Int))) (0 : Int)))) (K ((List.getD (homR c (List.getD c.2.2.1 (Int.toNat f) (0 : Int)) (List.getD c.2.1 (Int.toNat f) (0 : Int))) (Int.toNat s.1.1) (0 : Int)), ())) ((inK IntKind.i64 (s.1.1 + (1 : Int))) ∧ (next (((s.1.1 + (1 : Int)), ()), ())))))))))))))) (K ((-(1 : Int)), ())))))) (((0 : Int), ()), ()))))))))
theorem w_impl_Category_inverse (x : denL c_impl_Category_inverse.args) (K : Int × Unit → Prop) : evF tab (lkp [(85, c_impl_Category_hom), (70, c_impl_Category_then)]) (cutL [(1, 16), (5, 26)]) Try.f90 (bodyOf Try.f90) (.s .n (.s .n (.s (.s .n (.l [(28, (.d (.int .i64)))] [] [0, 1, 5, 6, 26, 27] .n)) .n))) c_impl_Category_inverse x K = W_impl_Category_inverse x.1 x.2.1 K := by kernel_rfl
theorem k_impl_Category_inverse : okC Try.f90.ntmps (cutL [(1, 16), (5, 26)]) (bodyOf Try.f90) = true := by kernel_rfl
theorem m_impl_Category_inverse (c : CategoryD) (f : Int) (hok : allP (okL c_impl_Category_inverse.args (c, f, ()))) (hpre : allP (c_impl_Category_inverse.pre (c, f, ()))) : W_impl_Category_inverse c f (fun r => r = c_impl_Category_inverse.res (c, f, ())) := by
  simp only [c_impl_Category_inverse, okL, T.oks, T.ok, ap, allP, true_and, and_true, implies_true] at hok hpre
  try dsimp only [T.den] at hok
  try dsimp only [T.den] at hpre
  unfold W_impl_Category_inverse
  have S : ShapeP c := hpre.1
  have f0 : 0 ≤ f := hpre.2.1
  have f1 : f < c.2.1.length := hpre.2.2
  have hlt := S.lt
  have hli := S.li
  have hlc := S.lc
  have hmm := S.m
  have sf := S.frm f0 f1
  have rf := S.row f f0 f1
  have hid := fun g => @inv_id c S f g f0 f1
  have hyes := fun g => @ShapeP.yes c S f g f0 f1
  have hyes2 := fun (g : Int) (g0 : 0 ≤ g) (g1 : g < c.2.1.length) => @ShapeP.yes c S g f g0 g1 f0 f1
  have hmem := fun g => @hom_mem c (c.2.2.1.getD f.toNat 0) (c.2.1.getD f.toNat 0) g
  have hlen : (homR c (c.2.2.1.getD f.toNat 0) (c.2.1.getD f.toNat 0)).length ≤ 40 := Nat.le_trans (sel_len _) hmm
  have hR : invR c f = invL c f (homR c (c.2.2.1.getD f.toNat 0) (c.2.1.getD f.toNat 0)) := rfl
  refine ⟨f0, by omega, f0, by omega, hmm, hlt, ?_⟩
  simp only [c_impl_Category_inverse, hR]
  generalize homR c (c.2.2.1.getD f.toNat 0) (c.2.1.getD f.toNat 0) = l at *
  refine loop_ix (n := l.length) (fun i => invL c f l = invL c f (l.drop i.toNat)) (by omega) (by simp) ?_ ?_
  · intro i next i0 i1 hP hn hin
    dsimp only
    have hg := getD_mem l 0 i0 i1
    rw [drop_c l 0 i0 i1] at hP
    simp only [invL] at hP
    generalize l.getD i.toNat 0 = g at *
    have gm := (hmem g).1 hg
    have rg := S.row g gm.1 gm.2.1
    have y1 := hyes g gm.1 gm.2.1 gm.2.2.1.symm
    have y2 := hyes2 g gm.1 gm.2.1 gm.2.2.2
    have hh := hid g hg
    refine cnd_d (fun _ => ?_) (fun h => absurd i1 h)
    repeat' (with_reducible apply And.intro)
    all_goals first | exact S | omega | (intro _; first | omega | (repeat' (with_reducible apply And.intro)) <;> first | exact S | omega) | skip
    refine cnd_of (fun hx => ?_) (fun hx => ⟨by rw [inK64]; omega, hn ?_⟩)
    · rw [hP, if_pos (show invG c f g = true from hx)]
    · rw [hP, if_neg (by show ¬ invG c f g = true; unfold invG; rw [hx]; simp)]
  · intro next hP hin
    refine cnd_d (fun h => absurd h (by dsimp only; omega)) (fun _ => ?_)
    rw [hP, drop_n l (by omega)]; rfl
theorem ct_impl_Category_inverse : CtOk Try.prog 90 c_impl_Category_inverse :=
  ct_by (Φ := lkp [(85, c_impl_Category_hom), (70, c_impl_Category_then)]) (good_cons ct_impl_Category_hom (good_cons ct_impl_Category_then good_nil)) tab_ok (by kernel_rfl) (fn := Try.f90) (c := bodyOf Try.f90) (by kernel_rfl) (by kernel_rfl) (by kernel_rfl) c_impl_Category_inverse (.s .n (.s .n (.s (.s .n (.l [(28, (.d (.int .i64)))] [] [0, 1, 5, 6, 26, 27] .n)) .n))) (cutL [(1, 16), (5, 26)]) (by kernel_rfl) (by kernel_rfl) k_impl_Category_inverse (by decide) (fun x K => W_impl_Category_inverse x.1 x.2.1 K) w_impl_Category_inverse (fun x h1 h2 => m_impl_Category_inverse x.1 x.2.1 h1 h2)
def catR (c : CategoryD) : Bool := shapeR c && (faultR c).1 == 0

def c_impl_Category_isCategory : Ct := ⟨[(.pt CategoryT)], [false], fun x => [], [(false, (.fz .bool))], fun x => (catR x.1, ()), false⟩
def W_impl_Category_isCategory (c : CategoryD) (K : Bool × Unit → Prop) : Prop := (cnd (!(shapeR c)) (K (Bool.false, ())) ((ShapeP c) ∧ (K (((faultR c).1 == (0 : Int)), ()))))
theorem w_impl_Category_isCategory (x : denL c_impl_Category_isCategory.args) (K : Bool × Unit → Prop) : evF tab (lkp [(96, c_impl_Category_fault), (95, c_impl_Category_isShape)]) (cutL []) Try.f77 (bodyOf Try.f77) .n c_impl_Category_isCategory x K = W_impl_Category_isCategory x.1 K := by kernel_rfl
theorem k_impl_Category_isCategory : okC Try.f77.ntmps (cutL []) (bodyOf Try.f77) = true := by kernel_rfl
theorem m_impl_Category_isCategory (c : CategoryD) (hok : allP (okL c_impl_Category_isCategory.args (c, ()))) (hpre : allP (c_impl_Category_isCategory.pre (c, ()))) : W_impl_Category_isCategory c (fun r => r = c_impl_Category_isCategory.res (c, ())) := by
  simp only [c_impl_Category_isCategory, okL, T.oks, T.ok, ap, allP, true_and, and_true, implies_true] at hok hpre
  try dsimp only [T.den] at hok
  try dsimp only [T.den] at hpre
  unfold W_impl_Category_isCategory
  simp only [c_impl_Category_isCategory, catR]
  have := @shape_iff c
  grind [cnd, nb_eq, inK64]
theorem ct_impl_Category_isCategory : CtOk Try.prog 77 c_impl_Category_isCategory :=
  ct_by (Φ := lkp [(96, c_impl_Category_fault), (95, c_impl_Category_isShape)]) (good_cons ct_impl_Category_fault (good_cons ct_impl_Category_isShape good_nil)) tab_ok (by kernel_rfl) (fn := Try.f77) (c := bodyOf Try.f77) (by kernel_rfl) (by kernel_rfl) (by kernel_rfl) c_impl_Category_isCategory .n (cutL []) (by kernel_rfl) (by kernel_rfl) k_impl_Category_isCategory (by decide) (fun x K => W_impl_Category_isCategory x.1 K) w_impl_Category_isCategory (fun x h1 h2 => m_impl_Category_isCategory x.1 h1 h2)
def objCodeR (c : CategoryD) (l : List Int) : Int := if catR c = true then (if withinR l c.1 = true then 0 else 2) else 1
theorem cat_shape {c : CategoryD} (h : catR c = true) : ShapeP c := by
  simp only [catR, Bool.and_eq_true] at h; exact shape_iff.1 h.1

/-- the arrows out of x -/
def outR (c : CategoryD) (x : Int) : List Int := selR c.2.1.length fun f => c.2.1.getD f.toNat 0 == x

def c_impl_Category_outOf : Ct := ⟨[(.pt CategoryT), (.int .i64)], [false, false], fun x => [x.1.2.1.length ≤ 40], [(false, (.sl (.fz (.int .i64))))], fun x => (outR x.1 x.2.1, ()), false⟩
def W_impl_Category_outOf (c : CategoryD) (x : Int) (K : (List Int) × Unit → Prop) : Prop := (loopW (S := ((Unit × (Int × Unit)) × ((List Int) × Unit))) (fun s => (fun next => ((inK IntKind.i64 s.1.2.1) → ((T.ok (T.sl (T.int IntKind.i64)) s.2.1) → (cnd (decide (s.1.2.1 < (((List.length c.2.1) : Nat) : Int))) (((0 : Int) ≤ s.1.2.1) ∧ ((s.1.2.1 < (((List.length c.2.1) : Nat) : Int)) ∧ (joinW (S := ((Unit × Unit) × ((List Int) × Unit))) (fun s1 => ((T.ok (T.sl (T.int IntKind.i64)) s1.2.1) → ((inK IntKind.i64 (s.1.2.1 + (1 : Int))) ∧ (next (((), ((s.1.2.1 + (1 : Int)), ())), (s1.2.1, ())))))) (fun k => (cnd ((List.getD c.2.1 (Int.toNat s.1.2.1) (0 : Int)) == x) ((room (List.length s.2.1) (List.length (s.1.2.1 :: ([] : List Int))) 8) ∧ (k (((), ()), ((s.2.1 ++ (s.1.2.1 :: ([] : List Int))), ())))) (k (((), ()), (s.2.1, ())))))))) (K (s.2.1, ()))))))) (((), ((0 : Int), ())), (([] : List Int), ())))
theorem w_impl_Category_outOf (x : denL c_impl_Category_outOf.args) (K : (List Int) × Unit → Prop) : evF tab (lkp []) (cutL []) Try.f72 (bodyOf Try.f72) (.s .n (.s .n (.s (.s .n (.l [(5, (.ref 8 [])), (14, (.d (.int .i64)))] [(8, (.sl (.fz (.int .i64))))] [1, 12, 13] (.s .n (.s .n (.s (.s .n (.s .n (.j [(5, (.ref 8 []))] [(8, (.sl (.fz (.int .i64))))] [1, 12, 13, 14] .n))) .n))))) .n))) c_impl_Category_outOf x K = W_impl_Category_outOf x.1 x.2.1 K := by kernel_rfl
theorem k_impl_Category_outOf : okC Try.f72.ntmps (cutL []) (bodyOf Try.f72) = true := by kernel_rfl
theorem m_impl_Category_outOf (c : CategoryD) (x : Int) (hok : allP (okL c_impl_Category_outOf.args (c, x, ()))) (hpre : allP (c_impl_Category_outOf.pre (c, x, ()))) : W_impl_Category_outOf c x (fun r => r = c_impl_Category_outOf.res (c, x, ())) := by
  simp only [c_impl_Category_outOf, okL, T.oks, T.ok, ap, allP, true_and, and_true, implies_true] at hok hpre
  try dsimp only [T.den] at hok
  try dsimp only [T.den] at hpre
  unfold W_impl_Category_outOf
  have hm : c.2.1.length ≤ 40 := hpre
  refine loop_of (fun (s : ((Unit × (Int × Unit)) × ((List Int) × Unit))) => 0 ≤ s.1.2.1 ∧ s.1.2.1 ≤ c.2.1.length ∧ s.2.1 = selR s.1.2.1.toNat fun f => c.2.1.getD f.toNat 0 == x) (fun (s : ((Unit × (Int × Unit)) × ((List Int) × Unit))) => (c.2.1.length - s.1.2.1).toNat) ?_ ⟨by simp, by simp, rfl⟩
  rintro ⟨⟨_, i, _⟩, l, _⟩ next ⟨h0, h1, h2⟩ hn hin hl
  dsimp only at h0 h1 h2 hn ⊢
  subst h2
  refine cnd_d (fun hc => ⟨h0, hc, join_of (fun s1 => s1.2.1 = selR (i + 1).toNat fun f => c.2.1.getD f.toNat 0 == x) (fun s1 hs _ => ⟨by rw [inK64]; omega, hn _ ⟨(by first | omega | (dsimp only; omega)), (by first | omega | (dsimp only; omega)), hs⟩ (by first | omega | (dsimp only; omega))⟩) (fun k hk => cnd_of (fun hx => ⟨?_, hk _ ?_⟩) (fun hx => hk _ ?_))⟩) (fun hc => ?_)
  · have := sel_len (p := fun f => c.2.1.getD f.toNat 0 == x) i.toNat
    unfold room
    rw [nb_eq]
    have h3 : (i :: ([] : List Int)).length = 1 := rfl
    rw [h3]
    omega
  · exact (sel_t h0 hx).symm
  · exact (sel_f h0 hx).symm
  · have e : i.toNat = c.2.1.length := by omega
    simp only [c_impl_Category_outOf, outR]
    rw [e]
theorem ct_impl_Category_outOf : CtOk Try.prog 72 c_impl_Category_outOf :=
  ct_by (Φ := lkp []) good_nil tab_ok (by kernel_rfl) (fn := Try.f72) (c := bodyOf Try.f72) (by kernel_rfl) (by kernel_rfl) (by kernel_rfl) c_impl_Category_outOf (.s .n (.s .n (.s (.s .n (.l [(5, (.ref 8 [])), (14, (.d (.int .i64)))] [(8, (.sl (.fz (.int .i64))))] [1, 12, 13] (.s .n (.s .n (.s (.s .n (.s .n (.j [(5, (.ref 8 []))] [(8, (.sl (.fz (.int .i64))))] [1, 12, 13, 14] .n))) .n))))) .n))) (cutL []) (by kernel_rfl) (by kernel_rfl) k_impl_Category_outOf (by decide) (fun x K => W_impl_Category_outOf x.1 x.2.1 K) w_impl_Category_outOf (fun x h1 h2 => m_impl_Category_outOf x.1 x.2.1 h1 h2)
def squareR (t : List (List Int)) (b : Int) : Bool := allB t.length fun i => decide ((t.getD i.toNat []).length = t.length) && withinR (t.getD i.toNat []) b
def tabR (t : List (List Int)) (n : Int) : Bool := decide ((t.length : Int) = n) && squareR t n
def atR (t : List (List Int)) (i j : Int) : Int := (t.getD i.toNat []).getD j.toNat 0
theorem square_iff {t : List (List Int)} {b : Int} : squareR t b = true ↔ ∀ i : Int, 0 ≤ i → i < t.length → (t.getD i.toNat []).length = t.length ∧ withinR (t.getD i.toNat []) b = true := by
  simp only [squareR, allB_iff, Bool.and_eq_true, decide_eq_true_eq]
theorem tab_at {t : List (List Int)} {n : Int} (h : tabR t n = true) : (t.length : Int) = n ∧ (∀ i : Int, 0 ≤ i → i < n → ((t.getD i.toNat []).length : Int) = n) ∧ ∀ i j : Int, 0 ≤ i → i < n → 0 ≤ j → j < n → 0 ≤ atR t i j ∧ atR t i j < n := by
  simp only [tabR, Bool.and_eq_true, decide_eq_true_eq, square_iff] at h
  refine ⟨h.1, fun i h0 h1 => ?_, fun i j h0 h1 g0 g1 => ?_⟩
  · have := (h.2 i h0 (by omega)).1; omega
  · obtain ⟨a, b⟩ := h.2 i h0 (by omega)
    exact within_iff.1 b j g0 (by omega)

def c_impl_isTable : Ct := ⟨[(.sl (.sl (.int .i64))), (.int .i64)], [false, false], fun x => [inK .i64 (x.2.1 - 1)], [(false, (.fz .bool))], fun x => (tabR x.1 x.2.1, ()), false⟩
def W_impl_isTable (list : List (List Int)) (n : Int) (K : Bool × Unit → Prop) : Prop := (cnd ((((List.length list) : Nat) : Int) != n) (K (Bool.false, ())) (loopW (S := ((Int × Unit) × Unit)) (fun s => (fun next => ((inK IntKind.i64 s.1.1) → (cnd (decide (s.1.1 < (((List.length list) : Nat) : Int))) (((0 : Int) ≤ s.1.1) ∧ ((s.1.1 < (((List.length list) : Nat) : Int)) ∧ (((((((List.length (List.getD list (Int.toNat s.1.1) ([] : List Int))) : Nat) : Int) != n) = Bool.false) → (inK IntKind.i64 (n - (1 : Int)))) ∧ (cnd (((((List.length (List.getD list (Int.toNat s.1.1) ([] : List Int))) : Nat) : Int) != n) || (!(withinR (List.getD list (Int.toNat s.1.1) ([] : List Int)) n))) (K (Bool.false, ())) ((inK IntKind.i64 (s.1.1 + (1 : Int))) ∧ (next (((s.1.1 + (1 : Int)), ()), ()))))))) (K (Bool.true, ())))))) (((0 : Int), ()), ())))
theorem w_impl_isTable (x : denL c_impl_isTable.args) (K : Bool × Unit → Prop) : evF tab (lkp [(51, c_impl_within)]) (cutL []) Try.f78 (bodyOf Try.f78) (.s .n (.s .n (.s (.s .n (.l [(13, (.d (.int .i64)))] [] [1, 11, 12] .n)) .n))) c_impl_isTable x K = W_impl_isTable x.1 x.2.1 K := by kernel_rfl
theorem k_impl_isTable : okC Try.f78.ntmps (cutL []) (bodyOf Try.f78) = true := by kernel_rfl
theorem m_impl_isTable (list : List (List Int)) (n : Int) (hok : allP (okL c_impl_isTable.args (list, n, ()))) (hpre : allP (c_impl_isTable.pre (list, n, ()))) : W_impl_isTable list n (fun r => r = c_impl_isTable.res (list, n, ())) := by
  simp only [c_impl_isTable, okL, T.oks, T.ok, ap, allP, true_and, and_true, implies_true] at hok hpre
  try dsimp only [T.den] at hok
  try dsimp only [T.den] at hpre
  unfold W_impl_isTable
  have hl : list.length ≤ 140737488355328 := by simp only [nb_eq] at hok; omega
  have bad : ¬ (tabR list n = true) → (false, ()) = c_impl_isTable.res (list, n, ()) := fun h => by
    simp only [c_impl_isTable]
    cases hs : tabR list n with
    | false => rfl
    | true => exact absurd hs h
  have hti : tabR list n = true ↔ (list.length : Int) = n ∧ ∀ i : Int, 0 ≤ i → i < list.length → (list.getD i.toNat []).length = list.length ∧ withinR (list.getD i.toNat []) n = true := by
    simp only [tabR, Bool.and_eq_true, decide_eq_true_eq, square_iff]
  refine cnd_of (fun hc => bad fun h => ?_) (fun hc => ?_)
  · rw [(hti.1 h).1] at hc; simp at hc
  have hc : (list.length : Int) = n := by simpa using hc
  refine loop_ix (n := list.length) (fun i => ∀ j : Int, 0 ≤ j → j < i → (list.getD j.toNat []).length = list.length ∧ withinR (list.getD j.toNat []) n = true) (by omega) (by intro y h0 h1; omega) ?_ ?_
  · intro i next h0 h1 hP hn hin
    dsimp only
    refine cnd_d (fun _ => ⟨h0, h1, fun _ => hpre, cnd_of (fun hx => bad fun h => ?_) (fun hx => ⟨by rw [inK64]; omega, hn fun j j0 j1 => ?_⟩)⟩) (fun h => absurd h1 h)
    · have := (hti.1 h).2 i h0 h1
      rw [this.1, this.2, hc] at hx; simp at hx
    · by_cases e : j = i
      · subst e
        simp only [Bool.or_eq_false_iff, Bool.not_eq_false', bne_eq_false_iff_eq] at hx
        exact ⟨by omega, hx.2⟩
      · exact hP j j0 (by omega)
  · intro next hP hin
    refine cnd_d (fun h => absurd h (by dsimp only; omega)) (fun _ => ?_)
    simp only [c_impl_isTable]
    rw [hti.2 ⟨hc, hP⟩]
theorem ct_impl_isTable : CtOk Try.prog 78 c_impl_isTable :=
  ct_by (Φ := lkp [(51, c_impl_within)]) (good_cons ct_impl_within good_nil) tab_ok (by kernel_rfl) (fn := Try.f78) (c := bodyOf Try.f78) (by kernel_rfl) (by kernel_rfl) (by kernel_rfl) c_impl_isTable (.s .n (.s .n (.s (.s .n (.l [(13, (.d (.int .i64)))] [] [1, 11, 12] .n)) .n))) (cutL []) (by kernel_rfl) (by kernel_rfl) k_impl_isTable (by decide) (fun x K => W_impl_isTable x.1 x.2.1 K) w_impl_isTable (fun x h1 h2 => m_impl_isTable x.1 x.2.1 h1 h2)
def endsR (m : MonoidalD) : Bool := allB m.1.2.1.length fun f => allB m.1.2.1.length fun g =>
  decide (m.1.2.1.getD (atR m.2.2.2 f g).toNat 0 = atR m.2.2.1 (m.1.2.1.getD f.toNat 0) (m.1.2.1.getD g.toNat 0)) && decide (m.1.2.2.1.getD (atR m.2.2.2 f g).toNat 0 = atR m.2.2.1 (m.1.2.2.1.getD f.toNat 0) (m.1.2.2.1.getD g.toNat 0))
theorem ends_iff {m : MonoidalD} : endsR m = true ↔ ∀ f : Int, 0 ≤ f → f < m.1.2.1.length → ∀ g : Int, 0 ≤ g → g < m.1.2.1.length →
    m.1.2.1.getD (atR m.2.2.2 f g).toNat 0 = atR m.2.2.1 (m.1.2.1.getD f.toNat 0) (m.1.2.1.getD g.toNat 0) ∧ m.1.2.2.1.getD (atR m.2.2.2 f g).toNat 0 = atR m.2.2.1 (m.1.2.2.1.getD f.toNat 0) (m.1.2.2.1.getD g.toNat 0) := by
  simp only [endsR, allB_iff, Bool.and_eq_true, decide_eq_true_eq]

def c_spec_l35Ends : Ct := ⟨[MonoidalT], [true], fun x => [ShapeP x.1.1, tabR x.1.2.2.1 x.1.1.1 = true, tabR x.1.2.2.2 x.1.1.2.1.length = true], [(false, (.fz .bool))], fun x => (endsR x.1, ()), false⟩
def W_spec_l35Ends (m : MonoidalD) (K : Bool × Unit → Prop) : Prop := (loopW (S := ((Unit × (Int × Unit)) × ((Int × ((List Int) × ((List Int) × ((List Int) × (List (List Int)))))) × Unit))) (fun s => (fun next => ((inK IntKind.i64 s.1.2.1) → ((inK IntKind.i64 s.2.1.1) → ((T.ok (T.sl (T.int IntKind.i64)) s.2.1.2.1) → ((T.ok (T.sl (T.int IntKind.i64)) s.2.1.2.2.1) → ((T.ok (T.sl (T.int IntKind.i64)) s.2.1.2.2.2.1) → ((T.ok (T.sl (T.sl (T.int IntKind.i64))) s.2.1.2.2.2.2) → (cnd (decide (s.1.2.1 < (((List.length s.2.1.2.1) : Nat) : Int))) (loopW (S := ((Unit × (Int × Unit)) × ((Int × ((List Int) × ((List Int) × ((List Int) × (List (List Int)))))) × Unit))) (fun s1 => (fun next1 => ((inK IntKind.i64 s1.1.2.1) → ((inK IntKind.i64 s1.2.1.1) → ((T.ok (T.sl (T.int IntKind.i64)) s1.2.1.2.1) → ((T.ok (T.sl (T.int IntKind.i64)) s1.2.1.2.2.1) → ((T.ok (T.sl (T.int IntKind.i64)) s1.2.1.2.2.2.1) → ((T.ok (T.sl (T.sl (T.int IntKind.i64))) s1.2.1.2.2.2.2) → (cnd (decide (s1.1.2.1 < (((List.length s1.2.1.2.1) : Nat) : Int))) (((0 : Int) ≤ s.1.2.1) ∧ ((s.1.2.1 < (((List.length m.2.2.2) : Nat) : Int)) ∧ (((0 : Int) ≤ s1.1.2.1) ∧ ((s1.1.2.1 < (((List.length (List.getD m.2.2.2 (Int.toNat s.1.2.1) ([] : List Int))) : Nat) : Int)) ∧ (((0 : Int) ≤ (List.getD (List.getD m.2.2.2 (Int.toNat s.1.2.1) ([] : List Int)) (Int.toNat s1.1.2.1) (0 : Int))) ∧ (((List.getD (List.getD m.2.2.2 (Int.toNat s.1.2.1) ([] : List Int)) (Int.toNat s1.1.2.1) (0 : Int)) < (((List.length s1.2.1.2.1) : Nat) : Int)) ∧ (((0 : Int) ≤ s.1.2.1) ∧ ((s.1.2.1 < (((List.length s1.2.1.2.1) : Nat) : Int)) ∧ (((0 : Int) ≤ (List.getD s1.2.1.2.1 (Int.toNat s.1.2.1) (0 : Int))) ∧ (((List.getD s1.2.1.2.1 (Int.toNat s.1.2.1) (0 : Int)) < (((List.length m.2.2.1) : Nat) : Int)) ∧ (((0 : Int) ≤ s1.1.2.1) ∧ ((s1.1.2.1 < (((List.length s1.2.1.2.1) : Nat) : Int)) ∧ (((0 : Int) ≤ (List.getD s1.2.1.2.1 (Int.toNat s1.1.2.1) (0 : Int))) ∧ (((List.getD s1.2.1.2.1 (Int.toNat s1.1.2.1) (0 : Int)) < (((List.length (List.getD m.2.2.1 (Int.toNat (List.getD s1.2.1.2.1 (Int.toNat s.1.2.1) (0 : Int))) ([] : List Int))) : Nat) : Int)) ∧ (((((List.getD s1.2.1.2.1 (Int.toNat (List.getD (List.getD m.2.2.2 (Int.toNat s.1.2.1) ([] : List Int)) (Int.toNat s1.1.2.1) (0 : Int))) (0 : Int)) != (List.getD (List.getD m.2.2.1 (Int.toNat (List.getD s1.2.1.2.1 (Int.toNat s.1.2.1) (0 : Int))) ([] : List Int)) (Int.toNat (List.getD s1.2.1.2.1 (Int.toNat s1.1.2.1) (0 : Int))) (0 : Int))) = Bool.false) → (((List.getD (List.getD m.2.2.2 (Int.toNat s.1.2.1) ([] : List Int)) (Int.toNat s1.1.2.1) (0 : Int)) < (((List.length s1.2.1.2.2.1) : Nat) : Int)) ∧ ((0 : Int) ≤ (List.getD (List.getD m.2.2.2 (Int.toNat s.1.2.1) ([] : List Int)) (Int.toNat s1.1.2.1) (0 : Int))))) ∧ (((((List.getD s1.2.1.2.1 (Int.toNat (List.getD (List.getD m.2.2.2 (Int.toNat s.1.2.1) ([] : List Int)) (Int.toNat s1.1.2.1) (0 : Int))) (0 : Int)) != (List.getD (List.getD m.2.2.1 (Int.toNat (List.getD s1.2.1.2.1 (Int.toNat s.1.2.1) (0 : Int))) ([] : List Int)) (Int.toNat (List.getD s1.2.1.2.1 (Int.toNat s1.1.2.1) (0 : Int))) (0 : Int))) = Bool.false) → ((s.1.2.1 < (((List.length s1.2.1.2.2.1) : Nat) : Int)) ∧ ((0 : Int) ≤ s.1.2.1))) ∧ (((((List.getD s1.2.1.2.1 (Int.toNat (List.getD (List.getD m.2.2.2 (Int.toNat s.1.2.1) ([] : List Int)) (Int.toNat s1.1.2.1) (0 : Int))) (0 : Int)) != (List.getD (List.getD m.2.2.1 (Int.toNat (List.getD s1.2.1.2.1 (Int.toNat s.1.2.1) (0 : Int))) ([] : List Int)) (Int.toNat (List.getD s1.2.1.2.1 (Int.toNat s1.1.2.1) (0 : Int))) (0 : Int))) = Bool.false) → (((List.getD s1.2.1.2.2.1 (Int.toNat s.1.2.1) (0 : Int)) < (((List.length m.2.2.1) : Nat) : Int)) ∧ ((0 : Int) ≤ (List.getD s1.2.1.2.2.1 (Int.toNat s.1.2.1) (0 : Int))))) ∧ (((((List.getD s1.2.1.2.1 (Int.toNat (List.getD (List.getD m.2.2.2 (Int.toNat s.1.2.1) ([] : List Int)) (Int.toNat s1.1.2.1) (0 : Int))) (0 : Int)) != (List.getD (List.getD m.2.2.1 (Int.toNat (List.getD s1.2.1.2.1 (Int.toNat s.1.2.1) (0 : Int))) ([] : List Int)) (Int.toNat (List.getD s1.2.1.2.1 (Int.toNat s1.1.2.1) (0 : Int))) (0 : Int))) = Bool.false) → ((s1.1.2.1 < (((List.length s1.2.1.2.2.1) : Nat) : Int)) ∧ ((0 : Int) ≤ s1.1.2.1))) ∧ (((((List.getD s1.2.1.2.1 (Int.toNat (List.getD (List.getD m.2.2.2 (Int.toNat s.1.2.1) ([] : List Int)) (Int.toNat s1.1.2.1) (0 : Int))) (0 : Int)) != (List.getD (List.getD m.2.2.1 (Int.toNat (List.getD s1.2.1.2.1 (Int.toNat s.1.2.1) (0 : Int))) ([] : List Int)) (Int.toNat (List.getD s1.2.1.2.1 (Int.toNat s1.1.2.1) (0 : Int))) (0 : Int))) = Bool.false) → (((List.getD s1.2.1.2.2.1 (Int.toNat s1.1.2.1) (0 : Int)) < (((List.length (List.getD m.2.2.1 (Int.toNat (List.getD s1.2.1.2.2.1 (Int.toNat s.1.2.1) (0 : Int))) ([] : List Int))) : Nat) : Int)) ∧ ((0 : Int) ≤ (List.getD s1.2.1.2.2.1 (Int.toNat s1.1.2.1) (0 : Int))))) ∧ (cnd (((List.getD s1.2.1.2.1 (Int.toNat (List.getD (List.getD m.2.2.2 (Int.toNat s.1.2.1) ([] : List Int)) (Int.toNat s1.1.2.1) (0 : Int))) (0 : Int)) != (List.getD (List.getD m.2.2.1 (Int.toNat (List.getD s1.2.1.2.1 (Int.toNat s.1.2.1) (0 : Int))) ([] : List Int)) (Int.toNat (List.getD s1.2.1.2.1 (Int.toNat s1.1.2.1) (0 : Int))) (0 : Int))) || ((List.getD s1.2.1.2.2.1 (Int.toNat (List.getD (List.getD m.2.2.2 (Int.toNat s.1.2.1) ([] : List Int)) (Int.toNat s1.1.2.1) (0 : Int))) (0 : Int)) != (List.getD (List.getD m.2.2.1 (Int.toNat (List.getD s1.2.1.2.2.1 (Int.toNat s.1.2.1) (0 : Int))) ([] : List Int)) (Int.toNat (List.getD s1.2.1.2.2.1 (Int.toNat s1.1.2.1) (0 : Int))) (0 : Int)))) (K (Bool.false, ())) ((inK IntKind.i64 (s1.1.2.1 + (1 : Int))) ∧ (next1 (((), ((s1.1.2.1 + (1 : Int)), ())), (s1.2.1, ())))))))))))))))))))))))) ((inK IntKind.i64 (s.1.2.1 + (1 : Int))) ∧ (next (((), ((s.1.2.1 + (1 : Int)), ())), (s1.2.1, ()))))))))))))) (((), ((0 : Int), ())), (s.2.1, ()))) (K (Bool.true, ()))))))))))) (((), ((0 : Int), ())), (m.1, ())))
theorem w_spec_l35Ends (x : denL c_spec_l35Ends.args) (K : Bool × Unit → Prop) : evF tab (lkp []) (cutL [(9, 46)]) Try.f75 (bodyOf Try.f75) (.s .n (.s .n (.s (.s .n (.l [(3, (.ad 3 [.de])), (4, (.d (.int .i64)))] [(3, (.pt (.fz (.p (.int .i64) (.p (.sl (.int .i64)) (.p (.sl (.int .i64)) (.p (.sl (.int .i64)) (.sl (.sl (.int .i64))))))))))] [1] (.s .n (.s (.s .n (.l [(3, (.ad 3 [.de])), (5, (.d (.int .i64)))] [(3, (.pt (.fz (.p (.int .i64) (.p (.sl (.int .i64)) (.p (.sl (.int .i64)) (.p (.sl (.int .i64)) (.sl (.sl (.int .i64))))))))))] [1, 4] .n)) .n)))) .n))) c_spec_l35Ends x K = W_spec_l35Ends x.1 K := by kernel_rfl
theorem k_spec_l35Ends : okC Try.f75.ntmps (cutL [(9, 46)]) (bodyOf Try.f75) = true := by kernel_rfl
theorem m_spec_l35Ends (m : MonoidalD) (hok : allP (okL c_spec_l35Ends.args (m, ()))) (hpre : allP (c_spec_l35Ends.pre (m, ()))) : W_spec_l35Ends m (fun r => r = c_spec_l35Ends.res (m, ())) := by
  simp only [c_spec_l35Ends, okL, T.oks, T.ok, ap, allP, true_and, and_true, implies_true] at hok hpre
  try dsimp only [T.den] at hok
  try dsimp only [T.den] at hpre
  unfold W_spec_l35Ends
  have S : ShapeP m.1 := hpre.1
  have O := tab_at hpre.2.1
  have A := tab_at hpre.2.2
  have hlt := S.lt
  have hmm := S.m
  have bad : ¬ (endsR m = true) → (false, ()) = c_spec_l35Ends.res (m, ()) := fun h => by
    simp only [c_spec_l35Ends]
    cases hs : endsR m with
    | false => rfl
    | true => exact absurd hs h
  have hat : ∀ i j : Int, (m.2.2.2.getD i.toNat []).getD j.toNat 0 = atR m.2.2.2 i j := fun _ _ => rfl
  have hat2 : ∀ i j : Int, (m.2.2.1.getD i.toNat []).getD j.toNat 0 = atR m.2.2.1 i j := fun _ _ => rfl
  refine loop_ix1 (n := m.1.2.1.length) (fun f => ∀ f' : Int, 0 ≤ f' → f' < f → ∀ g : Int, 0 ≤ g → g < m.1.2.1.length →
    m.1.2.1.getD (atR m.2.2.2 f' g).toNat 0 = atR m.2.2.1 (m.1.2.1.getD f'.toNat 0) (m.1.2.1.getD g.toNat 0) ∧ m.1.2.2.1.getD (atR m.2.2.2 f' g).toNat 0 = atR m.2.2.1 (m.1.2.2.1.getD f'.toNat 0) (m.1.2.2.1.getD g.toNat 0)) (by omega) (by intro y h0 h1; omega) ?_ ?_
  · intro f next h0 h1 hP hn _ _ _ _ _ _
    dsimp only
    have sf := S.frm h0 h1
    have rf := A.2.1 f h0 h1
    refine cnd_d (fun _ => ?_) (fun h => absurd h1 h)
    refine loop_ix1 (n := m.1.2.1.length) (fun g => ∀ g' : Int, 0 ≤ g' → g' < g →
      m.1.2.1.getD (atR m.2.2.2 f g').toNat 0 = atR m.2.2.1 (m.1.2.1.getD f.toNat 0) (m.1.2.1.getD g'.toNat 0) ∧ m.1.2.2.1.getD (atR m.2.2.2 f g').toNat 0 = atR m.2.2.1 (m.1.2.2.1.getD f.toNat 0) (m.1.2.2.1.getD g'.toNat 0)) (by omega) (by intro y h0 h1; omega) ?_ ?_
    · intro g next2 g0 g1 hP2 hn2 _ _ _ _ _ _
      dsimp only
      simp only [hat, hat2]
      have sg := S.frm g0 g1
      have afg := A.2.2 f g h0 h1 g0 g1
      have r1 := O.2.1 _ sf.1 sf.2.1
      have r2 := O.2.1 _ sf.2.2.1 sf.2.2.2
      refine cnd_d (fun _ => ⟨h0, by omega, g0, by omega, afg.1, by omega, h0, h1, sf.1, by omega, g0, g1, sg.1, by omega, fun _ => by omega, fun _ => by omega, fun _ => by omega, fun _ => by omega, fun _ => by omega, cnd_of (fun hx => bad fun h => ?_) (fun hx => ⟨by rw [inK64]; omega, hn2 fun g' a0 a1 => ?_⟩)⟩) (fun h => absurd g1 h)
      · have := ends_iff.1 h f h0 h1 g g0 g1
        rw [this.1, this.2] at hx; simp at hx
      · by_cases e : g' = g
        · rw [e]; simpa only [Bool.or_eq_false_iff, bne_eq_false_iff_eq] using hx
        · exact hP2 g' a0 (by omega)
    · intro next2 hP2 _ _ _ _ _ _
      refine cnd_d (fun h => absurd h (by dsimp only; omega)) (fun _ => ⟨by rw [inK64]; omega, hn fun f' a0 a1 => ?_⟩)
      by_cases e : f' = f
      · rw [e]; exact hP2
      · exact hP f' a0 (by omega)
  · intro next hP _ _ _ _ _ _
    refine cnd_d (fun h => absurd h (by dsimp only; omega)) (fun _ => ?_)
    simp only [c_spec_l35Ends]
    rw [ends_iff.2 hP]
theorem ct_spec_l35Ends : CtOk Try.prog 75 c_spec_l35Ends :=
  ct_by (Φ := lkp []) good_nil tab_ok (by kernel_rfl) (fn := Try.f75) (c := bodyOf Try.f75) (by kernel_rfl) (by kernel_rfl) (by kernel_rfl) c_spec_l35Ends (.s .n (.s .n (.s (.s .n (.l [(3, (.ad 3 [.de])), (4, (.d (.int .i64)))] [(3, (.pt (.fz (.p (.int .i64) (.p (.sl (.int .i64)) (.p (.sl (.int .i64)) (.p (.sl (.int .i64)) (.sl (.sl (.int .i64))))))))))] [1] (.s .n (.s (.s .n (.l [(3, (.ad 3 [.de])), (5, (.d (.int .i64)))] [(3, (.pt (.fz (.p (.int .i64) (.p (.sl (.int .i64)) (.p (.sl (.int .i64)) (.p (.sl (.int .i64)) (.sl (.sl (.int .i64))))))))))] [1, 4] .n)) .n)))) .n))) (cutL [(9, 46)]) (by kernel_rfl) (by kernel_rfl) k_spec_l35Ends (by decide) (fun x K => W_spec_l35Ends x.1 K) w_spec_l35Ends (fun x h1 h2 => m_spec_l35Ends x.1 h1 h2)
def interR (m : MonoidalD) : Bool := allB m.1.2.1.length fun f => allB m.1.2.1.length fun h => decide (m.1.2.2.1.getD f.toNat 0 ≠ m.1.2.1.getD h.toNat 0) || allB m.1.2.1.length fun g => allB m.1.2.1.length fun k =>
  decide (m.1.2.2.1.getD g.toNat 0 ≠ m.1.2.1.getD k.toNat 0) || decide (atR m.2.2.2 (compR m.1 f h) (compR m.1 g k) = compR m.1 (atR m.2.2.2 f g) (atR m.2.2.2 h k))
theorem inter_iff {m : MonoidalD} : interR m = true ↔ ∀ f : Int, 0 ≤ f → f < m.1.2.1.length → ∀ h : Int, 0 ≤ h → h < m.1.2.1.length → m.1.2.2.1.getD f.toNat 0 = m.1.2.1.getD h.toNat 0 → ∀ g : Int, 0 ≤ g → g < m.1.2.1.length → ∀ k : Int, 0 ≤ k → k < m.1.2.1.length → m.1.2.2.1.getD g.toNat 0 = m.1.2.1.getD k.toNat 0 →
    atR m.2.2.2 (compR m.1 f h) (compR m.1 g k) = compR m.1 (atR m.2.2.2 f g) (atR m.2.2.2 h k) := by
  simp only [interR, allB_iff, Bool.or_eq_true, decide_eq_true_eq]
  constructor
  · intro q f f0 f1 h h0 h1 e g g0 g1 k k0 k1 e2
    rcases q f f0 f1 h h0 h1 with a | a
    · exact absurd e a
    rcases a g g0 g1 k k0 k1 with b | b
    · exact absurd e2 b
    · exact b
  · intro q f f0 f1 h h0 h1
    by_cases e : m.1.2.2.1.getD f.toNat 0 = m.1.2.1.getD h.toNat 0
    · refine .inr fun g g0 g1 k k0 k1 => ?_
      by_cases e2 : m.1.2.2.1.getD g.toNat 0 = m.1.2.1.getD k.toNat 0
      · exact .inr (q f f0 f1 h h0 h1 e g g0 g1 k k0 k1 e2)
      · exact .inl e2
    · exact .inl e
theorem out_at {c : CategoryD} {x i : Int} (h0 : 0 ≤ i) (h1 : i < (outR c x).length) : 0 ≤ (outR c x).getD i.toNat 0 ∧ (outR c x).getD i.toNat 0 < c.2.1.length ∧ c.2.1.getD ((outR c x).getD i.toNat 0).toNat 0 = x := by
  have := getD_mem (outR c x) 0 h0 h1
  generalize (outR c x).getD i.toNat 0 = y at *
  unfold outR at this
  rw [sel_mem, beq_iff_eq] at this
  exact this
theorem out_all {c : CategoryD} {x : Int} {p : Int → Prop} (h : ∀ i : Int, 0 ≤ i → i < (outR c x).length → p ((outR c x).getD i.toNat 0)) {y : Int} (y0 : 0 ≤ y) (y1 : y < c.2.1.length) (e : c.2.1.getD y.toNat 0 = x) : p y :=
  (all_ix (d := (0 : Int))).2 h y (by unfold outR; rw [sel_mem, beq_iff_eq]; exact ⟨y0, y1, e⟩)
theorem out_len {c : CategoryD} (S : ShapeP c) (x : Int) : (outR c x).length ≤ 40 := Nat.le_trans (sel_len _) S.m

def c_impl_Monoidal_interchanges : Ct := ⟨[(.pt MonoidalT)], [false], fun x => [ShapeP x.1.1, tabR x.1.2.2.1 x.1.1.1 = true, tabR x.1.2.2.2 x.1.1.2.1.length = true], [(false, (.fz .bool))], fun x => (interR x.1, ()), false⟩
def W_impl_Monoidal_interchanges (m : MonoidalD) (K : Bool × Unit → Prop) : Prop := (loopW (S := ((Int × Unit) × Unit)) (fun s => (fun next => ((inK IntKind.i64 s.1.1) → (cnd (decide (s.1.1 < (((List.length m.1.2.1) : Nat) : Int))) (((0 : Int) ≤ s.1.1) ∧ ((s.1.1 < (((List.length m.1.2.2.1) : Nat) : Int)) ∧ (((List.length m.1.2.1) ≤ 40) ∧ (loopW (S := ((Unit × (Int × Unit)) × ((List Int) × Unit))) (fun s1 => (fun next1 => ((inK IntKind.i64 s1.1.2.1) → ((T.ok (T.sl (T.int IntKind.i64)) s1.2.1) → (cnd (decide (s1.1.2.1 < (((List.length (outR m.1 (List.getD m.1.2.2.1 (Int.toNat s.1.1) (0 : Int)))) : Nat) : Int))) (((0 : Int) ≤ s1.1.2.1) ∧ ((s1.1.2.1 < (((List.length s1.2.1) : Nat) : Int)) ∧ (loopW (S := ((Unit × (Int × Unit)) × ((List Int) × Unit))) (fun s2 => (fun next2 => ((inK IntKind.i64 s2.1.2.1) → ((T.ok (T.sl (T.int IntKind.i64)) s2.2.1) → (cnd (decide (s2.1.2.1 < (((List.length m.1.2.1) : Nat) : Int))) (((0 : Int) ≤ s2.1.2.1) ∧ ((s2.1.2.1 < (((List.length m.1.2.2.1) : Nat) : Int)) ∧ (((List.length m.1.2.1) ≤ 40) ∧ (loopW (S := ((Unit × (Unit × (Int × Unit))) × ((List Int) × ((List Int) × Unit)))) (fun s3 => (fun next3 => ((inK IntKind.i64 s3.1.2.2.1) → ((T.ok (T.sl (T.int IntKind.i64)) s3.2.1) → ((T.ok (T.sl (T.int IntKind.i64)) s3.2.2.1) → (cnd (decide (s3.1.2.2.1 < (((List.length (outR m.1 (List.getD m.1.2.2.1 (Int.toNat s2.1.2.1) (0 : Int)))) : Nat) : Int))) (((0 : Int) ≤ s3.1.2.2.1) ∧ ((s3.1.2.2.1 < (((List.length s3.2.2.1) : Nat) : Int)) ∧ (((0 : Int) ≤ s.1.1) ∧ ((s.1.1 < (((List.length m.1.2.2.2.2) : Nat) : Int)) ∧ (((0 : Int) ≤ (List.getD s1.2.1 (Int.toNat s1.1.2.1) (0 : Int))) ∧ (((List.getD s1.2.1 (Int.toNat s1.1.2.1) (0 : Int)) < (((List.length (List.getD m.1.2.2.2.2 (Int.toNat s.1.1) ([] : List Int))) : Nat) : Int)) ∧ (((0 : Int) ≤ (compR m.1 s.1.1 (List.getD s1.2.1 (Int.toNat s1.1.2.1) (0 : Int)))) ∧ (((compR m.1 s.1.1 (List.getD s1.2.1 (Int.toNat s1.1.2.1) (0 : Int))) < (((List.length m.2.2.2) : Nat) : Int)) ∧ (((0 : Int) ≤ s2.1.2.1) ∧ ((s2.1.2.1 < (((List.length m.1.2.2.2.2) : Nat) : Int)) ∧ (((0 : Int) ≤ (List.getD s3.2.2.1 (Int.toNat s3.1.2.2.1) (0 : Int))) ∧ (((List.getD s3.2.2.1 (Int.toNat s3.1.2.2.1) (0 : Int)) < (((List.length (List.getD m.1.2.2.2.2 (Int.toNat s2.1.2.1) ([] : List Int))) : Nat) : Int)) ∧ (((0 : Int) ≤ (compR m.1 s2.1.2.1 (List.getD s3.2.2.1 (Int.toNat s3.1.2.2.1) (0 : Int)))) ∧ (((compR m.1 s2.1.2.1 (List.getD s3.2.2.1 (Int.toNat s3.1.2.2.1) (0 : Int))) < (((List.length (List.getD m.2.2.2 (Int.toNat (compR m.1 s.1.1 (List.getD s1.2.1 (Int.toNat s1.1.2.1) (0 : Int)))) ([] : List Int))) : Nat) : Int)) ∧ (((0 : Int) ≤ s.1.1) ∧ ((s.1.1 < (((List.length m.2.2.2) : Nat) : Int)) ∧ (((0 : Int) ≤ s2.1.2.1) ∧ ((s2.1.2.1 < (((List.length (List.getD m.2.2.2 (Int.toNat s.1.1) ([] : List Int))) : Nat) : Int)) ∧ (((0 : Int) ≤ (List.getD s1.2.1 (Int.toNat s1.1.2.1) (0 : Int))) ∧ (((List.getD s1.2.1 (Int.toNat s1.1.2.1) (0 : Int)) < (((List.length m.2.2.2) : Nat) : Int)) ∧ (((0 : Int) ≤ (List.getD s3.2.2.1 (Int.toNat s3.1.2.2.1) (0 : Int))) ∧ (((List.getD s3.2.2.1 (Int.toNat s3.1.2.2.1) (0 : Int)) < (((List.length (List.getD m.2.2.2 (Int.toNat (List.getD s1.2.1 (Int.toNat s1.1.2.1) (0 : Int))) ([] : List Int))) : Nat) : Int)) ∧ (((0 : Int) ≤ (List.getD (List.getD m.2.2.2 (Int.toNat s.1.1) ([] : List Int)) (Int.toNat s2.1.2.1) (0 : Int))) ∧ (((List.getD (List.getD m.2.2.2 (Int.toNat s.1.1) ([] : List Int)) (Int.toNat s2.1.2.1) (0 : Int)) < (((List.length m.1.2.2.2.2) : Nat) : Int)) ∧ (((0 : Int) ≤ (List.getD (List.getD m.2.2.2 (Int.toNat (List.getD s1.2.1 (Int.toNat s1.1.2.1) (0 : Int))) ([] : List Int)) (Int.toNat (List.getD s3.2.2.1 (Int.toNat s3.1.2.2.1) (0 : Int))) (0 : Int))) ∧ (((List.getD (List.getD m.2.2.2 (Int.toNat (List.getD s1.2.1 (Int.toNat s1.1.2.1) (0 : Int))) ([] : List Int)) (Int.toNat (List.getD s3.2.2.1 (Int.toNat s3.1.2.2.1) (0 : Int))) (0 : Int)) < (((List.length (List.getD m.1.2.2.2.2 (Int.toNat (List.getD (List.getD m.2.2.2 (Int.toNat s.1.1) ([] : List Int)) (Int.toNat s2.1.2.1) (0 : Int))) ([] : List Int))) : Nat) : Int)) ∧ (cnd ((List.getD (List.getD m.2.2.2 (Int.toNat (compR m.1 s.1.1 (List.getD s1.2.1 (Int.toNat s1.1.2.1) (0 : Int)))) ([] : List Int)) (Int.toNat (compR m.1 s2.1.2.1 (List.getD s3.2.2.1 (Int.toNat s3.1.2.2.1) (0 : Int)))) (0 : Int)) != (compR m.1 (List.getD (List.getD m.2.2.2 (Int.toNat s.1.1) ([] : List Int)) (Int.toNat s2.1.2.1) (0 : Int)) (List.getD (List.getD m.2.2.2 (Int.toNat (List.getD s1.2.1 (Int.toNat s1.1.2.1) (0 : Int))) ([] : List Int)) (Int.toNat (List.getD s3.2.2.1 (Int.toNat s3.1.2.2.1) (0 : Int))) (0 : Int)))) (K (Bool.false, ())) ((inK IntKind.i64 (s3.1.2.2.1 + (1 : Int))) ∧ (next3 (((), ((), ((s3.1.2.2.1 + (1 : Int)), ()))), (s3.2.1, (s3.2.2.1, ())))))))))))))))))))))))))))))))) ((inK IntKind.i64 (s2.1.2.1 + (1 : Int))) ∧ (next2 (((), ((s2.1.2.1 + (1 : Int)), ())), (s3.2.1, ())))))))))) (((), ((), ((0 : Int), ()))), (s2.2.1, ((outR m.1 (List.getD m.1.2.2.1 (Int.toNat s2.1.2.1) (0 : Int))), ()))))))) ((inK IntKind.i64 (s1.1.2.1 + (1 : Int))) ∧ (next1 (((), ((s1.1.2.1 + (1 : Int)), ())), (s2.2.1, ()))))))))) (((), ((0 : Int), ())), (s1.2.1, ()))))) ((inK IntKind.i64 (s.1.1 + (1 : Int))) ∧ (next (((s.1.1 + (1 : Int)), ()), ())))))))) (((), ((0 : Int), ())), ((outR m.1 (List.getD m.1.2.2.1 (Int.toNat s.1.1) (0 : Int))), ())))))) (K (Bool.true, ())))))) (((0 : Int), ()), ()))
theorem w_impl_Monoidal_interchanges (x : denL c_impl_Monoidal_interchanges.args) (K : Bool × Unit → Prop) : evF tab (lkp [(72, c_impl_Category_outOf), (70, c_impl_Category_then)]) (cutL [(14, 39)]) Try.f81 (bodyOf Try.f81) (.s .n (.s .n (.s (.s .n (.l [(18, (.d (.int .i64)))] [] [0, 3, 17] (.s .n (.s .n (.s (.s .n (.s .n (.l [(29, (.ref 102900 [])), (31, (.d (.int .i64)))] [(102900, (.sl (.fz (.int .i64))))] [0, 3, 4, 17, 18, 30] (.s .n (.s .n (.s (.s .n (.s .n (.l [(29, (.ref 102900 [])), (40, (.d (.int .i64)))] [(102900, (.sl (.fz (.int .i64))))] [0, 3, 4, 6, 17, 18, 30, 31, 39] (.s .n (.s .n (.s (.s .n (.s .n (.l [(29, (.ref 102900 [])), (51, (.ref 105100 [])), (53, (.d (.int .i64)))] [(102900, (.sl (.fz (.int .i64)))), (105100, (.sl (.fz (.int .i64))))] [0, 3, 4, 6, 7, 17, 18, 30, 31, 39, 40, 52] .n))) .n)))))) .n)))))) .n))))) .n))) c_impl_Monoidal_interchanges x K = W_impl_Monoidal_interchanges x.1 K := by kernel_rfl
theorem k_impl_Monoidal_interchanges : okC Try.f81.ntmps (cutL [(14, 39)]) (bodyOf Try.f81) = true := by kernel_rfl
theorem m_impl_Monoidal_interchanges (m : MonoidalD) (hok : allP (okL c_impl_Monoidal_interchanges.args (m, ()))) (hpre : allP (c_impl_Monoidal_interchanges.pre (m, ()))) : W_impl_Monoidal_interchanges m (fun r => r = c_impl_Monoidal_interchanges.res (m, ())) := by
  simp only [c_impl_Monoidal_interchanges, okL, T.oks, T.ok, ap, allP, true_and, and_true, implies_true] at hok hpre
  try dsimp only [T.den] at hok
  try dsimp only [T.den] at hpre
  unfold W_impl_Monoidal_interchanges
  have S : ShapeP m.1 := hpre.1
  have A := tab_at hpre.2.2
  have hlt := S.lt
  have hlc := S.lc
  have hmm := S.m
  have bad : ¬ (interR m = true) → (false, ()) = c_impl_Monoidal_interchanges.res (m, ()) := fun h => by
    simp only [c_impl_Monoidal_interchanges]
    cases hs : interR m with
    | false => rfl
    | true => exact absurd hs h
  have hat : ∀ i j : Int, (m.2.2.2.getD i.toNat []).getD j.toNat 0 = atR m.2.2.2 i j := fun _ _ => rfl
  simp only [hat]
  have key : ∀ f h g k : Int, Prop := fun f h g k => atR m.2.2.2 (compR m.1 f h) (compR m.1 g k) = compR m.1 (atR m.2.2.2 f g) (atR m.2.2.2 h k)
  refine loop_ix (n := m.1.2.1.length) (fun f => ∀ f' : Int, 0 ≤ f' → f' < f → ∀ h : Int, 0 ≤ h → h < m.1.2.1.length → m.1.2.2.1.getD f'.toNat 0 = m.1.2.1.getD h.toNat 0 → ∀ g : Int, 0 ≤ g → g < m.1.2.1.length → ∀ k : Int, 0 ≤ k → k < m.1.2.1.length → m.1.2.2.1.getD g.toNat 0 = m.1.2.1.getD k.toNat 0 →
    atR m.2.2.2 (compR m.1 f' h) (compR m.1 g k) = compR m.1 (atR m.2.2.2 f' g) (atR m.2.2.2 h k)) (by omega) (by intro y h0 h1; omega) ?_ ?_
  · intro f next f0 f1 hP hn hin
    dsimp only
    have rf := S.row f f0 f1
    have raf := A.2.1 f f0 f1
    have lo := out_len S (m.1.2.2.1.getD f.toNat 0)
    refine cnd_d (fun _ => ⟨f0, by omega, hmm, ?_⟩) (fun h => absurd f1 h)
    refine loop_ix1 (n := (outR m.1 (m.1.2.2.1.getD f.toNat 0)).length) (fun i => ∀ i' : Int, 0 ≤ i' → i' < i → ∀ g : Int, 0 ≤ g → g < m.1.2.1.length → ∀ k : Int, 0 ≤ k → k < m.1.2.1.length → m.1.2.2.1.getD g.toNat 0 = m.1.2.1.getD k.toNat 0 →
      atR m.2.2.2 (compR m.1 f ((outR m.1 (m.1.2.2.1.getD f.toNat 0)).getD i'.toNat 0)) (compR m.1 g k) = compR m.1 (atR m.2.2.2 f g) (atR m.2.2.2 ((outR m.1 (m.1.2.2.1.getD f.toNat 0)).getD i'.toNat 0) k)) (by omega) (by intro y h0 h1; omega) ?_ ?_
    · intro i next2 i0 i1 hP2 hn2 _ _
      dsimp only
      have oh := out_at i0 i1
      refine cnd_d (fun _ => ⟨i0, i1, ?_⟩) (fun h => absurd i1 h)
      generalize hh : (outR m.1 (m.1.2.2.1.getD f.toNat 0)).getD i.toNat 0 = h at oh ⊢
      have yfh := S.yes f0 f1 oh.1 oh.2.1 oh.2.2.symm
      have rah := A.2.1 h oh.1 oh.2.1
      have raz := A.2.1 _ yfh.1 yfh.2.1
      generalize (outR m.1 (m.1.2.2.1.getD f.toNat 0)) = out at *
      refine loop_ix1 (n := m.1.2.1.length) (fun g => ∀ g' : Int, 0 ≤ g' → g' < g → ∀ k : Int, 0 ≤ k → k < m.1.2.1.length → m.1.2.2.1.getD g'.toNat 0 = m.1.2.1.getD k.toNat 0 →
        atR m.2.2.2 (compR m.1 f h) (compR m.1 g' k) = compR m.1 (atR m.2.2.2 f g') (atR m.2.2.2 h k)) (by omega) (by intro y h0 h1; omega) ?_ ?_
      · intro g next3 g0 g1 hP3 hn3 _ _
        dsimp only
        have rg := S.row g g0 g1
        have afg := A.2.2 f g f0 f1 g0 g1
        have rcf := S.row _ afg.1 afg.2
        have lo2 := out_len S (m.1.2.2.1.getD g.toNat 0)
        refine cnd_d (fun _ => ⟨g0, by omega, hmm, ?_⟩) (fun h => absurd g1 h)
        refine loop_of (fun (s3 : ((Unit × (Unit × (Int × Unit))) × ((List Int) × ((List Int) × Unit)))) => s3.2.1 = out ∧ s3.2.2.1 = outR m.1 (m.1.2.2.1.getD g.toNat 0) ∧ 0 ≤ s3.1.2.2.1 ∧ s3.1.2.2.1 ≤ (outR m.1 (m.1.2.2.1.getD g.toNat 0)).length ∧ ∀ j : Int, 0 ≤ j → j < s3.1.2.2.1 →
          atR m.2.2.2 (compR m.1 f h) (compR m.1 g ((outR m.1 (m.1.2.2.1.getD g.toNat 0)).getD j.toNat 0)) = compR m.1 (atR m.2.2.2 f g) (atR m.2.2.2 h ((outR m.1 (m.1.2.2.1.getD g.toNat 0)).getD j.toNat 0))) (fun (s3 : ((Unit × (Unit × (Int × Unit))) × ((List Int) × ((List Int) × Unit)))) => ((outR m.1 (m.1.2.2.1.getD g.toNat 0)).length - s3.1.2.2.1).toNat) ?_ ⟨rfl, rfl, by simp, by simp, fun j j0 j1 => by dsimp only at j1; omega⟩
        rintro ⟨⟨_, _, j, _⟩, l1, l2, _⟩ next4 ⟨rfl, rfl, j0, j1, hP4⟩ hn4 _ _ _
        dsimp only at j0 j1 hP4 hn4 hh hn2 hP2 ⊢
        refine cnd_d (fun hj => ?_) (fun hj => ⟨by rw [inK64]; omega, hn3 fun g' a0 a1 => ?_⟩)
        · have ok := out_at j0 hj
          generalize hk : (outR m.1 (m.1.2.2.1.getD g.toNat 0)).getD j.toNat 0 = k at ok ⊢
          have ygk := S.yes g0 g1 ok.1 ok.2.1 ok.2.2.symm
          have ahk := A.2.2 h k oh.1 oh.2.1 ok.1 ok.2.1
          refine ⟨j0, hj, f0, by omega, oh.1, by omega, yfh.1, by omega, g0, by omega, ok.1, by omega, ygk.1, by omega, f0, by omega, g0, by omega, oh.1, by omega, ok.1, by omega, afg.1, by omega, ahk.1, by omega, cnd_of (fun hx => bad fun q => ?_) (fun hx => ⟨by rw [inK64]; omega, hn4 _ ⟨rfl, rfl, (by first | omega | (dsimp only; omega)), (by first | omega | (dsimp only; omega)), fun j' a0 a1 => ?_⟩ (by first | omega | (dsimp only; omega))⟩)⟩
          · rw [inter_iff.1 q f f0 f1 h oh.1 oh.2.1 oh.2.2.symm g g0 g1 k ok.1 ok.2.1 ok.2.2.symm] at hx; simp at hx
          · by_cases e : j' = j
            · rw [e, hk]; simpa using hx
            · exact hP4 j' a0 (by dsimp only at a1; omega)
        · by_cases e : g' = g
          · rw [e]
            intro k k0 k1 ek
            exact out_all (p := fun k => atR m.2.2.2 (compR m.1 f h) (compR m.1 g k) = compR m.1 (atR m.2.2.2 f g) (atR m.2.2.2 h k)) (fun j' a0 a1 => hP4 j' a0 (by omega)) k0 k1 ek.symm
          · exact hP3 g' a0 (by omega)
      · intro next3 hP3 _ _
        refine cnd_d (fun h => absurd h (by dsimp only; omega)) (fun _ => ⟨by rw [inK64]; omega, hn2 fun i' a0 a1 => ?_⟩)
        by_cases e : i' = i
        · rw [e, hh]; exact hP3
        · exact hP2 i' a0 (by omega)
    · intro next2 hP2 _ _
      refine cnd_d (fun h => absurd h (by dsimp only; omega)) (fun _ => ⟨by rw [inK64]; omega, hn fun f' a0 a1 => ?_⟩)
      by_cases e : f' = f
      · rw [e]
        intro h h0 h1 eh
        exact out_all (p := fun h => ∀ g : Int, 0 ≤ g → g < m.1.2.1.length → ∀ k : Int, 0 ≤ k → k < m.1.2.1.length → m.1.2.2.1.getD g.toNat 0 = m.1.2.1.getD k.toNat 0 → atR m.2.2.2 (compR m.1 f h) (compR m.1 g k) = compR m.1 (atR m.2.2.2 f g) (atR m.2.2.2 h k)) hP2 h0 h1 eh.symm
      · exact hP f' a0 (by omega)
  · intro next hP hin
    refine cnd_d (fun h => absurd h (by dsimp only; omega)) (fun _ => ?_)
    simp only [c_impl_Monoidal_interchanges]
    rw [inter_iff.2 hP]
theorem ct_impl_Monoidal_interchanges : CtOk Try.prog 81 c_impl_Monoidal_interchanges :=
  ct_by (Φ := lkp [(72, c_impl_Category_outOf), (70, c_impl_Category_then)]) (good_cons ct_impl_Category_outOf (good_cons ct_impl_Category_then good_nil)) tab_ok (by kernel_rfl) (fn := Try.f81) (c := bodyOf Try.f81) (by kernel_rfl) (by kernel_rfl) (by kernel_rfl) c_impl_Monoidal_interchanges (.s .n (.s .n (.s (.s .n (.l [(18, (.d (.int .i64)))] [] [0, 3, 17] (.s .n (.s .n (.s (.s .n (.s .n (.l [(29, (.ref 102900 [])), (31, (.d (.int .i64)))] [(102900, (.sl (.fz (.int .i64))))] [0, 3, 4, 17, 18, 30] (.s .n (.s .n (.s (.s .n (.s .n (.l [(29, (.ref 102900 [])), (40, (.d (.int .i64)))] [(102900, (.sl (.fz (.int .i64))))] [0, 3, 4, 6, 17, 18, 30, 31, 39] (.s .n (.s .n (.s (.s .n (.s .n (.l [(29, (.ref 102900 [])), (51, (.ref 105100 [])), (53, (.d (.int .i64)))] [(102900, (.sl (.fz (.int .i64)))), (105100, (.sl (.fz (.int .i64))))] [0, 3, 4, 6, 7, 17, 18, 30, 31, 39, 40, 52] .n))) .n)))))) .n)))))) .n))))) .n))) (cutL [(14, 39)]) (by kernel_rfl) (by kernel_rfl) k_impl_Monoidal_interchanges (by decide) (fun x K => W_impl_Monoidal_interchanges x.1 K) w_impl_Monoidal_interchanges (fun x h1 h2 => m_impl_Monoidal_interchanges x.1 h1 h2)
def assocR (t : List (List Int)) (u : Int) : Bool := allB t.length fun x => (decide (atR t x u = x) && decide (atR t u x = x)) && allB t.length fun y => allB t.length fun z => decide (atR t (atR t x y) z = atR t x (atR t y z))
theorem assoc_iff {t : List (List Int)} {u : Int} : assocR t u = true ↔ ∀ x : Int, 0 ≤ x → x < t.length → (atR t x u = x ∧ atR t u x = x) ∧ ∀ y : Int, 0 ≤ y → y < t.length → ∀ z : Int, 0 ≤ z → z < t.length → atR t (atR t x y) z = atR t x (atR t y z) := by
  simp only [assocR, allB_iff, Bool.and_eq_true, decide_eq_true_eq]

def c_impl_isAssociative : Ct := ⟨[(.sl (.sl (.int .i64))), (.int .i64)], [false, false], fun x => [tabR x.1 x.1.length = true, x.1.length ≤ 40, 0 ≤ x.2.1, x.2.1 < x.1.length], [(false, (.fz .bool))], fun x => (assocR x.1 x.2.1, ()), false⟩
def W_impl_isAssociative (table : List (List Int)) (unit : Int) (K : Bool × Unit → Prop) : Prop := (loopW (S := ((Int × Unit) × Unit)) (fun s => (fun next => ((inK IntKind.i64 s.1.1) → (cnd (decide (s.1.1 < (((List.length table) : Nat) : Int))) (((0 : Int) ≤ s.1.1) ∧ ((s.1.1 < (((List.length table) : Nat) : Int)) ∧ (((0 : Int) ≤ unit) ∧ ((unit < (((List.length (List.getD table (Int.toNat s.1.1) ([] : List Int))) : Nat) : Int)) ∧ (((((List.getD (List.getD table (Int.toNat s.1.1) ([] : List Int)) (Int.toNat unit) (0 : Int)) != s.1.1) = Bool.false) → ((unit < (((List.length table) : Nat) : Int)) ∧ ((0 : Int) ≤ unit))) ∧ (((((List.getD (List.getD table (Int.toNat s.1.1) ([] : List Int)) (Int.toNat unit) (0 : Int)) != s.1.1) = Bool.false) → ((s.1.1 < (((List.length (List.getD table (Int.toNat unit) ([] : List Int))) : Nat) : Int)) ∧ ((0 : Int) ≤ s.1.1))) ∧ (cnd (((List.getD (List.getD table (Int.toNat s.1.1) ([] : List Int)) (Int.toNat unit) (0 : Int)) != s.1.1) || ((List.getD (List.getD table (Int.toNat unit) ([] : List Int)) (Int.toNat s.1.1) (0 : Int)) != s.1.1)) (K (Bool.false, ())) (loopW (S := ((Int × Unit) × Unit)) (fun s1 => (fun next1 => ((inK IntKind.i64 s1.1.1) → (cnd (decide (s1.1.1 < (((List.length table) : Nat) : Int))) (loopW (S := ((Int × Unit) × Unit)) (fun s2 => (fun next2 => ((inK IntKind.i64 s2.1.1) → (cnd (decide (s2.1.1 < (((List.length table) : Nat) : Int))) (((0 : Int) ≤ s.1.1) ∧ ((s.1.1 < (((List.length table) : Nat) : Int)) ∧ (((0 : Int) ≤ s1.1.1) ∧ ((s1.1.1 < (((List.length (List.getD table (Int.toNat s.1.1) ([] : List Int))) : Nat) : Int)) ∧ (((0 : Int) ≤ (List.getD (List.getD table (Int.toNat s.1.1) ([] : List Int)) (Int.toNat s1.1.1) (0 : Int))) ∧ (((List.getD (List.getD table (Int.toNat s.1.1) ([] : List Int)) (Int.toNat s1.1.1) (0 : Int)) < (((List.length table) : Nat) : Int)) ∧ (((0 : Int) ≤ s2.1.1) ∧ ((s2.1.1 < (((List.length (List.getD table (Int.toNat (List.getD (List.getD table (Int.toNat s.1.1) ([] : List Int)) (Int.toNat s1.1.1) (0 : Int))) ([] : List Int))) : Nat) : Int)) ∧ (((0 : Int) ≤ s.1.1) ∧ ((s.1.1 < (((List.length table) : Nat) : Int)) ∧ (((0 : Int) ≤ s1.1.1) ∧ ((s1.1.1 < (((List.length table) : Nat) : Int)) ∧ (((0 : Int) ≤ s2.1.1) ∧ ((s2.1.1 < (((List.length (List.getD table (Int.toNat s1.1.1) ([] : List Int))) : Nat) : Int)) ∧ (((0 : Int) ≤ (List.getD (List.getD table (Int.toNat s1.1.1) ([] : List Int)) (Int.toNat s2.1.1) (0 : Int))) ∧ (((List.getD (List.getD table (Int.toNat s1.1.1) ([] : List Int)) (Int.toNat s2.1.1) (0 : Int)) < (((List.length (List.getD table (Int.toNat s.1.1) ([] : List Int))) : Nat) : Int)) ∧ (cnd ((List.getD (List.getD table (Int.toNat (List.getD (List.getD table (Int.toNat s.1.1) ([] : List Int)) (Int.toNat s1.1.1) (0 : Int))) ([] : List Int)) (Int.toNat s2.1.1) (0 : Int)) != (List.getD (List.getD table (Int.toNat s.1.1) ([] : List Int)) (Int.toNat (List.getD (List.getD table (Int.toNat s1.1.1) ([] : List Int)) (Int.toNat s2.1.1) (0 : Int))) (0 : Int))) (K (Bool.false, ())) ((inK IntKind.i64 (s2.1.1 + (1 : Int))) ∧ (next2 (((s2.1.1 + (1 : Int)), ()), ())))))))))))))))))))) ((inK IntKind.i64 (s1.1.1 + (1 : Int))) ∧ (next1 (((s1.1.1 + (1 : Int)), ()), ()))))))) (((0 : Int), ()), ())) ((inK IntKind.i64 (s.1.1 + (1 : Int))) ∧ (next (((s.1.1 + (1 : Int)), ()), ()))))))) (((0 : Int), ()), ()))))))))) (K (Bool.true, ())))))) (((0 : Int), ()), ()))
theorem w_impl_isAssociative (x : denL c_impl_isAssociative.args) (K : Bool × Unit → Prop) : evF tab (lkp []) (cutL [(12, 27)]) Try.f80 (bodyOf Try.f80) (.s .n (.s (.s .n (.l [(10, (.d (.int .i64)))] [] [0, 1, 9] (.s .n (.s .n (.s (.s .n (.s .n (.s .n (.l [(35, (.d (.int .i64)))] [] [0, 1, 5, 9, 10, 34] (.s .n (.s .n (.s (.s .n (.s .n (.l [(40, (.d (.int .i64)))] [] [0, 1, 5, 6, 9, 10, 34, 35, 39] .n))) .n))))))) .n))))) .n)) c_impl_isAssociative x K = W_impl_isAssociative x.1 x.2.1 K := by kernel_rfl
theorem k_impl_isAssociative : okC Try.f80.ntmps (cutL [(12, 27)]) (bodyOf Try.f80) = true := by kernel_rfl
theorem m_impl_isAssociative (table : List (List Int)) (unit : Int) (hok : allP (okL c_impl_isAssociative.args (table, unit, ()))) (hpre : allP (c_impl_isAssociative.pre (table, unit, ()))) : W_impl_isAssociative table unit (fun r => r = c_impl_isAssociative.res (table, unit, ())) := by
  simp only [c_impl_isAssociative, okL, T.oks, T.ok, ap, allP, true_and, and_true, implies_true] at hok hpre
  try dsimp only [T.den] at hok
  try dsimp only [T.den] at hpre
  unfold W_impl_isAssociative
  have T := tab_at hpre.1
  have hl := hpre.2.1
  have u0 := hpre.2.2.1
  have u1 := hpre.2.2.2
  have bad : ¬ (assocR table unit = true) → (false, ()) = c_impl_isAssociative.res (table, unit, ()) := fun h => by
    simp only [c_impl_isAssociative]
    cases hs : assocR table unit with
    | false => rfl
    | true => exact absurd hs h
  have hat : ∀ i j : Int, (table.getD i.toNat []).getD j.toNat 0 = atR table i j := fun _ _ => rfl
  simp only [hat]
  have ru := T.2.1 unit u0 (by omega)
  refine loop_ix (n := table.length) (fun x => ∀ x' : Int, 0 ≤ x' → x' < x → (atR table x' unit = x' ∧ atR table unit x' = x') ∧ ∀ y : Int, 0 ≤ y → y < table.length → ∀ z : Int, 0 ≤ z → z < table.length → atR table (atR table x' y) z = atR table x' (atR table y z)) (by omega) (by intro y h0 h1; omega) ?_ ?_
  · intro x next h0 h1 hP hn hin
    dsimp only
    have rx := T.2.1 x h0 (by omega)
    refine cnd_d (fun _ => ⟨h0, h1, u0, by omega, fun _ => by omega, fun _ => by omega, cnd_of (fun hx => bad fun h => ?_) (fun hx => ?_)⟩) (fun h => absurd h1 h)
    · have := (assoc_iff.1 h x h0 h1).1
      rw [this.1, this.2] at hx; simp at hx
    simp only [Bool.or_eq_false_iff, bne_eq_false_iff_eq] at hx
    refine loop_ix (n := table.length) (fun y => ∀ y' : Int, 0 ≤ y' → y' < y → ∀ z : Int, 0 ≤ z → z < table.length → atR table (atR table x y') z = atR table x (atR table y' z)) (by omega) (by intro y h0 h1; omega) ?_ ?_
    · intro y next2 y0 y1 hP2 hn2 hin2
      dsimp only
      have ry := T.2.1 y y0 (by omega)
      have axy := T.2.2 x y h0 (by omega) y0 (by omega)
      have rxy := T.2.1 _ axy.1 (by omega)
      refine cnd_d (fun _ => ?_) (fun h => absurd y1 h)
      refine loop_ix (n := table.length) (fun z => ∀ z' : Int, 0 ≤ z' → z' < z → atR table (atR table x y) z' = atR table x (atR table y z')) (by omega) (by intro y h0 h1; omega) ?_ ?_
      · intro z next3 z0 z1 hP3 hn3 hin3
        dsimp only
        have ayz := T.2.2 y z y0 (by omega) z0 (by omega)
        refine cnd_d (fun _ => ⟨h0, h1, y0, by omega, axy.1, by omega, z0, by omega, h0, h1, y0, y1, z0, by omega, ayz.1, by omega, cnd_of (fun hx2 => bad fun h => ?_) (fun hx2 => ⟨by rw [inK64]; omega, hn3 fun z' a0 a1 => ?_⟩)⟩) (fun h => absurd z1 h)
        · rw [(assoc_iff.1 h x h0 h1).2 y y0 y1 z z0 z1] at hx2; simp at hx2
        · by_cases e : z' = z
          · rw [e]; simpa using hx2
          · exact hP3 z' a0 (by omega)
      · intro next3 hP3 hin3
        refine cnd_d (fun h => absurd h (by dsimp only; omega)) (fun _ => ⟨by rw [inK64]; omega, hn2 fun y' a0 a1 => ?_⟩)
        by_cases e : y' = y
        · rw [e]; exact hP3
        · exact hP2 y' a0 (by omega)
    · intro next2 hP2 hin2
      refine cnd_d (fun h => absurd h (by dsimp only; omega)) (fun _ => ⟨by rw [inK64]; omega, hn fun x' a0 a1 => ?_⟩)
      by_cases e : x' = x
      · rw [e]; exact ⟨hx, hP2⟩
      · exact hP x' a0 (by omega)
  · intro next hP hin
    refine cnd_d (fun h => absurd h (by dsimp only; omega)) (fun _ => ?_)
    simp only [c_impl_isAssociative]
    rw [assoc_iff.2 hP]
theorem ct_impl_isAssociative : CtOk Try.prog 80 c_impl_isAssociative :=
  ct_by (Φ := lkp []) good_nil tab_ok (by kernel_rfl) (fn := Try.f80) (c := bodyOf Try.f80) (by kernel_rfl) (by kernel_rfl) (by kernel_rfl) c_impl_isAssociative (.s .n (.s (.s .n (.l [(10, (.d (.int .i64)))] [] [0, 1, 9] (.s .n (.s .n (.s (.s .n (.s .n (.s .n (.l [(35, (.d (.int .i64)))] [] [0, 1, 5, 9, 10, 34] (.s .n (.s .n (.s (.s .n (.s .n (.l [(40, (.d (.int .i64)))] [] [0, 1, 5, 6, 9, 10, 34, 35, 39] .n))) .n))))))) .n))))) .n)) (cutL [(12, 27)]) (by kernel_rfl) (by kernel_rfl) k_impl_isAssociative (by decide) (fun x K => W_impl_isAssociative x.1 x.2.1 K) w_impl_isAssociative (fun x h1 h2 => m_impl_isAssociative x.1 x.2.1 h1 h2)
def monIds (m : MonoidalD) : Bool := allB m.1.1.toNat fun x => allB m.1.1.toNat fun y => decide (atR m.2.2.2 (m.1.2.2.2.1.getD x.toNat 0) (m.1.2.2.2.1.getD y.toNat 0) = m.1.2.2.2.1.getD (atR m.2.2.1 x y).toNat 0)
def monR (m : MonoidalD) : Bool := catR m.1 && inR m.2.1 0 (m.1.1 - 1) && tabR m.2.2.1 m.1.1 && tabR m.2.2.2 m.1.2.1.length && endsR m && monIds m && assocR m.2.2.1 m.2.1 && assocR m.2.2.2 (m.1.2.2.2.1.getD m.2.1.toNat 0) && interR m
structure MonP (m : MonoidalD) : Prop where
  cat : catR m.1 = true
  u : 0 ≤ m.2.1 ∧ m.2.1 < m.1.1
  ot : tabR m.2.2.1 m.1.1 = true
  at_ : tabR m.2.2.2 m.1.2.1.length = true
  ends : endsR m = true
  ids : monIds m = true
  oa : assocR m.2.2.1 m.2.1 = true
  aa : assocR m.2.2.2 (m.1.2.2.2.1.getD m.2.1.toNat 0) = true
  inter : interR m = true
theorem mon_iff {m : MonoidalD} : monR m = true ↔ MonP m := by
  simp only [monR, Bool.and_eq_true, inR, decide_eq_true_eq]
  constructor
  · rintro ⟨⟨⟨⟨⟨⟨⟨⟨h1, h2⟩, h3⟩, h4⟩, h5⟩, h6⟩, h7⟩, h8⟩, h9⟩
    exact ⟨h1, by omega, h3, h4, h5, h6, h7, h8, h9⟩
  · intro h
    exact ⟨⟨⟨⟨⟨⟨⟨⟨h.cat, by have := h.u; omega⟩, h.ot⟩, h.at_⟩, h.ends⟩, h.ids⟩, h.oa⟩, h.aa⟩, h.inter⟩
theorem ids_iff {m : MonoidalD} (S : ShapeP m.1) : monIds m = true ↔ ∀ x : Int, 0 ≤ x → x < m.1.1 → ∀ y : Int, 0 ≤ y → y < m.1.1 →
    atR m.2.2.2 (m.1.2.2.2.1.getD x.toNat 0) (m.1.2.2.2.1.getD y.toNat 0) = m.1.2.2.2.1.getD (atR m.2.2.1 x y).toNat 0 := by
  have e : ((m.1.1.toNat : Nat) : Int) = m.1.1 := by have := S.ob; omega
  simp only [monIds, allB_iff, decide_eq_true_eq, e]
theorem ids_idR {m : MonoidalD} (S : ShapeP m.1) (E : endsR m = true) : monIds m = true ↔ ∀ f : Int, 0 ≤ f → f < m.1.2.1.length → ∀ g : Int, 0 ≤ g → g < m.1.2.1.length →
    idR m.1 f = true → idR m.1 g = true → idR m.1 (atR m.2.2.2 f g) = true := by
  rw [ids_iff S]
  constructor
  · intro h f f0 f1 g g0 g1 hf hg
    have a := S.frm f0 f1
    have b := S.frm g0 g1
    have e := ends_iff.1 E f f0 f1 g g0 g1
    have := h _ a.1 a.2.1 _ b.1 b.2.1
    simp only [idR, beq_iff_eq] at hf hg ⊢
    rw [hf, hg] at this
    rw [e.1]; exact this.symm
  · intro h x x0 x1 y y0 y1
    have a := S.idn x0 x1
    have b := S.idn y0 y1
    have e := ends_iff.1 E _ a.1 a.2.1 _ b.1 b.2.1
    have := h _ a.1 a.2.1 _ b.1 b.2.1 (by simp only [idR, beq_iff_eq]; rw [a.2.2.1]) (by simp only [idR, beq_iff_eq]; rw [b.2.2.1])
    simp only [idR, beq_iff_eq] at this
    rw [e.1, a.2.2.1, b.2.2.1] at this
    exact this.symm

def c_impl_Monoidal_isMonoidal : Ct := ⟨[(.pt MonoidalT)], [false], fun x => [], [(false, (.fz .bool))], fun x => (monR x.1, ()), false⟩
def W_impl_Monoidal_isMonoidal (m : MonoidalD) (K : Bool × Unit → Prop) : Prop := ((((!(catR m.1)) = Bool.false) → (inK IntKind.i64 (m.1.1 - (1 : Int)))) ∧ (((((!(catR m.1)) || (!(inR m.2.1 (0 : Int) (m.1.1 - (1 : Int))))) = Bool.false) → (inK IntKind.i64 (m.1.1 - (1 : Int)))) ∧ ((((((!(catR m.1)) || (!(inR m.2.1 (0 : Int) (m.1.1 - (1 : Int))))) || (!(tabR m.2.2.1 m.1.1))) = Bool.false) → (inK IntKind.i64 ((((List.length m.1.2.1) : Nat) : Int) - (1 : Int)))) ∧ (cnd ((((!(catR m.1)) || (!(inR m.2.1 (0 : Int) (m.1.1 - (1 : Int))))) || (!(tabR m.2.2.1 m.1.1))) || (!(tabR m.2.2.2 (((List.length m.1.2.1) : Nat) : Int)))) (K (Bool.false, ())) (loopW (S := ((Int × Unit) × Unit)) (fun s => (fun next => ((inK IntKind.i64 s.1.1) → (cnd (decide (s.1.1 < (((List.length m.2.2.2) : Nat) : Int))) (((0 : Int) ≤ s.1.1) ∧ ((s.1.1 < (((List.length m.2.2.2) : Nat) : Int)) ∧ (loopW (S := ((Int × Unit) × Unit)) (fun s1 => (fun next1 => ((inK IntKind.i64 s1.1.1) → (cnd (decide (s1.1.1 < (((List.length (List.getD m.2.2.2 (Int.toNat s.1.1) ([] : List Int))) : Nat) : Int))) (((0 : Int) ≤ s1.1.1) ∧ ((s1.1.1 < (((List.length (List.getD m.2.2.2 (Int.toNat s.1.1) ([] : List Int))) : Nat) : Int)) ∧ (((0 : Int) ≤ (List.getD (List.getD m.2.2.2 (Int.toNat s.1.1) ([] : List Int)) (Int.toNat s1.1.1) (0 : Int))) ∧ (((List.getD (List.getD m.2.2.2 (Int.toNat s.1.1) ([] : List Int)) (Int.toNat s1.1.1) (0 : Int)) < (((List.length m.1.2.1) : Nat) : Int)) ∧ (((List.getD (List.getD m.2.2.2 (Int.toNat s.1.1) ([] : List Int)) (Int.toNat s1.1.1) (0 : Int)) < (((List.length m.1.2.2.1) : Nat) : Int)) ∧ (((0 : Int) ≤ s.1.1) ∧ ((s.1.1 < (((List.length m.1.2.1) : Nat) : Int)) ∧ (((0 : Int) ≤ (List.getD m.1.2.1 (Int.toNat s.1.1) (0 : Int))) ∧ (((List.getD m.1.2.1 (Int.toNat s.1.1) (0 : Int)) < (((List.length m.2.2.1) : Nat) : Int)) ∧ (((0 : Int) ≤ s1.1.1) ∧ ((s1.1.1 < (((List.length m.1.2.1) : Nat) : Int)) ∧ (((0 : Int) ≤ (List.getD m.1.2.1 (Int.toNat s1.1.1) (0 : Int))) ∧ (((List.getD m.1.2.1 (Int.toNat s1.1.1) (0 : Int)) < (((List.length (List.getD m.2.2.1 (Int.toNat (List.getD m.1.2.1 (Int.toNat s.1.1) (0 : Int))) ([] : List Int))) : Nat) : Int)) ∧ (((0 : Int) ≤ s.1.1) ∧ ((s.1.1 < (((List.length m.1.2.2.1) : Nat) : Int)) ∧ (((0 : Int) ≤ (List.getD m.1.2.2.1 (Int.toNat s.1.1) (0 : Int))) ∧ (((List.getD m.1.2.2.1 (Int.toNat s.1.1) (0 : Int)) < (((List.length m.2.2.1) : Nat) : Int)) ∧ (((0 : Int) ≤ s1.1.1) ∧ ((s1.1.1 < (((List.length m.1.2.2.1) : Nat) : Int)) ∧ (((0 : Int) ≤ (List.getD m.1.2.2.1 (Int.toNat s1.1.1) (0 : Int))) ∧ (((List.getD m.1.2.2.1 (Int.toNat s1.1.1) (0 : Int)) < (((List.length (List.getD m.2.2.1 (Int.toNat (List.getD m.1.2.2.1 (Int.toNat s.1.1) (0 : Int))) ([] : List Int))) : Nat) : Int)) ∧ (cnd (!(((List.getD m.1.2.1 (Int.toNat (List.getD (List.getD m.2.2.2 (Int.toNat s.1.1) ([] : List Int)) (Int.toNat s1.1.1) (0 : Int))) (0 : Int)) == (List.getD (List.getD m.2.2.1 (Int.toNat (List.getD m.1.2.1 (Int.toNat s.1.1) (0 : Int))) ([] : List Int)) (Int.toNat (List.getD m.1.2.1 (Int.toNat s1.1.1) (0 : Int))) (0 : Int))) && ((List.getD m.1.2.2.1 (Int.toNat (List.getD (List.getD m.2.2.2 (Int.toNat s.1.1) ([] : List Int)) (Int.toNat s1.1.1) (0 : Int))) (0 : Int)) == (List.getD (List.getD m.2.2.1 (Int.toNat (List.getD m.1.2.2.1 (Int.toNat s.1.1) (0 : Int))) ([] : List Int)) (Int.toNat (List.getD m.1.2.2.1 (Int.toNat s1.1.1) (0 : Int))) (0 : Int))))) (K (Bool.false, ())) ((ShapeP m.1) ∧ (((0 : Int) ≤ s.1.1) ∧ ((s.1.1 < (((List.length m.1.2.1) : Nat) : Int)) ∧ ((((idR m.1 s.1.1) = Bool.true) → (((0 : Int) ≤ s1.1.1) ∧ ((s1.1.1 < (((List.length m.1.2.1) : Nat) : Int)) ∧ (ShapeP m.1)))) ∧ (((((idR m.1 s.1.1) && (idR m.1 s1.1.1)) = Bool.true) → (((0 : Int) ≤ (List.getD (List.getD m.2.2.2 (Int.toNat s.1.1) ([] : List Int)) (Int.toNat s1.1.1) (0 : Int))) ∧ (((List.getD (List.getD m.2.2.2 (Int.toNat s.1.1) ([] : List Int)) (Int.toNat s1.1.1) (0 : Int)) < (((List.length m.1.2.1) : Nat) : Int)) ∧ (ShapeP m.1)))) ∧ (cnd (((idR m.1 s.1.1) && (idR m.1 s1.1.1)) && (!(idR m.1 (List.getD (List.getD m.2.2.2 (Int.toNat s.1.1) ([] : List Int)) (Int.toNat s1.1.1) (0 : Int))))) (K (Bool.false, ())) ((inK IntKind.i64 (s1.1.1 + (1 : Int))) ∧ (next1 (((s1.1.1 + (1 : Int)), ()), ()))))))))))))))))))))))))))))))) ((inK IntKind.i64 (s.1.1 + (1 : Int))) ∧ (next (((s.1.1 + (1 : Int)), ()), ()))))))) (((0 : Int), ()), ())))) (((tabR m.2.2.1 (((List.length m.2.2.1) : Nat) : Int)) = Bool.true) ∧ (((List.length m.2.2.1) ≤ 40) ∧ (((0 : Int) ≤ m.2.1) ∧ ((m.2.1 < (((List.length m.2.2.1) : Nat) : Int)) ∧ ((((assocR m.2.2.1 m.2.1) = Bool.true) → ((m.2.1 < (((List.length m.1.2.2.2.1) : Nat) : Int)) ∧ ((0 : Int) ≤ m.2.1))) ∧ ((((assocR m.2.2.1 m.2.1) = Bool.true) → (((List.length m.2.2.2) ≤ 40) ∧ (((0 : Int) ≤ (List.getD m.1.2.2.2.1 (Int.toNat m.2.1) (0 : Int))) ∧ (((List.getD m.1.2.2.2.1 (Int.toNat m.2.1) (0 : Int)) < (((List.length m.2.2.2) : Nat) : Int)) ∧ ((tabR m.2.2.2 (((List.length m.2.2.2) : Nat) : Int)) = Bool.true))))) ∧ (((((assocR m.2.2.1 m.2.1) && (assocR m.2.2.2 (List.getD m.1.2.2.2.1 (Int.toNat m.2.1) (0 : Int)))) = Bool.true) → (((tabR m.2.2.1 m.1.1) = Bool.true) ∧ (((tabR m.2.2.2 (((List.length m.1.2.1) : Nat) : Int)) = Bool.true) ∧ (ShapeP m.1)))) ∧ (K ((((assocR m.2.2.1 m.2.1) && (assocR m.2.2.2 (List.getD m.1.2.2.2.1 (Int.toNat m.2.1) (0 : Int)))) && (interR m)), ()))))))))))))) (((0 : Int), ()), ()))))))
theorem w_impl_Monoidal_isMonoidal (x : denL c_impl_Monoidal_isMonoidal.args) (K : Bool × Unit → Prop) : evF tab (lkp [(52, c_impl_Category_arrows), (79, c_impl_Category_ends), (77, c_impl_Category_isCategory), (69, c_impl_Category_isIdentity), (81, c_impl_Monoidal_interchanges), (57, c_impl_inRange), (80, c_impl_isAssociative), (78, c_impl_isTable)]) (cutL [(16, 31), (2, 38), (10, 49)]) Try.f50 (bodyOf Try.f50) (.s .n (.s .n (.s .n (.s (.s .n (.l [(54, (.d (.int .i64)))] [] [0, 3, 52, 53] (.s .n (.s .n (.s (.s .n (.s .n (.l [(61, (.d (.int .i64)))] [] [0, 3, 4, 52, 53, 54, 59, 60] .n))) .n))))) .n)))) c_impl_Monoidal_isMonoidal x K = W_impl_Monoidal_isMonoidal x.1 K := by kernel_rfl
theorem k_impl_Monoidal_isMonoidal : okC Try.f50.ntmps (cutL [(16, 31), (2, 38), (10, 49)]) (bodyOf Try.f50) = true := by kernel_rfl
theorem m_impl_Monoidal_isMonoidal (m : MonoidalD) (hok : allP (okL c_impl_Monoidal_isMonoidal.args (m, ()))) (hpre : allP (c_impl_Monoidal_isMonoidal.pre (m, ()))) : W_impl_Monoidal_isMonoidal m (fun r => r = c_impl_Monoidal_isMonoidal.res (m, ())) := by
  simp only [c_impl_Monoidal_isMonoidal, okL, T.oks, T.ok, ap, allP, true_and, and_true, implies_true] at hok hpre
  try dsimp only [T.den] at hok
  try dsimp only [T.den] at hpre
  unfold W_impl_Monoidal_isMonoidal
  have bad : ¬ MonP m → (false, ()) = c_impl_Monoidal_isMonoidal.res (m, ()) := fun h => by
    simp only [c_impl_Monoidal_isMonoidal]
    cases hs : monR m with
    | false => rfl
    | true => exact absurd (mon_iff.1 hs) h
  have hcs := fun h => (cat_shape (c := m.1) h).ob
  have hml : m.1.2.1.length ≤ 140737488355328 := by simp only [nb_eq] at hok; omega
  refine ⟨fun h => by grind [cnd, nb_eq, inK64], fun h => by grind [cnd, nb_eq, inK64], fun _ => by rw [inK64]; omega, cnd_of (fun hc => bad fun h => ?_) (fun hc => ?_)⟩
  · have h1 := h.cat; have h2 := h.u; have h3 := h.ot; have h4 := h.at_
    simp only [h1, h3, h4, inR] at hc
    grind [cnd, nb_eq, inK64]
  simp only [Bool.or_eq_false_iff, Bool.not_eq_false'] at hc
  obtain ⟨⟨⟨hcat, hu⟩, hot⟩, hat⟩ := hc
  have hu := inR_iff.1 hu
  have S := cat_shape hcat
  have O := tab_at hot
  have A := tab_at hat
  have hlt := S.lt
  have hli := S.li
  have hlc := S.lc
  have hmm := S.m
  have hob := S.ob
  have at1 : ∀ i j : Int, (m.2.2.2.getD i.toNat []).getD j.toNat 0 = atR m.2.2.2 i j := fun _ _ => rfl
  have at2 : ∀ i j : Int, (m.2.2.1.getD i.toNat []).getD j.toNat 0 = atR m.2.2.1 i j := fun _ _ => rfl
  simp only [at1, at2]
  refine loop_ix (n := m.2.2.2.length) (fun f => ∀ f' : Int, 0 ≤ f' → f' < f → ∀ g : Int, 0 ≤ g → g < m.1.2.1.length →
    (m.1.2.1.getD (atR m.2.2.2 f' g).toNat 0 = atR m.2.2.1 (m.1.2.1.getD f'.toNat 0) (m.1.2.1.getD g.toNat 0) ∧ m.1.2.2.1.getD (atR m.2.2.2 f' g).toNat 0 = atR m.2.2.1 (m.1.2.2.1.getD f'.toNat 0) (m.1.2.2.1.getD g.toNat 0)) ∧
    (idR m.1 f' = true → idR m.1 g = true → idR m.1 (atR m.2.2.2 f' g) = true)) (by omega) (by intro y h0 h1; omega) ?_ ?_
  · intro f next f0 f1 hP hn hin
    dsimp only
    have sf := S.frm f0 (by omega)
    have rf := A.2.1 f f0 (by omega)
    refine cnd_d (fun _ => ⟨f0, f1, ?_⟩) (fun h => absurd f1 h)
    refine loop_ix (n := (m.2.2.2.getD f.toNat []).length) (fun g => ∀ g' : Int, 0 ≤ g' → g' < g →
      (m.1.2.1.getD (atR m.2.2.2 f g').toNat 0 = atR m.2.2.1 (m.1.2.1.getD f.toNat 0) (m.1.2.1.getD g'.toNat 0) ∧ m.1.2.2.1.getD (atR m.2.2.2 f g').toNat 0 = atR m.2.2.1 (m.1.2.2.1.getD f.toNat 0) (m.1.2.2.1.getD g'.toNat 0)) ∧
      (idR m.1 f = true → idR m.1 g' = true → idR m.1 (atR m.2.2.2 f g') = true)) (by omega) (by intro y h0 h1; omega) ?_ ?_
    · intro g next2 g0 g1 hP2 hn2 hin2
      dsimp only
      have sg := S.frm g0 (by omega)
      have afg := A.2.2 f g f0 (by omega) g0 (by omega)
      have r1 := O.2.1 _ sf.1 sf.2.1
      have r2 := O.2.1 _ sf.2.2.1 sf.2.2.2
      refine cnd_d (fun _ => ⟨g0, g1, afg.1, by omega, by omega, f0, by omega, sf.1, by omega, g0, by omega, sg.1, by omega, f0, by omega, sf.2.2.1, by omega, g0, by omega, sg.2.2.1, by omega, cnd_of (fun hx => bad fun h => ?_) (fun hx => ⟨S, f0, by omega, fun _ => ⟨g0, by omega, S⟩, fun _ => ⟨afg.1, by omega, S⟩, cnd_of (fun hy => bad fun h => ?_) (fun hy => ⟨by rw [inK64]; omega, hn2 fun g' a0 a1 => ?_⟩)⟩)⟩) (fun h => absurd g1 h)
      · have := ends_iff.1 h.ends f f0 (by omega) g g0 (by omega)
        rw [this.1, this.2] at hx; simp at hx
      · simp only [Bool.and_eq_true, Bool.not_eq_true'] at hy
        rw [(ids_idR S h.ends).1 h.ids f f0 (by omega) g g0 (by omega) hy.1.1 hy.1.2] at hy
        cases hy.2
      · by_cases e : g' = g
        · rw [e]
          simp only [Bool.not_eq_false', Bool.and_eq_true, beq_iff_eq] at hx
          refine ⟨hx, fun i1 i2 => ?_⟩
          rw [i1, i2] at hy
          simpa using hy
        · exact hP2 g' a0 (by omega)
    · intro next2 hP2 hin2
      refine cnd_d (fun h => absurd h (by dsimp only; omega)) (fun _ => ⟨by rw [inK64]; omega, hn fun f' a0 a1 => ?_⟩)
      by_cases e : f' = f
      · rw [e]; exact fun g g0 g1 => hP2 g g0 (by omega)
      · exact hP f' a0 (by omega)
  · intro next hP hin
    have hE : endsR m = true := ends_iff.2 fun f f0 f1 g g0 g1 => (hP f f0 (by omega) g g0 g1).1
    have hI : monIds m = true := (ids_idR S hE).2 fun f f0 f1 g g0 g1 => (hP f f0 (by omega) g g0 g1).2
    have iu := S.idn hu.1 (by omega)
    have e1 : (m.2.2.1.length : Int) = m.1.1 := O.1
    have e2 : (m.2.2.2.length : Int) = m.1.2.1.length := A.1
    refine cnd_d (fun h => absurd h (by dsimp only; omega)) (fun _ => ⟨by rw [e1]; exact hot, by omega, hu.1, by omega, fun _ => ⟨by omega, hu.1⟩, fun _ => ⟨by omega, iu.1, by omega, by rw [e2]; exact hat⟩, fun _ => ⟨hot, hat, S⟩, ?_⟩)
    have hinr : inR m.2.1 0 (m.1.1 - 1) = true := inR_iff.2 hu
    simp only [c_impl_Monoidal_isMonoidal, monR, hcat, hinr, hot, hat, hE, hI, Bool.true_and]
theorem ct_impl_Monoidal_isMonoidal : CtOk Try.prog 50 c_impl_Monoidal_isMonoidal :=
  ct_by (Φ := lkp [(52, c_impl_Category_arrows), (79, c_impl_Category_ends), (77, c_impl_Category_isCategory), (69, c_impl_Category_isIdentity), (81, c_impl_Monoidal_interchanges), (57, c_impl_inRange), (80, c_impl_isAssociative), (78, c_impl_isTable)]) (good_cons ct_impl_Category_arrows (good_cons ct_impl_Category_ends (good_cons ct_impl_Category_isCategory (good_cons ct_impl_Category_isIdentity (good_cons ct_impl_Monoidal_interchanges (good_cons ct_impl_inRange (good_cons ct_impl_isAssociative (good_cons ct_impl_isTable good_nil)))))))) tab_ok (by kernel_rfl) (fn := Try.f50) (c := bodyOf Try.f50) (by kernel_rfl) (by kernel_rfl) (by kernel_rfl) c_impl_Monoidal_isMonoidal (.s .n (.s .n (.s .n (.s (.s .n (.l [(54, (.d (.int .i64)))] [] [0, 3, 52, 53] (.s .n (.s .n (.s (.s .n (.s .n (.l [(61, (.d (.int .i64)))] [] [0, 3, 4, 52, 53, 54, 59, 60] .n))) .n))))) .n)))) (cutL [(16, 31), (2, 38), (10, 49)]) (by kernel_rfl) (by kernel_rfl) k_impl_Monoidal_isMonoidal (by decide) (fun x K => W_impl_Monoidal_isMonoidal x.1 K) w_impl_Monoidal_isMonoidal (fun x h1 h2 => m_impl_Monoidal_isMonoidal x.1 h1 h2)
structure BtabP (m : MonoidalD) (b : List (List Int)) : Prop where
  len : (b.length : Int) = m.1.1
  row : ∀ x : Int, 0 ≤ x → x < m.1.1 → ((b.getD x.toNat []).length : Int) = m.1.1
  at_ : ∀ x y : Int, 0 ≤ x → x < m.1.1 → 0 ≤ y → y < m.1.1 → 0 ≤ atR b x y ∧ atR b x y < m.1.2.1.length
def natR (m : MonoidalD) (b : List (List Int)) : Bool := allB m.1.2.1.length fun f => allB m.1.2.1.length fun g =>
  decide (compR m.1 (atR m.2.2.2 f g) (atR b (m.1.2.2.1.getD f.toNat 0) (m.1.2.2.1.getD g.toNat 0)) = compR m.1 (atR b (m.1.2.1.getD f.toNat 0) (m.1.2.1.getD g.toNat 0)) (atR m.2.2.2 g f))
theorem nat_iff {m : MonoidalD} {b : List (List Int)} : natR m b = true ↔ ∀ f : Int, 0 ≤ f → f < m.1.2.1.length → ∀ g : Int, 0 ≤ g → g < m.1.2.1.length →
    compR m.1 (atR m.2.2.2 f g) (atR b (m.1.2.2.1.getD f.toNat 0) (m.1.2.2.1.getD g.toNat 0)) = compR m.1 (atR b (m.1.2.1.getD f.toNat 0) (m.1.2.1.getD g.toNat 0)) (atR m.2.2.2 g f) := by
  simp only [natR, allB_iff, decide_eq_true_eq]

def c_impl_Monoidal_isNaturalBraiding : Ct := ⟨[(.pt MonoidalT), (.sl (.sl (.int .i64)))], [false, false], fun x => [MonP x.1, BtabP x.1 x.2.1], [(false, (.fz .bool))], fun x => (natR x.1 x.2.1, ()), false⟩
def W_impl_Monoidal_isNaturalBraiding (m : MonoidalD) (b : List (List Int)) (K : Bool × Unit → Prop) : Prop := (loopW (S := ((Int × Unit) × Unit)) (fun s => (fun next => ((inK IntKind.i64 s.1.1) → (cnd (decide (s.1.1 < (((List.length m.1.2.1) : Nat) : Int))) (loopW (S := ((Int × Unit) × Unit)) (fun s1 => (fun next1 => ((inK IntKind.i64 s1.1.1) → (cnd (decide (s1.1.1 < (((List.length m.1.2.1) : Nat) : Int))) (((0 : Int) ≤ s.1.1) ∧ ((s.1.1 < (((List.length m.2.2.2) : Nat) : Int)) ∧ (((0 : Int) ≤ s1.1.1) ∧ ((s1.1.1 < (((List.length (List.getD m.2.2.2 (Int.toNat s.1.1) ([] : List Int))) : Nat) : Int)) ∧ (((0 : Int) ≤ s.1.1) ∧ ((s.1.1 < (((List.length m.1.2.2.1) : Nat) : Int)) ∧ (((0 : Int) ≤ (List.getD m.1.2.2.1 (Int.toNat s.1.1) (0 : Int))) ∧ (((List.getD m.1.2.2.1 (Int.toNat s.1.1) (0 : Int)) < (((List.length b) : Nat) : Int)) ∧ (((0 : Int) ≤ s1.1.1) ∧ ((s1.1.1 < (((List.length m.1.2.2.1) : Nat) : Int)) ∧ (((0 : Int) ≤ (List.getD m.1.2.2.1 (Int.toNat s1.1.1) (0 : Int))) ∧ (((List.getD m.1.2.2.1 (Int.toNat s1.1.1) (0 : Int)) < (((List.length (List.getD b (Int.toNat (List.getD m.1.2.2.1 (Int.toNat s.1.1) (0 : Int))) ([] : List Int))) : Nat) : Int)) ∧ (((0 : Int) ≤ (List.getD (List.getD m.2.2.2 (Int.toNat s.1.1) ([] : List Int)) (Int.toNat s1.1.1) (0 : Int))) ∧ (((List.getD (List.getD m.2.2.2 (Int.toNat s.1.1) ([] : List Int)) (Int.toNat s1.1.1) (0 : Int)) < (((List.length m.1.2.2.2.2) : Nat) : Int)) ∧ (((0 : Int) ≤ (List.getD (List.getD b (Int.toNat (List.getD m.1.2.2.1 (Int.toNat s.1.1) (0 : Int))) ([] : List Int)) (Int.toNat (List.getD m.1.2.2.1 (Int.toNat s1.1.1) (0 : Int))) (0 : Int))) ∧ (((List.getD (List.getD b (Int.toNat (List.getD m.1.2.2.1 (Int.toNat s.1.1) (0 : Int))) ([] : List Int)) (Int.toNat (List.getD m.1.2.2.1 (Int.toNat s1.1.1) (0 : Int))) (0 : Int)) < (((List.length (List.getD m.1.2.2.2.2 (Int.toNat (List.getD (List.getD m.2.2.2 (Int.toNat s.1.1) ([] : List Int)) (Int.toNat s1.1.1) (0 : Int))) ([] : List Int))) : Nat) : Int)) ∧ (((0 : Int) ≤ s.1.1) ∧ ((s.1.1 < (((List.length m.1.2.1) : Nat) : Int)) ∧ (((0 : Int) ≤ (List.getD m.1.2.1 (Int.toNat s.1.1) (0 : Int))) ∧ (((List.getD m.1.2.1 (Int.toNat s.1.1) (0 : Int)) < (((List.length b) : Nat) : Int)) ∧ (((0 : Int) ≤ s1.1.1) ∧ ((s1.1.1 < (((List.length m.1.2.1) : Nat) : Int)) ∧ (((0 : Int) ≤ (List.getD m.1.2.1 (Int.toNat s1.1.1) (0 : Int))) ∧ (((List.getD m.1.2.1 (Int.toNat s1.1.1) (0 : Int)) < (((List.length (List.getD b (Int.toNat (List.getD m.1.2.1 (Int.toNat s.1.1) (0 : Int))) ([] : List Int))) : Nat) : Int)) ∧ (((0 : Int) ≤ s1.1.1) ∧ ((s1.1.1 < (((List.length m.2.2.2) : Nat) : Int)) ∧ (((0 : Int) ≤ s.1.1) ∧ ((s.1.1 < (((List.length (List.getD m.2.2.2 (Int.toNat s1.1.1) ([] : List Int))) : Nat) : Int)) ∧ (((0 : Int) ≤ (List.getD (List.getD b (Int.toNat (List.getD m.1.2.1 (Int.toNat s.1.1) (0 : Int))) ([] : List Int)) (Int.toNat (List.getD m.1.2.1 (Int.toNat s1.1.1) (0 : Int))) (0 : Int))) ∧ (((List.getD (List.getD b (Int.toNat (List.getD m.1.2.1 (Int.toNat s.1.1) (0 : Int))) ([] : List Int)) (Int.toNat (List.getD m.1.2.1 (Int.toNat s1.1.1) (0 : Int))) (0 : Int)) < (((List.length m.1.2.2.2.2) : Nat) : Int)) ∧ (((0 : Int) ≤ (List.getD (List.getD m.2.2.2 (Int.toNat s1.1.1) ([] : List Int)) (Int.toNat s.1.1) (0 : Int))) ∧ (((List.getD (List.getD m.2.2.2 (Int.toNat s1.1.1) ([] : List Int)) (Int.toNat s.1.1) (0 : Int)) < (((List.length (List.getD m.1.2.2.2.2 (Int.toNat (List.getD (List.getD b (Int.toNat (List.getD m.1.2.1 (Int.toNat s.1.1) (0 : Int))) ([] : List Int)) (Int.toNat (List.getD m.1.2.1 (Int.toNat s1.1.1) (0 : Int))) (0 : Int))) ([] : List Int))) : Nat) : Int)) ∧ (cnd ((compR m.1 (List.getD (List.getD m.2.2.2 (Int.toNat s.1.1) ([] : List Int)) (Int.toNat s1.1.1) (0 : Int)) (List.getD (List.getD b (Int.toNat (List.getD m.1.2.2.1 (Int.toNat s.1.1) (0 : Int))) ([] : List Int)) (Int.toNat (List.getD m.1.2.2.1 (Int.toNat s1.1.1) (0 : Int))) (0 : Int))) != (compR m.1 (List.getD (List.getD b (Int.toNat (List.getD m.1.2.1 (Int.toNat s.1.1) (0 : Int))) ([] : List Int)) (Int.toNat (List.getD m.1.2.1 (Int.toNat s1.1.1) (0 : Int))) (0 : Int)) (List.getD (List.getD m.2.2.2 (Int.toNat s1.1.1) ([] : List Int)) (Int.toNat s.1.1) (0 : Int)))) (K (Bool.false, ())) ((inK IntKind.i64 (s1.1.1 + (1 : Int))) ∧ (next1 (((s1.1.1 + (1 : Int)), ()), ())))))))))))))))))))))))))))))))))))) ((inK IntKind.i64 (s.1.1 + (1 : Int))) ∧ (next (((s.1.1 + (1 : Int)), ()), ()))))))) (((0 : Int), ()), ())) (K (Bool.true, ())))))) (((0 : Int), ()), ()))
theorem w_impl_Monoidal_isNaturalBraiding (x : denL c_impl_Monoidal_isNaturalBraiding.args) (K : Bool × Unit → Prop) : evF tab (lkp [(70, c_impl_Category_then)]) (cutL [(8, 63)]) Try.f91 (bodyOf Try.f91) (.s .n (.s .n (.s (.s .n (.l [(16, (.d (.int .i64)))] [] [0, 1, 5, 15] (.s .n (.s .n (.s (.s .n (.s .n (.l [(24, (.d (.int .i64)))] [] [0, 1, 5, 6, 15, 16, 23] .n))) .n))))) .n))) c_impl_Monoidal_isNaturalBraiding x K = W_impl_Monoidal_isNaturalBraiding x.1 x.2.1 K := by kernel_rfl
theorem k_impl_Monoidal_isNaturalBraiding : okC Try.f91.ntmps (cutL [(8, 63)]) (bodyOf Try.f91) = true := by kernel_rfl
theorem m_impl_Monoidal_isNaturalBraiding (m : MonoidalD) (b : List (List Int)) (hok : allP (okL c_impl_Monoidal_isNaturalBraiding.args (m, b, ()))) (hpre : allP (c_impl_Monoidal_isNaturalBraiding.pre (m, b, ()))) : W_impl_Monoidal_isNaturalBraiding m b (fun r => r = c_impl_Monoidal_isNaturalBraiding.res (m, b, ())) := by
  simp only [c_impl_Monoidal_isNaturalBraiding, okL, T.oks, T.ok, ap, allP, true_and, and_true, implies_true] at hok hpre
  try dsimp only [T.den] at hok
  try dsimp only [T.den] at hpre
  unfold W_impl_Monoidal_isNaturalBraiding
  have P : MonP m := hpre.1
  have B : BtabP m b := hpre.2
  have S := cat_shape P.cat
  have O := tab_at P.ot
  have A := tab_at P.at_
  have hob := S.ob
  have hlt := S.lt
  have hli := S.li
  have hlc := S.lc
  have hmm := S.m
  have hbl := B.len
  have at1 : ∀ i j : Int, (m.2.2.2.getD i.toNat []).getD j.toNat 0 = atR m.2.2.2 i j := fun _ _ => rfl
  have at2 : ∀ i j : Int, (m.2.2.1.getD i.toNat []).getD j.toNat 0 = atR m.2.2.1 i j := fun _ _ => rfl
  have at4 : ∀ i j : Int, (b.getD i.toNat []).getD j.toNat 0 = atR b i j := fun _ _ => rfl
  have bad : ¬ (natR m b = true) → (false, ()) = c_impl_Monoidal_isNaturalBraiding.res (m, b, ()) := fun h => by
    simp only [c_impl_Monoidal_isNaturalBraiding]
    cases hs : natR m b with
    | false => rfl
    | true => exact absurd hs h
  refine loop_ix (n := m.1.2.1.length) (fun f => ∀ f' : Int, 0 ≤ f' → f' < f → ∀ g : Int, 0 ≤ g → g < m.1.2.1.length →
    compR m.1 (atR m.2.2.2 f' g) (atR b (m.1.2.2.1.getD f'.toNat 0) (m.1.2.2.1.getD g.toNat 0)) = compR m.1 (atR b (m.1.2.1.getD f'.toNat 0) (m.1.2.1.getD g.toNat 0)) (atR m.2.2.2 g f')) (by omega) (by intro y h0 h1; omega) ?_ ?_
  · intro f next f0 f1 hP hn hin
    dsimp only
    refine cnd_d (fun _ => ?_) (fun h => absurd f1 h)
    refine loop_ix (n := m.1.2.1.length) (fun g => ∀ g' : Int, 0 ≤ g' → g' < g →
      compR m.1 (atR m.2.2.2 f g') (atR b (m.1.2.2.1.getD f.toNat 0) (m.1.2.2.1.getD g'.toNat 0)) = compR m.1 (atR b (m.1.2.1.getD f.toNat 0) (m.1.2.1.getD g'.toNat 0)) (atR m.2.2.2 g' f)) (by omega) (by intro y h0 h1; omega) ?_ ?_
    · intro g next2 g0 g1 hP2 hn2 hin2
      dsimp only
      simp only [at1, at4]
      have sf := S.frm f0 f1
      have sg := S.frm g0 g1
      have afg := A.2.2 f g f0 f1 g0 g1
      have agf := A.2.2 g f g0 g1 f0 f1
      have rf := A.2.1 f f0 f1
      have rg := A.2.1 g g0 g1
      have bt := B.at_ _ _ sf.2.2.1 sf.2.2.2 sg.2.2.1 sg.2.2.2
      have bf := B.at_ _ _ sf.1 sf.2.1 sg.1 sg.2.1
      have rt := B.row _ sf.2.2.1 sf.2.2.2
      have rb := B.row _ sf.1 sf.2.1
      have c1 := S.row _ afg.1 afg.2
      have c2 := S.row _ bf.1 bf.2
      refine cnd_d (fun _ => ?_) (fun h => absurd g1 h)
      repeat' (with_reducible apply And.intro)
      all_goals first | omega | (intro _; omega) | skip
      refine cnd_of (fun hx => bad fun h => ?_) (fun hx => ⟨by rw [inK64]; omega, hn2 fun g' a0 a1 => ?_⟩)
      · rw [nat_iff.1 h f f0 f1 g g0 g1] at hx; simp at hx
      · by_cases e : g' = g
        · rw [e]; simpa only [bne_eq_false_iff_eq] using hx
        · exact hP2 g' a0 (by omega)
    · intro next2 hP2 hin2
      refine cnd_d (fun h => absurd h (by dsimp only; omega)) (fun _ => ⟨by rw [inK64]; omega, hn fun f' a0 a1 => ?_⟩)
      by_cases e : f' = f
      · rw [e]; exact hP2
      · exact hP f' a0 (by omega)
  · intro next hP hin
    refine cnd_d (fun h => absurd h (by dsimp only; omega)) (fun _ => ?_)
    simp only [c_impl_Monoidal_isNaturalBraiding]
    rw [nat_iff.2 hP]
theorem ct_impl_Monoidal_isNaturalBraiding : CtOk Try.prog 91 c_impl_Monoidal_isNaturalBraiding :=
  ct_by (Φ := lkp [(70, c_impl_Category_then)]) (good_cons ct_impl_Category_then good_nil) tab_ok (by kernel_rfl) (fn := Try.f91) (c := bodyOf Try.f91) (by kernel_rfl) (by kernel_rfl) (by kernel_rfl) c_impl_Monoidal_isNaturalBraiding (.s .n (.s .n (.s (.s .n (.l [(16, (.d (.int .i64)))] [] [0, 1, 5, 15] (.s .n (.s .n (.s (.s .n (.s .n (.l [(24, (.d (.int .i64)))] [] [0, 1, 5, 6, 15, 16, 23] .n))) .n))))) .n))) (cutL [(8, 63)]) (by kernel_rfl) (by kernel_rfl) k_impl_Monoidal_isNaturalBraiding (by decide) (fun x K => W_impl_Monoidal_isNaturalBraiding x.1 x.2.1 K) w_impl_Monoidal_isNaturalBraiding (fun x h1 h2 => m_impl_Monoidal_isNaturalBraiding x.1 x.2.1 h1 h2)
def hexI (m : MonoidalD) (b : List (List Int)) (x y z : Int) : Bool :=
  atR b x (atR m.2.2.1 y z) == compR m.1 (atR m.2.2.2 (atR b x y) (m.1.2.2.2.1.getD z.toNat 0)) (atR m.2.2.2 (m.1.2.2.2.1.getD y.toNat 0) (atR b x z)) &&
  atR b (atR m.2.2.1 x y) z == compR m.1 (atR m.2.2.2 (m.1.2.2.2.1.getD x.toNat 0) (atR b y z)) (atR m.2.2.2 (atR b x z) (m.1.2.2.2.1.getD y.toNat 0))
def hexR (m : MonoidalD) (b : List (List Int)) : Bool := allB m.1.1.toNat fun x => allB m.1.1.toNat fun y => allB m.1.1.toNat fun z => hexI m b x y z
theorem hex_iff {m : MonoidalD} {b : List (List Int)} (h : 0 ≤ m.1.1) : hexR m b = true ↔ ∀ x : Int, 0 ≤ x → x < m.1.1 → ∀ y : Int, 0 ≤ y → y < m.1.1 → ∀ z : Int, 0 ≤ z → z < m.1.1 → hexI m b x y z = true := by
  have e : ((m.1.1.toNat : Nat) : Int) = m.1.1 := by omega
  simp only [hexR, allB_iff, e]

def c_impl_Monoidal_isHexagonal : Ct := ⟨[(.pt MonoidalT), (.sl (.sl (.int .i64)))], [false, false], fun x => [MonP x.1, BtabP x.1 x.2.1], [(false, (.fz .bool))], fun x => (hexR x.1 x.2.1, ()), false⟩
def W_impl_Monoidal_isHexagonal (m : MonoidalD) (b : List (List Int)) (K : Bool × Unit → Prop) : Prop := (loopW (S := ((Int × Unit) × Unit)) (fun s => (fun next => ((inK IntKind.i64 s.1.1) → (cnd (decide (s.1.1 < (((List.length m.1.2.2.2.1) : Nat) : Int))) (((0 : Int) ≤ s.1.1) ∧ ((s.1.1 < (((List.length m.1.2.2.2.1) : Nat) : Int)) ∧ (loopW (S := ((Int × Unit) × Unit)) (fun s1 => (fun next1 => ((inK IntKind.i64 s1.1.1) → (cnd (decide (s1.1.1 < (((List.length m.1.2.2.2.1) : Nat) : Int))) (((0 : Int) ≤ s1.1.1) ∧ ((s1.1.1 < (((List.length m.1.2.2.2.1) : Nat) : Int)) ∧ (loopW (S := ((Int × Unit) × Unit)) (fun s2 => (fun next2 => ((inK IntKind.i64 s2.1.1) → (cnd (decide (s2.1.1 < (((List.length m.1.2.2.2.1) : Nat) : Int))) (((0 : Int) ≤ s2.1.1) ∧ ((s2.1.1 < (((List.length m.1.2.2.2.1) : Nat) : Int)) ∧ (((0 : Int) ≤ s.1.1) ∧ ((s.1.1 < (((List.length b) : Nat) : Int)) ∧ (((0 : Int) ≤ s1.1.1) ∧ ((s1.1.1 < (((List.length m.2.2.1) : Nat) : Int)) ∧ (((0 : Int) ≤ s2.1.1) ∧ ((s2.1.1 < (((List.length (List.getD m.2.2.1 (Int.toNat s1.1.1) ([] : List Int))) : Nat) : Int)) ∧ (((0 : Int) ≤ (List.getD (List.getD m.2.2.1 (Int.toNat s1.1.1) ([] : List Int)) (Int.toNat s2.1.1) (0 : Int))) ∧ (((List.getD (List.getD m.2.2.1 (Int.toNat s1.1.1) ([] : List Int)) (Int.toNat s2.1.1) (0 : Int)) < (((List.length (List.getD b (Int.toNat s.1.1) ([] : List Int))) : Nat) : Int)) ∧ (((0 : Int) ≤ s.1.1) ∧ ((s.1.1 < (((List.length b) : Nat) : Int)) ∧ (((0 : Int) ≤ s1.1.1) ∧ ((s1.1.1 < (((List.length (List.getD b (Int.toNat s.1.1) ([] : List Int))) : Nat) : Int)) ∧ (((0 : Int) ≤ (List.getD (List.getD b (Int.toNat s.1.1) ([] : List Int)) (Int.toNat s1.1.1) (0 : Int))) ∧ (((List.getD (List.getD b (Int.toNat s.1.1) ([] : List Int)) (Int.toNat s1.1.1) (0 : Int)) < (((List.length m.2.2.2) : Nat) : Int)) ∧ (((0 : Int) ≤ (List.getD m.1.2.2.2.1 (Int.toNat s2.1.1) (0 : Int))) ∧ (((List.getD m.1.2.2.2.1 (Int.toNat s2.1.1) (0 : Int)) < (((List.length (List.getD m.2.2.2 (Int.toNat (List.getD (List.getD b (Int.toNat s.1.1) ([] : List Int)) (Int.toNat s1.1.1) (0 : Int))) ([] : List Int))) : Nat) : Int)) ∧ (((0 : Int) ≤ (List.getD m.1.2.2.2.1 (Int.toNat s1.1.1) (0 : Int))) ∧ (((List.getD m.1.2.2.2.1 (Int.toNat s1.1.1) (0 : Int)) < (((List.length m.2.2.2) : Nat) : Int)) ∧ (((0 : Int) ≤ s.1.1) ∧ ((s.1.1 < (((List.length b) : Nat) : Int)) ∧ (((0 : Int) ≤ s2.1.1) ∧ ((s2.1.1 < (((List.length (List.getD b (Int.toNat s.1.1) ([] : List Int))) : Nat) : Int)) ∧ (((0 : Int) ≤ (List.getD (List.getD b (Int.toNat s.1.1) ([] : List Int)) (Int.toNat s2.1.1) (0 : Int))) ∧ (((List.getD (List.getD b (Int.toNat s.1.1) ([] : List Int)) (Int.toNat s2.1.1) (0 : Int)) < (((List.length (List.getD m.2.2.2 (Int.toNat (List.getD m.1.2.2.2.1 (Int.toNat s1.1.1) (0 : Int))) ([] : List Int))) : Nat) : Int)) ∧ (((0 : Int) ≤ (List.getD (List.getD m.2.2.2 (Int.toNat (List.getD (List.getD b (Int.toNat s.1.1) ([] : List Int)) (Int.toNat s1.1.1) (0 : Int))) ([] : List Int)) (Int.toNat (List.getD m.1.2.2.2.1 (Int.toNat s2.1.1) (0 : Int))) (0 : Int))) ∧ (((List.getD (List.getD m.2.2.2 (Int.toNat (List.getD (List.getD b (Int.toNat s.1.1) ([] : List Int)) (Int.toNat s1.1.1) (0 : Int))) ([] : List Int)) (Int.toNat (List.getD m.1.2.2.2.1 (Int.toNat s2.1.1) (0 : Int))) (0 : Int)) < (((List.length m.1.2.2.2.2) : Nat) : Int)) ∧ (((0 : Int) ≤ (List.getD (List.getD m.2.2.2 (Int.toNat (List.getD m.1.2.2.2.1 (Int.toNat s1.1.1) (0 : Int))) ([] : List Int)) (Int.toNat (List.getD (List.getD b (Int.toNat s.1.1) ([] : List Int)) (Int.toNat s2.1.1) (0 : Int))) (0 : Int))) ∧ (((List.getD (List.getD m.2.2.2 (Int.toNat (List.getD m.1.2.2.2.1 (Int.toNat s1.1.1) (0 : Int))) ([] : List Int)) (Int.toNat (List.getD (List.getD b (Int.toNat s.1.1) ([] : List Int)) (Int.toNat s2.1.1) (0 : Int))) (0 : Int)) < (((List.length (List.getD m.1.2.2.2.2 (Int.toNat (List.getD (List.getD m.2.2.2 (Int.toNat (List.getD (List.getD b (Int.toNat s.1.1) ([] : List Int)) (Int.toNat s1.1.1) (0 : Int))) ([] : List Int)) (Int.toNat (List.getD m.1.2.2.2.1 (Int.toNat s2.1.1) (0 : Int))) (0 : Int))) ([] : List Int))) : Nat) : Int)) ∧ (cnd ((List.getD (List.getD b (Int.toNat s.1.1) ([] : List Int)) (Int.toNat (List.getD (List.getD m.2.2.1 (Int.toNat s1.1.1) ([] : List Int)) (Int.toNat s2.1.1) (0 : Int))) (0 : Int)) != (compR m.1 (List.getD (List.getD m.2.2.2 (Int.toNat (List.getD (List.getD b (Int.toNat s.1.1) ([] : List Int)) (Int.toNat s1.1.1) (0 : Int))) ([] : List Int)) (Int.toNat (List.getD m.1.2.2.2.1 (Int.toNat s2.1.1) (0 : Int))) (0 : Int)) (List.getD (List.getD m.2.2.2 (Int.toNat (List.getD m.1.2.2.2.1 (Int.toNat s1.1.1) (0 : Int))) ([] : List Int)) (Int.toNat (List.getD (List.getD b (Int.toNat s.1.1) ([] : List Int)) (Int.toNat s2.1.1) (0 : Int))) (0 : Int)))) (K (Bool.false, ())) (((0 : Int) ≤ s.1.1) ∧ ((s.1.1 < (((List.length m.2.2.1) : Nat) : Int)) ∧ (((0 : Int) ≤ s1.1.1) ∧ ((s1.1.1 < (((List.length (List.getD m.2.2.1 (Int.toNat s.1.1) ([] : List Int))) : Nat) : Int)) ∧ (((0 : Int) ≤ (List.getD (List.getD m.2.2.1 (Int.toNat s.1.1) ([] : List Int)) (Int.toNat s1.1.1) (0 : Int))) ∧ (((List.getD (List.getD m.2.2.1 (Int.toNat s.1.1) ([] : List Int)) (Int.toNat s1.1.1) (0 : Int)) < (((List.length b) : Nat) : Int)) ∧ (((0 : Int) ≤ s2.1.1) ∧ ((s2.1.1 < (((List.length (List.getD b (Int.toNat (List.getD (List.getD m.2.2.1 (Int.toNat s.1.1) ([] : List Int)) (Int.toNat s1.1.1) (0 : Int))) ([] : List Int))) : Nat) : Int)) ∧ (((0 : Int) ≤ (List.getD m.1.2.2.2.1 (Int.toNat s.1.1) (0 : Int))) ∧ (((List.getD m.1.2.2.2.1 (Int.toNat s.1.1) (0 : Int)) < (((List.length m.2.2.2) : Nat) : Int)) ∧ (((0 : Int) ≤ s1.1.1) ∧ ((s1.1.1 < (((List.length b) : Nat) : Int)) ∧ (((0 : Int) ≤ s2.1.1) ∧ ((s2.1.1 < (((List.length (List.getD b (Int.toNat s1.1.1) ([] : List Int))) : Nat) : Int)) ∧ (((0 : Int) ≤ (List.getD (List.getD b (Int.toNat s1.1.1) ([] : List Int)) (Int.toNat s2.1.1) (0 : Int))) ∧ (((List.getD (List.getD b (Int.toNat s1.1.1) ([] : List Int)) (Int.toNat s2.1.1) (0 : Int)) < (((List.length (List.getD m.2.2.2 (Int.toNat (List.getD m.1.2.2.2.1 (Int.toNat s.1.1) (0 : Int))) ([] : List Int))) : Nat) : Int)) ∧ (((0 : Int) ≤ s.1.1) ∧ ((s.1.1 < (((List.length b) : Nat) : Int)) ∧ (((0 : Int) ≤ s2.1.1) ∧ ((s2.1.1 < (((List.length (List.getD b (Int.toNat s.1.1) ([] : List Int))) : Nat) : Int)) ∧ (((0 : Int) ≤ (List.getD (List.getD b (Int.toNat s.1.1) ([] : List Int)) (Int.toNat s2.1.1) (0 : Int))) ∧ (((List.getD (List.getD b (Int.toNat s.1.1) ([] : List Int)) (Int.toNat s2.1.1) (0 : Int)) < (((List.length m.2.2.2) : Nat) : Int)) ∧ (((0 : Int) ≤ (List.getD m.1.2.2.2.1 (Int.toNat s1.1.1) (0 : Int))) ∧ (((List.getD m.1.2.2.2.1 (Int.toNat s1.1.1) (0 : Int)) < (((List.length (List.getD m.2.2.2 (Int.toNat (List.getD (List.getD b (Int.toNat s.1.1) ([] : List Int)) (Int.toNat s2.1.1) (0 : Int))) ([] : List Int))) : Nat) : Int)) ∧ (((0 : Int) ≤ (List.getD (List.getD m.2.2.2 (Int.toNat (List.getD m.1.2.2.2.1 (Int.toNat s.1.1) (0 : Int))) ([] : List Int)) (Int.toNat (List.getD (List.getD b (Int.toNat s1.1.1) ([] : List Int)) (Int.toNat s2.1.1) (0 : Int))) (0 : Int))) ∧ (((List.getD (List.getD m.2.2.2 (Int.toNat (List.getD m.1.2.2.2.1 (Int.toNat s.1.1) (0 : Int))) ([] : List Int)) (Int.toNat (List.getD (List.getD b (Int.toNat s1.1.1) ([] : List Int)) (Int.toNat s2.1.1) (0 : Int))) (0 : Int)) < (((List.length m.1.2.2.2.2) : Nat) : Int)) ∧ (((0 : Int) ≤ (List.getD (List.getD m.2.2.2 (Int.toNat (List.getD (List.getD b (Int.toNat s.1.1) ([] : List Int)) (Int.toNat s2.1.1) (0 : Int))) ([] : List Int)) (Int.toNat (List.getD m.1.2.2.2.1 (Int.toNat s1.1.1) (0 : Int))) (0 : Int))) ∧ (((List.getD (List.getD m.2.2.2 (Int.toNat (List.getD (List.getD b (Int.toNat s.1.1) ([] : List Int)) (Int.toNat s2.1.1) (0 : Int))) ([] : List Int)) (Int.toNat (List.getD m.1.2.2.2.1 (Int.toNat s1.1.1) (0 : Int))) (0 : Int)) < (((List.length (List.getD m.1.2.2.2.2 (Int.toNat (List.getD (List.getD m.2.2.2 (Int.toNat (List.getD m.1.2.2.2.1 (Int.toNat s.1.1) (0 : Int))) ([] : List Int)) (Int.toNat (List.getD (List.getD b (Int.toNat s1.1.1) ([] : List Int)) (Int.toNat s2.1.1) (0 : Int))) (0 : Int))) ([] : List Int))) : Nat) : Int)) ∧ (cnd ((List.getD (List.getD b (Int.toNat (List.getD (List.getD m.2.2.1 (Int.toNat s.1.1) ([] : List Int)) (Int.toNat s1.1.1) (0 : Int))) ([] : List Int)) (Int.toNat s2.1.1) (0 : Int)) != (compR m.1 (List.getD (List.getD m.2.2.2 (Int.toNat (List.getD m.1.2.2.2.1 (Int.toNat s.1.1) (0 : Int))) ([] : List Int)) (Int.toNat (List.getD (List.getD b (Int.toNat s1.1.1) ([] : List Int)) (Int.toNat s2.1.1) (0 : Int))) (0 : Int)) (List.getD (List.getD m.2.2.2 (Int.toNat (List.getD (List.getD b (Int.toNat s.1.1) ([] : List Int)) (Int.toNat s2.1.1) (0 : Int))) ([] : List Int)) (Int.toNat (List.getD m.1.2.2.2.1 (Int.toNat s1.1.1) (0 : Int))) (0 : Int)))) (K (Bool.false, ())) ((inK IntKind.i64 (s2.1.1 + (1 : Int))) ∧ (next2 (((s2.1.1 + (1 : Int)), ()), ()))))))))))))))))))))))))))))))))))))))))))))))))))))))))))))))) ((inK IntKind.i64 (s1.1.1 + (1 : Int))) ∧ (next1 (((s1.1.1 + (1 : Int)), ()), ()))))))) (((0 : Int), ()), ())))) ((inK IntKind.i64 (s.1.1 + (1 : Int))) ∧ (next (((s.1.1 + (1 : Int)), ()), ()))))))) (((0 : Int), ()), ())))) (K (Bool.true, ())))))) (((0 : Int), ()), ()))
theorem w_impl_Monoidal_isHexagonal (x : denL c_impl_Monoidal_isHexagonal.args) (K : Bool × Unit → Prop) : evF tab (lkp [(70, c_impl_Category_then)]) (cutL [(11, 51), (13, 51)]) Try.f92 (bodyOf Try.f92) (.s .n (.s .n (.s (.s .n (.l [(20, (.d (.int .i64)))] [] [0, 1, 5, 18, 19] (.s .n (.s .n (.s (.s .n (.s .n (.l [(30, (.d (.int .i64)))] [] [0, 1, 5, 6, 7, 18, 19, 20, 28, 29] (.s .n (.s .n (.s (.s .n (.s .n (.l [(40, (.d (.int .i64)))] [] [0, 1, 5, 6, 7, 8, 9, 18, 19, 20, 28, 29, 30, 38, 39] .n))) .n)))))) .n))))) .n))) c_impl_Monoidal_isHexagonal x K = W_impl_Monoidal_isHexagonal x.1 x.2.1 K := by kernel_rfl
theorem k_impl_Monoidal_isHexagonal : okC Try.f92.ntmps (cutL [(11, 51), (13, 51)]) (bodyOf Try.f92) = true := by kernel_rfl
theorem m_impl_Monoidal_isHexagonal (m : MonoidalD) (b : List (List Int)) (hok : allP (okL c_impl_Monoidal_isHexagonal.args (m, b, ()))) (hpre : allP (c_impl_Monoidal_isHexagonal.pre (m, b, ()))) : W_impl_Monoidal_isHexagonal m b (fun r => r = c_impl_Monoidal_isHexagonal.res (m, b, ())) := by
  simp only [c_impl_Monoidal_isHexagonal, okL, T.oks, T.ok, ap, allP, true_and, and_true, implies_true] at hok hpre
  try dsimp only [T.den] at hok
  try dsimp only [T.den] at hpre
  unfold W_impl_Monoidal_isHexagonal
  have P : MonP m := hpre.1
  have B : BtabP m b := hpre.2
  have S := cat_shape P.cat
  have O := tab_at P.ot
  have A := tab_at P.at_
  have hob := S.ob
  have hlt := S.lt
  have hli := S.li
  have hlc := S.lc
  have hmm := S.m
  have hbl := B.len
  have at1 : ∀ i j : Int, (m.2.2.2.getD i.toNat []).getD j.toNat 0 = atR m.2.2.2 i j := fun _ _ => rfl
  have at2 : ∀ i j : Int, (m.2.2.1.getD i.toNat []).getD j.toNat 0 = atR m.2.2.1 i j := fun _ _ => rfl
  have at4 : ∀ i j : Int, (b.getD i.toNat []).getD j.toNat 0 = atR b i j := fun _ _ => rfl
  have bad : ¬ (hexR m b = true) → (false, ()) = c_impl_Monoidal_isHexagonal.res (m, b, ()) := fun h => by
    simp only [c_impl_Monoidal_isHexagonal]
    cases hs : hexR m b with
    | false => rfl
    | true => exact absurd hs h
  refine loop_ix (n := m.1.2.2.2.1.length) (fun x => ∀ x' : Int, 0 ≤ x' → x' < x → ∀ y : Int, 0 ≤ y → y < m.1.1 → ∀ z : Int, 0 ≤ z → z < m.1.1 → hexI m b x' y z = true) (by omega) (by intro y h0 h1; omega) ?_ ?_
  · intro x next x0 x1 hP hn hin
    dsimp only
    refine cnd_d (fun _ => ⟨x0, x1, ?_⟩) (fun h => absurd x1 h)
    refine loop_ix (n := m.1.2.2.2.1.length) (fun y => ∀ y' : Int, 0 ≤ y' → y' < y → ∀ z : Int, 0 ≤ z → z < m.1.1 → hexI m b x y' z = true) (by omega) (by intro y h0 h1; omega) ?_ ?_
    · intro y next2 y0 y1 hP2 hn2 hin2
      dsimp only
      refine cnd_d (fun _ => ⟨y0, y1, ?_⟩) (fun h => absurd y1 h)
      refine loop_ix (n := m.1.2.2.2.1.length) (fun z => ∀ z' : Int, 0 ≤ z' → z' < z → hexI m b x y z' = true) (by omega) (by intro y h0 h1; omega) ?_ ?_
      · intro z next3 z0 z1 hP3 hn3 hin3
        dsimp only
        simp only [at1, at2, at4]
        have x2 : x < m.1.1 := by omega
        have y2 : y < m.1.1 := by omega
        have z2 : z < m.1.1 := by omega
        have ix := S.idn x0 x2
        have iy := S.idn y0 y2
        have iz := S.idn z0 z2
        have oyz := O.2.2 y z y0 y2 z0 z2
        have oxy := O.2.2 x y x0 x2 y0 y2
        have ro1 := O.2.1 y y0 y2
        have ro2 := O.2.1 x x0 x2
        have bxy := B.at_ x y x0 x2 y0 y2
        have bxz := B.at_ x z x0 x2 z0 z2
        have byz := B.at_ y z y0 y2 z0 z2
        have rb1 := B.row x x0 x2
        have rb2 := B.row y y0 y2
        have rb3 := B.row _ oxy.1 oxy.2
        have a1 := A.2.2 _ _ bxy.1 bxy.2 iz.1 iz.2.1
        have a2 := A.2.2 _ _ iy.1 iy.2.1 bxz.1 bxz.2
        have a3 := A.2.2 _ _ ix.1 ix.2.1 byz.1 byz.2
        have a4 := A.2.2 _ _ bxz.1 bxz.2 iy.1 iy.2.1
        have ra1 := A.2.1 _ bxy.1 bxy.2
        have ra2 := A.2.1 _ iy.1 iy.2.1
        have ra3 := A.2.1 _ ix.1 ix.2.1
        have ra4 := A.2.1 _ bxz.1 bxz.2
        have c1 := S.row _ a1.1 a1.2
        have c2 := S.row _ a3.1 a3.2
        have hI : hexI m b x y z = (atR b x (atR m.2.2.1 y z) == compR m.1 (atR m.2.2.2 (atR b x y) (m.1.2.2.2.1.getD z.toNat 0)) (atR m.2.2.2 (m.1.2.2.2.1.getD y.toNat 0) (atR b x z)) &&
          atR b (atR m.2.2.1 x y) z == compR m.1 (atR m.2.2.2 (m.1.2.2.2.1.getD x.toNat 0) (atR b y z)) (atR m.2.2.2 (atR b x z) (m.1.2.2.2.1.getD y.toNat 0))) := rfl
        refine cnd_d (fun _ => ?_) (fun h => absurd z1 h)
        repeat' (with_reducible apply And.intro)
        all_goals first | omega | (intro _; omega) | skip
        refine cnd_of (fun hx => bad fun h => ?_) (fun hx => ?_)
        · have := (hex_iff hob.1).1 h x x0 x2 y y0 y2 z z0 z2
          rw [hI, Bool.and_eq_true, beq_iff_eq] at this
          rw [this.1] at hx; simp at hx
        repeat' (with_reducible apply And.intro)
        all_goals first | omega | (intro _; omega) | skip
        refine cnd_of (fun hy => bad fun h => ?_) (fun hy => ⟨by rw [inK64]; omega, hn3 fun z' q0 q1 => ?_⟩)
        · have := (hex_iff hob.1).1 h x x0 x2 y y0 y2 z z0 z2
          rw [hI, Bool.and_eq_true, beq_iff_eq, beq_iff_eq] at this
          rw [this.2] at hy; simp at hy
        · by_cases e : z' = z
          · rw [e, hI]
            rw [bne_eq_false_iff_eq] at hx hy
            rw [hx, hy]; simp
          · exact hP3 z' q0 (by omega)
      · intro next3 hP3 hin3
        refine cnd_d (fun h => absurd h (by dsimp only; omega)) (fun _ => ⟨by rw [inK64]; omega, hn2 fun y' a0 a1 => ?_⟩)
        by_cases e : y' = y
        · rw [e]; exact fun z z0 z1 => hP3 z z0 (by omega)
        · exact hP2 y' a0 (by omega)
    · intro next2 hP2 hin2
      refine cnd_d (fun h => absurd h (by dsimp only; omega)) (fun _ => ⟨by rw [inK64]; omega, hn fun x' a0 a1 => ?_⟩)
      by_cases e : x' = x
      · rw [e]; exact fun y y0 y1 => hP2 y y0 (by omega)
      · exact hP x' a0 (by omega)
  · intro next hP hin
    refine cnd_d (fun h => absurd h (by dsimp only; omega)) (fun _ => ?_)
    simp only [c_impl_Monoidal_isHexagonal]
    rw [(hex_iff hob.1).2 fun x x0 x1 => hP x x0 (by omega)]
theorem ct_impl_Monoidal_isHexagonal : CtOk Try.prog 92 c_impl_Monoidal_isHexagonal :=
  ct_by (Φ := lkp [(70, c_impl_Category_then)]) (good_cons ct_impl_Category_then good_nil) tab_ok (by kernel_rfl) (fn := Try.f92) (c := bodyOf Try.f92) (by kernel_rfl) (by kernel_rfl) (by kernel_rfl) c_impl_Monoidal_isHexagonal (.s .n (.s .n (.s (.s .n (.l [(20, (.d (.int .i64)))] [] [0, 1, 5, 18, 19] (.s .n (.s .n (.s (.s .n (.s .n (.l [(30, (.d (.int .i64)))] [] [0, 1, 5, 6, 7, 18, 19, 20, 28, 29] (.s .n (.s .n (.s (.s .n (.s .n (.l [(40, (.d (.int .i64)))] [] [0, 1, 5, 6, 7, 8, 9, 18, 19, 20, 28, 29, 30, 38, 39] .n))) .n)))))) .n))))) .n))) (cutL [(11, 51), (13, 51)]) (by kernel_rfl) (by kernel_rfl) k_impl_Monoidal_isHexagonal (by decide) (fun x K => W_impl_Monoidal_isHexagonal x.1 x.2.1 K) w_impl_Monoidal_isHexagonal (fun x h1 h2 => m_impl_Monoidal_isHexagonal x.1 x.2.1 h1 h2)
def braI (m : MonoidalD) (b : List (List Int)) (x y : Int) : Bool :=
  m.1.2.1.getD (atR b x y).toNat 0 == atR m.2.2.1 x y && m.1.2.2.1.getD (atR b x y).toNat 0 == atR m.2.2.1 y x && decide (0 ≤ invR m.1 (atR b x y))
def braR (m : MonoidalD) (b : List (List Int)) : Bool := decide ((b.length : Int) = m.1.1) && squareR b m.1.2.1.length && (allB m.1.1.toNat fun x => allB m.1.1.toNat fun y => braI m b x y) && natR m b && hexR m b
structure BraP (m : MonoidalD) (b : List (List Int)) : Prop where
  len : (b.length : Int) = m.1.1
  sq : squareR b m.1.2.1.length = true
  ent : ∀ x : Int, 0 ≤ x → x < m.1.1 → ∀ y : Int, 0 ≤ y → y < m.1.1 → braI m b x y = true
  nat : natR m b = true
  hex : hexR m b = true
theorem bra_iff {m : MonoidalD} {b : List (List Int)} (h : 0 ≤ m.1.1) : braR m b = true ↔ BraP m b := by
  have e : ((m.1.1.toNat : Nat) : Int) = m.1.1 := by omega
  simp only [braR, Bool.and_eq_true, decide_eq_true_eq, allB_iff, e]
  exact ⟨fun h => ⟨h.1.1.1.1, h.1.1.1.2, h.1.1.2, h.1.2, h.2⟩, fun h => ⟨⟨⟨⟨h.len, h.sq⟩, h.ent⟩, h.nat⟩, h.hex⟩⟩
theorem btab_of {m : MonoidalD} {b : List (List Int)} (hl : (b.length : Int) = m.1.1) (hs : squareR b m.1.2.1.length = true) : BtabP m b := by
  have q := square_iff.1 hs
  refine ⟨hl, fun x x0 x1 => ?_, fun x y x0 x1 y0 y1 => ?_⟩
  · have := (q x x0 (by omega)).1; omega
  · obtain ⟨a, c⟩ := q x x0 (by omega)
    exact within_iff.1 c y y0 (by omega)
theorem braI_iff {m : MonoidalD} {b : List (List Int)} {x y : Int} : braI m b x y = true ↔ m.1.2.1.getD (atR b x y).toNat 0 = atR m.2.2.1 x y ∧ m.1.2.2.1.getD (atR b x y).toNat 0 = atR m.2.2.1 y x ∧ 0 ≤ invR m.1 (atR b x y) := by
  simp only [braI, Bool.and_eq_true, beq_iff_eq, decide_eq_true_eq, and_assoc]

def c_impl_Monoidal_isBraiding : Ct := ⟨[(.pt MonoidalT), (.sl (.sl (.int .i64)))], [false, false], fun x => [MonP x.1], [(false, (.fz .bool))], fun x => (braR x.1 x.2.1, ()), false⟩
def W_impl_Monoidal_isBraiding (m : MonoidalD) (b : List (List Int)) (K : Bool × Unit → Prop) : Prop := (cnd ((((List.length b) : Nat) : Int) != m.1.1) (K (Bool.false, ())) (loopW (S := ((Int × Unit) × Unit)) (fun s => (fun next => ((inK IntKind.i64 s.1.1) → (cnd (decide (s.1.1 < (((List.length b) : Nat) : Int))) (((0 : Int) ≤ s.1.1) ∧ ((s.1.1 < (((List.length b) : Nat) : Int)) ∧ (((((((List.length (List.getD b (Int.toNat s.1.1) ([] : List Int))) : Nat) : Int) != m.1.1) = Bool.false) → (inK IntKind.i64 ((((List.length m.1.2.1) : Nat) : Int) - (1 : Int)))) ∧ (cnd (((((List.length (List.getD b (Int.toNat s.1.1) ([] : List Int))) : Nat) : Int) != m.1.1) || (!(withinR (List.getD b (Int.toNat s.1.1) ([] : List Int)) (((List.length m.1.2.1) : Nat) : Int)))) (K (Bool.false, ())) (loopW (S := ((Int × Unit) × Unit)) (fun s1 => (fun next1 => ((inK IntKind.i64 s1.1.1) → (cnd (decide (s1.1.1 < (((List.length (List.getD b (Int.toNat s.1.1) ([] : List Int))) : Nat) : Int))) (((0 : Int) ≤ s1.1.1) ∧ ((s1.1.1 < (((List.length (List.getD b (Int.toNat s.1.1) ([] : List Int))) : Nat) : Int)) ∧ (((0 : Int) ≤ (List.getD (List.getD b (Int.toNat s.1.1) ([] : List Int)) (Int.toNat s1.1.1) (0 : Int))) ∧ (((List.getD (List.getD b (Int.toNat s.1.1) ([] : List Int)) (Int.toNat s1.1.1) (0 : Int)) < (((List.length m.1.2.1) : Nat) : Int)) ∧ (((List.getD (List.getD b (Int.toNat s.1.1) ([] : List Int)) (Int.toNat s1.1.1) (0 : Int)) < (((List.length m.1.2.2.1) : Nat) : Int)) ∧ (((0 : Int) ≤ s.1.1) ∧ ((s.1.1 < (((List.length m.2.2.1) : Nat) : Int)) ∧ (((0 : Int) ≤ s1.1.1) ∧ ((s1.1.1 < (((List.length (List.getD m.2.2.1 (Int.toNat s.1.1) ([] : List Int))) : Nat) : Int)) ∧ (((0 : Int) ≤ s1.1.1) ∧ ((s1.1.1 < (((List.length m.2.2.1) : Nat) : Int)) ∧ (((0 : Int) ≤ s.1.1) ∧ ((s.1.1 < (((List.length (List.getD m.2.2.1 (Int.toNat s1.1.1) ([] : List Int))) : Nat) : Int)) ∧ ((((!(((List.getD m.1.2.1 (Int.toNat (List.getD (List.getD b (Int.toNat s.1.1) ([] : List Int)) (Int.toNat s1.1.1) (0 : Int))) (0 : Int)) == (List.getD (List.getD m.2.2.1 (Int.toNat s.1.1) ([] : List Int)) (Int.toNat s1.1.1) (0 : Int))) && ((List.getD m.1.2.2.1 (Int.toNat (List.getD (List.getD b (Int.toNat s.1.1) ([] : List Int)) (Int.toNat s1.1.1) (0 : Int))) (0 : Int)) == (List.getD (List.getD m.2.2.1 (Int.toNat s1.1.1) ([] : List Int)) (Int.toNat s.1.1) (0 : Int))))) = Bool.false) → (((0 : Int) ≤ (List.getD (List.getD b (Int.toNat s.1.1) ([] : List Int)) (Int.toNat s1.1.1) (0 : Int))) ∧ (((List.getD (List.getD b (Int.toNat s.1.1) ([] : List Int)) (Int.toNat s1.1.1) (0 : Int)) < (((List.length m.1.2.1) : Nat) : Int)) ∧ (ShapeP m.1)))) ∧ (cnd ((!(((List.getD m.1.2.1 (Int.toNat (List.getD (List.getD b (Int.toNat s.1.1) ([] : List Int)) (Int.toNat s1.1.1) (0 : Int))) (0 : Int)) == (List.getD (List.getD m.2.2.1 (Int.toNat s.1.1) ([] : List Int)) (Int.toNat s1.1.1) (0 : Int))) && ((List.getD m.1.2.2.1 (Int.toNat (List.getD (List.getD b (Int.toNat s.1.1) ([] : List Int)) (Int.toNat s1.1.1) (0 : Int))) (0 : Int)) == (List.getD (List.getD m.2.2.1 (Int.toNat s1.1.1) ([] : List Int)) (Int.toNat s.1.1) (0 : Int))))) || (decide ((invR m.1 (List.getD (List.getD b (Int.toNat s.1.1) ([] : List Int)) (Int.toNat s1.1.1) (0 : Int))) < (0 : Int)))) (K (Bool.false, ())) ((inK IntKind.i64 (s1.1.1 + (1 : Int))) ∧ (next1 (((s1.1.1 + (1 : Int)), ()), ())))))))))))))))))) ((inK IntKind.i64 (s.1.1 + (1 : Int))) ∧ (next (((s.1.1 + (1 : Int)), ()), ()))))))) (((0 : Int), ()), ())))))) ((MonP m) ∧ ((BtabP m b) ∧ ((((natR m b) = Bool.true) → ((BtabP m b) ∧ (MonP m))) ∧ (K (((natR m b) && (hexR m b)), ()))))))))) (((0 : Int), ()), ())))
theorem w_impl_Monoidal_isBraiding (x : denL c_impl_Monoidal_isBraiding.args) (K : Bool × Unit → Prop) : evF tab (lkp [(52, c_impl_Category_arrows), (79, c_impl_Category_ends), (90, c_impl_Category_inverse), (92, c_impl_Monoidal_isHexagonal), (91, c_impl_Monoidal_isNaturalBraiding), (51, c_impl_within)]) (cutL [(12, 31)]) Try.f66 (bodyOf Try.f66) (.s .n (.s .n (.s .n (.s (.s .n (.l [(22, (.d (.int .i64)))] [] [0, 1, 5, 20, 21] (.s .n (.s .n (.s (.s .n (.s .n (.s .n (.l [(43, (.d (.int .i64)))] [] [0, 1, 5, 6, 20, 21, 22, 41, 42] .n)))) .n))))) .n)))) c_impl_Monoidal_isBraiding x K = W_impl_Monoidal_isBraiding x.1 x.2.1 K := by kernel_rfl
theorem k_impl_Monoidal_isBraiding : okC Try.f66.ntmps (cutL [(12, 31)]) (bodyOf Try.f66) = true := by kernel_rfl
theorem m_impl_Monoidal_isBraiding (m : MonoidalD) (b : List (List Int)) (hok : allP (okL c_impl_Monoidal_isBraiding.args (m, b, ()))) (hpre : allP (c_impl_Monoidal_isBraiding.pre (m, b, ()))) : W_impl_Monoidal_isBraiding m b (fun r => r = c_impl_Monoidal_isBraiding.res (m, b, ())) := by
  simp only [c_impl_Monoidal_isBraiding, okL, T.oks, T.ok, ap, allP, true_and, and_true, implies_true] at hok hpre
  try dsimp only [T.den] at hok
  try dsimp only [T.den] at hpre
  unfold W_impl_Monoidal_isBraiding
  have P : MonP m := hpre
  have S := cat_shape P.cat
  have O := tab_at P.ot
  have hob := S.ob
  have hlt := S.lt
  have hli := S.li
  have hlc := S.lc
  have hmm := S.m
  have at2 : ∀ i j : Int, (m.2.2.1.getD i.toNat []).getD j.toNat 0 = atR m.2.2.1 i j := fun _ _ => rfl
  have at4 : ∀ i j : Int, (b.getD i.toNat []).getD j.toNat 0 = atR b i j := fun _ _ => rfl
  have bad : ¬ BraP m b → (false, ()) = c_impl_Monoidal_isBraiding.res (m, b, ()) := fun h => by
    simp only [c_impl_Monoidal_isBraiding]
    cases hs : braR m b with
    | false => rfl
    | true => exact absurd ((bra_iff hob.1).1 hs) h
  refine cnd_of (fun hc => bad fun h => ?_) (fun hc => ?_)
  · have := h.len; rw [this] at hc; simp at hc
  have hbl : (b.length : Int) = m.1.1 := by simpa only [bne_eq_false_iff_eq] using hc
  refine loop_ix (n := b.length) (fun x => ∀ x' : Int, 0 ≤ x' → x' < x → ((b.getD x'.toNat []).length = b.length ∧ withinR (b.getD x'.toNat []) m.1.2.1.length = true) ∧ ∀ y : Int, 0 ≤ y → y < m.1.1 → braI m b x' y = true) (by omega) (by intro y h0 h1; omega) ?_ ?_
  · intro x next x0 x1 hP hn hin
    dsimp only
    refine cnd_d (fun _ => ⟨x0, x1, fun _ => by rw [inK64]; omega, cnd_of (fun hx => bad fun h => ?_) (fun hx => ?_)⟩) (fun h => absurd x1 h)
    · have := square_iff.1 h.sq x x0 x1
      rw [this.2] at hx
      have h3 := h.len
      have h4 : ((b.getD x.toNat []).length : Int) = m.1.1 := by omega
      rw [h4] at hx
      simp at hx
    simp only [Bool.or_eq_false_iff, Bool.not_eq_false', bne_eq_false_iff_eq] at hx
    obtain ⟨hrow, hwi⟩ := hx
    refine loop_ix (n := (b.getD x.toNat []).length) (fun y => ∀ y' : Int, 0 ≤ y' → y' < y → braI m b x y' = true) (by omega) (by intro y h0 h1; omega) ?_ ?_
    · intro y next2 y0 y1 hP2 hn2 hin2
      dsimp only
      simp only [at2, at4]
      have x2 : x < m.1.1 := by omega
      have y2 : y < m.1.1 := by omega
      have ro1 := O.2.1 x x0 x2
      have ro2 := O.2.1 y y0 y2
      have bxy : 0 ≤ atR b x y ∧ atR b x y < m.1.2.1.length := within_iff.1 hwi y y0 y1
      refine cnd_d (fun _ => ?_) (fun h => absurd y1 h)
      repeat' (with_reducible apply And.intro)
      all_goals first | omega | (intro _; first | omega | (repeat' (with_reducible apply And.intro)) <;> first | exact S | omega) | skip
      refine cnd_of (fun hx => bad fun h => ?_) (fun hx => ⟨by rw [inK64]; omega, hn2 fun y' a0 a1 => ?_⟩)
      · have := braI_iff.1 (h.ent x x0 x2 y y0 y2)
        simp only [this.1, this.2.1, beq_self_eq_true, bne_self_eq_false, Bool.and_self, Bool.not_true, Bool.false_or, decide_eq_true_eq] at hx
        omega
      · by_cases e : y' = y
        · rw [e]
          refine braI_iff.2 ?_
          simp only [Bool.or_eq_false_iff, Bool.not_eq_false', Bool.and_eq_true, beq_iff_eq, bne_eq_false_iff_eq, decide_eq_false_iff_not] at hx
          exact ⟨hx.1.1, hx.1.2, by omega⟩
        · exact hP2 y' a0 (by omega)
    · intro next2 hP2 hin2
      refine cnd_d (fun h => absurd h (by dsimp only; omega)) (fun _ => ⟨by rw [inK64]; omega, hn fun x' a0 a1 => ?_⟩)
      by_cases e : x' = x
      · rw [e]; exact ⟨⟨by omega, hwi⟩, fun y y0 y1 => hP2 y y0 (by omega)⟩
      · exact hP x' a0 (by omega)
  · intro next hP hin
    have hsq : squareR b m.1.2.1.length = true := square_iff.2 fun x x0 x1 => (hP x x0 x1).1
    have B := btab_of hbl hsq
    have hent : (allB m.1.1.toNat fun x => allB m.1.1.toNat fun y => braI m b x y) = true := by
      have e : ((m.1.1.toNat : Nat) : Int) = m.1.1 := by omega
      simp only [allB_iff, e]
      exact fun x x0 x1 y y0 y1 => (hP x x0 (by omega)).2 y y0 y1
    refine cnd_d (fun h => absurd h (by dsimp only; omega)) (fun _ => ⟨P, B, fun _ => ⟨B, P⟩, ?_⟩)
    simp only [c_impl_Monoidal_isBraiding, braR, hbl, hsq, hent, decide_true, Bool.true_and]
theorem ct_impl_Monoidal_isBraiding : CtOk Try.prog 66 c_impl_Monoidal_isBraiding :=
  ct_by (Φ := lkp [(52, c_impl_Category_arrows), (79, c_impl_Category_ends), (90, c_impl_Category_inverse), (92, c_impl_Monoidal_isHexagonal), (91, c_impl_Monoidal_isNaturalBraiding), (51, c_impl_within)]) (good_cons ct_impl_Category_arrows (good_cons ct_impl_Category_ends (good_cons ct_impl_Category_inverse (good_cons ct_impl_Monoidal_isHexagonal (good_cons ct_impl_Monoidal_isNaturalBraiding (good_cons ct_impl_within good_nil)))))) tab_ok (by kernel_rfl) (fn := Try.f66) (c := bodyOf Try.f66) (by kernel_rfl) (by kernel_rfl) (by kernel_rfl) c_impl_Monoidal_isBraiding (.s .n (.s .n (.s .n (.s (.s .n (.l [(22, (.d (.int .i64)))] [] [0, 1, 5, 20, 21] (.s .n (.s .n (.s (.s .n (.s .n (.s .n (.l [(43, (.d (.int .i64)))] [] [0, 1, 5, 6, 20, 21, 22, 41, 42] .n)))) .n))))) .n)))) (cutL [(12, 31)]) (by kernel_rfl) (by kernel_rfl) k_impl_Monoidal_isBraiding (by decide) (fun x K => W_impl_Monoidal_isBraiding x.1 x.2.1 K) w_impl_Monoidal_isBraiding (fun x h1 h2 => m_impl_Monoidal_isBraiding x.1 x.2.1 h1 h2)
def monCoR (m : MonoidalD) : Int := if monR m = true then 0 else 1

def c_impl_IsBraiding : Ct := ⟨[MonoidalT, (.sl (.sl (.int .i64)))], [true, false], fun x => [], [(false, (.fz .bool)), (false, (.fz (.int .i64)))], fun x => ((monR x.1 && braR x.1 x.2.1), monCoR x.1, ()), false⟩
def W_impl_IsBraiding (m : MonoidalD) (b : List (List Int)) (K : Bool × Int × Unit → Prop) : Prop := (cnd (!(monR m)) (K (Bool.false, ((1 : Int), ()))) ((MonP m) ∧ (K ((braR m b), ((0 : Int), ())))))
theorem w_impl_IsBraiding (x : denL c_impl_IsBraiding.args) (K : Bool × Int × Unit → Prop) : evF tab (lkp [(66, c_impl_Monoidal_isBraiding), (50, c_impl_Monoidal_isMonoidal)]) (cutL []) Try.f34 (bodyOf Try.f34) .n c_impl_IsBraiding x K = W_impl_IsBraiding x.1 x.2.1 K := by kernel_rfl
theorem k_impl_IsBraiding : okC Try.f34.ntmps (cutL []) (bodyOf Try.f34) = true := by kernel_rfl
theorem m_impl_IsBraiding (m : MonoidalD) (b : List (List Int)) (hok : allP (okL c_impl_IsBraiding.args (m, b, ()))) (hpre : allP (c_impl_IsBraiding.pre (m, b, ()))) : W_impl_IsBraiding m b (fun r => r = c_impl_IsBraiding.res (m, b, ())) := by
  simp only [c_impl_IsBraiding, okL, T.oks, T.ok, ap, allP, true_and, and_true, implies_true] at hok hpre
  try dsimp only [T.den] at hok
  try dsimp only [T.den] at hpre
  unfold W_impl_IsBraiding
  have h1 := @mon_iff m
  simp only [c_impl_IsBraiding, monCoR]
  grind [cnd, nb_eq, inK64]
theorem ct_impl_IsBraiding : CtOk Try.prog 34 c_impl_IsBraiding :=
  ct_by (Φ := lkp [(66, c_impl_Monoidal_isBraiding), (50, c_impl_Monoidal_isMonoidal)]) (good_cons ct_impl_Monoidal_isBraiding (good_cons ct_impl_Monoidal_isMonoidal good_nil)) tab_ok (by kernel_rfl) (fn := Try.f34) (c := bodyOf Try.f34) (by kernel_rfl) (by kernel_rfl) (by kernel_rfl) c_impl_IsBraiding .n (cutL []) (by kernel_rfl) (by kernel_rfl) k_impl_IsBraiding (by decide) (fun x K => W_impl_IsBraiding x.1 x.2.1 K) w_impl_IsBraiding (fun x h1 h2 => m_impl_IsBraiding x.1 x.2.1 h1 h2)
def c_laws_eqInt64S : Ct := ⟨[(.sl (.int .i64)), (.sl (.int .i64))], [false, false], fun x => [], [(false, (.fz .bool))], fun x => (eqR (.sl (.int .i64)) x.1 x.2.1, ()), false⟩
def W_laws_eqInt64S (a : List Int) (b : List Int) (K : Bool × Unit → Prop) : Prop := (cnd ((((List.length a) : Nat) : Int) != (((List.length b) : Nat) : Int)) (K (Bool.false, ())) (loopW (S := ((Int × Unit) × Unit)) (fun s => (fun next => ((inK IntKind.i64 s.1.1) → (cnd (decide (s.1.1 < (((List.length a) : Nat) : Int))) (((0 : Int) ≤ s.1.1) ∧ ((s.1.1 < (((List.length a) : Nat) : Int)) ∧ (((0 : Int) ≤ s.1.1) ∧ ((s.1.1 < (((List.length b) : Nat) : Int)) ∧ (cnd ((List.getD a (Int.toNat s.1.1) (0 : Int)) != (List.getD b (Int.toNat s.1.1) (0 : Int))) (K (Bool.false, ())) ((inK IntKind.i64 (s.1.1 + (1 : Int))) ∧ (next (((s.1.1 + (1 : Int)), ()), ())))))))) (K (Bool.true, ())))))) (((0 : Int), ()), ())))
theorem w_laws_eqInt64S (x : denL c_laws_eqInt64S.args) (K : Bool × Unit → Prop) : evF tab (lkp []) (cutL [(6, 9)]) Try.f22 (bodyOf Try.f22) (.s .n (.s .n (.s (.s .n (.l [(5, (.d (.int .i64)))] [] [0, 1] .n)) .n))) c_laws_eqInt64S x K = W_laws_eqInt64S x.1 x.2.1 K := by kernel_rfl
theorem k_laws_eqInt64S : okC Try.f22.ntmps (cutL [(6, 9)]) (bodyOf Try.f22) = true := by kernel_rfl
theorem m_laws_eqInt64S (a : List Int) (b : List Int) (hok : allP (okL c_laws_eqInt64S.args (a, b, ()))) (hpre : allP (c_laws_eqInt64S.pre (a, b, ()))) : W_laws_eqInt64S a b (fun r => r = c_laws_eqInt64S.res (a, b, ())) := by
  simp only [c_laws_eqInt64S, okL, T.oks, T.ok, ap, allP, true_and, and_true, implies_true] at hok hpre
  try dsimp only [T.den] at hok
  try dsimp only [T.den] at hpre
  unfold W_laws_eqInt64S
  refine cnd_of (fun hc => ?_) (fun hc => ?_)
  · simp only [c_laws_eqInt64S, Prod.mk.injEq, and_true]; rw [eqR_f]; rintro rfl; simp at hc
  have hl : a.length = b.length := by simp at hc; omega
  refine loop_of (fun (s : ((Int × Unit) × Unit)) => 0 ≤ s.1.1 ∧ s.1.1 ≤ a.length ∧ a.take s.1.1.toNat = b.take s.1.1.toNat) (fun (s : ((Int × Unit) × Unit)) => (a.length - s.1.1).toNat) ?_ (by simp)
  rintro ⟨⟨i, _⟩, _⟩ next ⟨h0, h1, h2⟩ hn hin
  simp only at h0 h1 h2 hn ⊢
  refine cnd_d (fun hc => ?_) (fun hc => ?_)
  · have ha := take_c a (0 : Int) h0 hc
    have hb := take_c b (0 : Int) h0 (by omega)
    refine ⟨by omega, by omega, by omega, by omega, cnd_of (fun hd => ?_) (fun hd => ?_)⟩
    · simp only [c_laws_eqInt64S, Prod.mk.injEq, and_true]; rw [eqR_f]; rintro rfl; simp at hd
    · refine ⟨by grind [cnd, nb_eq, inK64], hn _ ⟨(by first | omega | (dsimp only; omega)), (by first | omega | (dsimp only; omega)), ?_⟩ (by first | omega | (dsimp only; omega))⟩
      simp only [Bool.not_eq_false', eqR_iff, bne_eq_false_iff_eq] at hd
      simp only [ha, hb, h2, hd]
  · rw [take_n a (by omega), take_n b (by omega)] at h2
    simp [h2, c_laws_eqInt64S]
theorem ct_laws_eqInt64S : CtOk Try.prog 22 c_laws_eqInt64S :=
  ct_by (Φ := lkp []) good_nil tab_ok (by kernel_rfl) (fn := Try.f22) (c := bodyOf Try.f22) (by kernel_rfl) (by kernel_rfl) (by kernel_rfl) c_laws_eqInt64S (.s .n (.s .n (.s (.s .n (.l [(5, (.d (.int .i64)))] [] [0, 1] .n)) .n))) (cutL [(6, 9)]) (by kernel_rfl) (by kernel_rfl) k_laws_eqInt64S (by decide) (fun x K => W_laws_eqInt64S x.1 x.2.1 K) w_laws_eqInt64S (fun x h1 h2 => m_laws_eqInt64S x.1 x.2.1 h1 h2)
def c_laws_eqInt64SS : Ct := ⟨[(.sl (.sl (.int .i64))), (.sl (.sl (.int .i64)))], [false, false], fun x => [], [(false, (.fz .bool))], fun x => (eqR (.sl (.sl (.int .i64))) x.1 x.2.1, ()), false⟩
def W_laws_eqInt64SS (a : List (List Int)) (b : List (List Int)) (K : Bool × Unit → Prop) : Prop := (cnd ((((List.length a) : Nat) : Int) != (((List.length b) : Nat) : Int)) (K (Bool.false, ())) (loopW (S := ((Int × Unit) × Unit)) (fun s => (fun next => ((inK IntKind.i64 s.1.1) → (cnd (decide (s.1.1 < (((List.length a) : Nat) : Int))) (((0 : Int) ≤ s.1.1) ∧ ((s.1.1 < (((List.length a) : Nat) : Int)) ∧ (((0 : Int) ≤ s.1.1) ∧ ((s.1.1 < (((List.length b) : Nat) : Int)) ∧ (cnd (!(eqR (T.sl (T.int IntKind.i64)) (List.getD a (Int.toNat s.1.1) ([] : List Int)) (List.getD b (Int.toNat s.1.1) ([] : List Int)))) (K (Bool.false, ())) ((inK IntKind.i64 (s.1.1 + (1 : Int))) ∧ (next (((s.1.1 + (1 : Int)), ()), ())))))))) (K (Bool.true, ())))))) (((0 : Int), ()), ())))
theorem w_laws_eqInt64SS (x : denL c_laws_eqInt64SS.args) (K : Bool × Unit → Prop) : evF tab (lkp [(22, c_laws_eqInt64S)]) (cutL [(6, 10)]) Try.f35 (bodyOf Try.f35) (.s .n (.s .n (.s (.s .n (.l [(5, (.d (.int .i64)))] [] [0, 1] .n)) .n))) c_laws_eqInt64SS x K = W_laws_eqInt64SS x.1 x.2.1 K := by kernel_rfl
theorem k_laws_eqInt64SS : okC Try.f35.ntmps (cutL [(6, 10)]) (bodyOf Try.f35) = true := by kernel_rfl
theorem m_laws_eqInt64SS (a : List (List Int)) (b : List (List Int)) (hok : allP (okL c_laws_eqInt64SS.args (a, b, ()))) (hpre : allP (c_laws_eqInt64SS.pre (a, b, ()))) : W_laws_eqInt64SS a b (fun r => r = c_laws_eqInt64SS.res (a, b, ())) := by
  simp only [c_laws_eqInt64SS, okL, T.oks, T.ok, ap, allP, true_and, and_true, implies_true] at hok hpre
  try dsimp only [T.den] at hok
  try dsimp only [T.den] at hpre
  unfold W_laws_eqInt64SS
  refine cnd_of (fun hc => ?_) (fun hc => ?_)
  · simp only [c_laws_eqInt64SS, Prod.mk.injEq, and_true]; rw [eqR_f]; rintro rfl; simp at hc
  have hl : a.length = b.length := by simp at hc; omega
  refine loop_of (fun (s : ((Int × Unit) × Unit)) => 0 ≤ s.1.1 ∧ s.1.1 ≤ a.length ∧ a.take s.1.1.toNat = b.take s.1.1.toNat) (fun (s : ((Int × Unit) × Unit)) => (a.length - s.1.1).toNat) ?_ (by simp)
  rintro ⟨⟨i, _⟩, _⟩ next ⟨h0, h1, h2⟩ hn hin
  simp only at h0 h1 h2 hn ⊢
  refine cnd_d (fun hc => ?_) (fun hc => ?_)
  · have ha := take_c a ([] : List Int) h0 hc
    have hb := take_c b ([] : List Int) h0 (by omega)
    refine ⟨by omega, by omega, by omega, by omega, cnd_of (fun hd => ?_) (fun hd => ?_)⟩
    · simp only [c_laws_eqInt64SS, Prod.mk.injEq, and_true]; rw [eqR_f]; rintro rfl; simp at hd
    · refine ⟨by grind [cnd, nb_eq, inK64], hn _ ⟨(by first | omega | (dsimp only; omega)), (by first | omega | (dsimp only; omega)), ?_⟩ (by first | omega | (dsimp only; omega))⟩
      simp only [Bool.not_eq_false', eqR_iff, bne_eq_false_iff_eq] at hd
      simp only [ha, hb, h2, hd]
  · rw [take_n a (by omega), take_n b (by omega)] at h2
    simp [h2, c_laws_eqInt64SS]
theorem ct_laws_eqInt64SS : CtOk Try.prog 35 c_laws_eqInt64SS :=
  ct_by (Φ := lkp [(22, c_laws_eqInt64S)]) (good_cons ct_laws_eqInt64S good_nil) tab_ok (by kernel_rfl) (fn := Try.f35) (c := bodyOf Try.f35) (by kernel_rfl) (by kernel_rfl) (by kernel_rfl) c_laws_eqInt64SS (.s .n (.s .n (.s (.s .n (.l [(5, (.d (.int .i64)))] [] [0, 1] .n)) .n))) (cutL [(6, 10)]) (by kernel_rfl) (by kernel_rfl) k_laws_eqInt64SS (by decide) (fun x K => W_laws_eqInt64SS x.1 x.2.1 K) w_laws_eqInt64SS (fun x h1 h2 => m_laws_eqInt64SS x.1 x.2.1 h1 h2)
def c_laws_eqCategory : Ct := ⟨[CategoryT, CategoryT], [true, true], fun x => [], [(false, (.fz .bool))], fun x => (eqR CategoryT x.1 x.2.1, ()), false⟩
def W_laws_eqCategory (a : CategoryD) (b : CategoryD) (K : Bool × Unit → Prop) : Prop := (cnd (a.1 != b.1) (K (Bool.false, ())) (cnd (!(eqR (T.sl (T.int IntKind.i64)) a.2.1 b.2.1)) (K (Bool.false, ())) (cnd (!(eqR (T.sl (T.int IntKind.i64)) a.2.2.1 b.2.2.1)) (K (Bool.false, ())) (cnd (!(eqR (T.sl (T.int IntKind.i64)) a.2.2.2.1 b.2.2.2.1)) (K (Bool.false, ())) (cnd (!(eqR (T.sl (T.sl (T.int IntKind.i64))) a.2.2.2.2 b.2.2.2.2)) (K (Bool.false, ())) (K (Bool.true, ())))))))
theorem w_laws_eqCategory (x : denL c_laws_eqCategory.args) (K : Bool × Unit → Prop) : evF tab (lkp [(22, c_laws_eqInt64S), (35, c_laws_eqInt64SS)]) (cutL []) Try.f47 (bodyOf Try.f47) .n c_laws_eqCategory x K = W_laws_eqCategory x.1 x.2.1 K := by kernel_rfl
theorem k_laws_eqCategory : okC Try.f47.ntmps (cutL []) (bodyOf Try.f47) = true := by kernel_rfl
theorem m_laws_eqCategory (a : CategoryD) (b : CategoryD) (hok : allP (okL c_laws_eqCategory.args (a, b, ()))) (hpre : allP (c_laws_eqCategory.pre (a, b, ()))) : W_laws_eqCategory a b (fun r => r = c_laws_eqCategory.res (a, b, ())) := by
  simp only [c_laws_eqCategory, okL, T.oks, T.ok, ap, allP, true_and, and_true, implies_true] at hok hpre
  try dsimp only [T.den] at hok
  try dsimp only [T.den] at hpre
  unfold W_laws_eqCategory
  simp only [c_laws_eqCategory, eqR_p, eqR_int, eqR_bool]
  grind [cnd, nb_eq, inK64]
theorem ct_laws_eqCategory : CtOk Try.prog 47 c_laws_eqCategory :=
  ct_by (Φ := lkp [(22, c_laws_eqInt64S), (35, c_laws_eqInt64SS)]) (good_cons ct_laws_eqInt64S (good_cons ct_laws_eqInt64SS good_nil)) tab_ok (by kernel_rfl) (fn := Try.f47) (c := bodyOf Try.f47) (by kernel_rfl) (by kernel_rfl) (by kernel_rfl) c_laws_eqCategory .n (cutL []) (by kernel_rfl) (by kernel_rfl) k_laws_eqCategory (by decide) (fun x K => W_laws_eqCategory x.1 x.2.1 K) w_laws_eqCategory (fun x h1 h2 => m_laws_eqCategory x.1 x.2.1 h1 h2)
def c_laws_eqMonoidal : Ct := ⟨[MonoidalT, MonoidalT], [true, true], fun x => [], [(false, (.fz .bool))], fun x => (eqR MonoidalT x.1 x.2.1, ()), false⟩
def W_laws_eqMonoidal (a : MonoidalD) (b : MonoidalD) (K : Bool × Unit → Prop) : Prop := (cnd (!(eqR CategoryT a.1 b.1)) (K (Bool.false, ())) (cnd (a.2.1 != b.2.1) (K (Bool.false, ())) (cnd (!(eqR (T.sl (T.sl (T.int IntKind.i64))) a.2.2.1 b.2.2.1)) (K (Bool.false, ())) (cnd (!(eqR (T.sl (T.sl (T.int IntKind.i64))) a.2.2.2 b.2.2.2)) (K (Bool.false, ())) (K (Bool.true, ()))))))
theorem w_laws_eqMonoidal (x : denL c_laws_eqMonoidal.args) (K : Bool × Unit → Prop) : evF tab (lkp [(47, c_laws_eqCategory), (35, c_laws_eqInt64SS)]) (cutL []) Try.f21 (bodyOf Try.f21) .n c_laws_eqMonoidal x K = W_laws_eqMonoidal x.1 x.2.1 K := by kernel_rfl
theorem k_laws_eqMonoidal : okC Try.f21.ntmps (cutL []) (bodyOf Try.f21) = true := by kernel_rfl
theorem m_laws_eqMonoidal (a : MonoidalD) (b : MonoidalD) (hok : allP (okL c_laws_eqMonoidal.args (a, b, ()))) (hpre : allP (c_laws_eqMonoidal.pre (a, b, ()))) : W_laws_eqMonoidal a b (fun r => r = c_laws_eqMonoidal.res (a, b, ())) := by
  simp only [c_laws_eqMonoidal, okL, T.oks, T.ok, ap, allP, true_and, and_true, implies_true] at hok hpre
  try dsimp only [T.den] at hok
  try dsimp only [T.den] at hpre
  unfold W_laws_eqMonoidal
  simp only [c_laws_eqMonoidal, eqR_p, eqR_int, eqR_bool]
  grind [cnd, nb_eq, inK64]
theorem ct_laws_eqMonoidal : CtOk Try.prog 21 c_laws_eqMonoidal :=
  ct_by (Φ := lkp [(47, c_laws_eqCategory), (35, c_laws_eqInt64SS)]) (good_cons ct_laws_eqCategory (good_cons ct_laws_eqInt64SS good_nil)) tab_ok (by kernel_rfl) (fn := Try.f21) (c := bodyOf Try.f21) (by kernel_rfl) (by kernel_rfl) (by kernel_rfl) c_laws_eqMonoidal .n (cutL []) (by kernel_rfl) (by kernel_rfl) k_laws_eqMonoidal (by decide) (fun x K => W_laws_eqMonoidal x.1 x.2.1 K) w_laws_eqMonoidal (fun x h1 h2 => m_laws_eqMonoidal x.1 x.2.1 h1 h2)
def c_laws_szInt64S : Ct := ⟨[(.sl (.int .i64)), (.int .i64)], [false, false], fun x => [-4611545280939032576 ≤ x.2.1], [(false, (.fz (.int .i64)))], fun x => (szR (wR (.sl (.int .i64)) x.1) x.2.1, ()), false⟩
def W_laws_szInt64S (a : List Int) (left : Int) (K : Int × Unit → Prop) : Prop := ((inK IntKind.i64 (left - (((List.length a) : Nat) : Int))) ∧ (cnd (decide ((left - (((List.length a) : Nat) : Int)) < (0 : Int))) (K ((-(1 : Int)), ())) (K ((left - (((List.length a) : Nat) : Int)), ()))))
theorem w_laws_szInt64S (x : denL c_laws_szInt64S.args) (K : Int × Unit → Prop) : evF tab (lkp []) (cutL []) Try.f39 (bodyOf Try.f39) .n c_laws_szInt64S x K = W_laws_szInt64S x.1 x.2.1 K := by kernel_rfl
theorem k_laws_szInt64S : okC Try.f39.ntmps (cutL []) (bodyOf Try.f39) = true := by kernel_rfl
theorem m_laws_szInt64S (a : List Int) (left : Int) (hok : allP (okL c_laws_szInt64S.args (a, left, ()))) (hpre : allP (c_laws_szInt64S.pre (a, left, ()))) : W_laws_szInt64S a left (fun r => r = c_laws_szInt64S.res (a, left, ())) := by
  simp only [c_laws_szInt64S, okL, T.oks, T.ok, ap, allP, true_and, and_true, implies_true] at hok hpre
  try dsimp only [T.den] at hok
  try dsimp only [T.den] at hpre
  unfold W_laws_szInt64S
  simp only [c_laws_szInt64S, wR_ints]
  grind [cnd, nb_eq, inK64, szR]
theorem ct_laws_szInt64S : CtOk Try.prog 39 c_laws_szInt64S :=
  ct_by (Φ := lkp []) good_nil tab_ok (by kernel_rfl) (fn := Try.f39) (c := bodyOf Try.f39) (by kernel_rfl) (by kernel_rfl) (by kernel_rfl) c_laws_szInt64S .n (cutL []) (by kernel_rfl) (by kernel_rfl) k_laws_szInt64S (by decide) (fun x K => W_laws_szInt64S x.1 x.2.1 K) w_laws_szInt64S (fun x h1 h2 => m_laws_szInt64S x.1 x.2.1 h1 h2)
def c_laws_szInt64SS : Ct := ⟨[(.sl (.sl (.int .i64))), (.int .i64)], [false, false], fun x => [-4611404543450677248 ≤ x.2.1], [(false, (.fz (.int .i64)))], fun x => (szR (wR (.sl (.sl (.int .i64))) x.1) x.2.1, ()), false⟩
def W_laws_szInt64SS (a : List (List Int)) (left : Int) (K : Int × Unit → Prop) : Prop := ((inK IntKind.i64 (left - (((List.length a) : Nat) : Int))) ∧ (cnd (decide ((left - (((List.length a) : Nat) : Int)) < (0 : Int))) (K ((-(1 : Int)), ())) (loopW (S := ((Int × (Int × Unit)) × Unit)) (fun s => (fun next => ((inK IntKind.i64 s.1.1) → ((inK IntKind.i64 s.1.2.1) → (cnd (decide (s.1.2.1 < (((List.length a) : Nat) : Int))) (((0 : Int) ≤ s.1.2.1) ∧ ((s.1.2.1 < (((List.length a) : Nat) : Int)) ∧ (((-(4611545280939032576 : Int)) ≤ s.1.1) ∧ (cnd (decide ((szR (wR (T.sl (T.int IntKind.i64)) (List.getD a (Int.toNat s.1.2.1) ([] : List Int))) s.1.1) < (0 : Int))) (K ((-(1 : Int)), ())) ((inK IntKind.i64 (s.1.2.1 + (1 : Int))) ∧ (next (((szR (wR (T.sl (T.int IntKind.i64)) (List.getD a (Int.toNat s.1.2.1) ([] : List Int))) s.1.1), ((s.1.2.1 + (1 : Int)), ())), ()))))))) (K (s.1.1, ()))))))) (((left - (((List.length a) : Nat) : Int)), ((0 : Int), ())), ()))))
theorem w_laws_szInt64SS (x : denL c_laws_szInt64SS.args) (K : Int × Unit → Prop) : evF tab (lkp [(39, c_laws_szInt64S)]) (cutL []) Try.f31 (bodyOf Try.f31) (.s .n (.s .n (.s .n (.s (.s .n (.l [(1, (.d (.int .i64))), (5, (.d (.int .i64)))] [] [0] .n)) .n)))) c_laws_szInt64SS x K = W_laws_szInt64SS x.1 x.2.1 K := by kernel_rfl
theorem k_laws_szInt64SS : okC Try.f31.ntmps (cutL []) (bodyOf Try.f31) = true := by kernel_rfl
theorem m_laws_szInt64SS (a : List (List Int)) (left : Int) (hok : allP (okL c_laws_szInt64SS.args (a, left, ()))) (hpre : allP (c_laws_szInt64SS.pre (a, left, ()))) : W_laws_szInt64SS a left (fun r => r = c_laws_szInt64SS.res (a, left, ())) := by
  simp only [c_laws_szInt64SS, okL, T.oks, T.ok, ap, allP, true_and, and_true, implies_true] at hok hpre
  try dsimp only [T.den] at hok
  try dsimp only [T.den] at hpre
  unfold W_laws_szInt64SS
  have hr := szR_ge (x := a.length) (r := (a.map (wR (.sl (.int .i64)))).sum) (l := left)
  refine ⟨by grind [cnd, nb_eq, inK64], cnd_d (fun hc => ?_) (fun hc => ?_)⟩
  · simp only [c_laws_szInt64SS]; rw [wR_sl, szR_lt (x := a.length) (by omega)]
  replace hr := hr (by omega)
  rw [szR_val (x := a.length) (by omega)] at hr
  refine loop_of (fun (s : ((Int × (Int × Unit)) × Unit)) => 0 ≤ s.1.1 ∧ 0 ≤ s.1.2.1 ∧ s.1.2.1 ≤ a.length ∧ szR (wR (.sl (.sl (.int .i64))) a) left = szR ((a.drop s.1.2.1.toNat).map (wR (.sl (.int .i64)))).sum s.1.1) (fun (s : ((Int × (Int × Unit)) × Unit)) => (a.length - s.1.2.1).toNat) ?_ ⟨(by first | omega | (dsimp only; omega)), by simp, by simp, by rw [wR_sl]; simpa using hr⟩
  rintro ⟨⟨l, i, _⟩, _⟩ next ⟨h0, h1, h2, h3⟩ hn hin hl
  simp only at h0 h1 h2 h3 hn ⊢
  refine cnd_d (fun hc => ?_) (fun hc => ?_)
  · rw [drop_c a ([] : List Int) h1 hc, List.map_cons, List.sum_cons] at h3
    refine ⟨by omega, by omega, by omega, cnd_d (fun hd => ?_) (fun hd => ?_)⟩
    · rw [szR_neg] at hd
      rw [szR_lt hd] at h3
      simp only [c_laws_szInt64SS]; rw [h3]
    · rw [szR_neg] at hd
      rw [szR_ge hd] at h3
      exact ⟨by grind [cnd, nb_eq, inK64], hn _ ⟨by simp only; rw [szR_val hd]; omega, (by first | omega | (dsimp only; omega)), (by first | omega | (dsimp only; omega)), h3⟩ (by first | omega | (dsimp only; omega))⟩
  · rw [drop_n a (by omega)] at h3
    simp only [List.map_nil, List.sum_nil] at h3
    rw [szR_zero h0] at h3
    simp only [c_laws_szInt64SS]; rw [h3]
theorem ct_laws_szInt64SS : CtOk Try.prog 31 c_laws_szInt64SS :=
  ct_by (Φ := lkp [(39, c_laws_szInt64S)]) (good_cons ct_laws_szInt64S good_nil) tab_ok (by kernel_rfl) (fn := Try.f31) (c := bodyOf Try.f31) (by kernel_rfl) (by kernel_rfl) (by kernel_rfl) c_laws_szInt64SS (.s .n (.s .n (.s .n (.s (.s .n (.l [(1, (.d (.int .i64))), (5, (.d (.int .i64)))] [] [0] .n)) .n)))) (cutL []) (by kernel_rfl) (by kernel_rfl) k_laws_szInt64SS (by decide) (fun x K => W_laws_szInt64SS x.1 x.2.1 K) w_laws_szInt64SS (fun x h1 h2 => m_laws_szInt64SS x.1 x.2.1 h1 h2)
def c_laws_szCategory : Ct := ⟨[CategoryT, (.int .i64)], [true, false], fun x => [-4611404543450677248 ≤ x.2.1], [(false, (.fz (.int .i64)))], fun x => (szR (wR CategoryT x.1) x.2.1, ()), false⟩
def W_laws_szCategory (a : CategoryD) (left : Int) (K : Int × Unit → Prop) : Prop := (((-(4611545280939032576 : Int)) ≤ left) ∧ (cnd (decide ((szR (wR (T.sl (T.int IntKind.i64)) a.2.1) left) < (0 : Int))) (K ((-(1 : Int)), ())) (((-(4611545280939032576 : Int)) ≤ (szR (wR (T.sl (T.int IntKind.i64)) a.2.1) left)) ∧ (cnd (decide ((szR (wR (T.sl (T.int IntKind.i64)) a.2.2.1) (szR (wR (T.sl (T.int IntKind.i64)) a.2.1) left)) < (0 : Int))) (K ((-(1 : Int)), ())) (((-(4611545280939032576 : Int)) ≤ (szR (wR (T.sl (T.int IntKind.i64)) a.2.2.1) (szR (wR (T.sl (T.int IntKind.i64)) a.2.1) left))) ∧ (cnd (decide ((szR (wR (T.sl (T.int IntKind.i64)) a.2.2.2.1) (szR (wR (T.sl (T.int IntKind.i64)) a.2.2.1) (szR (wR (T.sl (T.int IntKind.i64)) a.2.1) left))) < (0 : Int))) (K ((-(1 : Int)), ())) (((-(4611404543450677248 : Int)) ≤ (szR (wR (T.sl (T.int IntKind.i64)) a.2.2.2.1) (szR (wR (T.sl (T.int IntKind.i64)) a.2.2.1) (szR (wR (T.sl (T.int IntKind.i64)) a.2.1) left)))) ∧ (cnd (decide ((szR (wR (T.sl (T.sl (T.int IntKind.i64))) a.2.2.2.2) (szR (wR (T.sl (T.int IntKind.i64)) a.2.2.2.1) (szR (wR (T.sl (T.int IntKind.i64)) a.2.2.1) (szR (wR (T.sl (T.int IntKind.i64)) a.2.1) left)))) < (0 : Int))) (K ((-(1 : Int)), ())) (K ((szR (wR (T.sl (T.sl (T.int IntKind.i64))) a.2.2.2.2) (szR (wR (T.sl (T.int IntKind.i64)) a.2.2.2.1) (szR (wR (T.sl (T.int IntKind.i64)) a.2.2.1) (szR (wR (T.sl (T.int IntKind.i64)) a.2.1) left)))), ()))))))))))
theorem w_laws_szCategory (x : denL c_laws_szCategory.args) (K : Int × Unit → Prop) : evF tab (lkp [(39, c_laws_szInt64S), (31, c_laws_szInt64SS)]) (cutL []) Try.f38 (bodyOf Try.f38) .n c_laws_szCategory x K = W_laws_szCategory x.1 x.2.1 K := by kernel_rfl
theorem k_laws_szCategory : okC Try.f38.ntmps (cutL []) (bodyOf Try.f38) = true := by kernel_rfl
theorem m_laws_szCategory (a : CategoryD) (left : Int) (hok : allP (okL c_laws_szCategory.args (a, left, ()))) (hpre : allP (c_laws_szCategory.pre (a, left, ()))) : W_laws_szCategory a left (fun r => r = c_laws_szCategory.res (a, left, ())) := by
  simp only [c_laws_szCategory, okL, T.oks, T.ok, ap, allP, true_and, and_true, implies_true] at hok hpre
  try dsimp only [T.den] at hok
  try dsimp only [T.den] at hpre
  unfold W_laws_szCategory
  simp only [c_laws_szCategory, wR_p, wR_int, wR_bool, Nat.zero_add, Nat.add_zero]
  grind [cnd, nb_eq, inK64, szR]
theorem ct_laws_szCategory : CtOk Try.prog 38 c_laws_szCategory :=
  ct_by (Φ := lkp [(39, c_laws_szInt64S), (31, c_laws_szInt64SS)]) (good_cons ct_laws_szInt64S (good_cons ct_laws_szInt64SS good_nil)) tab_ok (by kernel_rfl) (fn := Try.f38) (c := bodyOf Try.f38) (by kernel_rfl) (by kernel_rfl) (by kernel_rfl) c_laws_szCategory .n (cutL []) (by kernel_rfl) (by kernel_rfl) k_laws_szCategory (by decide) (fun x K => W_laws_szCategory x.1 x.2.1 K) w_laws_szCategory (fun x h1 h2 => m_laws_szCategory x.1 x.2.1 h1 h2)
def c_laws_szMonoidal : Ct := ⟨[MonoidalT, (.int .i64)], [true, false], fun x => [-4611404543450677248 ≤ x.2.1], [(false, (.fz (.int .i64)))], fun x => (szR (wR MonoidalT x.1) x.2.1, ()), false⟩
def W_laws_szMonoidal (a : MonoidalD) (left : Int) (K : Int × Unit → Prop) : Prop := (((-(4611404543450677248 : Int)) ≤ left) ∧ (cnd (decide ((szR (wR CategoryT a.1) left) < (0 : Int))) (K ((-(1 : Int)), ())) (((-(4611404543450677248 : Int)) ≤ (szR (wR CategoryT a.1) left)) ∧ (cnd (decide ((szR (wR (T.sl (T.sl (T.int IntKind.i64))) a.2.2.1) (szR (wR CategoryT a.1) left)) < (0 : Int))) (K ((-(1 : Int)), ())) (((-(4611404543450677248 : Int)) ≤ (szR (wR (T.sl (T.sl (T.int IntKind.i64))) a.2.2.1) (szR (wR CategoryT a.1) left))) ∧ (cnd (decide ((szR (wR (T.sl (T.sl (T.int IntKind.i64))) a.2.2.2) (szR (wR (T.sl (T.sl (T.int IntKind.i64))) a.2.2.1) (szR (wR CategoryT a.1) left))) < (0 : Int))) (K ((-(1 : Int)), ())) (K ((szR (wR (T.sl (T.sl (T.int IntKind.i64))) a.2.2.2) (szR (wR (T.sl (T.sl (T.int IntKind.i64))) a.2.2.1) (szR (wR CategoryT a.1) left))), ()))))))))
theorem w_laws_szMonoidal (x : denL c_laws_szMonoidal.args) (K : Int × Unit → Prop) : evF tab (lkp [(38, c_laws_szCategory), (31, c_laws_szInt64SS)]) (cutL []) Try.f16 (bodyOf Try.f16) .n c_laws_szMonoidal x K = W_laws_szMonoidal x.1 x.2.1 K := by kernel_rfl
theorem k_laws_szMonoidal : okC Try.f16.ntmps (cutL []) (bodyOf Try.f16) = true := by kernel_rfl
theorem m_laws_szMonoidal (a : MonoidalD) (left : Int) (hok : allP (okL c_laws_szMonoidal.args (a, left, ()))) (hpre : allP (c_laws_szMonoidal.pre (a, left, ()))) : W_laws_szMonoidal a left (fun r => r = c_laws_szMonoidal.res (a, left, ())) := by
  simp only [c_laws_szMonoidal, okL, T.oks, T.ok, ap, allP, true_and, and_true, implies_true] at hok hpre
  try dsimp only [T.den] at hok
  try dsimp only [T.den] at hpre
  unfold W_laws_szMonoidal
  simp only [c_laws_szMonoidal, wR_p, wR_int, wR_bool, Nat.zero_add, Nat.add_zero]
  grind [cnd, nb_eq, inK64, szR]
theorem ct_laws_szMonoidal : CtOk Try.prog 16 c_laws_szMonoidal :=
  ct_by (Φ := lkp [(38, c_laws_szCategory), (31, c_laws_szInt64SS)]) (good_cons ct_laws_szCategory (good_cons ct_laws_szInt64SS good_nil)) tab_ok (by kernel_rfl) (fn := Try.f16) (c := bodyOf Try.f16) (by kernel_rfl) (by kernel_rfl) (by kernel_rfl) c_laws_szMonoidal .n (cutL []) (by kernel_rfl) (by kernel_rfl) k_laws_szMonoidal (by decide) (fun x K => W_laws_szMonoidal x.1 x.2.1 K) w_laws_szMonoidal (fun x h1 h2 => m_laws_szMonoidal x.1 x.2.1 h1 h2)
def c_laws_toInt64S : Ct := ⟨[(.sl (.int .i64))], [false], fun x => [wR (.sl (.int .i64)) x.1 ≤ 1099511627776], [(false, (.sl (.fz (.int .i64))))], fun x => (x.1, ()), false⟩
def W_laws_toInt64S (a : List Int) (K : (List Int) × Unit → Prop) : Prop := (((0 : Int) ≤ (((List.length a) : Nat) : Int)) ∧ (((((List.length a) : Nat) : Int) ≤ (((List.length a) : Nat) : Int)) ∧ (((((List.length a) : Nat) : Int) ≤ ((140737488355328 : Nat) : Int)) ∧ ((((((List.length a) : Nat) : Int) * ((8 : Nat) : Int)) ≤ ((140737488355328 : Nat) : Int)) ∧ (loopW (S := ((Unit × (Int × Unit)) × ((List Int) × Unit))) (fun s => (fun next => ((inK IntKind.i64 s.1.2.1) → ((T.ok (T.sl (T.int IntKind.i64)) s.2.1) → (cnd (decide (s.1.2.1 < (((List.length a) : Nat) : Int))) (((0 : Int) ≤ s.1.2.1) ∧ ((s.1.2.1 < (((List.length a) : Nat) : Int)) ∧ (((0 : Int) ≤ s.1.2.1) ∧ ((s.1.2.1 < (((List.length s.2.1) : Nat) : Int)) ∧ ((inK IntKind.i64 (s.1.2.1 + (1 : Int))) ∧ (next (((), ((s.1.2.1 + (1 : Int)), ())), ((List.set s.2.1 (Int.toNat s.1.2.1) (List.getD a (Int.toNat s.1.2.1) (0 : Int))), ())))))))) (K (s.2.1, ()))))))) (((), ((0 : Int), ())), ((List.replicate (Int.toNat (((List.length a) : Nat) : Int)) (0 : Int)), ())))))))
theorem w_laws_toInt64S (x : denL c_laws_toInt64S.args) (K : (List Int) × Unit → Prop) : evF tab (lkp []) (cutL []) Try.f19 (bodyOf Try.f19) (.s .n (.s .n (.s (.s .n (.l [(3, (.ref 7 [])), (4, (.d (.int .i64)))] [(7, (.sl (.fz (.int .i64))))] [0] .n)) .n))) c_laws_toInt64S x K = W_laws_toInt64S x.1 K := by kernel_rfl
theorem k_laws_toInt64S : okC Try.f19.ntmps (cutL []) (bodyOf Try.f19) = true := by kernel_rfl
theorem m_laws_toInt64S (a : List Int) (hok : allP (okL c_laws_toInt64S.args (a, ()))) (hpre : allP (c_laws_toInt64S.pre (a, ()))) : W_laws_toInt64S a (fun r => r = c_laws_toInt64S.res (a, ())) := by
  simp only [c_laws_toInt64S, okL, T.oks, T.ok, ap, allP, true_and, and_true, implies_true] at hok hpre
  try dsimp only [T.den] at hok
  try dsimp only [T.den] at hpre
  unfold W_laws_toInt64S
  rw [wR_sl] at hpre
  refine ⟨by omega, by omega, by first | omega | (rw [nb_eq]; omega), by first | omega | (rw [nb_eq]; omega), ?_⟩
  refine loop_of (fun (s : ((Unit × (Int × Unit)) × ((List Int) × Unit))) => 0 ≤ s.1.2.1 ∧ s.1.2.1 ≤ a.length ∧ s.2.1.length = a.length ∧ s.2.1.take s.1.2.1.toNat = a.take s.1.2.1.toNat) (fun (s : ((Unit × (Int × Unit)) × ((List Int) × Unit))) => (a.length - s.1.2.1).toNat) ?_ (by simp)
  rintro ⟨⟨_, i, _⟩, l, _⟩ next ⟨h0, h1, h2, h3⟩ hn hin hl
  simp only at h0 h1 h2 h3 hn ⊢
  refine cnd_d (fun hc => ?_) (fun hc => ?_)
  · refine ⟨by omega, by omega, by omega, by omega, by grind [cnd, nb_eq, inK64], hn _ ⟨(by first | omega | (dsimp only; omega)), (by first | omega | (dsimp only; omega)), by simp [h2], ?_⟩ (by first | omega | (dsimp only; omega))⟩
    simp only
    rw [take_c a (0 : Int) h0 hc, ← h3]
    exact take_set l h0 (by omega) _
  · rw [take_n a (by omega), take_n l (by omega)] at h3
    simp [h3, c_laws_toInt64S]
theorem ct_laws_toInt64S : CtOk Try.prog 19 c_laws_toInt64S :=
  ct_by (Φ := lkp []) good_nil tab_ok (by kernel_rfl) (fn := Try.f19) (c := bodyOf Try.f19) (by kernel_rfl) (by kernel_rfl) (by kernel_rfl) c_laws_toInt64S (.s .n (.s .n (.s (.s .n (.l [(3, (.ref 7 [])), (4, (.d (.int .i64)))] [(7, (.sl (.fz (.int .i64))))] [0] .n)) .n))) (cutL []) (by kernel_rfl) (by kernel_rfl) k_laws_toInt64S (by decide) (fun x K => W_laws_toInt64S x.1 K) w_laws_toInt64S (fun x h1 h2 => m_laws_toInt64S x.1 h1 h2)
def c_laws_toInt64SS : Ct := ⟨[(.sl (.sl (.int .i64)))], [false], fun x => [wR (.sl (.sl (.int .i64))) x.1 ≤ 1099511627776], [(false, (.sl (.sl (.fz (.int .i64)))))], fun x => (x.1, ()), false⟩
def W_laws_toInt64SS (a : List (List Int)) (K : (List (List Int)) × Unit → Prop) : Prop := (((0 : Int) ≤ (((List.length a) : Nat) : Int)) ∧ (((((List.length a) : Nat) : Int) ≤ (((List.length a) : Nat) : Int)) ∧ (((((List.length a) : Nat) : Int) ≤ ((140737488355328 : Nat) : Int)) ∧ ((((((List.length a) : Nat) : Int) * ((24 : Nat) : Int)) ≤ ((140737488355328 : Nat) : Int)) ∧ (loopW (S := ((Unit × (Int × Unit)) × ((List (List Int)) × Unit))) (fun s => (fun next => ((inK IntKind.i64 s.1.2.1) → ((T.ok (T.sl (T.sl (T.int IntKind.i64))) s.2.1) → (cnd (decide (s.1.2.1 < (((List.length a) : Nat) : Int))) (((0 : Int) ≤ s.1.2.1) ∧ ((s.1.2.1 < (((List.length a) : Nat) : Int)) ∧ (((wR (T.sl (T.int IntKind.i64)) (List.getD a (Int.toNat s.1.2.1) ([] : List Int))) ≤ 1099511627776) ∧ (((0 : Int) ≤ s.1.2.1) ∧ ((s.1.2.1 < (((List.length s.2.1) : Nat) : Int)) ∧ ((inK IntKind.i64 (s.1.2.1 + (1 : Int))) ∧ (next (((), ((s.1.2.1 + (1 : Int)), ())), ((List.set s.2.1 (Int.toNat s.1.2.1) (List.getD a (Int.toNat s.1.2.1) ([] : List Int))), ()))))))))) (K (s.2.1, ()))))))) (((), ((0 : Int), ())), ((List.replicate (Int.toNat (((List.length a) : Nat) : Int)) ([] : List Int)), ())))))))
theorem w_laws_toInt64SS (x : denL c_laws_toInt64SS.args) (K : (List (List Int)) × Unit → Prop) : evF tab (lkp [(19, c_laws_toInt64S)]) (cutL []) Try.f33 (bodyOf Try.f33) (.s .n (.s .n (.s (.s .n (.l [(3, (.ref 7 [])), (4, (.d (.int .i64)))] [(7, (.sl (.sl (.fz (.int .i64)))))] [0] .n)) .n))) c_laws_toInt64SS x K = W_laws_toInt64SS x.1 K := by kernel_rfl
theorem k_laws_toInt64SS : okC Try.f33.ntmps (cutL []) (bodyOf Try.f33) = true := by kernel_rfl
theorem m_laws_toInt64SS (a : List (List Int)) (hok : allP (okL c_laws_toInt64SS.args (a, ()))) (hpre : allP (c_laws_toInt64SS.pre (a, ()))) : W_laws_toInt64SS a (fun r => r = c_laws_toInt64SS.res (a, ())) := by
  simp only [c_laws_toInt64SS, okL, T.oks, T.ok, ap, allP, true_and, and_true, implies_true] at hok hpre
  try dsimp only [T.den] at hok
  try dsimp only [T.den] at hpre
  unfold W_laws_toInt64SS
  rw [wR_sl] at hpre
  refine ⟨by omega, by omega, by first | omega | (rw [nb_eq]; omega), by first | omega | (rw [nb_eq]; omega), ?_⟩
  refine loop_of (fun (s : ((Unit × (Int × Unit)) × ((List (List Int)) × Unit))) => 0 ≤ s.1.2.1 ∧ s.1.2.1 ≤ a.length ∧ s.2.1.length = a.length ∧ s.2.1.take s.1.2.1.toNat = a.take s.1.2.1.toNat) (fun (s : ((Unit × (Int × Unit)) × ((List (List Int)) × Unit))) => (a.length - s.1.2.1).toNat) ?_ (by simp)
  rintro ⟨⟨_, i, _⟩, l, _⟩ next ⟨h0, h1, h2, h3⟩ hn hin hl
  simp only at h0 h1 h2 h3 hn ⊢
  refine cnd_d (fun hc => ?_) (fun hc => ?_)
  · have hm := wR_mem (e := (.sl (.int .i64))) (getD_mem a ([] : List Int) h0 hc)
    refine ⟨by omega, by omega, by omega, by omega, by omega, by grind [cnd, nb_eq, inK64], hn _ ⟨(by first | omega | (dsimp only; omega)), (by first | omega | (dsimp only; omega)), by simp [h2], ?_⟩ (by first | omega | (dsimp only; omega))⟩
    simp only
    rw [take_c a ([] : List Int) h0 hc, ← h3]
    exact take_set l h0 (by omega) _
  · rw [take_n a (by omega), take_n l (by omega)] at h3
    simp [h3, c_laws_toInt64SS]
theorem ct_laws_toInt64SS : CtOk Try.prog 33 c_laws_toInt64SS :=
  ct_by (Φ := lkp [(19, c_laws_toInt64S)]) (good_cons ct_laws_toInt64S good_nil) tab_ok (by kernel_rfl) (fn := Try.f33) (c := bodyOf Try.f33) (by kernel_rfl) (by kernel_rfl) (by kernel_rfl) c_laws_toInt64SS (.s .n (.s .n (.s (.s .n (.l [(3, (.ref 7 [])), (4, (.d (.int .i64)))] [(7, (.sl (.sl (.fz (.int .i64)))))] [0] .n)) .n))) (cutL []) (by kernel_rfl) (by kernel_rfl) k_laws_toInt64SS (by decide) (fun x K => W_laws_toInt64SS x.1 K) w_laws_toInt64SS (fun x h1 h2 => m_laws_toInt64SS x.1 h1 h2)
def c_laws_toCategory : Ct := ⟨[CategoryT], [true], fun x => [wR CategoryT x.1 ≤ 1099511627776], [(true, CategoryO)], fun x => (x.1, ()), false⟩
def W_laws_toCategory (a : CategoryD) (K : CategoryD × Unit → Prop) : Prop := (((wR (T.sl (T.int IntKind.i64)) a.2.1) ≤ 1099511627776) ∧ (((wR (T.sl (T.int IntKind.i64)) a.2.2.1) ≤ 1099511627776) ∧ (((wR (T.sl (T.int IntKind.i64)) a.2.2.2.1) ≤ 1099511627776) ∧ (((wR (T.sl (T.sl (T.int IntKind.i64))) a.2.2.2.2) ≤ 1099511627776) ∧ (K (a, ()))))))
theorem w_laws_toCategory (x : denL c_laws_toCategory.args) (K : CategoryD × Unit → Prop) : evF tab (lkp [(19, c_laws_toInt64S), (33, c_laws_toInt64SS)]) (cutL []) Try.f43 (bodyOf Try.f43) .n c_laws_toCategory x K = W_laws_toCategory x.1 K := by kernel_rfl
theorem k_laws_toCategory : okC Try.f43.ntmps (cutL []) (bodyOf Try.f43) = true := by kernel_rfl
theorem m_laws_toCategory (a : CategoryD) (hok : allP (okL c_laws_toCategory.args (a, ()))) (hpre : allP (c_laws_toCategory.pre (a, ()))) : W_laws_toCategory a (fun r => r = c_laws_toCategory.res (a, ())) := by
  simp only [c_laws_toCategory, okL, T.oks, T.ok, ap, allP, true_and, and_true, implies_true] at hok hpre
  try dsimp only [T.den] at hok
  try dsimp only [T.den] at hpre
  unfold W_laws_toCategory
  simp only [wR_p, wR_int, wR_bool] at hpre
  repeat' apply And.intro
  all_goals first | rfl | ((try simp only [wR_p, wR_int, wR_bool]); omega)
theorem ct_laws_toCategory : CtOk Try.prog 43 c_laws_toCategory :=
  ct_by (Φ := lkp [(19, c_laws_toInt64S), (33, c_laws_toInt64SS)]) (good_cons ct_laws_toInt64S (good_cons ct_laws_toInt64SS good_nil)) tab_ok (by kernel_rfl) (fn := Try.f43) (c := bodyOf Try.f43) (by kernel_rfl) (by kernel_rfl) (by kernel_rfl) c_laws_toCategory .n (cutL []) (by kernel_rfl) (by kernel_rfl) k_laws_toCategory (by decide) (fun x K => W_laws_toCategory x.1 K) w_laws_toCategory (fun x h1 h2 => m_laws_toCategory x.1 h1 h2)
def c_laws_toMonoidal : Ct := ⟨[MonoidalT], [true], fun x => [wR MonoidalT x.1 ≤ 1099511627776], [(true, MonoidalO)], fun x => (x.1, ()), false⟩
def W_laws_toMonoidal (a : MonoidalD) (K : MonoidalD × Unit → Prop) : Prop := (((wR CategoryT a.1) ≤ 1099511627776) ∧ (((wR (T.sl (T.sl (T.int IntKind.i64))) a.2.2.1) ≤ 1099511627776) ∧ (((wR (T.sl (T.sl (T.int IntKind.i64))) a.2.2.2) ≤ 1099511627776) ∧ (K (a, ())))))
theorem w_laws_toMonoidal (x : denL c_laws_toMonoidal.args) (K : MonoidalD × Unit → Prop) : evF tab (lkp [(43, c_laws_toCategory), (33, c_laws_toInt64SS)]) (cutL []) Try.f18 (bodyOf Try.f18) .n c_laws_toMonoidal x K = W_laws_toMonoidal x.1 K := by kernel_rfl
theorem k_laws_toMonoidal : okC Try.f18.ntmps (cutL []) (bodyOf Try.f18) = true := by kernel_rfl
theorem m_laws_toMonoidal (a : MonoidalD) (hok : allP (okL c_laws_toMonoidal.args (a, ()))) (hpre : allP (c_laws_toMonoidal.pre (a, ()))) : W_laws_toMonoidal a (fun r => r = c_laws_toMonoidal.res (a, ())) := by
  simp only [c_laws_toMonoidal, okL, T.oks, T.ok, ap, allP, true_and, and_true, implies_true] at hok hpre
  try dsimp only [T.den] at hok
  try dsimp only [T.den] at hpre
  unfold W_laws_toMonoidal
  simp only [wR_p, wR_int, wR_bool] at hpre
  repeat' apply And.intro
  all_goals first | rfl | ((try simp only [wR_p, wR_int, wR_bool]); omega)
theorem ct_laws_toMonoidal : CtOk Try.prog 18 c_laws_toMonoidal :=
  ct_by (Φ := lkp [(43, c_laws_toCategory), (33, c_laws_toInt64SS)]) (good_cons ct_laws_toCategory (good_cons ct_laws_toInt64SS good_nil)) tab_ok (by kernel_rfl) (fn := Try.f18) (c := bodyOf Try.f18) (by kernel_rfl) (by kernel_rfl) (by kernel_rfl) c_laws_toMonoidal .n (cutL []) (by kernel_rfl) (by kernel_rfl) k_laws_toMonoidal (by decide) (fun x K => W_laws_toMonoidal x.1 K) w_laws_toMonoidal (fun x h1 h2 => m_laws_toMonoidal x.1 h1 h2)
def c_spec_l02Hom : Ct := ⟨[CategoryT, (.int .i64), (.int .i64)], [true, false, false], fun x => [x.1.2.1.length ≤ 40, x.1.2.2.1.length = x.1.2.1.length], [(false, (.sl (.fz (.int .i64))))], fun x => (homR x.1 x.2.1 x.2.2.1, ()), false⟩
def W_spec_l02Hom (c : CategoryD) (x : Int) (y : Int) (K : (List Int) × Unit → Prop) : Prop := (loopW (S := ((Unit × (Int × Unit)) × ((List Int) × Unit))) (fun s => (fun next => ((inK IntKind.i64 s.1.2.1) → ((T.ok (T.sl (T.int IntKind.i64)) s.2.1) → (cnd (decide (s.1.2.1 < (((List.length c.2.1) : Nat) : Int))) (((0 : Int) ≤ s.1.2.1) ∧ ((s.1.2.1 < (((List.length c.2.1) : Nat) : Int)) ∧ (((((List.getD c.2.1 (Int.toNat s.1.2.1) (0 : Int)) == x) = Bool.true) → ((s.1.2.1 < (((List.length c.2.2.1) : Nat) : Int)) ∧ ((0 : Int) ≤ s.1.2.1))) ∧ (joinW (S := ((Unit × Unit) × ((List Int) × Unit))) (fun s1 => ((T.ok (T.sl (T.int IntKind.i64)) s1.2.1) → ((inK IntKind.i64 (s.1.2.1 + (1 : Int))) ∧ (next (((), ((s.1.2.1 + (1 : Int)), ())), (s1.2.1, ())))))) (fun k => (cnd (((List.getD c.2.1 (Int.toNat s.1.2.1) (0 : Int)) == x) && ((List.getD c.2.2.1 (Int.toNat s.1.2.1) (0 : Int)) == y)) ((room (List.length s.2.1) (List.length (s.1.2.1 :: ([] : List Int))) 8) ∧ (k (((), ()), ((s.2.1 ++ (s.1.2.1 :: ([] : List Int))), ())))) (k (((), ()), (s.2.1, ()))))))))) (K (s.2.1, ()))))))) (((), ((0 : Int), ())), (([] : List Int), ())))
theorem w_spec_l02Hom (x : denL c_spec_l02Hom.args) (K : (List Int) × Unit → Prop) : evF tab (lkp []) (cutL []) Try.f82 (bodyOf Try.f82) (.s .n (.s .n (.s (.s .n (.l [(7, (.ref 9 [])), (8, (.d (.int .i64)))] [(9, (.sl (.fz (.int .i64))))] [1, 2, 3] (.s .n (.s (.s .n (.j [(7, (.ref 9 []))] [(9, (.sl (.fz (.int .i64))))] [1, 2, 3, 8] .n)) .n)))) .n))) c_spec_l02Hom x K = W_spec_l02Hom x.1 x.2.1 x.2.2.1 K := by kernel_rfl
theorem k_spec_l02Hom : okC Try.f82.ntmps (cutL []) (bodyOf Try.f82) = true := by kernel_rfl
theorem m_spec_l02Hom (c : CategoryD) (x : Int) (y : Int) (hok : allP (okL c_spec_l02Hom.args (c, x, y, ()))) (hpre : allP (c_spec_l02Hom.pre (c, x, y, ()))) : W_spec_l02Hom c x y (fun r => r = c_spec_l02Hom.res (c, x, y, ())) := by
  simp only [c_spec_l02Hom, okL, T.oks, T.ok, ap, allP, true_and, and_true, implies_true] at hok hpre
  try dsimp only [T.den] at hok
  try dsimp only [T.den] at hpre
  unfold W_spec_l02Hom
  have hm : c.2.1.length ≤ 40 := hpre.1
  have hlt : c.2.2.1.length = c.2.1.length := hpre.2
  refine loop_of (fun (s : ((Unit × (Int × Unit)) × ((List Int) × Unit))) => 0 ≤ s.1.2.1 ∧ s.1.2.1 ≤ c.2.1.length ∧ s.2.1 = selR s.1.2.1.toNat fun f => c.2.1.getD f.toNat 0 == x && c.2.2.1.getD f.toNat 0 == y) (fun (s : ((Unit × (Int × Unit)) × ((List Int) × Unit))) => (c.2.1.length - s.1.2.1).toNat) ?_ ⟨by simp, by simp, rfl⟩
  rintro ⟨⟨_, i, _⟩, l, _⟩ next ⟨h0, h1, h2⟩ hn hin hl
  dsimp only at h0 h1 h2 hn ⊢
  subst h2
  refine cnd_d (fun hc => ⟨h0, hc, fun _ => by omega, join_of (fun s1 => s1.2.1 = selR (i + 1).toNat fun f => c.2.1.getD f.toNat 0 == x && c.2.2.1.getD f.toNat 0 == y) (fun s1 hs _ => ⟨by rw [inK64]; omega, hn _ ⟨(by first | omega | (dsimp only; omega)), (by first | omega | (dsimp only; omega)), hs⟩ (by first | omega | (dsimp only; omega))⟩) (fun k hk => cnd_of (fun hx => ⟨?_, hk _ ?_⟩) (fun hx => hk _ ?_))⟩) (fun hc => ?_)
  · have := sel_len (p := fun f => c.2.1.getD f.toNat 0 == x && c.2.2.1.getD f.toNat 0 == y) i.toNat
    unfold room
    rw [nb_eq]
    have h3 : (i :: ([] : List Int)).length = 1 := rfl
    rw [h3]
    omega
  · exact (sel_t h0 hx).symm
  · exact (sel_f h0 hx).symm
  · have e1 : i.toNat = c.2.1.length := by omega
    simp only [c_spec_l02Hom, homR]
    rw [e1]
theorem ct_spec_l02Hom : CtOk Try.prog 82 c_spec_l02Hom :=
  ct_by (Φ := lkp []) good_nil tab_ok (by kernel_rfl) (fn := Try.f82) (c := bodyOf Try.f82) (by kernel_rfl) (by kernel_rfl) (by kernel_rfl) c_spec_l02Hom (.s .n (.s .n (.s (.s .n (.l [(7, (.ref 9 [])), (8, (.d (.int .i64)))] [(9, (.sl (.fz (.int .i64))))] [1, 2, 3] (.s .n (.s (.s .n (.j [(7, (.ref 9 []))] [(9, (.sl (.fz (.int .i64))))] [1, 2, 3, 8] .n)) .n)))) .n))) (cutL []) (by kernel_rfl) (by kernel_rfl) k_spec_l02Hom (by decide) (fun x K => W_spec_l02Hom x.1 x.2.1 x.2.2.1 K) w_spec_l02Hom (fun x h1 h2 => m_spec_l02Hom x.1 x.2.1 x.2.2.1 h1 h2)
def c_spec_l02Then : Ct := ⟨[CategoryT, (.int .i64), (.int .i64)], [true, false, false], fun x => [0 ≤ x.2.1, x.2.1 < x.1.2.2.2.2.length, 0 ≤ x.2.2.1, x.2.2.1 < (x.1.2.2.2.2.getD x.2.1.toNat []).length], [(false, (.fz (.int .i64)))], fun x => (compR x.1 x.2.1 x.2.2.1, ()), false⟩
def W_spec_l02Then (c : CategoryD) (f : Int) (g : Int) (K : Int × Unit → Prop) : Prop := (((0 : Int) ≤ f) ∧ ((f < (((List.length c.2.2.2.2) : Nat) : Int)) ∧ (((0 : Int) ≤ g) ∧ ((g < (((List.length (List.getD c.2.2.2.2 (Int.toNat f) ([] : List Int))) : Nat) : Int)) ∧ (K ((List.getD (List.getD c.2.2.2.2 (Int.toNat f) ([] : List Int)) (Int.toNat g) (0 : Int)), ()))))))
theorem w_spec_l02Then (x : denL c_spec_l02Then.args) (K : Int × Unit → Prop) : evF tab (lkp []) (cutL []) Try.f68 (bodyOf Try.f68) .n c_spec_l02Then x K = W_spec_l02Then x.1 x.2.1 x.2.2.1 K := by kernel_rfl
theorem k_spec_l02Then : okC Try.f68.ntmps (cutL []) (bodyOf Try.f68) = true := by kernel_rfl
theorem m_spec_l02Then (c : CategoryD) (f : Int) (g : Int) (hok : allP (okL c_spec_l02Then.args (c, f, g, ()))) (hpre : allP (c_spec_l02Then.pre (c, f, g, ()))) : W_spec_l02Then c f g (fun r => r = c_spec_l02Then.res (c, f, g, ())) := by
  simp only [c_spec_l02Then, okL, T.oks, T.ok, ap, allP, true_and, and_true, implies_true] at hok hpre
  try dsimp only [T.den] at hok
  try dsimp only [T.den] at hpre
  unfold W_spec_l02Then
  exact ⟨hpre.1, hpre.2.1, hpre.2.2.1, hpre.2.2.2, rfl⟩
theorem ct_spec_l02Then : CtOk Try.prog 68 c_spec_l02Then :=
  ct_by (Φ := lkp []) good_nil tab_ok (by kernel_rfl) (fn := Try.f68) (c := bodyOf Try.f68) (by kernel_rfl) (by kernel_rfl) (by kernel_rfl) c_spec_l02Then .n (cutL []) (by kernel_rfl) (by kernel_rfl) k_spec_l02Then (by decide) (fun x K => W_spec_l02Then x.1 x.2.1 x.2.2.1 K) w_spec_l02Then (fun x h1 h2 => m_spec_l02Then x.1 x.2.1 x.2.2.1 h1 h2)
def c_spec_l02Unit : Ct := ⟨[CategoryT, (.int .i64)], [true, false], fun x => [ShapeP x.1, 0 ≤ x.2.1, x.2.1 < x.1.2.1.length], [(false, (.fz .bool))], fun x => (idR x.1 x.2.1, ()), false⟩
def W_spec_l02Unit (c : CategoryD) (f : Int) (K : Bool × Unit → Prop) : Prop := (((0 : Int) ≤ f) ∧ ((f < (((List.length c.2.1) : Nat) : Int)) ∧ (((0 : Int) ≤ (List.getD c.2.1 (Int.toNat f) (0 : Int))) ∧ (((List.getD c.2.1 (Int.toNat f) (0 : Int)) < (((List.length c.2.2.2.1) : Nat) : Int)) ∧ (K (((List.getD c.2.2.2.1 (Int.toNat (List.getD c.2.1 (Int.toNat f) (0 : Int))) (0 : Int)) == f), ()))))))
theorem w_spec_l02Unit (x : denL c_spec_l02Unit.args) (K : Bool × Unit → Prop) : evF tab (lkp []) (cutL [(1, 12)]) Try.f67 (bodyOf Try.f67) .n c_spec_l02Unit x K = W_spec_l02Unit x.1 x.2.1 K := by kernel_rfl
theorem k_spec_l02Unit : okC Try.f67.ntmps (cutL [(1, 12)]) (bodyOf Try.f67) = true := by kernel_rfl
theorem m_spec_l02Unit (c : CategoryD) (f : Int) (hok : allP (okL c_spec_l02Unit.args (c, f, ()))) (hpre : allP (c_spec_l02Unit.pre (c, f, ()))) : W_spec_l02Unit c f (fun r => r = c_spec_l02Unit.res (c, f, ())) := by
  simp only [c_spec_l02Unit, okL, T.oks, T.ok, ap, allP, true_and, and_true, implies_true] at hok hpre
  try dsimp only [T.den] at hok
  try dsimp only [T.den] at hpre
  unfold W_spec_l02Unit
  have S : ShapeP c := hpre.1
  have a := S.frm hpre.2.1 hpre.2.2
  have := S.li
  exact ⟨hpre.2.1, hpre.2.2, a.1, by omega, rfl⟩
theorem ct_spec_l02Unit : CtOk Try.prog 67 c_spec_l02Unit :=
  ct_by (Φ := lkp []) good_nil tab_ok (by kernel_rfl) (fn := Try.f67) (c := bodyOf Try.f67) (by kernel_rfl) (by kernel_rfl) (by kernel_rfl) c_spec_l02Unit .n (cutL [(1, 12)]) (by kernel_rfl) (by kernel_rfl) k_spec_l02Unit (by decide) (fun x K => W_spec_l02Unit x.1 x.2.1 K) w_spec_l02Unit (fun x h1 h2 => m_spec_l02Unit x.1 x.2.1 h1 h2)
def c_spec_l02Inverse : Ct := ⟨[CategoryT, (.int .i64)], [true, false], fun x => [ShapeP x.1, 0 ≤ x.2.1, x.2.1 < x.1.2.1.length], [(false, (.fz (.int .i64)))], fun x => (invR x.1 x.2.1, ()), false⟩
def W_spec_l02Inverse (c : CategoryD) (f : Int) (K : Int × Unit → Prop) : Prop := (((0 : Int) ≤ f) ∧ ((f < (((List.length c.2.2.1) : Nat) : Int)) ∧ (((0 : Int) ≤ f) ∧ ((f < (((List.length c.2.1) : Nat) : Int)) ∧ (((List.length c.2.1) ≤ 40) ∧ (((List.length c.2.2.1) = (List.length c.2.1)) ∧ (loopW (S := ((Int × Unit) × Unit)) (fun s => (fun next => ((inK IntKind.i64 s.1.1) → (cnd (decide (s.1.1 < (((List.length (homR c (List.getD c.2.2.1 (Int.toNat f) (0 : Int)) (List.getD c.2.1 (Int.toNat f) (0 : Int)))) : Nat) : Int))) (((0 : Int) ≤ s.1.1) ∧ ((s.1.1 < (((List.length (homR c (List.getD c.2.2.1 (Int.toNat f) (0 : Int)) (List.getD c.2.1 (Int.toNat f) (0 : Int)))) : Nat) : Int)) ∧ (((0 : Int) ≤ f) ∧ ((f < (((List.length c.2.2.2.2) : Nat) : Int)) ∧ (((0 : Int) ≤ (List.getD (homR c (List.getD c.2.2.1 (Int.toNat f) (0 : Int)) (List.getD c.2.1 (Int.toNat f) (0 : Int))) (Int.toNat s.1.1) (0 : Int))) ∧ (((List.getD (homR c (List.getD c.2.2.1 (Int.toNat f) (0 : Int)) (List.getD c.2.1 (Int.toNat f) (0 : Int))) (Int.toNat s.1.1) (0 : Int)) < (((List.length (List.getD c.2.2.2.2 (Int.toNat f) ([] : List Int))) : Nat) : Int)) ∧ ((ShapeP c) ∧ (((0 : Int) ≤ (compR c f (List.getD (homR c (List.getD c.2.2.1 (Int.toNat f) (0 : Int)) (List.getD c.2.1 (Int.toNat f) (0 : Int))) (Int.toNat s.1.1) (0 : Int)))) ∧ (((compR c f (List.getD (homR c (List.getD c.2.2.1 (Int.toNat f) (0 : Int)) (List.getD c.2.1 (Int.toNat f) (0 : Int))) (Int.toNat s.1.1) (0 : Int))) < (((List.length c.2.1) : Nat) : Int)) ∧ ((((idR c (compR c f (List.getD (homR c (List.getD c.2.2.1 (Int.toNat f) (0 : Int)) (List.getD c.2.1 (Int.toNat f) (0 : Int))) (Int.toNat s.1.1) (0 : Int)))) = Bool.true) → ((s.1.1 < (((List.length (homR c (List.getD c.2.2.1 (Int.toNat f) (0 : Int)) (List.getD c.2.1 (Int.toNat f) (0 : Int)))) : Nat) : Int)) ∧ ((0 : Int) ≤ s.1.1))) ∧ ((((idR c (compR c f (List.getD (homR c (List.getD c.2.2.1 (Int.toNat f) (0 : Int)) (List.getD c.2.1 (Int.toNat f) (0 : Int))) (Int.toNat s.1.1) (0 : Int)))) = Bool.true) → (((List.getD (homR c (List.getD c.2.2.1 (Int.toNat f) (0 : Int)) (List.getD c.2.1 (Int.toNat f) (0 : Int))) (Int.toNat s.1.1) (0 : Int)) < (((List.length c.2.2.2.2) : Nat) : Int)) ∧ (((0 : Int) ≤ f) ∧ ((f < (((List.length (List.getD c.2.2.2.2 (Int.toNat (List.getD (homR c (List.getD c.2.2.1 (Int.toNat f) (0 : Int)) (List.getD c.2.1 (Int.toNat f) (0 : Int))) (Int.toNat s.1.1) (0 : Int))) ([] : List Int))) : Nat) : Int)) ∧ ((0 : Int) ≤ (List.getD (homR c (List.getD c.2.2.1 (Int.toNat f) (0 : Int)) (List.getD c.2.1 (Int.toNat f) (0 : Int))) (Int.toNat s.1.1) (0 : Int))))))) ∧ ((((idR c (compR c f (List.getD (homR c (List.getD c.2.2.1 (Int.toNat f) (0 : Int)) (List.getD c.2.1 (Int.toNat f) (0 : Int))) (Int.toNat s.1.1) (0 : Int)))) = Bool.true) → (((0 : Int) ≤ (compR c (List.getD (homR c (List.getD c.2.2.1 (Int.toNat f) (0 : Int)) (List.getD c.2.1 (Int.toNat f) (0 : Int))) (Int.toNat s.1.1) (0 : Int)) f)) ∧ (((compR c (List.getD (homR c (List.getD c.2.2.1 (Int.toNat f) (0 : Int)) (List.getD c.2.1 (Int.toNat f) (0 : Int))) (Int.toNat s.1.1) (0 : Int)) f) < (((List.length c.2.1) : Nat) : Int)) ∧ (ShapeP c)))) ∧ (cnd ((idR c (compR c f (List.getD (homR c (List.getD c.2.2.1 (Int.toNat f) (0 : Int)) (List.getD c.2.1 (Int.toNat f) (0 : Int))) (Int.toNat s.1.1) (0 : Int)))) && (idR c (compR c (List.getD (homR c (List.getD c.2.2.1 (Int.toNat f) (0 : Int)) (List.getD c.2.1 (Int.toNat f) (0 : Int))) (Int.toNat s.1.1) (0 : Int)) f))) (((0 : Int) ≤ s.1.1) ∧ ((s.1.1 < (((List.length (homR c (List.getD c.2.2.1 (Int.toNat f) (0 : Int)) (List.getD c.2.1 (Int.toNat f) (0 : Int)))) : Nat) : Int)) ∧ (K ((List.getD (homR c (List.getD c.2.2.1 (Int.toNat f) (0 : Int)) (List.getD c.2.1 (Int.toNat f) (0 : Int))) (Int.toNat s.1.1) (0 : Int)), ())))) ((inK IntKind.i64 (s.1.1 + (1 : Int))) ∧ (next (((s.1.1 + (1 : Int)), ()), ())))))))))))))))) (K ((-(1 : Int)), ())))))) (((0 : Int), ()), ()))))))))
theorem w_spec_l02Inverse (x : denL c_spec_l02Inverse.args) (K : Int × Unit → Prop) : evF tab (lkp [(82, c_spec_l02Hom), (68, c_spec_l02Then), (67, c_spec_l02Unit)]) (cutL [(1, 13), (5, 20)]) Try.f88 (bodyOf Try.f88) (.s .n (.s .n (.s (.s .n (.l [(6, (.d (.int .i64)))] [] [1, 2, 5] .n)) .n))) c_spec_l02Inverse x K = W_spec_l02Inverse x.1 x.2.1 K := by kernel_rfl
theorem k_spec_l02Inverse : okC Try.f88.ntmps (cutL [(1, 13), (5, 20)]) (bodyOf Try.f88) = true := by kernel_rfl
theorem m_spec_l02Inverse (c : CategoryD) (f : Int) (hok : allP (okL c_spec_l02Inverse.args (c, f, ()))) (hpre : allP (c_spec_l02Inverse.pre (c, f, ()))) : W_spec_l02Inverse c f (fun r => r = c_spec_l02Inverse.res (c, f, ())) := by
  simp only [c_spec_l02Inverse, okL, T.oks, T.ok, ap, allP, true_and, and_true, implies_true] at hok hpre
  try dsimp only [T.den] at hok
  try dsimp only [T.den] at hpre
  unfold W_spec_l02Inverse
  have S : ShapeP c := hpre.1
  have f0 : 0 ≤ f := hpre.2.1
  have f1 : f < c.2.1.length := hpre.2.2
  have hlt := S.lt
  have hli := S.li
  have hlc := S.lc
  have hmm := S.m
  have sf := S.frm f0 f1
  have rf := S.row f f0 f1
  have hid := fun g => @inv_id c S f g f0 f1
  have hyes := fun g => @ShapeP.yes c S f g f0 f1
  have hyes2 := fun (g : Int) (g0 : 0 ≤ g) (g1 : g < c.2.1.length) => @ShapeP.yes c S g f g0 g1 f0 f1
  have hmem := fun g => @hom_mem c (c.2.2.1.getD f.toNat 0) (c.2.1.getD f.toNat 0) g
  have hlen : (homR c (c.2.2.1.getD f.toNat 0) (c.2.1.getD f.toNat 0)).length ≤ 40 := Nat.le_trans (sel_len _) hmm
  have hR : invR c f = invL c f (homR c (c.2.2.1.getD f.toNat 0) (c.2.1.getD f.toNat 0)) := rfl
  refine ⟨f0, by omega, f0, by omega, hmm, hlt, ?_⟩
  simp only [c_spec_l02Inverse, hR]
  generalize homR c (c.2.2.1.getD f.toNat 0) (c.2.1.getD f.toNat 0) = l at *
  refine loop_ix (n := l.length) (fun i => invL c f l = invL c f (l.drop i.toNat)) (by omega) (by simp) ?_ ?_
  · intro i next i0 i1 hP hn hin
    dsimp only
    have hg := getD_mem l 0 i0 i1
    rw [drop_c l 0 i0 i1] at hP
    simp only [invL] at hP
    generalize l.getD i.toNat 0 = g at *
    have gm := (hmem g).1 hg
    have rg := S.row g gm.1 gm.2.1
    have y1 := hyes g gm.1 gm.2.1 gm.2.2.1.symm
    have y2 := hyes2 g gm.1 gm.2.1 gm.2.2.2
    have hh := hid g hg
    refine cnd_d (fun _ => ?_) (fun h => absurd i1 h)
    repeat' (with_reducible apply And.intro)
    all_goals first | exact S | omega | (intro _; first | omega | (repeat' (with_reducible apply And.intro)) <;> first | exact S | omega) | skip
    refine cnd_of (fun hx => ?_) (fun hx => ⟨by rw [inK64]; omega, hn ?_⟩)
    · refine ⟨by omega, by omega, ?_⟩
      rw [hP, if_pos (by rw [hh]; exact hx)]
    · rw [hP, if_neg (by rw [hh, hx]; simp)]
  · intro next hP hin
    refine cnd_d (fun h => absurd h (by dsimp only; omega)) (fun _ => ?_)
    rw [hP, drop_n l (by omega)]; rfl
theorem ct_spec_l02Inverse : CtOk Try.prog 88 c_spec_l02Inverse :=
  ct_by (Φ := lkp [(82, c_spec_l02Hom), (68, c_spec_l02Then), (67, c_spec_l02Unit)]) (good_cons ct_spec_l02Hom (good_cons ct_spec_l02Then (good_cons ct_spec_l02Unit good_nil))) tab_ok (by kernel_rfl) (fn := Try.f88) (c := bodyOf Try.f88) (by kernel_rfl) (by kernel_rfl) (by kernel_rfl) c_spec_l02Inverse (.s .n (.s .n (.s (.s .n (.l [(6, (.d (.int .i64)))] [] [1, 2, 5] .n)) .n))) (cutL [(1, 13), (5, 20)]) (by kernel_rfl) (by kernel_rfl) k_spec_l02Inverse (by decide) (fun x K => W_spec_l02Inverse x.1 x.2.1 K) w_spec_l02Inverse (fun x h1 h2 => m_spec_l02Inverse x.1 x.2.1 h1 h2)
def c_spec_l01Map : Ct := ⟨[(.int .i64), (.sl (.int .i64))], [false, false], fun x => [], [(false, (.fz .bool))], fun x => (withinR x.2.1 x.1, ()), false⟩
def W_spec_l01Map (n : Int) (f : List Int) (K : Bool × Unit → Prop) : Prop := (loopW (S := ((Int × Unit) × Unit)) (fun s => (fun next => ((inK IntKind.i64 s.1.1) → (cnd (decide (s.1.1 < (((List.length f) : Nat) : Int))) (((0 : Int) ≤ s.1.1) ∧ ((s.1.1 < (((List.length f) : Nat) : Int)) ∧ ((((decide ((List.getD f (Int.toNat s.1.1) (0 : Int)) < (0 : Int))) = Bool.false) → ((s.1.1 < (((List.length f) : Nat) : Int)) ∧ ((0 : Int) ≤ s.1.1))) ∧ (cnd ((decide ((List.getD f (Int.toNat s.1.1) (0 : Int)) < (0 : Int))) || (decide (n ≤ (List.getD f (Int.toNat s.1.1) (0 : Int))))) (K (Bool.false, ())) ((inK IntKind.i64 (s.1.1 + (1 : Int))) ∧ (next (((s.1.1 + (1 : Int)), ()), ()))))))) (K (Bool.true, ())))))) (((0 : Int), ()), ()))
theorem w_spec_l01Map (x : denL c_spec_l01Map.args) (K : Bool × Unit → Prop) : evF tab (lkp []) (cutL []) Try.f49 (bodyOf Try.f49) (.s .n (.s (.s .n (.l [(5, (.d (.int .i64)))] [] [0, 1] .n)) .n)) c_spec_l01Map x K = W_spec_l01Map x.1 x.2.1 K := by kernel_rfl
theorem k_spec_l01Map : okC Try.f49.ntmps (cutL []) (bodyOf Try.f49) = true := by kernel_rfl
theorem m_spec_l01Map (n : Int) (f : List Int) (hok : allP (okL c_spec_l01Map.args (n, f, ()))) (hpre : allP (c_spec_l01Map.pre (n, f, ()))) : W_spec_l01Map n f (fun r => r = c_spec_l01Map.res (n, f, ())) := by
  simp only [c_spec_l01Map, okL, T.oks, T.ok, ap, allP, true_and, and_true, implies_true] at hok hpre
  try dsimp only [T.den] at hok
  try dsimp only [T.den] at hpre
  unfold W_spec_l01Map
  refine loop_of (fun (s : ((Int × Unit) × Unit)) => 0 ≤ s.1.1 ∧ s.1.1 ≤ f.length ∧ withinR f n = withinR (f.drop s.1.1.toNat) n) (fun (s : ((Int × Unit) × Unit)) => (f.length - s.1.1).toNat) ?_ (by simp)
  rintro ⟨⟨i, _⟩, _⟩ next ⟨h0, h1, h2⟩ hn hin
  simp only at h0 h1 h2 hn ⊢
  refine cnd_d (fun hc => ?_) (fun hc => ?_)
  · rw [drop_c f 0 h0 hc] at h2
    simp only [withinR, List.all_cons] at h2
    grind [cnd, nb_eq, inK64, c_spec_l01Map, withinR, inR]
  · rw [drop_n f (by omega)] at h2
    grind [cnd, nb_eq, inK64, c_spec_l01Map, withinR]
theorem ct_spec_l01Map : CtOk Try.prog 49 c_spec_l01Map :=
  ct_by (Φ := lkp []) good_nil tab_ok (by kernel_rfl) (fn := Try.f49) (c := bodyOf Try.f49) (by kernel_rfl) (by kernel_rfl) (by kernel_rfl) c_spec_l01Map (.s .n (.s (.s .n (.l [(5, (.d (.int .i64)))] [] [0, 1] .n)) .n)) (cutL []) (by kernel_rfl) (by kernel_rfl) k_spec_l01Map (by decide) (fun x K => W_spec_l01Map x.1 x.2.1 K) w_spec_l01Map (fun x h1 h2 => m_spec_l01Map x.1 x.2.1 h1 h2)
def c_spec_l03Square : Ct := ⟨[(.sl (.sl (.int .i64))), (.int .i64)], [false, false], fun x => [], [(false, (.fz .bool))], fun x => (squareR x.1 x.2.1, ()), false⟩
def W_spec_l03Square (table : List (List Int)) (bound : Int) (K : Bool × Unit → Prop) : Prop := (loopW (S := ((Int × Unit) × Unit)) (fun s => (fun next => ((inK IntKind.i64 s.1.1) → (cnd (decide (s.1.1 < (((List.length table) : Nat) : Int))) (((0 : Int) ≤ s.1.1) ∧ ((s.1.1 < (((List.length table) : Nat) : Int)) ∧ (((((((List.length (List.getD table (Int.toNat s.1.1) ([] : List Int))) : Nat) : Int) != (((List.length table) : Nat) : Int)) = Bool.false) → ((s.1.1 < (((List.length table) : Nat) : Int)) ∧ ((0 : Int) ≤ s.1.1))) ∧ (cnd (((((List.length (List.getD table (Int.toNat s.1.1) ([] : List Int))) : Nat) : Int) != (((List.length table) : Nat) : Int)) || (!(withinR (List.getD table (Int.toNat s.1.1) ([] : List Int)) bound))) (K (Bool.false, ())) ((inK IntKind.i64 (s.1.1 + (1 : Int))) ∧ (next (((s.1.1 + (1 : Int)), ()), ()))))))) (K (Bool.true, ())))))) (((0 : Int), ()), ()))
theorem w_spec_l03Square (x : denL c_spec_l03Square.args) (K : Bool × Unit → Prop) : evF tab (lkp [(49, c_spec_l01Map)]) (cutL []) Try.f87 (bodyOf Try.f87) (.s .n (.s (.s .n (.l [(5, (.d (.int .i64)))] [] [0, 1] .n)) .n)) c_spec_l03Square x K = W_spec_l03Square x.1 x.2.1 K := by kernel_rfl
theorem k_spec_l03Square : okC Try.f87.ntmps (cutL []) (bodyOf Try.f87) = true := by kernel_rfl
theorem m_spec_l03Square (table : List (List Int)) (bound : Int) (hok : allP (okL c_spec_l03Square.args (table, bound, ()))) (hpre : allP (c_spec_l03Square.pre (table, bound, ()))) : W_spec_l03Square table bound (fun r => r = c_spec_l03Square.res (table, bound, ())) := by
  simp only [c_spec_l03Square, okL, T.oks, T.ok, ap, allP, true_and, and_true, implies_true] at hok hpre
  try dsimp only [T.den] at hok
  try dsimp only [T.den] at hpre
  unfold W_spec_l03Square
  have hl : table.length ≤ 140737488355328 := by simp only [nb_eq] at hok; omega
  have bad : ¬ (squareR table bound = true) → (false, ()) = c_spec_l03Square.res (table, bound, ()) := fun h => by
    simp only [c_spec_l03Square]
    cases hs : squareR table bound with
    | false => rfl
    | true => exact absurd hs h
  refine loop_ix (n := table.length) (fun i => ∀ j : Int, 0 ≤ j → j < i → (table.getD j.toNat []).length = table.length ∧ withinR (table.getD j.toNat []) bound = true) (by omega) (by intro y h0 h1; omega) ?_ ?_
  · intro i next h0 h1 hP hn hin
    dsimp only
    refine cnd_d (fun _ => ⟨h0, h1, fun _ => ⟨h1, h0⟩, cnd_of (fun hx => bad fun h => ?_) (fun hx => ⟨by rw [inK64]; omega, hn fun j j0 j1 => ?_⟩)⟩) (fun h => absurd h1 h)
    · have := square_iff.1 h i h0 h1
      rw [this.1, this.2] at hx; simp at hx
    · by_cases e : j = i
      · subst e
        simp only [Bool.or_eq_false_iff, Bool.not_eq_false', bne_eq_false_iff_eq] at hx
        exact ⟨by omega, hx.2⟩
      · exact hP j j0 (by omega)
  · intro next hP hin
    refine cnd_d (fun h => absurd h (by dsimp only; omega)) (fun _ => ?_)
    simp only [c_spec_l03Square]
    rw [square_iff.2 hP]
theorem ct_spec_l03Square : CtOk Try.prog 87 c_spec_l03Square :=
  ct_by (Φ := lkp [(49, c_spec_l01Map)]) (good_cons ct_spec_l01Map good_nil) tab_ok (by kernel_rfl) (fn := Try.f87) (c := bodyOf Try.f87) (by kernel_rfl) (by kernel_rfl) (by kernel_rfl) c_spec_l03Square (.s .n (.s (.s .n (.l [(5, (.d (.int .i64)))] [] [0, 1] .n)) .n)) (cutL []) (by kernel_rfl) (by kernel_rfl) k_spec_l03Square (by decide) (fun x K => W_spec_l03Square x.1 x.2.1 K) w_spec_l03Square (fun x h1 h2 => m_spec_l03Square x.1 x.2.1 h1 h2)
def c_spec_l35Braids : Ct := ⟨[MonoidalT, (.sl (.sl (.int .i64)))], [true, false], fun x => [MonP x.1, BtabP x.1 x.2.1], [(false, (.fz .bool))], fun x => ((natR x.1 x.2.1 && hexR x.1 x.2.1), ()), false⟩
def W_spec_l35Braids (m : MonoidalD) (b : List (List Int)) (K : Bool × Unit → Prop) : Prop := (loopW (S := ((Int × Unit) × Unit)) (fun s => (fun next => ((inK IntKind.i64 s.1.1) → (cnd (decide (s.1.1 < (((List.length m.1.2.1) : Nat) : Int))) (loopW (S := ((Int × Unit) × Unit)) (fun s1 => (fun next1 => ((inK IntKind.i64 s1.1.1) → (cnd (decide (s1.1.1 < (((List.length m.1.2.1) : Nat) : Int))) (((0 : Int) ≤ s.1.1) ∧ ((s.1.1 < (((List.length m.2.2.2) : Nat) : Int)) ∧ (((0 : Int) ≤ s1.1.1) ∧ ((s1.1.1 < (((List.length (List.getD m.2.2.2 (Int.toNat s.1.1) ([] : List Int))) : Nat) : Int)) ∧ (((0 : Int) ≤ s.1.1) ∧ ((s.1.1 < (((List.length m.1.2.2.1) : Nat) : Int)) ∧ (((0 : Int) ≤ (List.getD m.1.2.2.1 (Int.toNat s.1.1) (0 : Int))) ∧ (((List.getD m.1.2.2.1 (Int.toNat s.1.1) (0 : Int)) < (((List.length b) : Nat) : Int)) ∧ (((0 : Int) ≤ s1.1.1) ∧ ((s1.1.1 < (((List.length m.1.2.2.1) : Nat) : Int)) ∧ (((0 : Int) ≤ (List.getD m.1.2.2.1 (Int.toNat s1.1.1) (0 : Int))) ∧ (((List.getD m.1.2.2.1 (Int.toNat s1.1.1) (0 : Int)) < (((List.length (List.getD b (Int.toNat (List.getD m.1.2.2.1 (Int.toNat s.1.1) (0 : Int))) ([] : List Int))) : Nat) : Int)) ∧ (((0 : Int) ≤ (List.getD (List.getD m.2.2.2 (Int.toNat s.1.1) ([] : List Int)) (Int.toNat s1.1.1) (0 : Int))) ∧ (((List.getD (List.getD m.2.2.2 (Int.toNat s.1.1) ([] : List Int)) (Int.toNat s1.1.1) (0 : Int)) < (((List.length m.1.2.2.2.2) : Nat) : Int)) ∧ (((0 : Int) ≤ (List.getD (List.getD b (Int.toNat (List.getD m.1.2.2.1 (Int.toNat s.1.1) (0 : Int))) ([] : List Int)) (Int.toNat (List.getD m.1.2.2.1 (Int.toNat s1.1.1) (0 : Int))) (0 : Int))) ∧ (((List.getD (List.getD b (Int.toNat (List.getD m.1.2.2.1 (Int.toNat s.1.1) (0 : Int))) ([] : List Int)) (Int.toNat (List.getD m.1.2.2.1 (Int.toNat s1.1.1) (0 : Int))) (0 : Int)) < (((List.length (List.getD m.1.2.2.2.2 (Int.toNat (List.getD (List.getD m.2.2.2 (Int.toNat s.1.1) ([] : List Int)) (Int.toNat s1.1.1) (0 : Int))) ([] : List Int))) : Nat) : Int)) ∧ (((0 : Int) ≤ s.1.1) ∧ ((s.1.1 < (((List.length m.1.2.1) : Nat) : Int)) ∧ (((0 : Int) ≤ (List.getD m.1.2.1 (Int.toNat s.1.1) (0 : Int))) ∧ (((List.getD m.1.2.1 (Int.toNat s.1.1) (0 : Int)) < (((List.length b) : Nat) : Int)) ∧ (((0 : Int) ≤ s1.1.1) ∧ ((s1.1.1 < (((List.length m.1.2.1) : Nat) : Int)) ∧ (((0 : Int) ≤ (List.getD m.1.2.1 (Int.toNat s1.1.1) (0 : Int))) ∧ (((List.getD m.1.2.1 (Int.toNat s1.1.1) (0 : Int)) < (((List.length (List.getD b (Int.toNat (List.getD m.1.2.1 (Int.toNat s.1.1) (0 : Int))) ([] : List Int))) : Nat) : Int)) ∧ (((0 : Int) ≤ s1.1.1) ∧ ((s1.1.1 < (((List.length m.2.2.2) : Nat) : Int)) ∧ (((0 : Int) ≤ s.1.1) ∧ ((s.1.1 < (((List.length (List.getD m.2.2.2 (Int.toNat s1.1.1) ([] : List Int))) : Nat) : Int)) ∧ (((0 : Int) ≤ (List.getD (List.getD b (Int.toNat (List.getD m.1.2.1 (Int.toNat s.1.1) (0 : Int))) ([] : List Int)) (Int.toNat (List.getD m.1.2.1 (Int.toNat s1.1.1) (0 : Int))) (0 : Int))) ∧ (((List.getD (List.getD b (Int.toNat (List.getD m.1.2.1 (Int.toNat s.1.1) (0 : Int))) ([] : List Int)) (Int.toNat (List.getD m.1.2.1 (Int.toNat s1.1.1) (0 : Int))) (0 : Int)) < (((List.length m.1.2.2.2.2) : Nat) : Int)) ∧ (((0 : Int) ≤ (List.getD (List.getD m.2.2.2 (Int.toNat s1.1.1) ([] : List Int)) (Int.toNat s.1.1) (0 : Int))) ∧ (((List.getD (List.getD m.2.2.2 (Int.toNat s1.1.1) ([] : List Int)) (Int.toNat s.1.1) (0 : Int)) < (((List.length (List.getD m.1.2.2.2.2 (Int.toNat (List.getD (List.getD b (Int.toNat (List.getD m.1.2.1 (Int.toNat s.1.1) (0 : Int))) ([] : List Int)) (Int.toNat (List.getD m.1.2.1 (Int.toNat s1.1.1) (0 : Int))) (0 : Int))) ([] : List Int))) : Nat) : Int)) ∧ (cnd ((compR m.1 (List.getD (List.getD m.2.2.2 (Int.toNat s.1.1) ([] : List Int)) (Int.toNat s1.1.1) (0 : Int)) (List.getD (List.getD b (Int.toNat (List.getD m.1.2.2.1 (Int.toNat s.1.1) (0 : Int))) ([] : List Int)) (Int.toNat (List.getD m.1.2.2.1 (Int.toNat s1.1.1) (0 : Int))) (0 : Int))) != (compR m.1 (List.getD (List.getD b (Int.toNat (List.getD m.1.2.1 (Int.toNat s.1.1) (0 : Int))) ([] : List Int)) (Int.toNat (List.getD m.1.2.1 (Int.toNat s1.1.1) (0 : Int))) (0 : Int)) (List.getD (List.getD m.2.2.2 (Int.toNat s1.1.1) ([] : List Int)) (Int.toNat s.1.1) (0 : Int)))) (K (Bool.false, ())) ((inK IntKind.i64 (s1.1.1 + (1 : Int))) ∧ (next1 (((s1.1.1 + (1 : Int)), ()), ())))))))))))))))))))))))))))))))))))) ((inK IntKind.i64 (s.1.1 + (1 : Int))) ∧ (next (((s.1.1 + (1 : Int)), ()), ()))))))) (((0 : Int), ()), ())) (loopW (S := ((Int × Unit) × Unit)) (fun s1 => (fun next1 => ((inK IntKind.i64 s1.1.1) → (cnd (decide (s1.1.1 < m.1.1)) (loopW (S := ((Int × Unit) × Unit)) (fun s2 => (fun next2 => ((inK IntKind.i64 s2.1.1) → (cnd (decide (s2.1.1 < m.1.1)) (loopW (S := ((Int × Unit) × Unit)) (fun s3 => (fun next3 => ((inK IntKind.i64 s3.1.1) → (cnd (decide (s3.1.1 < m.1.1)) (((0 : Int) ≤ s1.1.1) ∧ ((s1.1.1 < (((List.length m.1.2.2.2.1) : Nat) : Int)) ∧ (((0 : Int) ≤ s2.1.1) ∧ ((s2.1.1 < (((List.length m.1.2.2.2.1) : Nat) : Int)) ∧ (((0 : Int) ≤ s3.1.1) ∧ ((s3.1.1 < (((List.length m.1.2.2.2.1) : Nat) : Int)) ∧ (((0 : Int) ≤ s1.1.1) ∧ ((s1.1.1 < (((List.length b) : Nat) : Int)) ∧ (((0 : Int) ≤ s2.1.1) ∧ ((s2.1.1 < (((List.length m.2.2.1) : Nat) : Int)) ∧ (((0 : Int) ≤ s3.1.1) ∧ ((s3.1.1 < (((List.length (List.getD m.2.2.1 (Int.toNat s2.1.1) ([] : List Int))) : Nat) : Int)) ∧ (((0 : Int) ≤ (List.getD (List.getD m.2.2.1 (Int.toNat s2.1.1) ([] : List Int)) (Int.toNat s3.1.1) (0 : Int))) ∧ (((List.getD (List.getD m.2.2.1 (Int.toNat s2.1.1) ([] : List Int)) (Int.toNat s3.1.1) (0 : Int)) < (((List.length (List.getD b (Int.toNat s1.1.1) ([] : List Int))) : Nat) : Int)) ∧ (((0 : Int) ≤ s1.1.1) ∧ ((s1.1.1 < (((List.length b) : Nat) : Int)) ∧ (((0 : Int) ≤ s2.1.1) ∧ ((s2.1.1 < (((List.length (List.getD b (Int.toNat s1.1.1) ([] : List Int))) : Nat) : Int)) ∧ (((0 : Int) ≤ (List.getD (List.getD b (Int.toNat s1.1.1) ([] : List Int)) (Int.toNat s2.1.1) (0 : Int))) ∧ (((List.getD (List.getD b (Int.toNat s1.1.1) ([] : List Int)) (Int.toNat s2.1.1) (0 : Int)) < (((List.length m.2.2.2) : Nat) : Int)) ∧ (((0 : Int) ≤ (List.getD m.1.2.2.2.1 (Int.toNat s3.1.1) (0 : Int))) ∧ (((List.getD m.1.2.2.2.1 (Int.toNat s3.1.1) (0 : Int)) < (((List.length (List.getD m.2.2.2 (Int.toNat (List.getD (List.getD b (Int.toNat s1.1.1) ([] : List Int)) (Int.toNat s2.1.1) (0 : Int))) ([] : List Int))) : Nat) : Int)) ∧ (((0 : Int) ≤ (List.getD m.1.2.2.2.1 (Int.toNat s2.1.1) (0 : Int))) ∧ (((List.getD m.1.2.2.2.1 (Int.toNat s2.1.1) (0 : Int)) < (((List.length m.2.2.2) : Nat) : Int)) ∧ (((0 : Int) ≤ s1.1.1) ∧ ((s1.1.1 < (((List.length b) : Nat) : Int)) ∧ (((0 : Int) ≤ s3.1.1) ∧ ((s3.1.1 < (((List.length (List.getD b (Int.toNat s1.1.1) ([] : List Int))) : Nat) : Int)) ∧ (((0 : Int) ≤ (List.getD (List.getD b (Int.toNat s1.1.1) ([] : List Int)) (Int.toNat s3.1.1) (0 : Int))) ∧ (((List.getD (List.getD b (Int.toNat s1.1.1) ([] : List Int)) (Int.toNat s3.1.1) (0 : Int)) < (((List.length (List.getD m.2.2.2 (Int.toNat (List.getD m.1.2.2.2.1 (Int.toNat s2.1.1) (0 : Int))) ([] : List Int))) : Nat) : Int)) ∧ (((0 : Int) ≤ (List.getD (List.getD m.2.2.2 (Int.toNat (List.getD (List.getD b (Int.toNat s1.1.1) ([] : List Int)) (Int.toNat s2.1.1) (0 : Int))) ([] : List Int)) (Int.toNat (List.getD m.1.2.2.2.1 (Int.toNat s3.1.1) (0 : Int))) (0 : Int))) ∧ (((List.getD (List.getD m.2.2.2 (Int.toNat (List.getD (List.getD b (Int.toNat s1.1.1) ([] : List Int)) (Int.toNat s2.1.1) (0 : Int))) ([] : List Int)) (Int.toNat (List.getD m.1.2.2.2.1 (Int.toNat s3.1.1) (0 : Int))) (0 : Int)) < (((List.length m.1.2.2.2.2) : Nat) : Int)) ∧ (((0 : Int) ≤ (List.getD (List.getD m.2.2.2 (Int.toNat (List.getD m.1.2.2.2.1 (Int.toNat s2.1.1) (0 : Int))) ([] : List Int)) (Int.toNat (List.getD (List.getD b (Int.toNat s1.1.1) ([] : List Int)) (Int.toNat s3.1.1) (0 : Int))) (0 : Int))) ∧ (((List.getD (List.getD m.2.2.2 (Int.toNat (List.getD m.1.2.2.2.1 (Int.toNat s2.1.1) (0 : Int))) ([] : List Int)) (Int.toNat (List.getD (List.getD b (Int.toNat s1.1.1) ([] : List Int)) (Int.toNat s3.1.1) (0 : Int))) (0 : Int)) < (((List.length (List.getD m.1.2.2.2.2 (Int.toNat (List.getD (List.getD m.2.2.2 (Int.toNat (List.getD (List.getD b (Int.toNat s1.1.1) ([] : List Int)) (Int.toNat s2.1.1) (0 : Int))) ([] : List Int)) (Int.toNat (List.getD m.1.2.2.2.1 (Int.toNat s3.1.1) (0 : Int))) (0 : Int))) ([] : List Int))) : Nat) : Int)) ∧ (cnd ((List.getD (List.getD b (Int.toNat s1.1.1) ([] : List Int)) (Int.toNat (List.getD (List.getD m.2.2.1 (Int.toNat s2.1.1) ([] : List Int)) (Int.toNat s3.1.1) (0 : Int))) (0 : Int)) != (compR m.1 (List.getD (List.getD m.2.2.2 (Int.toNat (List.getD (List.getD b (Int.toNat s1.1.1) ([] : List Int)) (Int.toNat s2.1.1) (0 : Int))) ([] : List Int)) (Int.toNat (List.getD m.1.2.2.2.1 (Int.toNat s3.1.1) (0 : Int))) (0 : Int)) (List.getD (List.getD m.2.2.2 (Int.toNat (List.getD m.1.2.2.2.1 (Int.toNat s2.1.1) (0 : Int))) ([] : List Int)) (Int.toNat (List.getD (List.getD b (Int.toNat s1.1.1) ([] : List Int)) (Int.toNat s3.1.1) (0 : Int))) (0 : Int)))) (K (Bool.false, ())) (((0 : Int) ≤ s1.1.1) ∧ ((s1.1.1 < (((List.length m.2.2.1) : Nat) : Int)) ∧ (((0 : Int) ≤ s2.1.1) ∧ ((s2.1.1 < (((List.length (List.getD m.2.2.1 (Int.toNat s1.1.1) ([] : List Int))) : Nat) : Int)) ∧ (((0 : Int) ≤ (List.getD (List.getD m.2.2.1 (Int.toNat s1.1.1) ([] : List Int)) (Int.toNat s2.1.1) (0 : Int))) ∧ (((List.getD (List.getD m.2.2.1 (Int.toNat s1.1.1) ([] : List Int)) (Int.toNat s2.1.1) (0 : Int)) < (((List.length b) : Nat) : Int)) ∧ (((0 : Int) ≤ s3.1.1) ∧ ((s3.1.1 < (((List.length (List.getD b (Int.toNat (List.getD (List.getD m.2.2.1 (Int.toNat s1.1.1) ([] : List Int)) (Int.toNat s2.1.1) (0 : Int))) ([] : List Int))) : Nat) : Int)) ∧ (((0 : Int) ≤ (List.getD m.1.2.2.2.1 (Int.toNat s1.1.1) (0 : Int))) ∧ (((List.getD m.1.2.2.2.1 (Int.toNat s1.1.1) (0 : Int)) < (((List.length m.2.2.2) : Nat) : Int)) ∧ (((0 : Int) ≤ s2.1.1) ∧ ((s2.1.1 < (((List.length b) : Nat) : Int)) ∧ (((0 : Int) ≤ s3.1.1) ∧ ((s3.1.1 < (((List.length (List.getD b (Int.toNat s2.1.1) ([] : List Int))) : Nat) : Int)) ∧ (((0 : Int) ≤ (List.getD (List.getD b (Int.toNat s2.1.1) ([] : List Int)) (Int.toNat s3.1.1) (0 : Int))) ∧ (((List.getD (List.getD b (Int.toNat s2.1.1) ([] : List Int)) (Int.toNat s3.1.1) (0 : Int)) < (((List.length (List.getD m.2.2.2 (Int.toNat (List.getD m.1.2.2.2.1 (Int.toNat s1.1.1) (0 : Int))) ([] : List Int))) : Nat) : Int)) ∧ (((0 : Int) ≤ s1.1.1) ∧ ((s1.1.1 < (((List.length b) : Nat) : Int)) ∧ (((0 : Int) ≤ s3.1.1) ∧ ((s3.1.1 < (((List.length (List.getD b (Int.toNat s1.1.1) ([] : List Int))) : Nat) : Int)) ∧ (((0 : Int) ≤ (List.getD (List.getD b (Int.toNat s1.1.1) ([] : List Int)) (Int.toNat s3.1.1) (0 : Int))) ∧ (((List.getD (List.getD b (Int.toNat s1.1.1) ([] : List Int)) (Int.toNat s3.1.1) (0 : Int)) < (((List.length m.2.2.2) : Nat) : Int)) ∧ (((0 : Int) ≤ (List.getD m.1.2.2.2.1 (Int.toNat s2.1.1) (0 : Int))) ∧ (((List.getD m.1.2.2.2.1 (Int.toNat s2.1.1) (0 : Int)) < (((List.length (List.getD m.2.2.2 (Int.toNat (List.getD (List.getD b (Int.toNat s1.1.1) ([] : List Int)) (Int.toNat s3.1.1) (0 : Int))) ([] : List Int))) : Nat) : Int)) ∧ (((0 : Int) ≤ (List.getD (List.getD m.2.2.2 (Int.toNat (List.getD m.1.2.2.2.1 (Int.toNat s1.1.1) (0 : Int))) ([] : List Int)) (Int.toNat (List.getD (List.getD b (Int.toNat s2.1.1) ([] : List Int)) (Int.toNat s3.1.1) (0 : Int))) (0 : Int))) ∧ (((List.getD (List.getD m.2.2.2 (Int.toNat (List.getD m.1.2.2.2.1 (Int.toNat s1.1.1) (0 : Int))) ([] : List Int)) (Int.toNat (List.getD (List.getD b (Int.toNat s2.1.1) ([] : List Int)) (Int.toNat s3.1.1) (0 : Int))) (0 : Int)) < (((List.length m.1.2.2.2.2) : Nat) : Int)) ∧ (((0 : Int) ≤ (List.getD (List.getD m.2.2.2 (Int.toNat (List.getD (List.getD b (Int.toNat s1.1.1) ([] : List Int)) (Int.toNat s3.1.1) (0 : Int))) ([] : List Int)) (Int.toNat (List.getD m.1.2.2.2.1 (Int.toNat s2.1.1) (0 : Int))) (0 : Int))) ∧ (((List.getD (List.getD m.2.2.2 (Int.toNat (List.getD (List.getD b (Int.toNat s1.1.1) ([] : List Int)) (Int.toNat s3.1.1) (0 : Int))) ([] : List Int)) (Int.toNat (List.getD m.1.2.2.2.1 (Int.toNat s2.1.1) (0 : Int))) (0 : Int)) < (((List.length (List.getD m.1.2.2.2.2 (Int.toNat (List.getD (List.getD m.2.2.2 (Int.toNat (List.getD m.1.2.2.2.1 (Int.toNat s1.1.1) (0 : Int))) ([] : List Int)) (Int.toNat (List.getD (List.getD b (Int.toNat s2.1.1) ([] : List Int)) (Int.toNat s3.1.1) (0 : Int))) (0 : Int))) ([] : List Int))) : Nat) : Int)) ∧ (cnd ((List.getD (List.getD b (Int.toNat (List.getD (List.getD m.2.2.1 (Int.toNat s1.1.1) ([] : List Int)) (Int.toNat s2.1.1) (0 : Int))) ([] : List Int)) (Int.toNat s3.1.1) (0 : Int)) != (compR m.1 (List.getD (List.getD m.2.2.2 (Int.toNat (List.getD m.1.2.2.2.1 (Int.toNat s1.1.1) (0 : Int))) ([] : List Int)) (Int.toNat (List.getD (List.getD b (Int.toNat s2.1.1) ([] : List Int)) (Int.toNat s3.1.1) (0 : Int))) (0 : Int)) (List.getD (List.getD m.2.2.2 (Int.toNat (List.getD (List.getD b (Int.toNat s1.1.1) ([] : List Int)) (Int.toNat s3.1.1) (0 : Int))) ([] : List Int)) (Int.toNat (List.getD m.1.2.2.2.1 (Int.toNat s2.1.1) (0 : Int))) (0 : Int)))) (K (Bool.false, ())) ((inK IntKind.i64 (s3.1.1 + (1 : Int))) ∧ (next3 (((s3.1.1 + (1 : Int)), ()), ()))))))))))))))))))))))))))))))))))))))))))))))))))))))))))))))))))) ((inK IntKind.i64 (s2.1.1 + (1 : Int))) ∧ (next2 (((s2.1.1 + (1 : Int)), ()), ()))))))) (((0 : Int), ()), ())) ((inK IntKind.i64 (s1.1.1 + (1 : Int))) ∧ (next1 (((s1.1.1 + (1 : Int)), ()), ()))))))) (((0 : Int), ()), ())) (K (Bool.true, ())))))) (((0 : Int), ()), ())))))) (((0 : Int), ()), ()))
theorem w_spec_l35Braids (x : denL c_spec_l35Braids.args) (K : Bool × Unit → Prop) : evF tab (lkp [(68, c_spec_l02Then)]) (cutL [(20, 18), (21, 45), (23, 45), (8, 26), (9, 27)]) Try.f89 (bodyOf Try.f89) (.s .n (.s .n (.s (.s .n (.l [(6, (.d (.int .i64)))] [] [1, 2, 5] (.s .n (.s (.s .n (.l [(7, (.d (.int .i64)))] [] [1, 2, 5, 6] .n)) .n)))) (.s (.s .n (.l [(9, (.d (.int .i64)))] [] [1, 2, 5] (.s .n (.s (.s .n (.l [(10, (.d (.int .i64)))] [] [1, 2, 5, 9] (.s .n (.s (.s .n (.l [(11, (.d (.int .i64)))] [] [1, 2, 5, 9, 10] .n)) .n)))) .n)))) .n)))) c_spec_l35Braids x K = W_spec_l35Braids x.1 x.2.1 K := by kernel_rfl
theorem k_spec_l35Braids : okC Try.f89.ntmps (cutL [(20, 18), (21, 45), (23, 45), (8, 26), (9, 27)]) (bodyOf Try.f89) = true := by kernel_rfl
theorem m_spec_l35Braids (m : MonoidalD) (b : List (List Int)) (hok : allP (okL c_spec_l35Braids.args (m, b, ()))) (hpre : allP (c_spec_l35Braids.pre (m, b, ()))) : W_spec_l35Braids m b (fun r => r = c_spec_l35Braids.res (m, b, ())) := by
  simp only [c_spec_l35Braids, okL, T.oks, T.ok, ap, allP, true_and, and_true, implies_true] at hok hpre
  try dsimp only [T.den] at hok
  try dsimp only [T.den] at hpre
  unfold W_spec_l35Braids
  have P : MonP m := hpre.1
  have B : BtabP m b := hpre.2
  have S := cat_shape P.cat
  have O := tab_at P.ot
  have A := tab_at P.at_
  have hob := S.ob
  have hlt := S.lt
  have hli := S.li
  have hlc := S.lc
  have hmm := S.m
  have hbl := B.len
  have at1 : ∀ i j : Int, (m.2.2.2.getD i.toNat []).getD j.toNat 0 = atR m.2.2.2 i j := fun _ _ => rfl
  have at2 : ∀ i j : Int, (m.2.2.1.getD i.toNat []).getD j.toNat 0 = atR m.2.2.1 i j := fun _ _ => rfl
  have at4 : ∀ i j : Int, (b.getD i.toNat []).getD j.toNat 0 = atR b i j := fun _ _ => rfl
  have bad : ¬ (natR m b = true ∧ hexR m b = true) → (false, ()) = c_spec_l35Braids.res (m, b, ()) := fun h => by
    simp only [c_spec_l35Braids]
    cases hs : (natR m b && hexR m b) with
    | false => rfl
    | true => rw [Bool.and_eq_true] at hs; exact absurd hs h
  refine loop_ix (n := m.1.2.1.length) (fun f => ∀ f' : Int, 0 ≤ f' → f' < f → ∀ g : Int, 0 ≤ g → g < m.1.2.1.length →
    compR m.1 (atR m.2.2.2 f' g) (atR b (m.1.2.2.1.getD f'.toNat 0) (m.1.2.2.1.getD g.toNat 0)) = compR m.1 (atR b (m.1.2.1.getD f'.toNat 0) (m.1.2.1.getD g.toNat 0)) (atR m.2.2.2 g f')) (by omega) (by intro y h0 h1; omega) ?_ ?_
  · intro f next f0 f1 hP hn hin
    dsimp only
    refine cnd_d (fun _ => ?_) (fun h => absurd f1 h)
    refine loop_ix (n := m.1.2.1.length) (fun g => ∀ g' : Int, 0 ≤ g' → g' < g →
      compR m.1 (atR m.2.2.2 f g') (atR b (m.1.2.2.1.getD f.toNat 0) (m.1.2.2.1.getD g'.toNat 0)) = compR m.1 (atR b (m.1.2.1.getD f.toNat 0) (m.1.2.1.getD g'.toNat 0)) (atR m.2.2.2 g' f)) (by omega) (by intro y h0 h1; omega) ?_ ?_
    · intro g next2 g0 g1 hP2 hn2 hin2
      dsimp only
      simp only [at1, at4]
      have sf := S.frm f0 f1
      have sg := S.frm g0 g1
      have afg := A.2.2 f g f0 f1 g0 g1
      have agf := A.2.2 g f g0 g1 f0 f1
      have rf := A.2.1 f f0 f1
      have rg := A.2.1 g g0 g1
      have bt := B.at_ _ _ sf.2.2.1 sf.2.2.2 sg.2.2.1 sg.2.2.2
      have bf := B.at_ _ _ sf.1 sf.2.1 sg.1 sg.2.1
      have rt := B.row _ sf.2.2.1 sf.2.2.2
      have rb := B.row _ sf.1 sf.2.1
      have c1 := S.row _ afg.1 afg.2
      have c2 := S.row _ bf.1 bf.2
      refine cnd_d (fun _ => ?_) (fun h => absurd g1 h)
      repeat' (with_reducible apply And.intro)
      all_goals first | omega | (intro _; omega) | skip
      refine cnd_of (fun hx => bad fun h => ?_) (fun hx => ⟨by rw [inK64]; omega, hn2 fun g' a0 a1 => ?_⟩)
      · rw [nat_iff.1 h.1 f f0 f1 g g0 g1] at hx; simp at hx
      · by_cases e : g' = g
        · rw [e]; simpa only [bne_eq_false_iff_eq] using hx
        · exact hP2 g' a0 (by omega)
    · intro next2 hP2 hin2
      refine cnd_d (fun h => absurd h (by dsimp only; omega)) (fun _ => ⟨by rw [inK64]; omega, hn fun f' a0 a1 => ?_⟩)
      by_cases e : f' = f
      · rw [e]; exact hP2
      · exact hP f' a0 (by omega)
  intro next hN hin
  refine cnd_d (fun h => absurd h (by dsimp only; omega)) (fun _ => ?_)
  have hN := nat_iff.2 hN
  clear next
  refine loop_ix (n := m.1.1) (fun x => ∀ x' : Int, 0 ≤ x' → x' < x → ∀ y : Int, 0 ≤ y → y < m.1.1 → ∀ z : Int, 0 ≤ z → z < m.1.1 → hexI m b x' y z = true) (by omega) (by intro y h0 h1; omega) ?_ ?_
  · intro x next x0 x1 hP hn hin
    dsimp only
    refine cnd_d (fun _ => ?_) (fun h => absurd x1 h)
    refine loop_ix (n := m.1.1) (fun y => ∀ y' : Int, 0 ≤ y' → y' < y → ∀ z : Int, 0 ≤ z → z < m.1.1 → hexI m b x y' z = true) (by omega) (by intro y h0 h1; omega) ?_ ?_
    · intro y next2 y0 y1 hP2 hn2 hin2
      dsimp only
      refine cnd_d (fun _ => ?_) (fun h => absurd y1 h)
      refine loop_ix (n := m.1.1) (fun z => ∀ z' : Int, 0 ≤ z' → z' < z → hexI m b x y z' = true) (by omega) (by intro y h0 h1; omega) ?_ ?_
      · intro z next3 z0 z1 hP3 hn3 hin3
        dsimp only
        simp only [at1, at2, at4]
        have x2 : x < m.1.1 := by omega
        have y2 : y < m.1.1 := by omega
        have z2 : z < m.1.1 := by omega
        have ix := S.idn x0 x2
        have iy := S.idn y0 y2
        have iz := S.idn z0 z2
        have oyz := O.2.2 y z y0 y2 z0 z2
        have oxy := O.2.2 x y x0 x2 y0 y2
        have ro1 := O.2.1 y y0 y2
        have ro2 := O.2.1 x x0 x2
        have bxy := B.at_ x y x0 x2 y0 y2
        have bxz := B.at_ x z x0 x2 z0 z2
        have byz := B.at_ y z y0 y2 z0 z2
        have rb1 := B.row x x0 x2
        have rb2 := B.row y y0 y2
        have rb3 := B.row _ oxy.1 oxy.2
        have a1 := A.2.2 _ _ bxy.1 bxy.2 iz.1 iz.2.1
        have a2 := A.2.2 _ _ iy.1 iy.2.1 bxz.1 bxz.2
        have a3 := A.2.2 _ _ ix.1 ix.2.1 byz.1 byz.2
        have a4 := A.2.2 _ _ bxz.1 bxz.2 iy.1 iy.2.1
        have ra1 := A.2.1 _ bxy.1 bxy.2
        have ra2 := A.2.1 _ iy.1 iy.2.1
        have ra3 := A.2.1 _ ix.1 ix.2.1
        have ra4 := A.2.1 _ bxz.1 bxz.2
        have c1 := S.row _ a1.1 a1.2
        have c2 := S.row _ a3.1 a3.2
        have hI : hexI m b x y z = (atR b x (atR m.2.2.1 y z) == compR m.1 (atR m.2.2.2 (atR b x y) (m.1.2.2.2.1.getD z.toNat 0)) (atR m.2.2.2 (m.1.2.2.2.1.getD y.toNat 0) (atR b x z)) &&
          atR b (atR m.2.2.1 x y) z == compR m.1 (atR m.2.2.2 (m.1.2.2.2.1.getD x.toNat 0) (atR b y z)) (atR m.2.2.2 (atR b x z) (m.1.2.2.2.1.getD y.toNat 0))) := rfl
        refine cnd_d (fun _ => ?_) (fun h => absurd z1 h)
        repeat' (with_reducible apply And.intro)
        all_goals first | omega | (intro _; omega) | skip
        refine cnd_of (fun hx => bad fun h => ?_) (fun hx => ?_)
        · have := (hex_iff hob.1).1 h.2 x x0 x2 y y0 y2 z z0 z2
          rw [hI, Bool.and_eq_true, beq_iff_eq] at this
          rw [this.1] at hx; simp at hx
        repeat' (with_reducible apply And.intro)
        all_goals first | omega | (intro _; omega) | skip
        refine cnd_of (fun hy => bad fun h => ?_) (fun hy => ⟨by rw [inK64]; omega, hn3 fun z' q0 q1 => ?_⟩)
        · have := (hex_iff hob.1).1 h.2 x x0 x2 y y0 y2 z z0 z2
          rw [hI, Bool.and_eq_true, beq_iff_eq, beq_iff_eq] at this
          rw [this.2] at hy; simp at hy
        · by_cases e : z' = z
          · rw [e, hI]
            rw [bne_eq_false_iff_eq] at hx hy
            rw [hx, hy]; simp
          · exact hP3 z' q0 (by omega)
      · intro next3 hP3 hin3
        refine cnd_d (fun h => absurd h (by dsimp only; omega)) (fun _ => ⟨by rw [inK64]; omega, hn2 fun y' a0 a1 => ?_⟩)
        by_cases e : y' = y
        · rw [e]; exact fun z z0 z1 => hP3 z z0 (by omega)
        · exact hP2 y' a0 (by omega)
    · intro next2 hP2 hin2
      refine cnd_d (fun h => absurd h (by dsimp only; omega)) (fun _ => ⟨by rw [inK64]; omega, hn fun x' a0 a1 => ?_⟩)
      by_cases e : x' = x
      · rw [e]; exact fun y y0 y1 => hP2 y y0 (by omega)
      · exact hP x' a0 (by omega)
  · intro next hP hin
    refine cnd_d (fun h => absurd h (by dsimp only; omega)) (fun _ => ?_)
    simp only [c_spec_l35Braids]
    rw [hN, (hex_iff hob.1).2 hP]; rfl
theorem ct_spec_l35Braids : CtOk Try.prog 89 c_spec_l35Braids :=
  ct_by (Φ := lkp [(68, c_spec_l02Then)]) (good_cons ct_spec_l02Then good_nil) tab_ok (by kernel_rfl) (fn := Try.f89) (c := bodyOf Try.f89) (by kernel_rfl) (by kernel_rfl) (by kernel_rfl) c_spec_l35Braids (.s .n (.s .n (.s (.s .n (.l [(6, (.d (.int .i64)))] [] [1, 2, 5] (.s .n (.s (.s .n (.l [(7, (.d (.int .i64)))] [] [1, 2, 5, 6] .n)) .n)))) (.s (.s .n (.l [(9, (.d (.int .i64)))] [] [1, 2, 5] (.s .n (.s (.s .n (.l [(10, (.d (.int .i64)))] [] [1, 2, 5, 9] (.s .n (.s (.s .n (.l [(11, (.d (.int .i64)))] [] [1, 2, 5, 9, 10] .n)) .n)))) .n)))) .n)))) (cutL [(20, 18), (21, 45), (23, 45), (8, 26), (9, 27)]) (by kernel_rfl) (by kernel_rfl) k_spec_l35Braids (by decide) (fun x K => W_spec_l35Braids x.1 x.2.1 K) w_spec_l35Braids (fun x h1 h2 => m_spec_l35Braids x.1 x.2.1 h1 h2)
def c_spec_l35Braiding : Ct := ⟨[MonoidalT, (.sl (.sl (.int .i64)))], [true, false], fun x => [MonP x.1], [(false, (.fz .bool))], fun x => (braR x.1 x.2.1, ()), false⟩
def W_spec_l35Braiding (m : MonoidalD) (b : List (List Int)) (K : Bool × Unit → Prop) : Prop := (cnd (((((List.length b) : Nat) : Int) != m.1.1) || (!(squareR b (((List.length m.1.2.1) : Nat) : Int)))) (K (Bool.false, ())) (loopW (S := ((Int × Unit) × Unit)) (fun s => (fun next => ((inK IntKind.i64 s.1.1) → (cnd (decide (s.1.1 < (((List.length b) : Nat) : Int))) (loopW (S := ((Int × Unit) × Unit)) (fun s1 => (fun next1 => ((inK IntKind.i64 s1.1.1) → (cnd (decide (s1.1.1 < (((List.length b) : Nat) : Int))) (((0 : Int) ≤ s.1.1) ∧ ((s.1.1 < (((List.length b) : Nat) : Int)) ∧ (((0 : Int) ≤ s1.1.1) ∧ ((s1.1.1 < (((List.length (List.getD b (Int.toNat s.1.1) ([] : List Int))) : Nat) : Int)) ∧ (((0 : Int) ≤ (List.getD (List.getD b (Int.toNat s.1.1) ([] : List Int)) (Int.toNat s1.1.1) (0 : Int))) ∧ (((List.getD (List.getD b (Int.toNat s.1.1) ([] : List Int)) (Int.toNat s1.1.1) (0 : Int)) < (((List.length m.1.2.1) : Nat) : Int)) ∧ (((0 : Int) ≤ s.1.1) ∧ ((s.1.1 < (((List.length m.2.2.1) : Nat) : Int)) ∧ (((0 : Int) ≤ s1.1.1) ∧ ((s1.1.1 < (((List.length (List.getD m.2.2.1 (Int.toNat s.1.1) ([] : List Int))) : Nat) : Int)) ∧ (((((List.getD m.1.2.1 (Int.toNat (List.getD (List.getD b (Int.toNat s.1.1) ([] : List Int)) (Int.toNat s1.1.1) (0 : Int))) (0 : Int)) != (List.getD (List.getD m.2.2.1 (Int.toNat s.1.1) ([] : List Int)) (Int.toNat s1.1.1) (0 : Int))) = Bool.false) → (((List.getD (List.getD b (Int.toNat s.1.1) ([] : List Int)) (Int.toNat s1.1.1) (0 : Int)) < (((List.length m.1.2.2.1) : Nat) : Int)) ∧ ((0 : Int) ≤ (List.getD (List.getD b (Int.toNat s.1.1) ([] : List Int)) (Int.toNat s1.1.1) (0 : Int))))) ∧ (((((List.getD m.1.2.1 (Int.toNat (List.getD (List.getD b (Int.toNat s.1.1) ([] : List Int)) (Int.toNat s1.1.1) (0 : Int))) (0 : Int)) != (List.getD (List.getD m.2.2.1 (Int.toNat s.1.1) ([] : List Int)) (Int.toNat s1.1.1) (0 : Int))) = Bool.false) → ((s1.1.1 < (((List.length m.2.2.1) : Nat) : Int)) ∧ ((0 : Int) ≤ s1.1.1))) ∧ (((((List.getD m.1.2.1 (Int.toNat (List.getD (List.getD b (Int.toNat s.1.1) ([] : List Int)) (Int.toNat s1.1.1) (0 : Int))) (0 : Int)) != (List.getD (List.getD m.2.2.1 (Int.toNat s.1.1) ([] : List Int)) (Int.toNat s1.1.1) (0 : Int))) = Bool.false) → ((s.1.1 < (((List.length (List.getD m.2.2.1 (Int.toNat s1.1.1) ([] : List Int))) : Nat) : Int)) ∧ ((0 : Int) ≤ s.1.1))) ∧ ((((((List.getD m.1.2.1 (Int.toNat (List.getD (List.getD b (Int.toNat s.1.1) ([] : List Int)) (Int.toNat s1.1.1) (0 : Int))) (0 : Int)) != (List.getD (List.getD m.2.2.1 (Int.toNat s.1.1) ([] : List Int)) (Int.toNat s1.1.1) (0 : Int))) || ((List.getD m.1.2.2.1 (Int.toNat (List.getD (List.getD b (Int.toNat s.1.1) ([] : List Int)) (Int.toNat s1.1.1) (0 : Int))) (0 : Int)) != (List.getD (List.getD m.2.2.1 (Int.toNat s1.1.1) ([] : List Int)) (Int.toNat s.1.1) (0 : Int)))) = Bool.false) → (((0 : Int) ≤ (List.getD (List.getD b (Int.toNat s.1.1) ([] : List Int)) (Int.toNat s1.1.1) (0 : Int))) ∧ (((List.getD (List.getD b (Int.toNat s.1.1) ([] : List Int)) (Int.toNat s1.1.1) (0 : Int)) < (((List.length m.1.2.1) : Nat) : Int)) ∧ (ShapeP m.1)))) ∧ (cnd ((((List.getD m.1.2.1 (Int.toNat (List.getD (List.getD b (Int.toNat s.1.1) ([] : List Int)) (Int.toNat s1.1.1) (0 : Int))) (0 : Int)) != (List.getD (List.getD m.2.2.1 (Int.toNat s.1.1) ([] : List Int)) (Int.toNat s1.1.1) (0 : Int))) || ((List.getD m.1.2.2.1 (Int.toNat (List.getD (List.getD b (Int.toNat s.1.1) ([] : List Int)) (Int.toNat s1.1.1) (0 : Int))) (0 : Int)) != (List.getD (List.getD m.2.2.1 (Int.toNat s1.1.1) ([] : List Int)) (Int.toNat s.1.1) (0 : Int)))) || (decide ((invR m.1 (List.getD (List.getD b (Int.toNat s.1.1) ([] : List Int)) (Int.toNat s1.1.1) (0 : Int))) < (0 : Int)))) (K (Bool.false, ())) ((inK IntKind.i64 (s1.1.1 + (1 : Int))) ∧ (next1 (((s1.1.1 + (1 : Int)), ()), ())))))))))))))))))) ((inK IntKind.i64 (s.1.1 + (1 : Int))) ∧ (next (((s.1.1 + (1 : Int)), ()), ()))))))) (((0 : Int), ()), ())) ((MonP m) ∧ ((BtabP m b) ∧ (K (((natR m b) && (hexR m b)), ())))))))) (((0 : Int), ()), ())))
theorem w_spec_l35Braiding (x : denL c_spec_l35Braiding.args) (K : Bool × Unit → Prop) : evF tab (lkp [(88, c_spec_l02Inverse), (87, c_spec_l03Square), (89, c_spec_l35Braids)]) (cutL [(11, 36)]) Try.f65 (bodyOf Try.f65) (.s .n (.s .n (.s .n (.s (.s .n (.l [(6, (.d (.int .i64)))] [] [1, 2, 5] (.s .n (.s (.s .n (.l [(7, (.d (.int .i64)))] [] [1, 2, 5, 6] .n)) .n)))) .n)))) c_spec_l35Braiding x K = W_spec_l35Braiding x.1 x.2.1 K := by kernel_rfl
theorem k_spec_l35Braiding : okC Try.f65.ntmps (cutL [(11, 36)]) (bodyOf Try.f65) = true := by kernel_rfl
theorem m_spec_l35Braiding (m : MonoidalD) (b : List (List Int)) (hok : allP (okL c_spec_l35Braiding.args (m, b, ()))) (hpre : allP (c_spec_l35Braiding.pre (m, b, ()))) : W_spec_l35Braiding m b (fun r => r = c_spec_l35Braiding.res (m, b, ())) := by
  simp only [c_spec_l35Braiding, okL, T.oks, T.ok, ap, allP, true_and, and_true, implies_true] at hok hpre
  try dsimp only [T.den] at hok
  try dsimp only [T.den] at hpre
  unfold W_spec_l35Braiding
  have P : MonP m := hpre
  have S := cat_shape P.cat
  have O := tab_at P.ot
  have hob := S.ob
  have hlt := S.lt
  have hli := S.li
  have hlc := S.lc
  have hmm := S.m
  have at2 : ∀ i j : Int, (m.2.2.1.getD i.toNat []).getD j.toNat 0 = atR m.2.2.1 i j := fun _ _ => rfl
  have at4 : ∀ i j : Int, (b.getD i.toNat []).getD j.toNat 0 = atR b i j := fun _ _ => rfl
  have bad : ¬ BraP m b → (false, ()) = c_spec_l35Braiding.res (m, b, ()) := fun h => by
    simp only [c_spec_l35Braiding]
    cases hs : braR m b with
    | false => rfl
    | true => exact absurd ((bra_iff hob.1).1 hs) h
  refine cnd_of (fun hc => bad fun h => ?_) (fun hc => ?_)
  · have h1 := h.len; have h2 := h.sq; rw [h1, h2] at hc; simp at hc
  simp only [Bool.or_eq_false_iff, Bool.not_eq_false', bne_eq_false_iff_eq] at hc
  obtain ⟨hbl, hsq⟩ := hc
  have B := btab_of hbl hsq
  refine loop_ix (n := b.length) (fun x => ∀ x' : Int, 0 ≤ x' → x' < x → ∀ y : Int, 0 ≤ y → y < m.1.1 → braI m b x' y = true) (by omega) (by intro y h0 h1; omega) ?_ ?_
  · intro x next x0 x1 hP hn hin
    dsimp only
    have rb := B.row x x0 (by omega)
    refine cnd_d (fun _ => ?_) (fun h => absurd x1 h)
    refine loop_ix (n := b.length) (fun y => ∀ y' : Int, 0 ≤ y' → y' < y → braI m b x y' = true) (by omega) (by intro y h0 h1; omega) ?_ ?_
    · intro y next2 y0 y1 hP2 hn2 hin2
      dsimp only
      simp only [at2, at4]
      have x2 : x < m.1.1 := by omega
      have y2 : y < m.1.1 := by omega
      have ro1 := O.2.1 x x0 x2
      have ro2 := O.2.1 y y0 y2
      have bxy : 0 ≤ atR b x y ∧ atR b x y < m.1.2.1.length := B.at_ x y x0 x2 y0 y2
      refine cnd_d (fun _ => ?_) (fun h => absurd y1 h)
      repeat' (with_reducible apply And.intro)
      all_goals first | omega | (intro _; first | omega | (repeat' (with_reducible apply And.intro)) <;> first | exact S | omega) | skip
      refine cnd_of (fun hx => bad fun h => ?_) (fun hx => ⟨by rw [inK64]; omega, hn2 fun y' a0 a1 => ?_⟩)
      · have := braI_iff.1 (h.ent x x0 x2 y y0 y2)
        simp only [this.1, this.2.1, beq_self_eq_true, bne_self_eq_false, Bool.and_self, Bool.not_true, Bool.false_or, decide_eq_true_eq] at hx
        omega
      · by_cases e : y' = y
        · rw [e]
          refine braI_iff.2 ?_
          simp only [Bool.or_eq_false_iff, Bool.not_eq_false', Bool.and_eq_true, beq_iff_eq, bne_eq_false_iff_eq, decide_eq_false_iff_not] at hx
          exact ⟨hx.1.1, hx.1.2, by omega⟩
        · exact hP2 y' a0 (by omega)
    · intro next2 hP2 hin2
      refine cnd_d (fun h => absurd h (by dsimp only; omega)) (fun _ => ⟨by rw [inK64]; omega, hn fun x' a0 a1 => ?_⟩)
      by_cases e : x' = x
      · rw [e]; exact fun y y0 y1 => hP2 y y0 (by omega)
      · exact hP x' a0 (by omega)
  · intro next hP hin
    have hent : (allB m.1.1.toNat fun x => allB m.1.1.toNat fun y => braI m b x y) = true := by
      have e : ((m.1.1.toNat : Nat) : Int) = m.1.1 := by omega
      simp only [allB_iff, e]
      exact fun x x0 x1 y y0 y1 => hP x x0 (by omega) y y0 y1
    refine cnd_d (fun h => absurd h (by dsimp only; omega)) (fun _ => ⟨P, B, ?_⟩)
    simp only [c_spec_l35Braiding, braR, hbl, hsq, hent, decide_true, Bool.true_and]
theorem ct_spec_l35Braiding : CtOk Try.prog 65 c_spec_l35Braiding :=
  ct_by (Φ := lkp [(88, c_spec_l02Inverse), (87, c_spec_l03Square), (89, c_spec_l35Braids)]) (good_cons ct_spec_l02Inverse (good_cons ct_spec_l03Square (good_cons ct_spec_l35Braids good_nil))) tab_ok (by kernel_rfl) (fn := Try.f65) (c := bodyOf Try.f65) (by kernel_rfl) (by kernel_rfl) (by kernel_rfl) c_spec_l35Braiding (.s .n (.s .n (.s .n (.s (.s .n (.l [(6, (.d (.int .i64)))] [] [1, 2, 5] (.s .n (.s (.s .n (.l [(7, (.d (.int .i64)))] [] [1, 2, 5, 6] .n)) .n)))) .n)))) (cutL [(11, 36)]) (by kernel_rfl) (by kernel_rfl) k_spec_l35Braiding (by decide) (fun x K => W_spec_l35Braiding x.1 x.2.1 K) w_spec_l35Braiding (fun x h1 h2 => m_spec_l35Braiding x.1 x.2.1 h1 h2)
def c_spec_l01In : Ct := ⟨[(.int .i64), (.int .i64), (.int .i64)], [false, false, false], fun x => [], [(false, (.fz .bool))], fun x => (inR x.1 x.2.1 x.2.2.1, ()), false⟩
def W_spec_l01In (n : Int) (low : Int) (high : Int) (K : Bool × Unit → Prop) : Prop := (K (((decide (low ≤ n)) && (decide (n ≤ high))), ()))
theorem w_spec_l01In (x : denL c_spec_l01In.args) (K : Bool × Unit → Prop) : evF tab (lkp []) (cutL []) Try.f97 (bodyOf Try.f97) .n c_spec_l01In x K = W_spec_l01In x.1 x.2.1 x.2.2.1 K := by kernel_rfl
theorem k_spec_l01In : okC Try.f97.ntmps (cutL []) (bodyOf Try.f97) = true := by kernel_rfl
theorem m_spec_l01In (n : Int) (low : Int) (high : Int) (hok : allP (okL c_spec_l01In.args (n, low, high, ()))) (hpre : allP (c_spec_l01In.pre (n, low, high, ()))) : W_spec_l01In n low high (fun r => r = c_spec_l01In.res (n, low, high, ())) := by
  simp only [c_spec_l01In, okL, T.oks, T.ok, ap, allP, true_and, and_true, implies_true] at hok hpre
  try dsimp only [T.den] at hok
  try dsimp only [T.den] at hpre
  unfold W_spec_l01In
  grind [cnd, nb_eq, inK64, c_spec_l01In, inR]
theorem ct_spec_l01In : CtOk Try.prog 97 c_spec_l01In :=
  ct_by (Φ := lkp []) good_nil tab_ok (by kernel_rfl) (fn := Try.f97) (c := bodyOf Try.f97) (by kernel_rfl) (by kernel_rfl) (by kernel_rfl) c_spec_l01In .n (cutL []) (by kernel_rfl) (by kernel_rfl) k_spec_l01In (by decide) (fun x K => W_spec_l01In x.1 x.2.1 x.2.2.1 K) w_spec_l01In (fun x h1 h2 => m_spec_l01In x.1 x.2.1 x.2.2.1 h1 h2)
def c_spec_l02Ends : Ct := ⟨[(.sl (.int .i64)), (.int .i64), (.int .i64)], [false, false, false], fun x => [], [(false, (.fz .bool))], fun x => ((decide ((x.1.length : Int) = x.2.1) && withinR x.1 x.2.2.1), ()), false⟩
def W_spec_l02Ends (list : List Int) (length : Int) (objects : Int) (K : Bool × Unit → Prop) : Prop := (K ((((((List.length list) : Nat) : Int) == length) && (withinR list objects)), ()))
theorem w_spec_l02Ends (x : denL c_spec_l02Ends.args) (K : Bool × Unit → Prop) : evF tab (lkp [(49, c_spec_l01Map)]) (cutL []) Try.f98 (bodyOf Try.f98) .n c_spec_l02Ends x K = W_spec_l02Ends x.1 x.2.1 x.2.2.1 K := by kernel_rfl
theorem k_spec_l02Ends : okC Try.f98.ntmps (cutL []) (bodyOf Try.f98) = true := by kernel_rfl
theorem m_spec_l02Ends (list : List Int) (length : Int) (objects : Int) (hok : allP (okL c_spec_l02Ends.args (list, length, objects, ()))) (hpre : allP (c_spec_l02Ends.pre (list, length, objects, ()))) : W_spec_l02Ends list length objects (fun r => r = c_spec_l02Ends.res (list, length, objects, ())) := by
  simp only [c_spec_l02Ends, okL, T.oks, T.ok, ap, allP, true_and, and_true, implies_true] at hok hpre
  try dsimp only [T.den] at hok
  try dsimp only [T.den] at hpre
  unfold W_spec_l02Ends
  have : ((list.length : Int) == length) = decide ((list.length : Int) = length) := rfl
  simp only [c_spec_l02Ends, this]
theorem ct_spec_l02Ends : CtOk Try.prog 98 c_spec_l02Ends :=
  ct_by (Φ := lkp [(49, c_spec_l01Map)]) (good_cons ct_spec_l01Map good_nil) tab_ok (by kernel_rfl) (fn := Try.f98) (c := bodyOf Try.f98) (by kernel_rfl) (by kernel_rfl) (by kernel_rfl) c_spec_l02Ends .n (cutL []) (by kernel_rfl) (by kernel_rfl) k_spec_l02Ends (by decide) (fun x K => W_spec_l02Ends x.1 x.2.1 x.2.2.1 K) w_spec_l02Ends (fun x h1 h2 => m_spec_l02Ends x.1 x.2.1 x.2.2.1 h1 h2)
def c_spec_IsShape : Ct := ⟨[CategoryT], [true], fun x => [], [(false, (.fz .bool))], fun x => (shapeR x.1, ()), false⟩
def W_spec_IsShape (c : CategoryD) (K : Bool × Unit → Prop) : Prop := (cnd (((((!(inR c.1 (0 : Int) (8 : Int))) || (decide ((40 : Int) < (((List.length c.2.1) : Nat) : Int)))) || (!((decide ((((List.length c.2.1) : Nat) : Int) = (((List.length c.2.1) : Nat) : Int))) && (withinR c.2.1 c.1)))) || (!((decide ((((List.length c.2.2.1) : Nat) : Int) = (((List.length c.2.1) : Nat) : Int))) && (withinR c.2.2.1 c.1)))) || ((((List.length c.2.2.2.2) : Nat) : Int) != (((List.length c.2.1) : Nat) : Int))) (K (Bool.false, ())) (cnd (((((List.length c.2.2.2.1) : Nat) : Int) != c.1) || (!(withinR c.2.2.2.1 (((List.length c.2.1) : Nat) : Int)))) (K (Bool.false, ())) (loopW (S := ((Int × Unit) × Unit)) (fun s => (fun next => ((inK IntKind.i64 s.1.1) → (cnd (decide (s.1.1 < c.1)) (((0 : Int) ≤ s.1.1) ∧ ((s.1.1 < (((List.length c.2.2.2.1) : Nat) : Int)) ∧ (((0 : Int) ≤ (List.getD c.2.2.2.1 (Int.toNat s.1.1) (0 : Int))) ∧ (((List.getD c.2.2.2.1 (Int.toNat s.1.1) (0 : Int)) < (((List.length c.2.1) : Nat) : Int)) ∧ (((((List.getD c.2.1 (Int.toNat (List.getD c.2.2.2.1 (Int.toNat s.1.1) (0 : Int))) (0 : Int)) != s.1.1) = Bool.false) → ((s.1.1 < (((List.length c.2.2.2.1) : Nat) : Int)) ∧ ((0 : Int) ≤ s.1.1))) ∧ (((((List.getD c.2.1 (Int.toNat (List.getD c.2.2.2.1 (Int.toNat s.1.1) (0 : Int))) (0 : Int)) != s.1.1) = Bool.false) → (((List.getD c.2.2.2.1 (Int.toNat s.1.1) (0 : Int)) < (((List.length c.2.2.1) : Nat) : Int)) ∧ ((0 : Int) ≤ (List.getD c.2.2.2.1 (Int.toNat s.1.1) (0 : Int))))) ∧ (cnd (((List.getD c.2.1 (Int.toNat (List.getD c.2.2.2.1 (Int.toNat s.1.1) (0 : Int))) (0 : Int)) != s.1.1) || ((List.getD c.2.2.1 (Int.toNat (List.getD c.2.2.2.1 (Int.toNat s.1.1) (0 : Int))) (0 : Int)) != s.1.1)) (K (Bool.false, ())) ((inK IntKind.i64 (s.1.1 + (1 : Int))) ∧ (next (((s.1.1 + (1 : Int)), ()), ())))))))))) (loopW (S := ((Int × Unit) × Unit)) (fun s1 => (fun next1 => ((inK IntKind.i64 s1.1.1) → (cnd (decide (s1.1.1 < (((List.length c.2.1) : Nat) : Int))) (((0 : Int) ≤ s1.1.1) ∧ ((s1.1.1 < (((List.length c.2.2.2.2) : Nat) : Int)) ∧ (cnd ((((List.length (List.getD c.2.2.2.2 (Int.toNat s1.1.1) ([] : List Int))) : Nat) : Int) != (((List.length c.2.1) : Nat) : Int)) (K (Bool.false, ())) (loopW (S := ((Int × Unit) × Unit)) (fun s2 => (fun next2 => ((inK IntKind.i64 s2.1.1) → (cnd (decide (s2.1.1 < (((List.length c.2.1) : Nat) : Int))) (joinW (S := (Unit × Unit)) (fun s3 => ((inK IntKind.i64 (s2.1.1 + (1 : Int))) ∧ (next2 (((s2.1.1 + (1 : Int)), ()), ())))) (fun k => (((0 : Int) ≤ s1.1.1) ∧ ((s1.1.1 < (((List.length c.2.2.2.2) : Nat) : Int)) ∧ (((0 : Int) ≤ s2.1.1) ∧ ((s2.1.1 < (((List.length (List.getD c.2.2.2.2 (Int.toNat s1.1.1) ([] : List Int))) : Nat) : Int)) ∧ (((0 : Int) ≤ s1.1.1) ∧ ((s1.1.1 < (((List.length c.2.2.1) : Nat) : Int)) ∧ (((0 : Int) ≤ s2.1.1) ∧ ((s2.1.1 < (((List.length c.2.1) : Nat) : Int)) ∧ (cnd ((List.getD c.2.2.1 (Int.toNat s1.1.1) (0 : Int)) != (List.getD c.2.1 (Int.toNat s2.1.1) (0 : Int))) (cnd ((List.getD (List.getD c.2.2.2.2 (Int.toNat s1.1.1) ([] : List Int)) (Int.toNat s2.1.1) (0 : Int)) != (-(1 : Int))) (K (Bool.false, ())) (k ((), ()))) (((((decide ((List.getD (List.getD c.2.2.2.2 (Int.toNat s1.1.1) ([] : List Int)) (Int.toNat s2.1.1) (0 : Int)) < (0 : Int))) || (decide ((((List.length c.2.1) : Nat) : Int) ≤ (List.getD (List.getD c.2.2.2.2 (Int.toNat s1.1.1) ([] : List Int)) (Int.toNat s2.1.1) (0 : Int))))) = Bool.false) → (((List.getD (List.getD c.2.2.2.2 (Int.toNat s1.1.1) ([] : List Int)) (Int.toNat s2.1.1) (0 : Int)) < (((List.length c.2.1) : Nat) : Int)) ∧ ((0 : Int) ≤ (List.getD (List.getD c.2.2.2.2 (Int.toNat s1.1.1) ([] : List Int)) (Int.toNat s2.1.1) (0 : Int))))) ∧ (((((decide ((List.getD (List.getD c.2.2.2.2 (Int.toNat s1.1.1) ([] : List Int)) (Int.toNat s2.1.1) (0 : Int)) < (0 : Int))) || (decide ((((List.length c.2.1) : Nat) : Int) ≤ (List.getD (List.getD c.2.2.2.2 (Int.toNat s1.1.1) ([] : List Int)) (Int.toNat s2.1.1) (0 : Int))))) = Bool.false) → ((s1.1.1 < (((List.length c.2.1) : Nat) : Int)) ∧ ((0 : Int) ≤ s1.1.1))) ∧ ((((((decide ((List.getD (List.getD c.2.2.2.2 (Int.toNat s1.1.1) ([] : List Int)) (Int.toNat s2.1.1) (0 : Int)) < (0 : Int))) || (decide ((((List.length c.2.1) : Nat) : Int) ≤ (List.getD (List.getD c.2.2.2.2 (Int.toNat s1.1.1) ([] : List Int)) (Int.toNat s2.1.1) (0 : Int))))) || ((List.getD c.2.1 (Int.toNat (List.getD (List.getD c.2.2.2.2 (Int.toNat s1.1.1) ([] : List Int)) (Int.toNat s2.1.1) (0 : Int))) (0 : Int)) != (List.getD c.2.1 (Int.toNat s1.1.1) (0 : Int)))) = Bool.false) → (((List.getD (List.getD c.2.2.2.2 (Int.toNat s1.1.1) ([] : List Int)) (Int.toNat s2.1.1) (0 : Int)) < (((List.length c.2.2.1) : Nat) : Int)) ∧ ((0 : Int) ≤ (List.getD (List.getD c.2.2.2.2 (Int.toNat s1.1.1) ([] : List Int)) (Int.toNat s2.1.1) (0 : Int))))) ∧ ((((((decide ((List.getD (List.getD c.2.2.2.2 (Int.toNat s1.1.1) ([] : List Int)) (Int.toNat s2.1.1) (0 : Int)) < (0 : Int))) || (decide ((((List.length c.2.1) : Nat) : Int) ≤ (List.getD (List.getD c.2.2.2.2 (Int.toNat s1.1.1) ([] : List Int)) (Int.toNat s2.1.1) (0 : Int))))) || ((List.getD c.2.1 (Int.toNat (List.getD (List.getD c.2.2.2.2 (Int.toNat s1.1.1) ([] : List Int)) (Int.toNat s2.1.1) (0 : Int))) (0 : Int)) != (List.getD c.2.1 (Int.toNat s1.1.1) (0 : Int)))) = Bool.false) → ((s2.1.1 < (((List.length c.2.2.1) : Nat) : Int)) ∧ ((0 : Int) ≤ s2.1.1))) ∧ (cnd ((((decide ((List.getD (List.getD c.2.2.2.2 (Int.toNat s1.1.1) ([] : List Int)) (Int.toNat s2.1.1) (0 : Int)) < (0 : Int))) || (decide ((((List.length c.2.1) : Nat) : Int) ≤ (List.getD (List.getD c.2.2.2.2 (Int.toNat s1.1.1) ([] : List Int)) (Int.toNat s2.1.1) (0 : Int))))) || ((List.getD c.2.1 (Int.toNat (List.getD (List.getD c.2.2.2.2 (Int.toNat s1.1.1) ([] : List Int)) (Int.toNat s2.1.1) (0 : Int))) (0 : Int)) != (List.getD c.2.1 (Int.toNat s1.1.1) (0 : Int)))) || ((List.getD c.2.2.1 (Int.toNat (List.getD (List.getD c.2.2.2.2 (Int.toNat s1.1.1) ([] : List Int)) (Int.toNat s2.1.1) (0 : Int))) (0 : Int)) != (List.getD c.2.2.1 (Int.toNat s2.1.1) (0 : Int)))) (K (Bool.false, ())) (k ((), ())))))))))))))))))) ((inK IntKind.i64 (s1.1.1 + (1 : Int))) ∧ (next1 (((s1.1.1 + (1 : Int)), ()), ()))))))) (((0 : Int), ()), ()))))) (K (Bool.true, ())))))) (((0 : Int), ()), ())))))) (((0 : Int), ()), ()))))
theorem w_spec_IsShape (x : denL c_spec_IsShape.args) (K : Bool × Unit → Prop) : evF tab (lkp [(97, c_spec_l01In), (49, c_spec_l01Map), (98, c_spec_l02Ends)]) (cutL [(20, 11), (23, 33), (9, 24)]) Try.f93 (bodyOf Try.f93) (.s .n (.s .n (.s .n (.s .n (.s (.s .n (.l [(4, (.d (.int .i64)))] [] [1, 3] .n)) (.s (.s .n (.l [(5, (.d (.int .i64)))] [] [1, 3] (.s .n (.s (.s .n (.s .n (.l [(6, (.d (.int .i64)))] [] [1, 3, 5] (.s .n (.s (.j [] [] [1, 3, 5, 6] .n) .n))))) .n)))) .n)))))) c_spec_IsShape x K = W_spec_IsShape x.1 K := by kernel_rfl
theorem k_spec_IsShape : okC Try.f93.ntmps (cutL [(20, 11), (23, 33), (9, 24)]) (bodyOf Try.f93) = true := by kernel_rfl
theorem m_spec_IsShape (c : CategoryD) (hok : allP (okL c_spec_IsShape.args (c, ()))) (hpre : allP (c_spec_IsShape.pre (c, ()))) : W_spec_IsShape c (fun r => r = c_spec_IsShape.res (c, ())) := by
  simp only [c_spec_IsShape, okL, T.oks, T.ok, ap, allP, true_and, and_true, implies_true] at hok hpre
  try dsimp only [T.den] at hok
  try dsimp only [T.den] at hpre
  unfold W_spec_IsShape
  have bad : ¬ ShapeP c → (false, ()) = c_spec_IsShape.res (c, ()) := fun h => by simp only [c_spec_IsShape]; rw [shape_f h]
  refine cnd_of (fun hc => bad fun h => ?_) (fun hc => cnd_of (fun hd => bad fun h => ?_) (fun hd => ?_))
  · have h1 := h.ob; have h2 := h.m; have h3 := h.lt; have h4 := h.fr; have h5 := h.to; have h6 := h.lc; simp only [inR] at hc; grind [cnd, nb_eq, inK64]
  · have h1 := h.li; have h2 := h.ids; grind [cnd, nb_eq, inK64]
  simp only [inR, Bool.or_eq_false_iff, Bool.not_eq_false', Bool.and_eq_true, decide_eq_true_eq, decide_eq_false_iff_not, bne_eq_false_iff_eq] at hc hd
  obtain ⟨⟨⟨⟨hob, hm⟩, _, hfr⟩, hlt, hto⟩, hlc⟩ := hc
  obtain ⟨hli, hids⟩ := hd
  refine loop_ix (n := c.1) (fun x => ∀ y : Int, 0 ≤ y → y < x → c.2.1.getD (c.2.2.2.1.getD y.toNat 0).toNat 0 = y ∧ c.2.2.1.getD (c.2.2.2.1.getD y.toNat 0).toNat 0 = y) (by omega) (by intro y h0 h1; omega) ?_ ?_
  · intro x next h0 h1 hP hn hin
    have hb := within_iff.1 hids x h0 (by omega)
    dsimp only
    refine cnd_d (fun _ => ⟨h0, by omega, hb.1, hb.2, fun _ => by omega, fun _ => by omega, cnd_of (fun hx => bad fun h => ?_) (fun hx => ?_)⟩) (fun h => absurd h1 h)
    · have := h.idt x h0 (by omega)
      rw [this.1, this.2] at hx
      simp at hx
    · simp only [Bool.or_eq_false_iff, bne_eq_false_iff_eq] at hx
      refine ⟨by rw [inK64]; omega, hn fun y y0 y1 => ?_⟩
      by_cases e : y = x
      · rw [e]; exact hx
      · exact hP y y0 (by omega)
  intro next hidt hin
  refine cnd_d (fun h => absurd h (by dsimp only; omega)) (fun _ => ?_)
  refine loop_ix (n := c.2.1.length) (fun f => ∀ f' : Int, 0 ≤ f' → f' < f → (c.2.2.2.2.getD f'.toNat []).length = c.2.1.length ∧ ∀ g : Int, 0 ≤ g → g < c.2.1.length → cellR c f' g = true) (by omega) (by intro y h0 h1; omega) ?_ ?_
  · intro f next h0 h1 hP hn hin
    dsimp only
    refine cnd_d (fun _ => ⟨h0, by omega, cnd_of (fun hx => bad fun h => ?_) (fun hx => ?_)⟩) (fun h => absurd h1 h)
    · have := h.row f h0 (by omega)
      rw [this] at hx
      simp at hx
    simp only [bne_eq_false_iff_eq] at hx
    refine loop_ix (n := c.2.1.length) (fun g => ∀ g' : Int, 0 ≤ g' → g' < g → cellR c f g' = true) (by omega) (by intro y h0 h1; omega) ?_ ?_
    · intro g next3 g0 g1 hP3 hn3 hin3
      dsimp only
      refine cnd_d (fun _ => ?_) (fun h => absurd g1 h)
      refine join_of (fun _ => cellR c f g = true) (fun _ hcell => ⟨by rw [inK64]; omega, hn3 fun g' y0 y1 => ?_⟩) (fun k hk => ?_)
      · by_cases e : g' = g
        · rw [e]; exact hcell
        · exact hP3 g' y0 (by omega)
      have hcell : ∀ b, cellR c f g = b → b = false → ¬ ShapeP c := fun b h1 h2 h => by
        have := h.cell f g h0 (by omega) g0 (by omega)
        rw [h1, h2] at this; cases this
      have hk' := hk ((), ())
      obtain ⟨v, hv⟩ : ∃ v, (c.2.2.2.2.getD f.toNat []).getD g.toNat 0 = v := ⟨_, rfl⟩
      have hR : cellR c f g = cellQ c f g v := by unfold cellR compR; rw [hv]
      rw [hR] at hk'
      rw [hR] at hcell
      rw [hv]
      clear hP3 hn3 hP hn hk hR hv hidt hok
      refine ⟨h0, by omega, g0, by omega, h0, by omega, g0, by omega, cnd_of (fun ha => cnd_of (fun hb => bad ?_) (fun hb => hk' ?_)) (fun ha => ⟨fun hv => ?_, fun _ => ⟨by omega, h0⟩, fun hv => ?_, fun _ => ⟨by omega, g0⟩, cnd_of (fun hb => bad ?_) (fun hb => hk' ?_)⟩)⟩
      · exact hcell _ rfl (by grind [cnd, nb_eq, inK64, cellQ])
      · grind [cnd, nb_eq, inK64, cellQ]
      · simp only [Bool.or_eq_false_iff, decide_eq_false_iff_not] at hv; omega
      · simp only [Bool.or_eq_false_iff, decide_eq_false_iff_not] at hv; omega
      · exact hcell _ rfl (by grind [cnd, nb_eq, inK64, cellQ])
      · grind [cnd, nb_eq, inK64, cellQ]
    · intro next3 hP3 hin3
      refine cnd_d (fun h => absurd h (by dsimp only; omega)) (fun _ => ⟨by rw [inK64]; omega, hn fun f' y0 y1 => ?_⟩)
      by_cases e : f' = f
      · rw [e]; exact ⟨by omega, fun g g0 g1 => hP3 g g0 (by omega)⟩
      · exact hP f' y0 (by omega)
  · intro next2 hP2 hin2
    refine cnd_d (fun h => absurd h (by dsimp only; omega)) (fun _ => ?_)
    simp only [c_spec_IsShape]
    rw [shape_t ⟨hob, by omega, by omega, hfr, hto, by omega, hids, by omega, fun x a b => hidt x a (by omega), fun f a b => (hP2 f a (by omega)).1, fun f g a b d e => (hP2 f a (by omega)).2 g d e⟩]
theorem ct_spec_IsShape : CtOk Try.prog 93 c_spec_IsShape :=
  ct_by (Φ := lkp [(97, c_spec_l01In), (49, c_spec_l01Map), (98, c_spec_l02Ends)]) (good_cons ct_spec_l01In (good_cons ct_spec_l01Map (good_cons ct_spec_l02Ends good_nil))) tab_ok (by kernel_rfl) (fn := Try.f93) (c := bodyOf Try.f93) (by kernel_rfl) (by kernel_rfl) (by kernel_rfl) c_spec_IsShape (.s .n (.s .n (.s .n (.s .n (.s (.s .n (.l [(4, (.d (.int .i64)))] [] [1, 3] .n)) (.s (.s .n (.l [(5, (.d (.int .i64)))] [] [1, 3] (.s .n (.s (.s .n (.s .n (.l [(6, (.d (.int .i64)))] [] [1, 3, 5] (.s .n (.s (.j [] [] [1, 3, 5, 6] .n) .n))))) .n)))) .n)))))) (cutL [(20, 11), (23, 33), (9, 24)]) (by kernel_rfl) (by kernel_rfl) k_spec_IsShape (by decide) (fun x K => W_spec_IsShape x.1 K) w_spec_IsShape (fun x h1 h2 => m_spec_IsShape x.1 h1 h2)
end Go.Bm
