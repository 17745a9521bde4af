/- What the functions that FnExactFirstFractionFault reaches give: for each its contract, what it asks, and the proof. No condition. -/
import Derived.Test.YtjggbiglookngaaTab
namespace Go.Bm
open Go.Proofs
set_option maxRecDepth 100000
set_option maxHeartbeats 1000000
set_option linter.unusedVariables false
set_option linter.unusedSimpArgs false
def c_impl_Category_arrows : Ct := ⟨[(.pt CategoryT)], [false], fun x => [], [(false, (.fz (.int .i64)))], fun x => ((x.1.2.1.length : Int), ()), false, none⟩
def W_impl_Category_arrows (c : CategoryD) (K : Int × Unit → Prop) : Prop := (K ((((List.length c.2.1) : Nat) : Int), ()))
theorem w_impl_Category_arrows (x : denL c_impl_Category_arrows.args) (K : Int × Unit → Prop) : evF tab (lkp []) (cutL []) Try.f86 (bodyOf Try.f86) .n c_impl_Category_arrows x K = W_impl_Category_arrows x.1 K := by kernel_rfl
theorem k_impl_Category_arrows : okC Try.f86.ntmps (cutL []) (bodyOf Try.f86) = true := by kernel_rfl
theorem m_impl_Category_arrows (c : CategoryD) (hok : allP (okL c_impl_Category_arrows.args (c, ()))) (hpre : allP (c_impl_Category_arrows.pre (c, ()))) : W_impl_Category_arrows c (fun r => r = c_impl_Category_arrows.res (c, ())) := by
  simp only [c_impl_Category_arrows, okL, T.oks, T.ok, ap, allP, true_and, and_true, implies_true] at hok hpre
  try dsimp only [T.den] at hok
  try dsimp only [T.den] at hpre
  unfold W_impl_Category_arrows
  rfl
theorem ct_impl_Category_arrows : CtOk Try.prog 86 c_impl_Category_arrows :=
  ct_by (Φ := lkp []) good_nil tab_ok (by kernel_rfl) (fn := Try.f86) (c := bodyOf Try.f86) (by kernel_rfl) (by kernel_rfl) (by kernel_rfl) c_impl_Category_arrows rfl .n (cutL []) (by kernel_rfl) (by kernel_rfl) k_impl_Category_arrows (by decide) (fun x K => W_impl_Category_arrows x.1 K) w_impl_Category_arrows (fun x h1 h2 => m_impl_Category_arrows x.1 h1 h2)
def c_impl_Category_ends : Ct := ⟨[(.pt CategoryT), (.int .i64)], [false, false], fun x => [0 ≤ x.2.1, x.2.1 < x.1.2.1.length, x.2.1 < x.1.2.2.1.length], [(true, (.fz endsT))], fun x => (((x.1.2.1.getD x.2.1.toNat 0, x.1.2.2.1.getD x.2.1.toNat 0) : Int × Int), ()), false, none⟩
def W_impl_Category_ends (c : CategoryD) (f : Int) (K : endsD × Unit → Prop) : Prop := (((0 : Int) ≤ f) ∧ ((f < (((List.length c.2.1) : Nat) : Int)) ∧ (((0 : Int) ≤ f) ∧ ((f < (((List.length c.2.2.1) : Nat) : Int)) ∧ (K (((List.getD c.2.1 (Int.toNat f) (0 : Int)), (List.getD c.2.2.1 (Int.toNat f) (0 : Int))), ()))))))
theorem w_impl_Category_ends (x : denL c_impl_Category_ends.args) (K : endsD × Unit → Prop) : evF tab (lkp []) (cutL [(1, 15)]) Try.f110 (bodyOf Try.f110) .n c_impl_Category_ends x K = W_impl_Category_ends x.1 x.2.1 K := by kernel_rfl
theorem k_impl_Category_ends : okC Try.f110.ntmps (cutL [(1, 15)]) (bodyOf Try.f110) = true := by kernel_rfl
theorem m_impl_Category_ends (c : CategoryD) (f : Int) (hok : allP (okL c_impl_Category_ends.args (c, f, ()))) (hpre : allP (c_impl_Category_ends.pre (c, f, ()))) : W_impl_Category_ends c f (fun r => r = c_impl_Category_ends.res (c, f, ())) := by
  simp only [c_impl_Category_ends, okL, T.oks, T.ok, ap, allP, true_and, and_true, implies_true] at hok hpre
  try dsimp only [T.den] at hok
  try dsimp only [T.den] at hpre
  unfold W_impl_Category_ends
  exact ⟨hpre.1, hpre.2.1, hpre.1, hpre.2.2, rfl⟩
theorem ct_impl_Category_ends : CtOk Try.prog 110 c_impl_Category_ends :=
  ct_by (Φ := lkp []) good_nil tab_ok (by kernel_rfl) (fn := Try.f110) (c := bodyOf Try.f110) (by kernel_rfl) (by kernel_rfl) (by kernel_rfl) c_impl_Category_ends rfl .n (cutL [(1, 15)]) (by kernel_rfl) (by kernel_rfl) k_impl_Category_ends (by decide) (fun x K => W_impl_Category_ends x.1 x.2.1 K) w_impl_Category_ends (fun x h1 h2 => m_impl_Category_ends x.1 x.2.1 h1 h2)
def compR (c : CategoryD) (f g : Int) : Int := (c.2.2.2.2.getD f.toNat []).getD g.toNat 0

def c_impl_Category_then : Ct := ⟨[(.pt CategoryT), (.int .i64), (.int .i64)], [false, false, false], fun x => [0 ≤ x.2.1, x.2.1 < x.1.2.2.2.2.length, 0 ≤ x.2.2.1, x.2.2.1 < (x.1.2.2.2.2.getD x.2.1.toNat []).length], [(false, (.fz (.int .i64)))], fun x => (compR x.1 x.2.1 x.2.2.1, ()), false, none⟩
def W_impl_Category_then (c : CategoryD) (f : Int) (g : Int) (K : Int × Unit → Prop) : Prop := (((0 : Int) ≤ f) ∧ ((f < (((List.length c.2.2.2.2) : Nat) : Int)) ∧ (((0 : Int) ≤ g) ∧ ((g < (((List.length (List.getD c.2.2.2.2 (Int.toNat f) ([] : List Int))) : Nat) : Int)) ∧ (K ((List.getD (List.getD c.2.2.2.2 (Int.toNat f) ([] : List Int)) (Int.toNat g) (0 : Int)), ()))))))
theorem w_impl_Category_then (x : denL c_impl_Category_then.args) (K : Int × Unit → Prop) : evF tab (lkp []) (cutL []) Try.f89 (bodyOf Try.f89) .n c_impl_Category_then x K = W_impl_Category_then x.1 x.2.1 x.2.2.1 K := by kernel_rfl
theorem k_impl_Category_then : okC Try.f89.ntmps (cutL []) (bodyOf Try.f89) = true := by kernel_rfl
theorem m_impl_Category_then (c : CategoryD) (f : Int) (g : Int) (hok : allP (okL c_impl_Category_then.args (c, f, g, ()))) (hpre : allP (c_impl_Category_then.pre (c, f, g, ()))) : W_impl_Category_then c f g (fun r => r = c_impl_Category_then.res (c, f, g, ())) := by
  simp only [c_impl_Category_then, okL, T.oks, T.ok, ap, allP, true_and, and_true, implies_true] at hok hpre
  try dsimp only [T.den] at hok
  try dsimp only [T.den] at hpre
  unfold W_impl_Category_then
  exact ⟨hpre.1, hpre.2.1, hpre.2.2.1, hpre.2.2.2, rfl⟩
theorem ct_impl_Category_then : CtOk Try.prog 89 c_impl_Category_then :=
  ct_by (Φ := lkp []) good_nil tab_ok (by kernel_rfl) (fn := Try.f89) (c := bodyOf Try.f89) (by kernel_rfl) (by kernel_rfl) (by kernel_rfl) c_impl_Category_then rfl .n (cutL []) (by kernel_rfl) (by kernel_rfl) k_impl_Category_then (by decide) (fun x K => W_impl_Category_then x.1 x.2.1 x.2.2.1 K) w_impl_Category_then (fun x h1 h2 => m_impl_Category_then x.1 x.2.1 x.2.2.1 h1 h2)
def c_impl_inRange : Ct := ⟨[(.int .i64), (.int .i64), (.int .i64)], [false, false, false], fun x => [], [(false, (.fz .bool))], fun x => (inR x.1 x.2.1 x.2.2.1, ()), false, none⟩
def W_impl_inRange (n : Int) (low : Int) (high : Int) (K : Bool × Unit → Prop) : Prop := (K (((decide (low ≤ n)) && (decide (n ≤ high))), ()))
theorem w_impl_inRange (x : denL c_impl_inRange.args) (K : Bool × Unit → Prop) : evF tab (lkp []) (cutL []) Try.f132 (bodyOf Try.f132) .n c_impl_inRange x K = W_impl_inRange x.1 x.2.1 x.2.2.1 K := by kernel_rfl
theorem k_impl_inRange : okC Try.f132.ntmps (cutL []) (bodyOf Try.f132) = true := by kernel_rfl
theorem m_impl_inRange (n : Int) (low : Int) (high : Int) (hok : allP (okL c_impl_inRange.args (n, low, high, ()))) (hpre : allP (c_impl_inRange.pre (n, low, high, ()))) : W_impl_inRange n low high (fun r => r = c_impl_inRange.res (n, low, high, ())) := by
  simp only [c_impl_inRange, okL, T.oks, T.ok, ap, allP, true_and, and_true, implies_true] at hok hpre
  try dsimp only [T.den] at hok
  try dsimp only [T.den] at hpre
  unfold W_impl_inRange
  grind [cnd, nb_eq, inK64, c_impl_inRange, inR]
theorem ct_impl_inRange : CtOk Try.prog 132 c_impl_inRange :=
  ct_by (Φ := lkp []) good_nil tab_ok (by kernel_rfl) (fn := Try.f132) (c := bodyOf Try.f132) (by kernel_rfl) (by kernel_rfl) (by kernel_rfl) c_impl_inRange rfl .n (cutL []) (by kernel_rfl) (by kernel_rfl) k_impl_inRange (by decide) (fun x K => W_impl_inRange x.1 x.2.1 x.2.2.1 K) w_impl_inRange (fun x h1 h2 => m_impl_inRange x.1 x.2.1 x.2.2.1 h1 h2)
def c_impl_within : Ct := ⟨[(.sl (.int .i64)), (.int .i64)], [false, false], fun x => [inK .i64 (x.2.1 - 1)], [(false, (.fz .bool))], fun x => (withinR x.1 x.2.1, ()), false, none⟩
def W_impl_within (list : List Int) (n : Int) (K : Bool × Unit → Prop) : Prop := (loopW (S := ((Int × Unit) × Unit)) (fun s => (fun next => ((inK IntKind.i64 s.1.1) → (cnd (decide (s.1.1 < (((List.length list) : Nat) : Int))) (((0 : Int) ≤ s.1.1) ∧ ((s.1.1 < (((List.length list) : Nat) : Int)) ∧ ((inK IntKind.i64 (n - (1 : Int))) ∧ (cnd (!(inR (List.getD list (Int.toNat s.1.1) (0 : Int)) (0 : Int) (n - (1 : Int)))) (K (Bool.false, ())) ((inK IntKind.i64 (s.1.1 + (1 : Int))) ∧ (next (((s.1.1 + (1 : Int)), ()), ()))))))) (K (Bool.true, ())))))) (((0 : Int), ()), ()))
theorem w_impl_within (x : denL c_impl_within.args) (K : Bool × Unit → Prop) : evF tab (lkp [(132, c_impl_inRange)]) (cutL []) Try.f85 (bodyOf Try.f85) (.s .n (.s (.s .n (.l [(9, (.d (.int .i64)))] [] [1, 7, 8] .n)) .n)) c_impl_within x K = W_impl_within x.1 x.2.1 K := by kernel_rfl
theorem k_impl_within : okC Try.f85.ntmps (cutL []) (bodyOf Try.f85) = true := by kernel_rfl
theorem m_impl_within (list : List Int) (n : Int) (hok : allP (okL c_impl_within.args (list, n, ()))) (hpre : allP (c_impl_within.pre (list, n, ()))) : W_impl_within list n (fun r => r = c_impl_within.res (list, n, ())) := by
  simp only [c_impl_within, okL, T.oks, T.ok, ap, allP, true_and, and_true, implies_true] at hok hpre
  try dsimp only [T.den] at hok
  try dsimp only [T.den] at hpre
  unfold W_impl_within
  refine loop_of (fun (s : ((Int × Unit) × Unit)) => 0 ≤ s.1.1 ∧ s.1.1 ≤ list.length ∧ withinR list n = withinR (list.drop s.1.1.toNat) n) (fun (s : ((Int × Unit) × Unit)) => (list.length - s.1.1).toNat) ?_ (by simp)
  rintro ⟨⟨i, _⟩, _⟩ next ⟨h0, h1, h2⟩ hn hin
  simp only at h0 h1 h2 hn ⊢
  refine cnd_d (fun hc => ?_) (fun hc => ?_)
  · rw [drop_c list 0 h0 hc] at h2
    simp only [withinR, List.all_cons] at h2
    grind [cnd, nb_eq, inK64, c_impl_within, withinR]
  · rw [drop_n list (by omega)] at h2
    grind [cnd, nb_eq, inK64, c_impl_within, withinR]
theorem ct_impl_within : CtOk Try.prog 85 c_impl_within :=
  ct_by (Φ := lkp [(132, c_impl_inRange)]) (good_cons ct_impl_inRange good_nil) tab_ok (by kernel_rfl) (fn := Try.f85) (c := bodyOf Try.f85) (by kernel_rfl) (by kernel_rfl) (by kernel_rfl) c_impl_within rfl (.s .n (.s (.s .n (.l [(9, (.d (.int .i64)))] [] [1, 7, 8] .n)) .n)) (cutL []) (by kernel_rfl) (by kernel_rfl) k_impl_within (by decide) (fun x K => W_impl_within x.1 x.2.1 K) w_impl_within (fun x h1 h2 => m_impl_within x.1 x.2.1 h1 h2)
/-- what a cell of the table must be -/
def cellQ (c : CategoryD) (f g v : Int) : Bool :=
  if c.2.2.1.getD f.toNat 0 = c.2.1.getD g.toNat 0 then decide (0 ≤ v ∧ v < c.2.1.length ∧ c.2.1.getD v.toNat 0 = c.2.1.getD f.toNat 0 ∧ c.2.2.1.getD v.toNat 0 = c.2.2.1.getD g.toNat 0)
  else decide (v = -1)
def cellR (c : CategoryD) (f g : Int) : Bool := cellQ c f g (compR c f g)
structure ShapeP (c : CategoryD) : Prop where
  ob : 0 ≤ c.1 ∧ c.1 ≤ 8
  m : c.2.1.length ≤ 40
  lt : c.2.2.1.length = c.2.1.length
  fr : withinR c.2.1 c.1 = true
  to : withinR c.2.2.1 c.1 = true
  li : (c.2.2.2.1.length : Int) = c.1
  ids : withinR c.2.2.2.1 c.2.1.length = true
  lc : c.2.2.2.2.length = c.2.1.length
  idt : ∀ x : Int, 0 ≤ x → x < c.1 → c.2.1.getD (c.2.2.2.1.getD x.toNat 0).toNat 0 = x ∧ c.2.2.1.getD (c.2.2.2.1.getD x.toNat 0).toNat 0 = x
  row : ∀ f : Int, 0 ≤ f → f < c.2.1.length → (c.2.2.2.2.getD f.toNat []).length = c.2.1.length
  cell : ∀ f g : Int, 0 ≤ f → f < c.2.1.length → 0 ≤ g → g < c.2.1.length → cellR c f g = true
def shapeR (c : CategoryD) : Bool := inR c.1 0 8 && decide (c.2.1.length ≤ 40) && decide (c.2.2.1.length = c.2.1.length) && withinR c.2.1 c.1 && withinR c.2.2.1 c.1 && decide ((c.2.2.2.1.length : Int) = c.1) && withinR c.2.2.2.1 c.2.1.length &&
  decide (c.2.2.2.2.length = c.2.1.length) && allB c.1.toNat (fun x => decide (c.2.1.getD (c.2.2.2.1.getD x.toNat 0).toNat 0 = x ∧ c.2.2.1.getD (c.2.2.2.1.getD x.toNat 0).toNat 0 = x)) &&
  allB c.2.1.length (fun f => decide ((c.2.2.2.2.getD f.toNat []).length = c.2.1.length)) && allB c.2.1.length (fun f => allB c.2.1.length fun g => cellR c f g)
theorem shape_iff {c : CategoryD} : shapeR c = true ↔ ShapeP c := by
  simp only [shapeR, Bool.and_eq_true, decide_eq_true_eq, inR, allB_iff]
  constructor
  · rintro ⟨⟨⟨⟨⟨⟨⟨⟨⟨⟨h0, h1⟩, h2⟩, h3⟩, h4⟩, h5⟩, h6⟩, h7⟩, h8⟩, h9⟩, h10⟩
    exact ⟨h0, h1, h2, h3, h4, h5, h6, h7, fun x a b => h8 x a (by omega), h9, fun f g a b d e => h10 f a b g d e⟩
  · intro h
    exact ⟨⟨⟨⟨⟨⟨⟨⟨⟨⟨h.ob, h.m⟩, h.lt⟩, h.fr⟩, h.to⟩, h.li⟩, h.ids⟩, h.lc⟩, fun x a b => h.idt x a (by have := h.ob; omega)⟩, h.row⟩, fun f a b g d e => h.cell f g a b d e⟩
theorem shape_f {c : CategoryD} (h : ¬ ShapeP c) : shapeR c = false := by
  cases hs : shapeR c with
  | false => rfl
  | true => exact absurd (shape_iff.1 hs) h
theorem shape_t {c : CategoryD} (h : ShapeP c) : shapeR c = true := shape_iff.2 h

def c_impl_Category_isShape : Ct := ⟨[(.pt CategoryT)], [false], fun x => [], [(false, (.fz .bool))], fun x => (shapeR x.1, ()), false, none⟩
def W_impl_Category_isShape (c : CategoryD) (K : Bool × Unit → Prop) : Prop := ((((((!(inR c.1 (0 : Int) (8 : Int))) || (decide ((40 : Int) < (((List.length c.2.1) : Nat) : Int)))) || ((((List.length c.2.2.1) : Nat) : Int) != (((List.length c.2.1) : Nat) : Int))) = Bool.false) → (inK IntKind.i64 (c.1 - (1 : Int)))) ∧ (((((((!(inR c.1 (0 : Int) (8 : Int))) || (decide ((40 : Int) < (((List.length c.2.1) : Nat) : Int)))) || ((((List.length c.2.2.1) : Nat) : Int) != (((List.length c.2.1) : Nat) : Int))) || (!(withinR c.2.1 c.1))) = Bool.false) → (inK IntKind.i64 (c.1 - (1 : Int)))) ∧ (cnd (((((!(inR c.1 (0 : Int) (8 : Int))) || (decide ((40 : Int) < (((List.length c.2.1) : Nat) : Int)))) || ((((List.length c.2.2.1) : Nat) : Int) != (((List.length c.2.1) : Nat) : Int))) || (!(withinR c.2.1 c.1))) || (!(withinR c.2.2.1 c.1))) (K (Bool.false, ())) (((((((List.length c.2.2.2.1) : Nat) : Int) != c.1) = Bool.false) → (inK IntKind.i64 ((((List.length c.2.1) : Nat) : Int) - (1 : Int)))) ∧ (cnd ((((((List.length c.2.2.2.1) : Nat) : Int) != c.1) || (!(withinR c.2.2.2.1 (((List.length c.2.1) : Nat) : Int)))) || ((((List.length c.2.2.2.2) : Nat) : Int) != (((List.length c.2.1) : Nat) : Int))) (K (Bool.false, ())) (loopW (S := ((Int × Unit) × Unit)) (fun s => (fun next => ((inK IntKind.i64 s.1.1) → (cnd (decide (s.1.1 < (((List.length c.2.2.2.1) : Nat) : Int))) (((0 : Int) ≤ s.1.1) ∧ ((s.1.1 < (((List.length c.2.2.2.1) : Nat) : Int)) ∧ (((0 : Int) ≤ (List.getD c.2.2.2.1 (Int.toNat s.1.1) (0 : Int))) ∧ (((List.getD c.2.2.2.1 (Int.toNat s.1.1) (0 : Int)) < (((List.length c.2.1) : Nat) : Int)) ∧ (((List.getD c.2.2.2.1 (Int.toNat s.1.1) (0 : Int)) < (((List.length c.2.2.1) : Nat) : Int)) ∧ (cnd (!(((List.getD c.2.1 (Int.toNat (List.getD c.2.2.2.1 (Int.toNat s.1.1) (0 : Int))) (0 : Int)) == s.1.1) && ((List.getD c.2.2.1 (Int.toNat (List.getD c.2.2.2.1 (Int.toNat s.1.1) (0 : Int))) (0 : Int)) == s.1.1))) (K (Bool.false, ())) ((inK IntKind.i64 (s.1.1 + (1 : Int))) ∧ (next (((s.1.1 + (1 : Int)), ()), ()))))))))) (loopW (S := ((Int × Unit) × Unit)) (fun s1 => (fun next1 => ((inK IntKind.i64 s1.1.1) → (cnd (decide (s1.1.1 < (((List.length c.2.2.2.2) : Nat) : Int))) (((0 : Int) ≤ s1.1.1) ∧ ((s1.1.1 < (((List.length c.2.2.2.2) : Nat) : Int)) ∧ (cnd ((((List.length (List.getD c.2.2.2.2 (Int.toNat s1.1.1) ([] : List Int))) : Nat) : Int) != (((List.length c.2.1) : Nat) : Int)) (K (Bool.false, ())) (loopW (S := ((Int × Unit) × Unit)) (fun s2 => (fun next2 => ((inK IntKind.i64 s2.1.1) → (cnd (decide (s2.1.1 < (((List.length (List.getD c.2.2.2.2 (Int.toNat s1.1.1) ([] : List Int))) : Nat) : Int))) (joinW (S := (Unit × Unit)) (fun s3 => ((inK IntKind.i64 (s2.1.1 + (1 : Int))) ∧ (next2 (((s2.1.1 + (1 : Int)), ()), ())))) (fun k => (((0 : Int) ≤ s2.1.1) ∧ ((s2.1.1 < (((List.length (List.getD c.2.2.2.2 (Int.toNat s1.1.1) ([] : List Int))) : Nat) : Int)) ∧ (((0 : Int) ≤ s1.1.1) ∧ ((s1.1.1 < (((List.length c.2.2.1) : Nat) : Int)) ∧ (((0 : Int) ≤ s2.1.1) ∧ ((s2.1.1 < (((List.length c.2.1) : Nat) : Int)) ∧ (cnd ((List.getD c.2.2.1 (Int.toNat s1.1.1) (0 : Int)) != (List.getD c.2.1 (Int.toNat s2.1.1) (0 : Int))) (cnd ((List.getD (List.getD c.2.2.2.2 (Int.toNat s1.1.1) ([] : List Int)) (Int.toNat s2.1.1) (0 : Int)) != (-(1 : Int))) (K (Bool.false, ())) (k ((), ()))) ((inK IntKind.i64 ((((List.length c.2.1) : Nat) : Int) - (1 : Int))) ∧ ((((!(inR (List.getD (List.getD c.2.2.2.2 (Int.toNat s1.1.1) ([] : List Int)) (Int.toNat s2.1.1) (0 : Int)) (0 : Int) ((((List.length c.2.1) : Nat) : Int) - (1 : Int)))) = Bool.false) → (((List.getD (List.getD c.2.2.2.2 (Int.toNat s1.1.1) ([] : List Int)) (Int.toNat s2.1.1) (0 : Int)) < (((List.length c.2.1) : Nat) : Int)) ∧ (((List.getD (List.getD c.2.2.2.2 (Int.toNat s1.1.1) ([] : List Int)) (Int.toNat s2.1.1) (0 : Int)) < (((List.length c.2.2.1) : Nat) : Int)) ∧ ((0 : Int) ≤ (List.getD (List.getD c.2.2.2.2 (Int.toNat s1.1.1) ([] : List Int)) (Int.toNat s2.1.1) (0 : Int)))))) ∧ ((((!(inR (List.getD (List.getD c.2.2.2.2 (Int.toNat s1.1.1) ([] : List Int)) (Int.toNat s2.1.1) (0 : Int)) (0 : Int) ((((List.length c.2.1) : Nat) : Int) - (1 : Int)))) = Bool.false) → ((s1.1.1 < (((List.length c.2.1) : Nat) : Int)) ∧ ((0 : Int) ≤ s1.1.1))) ∧ ((((!(inR (List.getD (List.getD c.2.2.2.2 (Int.toNat s1.1.1) ([] : List Int)) (Int.toNat s2.1.1) (0 : Int)) (0 : Int) ((((List.length c.2.1) : Nat) : Int) - (1 : Int)))) = Bool.false) → ((s2.1.1 < (((List.length c.2.2.1) : Nat) : Int)) ∧ ((0 : Int) ≤ s2.1.1))) ∧ (cnd ((!(inR (List.getD (List.getD c.2.2.2.2 (Int.toNat s1.1.1) ([] : List Int)) (Int.toNat s2.1.1) (0 : Int)) (0 : Int) ((((List.length c.2.1) : Nat) : Int) - (1 : Int)))) || (!(((List.getD c.2.1 (Int.toNat (List.getD (List.getD c.2.2.2.2 (Int.toNat s1.1.1) ([] : List Int)) (Int.toNat s2.1.1) (0 : Int))) (0 : Int)) == (List.getD c.2.1 (Int.toNat s1.1.1) (0 : Int))) && ((List.getD c.2.2.1 (Int.toNat (List.getD (List.getD c.2.2.2.2 (Int.toNat s1.1.1) ([] : List Int)) (Int.toNat s2.1.1) (0 : Int))) (0 : Int)) == (List.getD c.2.2.1 (Int.toNat s2.1.1) (0 : Int)))))) (K (Bool.false, ())) (k ((), ())))))))))))))))) ((inK IntKind.i64 (s1.1.1 + (1 : Int))) ∧ (next1 (((s1.1.1 + (1 : Int)), ()), ()))))))) (((0 : Int), ()), ()))))) (K (Bool.true, ())))))) (((0 : Int), ()), ())))))) (((0 : Int), ()), ())))))))
theorem w_impl_Category_isShape (x : denL c_impl_Category_isShape.args) (K : Bool × Unit → Prop) : evF tab (lkp [(86, c_impl_Category_arrows), (110, c_impl_Category_ends), (132, c_impl_inRange), (85, c_impl_within)]) (cutL [(2, 43), (20, 15), (4, 28), (23, 26)]) Try.f98 (bodyOf Try.f98) (.s .n (.s .n (.s .n (.s .n (.s (.s .n (.l [(88, (.d (.int .i64)))] [] [0, 3, 86, 87] .n)) (.s (.s .n (.l [(106, (.d (.int .i64)))] [] [0, 3, 104, 105] (.s .n (.s .n (.s (.s .n (.s .n (.s .n (.l [(117, (.d (.int .i64)))] [] [0, 3, 6, 104, 105, 106, 115, 116] (.s .n (.s .n (.s (.j [] [] [0, 3, 6, 104, 105, 106, 115, 116, 117] .n) .n))))))) .n))))) .n)))))) c_impl_Category_isShape x K = W_impl_Category_isShape x.1 K := by kernel_rfl
theorem k_impl_Category_isShape : okC Try.f98.ntmps (cutL [(2, 43), (20, 15), (4, 28), (23, 26)]) (bodyOf Try.f98) = true := by kernel_rfl
theorem m_impl_Category_isShape (c : CategoryD) (hok : allP (okL c_impl_Category_isShape.args (c, ()))) (hpre : allP (c_impl_Category_isShape.pre (c, ()))) : W_impl_Category_isShape c (fun r => r = c_impl_Category_isShape.res (c, ())) := by
  simp only [c_impl_Category_isShape, okL, T.oks, T.ok, ap, allP, true_and, and_true, implies_true] at hok hpre
  try dsimp only [T.den] at hok
  try dsimp only [T.den] at hpre
  unfold W_impl_Category_isShape
  refine ⟨by grind [cnd, nb_eq, inK64, inR], by grind [cnd, nb_eq, inK64, inR], cnd_of (fun hc => ?_) (fun hc => ⟨by rw [inK64]; have := hok.2.1.1; grind [cnd, nb_eq, inK64], cnd_of (fun hd => ?_) (fun hd => ?_)⟩)⟩
  · simp only [c_impl_Category_isShape]; rw [shape_f]; intro h; have h1 := h.ob; have h2 := h.m; have h3 := h.lt; have h4 := h.fr; have h5 := h.to; simp only [inR] at hc; grind [cnd, nb_eq, inK64]
  · simp only [c_impl_Category_isShape]; rw [shape_f]; intro h; have h1 := h.li; have h2 := h.ids; have h3 := h.lc; grind [cnd, nb_eq, inK64]
  simp only [inR, Bool.or_eq_false_iff, Bool.not_eq_false', Bool.and_eq_true, decide_eq_true_eq, decide_eq_false_iff_not, bne_eq_false_iff_eq] at hc hd
  obtain ⟨⟨⟨⟨hob, hm⟩, hlt⟩, hfr⟩, hto⟩ := hc
  obtain ⟨⟨hli, hids⟩, hlc⟩ := hd
  have bad : ¬ ShapeP c → (false, ()) = c_impl_Category_isShape.res (c, ()) := fun h => by simp only [c_impl_Category_isShape]; rw [shape_f h]
  refine loop_ix (n := c.2.2.2.1.length) (fun x => ∀ y : Int, 0 ≤ y → y < x → c.2.1.getD (c.2.2.2.1.getD y.toNat 0).toNat 0 = y ∧ c.2.2.1.getD (c.2.2.2.1.getD y.toNat 0).toNat 0 = y) (by omega) (by intro y h0 h1; omega) ?_ ?_
  · intro x next h0 h1 hP hn hin
    have hb := within_iff.1 hids x h0 h1
    try dsimp only
    refine cnd_d (fun _ => ⟨h0, h1, hb.1, hb.2, by omega, cnd_of (fun hx => bad fun h => ?_) (fun hx => ?_)⟩) (fun h => absurd h1 h)
    · have := h.idt x h0 (by omega)
      rw [this.1, this.2] at hx
      simp at hx
    · simp only [Bool.not_eq_false', Bool.and_eq_true, beq_iff_eq] at hx
      refine ⟨by rw [inK64]; (try dsimp only); omega, hn fun y y0 y1 => ?_⟩
      by_cases e : y = x
      · rw [e]; exact hx
      · exact hP y y0 (by omega)
  intro next hidt hin
  refine cnd_d (fun h => absurd h (by dsimp only; omega)) (fun _ => ?_)
  refine loop_ix (n := c.2.2.2.2.length) (fun f => ∀ f' : Int, 0 ≤ f' → f' < f → (c.2.2.2.2.getD f'.toNat []).length = c.2.1.length ∧ ∀ g : Int, 0 ≤ g → g < c.2.1.length → cellR c f' g = true) (by omega) (by intro y h0 h1; omega) ?_ ?_
  · intro f next h0 h1 hP hn hin
    try dsimp only
    refine cnd_d (fun _ => ⟨h0, h1, cnd_of (fun hx => bad fun h => ?_) (fun hx => ?_)⟩) (fun h => absurd h1 h)
    · have := h.row f h0 (by omega)
      rw [this] at hx
      simp at hx
    simp only [bne_eq_false_iff_eq] at hx
    refine loop_ix (n := (c.2.2.2.2.getD f.toNat []).length) (fun g => ∀ g' : Int, 0 ≤ g' → g' < g → cellR c f g' = true) (by omega) (by intro y h0 h1; omega) ?_ ?_
    · intro g next3 g0 g1 hP3 hn3 hin3
      try dsimp only
      refine cnd_d (fun _ => ?_) (fun h => absurd g1 h)
      refine join_of (fun _ => cellR c f g = true) (fun _ hcell => ⟨by rw [inK64]; (try dsimp only); omega, hn3 fun g' y0 y1 => ?_⟩) (fun k hk => ?_)
      · by_cases e : g' = g
        · rw [e]; exact hcell
        · exact hP3 g' y0 (by omega)
      have hcell : ∀ b, cellR c f g = b → b = false → ¬ ShapeP c := fun b h1 h2 h => by
        have := h.cell f g h0 (by omega) g0 (by omega)
        rw [h1, h2] at this; cases this
      have hk' := hk ((), ())
      obtain ⟨v, hv⟩ : ∃ v, (c.2.2.2.2.getD f.toNat []).getD g.toNat 0 = v := ⟨_, rfl⟩
      have hR : cellR c f g = cellQ c f g v := by unfold cellR compR; rw [hv]
      rw [hR] at hk'
      rw [hR] at hcell
      rw [hv]
      clear hP3 hn3 hP hn hk hR hv hidt hok
      refine ⟨g0, g1, h0, by omega, g0, by omega, cnd_of (fun ha => cnd_of (fun hb => bad ?_) (fun hb => hk' ?_)) (fun ha => ⟨by rw [inK64]; (try dsimp only); omega, fun hv => ?_, fun _ => ⟨by omega, h0⟩, fun _ => ⟨by omega, g0⟩, cnd_of (fun hb => bad ?_) (fun hb => hk' ?_)⟩)⟩
      · exact hcell _ rfl (by grind [cnd, nb_eq, inK64, cellQ])
      · grind [cnd, nb_eq, inK64, cellQ]
      · simp only [inR, Bool.not_eq_false', Bool.and_eq_true, decide_eq_true_eq] at hv; omega
      · exact hcell _ rfl (by simp only [inR] at hb; grind [cnd, nb_eq, inK64, cellQ])
      · simp only [inR] at hb; grind [cnd, nb_eq, inK64, cellQ]
    · intro next3 hP3 hin3
      refine cnd_d (fun h => absurd h (by dsimp only; omega)) (fun _ => ⟨by rw [inK64]; (try dsimp only); omega, hn fun f' y0 y1 => ?_⟩)
      by_cases e : f' = f
      · rw [e]; exact ⟨by omega, fun g g0 g1 => hP3 g g0 (by omega)⟩
      · exact hP f' y0 (by omega)
  · intro next2 hP2 hin2
    refine cnd_d (fun h => absurd h (by dsimp only; omega)) (fun _ => ?_)
    simp only [c_impl_Category_isShape]
    rw [shape_t ⟨hob, by omega, by omega, hfr, hto, by omega, hids, by omega, fun x a b => hidt x a (by omega), fun f a b => (hP2 f a (by omega)).1, fun f g a b d e => (hP2 f a (by omega)).2 g d e⟩]
theorem ct_impl_Category_isShape : CtOk Try.prog 98 c_impl_Category_isShape :=
  ct_by (Φ := lkp [(86, c_impl_Category_arrows), (110, c_impl_Category_ends), (132, c_impl_inRange), (85, c_impl_within)]) (good_cons ct_impl_Category_arrows (good_cons ct_impl_Category_ends (good_cons ct_impl_inRange (good_cons ct_impl_within good_nil)))) tab_ok (by kernel_rfl) (fn := Try.f98) (c := bodyOf Try.f98) (by kernel_rfl) (by kernel_rfl) (by kernel_rfl) c_impl_Category_isShape rfl (.s .n (.s .n (.s .n (.s .n (.s (.s .n (.l [(88, (.d (.int .i64)))] [] [0, 3, 86, 87] .n)) (.s (.s .n (.l [(106, (.d (.int .i64)))] [] [0, 3, 104, 105] (.s .n (.s .n (.s (.s .n (.s .n (.s .n (.l [(117, (.d (.int .i64)))] [] [0, 3, 6, 104, 105, 106, 115, 116] (.s .n (.s .n (.s (.j [] [] [0, 3, 6, 104, 105, 106, 115, 116, 117] .n) .n))))))) .n))))) .n)))))) (cutL [(2, 43), (20, 15), (4, 28), (23, 26)]) (by kernel_rfl) (by kernel_rfl) k_impl_Category_isShape (by decide) (fun x K => W_impl_Category_isShape x.1 K) w_impl_Category_isShape (fun x h1 h2 => m_impl_Category_isShape x.1 h1 h2)
theorem ShapeP.frm {c : CategoryD} (h : ShapeP c) {f : Int} (h0 : 0 ≤ f) (h1 : f < c.2.1.length) : 0 ≤ c.2.1.getD f.toNat 0 ∧ c.2.1.getD f.toNat 0 < c.1 ∧ 0 ≤ c.2.2.1.getD f.toNat 0 ∧ c.2.2.1.getD f.toNat 0 < c.1 := by
  have a := within_iff.1 h.fr f h0 h1
  have b := within_iff.1 h.to f h0 (by have := h.lt; omega)
  exact ⟨a.1, a.2, b.1, b.2⟩
theorem ShapeP.idn {c : CategoryD} (h : ShapeP c) {x : Int} (h0 : 0 ≤ x) (h1 : x < c.1) : 0 ≤ c.2.2.2.1.getD x.toNat 0 ∧ c.2.2.2.1.getD x.toNat 0 < c.2.1.length ∧ c.2.1.getD (c.2.2.2.1.getD x.toNat 0).toNat 0 = x ∧ c.2.2.1.getD (c.2.2.2.1.getD x.toNat 0).toNat 0 = x := by
  have a := within_iff.1 h.ids x h0 (by have := h.li; omega)
  have b := h.idt x h0 h1
  exact ⟨a.1, a.2, b.1, b.2⟩
theorem ShapeP.yes {c : CategoryD} (h : ShapeP c) {f g : Int} (h0 : 0 ≤ f) (h1 : f < c.2.1.length) (g0 : 0 ≤ g) (g1 : g < c.2.1.length) (e : c.2.2.1.getD f.toNat 0 = c.2.1.getD g.toNat 0) :
    0 ≤ compR c f g ∧ compR c f g < c.2.1.length ∧ c.2.1.getD (compR c f g).toNat 0 = c.2.1.getD f.toNat 0 ∧ c.2.2.1.getD (compR c f g).toNat 0 = c.2.2.1.getD g.toNat 0 := by
  have := h.cell f g h0 h1 g0 g1
  unfold cellR cellQ at this
  rw [if_pos e] at this
  simpa using this
theorem ShapeP.no {c : CategoryD} (h : ShapeP c) {f g : Int} (h0 : 0 ≤ f) (h1 : f < c.2.1.length) (g0 : 0 ≤ g) (g1 : g < c.2.1.length) (e : c.2.2.1.getD f.toNat 0 ≠ c.2.1.getD g.toNat 0) : compR c f g = -1 := by
  have := h.cell f g h0 h1 g0 g1
  unfold cellR cellQ at this
  rw [if_neg e] at this
  simpa using this
theorem ShapeP.comp {c : CategoryD} (h : ShapeP c) {f g : Int} (h0 : 0 ≤ f) (h1 : f < c.2.1.length) (g0 : 0 ≤ g) (g1 : g < c.2.1.length) : 0 ≤ compR c f g ↔ c.2.2.1.getD f.toNat 0 = c.2.1.getD g.toNat 0 := by
  constructor
  · intro h2
    by_cases e : c.2.2.1.getD f.toNat 0 = c.2.1.getD g.toNat 0
    · exact e
    · have := h.no h0 h1 g0 g1 e; omega
  · intro e; exact (h.yes h0 h1 g0 g1 e).1
def faultI (c : CategoryD) (f : Int) : Option (Int × Int × Int × Int) :=
  if compR c (c.2.2.2.1.getD (c.2.1.getD f.toNat 0).toNat 0) f ≠ f ∨ compR c f (c.2.2.2.1.getD (c.2.2.1.getD f.toNat 0).toNat 0) ≠ f then some (1, f, 0, 0) else none
def faultH (c : CategoryD) (f g h : Int) : Option (Int × Int × Int × Int) :=
  if c.2.2.1.getD g.toNat 0 = c.2.1.getD h.toNat 0 ∧ compR c (compR c f g) h ≠ compR c f (compR c g h) then some (2, f, g, h) else none
def faultG (c : CategoryD) (f g : Int) : Option (Int × Int × Int × Int) :=
  if c.2.2.1.getD f.toNat 0 = c.2.1.getD g.toNat 0 then scanR (faultH c f g) c.2.1.length 0 else none
def faultF (c : CategoryD) (f : Int) : Option (Int × Int × Int × Int) := scanR (faultG c f) c.2.1.length 0
def faultR (c : CategoryD) : Int × Int × Int × Int :=
  orR (scanR (faultI c) c.2.1.length 0) (orR (scanR (faultF c) c.2.1.length 0) (0, 0, 0, 0))

def c_impl_Category_fault : Ct := ⟨[(.pt CategoryT)], [false], fun x => [ShapeP x.1], [(false, (.fz (.int .i64))), (false, (.fz (.int .i64))), (false, (.fz (.int .i64))), (false, (.fz (.int .i64)))], fun x => ((faultR x.1).1, (faultR x.1).2.1, (faultR x.1).2.2.1, (faultR x.1).2.2.2, ()), false, none⟩
def W_impl_Category_fault (c : CategoryD) (K : Int × Int × Int × Int × Unit → Prop) : Prop := (loopW (S := ((Int × Unit) × Unit)) (fun s => (fun next => ((inK IntKind.i64 s.1.1) → (cnd (decide (s.1.1 < (((List.length c.2.1) : Nat) : Int))) (((0 : Int) ≤ s.1.1) ∧ ((s.1.1 < (((List.length c.2.1) : Nat) : Int)) ∧ (((0 : Int) ≤ (List.getD c.2.1 (Int.toNat s.1.1) (0 : Int))) ∧ (((List.getD c.2.1 (Int.toNat s.1.1) (0 : Int)) < (((List.length c.2.2.2.1) : Nat) : Int)) ∧ (((0 : Int) ≤ (List.getD c.2.2.2.1 (Int.toNat (List.getD c.2.1 (Int.toNat s.1.1) (0 : Int))) (0 : Int))) ∧ (((List.getD c.2.2.2.1 (Int.toNat (List.getD c.2.1 (Int.toNat s.1.1) (0 : Int))) (0 : Int)) < (((List.length c.2.2.2.2) : Nat) : Int)) ∧ (((0 : Int) ≤ s.1.1) ∧ ((s.1.1 < (((List.length (List.getD c.2.2.2.2 (Int.toNat (List.getD c.2.2.2.1 (Int.toNat (List.getD c.2.1 (Int.toNat s.1.1) (0 : Int))) (0 : Int))) ([] : List Int))) : Nat) : Int)) ∧ (((((compR c (List.getD c.2.2.2.1 (Int.toNat (List.getD c.2.1 (Int.toNat s.1.1) (0 : Int))) (0 : Int)) s.1.1) != s.1.1) = Bool.false) → ((s.1.1 < (((List.length c.2.2.1) : Nat) : Int)) ∧ ((0 : Int) ≤ s.1.1))) ∧ (((((compR c (List.getD c.2.2.2.1 (Int.toNat (List.getD c.2.1 (Int.toNat s.1.1) (0 : Int))) (0 : Int)) s.1.1) != s.1.1) = Bool.false) → (((List.getD c.2.2.1 (Int.toNat s.1.1) (0 : Int)) < (((List.length c.2.2.2.1) : Nat) : Int)) ∧ ((0 : Int) ≤ (List.getD c.2.2.1 (Int.toNat s.1.1) (0 : Int))))) ∧ (((((compR c (List.getD c.2.2.2.1 (Int.toNat (List.getD c.2.1 (Int.toNat s.1.1) (0 : Int))) (0 : Int)) s.1.1) != s.1.1) = Bool.false) → ((s.1.1 < (((List.length c.2.2.2.2) : Nat) : Int)) ∧ (((0 : Int) ≤ (List.getD c.2.2.2.1 (Int.toNat (List.getD c.2.2.1 (Int.toNat s.1.1) (0 : Int))) (0 : Int))) ∧ (((List.getD c.2.2.2.1 (Int.toNat (List.getD c.2.2.1 (Int.toNat s.1.1) (0 : Int))) (0 : Int)) < (((List.length (List.getD c.2.2.2.2 (Int.toNat s.1.1) ([] : List Int))) : Nat) : Int)) ∧ ((0 : Int) ≤ s.1.1))))) ∧ (cnd (((compR c (List.getD c.2.2.2.1 (Int.toNat (List.getD c.2.1 (Int.toNat s.1.1) (0 : Int))) (0 : Int)) s.1.1) != s.1.1) || ((compR c s.1.1 (List.getD c.2.2.2.1 (Int.toNat (List.getD c.2.2.1 (Int.toNat s.1.1) (0 : Int))) (0 : Int))) != s.1.1)) (K ((1 : Int), (s.1.1, ((0 : Int), ((0 : Int), ()))))) ((inK IntKind.i64 (s.1.1 + (1 : Int))) ∧ (next (((s.1.1 + (1 : Int)), ()), ()))))))))))))))) (loopW (S := ((Int × Unit) × Unit)) (fun s1 => (fun next1 => ((inK IntKind.i64 s1.1.1) → (cnd (decide (s1.1.1 < (((List.length c.2.1) : Nat) : Int))) (loopW (S := ((Int × Unit) × Unit)) (fun s2 => (fun next2 => ((inK IntKind.i64 s2.1.1) → (cnd (decide (s2.1.1 < (((List.length c.2.1) : Nat) : Int))) (joinW (S := (Unit × Unit)) (fun s3 => ((inK IntKind.i64 (s2.1.1 + (1 : Int))) ∧ (next2 (((s2.1.1 + (1 : Int)), ()), ())))) (fun k => (((0 : Int) ≤ s1.1.1) ∧ ((s1.1.1 < (((List.length c.2.2.2.2) : Nat) : Int)) ∧ (((0 : Int) ≤ s2.1.1) ∧ ((s2.1.1 < (((List.length (List.getD c.2.2.2.2 (Int.toNat s1.1.1) ([] : List Int))) : Nat) : Int)) ∧ (cnd (decide ((compR c s1.1.1 s2.1.1) < (0 : Int))) (k ((), ())) (loopW (S := ((Int × Unit) × Unit)) (fun s3 => (fun next3 => ((inK IntKind.i64 s3.1.1) → (cnd (decide (s3.1.1 < (((List.length c.2.1) : Nat) : Int))) (((0 : Int) ≤ s2.1.1) ∧ ((s2.1.1 < (((List.length c.2.2.2.2) : Nat) : Int)) ∧ (((0 : Int) ≤ s3.1.1) ∧ ((s3.1.1 < (((List.length (List.getD c.2.2.2.2 (Int.toNat s2.1.1) ([] : List Int))) : Nat) : Int)) ∧ ((((decide ((0 : Int) ≤ (compR c s2.1.1 s3.1.1))) = Bool.true) → ((s1.1.1 < (((List.length c.2.2.2.2) : Nat) : Int)) ∧ (((0 : Int) ≤ s2.1.1) ∧ ((s2.1.1 < (((List.length (List.getD c.2.2.2.2 (Int.toNat s1.1.1) ([] : List Int))) : Nat) : Int)) ∧ ((0 : Int) ≤ s1.1.1))))) ∧ ((((decide ((0 : Int) ≤ (compR c s2.1.1 s3.1.1))) = Bool.true) → (((compR c s1.1.1 s2.1.1) < (((List.length c.2.2.2.2) : Nat) : Int)) ∧ (((0 : Int) ≤ s3.1.1) ∧ ((s3.1.1 < (((List.length (List.getD c.2.2.2.2 (Int.toNat (compR c s1.1.1 s2.1.1)) ([] : List Int))) : Nat) : Int)) ∧ ((0 : Int) ≤ (compR c s1.1.1 s2.1.1)))))) ∧ ((((decide ((0 : Int) ≤ (compR c s2.1.1 s3.1.1))) = Bool.true) → ((s2.1.1 < (((List.length c.2.2.2.2) : Nat) : Int)) ∧ (((0 : Int) ≤ s3.1.1) ∧ ((s3.1.1 < (((List.length (List.getD c.2.2.2.2 (Int.toNat s2.1.1) ([] : List Int))) : Nat) : Int)) ∧ ((0 : Int) ≤ s2.1.1))))) ∧ ((((decide ((0 : Int) ≤ (compR c s2.1.1 s3.1.1))) = Bool.true) → ((s1.1.1 < (((List.length c.2.2.2.2) : Nat) : Int)) ∧ (((0 : Int) ≤ (compR c s2.1.1 s3.1.1)) ∧ (((compR c s2.1.1 s3.1.1) < (((List.length (List.getD c.2.2.2.2 (Int.toNat s1.1.1) ([] : List Int))) : Nat) : Int)) ∧ ((0 : Int) ≤ s1.1.1))))) ∧ (cnd ((decide ((0 : Int) ≤ (compR c s2.1.1 s3.1.1))) && ((compR c (compR c s1.1.1 s2.1.1) s3.1.1) != (compR c s1.1.1 (compR c s2.1.1 s3.1.1)))) (K ((2 : Int), (s1.1.1, (s2.1.1, (s3.1.1, ()))))) ((inK IntKind.i64 (s3.1.1 + (1 : Int))) ∧ (next3 (((s3.1.1 + (1 : Int)), ()), ())))))))))))) (k ((), ())))))) (((0 : Int), ()), ()))))))))) ((inK IntKind.i64 (s1.1.1 + (1 : Int))) ∧ (next1 (((s1.1.1 + (1 : Int)), ()), ()))))))) (((0 : Int), ()), ())) (K ((0 : Int), ((0 : Int), ((0 : Int), ((0 : Int), ()))))))))) (((0 : Int), ()), ())))))) (((0 : Int), ()), ()))
theorem w_impl_Category_fault (x : denL c_impl_Category_fault.args) (K : Int × Int × Int × Int × Unit → Prop) : evF tab (lkp [(86, c_impl_Category_arrows), (89, c_impl_Category_then)]) (cutL [(5, 38)]) Try.f99 (bodyOf Try.f99) (.s .n (.s .n (.s (.s .n (.l [(7, (.d (.int .i64)))] [] [0, 6] .n)) (.s (.s .n (.l [(8, (.d (.int .i64)))] [] [0, 6] (.s .n (.s (.s .n (.l [(9, (.d (.int .i64)))] [] [0, 6, 8] (.s .n (.s (.j [] [] [0, 6, 8, 9] (.s .n (.s .n (.l [(10, (.d (.int .i64)))] [] [0, 6, 8, 9] .n)))) .n)))) .n)))) .n)))) c_impl_Category_fault x K = W_impl_Category_fault x.1 K := by kernel_rfl
theorem k_impl_Category_fault : okC Try.f99.ntmps (cutL [(5, 38)]) (bodyOf Try.f99) = true := by kernel_rfl
theorem m_impl_Category_fault (c : CategoryD) (hok : allP (okL c_impl_Category_fault.args (c, ()))) (hpre : allP (c_impl_Category_fault.pre (c, ()))) : W_impl_Category_fault c (fun r => r = c_impl_Category_fault.res (c, ())) := by
  simp only [c_impl_Category_fault, okL, T.oks, T.ok, ap, allP, true_and, and_true, implies_true] at hok hpre
  try dsimp only [T.den] at hok
  try dsimp only [T.den] at hpre
  unfold W_impl_Category_fault
  have S : ShapeP c := hpre
  have hlt := S.lt
  have hli := S.li
  have hlc := S.lc
  have hmm := S.m
  have resq : ∀ a b d e, faultR c = (a, b, d, e) → (a, b, d, e, ()) = c_impl_Category_fault.res (c, ()) := fun a b d e h => by simp only [c_impl_Category_fault, h]
  refine loop_ix (n := c.2.1.length) (fun f => scanR (faultI c) c.2.1.length 0 = scanR (faultI c) ((c.2.1.length : Int) - f).toNat f) (by omega) scan_0 ?_ ?_
  · intro f next h0 h1 hP hn hin
    try dsimp only
    obtain ⟨a1, a2, a3, a4⟩ := S.frm h0 h1
    obtain ⟨b1, b2, _, _⟩ := S.idn a1 a2
    obtain ⟨d1, d2, _, _⟩ := S.idn a3 a4
    have r1 := S.row _ b1 b2
    have r2 := S.row f h0 h1
    refine cnd_d (fun _ => ⟨h0, h1, by omega, by omega, by omega, by omega, h0, by omega, fun _ => by omega, fun _ => by omega, fun _ => by omega, cnd_of (fun hx => resq _ _ _ _ ?_) (fun hx => ⟨by rw [inK64]; (try dsimp only); omega, hn ?_⟩)⟩) (fun h => absurd h1 h)
    · have : faultI c f = some (1, f, 0, 0) := by unfold faultI; rw [if_pos]; simpa using hx
      unfold faultR; rw [hP, scan_s h1 this]; rfl
    · have : faultI c f = none := by unfold faultI; rw [if_neg]; simpa using hx
      rw [hP, scan_c h1 this]
  intro next hI hin
  rw [scan_n] at hI
  refine cnd_d (fun h => absurd h (by dsimp only; omega)) (fun _ => ?_)
  have hF : faultR c = orR (scanR (faultF c) c.2.1.length 0) (0, 0, 0, 0) := by unfold faultR; rw [hI]; rfl
  refine loop_ix (n := c.2.1.length) (fun f => scanR (faultF c) c.2.1.length 0 = scanR (faultF c) ((c.2.1.length : Int) - f).toNat f) (by omega) scan_0 ?_ ?_
  · intro f next h0 h1 hP hn hin
    try dsimp only
    refine cnd_d (fun _ => ?_) (fun h => absurd h1 h)
    have r1 := S.row f h0 h1
    refine loop_ix (n := c.2.1.length) (fun g => faultF c f = scanR (faultG c f) ((c.2.1.length : Int) - g).toNat g) (by omega) scan_0 ?_ ?_
    · intro g next3 g0 g1 hP3 hn3 hin3
      try dsimp only
      refine cnd_d (fun _ => ?_) (fun h => absurd g1 h)
      have r2 := S.row g g0 g1
      refine join_of (fun _ => faultG c f g = none) (fun _ hG => ⟨by rw [inK64]; (try dsimp only); omega, hn3 (by rw [hP3, scan_c g1 hG])⟩) (fun k hk => ?_)
      have hk' := hk ((), ())
      refine ⟨by omega, by omega, by omega, by omega, cnd_d (fun hx => hk' ?_) (fun hx => ?_)⟩
      · unfold faultG; rw [if_neg]; intro e; have := (S.comp h0 h1 g0 g1).2 e; omega
      have hfg := (S.comp h0 h1 g0 g1).1 (by omega)
      obtain ⟨y1, y2, _, _⟩ := S.yes h0 h1 g0 g1 hfg
      refine loop_ix (n := c.2.1.length) (fun h => faultG c f g = scanR (faultH c f g) ((c.2.1.length : Int) - h).toNat h) (by omega) (by unfold faultG; rw [if_pos hfg]; exact scan_0) ?_ ?_
      · intro h next4 i0 i1 hP4 hn4 hin4
        try dsimp only
        refine cnd_d (fun _ => ?_) (fun h => absurd i1 h)
        have r3 := S.row _ y1 y2
        have cgh := S.comp g0 g1 i0 i1
        have ygh := @ShapeP.yes c S g h g0 g1 i0 i1
        refine ⟨by omega, by omega, by omega, by omega, fun _ => by omega, fun _ => by omega, fun _ => by omega, fun he => ?_, cnd_of (fun hx => resq _ _ _ _ ?_) (fun hx => ⟨by rw [inK64]; (try dsimp only); omega, hn4 ?_⟩)⟩
        · have := ygh (cgh.1 (by simpa using he)); omega
        · have : faultH c f g h = some (2, f, g, h) := by unfold faultH; rw [if_pos]; rw [← cgh]; simpa using hx
          have e1 : faultG c f g = some (2, f, g, h) := by rw [hP4, scan_s i1 this]
          have e2 : faultF c f = some (2, f, g, h) := by rw [hP3, scan_s g1 e1]
          rw [hF, hP, scan_s h1 e2]; rfl
        · have : faultH c f g h = none := by unfold faultH; rw [if_neg]; rw [← cgh]; simpa using hx
          rw [hP4, scan_c i1 this]
      · intro next4 hP4 hin4
        rw [scan_n] at hP4
        exact cnd_d (fun h => absurd h (by dsimp only; omega)) (fun _ => hk' hP4)
    · intro next3 hP3 hin3
      rw [scan_n] at hP3
      exact cnd_d (fun h => absurd h (by dsimp only; omega)) (fun _ => ⟨by rw [inK64]; (try dsimp only); omega, hn (by rw [hP, scan_c h1 hP3])⟩)
  · intro next2 hP2 hin2
    rw [scan_n] at hP2
    refine cnd_d (fun h => absurd h (by dsimp only; omega)) (fun _ => resq _ _ _ _ ?_)
    rw [hF, hP2]; rfl
theorem ct_impl_Category_fault : CtOk Try.prog 99 c_impl_Category_fault :=
  ct_by (Φ := lkp [(86, c_impl_Category_arrows), (89, c_impl_Category_then)]) (good_cons ct_impl_Category_arrows (good_cons ct_impl_Category_then good_nil)) tab_ok (by kernel_rfl) (fn := Try.f99) (c := bodyOf Try.f99) (by kernel_rfl) (by kernel_rfl) (by kernel_rfl) c_impl_Category_fault rfl (.s .n (.s .n (.s (.s .n (.l [(7, (.d (.int .i64)))] [] [0, 6] .n)) (.s (.s .n (.l [(8, (.d (.int .i64)))] [] [0, 6] (.s .n (.s (.s .n (.l [(9, (.d (.int .i64)))] [] [0, 6, 8] (.s .n (.s (.j [] [] [0, 6, 8, 9] (.s .n (.s .n (.l [(10, (.d (.int .i64)))] [] [0, 6, 8, 9] .n)))) .n)))) .n)))) .n)))) (cutL [(5, 38)]) (by kernel_rfl) (by kernel_rfl) k_impl_Category_fault (by decide) (fun x K => W_impl_Category_fault x.1 K) w_impl_Category_fault (fun x h1 h2 => m_impl_Category_fault x.1 h1 h2)
def catR (c : CategoryD) : Bool := shapeR c && (faultR c).1 == 0

def c_impl_Category_isCategory : Ct := ⟨[(.pt CategoryT)], [false], fun x => [], [(false, (.fz .bool))], fun x => (catR x.1, ()), false, none⟩
def W_impl_Category_isCategory (c : CategoryD) (K : Bool × Unit → Prop) : Prop := (cnd (!(shapeR c)) (K (Bool.false, ())) ((ShapeP c) ∧ (K (((faultR c).1 == (0 : Int)), ()))))
theorem w_impl_Category_isCategory (x : denL c_impl_Category_isCategory.args) (K : Bool × Unit → Prop) : evF tab (lkp [(99, c_impl_Category_fault), (98, c_impl_Category_isShape)]) (cutL []) Try.f60 (bodyOf Try.f60) .n c_impl_Category_isCategory x K = W_impl_Category_isCategory x.1 K := by kernel_rfl
theorem k_impl_Category_isCategory : okC Try.f60.ntmps (cutL []) (bodyOf Try.f60) = true := by kernel_rfl
theorem m_impl_Category_isCategory (c : CategoryD) (hok : allP (okL c_impl_Category_isCategory.args (c, ()))) (hpre : allP (c_impl_Category_isCategory.pre (c, ()))) : W_impl_Category_isCategory c (fun r => r = c_impl_Category_isCategory.res (c, ())) := by
  simp only [c_impl_Category_isCategory, okL, T.oks, T.ok, ap, allP, true_and, and_true, implies_true] at hok hpre
  try dsimp only [T.den] at hok
  try dsimp only [T.den] at hpre
  unfold W_impl_Category_isCategory
  simp only [c_impl_Category_isCategory, catR]
  have := @shape_iff c
  grind [cnd, nb_eq, inK64]
theorem ct_impl_Category_isCategory : CtOk Try.prog 60 c_impl_Category_isCategory :=
  ct_by (Φ := lkp [(99, c_impl_Category_fault), (98, c_impl_Category_isShape)]) (good_cons ct_impl_Category_fault (good_cons ct_impl_Category_isShape good_nil)) tab_ok (by kernel_rfl) (fn := Try.f60) (c := bodyOf Try.f60) (by kernel_rfl) (by kernel_rfl) (by kernel_rfl) c_impl_Category_isCategory rfl .n (cutL []) (by kernel_rfl) (by kernel_rfl) k_impl_Category_isCategory (by decide) (fun x K => W_impl_Category_isCategory x.1 K) w_impl_Category_isCategory (fun x h1 h2 => m_impl_Category_isCategory x.1 h1 h2)
def objCodeR (c : CategoryD) (l : List Int) : Int := if catR c = true then (if withinR l c.1 = true then 0 else 2) else 1
theorem cat_shape {c : CategoryD} (h : catR c = true) : ShapeP c := by
  simp only [catR, Bool.and_eq_true] at h; exact shape_iff.1 h.1
theorem scan_none {α : Type} {p : Int → Option α} : ∀ {n : Nat} {i : Int}, scanR p n i = none → ∀ j : Int, i ≤ j → j < i + n → p j = none
  | 0, i, _, j, h0, h1 => by omega
  | n + 1, i, h, j, h0, h1 => by
    unfold scanR at h
    cases hp : p i with
    | some v => rw [hp] at h; cases h
    | none =>
      rw [hp] at h
      by_cases e : j = i
      · rw [e, hp]
      · exact scan_none (n := n) (i := i + 1) h j (by omega) (by omega)
theorem scan_some {α : Type} {p : Int → Option α} {v : α} : ∀ {n : Nat} {i : Int}, scanR p n i = some v → ∃ j : Int, p j = some v
  | 0, i, h => by cases h
  | n + 1, i, h => by
    unfold scanR at h
    cases hp : p i with
    | some w => rw [hp] at h; exact ⟨i, hp.trans h⟩
    | none => rw [hp] at h; exact scan_some (n := n) (i := i + 1) h
theorem cat_assoc {c : CategoryD} (hc : catR c = true) {f g h : Int} (f0 : 0 ≤ f) (f1 : f < c.2.1.length) (g0 : 0 ≤ g) (g1 : g < c.2.1.length) (h0 : 0 ≤ h) (h1 : h < c.2.1.length)
    (hfg : c.2.2.1.getD f.toNat 0 = c.2.1.getD g.toNat 0) (hgh : c.2.2.1.getD g.toNat 0 = c.2.1.getD h.toNat 0) : compR c (compR c f g) h = compR c f (compR c g h) := by
  simp only [catR, Bool.and_eq_true, beq_iff_eq] at hc
  have h2 := hc.2
  unfold faultR at h2
  cases h3 : scanR (faultI c) c.2.1.length 0 with
  | some v =>
    obtain ⟨j, hj⟩ := scan_some h3
    unfold faultI at hj
    split at hj
    · cases hj; rw [h3] at h2; simp [orR] at h2
    · cases hj
  | none =>
    rw [h3] at h2
    cases h4 : scanR (faultF c) c.2.1.length 0 with
    | some v =>
      obtain ⟨j, hj⟩ := scan_some h4
      unfold faultF at hj
      obtain ⟨k, hk⟩ := scan_some hj
      unfold faultG at hk
      split at hk
      · obtain ⟨l, hl⟩ := scan_some hk
        unfold faultH at hl
        split at hl
        · cases hl; rw [h4] at h2; simp [orR] at h2
        · cases hl
      · cases hk
    | none =>
      have a1 := scan_none h4 f f0 (by omega)
      unfold faultF at a1
      have a2 := scan_none a1 g g0 (by omega)
      unfold faultG at a2
      rw [if_pos hfg] at a2
      have a3 := scan_none a2 h h0 (by omega)
      unfold faultH at a3
      split at a3
      · cases a3
      · rename_i hn
        exact Decidable.byContradiction fun hne => hn ⟨hgh, hne⟩

/-- the arrows into x -/
def intoR (c : CategoryD) (x : Int) : List Int := selR c.2.2.1.length fun f => c.2.2.1.getD f.toNat 0 == x

def c_impl_Category_into : Ct := ⟨[(.pt CategoryT), (.int .i64)], [false, false], fun x => [x.1.2.2.1.length ≤ 40], [(false, (.sl (.fz (.int .i64))))], fun x => (intoR x.1 x.2.1, ()), false, none⟩
def W_impl_Category_into (c : CategoryD) (x : Int) (K : (List Int) × Unit → Prop) : Prop := (loopW (S := ((Unit × (Int × Unit)) × ((List Int) × Unit))) (fun s => (fun next => ((inK IntKind.i64 s.1.2.1) → ((T.ok (T.sl (T.int IntKind.i64)) s.2.1) → (cnd (decide (s.1.2.1 < (((List.length c.2.2.1) : Nat) : Int))) (((0 : Int) ≤ s.1.2.1) ∧ ((s.1.2.1 < (((List.length c.2.2.1) : Nat) : Int)) ∧ (joinW (S := ((Unit × Unit) × ((List Int) × Unit))) (fun s1 => ((T.ok (T.sl (T.int IntKind.i64)) s1.2.1) → ((inK IntKind.i64 (s.1.2.1 + (1 : Int))) ∧ (next (((), ((s.1.2.1 + (1 : Int)), ())), (s1.2.1, ())))))) (fun k => (cnd ((List.getD c.2.2.1 (Int.toNat s.1.2.1) (0 : Int)) == x) ((room (List.length s.2.1) (List.length (s.1.2.1 :: ([] : List Int))) 8) ∧ (k (((), ()), ((s.2.1 ++ (s.1.2.1 :: ([] : List Int))), ())))) (k (((), ()), (s.2.1, ())))))))) (K (s.2.1, ()))))))) (((), ((0 : Int), ())), (([] : List Int), ())))
theorem w_impl_Category_into (x : denL c_impl_Category_into.args) (K : (List Int) × Unit → Prop) : evF tab (lkp []) (cutL []) Try.f138 (bodyOf Try.f138) (.s .n (.s .n (.s (.s .n (.l [(5, (.ref 800005 [])), (14, (.d (.int .i64)))] [(800005, (.sl (.fz (.int .i64))))] [1, 12, 13] (.s .n (.s .n (.s (.s .n (.s .n (.j [(5, (.ref 800005 []))] [(800005, (.sl (.fz (.int .i64))))] [1, 12, 13, 14] .n))) .n))))) .n))) c_impl_Category_into x K = W_impl_Category_into x.1 x.2.1 K := by kernel_rfl
theorem k_impl_Category_into : okC Try.f138.ntmps (cutL []) (bodyOf Try.f138) = true := by kernel_rfl
theorem m_impl_Category_into (c : CategoryD) (x : Int) (hok : allP (okL c_impl_Category_into.args (c, x, ()))) (hpre : allP (c_impl_Category_into.pre (c, x, ()))) : W_impl_Category_into c x (fun r => r = c_impl_Category_into.res (c, x, ())) := by
  simp only [c_impl_Category_into, okL, T.oks, T.ok, ap, allP, true_and, and_true, implies_true] at hok hpre
  try dsimp only [T.den] at hok
  try dsimp only [T.den] at hpre
  unfold W_impl_Category_into
  have hm : c.2.2.1.length ≤ 40 := hpre
  refine loop_sel c.2.2.1.length (fun f => c.2.2.1.getD f.toNat 0 == x) ?_ ?_
  · intro i out next i0 i1 hn hl _ _
    try dsimp only at hn ⊢
    refine cnd_d (fun _ => ⟨i0, i1, join_add (if (c.2.2.1.getD i.toNat 0 == x) = true then out ++ [i] else out) (fun s hs _ => ⟨by rw [inK64]; (try dsimp only); omega, hn _ hs⟩) (fun k hk => cnd_of (fun hx => ⟨room_of (by simp only [List.length_cons, List.length_nil]; omega), hk _ (by rw [if_pos hx])⟩) (fun hx => hk _ (by rw [if_neg (by rw [hx]; simp)])))⟩) (fun h => absurd i1 h)
  · intro next _ _
    refine cnd_d (fun h => absurd h (Int.lt_irrefl _)) (fun _ => ?_)
    simp only [c_impl_Category_into, intoR]
theorem ct_impl_Category_into : CtOk Try.prog 138 c_impl_Category_into :=
  ct_by (Φ := lkp []) good_nil tab_ok (by kernel_rfl) (fn := Try.f138) (c := bodyOf Try.f138) (by kernel_rfl) (by kernel_rfl) (by kernel_rfl) c_impl_Category_into rfl (.s .n (.s .n (.s (.s .n (.l [(5, (.ref 800005 [])), (14, (.d (.int .i64)))] [(800005, (.sl (.fz (.int .i64))))] [1, 12, 13] (.s .n (.s .n (.s (.s .n (.s .n (.j [(5, (.ref 800005 []))] [(800005, (.sl (.fz (.int .i64))))] [1, 12, 13, 14] .n))) .n))))) .n))) (cutL []) (by kernel_rfl) (by kernel_rfl) k_impl_Category_into (by decide) (fun x K => W_impl_Category_into x.1 x.2.1 K) w_impl_Category_into (fun x h1 h2 => m_impl_Category_into x.1 x.2.1 h1 h2)
/-- the arrows out of x -/
def outR (c : CategoryD) (x : Int) : List Int := selR c.2.1.length fun f => c.2.1.getD f.toNat 0 == x

def c_impl_Category_outOf : Ct := ⟨[(.pt CategoryT), (.int .i64)], [false, false], fun x => [x.1.2.1.length ≤ 40], [(false, (.sl (.fz (.int .i64))))], fun x => (outR x.1 x.2.1, ()), false, none⟩
def W_impl_Category_outOf (c : CategoryD) (x : Int) (K : (List Int) × Unit → Prop) : Prop := (loopW (S := ((Unit × (Int × Unit)) × ((List Int) × Unit))) (fun s => (fun next => ((inK IntKind.i64 s.1.2.1) → ((T.ok (T.sl (T.int IntKind.i64)) s.2.1) → (cnd (decide (s.1.2.1 < (((List.length c.2.1) : Nat) : Int))) (((0 : Int) ≤ s.1.2.1) ∧ ((s.1.2.1 < (((List.length c.2.1) : Nat) : Int)) ∧ (joinW (S := ((Unit × Unit) × ((List Int) × Unit))) (fun s1 => ((T.ok (T.sl (T.int IntKind.i64)) s1.2.1) → ((inK IntKind.i64 (s.1.2.1 + (1 : Int))) ∧ (next (((), ((s.1.2.1 + (1 : Int)), ())), (s1.2.1, ())))))) (fun k => (cnd ((List.getD c.2.1 (Int.toNat s.1.2.1) (0 : Int)) == x) ((room (List.length s.2.1) (List.length (s.1.2.1 :: ([] : List Int))) 8) ∧ (k (((), ()), ((s.2.1 ++ (s.1.2.1 :: ([] : List Int))), ())))) (k (((), ()), (s.2.1, ())))))))) (K (s.2.1, ()))))))) (((), ((0 : Int), ())), (([] : List Int), ())))
theorem w_impl_Category_outOf (x : denL c_impl_Category_outOf.args) (K : (List Int) × Unit → Prop) : evF tab (lkp []) (cutL []) Try.f87 (bodyOf Try.f87) (.s .n (.s .n (.s (.s .n (.l [(5, (.ref 800005 [])), (14, (.d (.int .i64)))] [(800005, (.sl (.fz (.int .i64))))] [1, 12, 13] (.s .n (.s .n (.s (.s .n (.s .n (.j [(5, (.ref 800005 []))] [(800005, (.sl (.fz (.int .i64))))] [1, 12, 13, 14] .n))) .n))))) .n))) c_impl_Category_outOf x K = W_impl_Category_outOf x.1 x.2.1 K := by kernel_rfl
theorem k_impl_Category_outOf : okC Try.f87.ntmps (cutL []) (bodyOf Try.f87) = true := by kernel_rfl
theorem m_impl_Category_outOf (c : CategoryD) (x : Int) (hok : allP (okL c_impl_Category_outOf.args (c, x, ()))) (hpre : allP (c_impl_Category_outOf.pre (c, x, ()))) : W_impl_Category_outOf c x (fun r => r = c_impl_Category_outOf.res (c, x, ())) := by
  simp only [c_impl_Category_outOf, okL, T.oks, T.ok, ap, allP, true_and, and_true, implies_true] at hok hpre
  try dsimp only [T.den] at hok
  try dsimp only [T.den] at hpre
  unfold W_impl_Category_outOf
  have hm : c.2.1.length ≤ 40 := hpre
  refine loop_of (fun (s : ((Unit × (Int × Unit)) × ((List Int) × Unit))) => 0 ≤ s.1.2.1 ∧ s.1.2.1 ≤ c.2.1.length ∧ s.2.1 = selR s.1.2.1.toNat fun f => c.2.1.getD f.toNat 0 == x) (fun (s : ((Unit × (Int × Unit)) × ((List Int) × Unit))) => (c.2.1.length - s.1.2.1).toNat) ?_ ⟨by simp, by simp, rfl⟩
  rintro ⟨⟨_, i, _⟩, l, _⟩ next ⟨h0, h1, h2⟩ hn hin hl
  try dsimp only at h0 h1 h2 hn ⊢
  subst h2
  refine cnd_d (fun hc => ⟨h0, hc, join_of (fun s1 => s1.2.1 = selR (i + 1).toNat fun f => c.2.1.getD f.toNat 0 == x) (fun s1 hs _ => ⟨by rw [inK64]; (try dsimp only); omega, hn _ ⟨(by first | omega | (dsimp only; omega)), (by first | omega | (dsimp only; omega)), hs⟩ (by first | omega | (dsimp only; omega))⟩) (fun k hk => cnd_of (fun hx => ⟨?_, hk _ ?_⟩) (fun hx => hk _ ?_))⟩) (fun hc => ?_)
  · have := sel_len (p := fun f => c.2.1.getD f.toNat 0 == x) i.toNat
    unfold room
    rw [nb_eq]
    have h3 : (i :: ([] : List Int)).length = 1 := rfl
    rw [h3]
    omega
  · exact (sel_t h0 hx).symm
  · exact (sel_f h0 hx).symm
  · have e : i.toNat = c.2.1.length := by omega
    simp only [c_impl_Category_outOf, outR]
    rw [e]
theorem ct_impl_Category_outOf : CtOk Try.prog 87 c_impl_Category_outOf :=
  ct_by (Φ := lkp []) good_nil tab_ok (by kernel_rfl) (fn := Try.f87) (c := bodyOf Try.f87) (by kernel_rfl) (by kernel_rfl) (by kernel_rfl) c_impl_Category_outOf rfl (.s .n (.s .n (.s (.s .n (.l [(5, (.ref 800005 [])), (14, (.d (.int .i64)))] [(800005, (.sl (.fz (.int .i64))))] [1, 12, 13] (.s .n (.s .n (.s (.s .n (.s .n (.j [(5, (.ref 800005 []))] [(800005, (.sl (.fz (.int .i64))))] [1, 12, 13, 14] .n))) .n))))) .n))) (cutL []) (by kernel_rfl) (by kernel_rfl) k_impl_Category_outOf (by decide) (fun x K => W_impl_Category_outOf x.1 x.2.1 K) w_impl_Category_outOf (fun x h1 h2 => m_impl_Category_outOf x.1 x.2.1 h1 h2)
def c_spec_l02Then : Ct := ⟨[CategoryT, (.int .i64), (.int .i64)], [true, false, false], fun x => [0 ≤ x.2.1, x.2.1 < x.1.2.2.2.2.length, 0 ≤ x.2.2.1, x.2.2.1 < (x.1.2.2.2.2.getD x.2.1.toNat []).length], [(false, (.fz (.int .i64)))], fun x => (compR x.1 x.2.1 x.2.2.1, ()), false, none⟩
def W_spec_l02Then (c : CategoryD) (f : Int) (g : Int) (K : Int × Unit → Prop) : Prop := (((0 : Int) ≤ f) ∧ ((f < (((List.length c.2.2.2.2) : Nat) : Int)) ∧ (((0 : Int) ≤ g) ∧ ((g < (((List.length (List.getD c.2.2.2.2 (Int.toNat f) ([] : List Int))) : Nat) : Int)) ∧ (K ((List.getD (List.getD c.2.2.2.2 (Int.toNat f) ([] : List Int)) (Int.toNat g) (0 : Int)), ()))))))
theorem w_spec_l02Then (x : denL c_spec_l02Then.args) (K : Int × Unit → Prop) : evF tab (lkp []) (cutL []) Try.f82 (bodyOf Try.f82) .n c_spec_l02Then x K = W_spec_l02Then x.1 x.2.1 x.2.2.1 K := by kernel_rfl
theorem k_spec_l02Then : okC Try.f82.ntmps (cutL []) (bodyOf Try.f82) = true := by kernel_rfl
theorem m_spec_l02Then (c : CategoryD) (f : Int) (g : Int) (hok : allP (okL c_spec_l02Then.args (c, f, g, ()))) (hpre : allP (c_spec_l02Then.pre (c, f, g, ()))) : W_spec_l02Then c f g (fun r => r = c_spec_l02Then.res (c, f, g, ())) := by
  simp only [c_spec_l02Then, okL, T.oks, T.ok, ap, allP, true_and, and_true, implies_true] at hok hpre
  try dsimp only [T.den] at hok
  try dsimp only [T.den] at hpre
  unfold W_spec_l02Then
  exact ⟨hpre.1, hpre.2.1, hpre.2.2.1, hpre.2.2.2, rfl⟩
theorem ct_spec_l02Then : CtOk Try.prog 82 c_spec_l02Then :=
  ct_by (Φ := lkp []) good_nil tab_ok (by kernel_rfl) (fn := Try.f82) (c := bodyOf Try.f82) (by kernel_rfl) (by kernel_rfl) (by kernel_rfl) c_spec_l02Then rfl .n (cutL []) (by kernel_rfl) (by kernel_rfl) k_spec_l02Then (by decide) (fun x K => W_spec_l02Then x.1 x.2.1 x.2.2.1 K) w_spec_l02Then (fun x h1 h2 => m_spec_l02Then x.1 x.2.1 x.2.2.1 h1 h2)
def parR (c : CategoryD) (f g : Int) : Bool := c.2.1.getD f.toNat 0 == c.2.1.getD g.toNat 0 && c.2.2.1.getD f.toNat 0 == c.2.2.1.getD g.toNat 0

def c_spec_l03Parallel : Ct := ⟨[CategoryT, (.int .i64), (.int .i64)], [true, false, false], fun x => [ShapeP x.1, 0 ≤ x.2.1, x.2.1 < x.1.2.1.length, 0 ≤ x.2.2.1, x.2.2.1 < x.1.2.1.length], [(false, (.fz .bool))], fun x => (parR x.1 x.2.1 x.2.2.1, ()), false, none⟩
def W_spec_l03Parallel (c : CategoryD) (f : Int) (g : Int) (K : Bool × Unit → Prop) : Prop := (((0 : Int) ≤ f) ∧ ((f < (((List.length c.2.1) : Nat) : Int)) ∧ (((0 : Int) ≤ g) ∧ ((g < (((List.length c.2.1) : Nat) : Int)) ∧ (((((List.getD c.2.1 (Int.toNat f) (0 : Int)) == (List.getD c.2.1 (Int.toNat g) (0 : Int))) = Bool.true) → ((f < (((List.length c.2.2.1) : Nat) : Int)) ∧ ((0 : Int) ≤ f))) ∧ (((((List.getD c.2.1 (Int.toNat f) (0 : Int)) == (List.getD c.2.1 (Int.toNat g) (0 : Int))) = Bool.true) → ((g < (((List.length c.2.2.1) : Nat) : Int)) ∧ ((0 : Int) ≤ g))) ∧ (K ((((List.getD c.2.1 (Int.toNat f) (0 : Int)) == (List.getD c.2.1 (Int.toNat g) (0 : Int))) && ((List.getD c.2.2.1 (Int.toNat f) (0 : Int)) == (List.getD c.2.2.1 (Int.toNat g) (0 : Int)))), ()))))))))
theorem w_spec_l03Parallel (x : denL c_spec_l03Parallel.args) (K : Bool × Unit → Prop) : evF tab (lkp []) (cutL [(1, 22)]) Try.f104 (bodyOf Try.f104) .n c_spec_l03Parallel x K = W_spec_l03Parallel x.1 x.2.1 x.2.2.1 K := by kernel_rfl
theorem k_spec_l03Parallel : okC Try.f104.ntmps (cutL [(1, 22)]) (bodyOf Try.f104) = true := by kernel_rfl
theorem m_spec_l03Parallel (c : CategoryD) (f : Int) (g : Int) (hok : allP (okL c_spec_l03Parallel.args (c, f, g, ()))) (hpre : allP (c_spec_l03Parallel.pre (c, f, g, ()))) : W_spec_l03Parallel c f g (fun r => r = c_spec_l03Parallel.res (c, f, g, ())) := by
  simp only [c_spec_l03Parallel, okL, T.oks, T.ok, ap, allP, true_and, and_true, implies_true] at hok hpre
  try dsimp only [T.den] at hok
  try dsimp only [T.den] at hpre
  unfold W_spec_l03Parallel
  obtain ⟨S, f0, f1, g0, g1⟩ := hpre
  have hlt := S.lt
  exact ⟨f0, f1, g0, g1, fun _ => ⟨by omega, f0⟩, fun _ => ⟨by omega, g0⟩, rfl⟩
theorem ct_spec_l03Parallel : CtOk Try.prog 104 c_spec_l03Parallel :=
  ct_by (Φ := lkp []) good_nil tab_ok (by kernel_rfl) (fn := Try.f104) (c := bodyOf Try.f104) (by kernel_rfl) (by kernel_rfl) (by kernel_rfl) c_spec_l03Parallel rfl .n (cutL [(1, 22)]) (by kernel_rfl) (by kernel_rfl) k_spec_l03Parallel (by decide) (fun x K => W_spec_l03Parallel x.1 x.2.1 x.2.2.1 K) w_spec_l03Parallel (fun x h1 h2 => m_spec_l03Parallel x.1 x.2.1 x.2.2.1 h1 h2)
def canAR (c : CategoryD) (f g v : Int) : Bool := c.2.1.getD v.toNat 0 == c.2.2.1.getD f.toNat 0 && compR c f v == compR c g v
def canBR (c : CategoryD) (f g v : Int) : Bool := c.2.2.1.getD v.toNat 0 == c.2.1.getD f.toNat 0 && compR c v f == compR c v g
def canR (c : CategoryD) (l : List Int) (f g : Int) : Bool := !l.any (canAR c f g) || l.any (canBR c f g)

def c_spec_l33Cancels : Ct := ⟨[CategoryT, (.sl (.int .i64)), (.int .i64), (.int .i64)], [true, false, false, false], fun x => [ShapeP x.1, withinR x.2.1 x.1.2.1.length = true, 0 ≤ x.2.2.1, x.2.2.1 < x.1.2.1.length, 0 ≤ x.2.2.2.1, x.2.2.2.1 < x.1.2.1.length], [(false, (.fz .bool))], fun x => (canR x.1 x.2.1 x.2.2.1 x.2.2.2.1, ()), false, none⟩
def W_spec_l33Cancels (c : CategoryD) (w : List Int) (f : Int) (g : Int) (K : Bool × Unit → Prop) : Prop := (loopW (S := ((Bool × (Int × Unit)) × Unit)) (fun s => (fun next => ((inK IntKind.i64 s.1.2.1) → (cnd (decide (s.1.2.1 < (((List.length w) : Nat) : Int))) (((s.1.1 = Bool.false) → ((s.1.2.1 < (((List.length w) : Nat) : Int)) ∧ ((0 : Int) ≤ s.1.2.1))) ∧ (((s.1.1 = Bool.false) → (((List.getD w (Int.toNat s.1.2.1) (0 : Int)) < (((List.length c.2.1) : Nat) : Int)) ∧ ((0 : Int) ≤ (List.getD w (Int.toNat s.1.2.1) (0 : Int))))) ∧ (((s.1.1 = Bool.false) → ((f < (((List.length c.2.2.1) : Nat) : Int)) ∧ ((0 : Int) ≤ f))) ∧ ((((s.1.1 = Bool.false) ∧ (((List.getD c.2.1 (Int.toNat (List.getD w (Int.toNat s.1.2.1) (0 : Int))) (0 : Int)) == (List.getD c.2.2.1 (Int.toNat f) (0 : Int))) = Bool.true)) → ((s.1.2.1 < (((List.length w) : Nat) : Int)) ∧ ((0 : Int) ≤ s.1.2.1))) ∧ ((((s.1.1 = Bool.false) ∧ (((List.getD c.2.1 (Int.toNat (List.getD w (Int.toNat s.1.2.1) (0 : Int))) (0 : Int)) == (List.getD c.2.2.1 (Int.toNat f) (0 : Int))) = Bool.true)) → ((f < (((List.length c.2.2.2.2) : Nat) : Int)) ∧ (((0 : Int) ≤ (List.getD w (Int.toNat s.1.2.1) (0 : Int))) ∧ (((List.getD w (Int.toNat s.1.2.1) (0 : Int)) < (((List.length (List.getD c.2.2.2.2 (Int.toNat f) ([] : List Int))) : Nat) : Int)) ∧ ((0 : Int) ≤ f))))) ∧ ((((s.1.1 = Bool.false) ∧ (((List.getD c.2.1 (Int.toNat (List.getD w (Int.toNat s.1.2.1) (0 : Int))) (0 : Int)) == (List.getD c.2.2.1 (Int.toNat f) (0 : Int))) = Bool.true)) → ((s.1.2.1 < (((List.length w) : Nat) : Int)) ∧ ((0 : Int) ≤ s.1.2.1))) ∧ ((((s.1.1 = Bool.false) ∧ (((List.getD c.2.1 (Int.toNat (List.getD w (Int.toNat s.1.2.1) (0 : Int))) (0 : Int)) == (List.getD c.2.2.1 (Int.toNat f) (0 : Int))) = Bool.true)) → ((g < (((List.length c.2.2.2.2) : Nat) : Int)) ∧ (((0 : Int) ≤ (List.getD w (Int.toNat s.1.2.1) (0 : Int))) ∧ (((List.getD w (Int.toNat s.1.2.1) (0 : Int)) < (((List.length (List.getD c.2.2.2.2 (Int.toNat g) ([] : List Int))) : Nat) : Int)) ∧ ((0 : Int) ≤ g))))) ∧ ((inK IntKind.i64 (s.1.2.1 + (1 : Int))) ∧ (next (((s.1.1 || (((List.getD c.2.1 (Int.toNat (List.getD w (Int.toNat s.1.2.1) (0 : Int))) (0 : Int)) == (List.getD c.2.2.1 (Int.toNat f) (0 : Int))) && ((compR c f (List.getD w (Int.toNat s.1.2.1) (0 : Int))) == (compR c g (List.getD w (Int.toNat s.1.2.1) (0 : Int)))))), ((s.1.2.1 + (1 : Int)), ())), ())))))))))) (cnd (!s.1.1) (K (Bool.true, ())) (loopW (S := ((Int × Unit) × Unit)) (fun s1 => (fun next1 => ((inK IntKind.i64 s1.1.1) → (cnd (decide (s1.1.1 < (((List.length w) : Nat) : Int))) (((0 : Int) ≤ s1.1.1) ∧ ((s1.1.1 < (((List.length w) : Nat) : Int)) ∧ (((0 : Int) ≤ (List.getD w (Int.toNat s1.1.1) (0 : Int))) ∧ (((List.getD w (Int.toNat s1.1.1) (0 : Int)) < (((List.length c.2.2.1) : Nat) : Int)) ∧ (((0 : Int) ≤ f) ∧ ((f < (((List.length c.2.1) : Nat) : Int)) ∧ (((((List.getD c.2.2.1 (Int.toNat (List.getD w (Int.toNat s1.1.1) (0 : Int))) (0 : Int)) == (List.getD c.2.1 (Int.toNat f) (0 : Int))) = Bool.true) → ((s1.1.1 < (((List.length w) : Nat) : Int)) ∧ ((0 : Int) ≤ s1.1.1))) ∧ (((((List.getD c.2.2.1 (Int.toNat (List.getD w (Int.toNat s1.1.1) (0 : Int))) (0 : Int)) == (List.getD c.2.1 (Int.toNat f) (0 : Int))) = Bool.true) → (((List.getD w (Int.toNat s1.1.1) (0 : Int)) < (((List.length c.2.2.2.2) : Nat) : Int)) ∧ (((0 : Int) ≤ f) ∧ ((f < (((List.length (List.getD c.2.2.2.2 (Int.toNat (List.getD w (Int.toNat s1.1.1) (0 : Int))) ([] : List Int))) : Nat) : Int)) ∧ ((0 : Int) ≤ (List.getD w (Int.toNat s1.1.1) (0 : Int))))))) ∧ (((((List.getD c.2.2.1 (Int.toNat (List.getD w (Int.toNat s1.1.1) (0 : Int))) (0 : Int)) == (List.getD c.2.1 (Int.toNat f) (0 : Int))) = Bool.true) → ((s1.1.1 < (((List.length w) : Nat) : Int)) ∧ ((0 : Int) ≤ s1.1.1))) ∧ (((((List.getD c.2.2.1 (Int.toNat (List.getD w (Int.toNat s1.1.1) (0 : Int))) (0 : Int)) == (List.getD c.2.1 (Int.toNat f) (0 : Int))) = Bool.true) → (((List.getD w (Int.toNat s1.1.1) (0 : Int)) < (((List.length c.2.2.2.2) : Nat) : Int)) ∧ (((0 : Int) ≤ g) ∧ ((g < (((List.length (List.getD c.2.2.2.2 (Int.toNat (List.getD w (Int.toNat s1.1.1) (0 : Int))) ([] : List Int))) : Nat) : Int)) ∧ ((0 : Int) ≤ (List.getD w (Int.toNat s1.1.1) (0 : Int))))))) ∧ (cnd (((List.getD c.2.2.1 (Int.toNat (List.getD w (Int.toNat s1.1.1) (0 : Int))) (0 : Int)) == (List.getD c.2.1 (Int.toNat f) (0 : Int))) && ((compR c (List.getD w (Int.toNat s1.1.1) (0 : Int)) f) == (compR c (List.getD w (Int.toNat s1.1.1) (0 : Int)) g))) (K (Bool.true, ())) ((inK IntKind.i64 (s1.1.1 + (1 : Int))) ∧ (next1 (((s1.1.1 + (1 : Int)), ()), ())))))))))))))) (K (Bool.false, ())))))) (((0 : Int), ()), ()))))))) ((Bool.false, ((0 : Int), ())), ()))
theorem w_spec_l33Cancels (x : denL c_spec_l33Cancels.args) (K : Bool × Unit → Prop) : evF tab (lkp [(82, c_spec_l02Then)]) (cutL [(5, 30), (11, 28)]) Try.f105 (bodyOf Try.f105) (.s .n (.s .n (.s (.s .n (.l [(9, (.d .bool)), (10, (.d (.int .i64)))] [] [1, 2, 3, 4] .n)) (.s .n (.s (.s .n (.l [(11, (.d (.int .i64)))] [] [1, 2, 3, 4] .n)) .n))))) c_spec_l33Cancels x K = W_spec_l33Cancels x.1 x.2.1 x.2.2.1 x.2.2.2.1 K := by kernel_rfl
theorem k_spec_l33Cancels : okC Try.f105.ntmps (cutL [(5, 30), (11, 28)]) (bodyOf Try.f105) = true := by kernel_rfl
theorem m_spec_l33Cancels (c : CategoryD) (w : List Int) (f : Int) (g : Int) (hok : allP (okL c_spec_l33Cancels.args (c, w, f, g, ()))) (hpre : allP (c_spec_l33Cancels.pre (c, w, f, g, ()))) : W_spec_l33Cancels c w f g (fun r => r = c_spec_l33Cancels.res (c, w, f, g, ())) := by
  simp only [c_spec_l33Cancels, okL, T.oks, T.ok, ap, allP, true_and, and_true, implies_true] at hok hpre
  try dsimp only [T.den] at hok
  try dsimp only [T.den] at hpre
  unfold W_spec_l33Cancels
  obtain ⟨S, hw, f0, f1, g0, g1⟩ := hpre
  have hl : w.length ≤ 140737488355328 := by simp only [nb_eq] at hok; omega
  clear hok
  have hlt := S.lt
  have hlc := S.lc
  have hrf := S.row f f0 f1
  have hrg := S.row g g0 g1
  refine loop_ixc (fun i => (w.take i.toNat).any (canAR c f g)) (n := w.length) (by omega) rfl ?_ ?_
  · intro i next i0 i1 hn _
    try dsimp only at hn ⊢
    obtain ⟨v0, v1⟩ := within_iff.1 hw i i0 i1
    rw [take_c w 0 i0 i1, List.any_append, List.any_cons, List.any_nil, Bool.or_false] at hn
    exact cnd_d (fun _ => ⟨fun _ => ⟨i1, i0⟩, fun _ => ⟨v1, v0⟩, fun _ => ⟨by omega, f0⟩, fun _ => ⟨i1, i0⟩, fun _ => ⟨by omega, v0, by omega, f0⟩, fun _ => ⟨i1, i0⟩, fun _ => ⟨by omega, v0, by omega, g0⟩, by rw [inK64]; (try dsimp only); omega, hn⟩) (fun h => absurd i1 h)
  · intro next _
    refine cnd_d (fun h => absurd h (Int.lt_irrefl _)) (fun _ => ?_)
    try dsimp only
    rw [take_n _ (Int.le_refl _)]
    refine cnd_of (fun hx => ?_) (fun hx => ?_)
    · simp only [c_spec_l33Cancels, canR, hx, Bool.true_or]
    · refine loop_any w 0 (canBR c f g) ?_ ?_
      · intro i next2 i0 i1 ht hf _
        try dsimp only at hf ⊢
        obtain ⟨v0, v1⟩ := within_iff.1 hw i i0 i1
        have hrv := S.row _ v0 v1
        refine cnd_d (fun _ => ⟨i0, i1, v0, by omega, f0, f1, fun _ => ⟨i1, i0⟩, fun _ => ⟨by omega, f0, by omega, v0⟩, fun _ => ⟨i1, i0⟩, fun _ => ⟨by omega, g0, by omega, v0⟩, ?_⟩) (fun h => absurd i1 h)
        refine cnd_of (fun hb => ?_) (fun hb => ⟨by rw [inK64]; (try dsimp only); omega, hf hb⟩)
        have := ht hb
        simp only [c_spec_l33Cancels, canR, this, Bool.or_true]
      · intro next2 ha _
        refine cnd_d (fun h => absurd h (Int.lt_irrefl _)) (fun _ => ?_)
        simp only [c_spec_l33Cancels, canR, hx, ha, Bool.or_false]
theorem ct_spec_l33Cancels : CtOk Try.prog 105 c_spec_l33Cancels :=
  ct_by (Φ := lkp [(82, c_spec_l02Then)]) (good_cons ct_spec_l02Then good_nil) tab_ok (by kernel_rfl) (fn := Try.f105) (c := bodyOf Try.f105) (by kernel_rfl) (by kernel_rfl) (by kernel_rfl) c_spec_l33Cancels rfl (.s .n (.s .n (.s (.s .n (.l [(9, (.d .bool)), (10, (.d (.int .i64)))] [] [1, 2, 3, 4] .n)) (.s .n (.s (.s .n (.l [(11, (.d (.int .i64)))] [] [1, 2, 3, 4] .n)) .n))))) (cutL [(5, 30), (11, 28)]) (by kernel_rfl) (by kernel_rfl) k_spec_l33Cancels (by decide) (fun x K => W_spec_l33Cancels x.1 x.2.1 x.2.2.1 x.2.2.2.1 K) w_spec_l33Cancels (fun x h1 h2 => m_spec_l33Cancels x.1 x.2.1 x.2.2.1 x.2.2.2.1 h1 h2)
def hasR (l : List Int) (n : Int) : Bool := l.any fun x => x == n

def c_impl_has : Ct := ⟨[(.sl (.int .i64)), (.int .i64)], [false, false], fun x => [], [(false, (.fz .bool))], fun x => (hasR x.1 x.2.1, ()), false, none⟩
def W_impl_has (list : List Int) (n : Int) (K : Bool × Unit → Prop) : Prop := (loopW (S := ((Int × Unit) × Unit)) (fun s => (fun next => ((inK IntKind.i64 s.1.1) → (cnd (decide (s.1.1 < (((List.length list) : Nat) : Int))) (((0 : Int) ≤ s.1.1) ∧ ((s.1.1 < (((List.length list) : Nat) : Int)) ∧ (cnd ((List.getD list (Int.toNat s.1.1) (0 : Int)) == n) (K (Bool.true, ())) ((inK IntKind.i64 (s.1.1 + (1 : Int))) ∧ (next (((s.1.1 + (1 : Int)), ()), ())))))) (K (Bool.false, ())))))) (((0 : Int), ()), ()))
theorem w_impl_has (x : denL c_impl_has.args) (K : Bool × Unit → Prop) : evF tab (lkp []) (cutL []) Try.f175 (bodyOf Try.f175) (.s .n (.s (.s .n (.l [(9, (.d (.int .i64)))] [] [1, 7, 8] .n)) .n)) c_impl_has x K = W_impl_has x.1 x.2.1 K := by kernel_rfl
theorem k_impl_has : okC Try.f175.ntmps (cutL []) (bodyOf Try.f175) = true := by kernel_rfl
theorem m_impl_has (list : List Int) (n : Int) (hok : allP (okL c_impl_has.args (list, n, ()))) (hpre : allP (c_impl_has.pre (list, n, ()))) : W_impl_has list n (fun r => r = c_impl_has.res (list, n, ())) := by
  simp only [c_impl_has, okL, T.oks, T.ok, ap, allP, true_and, and_true, implies_true] at hok hpre
  try dsimp only [T.den] at hok
  try dsimp only [T.den] at hpre
  unfold W_impl_has
  refine loop_of (fun (s : ((Int × Unit) × Unit)) => 0 ≤ s.1.1 ∧ s.1.1 ≤ list.length ∧ hasR list n = hasR (list.drop s.1.1.toNat) n) (fun (s : ((Int × Unit) × Unit)) => (list.length - s.1.1).toNat) ?_ (by simp)
  rintro ⟨⟨i, _⟩, _⟩ next ⟨h0, h1, h2⟩ hn hin
  simp only at h0 h1 h2 hn ⊢
  refine cnd_d (fun hc => ?_) (fun hc => ?_)
  · rw [drop_c list 0 h0 hc] at h2
    simp only [hasR, List.any_cons] at h2
    grind [cnd, nb_eq, inK64, c_impl_has, hasR]
  · rw [drop_n list (by omega)] at h2
    grind [cnd, nb_eq, inK64, c_impl_has, hasR]
theorem ct_impl_has : CtOk Try.prog 175 c_impl_has :=
  ct_by (Φ := lkp []) good_nil tab_ok (by kernel_rfl) (fn := Try.f175) (c := bodyOf Try.f175) (by kernel_rfl) (by kernel_rfl) (by kernel_rfl) c_impl_has rfl (.s .n (.s (.s .n (.l [(9, (.d (.int .i64)))] [] [1, 7, 8] .n)) .n)) (cutL []) (by kernel_rfl) (by kernel_rfl) k_impl_has (by decide) (fun x K => W_impl_has x.1 x.2.1 K) w_impl_has (fun x h1 h2 => m_impl_has x.1 x.2.1 h1 h2)
/-- the marks of a list of arrows -/
def marksR (c : CategoryD) (l : List Int) : List Bool := tabN c.2.1.length fun f => hasR l f

def c_impl_Category_marks : Ct := ⟨[(.pt CategoryT), (.sl (.int .i64))], [false, false], fun x => [x.1.2.1.length ≤ 40, withinR x.2.1 x.1.2.1.length = true], [(false, (.sl (.fz .bool)))], fun x => (marksR x.1 x.2.1, ()), false, none⟩
def W_impl_Category_marks (c : CategoryD) (arrows : List Int) (K : (List Bool) × Unit → Prop) : Prop := (((0 : Int) ≤ (((List.length c.2.1) : Nat) : Int)) ∧ (((((List.length c.2.1) : Nat) : Int) ≤ (((List.length c.2.1) : Nat) : Int)) ∧ (((((List.length c.2.1) : Nat) : Int) ≤ ((140737488355328 : Nat) : Int)) ∧ ((((((List.length c.2.1) : Nat) : Int) * ((1 : Nat) : Int)) ≤ ((140737488355328 : Nat) : Int)) ∧ (loopW (S := ((Unit × (Int × Unit)) × ((List Bool) × Unit))) (fun s => (fun next => ((inK IntKind.i64 s.1.2.1) → ((T.ok (T.sl T.bool) s.2.1) → (cnd (decide (s.1.2.1 < (((List.length arrows) : Nat) : Int))) (((0 : Int) ≤ s.1.2.1) ∧ ((s.1.2.1 < (((List.length arrows) : Nat) : Int)) ∧ (((0 : Int) ≤ (List.getD arrows (Int.toNat s.1.2.1) (0 : Int))) ∧ (((List.getD arrows (Int.toNat s.1.2.1) (0 : Int)) < (((List.length s.2.1) : Nat) : Int)) ∧ ((inK IntKind.i64 (s.1.2.1 + (1 : Int))) ∧ (next (((), ((s.1.2.1 + (1 : Int)), ())), ((List.set s.2.1 (Int.toNat (List.getD arrows (Int.toNat s.1.2.1) (0 : Int))) Bool.true), ())))))))) (K (s.2.1, ()))))))) (((), ((0 : Int), ())), ((List.replicate (Int.toNat (((List.length c.2.1) : Nat) : Int)) Bool.false), ())))))))
theorem w_impl_Category_marks (x : denL c_impl_Category_marks.args) (K : (List Bool) × Unit → Prop) : evF tab (lkp [(86, c_impl_Category_arrows)]) (cutL []) Try.f107 (bodyOf Try.f107) (.s .n (.s .n (.s (.s .n (.l [(5, (.ref 10 [])), (13, (.d (.int .i64)))] [(10, (.sl (.fz .bool)))] [11, 12] .n)) .n))) c_impl_Category_marks x K = W_impl_Category_marks x.1 x.2.1 K := by kernel_rfl
theorem k_impl_Category_marks : okC Try.f107.ntmps (cutL []) (bodyOf Try.f107) = true := by kernel_rfl
theorem m_impl_Category_marks (c : CategoryD) (arrows : List Int) (hok : allP (okL c_impl_Category_marks.args (c, arrows, ()))) (hpre : allP (c_impl_Category_marks.pre (c, arrows, ()))) : W_impl_Category_marks c arrows (fun r => r = c_impl_Category_marks.res (c, arrows, ())) := by
  simp only [c_impl_Category_marks, okL, T.oks, T.ok, ap, allP, true_and, and_true, implies_true] at hok hpre
  try dsimp only [T.den] at hok
  try dsimp only [T.den] at hpre
  unfold W_impl_Category_marks
  obtain ⟨hm, hw⟩ := hpre
  have hl : arrows.length ≤ 140737488355328 := by simp only [nb_eq] at hok; omega
  clear hok
  refine ⟨by omega, Int.le_refl _, by omega, by omega, ?_⟩
  rw [Int.toNat_natCast, tab_rep]
  refine loop_ixa (fun i => tabN c.2.1.length fun f => hasR (arrows.take i.toNat) f) (n := arrows.length) (by omega) (tabN_congr fun f _ _ => rfl) ?_ ?_
  · intro i next i0 i1 hn _ _
    try dsimp only at hn ⊢
    obtain ⟨a0, a1⟩ := within_iff.1 hw i i0 i1
    have hs : (tabN c.2.1.length fun f => hasR (arrows.take i.toNat) f).set (arrows.getD i.toNat 0).toNat true = tabN c.2.1.length fun f => hasR (arrows.take (i + 1).toNat) f := by
      rw [tab_mark a0 (by omega)]
      refine tabN_congr fun f _ _ => ?_
      rw [take_c arrows 0 i0 i1]
      unfold hasR
      rw [List.any_append, List.any_cons, List.any_nil, Bool.or_false]
    rw [← hs] at hn
    exact cnd_d (fun _ => ⟨i0, i1, a0, by rw [tabN_len]; omega, by rw [inK64]; (try dsimp only); omega, hn⟩) (fun h => absurd i1 h)
  · intro next _ _
    refine cnd_d (fun h => absurd h (Int.lt_irrefl _)) (fun _ => ?_)
    simp only [c_impl_Category_marks, marksR]
    rw [take_n _ (Int.le_refl _)]
theorem ct_impl_Category_marks : CtOk Try.prog 107 c_impl_Category_marks :=
  ct_by (Φ := lkp [(86, c_impl_Category_arrows)]) (good_cons ct_impl_Category_arrows good_nil) tab_ok (by kernel_rfl) (fn := Try.f107) (c := bodyOf Try.f107) (by kernel_rfl) (by kernel_rfl) (by kernel_rfl) c_impl_Category_marks rfl (.s .n (.s .n (.s (.s .n (.l [(5, (.ref 10 [])), (13, (.d (.int .i64)))] [(10, (.sl (.fz .bool)))] [11, 12] .n)) .n))) (cutL []) (by kernel_rfl) (by kernel_rfl) k_impl_Category_marks (by decide) (fun x K => W_impl_Category_marks x.1 x.2.1 K) w_impl_Category_marks (fun x h1 h2 => m_impl_Category_marks x.1 x.2.1 h1 h2)
structure DenP (w : CategoryD × List Int × List Bool) : Prop where
  sh : ShapeP w.1
  wi : withinR w.2.1 w.1.2.1.length = true
  ma : w.2.2 = marksR w.1 w.2.1
theorem hasd_iff {l : List Int} {v : Int} : hasR l v = true ↔ v ∈ l := by
  unfold hasR; rw [List.any_eq_true]
  constructor
  · rintro ⟨x, hx, e⟩
    rw [beq_iff_eq] at e
    exact e ▸ hx
  · intro h; exact ⟨v, h, by simp⟩
theorem DenP.len {w : CategoryD × List Int × List Bool} (D : DenP w) : w.2.2.length = w.1.2.1.length := by rw [D.ma]; unfold marksR; rw [tabN_len]
theorem DenP.get {w : CategoryD × List Int × List Bool} (D : DenP w) {v : Int} (v0 : 0 ≤ v) (v1 : v < w.1.2.1.length) : w.2.2.getD v.toNat false = hasR w.2.1 v := by
  rw [D.ma]; unfold marksR; rw [tabN_get v0 (by omega)]
theorem outd_mem {c : CategoryD} {x g : Int} : g ∈ outR c x ↔ 0 ≤ g ∧ g < c.2.1.length ∧ c.2.1.getD g.toNat 0 = x := by
  unfold outR; rw [sel_mem, beq_iff_eq]
theorem intod_mem {c : CategoryD} {x g : Int} : g ∈ intoR c x ↔ 0 ≤ g ∧ g < c.2.2.1.length ∧ c.2.2.1.getD g.toNat 0 = x := by
  unfold intoR; rw [sel_mem, beq_iff_eq]
def cnAR (w : CategoryD × List Int × List Bool) (f g v : Int) : Bool := w.2.2.getD v.toNat false && compR w.1 f v == compR w.1 g v
def cnBR (w : CategoryD × List Int × List Bool) (f g v : Int) : Bool := w.2.2.getD v.toNat false && compR w.1 v f == compR w.1 v g
theorem canA_eq {w : CategoryD × List Int × List Bool} (D : DenP w) {f g : Int} : (outR w.1 (w.1.2.2.1.getD f.toNat 0)).any (cnAR w f g) = w.2.1.any (canAR w.1 f g) := by
  rw [Bool.eq_iff_iff, List.any_eq_true, List.any_eq_true]
  constructor
  · rintro ⟨v, hv, h⟩
    obtain ⟨v0, v1, v2⟩ := outd_mem.1 hv
    unfold cnAR at h
    rw [D.get v0 v1, Bool.and_eq_true] at h
    exact ⟨v, hasd_iff.1 h.1, by unfold canAR; rw [v2, Bool.and_eq_true]; exact ⟨by simp, h.2⟩⟩
  · rintro ⟨v, hv, h⟩
    obtain ⟨k, hk, rfl⟩ := List.getElem_of_mem hv
    have hr := within_iff.1 D.wi k (by omega) (by omega)
    rw [Int.toNat_natCast, List.getD_eq_getElem?_getD, List.getElem?_eq_getElem hk, Option.getD_some] at hr
    unfold canAR at h
    rw [Bool.and_eq_true, beq_iff_eq] at h
    exact ⟨_, outd_mem.2 ⟨hr.1, hr.2, h.1⟩, by unfold cnAR; rw [D.get hr.1 hr.2, hasd_iff.2 hv, Bool.true_and]; exact h.2⟩
theorem canB_eq {w : CategoryD × List Int × List Bool} (D : DenP w) {f g : Int} : (intoR w.1 (w.1.2.1.getD f.toNat 0)).any (cnBR w f g) = w.2.1.any (canBR w.1 f g) := by
  have hlt := D.sh.lt
  rw [Bool.eq_iff_iff, List.any_eq_true, List.any_eq_true]
  constructor
  · rintro ⟨v, hv, h⟩
    obtain ⟨v0, v1, v2⟩ := intod_mem.1 hv
    unfold cnBR at h
    rw [D.get v0 (by omega), Bool.and_eq_true] at h
    exact ⟨v, hasd_iff.1 h.1, by unfold canBR; rw [v2, Bool.and_eq_true]; exact ⟨by simp, h.2⟩⟩
  · rintro ⟨v, hv, h⟩
    obtain ⟨k, hk, rfl⟩ := List.getElem_of_mem hv
    have hr := within_iff.1 D.wi k (by omega) (by omega)
    rw [Int.toNat_natCast, List.getD_eq_getElem?_getD, List.getElem?_eq_getElem hk, Option.getD_some] at hr
    unfold canBR at h
    rw [Bool.and_eq_true, beq_iff_eq] at h
    exact ⟨_, intod_mem.2 ⟨hr.1, by omega, h.1⟩, by unfold cnBR; rw [D.get hr.1 hr.2, hasd_iff.2 hv, Bool.true_and]; exact h.2⟩

def c_impl_denominators_cancels : Ct := ⟨[(.pt denominatorsT), (.int .i64), (.int .i64)], [false, false, false], fun x => [DenP x.1, 0 ≤ x.2.1, x.2.1 < x.1.1.2.1.length, 0 ≤ x.2.2.1, x.2.2.1 < x.1.1.2.1.length], [(false, (.fz .bool))], fun x => (canR x.1.1 x.1.2.1 x.2.1 x.2.2.1, ()), false, none⟩
def W_impl_denominators_cancels (w : T.den denominatorsT) (f : Int) (g : Int) (K : Bool × Unit → Prop) : Prop := (((0 : Int) ≤ f) ∧ ((f < (((List.length w.1.2.2.1) : Nat) : Int)) ∧ (((List.length w.1.2.1) ≤ 40) ∧ (loopW (S := ((Bool × (Int × Unit)) × Unit)) (fun s => (fun next => ((inK IntKind.i64 s.1.2.1) → (cnd (decide (s.1.2.1 < (((List.length (outR w.1 (List.getD w.1.2.2.1 (Int.toNat f) (0 : Int)))) : Nat) : Int))) (((0 : Int) ≤ s.1.2.1) ∧ ((s.1.2.1 < (((List.length (outR w.1 (List.getD w.1.2.2.1 (Int.toNat f) (0 : Int)))) : Nat) : Int)) ∧ (((s.1.1 = Bool.false) → (((List.getD (outR w.1 (List.getD w.1.2.2.1 (Int.toNat f) (0 : Int))) (Int.toNat s.1.2.1) (0 : Int)) < (((List.length w.2.2) : Nat) : Int)) ∧ ((0 : Int) ≤ (List.getD (outR w.1 (List.getD w.1.2.2.1 (Int.toNat f) (0 : Int))) (Int.toNat s.1.2.1) (0 : Int))))) ∧ ((((s.1.1 = Bool.false) ∧ ((List.getD w.2.2 (Int.toNat (List.getD (outR w.1 (List.getD w.1.2.2.1 (Int.toNat f) (0 : Int))) (Int.toNat s.1.2.1) (0 : Int))) Bool.false) = Bool.true)) → ((f < (((List.length w.1.2.2.2.2) : Nat) : Int)) ∧ (((0 : Int) ≤ (List.getD (outR w.1 (List.getD w.1.2.2.1 (Int.toNat f) (0 : Int))) (Int.toNat s.1.2.1) (0 : Int))) ∧ (((List.getD (outR w.1 (List.getD w.1.2.2.1 (Int.toNat f) (0 : Int))) (Int.toNat s.1.2.1) (0 : Int)) < (((List.length (List.getD w.1.2.2.2.2 (Int.toNat f) ([] : List Int))) : Nat) : Int)) ∧ ((0 : Int) ≤ f))))) ∧ ((((s.1.1 = Bool.false) ∧ ((List.getD w.2.2 (Int.toNat (List.getD (outR w.1 (List.getD w.1.2.2.1 (Int.toNat f) (0 : Int))) (Int.toNat s.1.2.1) (0 : Int))) Bool.false) = Bool.true)) → ((g < (((List.length w.1.2.2.2.2) : Nat) : Int)) ∧ (((0 : Int) ≤ (List.getD (outR w.1 (List.getD w.1.2.2.1 (Int.toNat f) (0 : Int))) (Int.toNat s.1.2.1) (0 : Int))) ∧ (((List.getD (outR w.1 (List.getD w.1.2.2.1 (Int.toNat f) (0 : Int))) (Int.toNat s.1.2.1) (0 : Int)) < (((List.length (List.getD w.1.2.2.2.2 (Int.toNat g) ([] : List Int))) : Nat) : Int)) ∧ ((0 : Int) ≤ g))))) ∧ ((inK IntKind.i64 (s.1.2.1 + (1 : Int))) ∧ (next (((s.1.1 || ((List.getD w.2.2 (Int.toNat (List.getD (outR w.1 (List.getD w.1.2.2.1 (Int.toNat f) (0 : Int))) (Int.toNat s.1.2.1) (0 : Int))) Bool.false) && ((compR w.1 f (List.getD (outR w.1 (List.getD w.1.2.2.1 (Int.toNat f) (0 : Int))) (Int.toNat s.1.2.1) (0 : Int))) == (compR w.1 g (List.getD (outR w.1 (List.getD w.1.2.2.1 (Int.toNat f) (0 : Int))) (Int.toNat s.1.2.1) (0 : Int)))))), ((s.1.2.1 + (1 : Int)), ())), ())))))))) (cnd (!s.1.1) (K (Bool.true, ())) (((0 : Int) ≤ f) ∧ ((f < (((List.length w.1.2.1) : Nat) : Int)) ∧ (((List.length w.1.2.2.1) ≤ 40) ∧ (loopW (S := ((Int × Unit) × Unit)) (fun s1 => (fun next1 => ((inK IntKind.i64 s1.1.1) → (cnd (decide (s1.1.1 < (((List.length (intoR w.1 (List.getD w.1.2.1 (Int.toNat f) (0 : Int)))) : Nat) : Int))) (((0 : Int) ≤ s1.1.1) ∧ ((s1.1.1 < (((List.length (intoR w.1 (List.getD w.1.2.1 (Int.toNat f) (0 : Int)))) : Nat) : Int)) ∧ (((0 : Int) ≤ (List.getD (intoR w.1 (List.getD w.1.2.1 (Int.toNat f) (0 : Int))) (Int.toNat s1.1.1) (0 : Int))) ∧ (((List.getD (intoR w.1 (List.getD w.1.2.1 (Int.toNat f) (0 : Int))) (Int.toNat s1.1.1) (0 : Int)) < (((List.length w.2.2) : Nat) : Int)) ∧ ((((List.getD w.2.2 (Int.toNat (List.getD (intoR w.1 (List.getD w.1.2.1 (Int.toNat f) (0 : Int))) (Int.toNat s1.1.1) (0 : Int))) Bool.false) = Bool.true) → (((List.getD (intoR w.1 (List.getD w.1.2.1 (Int.toNat f) (0 : Int))) (Int.toNat s1.1.1) (0 : Int)) < (((List.length w.1.2.2.2.2) : Nat) : Int)) ∧ (((0 : Int) ≤ f) ∧ ((f < (((List.length (List.getD w.1.2.2.2.2 (Int.toNat (List.getD (intoR w.1 (List.getD w.1.2.1 (Int.toNat f) (0 : Int))) (Int.toNat s1.1.1) (0 : Int))) ([] : List Int))) : Nat) : Int)) ∧ ((0 : Int) ≤ (List.getD (intoR w.1 (List.getD w.1.2.1 (Int.toNat f) (0 : Int))) (Int.toNat s1.1.1) (0 : Int))))))) ∧ ((((List.getD w.2.2 (Int.toNat (List.getD (intoR w.1 (List.getD w.1.2.1 (Int.toNat f) (0 : Int))) (Int.toNat s1.1.1) (0 : Int))) Bool.false) = Bool.true) → (((List.getD (intoR w.1 (List.getD w.1.2.1 (Int.toNat f) (0 : Int))) (Int.toNat s1.1.1) (0 : Int)) < (((List.length w.1.2.2.2.2) : Nat) : Int)) ∧ (((0 : Int) ≤ g) ∧ ((g < (((List.length (List.getD w.1.2.2.2.2 (Int.toNat (List.getD (intoR w.1 (List.getD w.1.2.1 (Int.toNat f) (0 : Int))) (Int.toNat s1.1.1) (0 : Int))) ([] : List Int))) : Nat) : Int)) ∧ ((0 : Int) ≤ (List.getD (intoR w.1 (List.getD w.1.2.1 (Int.toNat f) (0 : Int))) (Int.toNat s1.1.1) (0 : Int))))))) ∧ (cnd ((List.getD w.2.2 (Int.toNat (List.getD (intoR w.1 (List.getD w.1.2.1 (Int.toNat f) (0 : Int))) (Int.toNat s1.1.1) (0 : Int))) Bool.false) && ((compR w.1 (List.getD (intoR w.1 (List.getD w.1.2.1 (Int.toNat f) (0 : Int))) (Int.toNat s1.1.1) (0 : Int)) f) == (compR w.1 (List.getD (intoR w.1 (List.getD w.1.2.1 (Int.toNat f) (0 : Int))) (Int.toNat s1.1.1) (0 : Int)) g))) (K (Bool.true, ())) ((inK IntKind.i64 (s1.1.1 + (1 : Int))) ∧ (next1 (((s1.1.1 + (1 : Int)), ()), ())))))))))) (K (Bool.false, ())))))) (((0 : Int), ()), ())))))))))) ((Bool.false, ((0 : Int), ())), ())))))
theorem w_impl_denominators_cancels (x : denL c_impl_denominators_cancels.args) (K : Bool × Unit → Prop) : evF tab (lkp [(138, c_impl_Category_into), (87, c_impl_Category_outOf), (89, c_impl_Category_then)]) (cutL []) Try.f111 (bodyOf Try.f111) (.s .n (.s .n (.s .n (.s (.s .n (.l [(8, (.d .bool)), (27, (.d (.int .i64)))] [] [0, 1, 2, 7, 25, 26] .n)) (.s .n (.s (.s .n (.l [(65, (.d (.int .i64)))] [] [0, 1, 2, 7, 63, 64] .n)) .n)))))) c_impl_denominators_cancels x K = W_impl_denominators_cancels x.1 x.2.1 x.2.2.1 K := by kernel_rfl
theorem k_impl_denominators_cancels : okC Try.f111.ntmps (cutL []) (bodyOf Try.f111) = true := by kernel_rfl
theorem m_impl_denominators_cancels (w : T.den denominatorsT) (f : Int) (g : Int) (hok : allP (okL c_impl_denominators_cancels.args (w, f, g, ()))) (hpre : allP (c_impl_denominators_cancels.pre (w, f, g, ()))) : W_impl_denominators_cancels w f g (fun r => r = c_impl_denominators_cancels.res (w, f, g, ())) := by
  simp only [c_impl_denominators_cancels, okL, T.oks, T.ok, ap, allP, true_and, and_true, implies_true] at hok hpre
  try dsimp only [T.den] at hok
  try dsimp only [T.den] at hpre
  unfold W_impl_denominators_cancels
  obtain ⟨D, f0, f1, g0, g1⟩ := hpre
  clear hok
  have S := D.sh
  have hm := S.m
  have hlt := S.lt
  have hlc := S.lc
  have hlm := D.len
  have hrf := S.row f f0 f1
  have hrg := S.row g g0 g1
  have hA := canA_eq D (f := f) (g := g)
  have hB := canB_eq D (f := f) (g := g)
  refine ⟨f0, by omega, hm, ?_⟩
  have hol : ∀ i : Int, 0 ≤ i → i < (outR w.1 (w.1.2.2.1.getD f.toNat 0)).length → 0 ≤ (outR w.1 (w.1.2.2.1.getD f.toNat 0)).getD i.toNat 0 ∧ (outR w.1 (w.1.2.2.1.getD f.toNat 0)).getD i.toNat 0 < w.1.2.1.length := fun i i0 i1 => by
    have := outd_mem.1 (getD_mem _ 0 i0 i1); exact ⟨this.1, this.2.1⟩
  have hl40 : (outR w.1 (w.1.2.2.1.getD f.toNat 0)).length ≤ 40 := by
    have := @sel_len (fun g => w.1.2.1.getD g.toNat 0 == w.1.2.2.1.getD f.toNat 0) w.1.2.1.length
    unfold outR; omega
  generalize outR w.1 (w.1.2.2.1.getD f.toNat 0) = l at *
  refine loop_ixc (fun i => (l.take i.toNat).any (cnAR w f g)) (n := l.length) (by omega) rfl ?_ ?_
  · intro i next i0 i1 hn _
    try dsimp only at hn ⊢
    obtain ⟨v0, v1⟩ := hol i i0 i1
    rw [take_c l 0 i0 i1, List.any_append, List.any_cons, List.any_nil, Bool.or_false] at hn
    exact cnd_d (fun _ => ⟨i0, i1, fun _ => ⟨by omega, v0⟩, fun _ => ⟨by omega, v0, by omega, f0⟩, fun _ => ⟨by omega, v0, by omega, g0⟩, by rw [inK64]; (try dsimp only); omega, hn⟩) (fun h => absurd i1 h)
  · intro next _
    refine cnd_d (fun h => absurd h (Int.lt_irrefl _)) (fun _ => ?_)
    try dsimp only
    rw [take_n _ (Int.le_refl _), hA]
    refine cnd_of (fun hx => ?_) (fun hx => ?_)
    · simp only [c_impl_denominators_cancels, canR, hx, Bool.true_or]
    · refine ⟨f0, f1, by omega, ?_⟩
      have hil : ∀ i : Int, 0 ≤ i → i < (intoR w.1 (w.1.2.1.getD f.toNat 0)).length → 0 ≤ (intoR w.1 (w.1.2.1.getD f.toNat 0)).getD i.toNat 0 ∧ (intoR w.1 (w.1.2.1.getD f.toNat 0)).getD i.toNat 0 < w.1.2.1.length := fun i i0 i1 => by
        have := intod_mem.1 (getD_mem _ 0 i0 i1); exact ⟨this.1, by omega⟩
      have hi40 : (intoR w.1 (w.1.2.1.getD f.toNat 0)).length ≤ 40 := by
        have := @sel_len (fun g => w.1.2.2.1.getD g.toNat 0 == w.1.2.1.getD f.toNat 0) w.1.2.2.1.length
        unfold intoR; omega
      generalize intoR w.1 (w.1.2.1.getD f.toNat 0) = l2 at *
      refine loop_any l2 0 (cnBR w f g) ?_ ?_
      · intro i next2 i0 i1 ht hf _
        try dsimp only at hf ⊢
        obtain ⟨v0, v1⟩ := hil i i0 i1
        have hrv := S.row _ v0 v1
        refine cnd_d (fun _ => ⟨i0, i1, v0, by omega, fun _ => ⟨by omega, f0, by omega, v0⟩, fun _ => ⟨by omega, g0, by omega, v0⟩, ?_⟩) (fun h => absurd i1 h)
        refine cnd_of (fun hb => ?_) (fun hb => ⟨by rw [inK64]; (try dsimp only); omega, hf hb⟩)
        have h2 := ht hb
        rw [hB] at h2
        simp only [c_impl_denominators_cancels, canR, h2, Bool.or_true]
      · intro next2 ha _
        refine cnd_d (fun h => absurd h (Int.lt_irrefl _)) (fun _ => ?_)
        rw [hB] at ha
        simp only [c_impl_denominators_cancels, canR, hx, ha, Bool.or_false]
theorem ct_impl_denominators_cancels : CtOk Try.prog 111 c_impl_denominators_cancels :=
  ct_by (Φ := lkp [(138, c_impl_Category_into), (87, c_impl_Category_outOf), (89, c_impl_Category_then)]) (good_cons ct_impl_Category_into (good_cons ct_impl_Category_outOf (good_cons ct_impl_Category_then good_nil))) tab_ok (by kernel_rfl) (fn := Try.f111) (c := bodyOf Try.f111) (by kernel_rfl) (by kernel_rfl) (by kernel_rfl) c_impl_denominators_cancels rfl (.s .n (.s .n (.s .n (.s (.s .n (.l [(8, (.d .bool)), (27, (.d (.int .i64)))] [] [0, 1, 2, 7, 25, 26] .n)) (.s .n (.s (.s .n (.l [(65, (.d (.int .i64)))] [] [0, 1, 2, 7, 63, 64] .n)) .n)))))) (cutL []) (by kernel_rfl) (by kernel_rfl) k_impl_denominators_cancels (by decide) (fun x K => W_impl_denominators_cancels x.1 x.2.1 x.2.2.1 K) w_impl_denominators_cancels (fun x h1 h2 => m_impl_denominators_cancels x.1 x.2.1 x.2.2.1 h1 h2)
def idR (c : CategoryD) (f : Int) : Bool := c.2.2.2.1.getD (c.2.1.getD f.toNat 0).toNat 0 == f

def c_impl_Category_isIdentity : Ct := ⟨[(.pt CategoryT), (.int .i64)], [false, false], fun x => [ShapeP x.1, 0 ≤ x.2.1, x.2.1 < x.1.2.1.length], [(false, (.fz .bool))], fun x => (idR x.1 x.2.1, ()), false, none⟩
def W_impl_Category_isIdentity (c : CategoryD) (f : Int) (K : Bool × Unit → Prop) : Prop := (((0 : Int) ≤ f) ∧ ((f < (((List.length c.2.1) : Nat) : Int)) ∧ (((0 : Int) ≤ (List.getD c.2.1 (Int.toNat f) (0 : Int))) ∧ (((List.getD c.2.1 (Int.toNat f) (0 : Int)) < (((List.length c.2.2.2.1) : Nat) : Int)) ∧ (K (((List.getD c.2.2.2.1 (Int.toNat (List.getD c.2.1 (Int.toNat f) (0 : Int))) (0 : Int)) == f), ()))))))
theorem w_impl_Category_isIdentity (x : denL c_impl_Category_isIdentity.args) (K : Bool × Unit → Prop) : evF tab (lkp []) (cutL [(1, 16)]) Try.f136 (bodyOf Try.f136) .n c_impl_Category_isIdentity x K = W_impl_Category_isIdentity x.1 x.2.1 K := by kernel_rfl
theorem k_impl_Category_isIdentity : okC Try.f136.ntmps (cutL [(1, 16)]) (bodyOf Try.f136) = true := by kernel_rfl
theorem m_impl_Category_isIdentity (c : CategoryD) (f : Int) (hok : allP (okL c_impl_Category_isIdentity.args (c, f, ()))) (hpre : allP (c_impl_Category_isIdentity.pre (c, f, ()))) : W_impl_Category_isIdentity c f (fun r => r = c_impl_Category_isIdentity.res (c, f, ())) := by
  simp only [c_impl_Category_isIdentity, okL, T.oks, T.ok, ap, allP, true_and, and_true, implies_true] at hok hpre
  try dsimp only [T.den] at hok
  try dsimp only [T.den] at hpre
  unfold W_impl_Category_isIdentity
  have S : ShapeP c := hpre.1
  have a := S.frm hpre.2.1 hpre.2.2
  have := S.li
  exact ⟨hpre.2.1, hpre.2.2, a.1, by omega, rfl⟩
theorem ct_impl_Category_isIdentity : CtOk Try.prog 136 c_impl_Category_isIdentity :=
  ct_by (Φ := lkp []) good_nil tab_ok (by kernel_rfl) (fn := Try.f136) (c := bodyOf Try.f136) (by kernel_rfl) (by kernel_rfl) (by kernel_rfl) c_impl_Category_isIdentity rfl .n (cutL [(1, 16)]) (by kernel_rfl) (by kernel_rfl) k_impl_Category_isIdentity (by decide) (fun x K => W_impl_Category_isIdentity x.1 x.2.1 K) w_impl_Category_isIdentity (fun x h1 h2 => m_impl_Category_isIdentity x.1 x.2.1 h1 h2)
def c_spec_l01Has : Ct := ⟨[(.sl (.int .i64)), (.int .i64)], [false, false], fun x => [], [(false, (.fz .bool))], fun x => (hasR x.1 x.2.1, ()), false, none⟩
def W_spec_l01Has (list : List Int) (n : Int) (K : Bool × Unit → Prop) : Prop := (loopW (S := ((Int × Unit) × Unit)) (fun s => (fun next => ((inK IntKind.i64 s.1.1) → (cnd (decide (s.1.1 < (((List.length list) : Nat) : Int))) (((0 : Int) ≤ s.1.1) ∧ ((s.1.1 < (((List.length list) : Nat) : Int)) ∧ (cnd ((List.getD list (Int.toNat s.1.1) (0 : Int)) == n) (K (Bool.true, ())) ((inK IntKind.i64 (s.1.1 + (1 : Int))) ∧ (next (((s.1.1 + (1 : Int)), ()), ())))))) (K (Bool.false, ())))))) (((0 : Int), ()), ()))
theorem w_spec_l01Has (x : denL c_spec_l01Has.args) (K : Bool × Unit → Prop) : evF tab (lkp []) (cutL []) Try.f129 (bodyOf Try.f129) (.s .n (.s (.s .n (.l [(5, (.d (.int .i64)))] [] [0, 1] .n)) .n)) c_spec_l01Has x K = W_spec_l01Has x.1 x.2.1 K := by kernel_rfl
theorem k_spec_l01Has : okC Try.f129.ntmps (cutL []) (bodyOf Try.f129) = true := by kernel_rfl
theorem m_spec_l01Has (list : List Int) (n : Int) (hok : allP (okL c_spec_l01Has.args (list, n, ()))) (hpre : allP (c_spec_l01Has.pre (list, n, ()))) : W_spec_l01Has list n (fun r => r = c_spec_l01Has.res (list, n, ())) := by
  simp only [c_spec_l01Has, okL, T.oks, T.ok, ap, allP, true_and, and_true, implies_true] at hok hpre
  try dsimp only [T.den] at hok
  try dsimp only [T.den] at hpre
  unfold W_spec_l01Has
  refine loop_of (fun (s : ((Int × Unit) × Unit)) => 0 ≤ s.1.1 ∧ s.1.1 ≤ list.length ∧ hasR list n = hasR (list.drop s.1.1.toNat) n) (fun (s : ((Int × Unit) × Unit)) => (list.length - s.1.1).toNat) ?_ (by simp)
  rintro ⟨⟨i, _⟩, _⟩ next ⟨h0, h1, h2⟩ hn hin
  simp only at h0 h1 h2 hn ⊢
  refine cnd_d (fun hc => ?_) (fun hc => ?_)
  · rw [drop_c list 0 h0 hc] at h2
    simp only [hasR, List.any_cons] at h2
    grind [cnd, nb_eq, inK64, c_spec_l01Has, hasR]
  · rw [drop_n list (by omega)] at h2
    grind [cnd, nb_eq, inK64, c_spec_l01Has, hasR]
theorem ct_spec_l01Has : CtOk Try.prog 129 c_spec_l01Has :=
  ct_by (Φ := lkp []) good_nil tab_ok (by kernel_rfl) (fn := Try.f129) (c := bodyOf Try.f129) (by kernel_rfl) (by kernel_rfl) (by kernel_rfl) c_spec_l01Has rfl (.s .n (.s (.s .n (.l [(5, (.d (.int .i64)))] [] [0, 1] .n)) .n)) (cutL []) (by kernel_rfl) (by kernel_rfl) k_spec_l01Has (by decide) (fun x K => W_spec_l01Has x.1 x.2.1 K) w_spec_l01Has (fun x h1 h2 => m_spec_l01Has x.1 x.2.1 h1 h2)
def bestSt (c : CategoryD) (l : List Int) (b x : Int) : Int := if hasR l (c.2.2.2.1.getD x.toNat 0) = false ∧ (b < 0 ∨ c.2.2.2.1.getD x.toNat 0 < b) then c.2.2.2.1.getD x.toNat 0 else b
def bestN (c : CategoryD) (l : List Int) : Nat → Int
  | 0 => -1
  | n + 1 => bestSt c l (bestN c l n) n
def cl1R (c : CategoryD) (l : List Int) (i j : Int) : Option (Int × Int × Int) := if c.2.2.1.getD (l.getD i.toNat 0).toNat 0 = c.2.1.getD (l.getD j.toNat 0).toNat 0 ∧ hasR l (compR c (l.getD i.toNat 0) (l.getD j.toNat 0)) = false then some (1, l.getD i.toNat 0, l.getD j.toNat 0) else none
def cl2R (c : CategoryD) (l : List Int) (i : Int) : Option (Int × Int × Int) := scanR (cl1R c l i) l.length 0
def closedR (c : CategoryD) (l : List Int) : Int × Int × Int := if 0 ≤ bestN c l c.1.toNat then (1, bestN c l c.1.toNat, -1) else (scanR (cl2R c l) l.length 0).getD (0, -1, -1)

def c_spec_l33Closed : Ct := ⟨[CategoryT, (.sl (.int .i64))], [true, false], fun x => [ShapeP x.1, withinR x.2.1 x.1.2.1.length = true], [(false, (.fz (.int .i64))), (false, (.fz (.int .i64))), (false, (.fz (.int .i64)))], fun x => ((closedR x.1 x.2.1).1, (closedR x.1 x.2.1).2.1, (closedR x.1 x.2.1).2.2, ()), false, none⟩
def W_spec_l33Closed (c : CategoryD) (w : List Int) (K : Int × Int × Int × Unit → Prop) : Prop := (loopW (S := ((Int × (Int × Unit)) × Unit)) (fun s => (fun next => ((inK IntKind.i64 s.1.1) → ((inK IntKind.i64 s.1.2.1) → (cnd (decide (s.1.2.1 < c.1)) (((0 : Int) ≤ s.1.2.1) ∧ ((s.1.2.1 < (((List.length c.2.2.2.1) : Nat) : Int)) ∧ (((((!(hasR w (List.getD c.2.2.2.1 (Int.toNat s.1.2.1) (0 : Int)))) = Bool.true) ∧ ((decide (s.1.1 < (0 : Int))) = Bool.false)) → ((s.1.2.1 < (((List.length c.2.2.2.1) : Nat) : Int)) ∧ ((0 : Int) ≤ s.1.2.1))) ∧ (joinW (S := ((Int × Unit) × Unit)) (fun s1 => ((inK IntKind.i64 s1.1.1) → ((inK IntKind.i64 (s.1.2.1 + (1 : Int))) ∧ (next ((s1.1.1, ((s.1.2.1 + (1 : Int)), ())), ()))))) (fun k => (cnd ((!(hasR w (List.getD c.2.2.2.1 (Int.toNat s.1.2.1) (0 : Int)))) && ((decide (s.1.1 < (0 : Int))) || (decide ((List.getD c.2.2.2.1 (Int.toNat s.1.2.1) (0 : Int)) < s.1.1)))) (((0 : Int) ≤ s.1.2.1) ∧ ((s.1.2.1 < (((List.length c.2.2.2.1) : Nat) : Int)) ∧ (k (((List.getD c.2.2.2.1 (Int.toNat s.1.2.1) (0 : Int)), ()), ())))) (k ((s.1.1, ()), ())))))))) (cnd (decide ((0 : Int) ≤ s.1.1)) (K ((1 : Int), (s.1.1, ((-(1 : Int)), ())))) (loopW (S := ((Int × Unit) × Unit)) (fun s1 => (fun next1 => ((inK IntKind.i64 s1.1.1) → (cnd (decide (s1.1.1 < (((List.length w) : Nat) : Int))) (loopW (S := ((Int × Unit) × Unit)) (fun s2 => (fun next2 => ((inK IntKind.i64 s2.1.1) → (cnd (decide (s2.1.1 < (((List.length w) : Nat) : Int))) (((0 : Int) ≤ s1.1.1) ∧ ((s1.1.1 < (((List.length w) : Nat) : Int)) ∧ (((0 : Int) ≤ (List.getD w (Int.toNat s1.1.1) (0 : Int))) ∧ (((List.getD w (Int.toNat s1.1.1) (0 : Int)) < (((List.length c.2.2.1) : Nat) : Int)) ∧ (((0 : Int) ≤ s2.1.1) ∧ ((s2.1.1 < (((List.length w) : Nat) : Int)) ∧ (((0 : Int) ≤ (List.getD w (Int.toNat s2.1.1) (0 : Int))) ∧ (((List.getD w (Int.toNat s2.1.1) (0 : Int)) < (((List.length c.2.1) : Nat) : Int)) ∧ (((((List.getD c.2.2.1 (Int.toNat (List.getD w (Int.toNat s1.1.1) (0 : Int))) (0 : Int)) == (List.getD c.2.1 (Int.toNat (List.getD w (Int.toNat s2.1.1) (0 : Int))) (0 : Int))) = Bool.true) → ((s1.1.1 < (((List.length w) : Nat) : Int)) ∧ ((0 : Int) ≤ s1.1.1))) ∧ (((((List.getD c.2.2.1 (Int.toNat (List.getD w (Int.toNat s1.1.1) (0 : Int))) (0 : Int)) == (List.getD c.2.1 (Int.toNat (List.getD w (Int.toNat s2.1.1) (0 : Int))) (0 : Int))) = Bool.true) → ((s2.1.1 < (((List.length w) : Nat) : Int)) ∧ ((0 : Int) ≤ s2.1.1))) ∧ (((((List.getD c.2.2.1 (Int.toNat (List.getD w (Int.toNat s1.1.1) (0 : Int))) (0 : Int)) == (List.getD c.2.1 (Int.toNat (List.getD w (Int.toNat s2.1.1) (0 : Int))) (0 : Int))) = Bool.true) → (((List.getD w (Int.toNat s1.1.1) (0 : Int)) < (((List.length c.2.2.2.2) : Nat) : Int)) ∧ (((0 : Int) ≤ (List.getD w (Int.toNat s2.1.1) (0 : Int))) ∧ (((List.getD w (Int.toNat s2.1.1) (0 : Int)) < (((List.length (List.getD c.2.2.2.2 (Int.toNat (List.getD w (Int.toNat s1.1.1) (0 : Int))) ([] : List Int))) : Nat) : Int)) ∧ ((0 : Int) ≤ (List.getD w (Int.toNat s1.1.1) (0 : Int))))))) ∧ (cnd (((List.getD c.2.2.1 (Int.toNat (List.getD w (Int.toNat s1.1.1) (0 : Int))) (0 : Int)) == (List.getD c.2.1 (Int.toNat (List.getD w (Int.toNat s2.1.1) (0 : Int))) (0 : Int))) && (!(hasR w (compR c (List.getD w (Int.toNat s1.1.1) (0 : Int)) (List.getD w (Int.toNat s2.1.1) (0 : Int)))))) (((0 : Int) ≤ s1.1.1) ∧ ((s1.1.1 < (((List.length w) : Nat) : Int)) ∧ (((0 : Int) ≤ s2.1.1) ∧ ((s2.1.1 < (((List.length w) : Nat) : Int)) ∧ (K ((1 : Int), ((List.getD w (Int.toNat s1.1.1) (0 : Int)), ((List.getD w (Int.toNat s2.1.1) (0 : Int)), ())))))))) ((inK IntKind.i64 (s2.1.1 + (1 : Int))) ∧ (next2 (((s2.1.1 + (1 : Int)), ()), ()))))))))))))))) ((inK IntKind.i64 (s1.1.1 + (1 : Int))) ∧ (next1 (((s1.1.1 + (1 : Int)), ()), ()))))))) (((0 : Int), ()), ())) (K ((0 : Int), ((-(1 : Int)), ((-(1 : Int)), ())))))))) (((0 : Int), ()), ())))))))) (((-(1 : Int)), ((0 : Int), ())), ()))
theorem w_spec_l33Closed (x : denL c_spec_l33Closed.args) (K : Int × Int × Int × Unit → Prop) : evF tab (lkp [(129, c_spec_l01Has), (82, c_spec_l02Then)]) (cutL [(16, 10), (15, 29)]) Try.f102 (bodyOf Try.f102) (.s .n (.s .n (.s (.s .n (.l [(7, (.d (.int .i64))), (8, (.d (.int .i64)))] [] [1, 2] (.s .n (.s (.s .n (.j [(7, (.d (.int .i64)))] [] [1, 2, 8] .n)) .n)))) (.s .n (.s (.s .n (.l [(9, (.d (.int .i64)))] [] [1, 2] (.s .n (.s (.s .n (.l [(10, (.d (.int .i64)))] [] [1, 2, 9] .n)) .n)))) .n))))) c_spec_l33Closed x K = W_spec_l33Closed x.1 x.2.1 K := by kernel_rfl
theorem k_spec_l33Closed : okC Try.f102.ntmps (cutL [(16, 10), (15, 29)]) (bodyOf Try.f102) = true := by kernel_rfl
theorem m_spec_l33Closed (c : CategoryD) (w : List Int) (hok : allP (okL c_spec_l33Closed.args (c, w, ()))) (hpre : allP (c_spec_l33Closed.pre (c, w, ()))) : W_spec_l33Closed c w (fun r => r = c_spec_l33Closed.res (c, w, ())) := by
  simp only [c_spec_l33Closed, okL, T.oks, T.ok, ap, allP, true_and, and_true, implies_true] at hok hpre
  try dsimp only [T.den] at hok
  try dsimp only [T.den] at hpre
  unfold W_spec_l33Closed
  obtain ⟨S, hw⟩ := hpre
  have hl : w.length ≤ 140737488355328 := by simp only [nb_eq] at hok; omega
  clear hok
  have hm := S.m
  have hlt := S.lt
  have hlc := S.lc
  have hob := S.ob
  have hli := S.li
  have resq : ∀ a b d, closedR c w = (a, b, d) → (a, b, d, ()) = c_spec_l33Closed.res (c, w, ()) := fun a b d h => by simp only [c_spec_l33Closed, h]
  have hbr : ∀ n : Nat, n ≤ c.1.toNat → -1 ≤ bestN c w n ∧ bestN c w n < 40 := fun n => by
    induction n with
    | zero => intro _; simp only [bestN]; decide
    | succ n ih =>
      intro h
      have h1 := ih (by omega)
      have h2 := S.idn (x := (n : Int)) (by omega) (by omega)
      simp only [bestN, bestSt]
      split
      · exact ⟨by omega, by omega⟩
      · exact h1
  refine loop_ixc (fun x => bestN c w x.toNat) (n := c.1) hob.1 rfl ?_ ?_
  · intro x next x0 x1 hn _ _
    try dsimp only at hn ⊢
    have hid := S.idn x0 x1
    have hs : bestN c w (x + 1).toNat = bestSt c w (bestN c w x.toNat) x := by
      rw [show (x + 1).toNat = x.toNat + 1 by omega, bestN, Int.toNat_of_nonneg x0]
    rw [hs] at hn
    refine cnd_d (fun _ => ⟨x0, by omega, fun _ => ⟨by omega, x0⟩, join_of (fun (s : ((Int × Unit) × Unit)) => s.1.1 = bestSt c w (bestN c w x.toNat) x) (fun s hs _ => ⟨by rw [inK64]; (try dsimp only); omega, by rw [hs]; exact hn⟩) (fun k hk => ?_)⟩) (fun h => absurd x1 h)
    refine cnd_of (fun hx => ⟨x0, by omega, hk _ ?_⟩) (fun hx => hk _ ?_)
    · unfold bestSt; rw [if_pos]; simpa using hx
    · unfold bestSt; rw [if_neg]; simpa using hx
  · intro next _ _
    refine cnd_d (fun h => absurd h (Int.lt_irrefl _)) (fun _ => ?_)
    try dsimp only
    refine cnd_d (fun hx => resq _ _ _ (by unfold closedR; rw [if_pos hx])) (fun hx => ?_)
    have hc : closedR c w = (scanR (cl2R c w) w.length 0).getD (0, -1, -1) := by unfold closedR; rw [if_neg hx]
    refine loop_ix (n := w.length) (fun i => scanR (cl2R c w) w.length 0 = scanR (cl2R c w) ((w.length : Int) - i).toNat i) (by omega) scan_0 ?_ ?_
    · intro i next2 i0 i1 hP hn2 _
      try dsimp only at hn2 ⊢
      obtain ⟨a0, a1⟩ := within_iff.1 hw i i0 i1
      have hra := S.row _ a0 a1
      refine cnd_d (fun _ => ?_) (fun h => absurd i1 h)
      refine loop_ix (n := w.length) (fun j => cl2R c w i = scanR (cl1R c w i) ((w.length : Int) - j).toNat j) (by omega) scan_0 ?_ ?_
      · intro j next3 j0 j1 hP3 hn3 _
        try dsimp only at hn3 ⊢
        obtain ⟨b0, b1⟩ := within_iff.1 hw j j0 j1
        refine cnd_d (fun _ => ⟨i0, i1, a0, by omega, j0, j1, b0, b1, fun _ => ⟨i1, i0⟩, fun _ => ⟨j1, j0⟩, fun _ => ⟨by omega, b0, by omega, a0⟩, cnd_of (fun hx => ⟨i0, i1, j0, j1, resq _ _ _ ?_⟩) (fun hx => ⟨by rw [inK64]; (try dsimp only); omega, hn3 ?_⟩)⟩) (fun h => absurd j1 h)
        · have : cl1R c w i j = some (1, w.getD i.toNat 0, w.getD j.toNat 0) := by unfold cl1R; rw [if_pos]; simpa using hx
          have e1 : cl2R c w i = some (1, w.getD i.toNat 0, w.getD j.toNat 0) := by rw [hP3, scan_s j1 this]
          rw [hc, hP, scan_s i1 e1]; rfl
        · have : cl1R c w i j = none := by unfold cl1R; rw [if_neg]; simpa using hx
          rw [hP3, scan_c j1 this]
      · intro next3 hP3 _
        rw [scan_n] at hP3
        exact cnd_d (fun h => absurd h (Int.lt_irrefl _)) (fun _ => ⟨by rw [inK64]; (try dsimp only); omega, hn2 (by rw [hP, scan_c i1 hP3])⟩)
    · intro next2 hP _
      rw [scan_n] at hP
      exact cnd_d (fun h => absurd h (Int.lt_irrefl _)) (fun _ => resq _ _ _ (by rw [hc, hP]; rfl))
theorem ct_spec_l33Closed : CtOk Try.prog 102 c_spec_l33Closed :=
  ct_by (Φ := lkp [(129, c_spec_l01Has), (82, c_spec_l02Then)]) (good_cons ct_spec_l01Has (good_cons ct_spec_l02Then good_nil)) tab_ok (by kernel_rfl) (fn := Try.f102) (c := bodyOf Try.f102) (by kernel_rfl) (by kernel_rfl) (by kernel_rfl) c_spec_l33Closed rfl (.s .n (.s .n (.s (.s .n (.l [(7, (.d (.int .i64))), (8, (.d (.int .i64)))] [] [1, 2] (.s .n (.s (.s .n (.j [(7, (.d (.int .i64)))] [] [1, 2, 8] .n)) .n)))) (.s .n (.s (.s .n (.l [(9, (.d (.int .i64)))] [] [1, 2] (.s .n (.s (.s .n (.l [(10, (.d (.int .i64)))] [] [1, 2, 9] .n)) .n)))) .n))))) (cutL [(16, 10), (15, 29)]) (by kernel_rfl) (by kernel_rfl) k_spec_l33Closed (by decide) (fun x K => W_spec_l33Closed x.1 x.2.1 K) w_spec_l33Closed (fun x h1 h2 => m_spec_l33Closed x.1 x.2.1 h1 h2)
def closFR (w : CategoryD × List Int × List Bool) : Int × Int × Bool := if (closedR w.1 w.2.1).1 = 0 then (0, 0, false) else ((closedR w.1 w.2.1).2.1, (closedR w.1 w.2.1).2.2, true)
theorem best_p {c : CategoryD} {l : List Int} (S : ShapeP c) : ∀ {n : Nat}, (n : Int) ≤ c.1 → (bestN c l n = -1 ∧ ∀ x : Int, 0 ≤ x → x < n → hasR l (c.2.2.2.1.getD x.toNat 0) = true) ∨ (0 ≤ bestN c l n ∧ (∃ x : Int, 0 ≤ x ∧ x < n ∧ c.2.2.2.1.getD x.toNat 0 = bestN c l n ∧ hasR l (bestN c l n) = false) ∧ ∀ x : Int, 0 ≤ x → x < n → hasR l (c.2.2.2.1.getD x.toNat 0) = false → bestN c l n ≤ c.2.2.2.1.getD x.toNat 0)
  | 0, _ => .inl ⟨rfl, fun x x0 x1 => by omega⟩
  | n + 1, h => by
    have ih := @best_p c l S n (by omega)
    have hid := S.idn (x := (n : Int)) (by omega) (by omega)
    rw [Int.toNat_natCast] at hid
    have hlast : ∀ x : Int, x < (n + 1 : Nat) → x < n ∨ x = n := fun x hx => by omega
    rw [bestN]
    unfold bestSt
    rw [Int.toNat_natCast]
    cases hh : hasR l (c.2.2.2.1.getD n 0) with
    | true =>
      rw [if_neg (by simp)]
      rcases ih with ⟨h1, h2⟩ | ⟨h1, ⟨x, x0, x1, x2, x3⟩, h3⟩
      · exact .inl ⟨h1, fun x x0 x1 => (hlast x x1).elim (h2 x x0) fun e => by rw [e, Int.toNat_natCast]; exact hh⟩
      · exact .inr ⟨h1, ⟨x, x0, by omega, x2, x3⟩, fun x x0 x1 hx => (hlast x x1).elim (fun h => h3 x x0 h hx) fun e => by rw [e, Int.toNat_natCast, hh] at hx; cases hx⟩
    | false =>
      rcases ih with ⟨h1, h2⟩ | ⟨h1, ⟨x, x0, x1, x2, x3⟩, h3⟩
      · rw [if_pos ⟨rfl, .inl (by omega)⟩]
        exact .inr ⟨hid.1, ⟨n, by omega, by omega, by rw [Int.toNat_natCast], hh⟩, fun x x0 x1 hx => (hlast x x1).elim (fun h => by rw [h2 x x0 h] at hx; cases hx) fun e => by rw [e, Int.toNat_natCast]; exact Int.le_refl _⟩
      · by_cases hlt : c.2.2.2.1.getD n 0 < bestN c l n
        · rw [if_pos ⟨rfl, .inr hlt⟩]
          exact .inr ⟨hid.1, ⟨n, by omega, by omega, by rw [Int.toNat_natCast], hh⟩, fun x x0 x1 hx => (hlast x x1).elim (fun h => by have := h3 x x0 h hx; omega) fun e => by rw [e, Int.toNat_natCast]; exact Int.le_refl _⟩
        · rw [if_neg (by rintro ⟨_, h | h⟩ <;> omega)]
          exact .inr ⟨h1, ⟨x, x0, by omega, x2, x3⟩, fun x x0 x1 hx => (hlast x x1).elim (fun h => h3 x x0 h hx) fun e => by rw [e, Int.toNat_natCast]; omega⟩
theorem idd_iff {c : CategoryD} {f : Int} : idR c f = true ↔ c.2.2.2.1.getD (c.2.1.getD f.toNat 0).toNat 0 = f := by
  unfold idR; rw [beq_iff_eq]

def c_impl_denominators_closedFault : Ct := ⟨[(.pt denominatorsT)], [false], fun x => [DenP x.1], [(false, (.fz (.int .i64))), (false, (.fz (.int .i64))), (false, (.fz .bool))], fun x => ((closFR x.1).1, (closFR x.1).2.1, (closFR x.1).2.2, ()), false, none⟩
def W_impl_denominators_closedFault (w : T.den denominatorsT) (K : Int × Int × Bool × Unit → Prop) : Prop := (loopW (S := ((Int × Unit) × Unit)) (fun s => (fun next => ((inK IntKind.i64 s.1.1) → (cnd (decide (s.1.1 < (((List.length w.1.2.1) : Nat) : Int))) ((ShapeP w.1) ∧ (((0 : Int) ≤ s.1.1) ∧ ((s.1.1 < (((List.length w.1.2.1) : Nat) : Int)) ∧ ((((idR w.1 s.1.1) = Bool.true) → ((s.1.1 < (((List.length w.2.2) : Nat) : Int)) ∧ ((0 : Int) ≤ s.1.1))) ∧ (cnd ((idR w.1 s.1.1) && (!(List.getD w.2.2 (Int.toNat s.1.1) Bool.false))) (K (s.1.1, ((-(1 : Int)), (Bool.true, ())))) ((inK IntKind.i64 (s.1.1 + (1 : Int))) ∧ (next (((s.1.1 + (1 : Int)), ()), ())))))))) (loopW (S := ((Int × Unit) × Unit)) (fun s1 => (fun next1 => ((inK IntKind.i64 s1.1.1) → (cnd (decide (s1.1.1 < (((List.length w.2.1) : Nat) : Int))) (((0 : Int) ≤ s1.1.1) ∧ ((s1.1.1 < (((List.length w.2.1) : Nat) : Int)) ∧ (loopW (S := ((Int × Unit) × Unit)) (fun s2 => (fun next2 => ((inK IntKind.i64 s2.1.1) → (cnd (decide (s2.1.1 < (((List.length w.2.1) : Nat) : Int))) (((0 : Int) ≤ s2.1.1) ∧ ((s2.1.1 < (((List.length w.2.1) : Nat) : Int)) ∧ (((0 : Int) ≤ (List.getD w.2.1 (Int.toNat s1.1.1) (0 : Int))) ∧ (((List.getD w.2.1 (Int.toNat s1.1.1) (0 : Int)) < (((List.length w.1.2.2.2.2) : Nat) : Int)) ∧ (((0 : Int) ≤ (List.getD w.2.1 (Int.toNat s2.1.1) (0 : Int))) ∧ (((List.getD w.2.1 (Int.toNat s2.1.1) (0 : Int)) < (((List.length (List.getD w.1.2.2.2.2 (Int.toNat (List.getD w.2.1 (Int.toNat s1.1.1) (0 : Int))) ([] : List Int))) : Nat) : Int)) ∧ ((((decide ((0 : Int) ≤ (compR w.1 (List.getD w.2.1 (Int.toNat s1.1.1) (0 : Int)) (List.getD w.2.1 (Int.toNat s2.1.1) (0 : Int))))) = Bool.true) → (((compR w.1 (List.getD w.2.1 (Int.toNat s1.1.1) (0 : Int)) (List.getD w.2.1 (Int.toNat s2.1.1) (0 : Int))) < (((List.length w.2.2) : Nat) : Int)) ∧ ((0 : Int) ≤ (compR w.1 (List.getD w.2.1 (Int.toNat s1.1.1) (0 : Int)) (List.getD w.2.1 (Int.toNat s2.1.1) (0 : Int)))))) ∧ (cnd ((decide ((0 : Int) ≤ (compR w.1 (List.getD w.2.1 (Int.toNat s1.1.1) (0 : Int)) (List.getD w.2.1 (Int.toNat s2.1.1) (0 : Int))))) && (!(List.getD w.2.2 (Int.toNat (compR w.1 (List.getD w.2.1 (Int.toNat s1.1.1) (0 : Int)) (List.getD w.2.1 (Int.toNat s2.1.1) (0 : Int)))) Bool.false))) (K ((List.getD w.2.1 (Int.toNat s1.1.1) (0 : Int)), ((List.getD w.2.1 (Int.toNat s2.1.1) (0 : Int)), (Bool.true, ())))) ((inK IntKind.i64 (s2.1.1 + (1 : Int))) ∧ (next2 (((s2.1.1 + (1 : Int)), ()), ()))))))))))) ((inK IntKind.i64 (s1.1.1 + (1 : Int))) ∧ (next1 (((s1.1.1 + (1 : Int)), ()), ()))))))) (((0 : Int), ()), ())))) (K ((0 : Int), ((0 : Int), (Bool.false, ())))))))) (((0 : Int), ()), ())))))) (((0 : Int), ()), ()))
theorem w_impl_denominators_closedFault (x : denL c_impl_denominators_closedFault.args) (K : Int × Int × Bool × Unit → Prop) : evF tab (lkp [(136, c_impl_Category_isIdentity), (89, c_impl_Category_then)]) (cutL []) Try.f108 (bodyOf Try.f108) (.s .n (.s (.s .n (.l [(19, (.d (.int .i64)))] [] [0, 18] .n)) (.s (.s .n (.l [(45, (.d (.int .i64)))] [] [0, 43, 44] (.s .n (.s .n (.s (.s .n (.s .n (.l [(54, (.d (.int .i64)))] [] [0, 7, 43, 44, 45, 52, 53] .n))) .n))))) .n))) c_impl_denominators_closedFault x K = W_impl_denominators_closedFault x.1 K := by kernel_rfl
theorem k_impl_denominators_closedFault : okC Try.f108.ntmps (cutL []) (bodyOf Try.f108) = true := by kernel_rfl
theorem m_impl_denominators_closedFault (w : T.den denominatorsT) (hok : allP (okL c_impl_denominators_closedFault.args (w, ()))) (hpre : allP (c_impl_denominators_closedFault.pre (w, ()))) : W_impl_denominators_closedFault w (fun r => r = c_impl_denominators_closedFault.res (w, ())) := by
  simp only [c_impl_denominators_closedFault, okL, T.oks, T.ok, ap, allP, true_and, and_true, implies_true] at hok hpre
  try dsimp only [T.den] at hok
  try dsimp only [T.den] at hpre
  unfold W_impl_denominators_closedFault
  have D : DenP w := hpre
  have hl : w.2.1.length ≤ 140737488355328 := by simp only [nb_eq] at hok; omega
  clear hok hpre
  have S := D.sh
  have hm := S.m
  have hlt := S.lt
  have hlc := S.lc
  have hob := S.ob
  have hlm := D.len
  have hN : ((w.1.1.toNat : Nat) : Int) = w.1.1 := by omega
  have hB := @best_p w.1 w.2.1 S w.1.1.toNat (by omega)
  rw [hN] at hB
  have hc1 : 0 ≤ bestN w.1 w.2.1 w.1.1.toNat → closedR w.1 w.2.1 = (1, bestN w.1 w.2.1 w.1.1.toNat, -1) := fun h => by unfold closedR; rw [if_pos h]
  have hc2 : bestN w.1 w.2.1 w.1.1.toNat = -1 → closedR w.1 w.2.1 = (scanR (cl2R w.1 w.2.1) w.2.1.length 0).getD (0, -1, -1) := fun h => by unfold closedR; rw [if_neg (by omega)]
  generalize bestN w.1 w.2.1 w.1.1.toNat = b at *
  have resq : ∀ a d, closedR w.1 w.2.1 = (1, a, d) → (a, d, true, ()) = c_impl_denominators_closedFault.res (w, ()) := fun a d h => by simp only [c_impl_denominators_closedFault, closFR, h]; rfl
  have resn : ∀ a d, closedR w.1 w.2.1 = (0, a, d) → (0, 0, false, ()) = c_impl_denominators_closedFault.res (w, ()) := fun a d h => by simp only [c_impl_denominators_closedFault, closFR, h]; rfl
  refine loop_ix (n := w.1.2.1.length) (fun f => ∀ k : Int, 0 ≤ k → k < f → idR w.1 k = true → hasR w.2.1 k = true) (by omega) (fun k k0 k1 => by omega) ?_ ?_
  · intro f next f0 f1 hP hn _
    try dsimp only at hn ⊢
    have hfr := S.frm f0 f1
    have hg := D.get f0 f1
    refine cnd_d (fun _ => ⟨S, f0, f1, fun _ => ⟨by omega, f0⟩, ?_⟩) (fun h => absurd f1 h)
    rw [hg]
    refine cnd_of (fun hx => ?_) (fun hx => ⟨by rw [inK64]; (try dsimp only); omega, hn fun k k0 k1 hk => ?_⟩)
    · rw [Bool.and_eq_true, Bool.not_eq_true'] at hx
      have hid := idd_iff.1 hx.1
      rcases hB with ⟨h1, h2⟩ | ⟨h1, ⟨x, x0, x1, x2, x3⟩, h3⟩
      · have := h2 _ hfr.1 hfr.2.1
        rw [hid, hx.2] at this; cases this
      · have h4 := h3 _ hfr.1 hfr.2.1 (by rw [hid]; exact hx.2)
        rw [hid] at h4
        have hbx := S.idn x0 x1
        rw [x2] at hbx
        have h5 : ¬ b < f := fun h => by
          have := hP b h1 h (idd_iff.2 (by rw [hbx.2.2.1]; exact x2))
          rw [x3] at this; cases this
        have : b = f := by omega
        exact resq _ _ (by rw [hc1 h1, this])
    · by_cases e : k = f
      · subst e
        rw [hk, Bool.true_and] at hx
        simpa using hx
      · exact hP k k0 (by omega) hk
  · intro next hP _
    refine cnd_d (fun h => absurd h (Int.lt_irrefl _)) (fun _ => ?_)
    have hb : b = -1 := by
      rcases hB with ⟨h1, _⟩ | ⟨h1, ⟨x, x0, x1, x2, x3⟩, _⟩
      · exact h1
      · have hbx := S.idn x0 x1
        rw [x2] at hbx
        have := hP b h1 hbx.2.1 (idd_iff.2 (by rw [hbx.2.2.1]; exact x2))
        rw [x3] at this; cases this
    have hc := hc2 hb
    refine loop_ix (n := w.2.1.length) (fun i => scanR (cl2R w.1 w.2.1) w.2.1.length 0 = scanR (cl2R w.1 w.2.1) ((w.2.1.length : Int) - i).toNat i) (by omega) scan_0 ?_ ?_
    · intro i next2 i0 i1 hP2 hn2 _
      try dsimp only at hn2 ⊢
      obtain ⟨a0, a1⟩ := within_iff.1 D.wi i i0 i1
      have hra := S.row _ a0 a1
      refine cnd_d (fun _ => ⟨i0, i1, ?_⟩) (fun h => absurd i1 h)
      refine loop_ix (n := w.2.1.length) (fun j => cl2R w.1 w.2.1 i = scanR (cl1R w.1 w.2.1 i) ((w.2.1.length : Int) - j).toNat j) (by omega) scan_0 ?_ ?_
      · intro j next3 j0 j1 hP3 hn3 _
        try dsimp only at hn3 ⊢
        obtain ⟨b0, b1⟩ := within_iff.1 D.wi j j0 j1
        have hcm := S.comp a0 a1 b0 b1
        have hye := @ShapeP.yes w.1 S _ _ a0 a1 b0 b1
        refine cnd_d (fun _ => ⟨j0, j1, a0, (by rw [hlc]; exact a1), b0, (by rw [hra]; exact b1), fun h => ?_, cnd_of (fun hx => resq _ _ ?_) (fun hx => ⟨by rw [inK64]; (try dsimp only); omega, hn3 ?_⟩)⟩) (fun h => absurd j1 h)
        · have h := of_decide_eq_true h
          have := hye (hcm.1 h)
          exact ⟨by omega, h⟩
        · rw [Bool.and_eq_true, Bool.not_eq_true', decide_eq_true_eq] at hx
          have hy := hye (hcm.1 hx.1)
          rw [D.get hy.1 hy.2.1] at hx
          have : cl1R w.1 w.2.1 i j = some (1, w.2.1.getD i.toNat 0, w.2.1.getD j.toNat 0) := by unfold cl1R; rw [if_pos ⟨hcm.1 hx.1, hx.2⟩]
          have e1 : cl2R w.1 w.2.1 i = some (1, w.2.1.getD i.toNat 0, w.2.1.getD j.toNat 0) := by rw [hP3, scan_s j1 this]
          rw [hc, hP2, scan_s i1 e1]; rfl
        · have : cl1R w.1 w.2.1 i j = none := by
            unfold cl1R; rw [if_neg]
            rintro ⟨h1, h2⟩
            have hy := hye h1
            rw [D.get hy.1 hy.2.1, h2, decide_eq_true hy.1] at hx
            cases hx
          rw [hP3, scan_c j1 this]
      · intro next3 hP3 _
        rw [scan_n] at hP3
        exact cnd_d (fun h => absurd h (Int.lt_irrefl _)) (fun _ => ⟨by rw [inK64]; (try dsimp only); omega, hn2 (by rw [hP2, scan_c i1 hP3])⟩)
    · intro next2 hP2 _
      rw [scan_n] at hP2
      exact cnd_d (fun h => absurd h (Int.lt_irrefl _)) (fun _ => resn _ _ (by rw [hc, hP2]; rfl))
theorem ct_impl_denominators_closedFault : CtOk Try.prog 108 c_impl_denominators_closedFault :=
  ct_by (Φ := lkp [(136, c_impl_Category_isIdentity), (89, c_impl_Category_then)]) (good_cons ct_impl_Category_isIdentity (good_cons ct_impl_Category_then good_nil)) tab_ok (by kernel_rfl) (fn := Try.f108) (c := bodyOf Try.f108) (by kernel_rfl) (by kernel_rfl) (by kernel_rfl) c_impl_denominators_closedFault rfl (.s .n (.s (.s .n (.l [(19, (.d (.int .i64)))] [] [0, 18] .n)) (.s (.s .n (.l [(45, (.d (.int .i64)))] [] [0, 43, 44] (.s .n (.s .n (.s (.s .n (.s .n (.l [(54, (.d (.int .i64)))] [] [0, 7, 43, 44, 45, 52, 53] .n))) .n))))) .n))) (cutL []) (by kernel_rfl) (by kernel_rfl) k_impl_denominators_closedFault (by decide) (fun x K => W_impl_denominators_closedFault x.1 K) w_impl_denominators_closedFault (fun x h1 h2 => m_impl_denominators_closedFault x.1 h1 h2)
/-- the arrows from x to y -/
def homR (c : CategoryD) (x y : Int) : List Int := selR c.2.1.length fun f => c.2.1.getD f.toNat 0 == x && c.2.2.1.getD f.toNat 0 == y
theorem hom_mem {c : CategoryD} {x y g : Int} : g ∈ homR c x y ↔ 0 ≤ g ∧ g < c.2.1.length ∧ c.2.1.getD g.toNat 0 = x ∧ c.2.2.1.getD g.toNat 0 = y := by
  unfold homR; rw [sel_mem, Bool.and_eq_true, beq_iff_eq, beq_iff_eq]

def c_impl_Category_hom : Ct := ⟨[(.pt CategoryT), (.int .i64), (.int .i64)], [false, false, false], fun x => [x.1.2.1.length ≤ 40, x.1.2.2.1.length = x.1.2.1.length], [(false, (.sl (.fz (.int .i64))))], fun x => (homR x.1 x.2.1 x.2.2.1, ()), false, none⟩
def W_impl_Category_hom (c : CategoryD) (x : Int) (y : Int) (K : (List Int) × Unit → Prop) : Prop := (loopW (S := ((Unit × (Int × Unit)) × ((List Int) × Unit))) (fun s => (fun next => ((inK IntKind.i64 s.1.2.1) → ((T.ok (T.sl (T.int IntKind.i64)) s.2.1) → (cnd (decide (s.1.2.1 < (((List.length c.2.1) : Nat) : Int))) (((0 : Int) ≤ s.1.2.1) ∧ ((s.1.2.1 < (((List.length c.2.1) : Nat) : Int)) ∧ (((((List.getD c.2.1 (Int.toNat s.1.2.1) (0 : Int)) == x) = Bool.true) → ((s.1.2.1 < (((List.length c.2.2.1) : Nat) : Int)) ∧ ((0 : Int) ≤ s.1.2.1))) ∧ (joinW (S := ((Unit × Unit) × ((List Int) × Unit))) (fun s1 => ((T.ok (T.sl (T.int IntKind.i64)) s1.2.1) → ((inK IntKind.i64 (s.1.2.1 + (1 : Int))) ∧ (next (((), ((s.1.2.1 + (1 : Int)), ())), (s1.2.1, ())))))) (fun k => (cnd (((List.getD c.2.1 (Int.toNat s.1.2.1) (0 : Int)) == x) && ((List.getD c.2.2.1 (Int.toNat s.1.2.1) (0 : Int)) == y)) ((room (List.length s.2.1) (List.length (s.1.2.1 :: ([] : List Int))) 8) ∧ (k (((), ()), ((s.2.1 ++ (s.1.2.1 :: ([] : List Int))), ())))) (k (((), ()), (s.2.1, ()))))))))) (K (s.2.1, ()))))))) (((), ((0 : Int), ())), (([] : List Int), ())))
theorem w_impl_Category_hom (x : denL c_impl_Category_hom.args) (K : (List Int) × Unit → Prop) : evF tab (lkp []) (cutL []) Try.f88 (bodyOf Try.f88) (.s .n (.s .n (.s (.s .n (.l [(7, (.ref 800007 [])), (15, (.d (.int .i64)))] [(800007, (.sl (.fz (.int .i64))))] [0, 1, 2, 14] (.s .n (.s .n (.s (.s .n (.s .n (.j [(7, (.ref 800007 []))] [(800007, (.sl (.fz (.int .i64))))] [0, 1, 2, 14, 15] .n))) .n))))) .n))) c_impl_Category_hom x K = W_impl_Category_hom x.1 x.2.1 x.2.2.1 K := by kernel_rfl
theorem k_impl_Category_hom : okC Try.f88.ntmps (cutL []) (bodyOf Try.f88) = true := by kernel_rfl
theorem m_impl_Category_hom (c : CategoryD) (x : Int) (y : Int) (hok : allP (okL c_impl_Category_hom.args (c, x, y, ()))) (hpre : allP (c_impl_Category_hom.pre (c, x, y, ()))) : W_impl_Category_hom c x y (fun r => r = c_impl_Category_hom.res (c, x, y, ())) := by
  simp only [c_impl_Category_hom, okL, T.oks, T.ok, ap, allP, true_and, and_true, implies_true] at hok hpre
  try dsimp only [T.den] at hok
  try dsimp only [T.den] at hpre
  unfold W_impl_Category_hom
  have hm : c.2.1.length ≤ 40 := hpre.1
  have hlt : c.2.2.1.length = c.2.1.length := hpre.2
  refine loop_of (fun (s : ((Unit × (Int × Unit)) × ((List Int) × Unit))) => 0 ≤ s.1.2.1 ∧ s.1.2.1 ≤ c.2.1.length ∧ s.2.1 = selR s.1.2.1.toNat fun f => c.2.1.getD f.toNat 0 == x && c.2.2.1.getD f.toNat 0 == y) (fun (s : ((Unit × (Int × Unit)) × ((List Int) × Unit))) => (c.2.1.length - s.1.2.1).toNat) ?_ ⟨by simp, by simp, rfl⟩
  rintro ⟨⟨_, i, _⟩, l, _⟩ next ⟨h0, h1, h2⟩ hn hin hl
  try dsimp only at h0 h1 h2 hn ⊢
  subst h2
  refine cnd_d (fun hc => ⟨h0, hc, fun _ => by omega, join_of (fun s1 => s1.2.1 = selR (i + 1).toNat fun f => c.2.1.getD f.toNat 0 == x && c.2.2.1.getD f.toNat 0 == y) (fun s1 hs _ => ⟨by rw [inK64]; (try dsimp only); omega, hn _ ⟨(by first | omega | (dsimp only; omega)), (by first | omega | (dsimp only; omega)), hs⟩ (by first | omega | (dsimp only; omega))⟩) (fun k hk => cnd_of (fun hx => ⟨?_, hk _ ?_⟩) (fun hx => hk _ ?_))⟩) (fun hc => ?_)
  · have := sel_len (p := fun f => c.2.1.getD f.toNat 0 == x && c.2.2.1.getD f.toNat 0 == y) i.toNat
    unfold room
    rw [nb_eq]
    have h3 : (i :: ([] : List Int)).length = 1 := rfl
    rw [h3]
    omega
  · exact (sel_t h0 hx).symm
  · exact (sel_f h0 hx).symm
  · have e1 : i.toNat = c.2.1.length := by omega
    simp only [c_impl_Category_hom, homR]
    rw [e1]
theorem ct_impl_Category_hom : CtOk Try.prog 88 c_impl_Category_hom :=
  ct_by (Φ := lkp []) good_nil tab_ok (by kernel_rfl) (fn := Try.f88) (c := bodyOf Try.f88) (by kernel_rfl) (by kernel_rfl) (by kernel_rfl) c_impl_Category_hom rfl (.s .n (.s .n (.s (.s .n (.l [(7, (.ref 800007 [])), (15, (.d (.int .i64)))] [(800007, (.sl (.fz (.int .i64))))] [0, 1, 2, 14] (.s .n (.s .n (.s (.s .n (.s .n (.j [(7, (.ref 800007 []))] [(800007, (.sl (.fz (.int .i64))))] [0, 1, 2, 14, 15] .n))) .n))))) .n))) (cutL []) (by kernel_rfl) (by kernel_rfl) k_impl_Category_hom (by decide) (fun x K => W_impl_Category_hom x.1 x.2.1 x.2.2.1 K) w_impl_Category_hom (fun x h1 h2 => m_impl_Category_hom x.1 x.2.1 x.2.2.1 h1 h2)
def c_spec_l02Hom : Ct := ⟨[CategoryT, (.int .i64), (.int .i64)], [true, false, false], fun x => [x.1.2.1.length ≤ 40, x.1.2.2.1.length = x.1.2.1.length], [(false, (.sl (.fz (.int .i64))))], fun x => (homR x.1 x.2.1 x.2.2.1, ()), false, none⟩
def W_spec_l02Hom (c : CategoryD) (x : Int) (y : Int) (K : (List Int) × Unit → Prop) : Prop := (loopW (S := ((Unit × (Int × Unit)) × ((List Int) × Unit))) (fun s => (fun next => ((inK IntKind.i64 s.1.2.1) → ((T.ok (T.sl (T.int IntKind.i64)) s.2.1) → (cnd (decide (s.1.2.1 < (((List.length c.2.1) : Nat) : Int))) (((0 : Int) ≤ s.1.2.1) ∧ ((s.1.2.1 < (((List.length c.2.1) : Nat) : Int)) ∧ (((((List.getD c.2.1 (Int.toNat s.1.2.1) (0 : Int)) == x) = Bool.true) → ((s.1.2.1 < (((List.length c.2.2.1) : Nat) : Int)) ∧ ((0 : Int) ≤ s.1.2.1))) ∧ (joinW (S := ((Unit × Unit) × ((List Int) × Unit))) (fun s1 => ((T.ok (T.sl (T.int IntKind.i64)) s1.2.1) → ((inK IntKind.i64 (s.1.2.1 + (1 : Int))) ∧ (next (((), ((s.1.2.1 + (1 : Int)), ())), (s1.2.1, ())))))) (fun k => (cnd (((List.getD c.2.1 (Int.toNat s.1.2.1) (0 : Int)) == x) && ((List.getD c.2.2.1 (Int.toNat s.1.2.1) (0 : Int)) == y)) ((room (List.length s.2.1) (List.length (s.1.2.1 :: ([] : List Int))) 8) ∧ (k (((), ()), ((s.2.1 ++ (s.1.2.1 :: ([] : List Int))), ())))) (k (((), ()), (s.2.1, ()))))))))) (K (s.2.1, ()))))))) (((), ((0 : Int), ())), (([] : List Int), ())))
theorem w_spec_l02Hom (x : denL c_spec_l02Hom.args) (K : (List Int) × Unit → Prop) : evF tab (lkp []) (cutL []) Try.f128 (bodyOf Try.f128) (.s .n (.s .n (.s (.s .n (.l [(7, (.ref 800007 [])), (8, (.d (.int .i64)))] [(800007, (.sl (.fz (.int .i64))))] [1, 2, 3] (.s .n (.s (.s .n (.j [(7, (.ref 800007 []))] [(800007, (.sl (.fz (.int .i64))))] [1, 2, 3, 8] .n)) .n)))) .n))) c_spec_l02Hom x K = W_spec_l02Hom x.1 x.2.1 x.2.2.1 K := by kernel_rfl
theorem k_spec_l02Hom : okC Try.f128.ntmps (cutL []) (bodyOf Try.f128) = true := by kernel_rfl
theorem m_spec_l02Hom (c : CategoryD) (x : Int) (y : Int) (hok : allP (okL c_spec_l02Hom.args (c, x, y, ()))) (hpre : allP (c_spec_l02Hom.pre (c, x, y, ()))) : W_spec_l02Hom c x y (fun r => r = c_spec_l02Hom.res (c, x, y, ())) := by
  simp only [c_spec_l02Hom, okL, T.oks, T.ok, ap, allP, true_and, and_true, implies_true] at hok hpre
  try dsimp only [T.den] at hok
  try dsimp only [T.den] at hpre
  unfold W_spec_l02Hom
  have hm : c.2.1.length ≤ 40 := hpre.1
  have hlt : c.2.2.1.length = c.2.1.length := hpre.2
  refine loop_of (fun (s : ((Unit × (Int × Unit)) × ((List Int) × Unit))) => 0 ≤ s.1.2.1 ∧ s.1.2.1 ≤ c.2.1.length ∧ s.2.1 = selR s.1.2.1.toNat fun f => c.2.1.getD f.toNat 0 == x && c.2.2.1.getD f.toNat 0 == y) (fun (s : ((Unit × (Int × Unit)) × ((List Int) × Unit))) => (c.2.1.length - s.1.2.1).toNat) ?_ ⟨by simp, by simp, rfl⟩
  rintro ⟨⟨_, i, _⟩, l, _⟩ next ⟨h0, h1, h2⟩ hn hin hl
  try dsimp only at h0 h1 h2 hn ⊢
  subst h2
  refine cnd_d (fun hc => ⟨h0, hc, fun _ => by omega, join_of (fun s1 => s1.2.1 = selR (i + 1).toNat fun f => c.2.1.getD f.toNat 0 == x && c.2.2.1.getD f.toNat 0 == y) (fun s1 hs _ => ⟨by rw [inK64]; (try dsimp only); omega, hn _ ⟨(by first | omega | (dsimp only; omega)), (by first | omega | (dsimp only; omega)), hs⟩ (by first | omega | (dsimp only; omega))⟩) (fun k hk => cnd_of (fun hx => ⟨?_, hk _ ?_⟩) (fun hx => hk _ ?_))⟩) (fun hc => ?_)
  · have := sel_len (p := fun f => c.2.1.getD f.toNat 0 == x && c.2.2.1.getD f.toNat 0 == y) i.toNat
    unfold room
    rw [nb_eq]
    have h3 : (i :: ([] : List Int)).length = 1 := rfl
    rw [h3]
    omega
  · exact (sel_t h0 hx).symm
  · exact (sel_f h0 hx).symm
  · have e1 : i.toNat = c.2.1.length := by omega
    simp only [c_spec_l02Hom, homR]
    rw [e1]
theorem ct_spec_l02Hom : CtOk Try.prog 128 c_spec_l02Hom :=
  ct_by (Φ := lkp []) good_nil tab_ok (by kernel_rfl) (fn := Try.f128) (c := bodyOf Try.f128) (by kernel_rfl) (by kernel_rfl) (by kernel_rfl) c_spec_l02Hom rfl (.s .n (.s .n (.s (.s .n (.l [(7, (.ref 800007 [])), (8, (.d (.int .i64)))] [(800007, (.sl (.fz (.int .i64))))] [1, 2, 3] (.s .n (.s (.s .n (.j [(7, (.ref 800007 []))] [(800007, (.sl (.fz (.int .i64))))] [1, 2, 3, 8] .n)) .n)))) .n))) (cutL []) (by kernel_rfl) (by kernel_rfl) k_spec_l02Hom (by decide) (fun x K => W_spec_l02Hom x.1 x.2.1 x.2.2.1 K) w_spec_l02Hom (fun x h1 h2 => m_spec_l02Hom x.1 x.2.1 x.2.2.1 h1 h2)
def sq1R (c : CategoryD) (l : List Int) (f v s b : Int) (p : List Int) (j : Int) : Option (Int × Int × Int) := if hasR l b = true ∧ compR c b f = compR c (p.getD j.toNat 0) v then some (s, b, p.getD j.toNat 0) else none
def sq2R (c : CategoryD) (l : List Int) (f v s : Int) (p q : List Int) (i : Int) : Option (Int × Int × Int) := scanR (sq1R c l f v s (q.getD i.toNat 0) p) p.length 0
def sq3R (c : CategoryD) (l : List Int) (f v s : Int) : Option (Int × Int × Int) := scanR (sq2R c l f v s (homR c s (c.2.1.getD v.toNat 0)) (homR c s (c.2.1.getD f.toNat 0))) (homR c s (c.2.1.getD f.toNat 0)).length 0
def sqR (c : CategoryD) (l : List Int) (f v : Int) : Option (Int × Int × Int) := scanR (sq3R c l f v) c.1.toNat 0

def c_spec_l33Square : Ct := ⟨[CategoryT, (.sl (.int .i64)), (.int .i64), (.int .i64)], [true, false, false, false], fun x => [ShapeP x.1, withinR x.2.1 x.1.2.1.length = true, 0 ≤ x.2.2.1, x.2.2.1 < x.1.2.1.length, 0 ≤ x.2.2.2.1, x.2.2.2.1 < x.1.2.1.length], [(false, (.fz (.int .i64))), (false, (.fz (.int .i64))), (false, (.fz (.int .i64))), (false, (.fz .bool))], fun x => (((sqR x.1 x.2.1 x.2.2.1 x.2.2.2.1).getD (0, 0, 0)).1, ((sqR x.1 x.2.1 x.2.2.1 x.2.2.2.1).getD (0, 0, 0)).2.1, ((sqR x.1 x.2.1 x.2.2.1 x.2.2.2.1).getD (0, 0, 0)).2.2, (sqR x.1 x.2.1 x.2.2.1 x.2.2.2.1).isSome, ()), false, none⟩
def W_spec_l33Square (c : CategoryD) (w : List Int) (f : Int) (v : Int) (K : Int × Int × Int × Bool × Unit → Prop) : Prop := (loopW (S := ((Int × Unit) × Unit)) (fun s => (fun next => ((inK IntKind.i64 s.1.1) → (cnd (decide (s.1.1 < c.1)) (((0 : Int) ≤ f) ∧ ((f < (((List.length c.2.1) : Nat) : Int)) ∧ (((List.length c.2.1) ≤ 40) ∧ (((List.length c.2.2.1) = (List.length c.2.1)) ∧ (((0 : Int) ≤ v) ∧ ((v < (((List.length c.2.1) : Nat) : Int)) ∧ (((List.length c.2.1) ≤ 40) ∧ (((List.length c.2.2.1) = (List.length c.2.1)) ∧ (loopW (S := ((Int × Unit) × Unit)) (fun s1 => (fun next1 => ((inK IntKind.i64 s1.1.1) → (cnd (decide (s1.1.1 < (((List.length (homR c s.1.1 (List.getD c.2.1 (Int.toNat f) (0 : Int)))) : Nat) : Int))) (loopW (S := ((Int × Unit) × Unit)) (fun s2 => (fun next2 => ((inK IntKind.i64 s2.1.1) → (cnd (decide (s2.1.1 < (((List.length (homR c s.1.1 (List.getD c.2.1 (Int.toNat v) (0 : Int)))) : Nat) : Int))) (((0 : Int) ≤ s1.1.1) ∧ ((s1.1.1 < (((List.length (homR c s.1.1 (List.getD c.2.1 (Int.toNat f) (0 : Int)))) : Nat) : Int)) ∧ ((((hasR w (List.getD (homR c s.1.1 (List.getD c.2.1 (Int.toNat f) (0 : Int))) (Int.toNat s1.1.1) (0 : Int))) = Bool.true) → ((s1.1.1 < (((List.length (homR c s.1.1 (List.getD c.2.1 (Int.toNat f) (0 : Int)))) : Nat) : Int)) ∧ ((0 : Int) ≤ s1.1.1))) ∧ ((((hasR w (List.getD (homR c s.1.1 (List.getD c.2.1 (Int.toNat f) (0 : Int))) (Int.toNat s1.1.1) (0 : Int))) = Bool.true) → (((List.getD (homR c s.1.1 (List.getD c.2.1 (Int.toNat f) (0 : Int))) (Int.toNat s1.1.1) (0 : Int)) < (((List.length c.2.2.2.2) : Nat) : Int)) ∧ (((0 : Int) ≤ f) ∧ ((f < (((List.length (List.getD c.2.2.2.2 (Int.toNat (List.getD (homR c s.1.1 (List.getD c.2.1 (Int.toNat f) (0 : Int))) (Int.toNat s1.1.1) (0 : Int))) ([] : List Int))) : Nat) : Int)) ∧ ((0 : Int) ≤ (List.getD (homR c s.1.1 (List.getD c.2.1 (Int.toNat f) (0 : Int))) (Int.toNat s1.1.1) (0 : Int))))))) ∧ ((((hasR w (List.getD (homR c s.1.1 (List.getD c.2.1 (Int.toNat f) (0 : Int))) (Int.toNat s1.1.1) (0 : Int))) = Bool.true) → ((s2.1.1 < (((List.length (homR c s.1.1 (List.getD c.2.1 (Int.toNat v) (0 : Int)))) : Nat) : Int)) ∧ ((0 : Int) ≤ s2.1.1))) ∧ ((((hasR w (List.getD (homR c s.1.1 (List.getD c.2.1 (Int.toNat f) (0 : Int))) (Int.toNat s1.1.1) (0 : Int))) = Bool.true) → (((List.getD (homR c s.1.1 (List.getD c.2.1 (Int.toNat v) (0 : Int))) (Int.toNat s2.1.1) (0 : Int)) < (((List.length c.2.2.2.2) : Nat) : Int)) ∧ (((0 : Int) ≤ v) ∧ ((v < (((List.length (List.getD c.2.2.2.2 (Int.toNat (List.getD (homR c s.1.1 (List.getD c.2.1 (Int.toNat v) (0 : Int))) (Int.toNat s2.1.1) (0 : Int))) ([] : List Int))) : Nat) : Int)) ∧ ((0 : Int) ≤ (List.getD (homR c s.1.1 (List.getD c.2.1 (Int.toNat v) (0 : Int))) (Int.toNat s2.1.1) (0 : Int))))))) ∧ (cnd ((hasR w (List.getD (homR c s.1.1 (List.getD c.2.1 (Int.toNat f) (0 : Int))) (Int.toNat s1.1.1) (0 : Int))) && ((compR c (List.getD (homR c s.1.1 (List.getD c.2.1 (Int.toNat f) (0 : Int))) (Int.toNat s1.1.1) (0 : Int)) f) == (compR c (List.getD (homR c s.1.1 (List.getD c.2.1 (Int.toNat v) (0 : Int))) (Int.toNat s2.1.1) (0 : Int)) v))) (((0 : Int) ≤ s1.1.1) ∧ ((s1.1.1 < (((List.length (homR c s.1.1 (List.getD c.2.1 (Int.toNat f) (0 : Int)))) : Nat) : Int)) ∧ (((0 : Int) ≤ s2.1.1) ∧ ((s2.1.1 < (((List.length (homR c s.1.1 (List.getD c.2.1 (Int.toNat v) (0 : Int)))) : Nat) : Int)) ∧ (K (s.1.1, ((List.getD (homR c s.1.1 (List.getD c.2.1 (Int.toNat f) (0 : Int))) (Int.toNat s1.1.1) (0 : Int)), ((List.getD (homR c s.1.1 (List.getD c.2.1 (Int.toNat v) (0 : Int))) (Int.toNat s2.1.1) (0 : Int)), (Bool.true, ()))))))))) ((inK IntKind.i64 (s2.1.1 + (1 : Int))) ∧ (next2 (((s2.1.1 + (1 : Int)), ()), ())))))))))) ((inK IntKind.i64 (s1.1.1 + (1 : Int))) ∧ (next1 (((s1.1.1 + (1 : Int)), ()), ()))))))) (((0 : Int), ()), ())) ((inK IntKind.i64 (s.1.1 + (1 : Int))) ∧ (next (((s.1.1 + (1 : Int)), ()), ()))))))) (((0 : Int), ()), ())))))))))) (K ((0 : Int), ((0 : Int), ((0 : Int), (Bool.false, ()))))))))) (((0 : Int), ()), ()))
theorem w_spec_l33Square (x : denL c_spec_l33Square.args) (K : Int × Int × Int × Bool × Unit → Prop) : evF tab (lkp [(129, c_spec_l01Has), (128, c_spec_l02Hom), (82, c_spec_l02Then)]) (cutL [(4, 515), (11, 20), (12, 11)]) Try.f103 (bodyOf Try.f103) (.s .n (.s (.s .n (.l [(12, (.d (.int .i64)))] [] [1, 2, 3, 4] (.s .n (.s (.s .n (.s .n (.l [(15, (.d (.int .i64)))] [] [1, 2, 3, 4, 12, 13, 14] (.s .n (.s (.s .n (.l [(16, (.d (.int .i64)))] [] [1, 2, 3, 4, 12, 13, 14, 15] .n)) .n))))) .n)))) .n)) c_spec_l33Square x K = W_spec_l33Square x.1 x.2.1 x.2.2.1 x.2.2.2.1 K := by kernel_rfl
theorem k_spec_l33Square : okC Try.f103.ntmps (cutL [(4, 515), (11, 20), (12, 11)]) (bodyOf Try.f103) = true := by kernel_rfl
theorem m_spec_l33Square (c : CategoryD) (w : List Int) (f : Int) (v : Int) (hok : allP (okL c_spec_l33Square.args (c, w, f, v, ()))) (hpre : allP (c_spec_l33Square.pre (c, w, f, v, ()))) : W_spec_l33Square c w f v (fun r => r = c_spec_l33Square.res (c, w, f, v, ())) := by
  simp only [c_spec_l33Square, okL, T.oks, T.ok, ap, allP, true_and, and_true, implies_true] at hok hpre
  try dsimp only [T.den] at hok
  try dsimp only [T.den] at hpre
  unfold W_spec_l33Square
  obtain ⟨S, hw, f0, f1, v0, v1⟩ := hpre
  clear hok
  have hm := S.m
  have hlt := S.lt
  have hlc := S.lc
  have hob := S.ob
  have resq : ∀ a b d, sqR c w f v = some (a, b, d) → (a, b, d, true, ()) = c_spec_l33Square.res (c, w, f, v, ()) := fun a b d h => by simp only [c_spec_l33Square, h]; rfl
  have resn : sqR c w f v = none → (0, 0, 0, false, ()) = c_spec_l33Square.res (c, w, f, v, ()) := fun h => by simp only [c_spec_l33Square, h]; rfl
  refine loop_ix (n := c.1) (fun s => sqR c w f v = scanR (sq3R c w f v) (c.1 - s).toNat s) hob.1 (by rw [Int.sub_zero]; rfl) ?_ ?_
  · intro s next s0 s1 hP hn _
    try dsimp only at hn ⊢
    refine cnd_d (fun _ => ⟨f0, f1, hm, hlt, v0, v1, hm, hlt, ?_⟩) (fun h => absurd s1 h)
    have hp2 : ∀ j : Int, 0 ≤ j → j < (homR c s (c.2.1.getD v.toNat 0)).length → 0 ≤ (homR c s (c.2.1.getD v.toNat 0)).getD j.toNat 0 ∧ (homR c s (c.2.1.getD v.toNat 0)).getD j.toNat 0 < c.2.1.length := fun j j0 j1 => by
      have := hom_mem.1 (getD_mem _ 0 j0 j1); exact ⟨this.1, this.2.1⟩
    have hq2 : ∀ j : Int, 0 ≤ j → j < (homR c s (c.2.1.getD f.toNat 0)).length → 0 ≤ (homR c s (c.2.1.getD f.toNat 0)).getD j.toNat 0 ∧ (homR c s (c.2.1.getD f.toNat 0)).getD j.toNat 0 < c.2.1.length := fun j j0 j1 => by
      have := hom_mem.1 (getD_mem _ 0 j0 j1); exact ⟨this.1, this.2.1⟩
    have h3 : sq3R c w f v s = scanR (sq2R c w f v s (homR c s (c.2.1.getD v.toNat 0)) (homR c s (c.2.1.getD f.toNat 0))) (homR c s (c.2.1.getD f.toNat 0)).length 0 := rfl
    have hpl : (homR c s (c.2.1.getD v.toNat 0)).length ≤ 40 := by
      have := @sel_len (fun g => c.2.1.getD g.toNat 0 == s && c.2.2.1.getD g.toNat 0 == c.2.1.getD v.toNat 0) c.2.1.length
      unfold homR; omega
    have hql : (homR c s (c.2.1.getD f.toNat 0)).length ≤ 40 := by
      have := @sel_len (fun g => c.2.1.getD g.toNat 0 == s && c.2.2.1.getD g.toNat 0 == c.2.1.getD f.toNat 0) c.2.1.length
      unfold homR; omega
    generalize homR c s (c.2.1.getD v.toNat 0) = p at *
    generalize homR c s (c.2.1.getD f.toNat 0) = q at *
    refine loop_ix (n := q.length) (fun i => sq3R c w f v s = scanR (sq2R c w f v s p q) ((q.length : Int) - i).toNat i) (by omega) (by rw [h3]; exact scan_0) ?_ ?_
    · intro i next2 i0 i1 hP2 hn2 _
      try dsimp only at hn2 ⊢
      have hb := hq2 i i0 i1
      have h4 : sq2R c w f v s p q i = scanR (sq1R c w f v s (q.getD i.toNat 0) p) p.length 0 := rfl
      refine cnd_d (fun _ => ?_) (fun h => absurd i1 h)
      generalize hbq : q.getD i.toNat 0 = b at *
      have hrb := S.row b hb.1 hb.2
      refine loop_ix (n := p.length) (fun j => sq2R c w f v s p q i = scanR (sq1R c w f v s b p) ((p.length : Int) - j).toNat j) (by omega) (by rw [h4]; exact scan_0) ?_ ?_
      · intro j next3 j0 j1 hP3 hn3 _
        try dsimp only at hn3 ⊢
        have ha := hp2 j j0 j1
        have hra := S.row _ ha.1 ha.2
        refine cnd_d (fun _ => ⟨i0, i1, fun _ => ⟨i1, i0⟩, fun _ => ⟨by omega, f0, by omega, hb.1⟩, fun _ => ⟨j1, j0⟩, fun _ => ⟨by omega, v0, by omega, ha.1⟩, cnd_of (fun hx => ⟨i0, i1, j0, j1, resq _ _ _ ?_⟩) (fun hx => ⟨by rw [inK64]; (try dsimp only); omega, hn3 ?_⟩)⟩) (fun h => absurd j1 h)
        · have : sq1R c w f v s b p j = some (s, b, p.getD j.toNat 0) := by unfold sq1R; rw [if_pos]; simpa using hx
          have e1 : sq2R c w f v s p q i = some (s, b, p.getD j.toNat 0) := by rw [hP3, scan_s j1 this]
          have e2 : sq3R c w f v s = some (s, b, p.getD j.toNat 0) := by rw [hP2, scan_s i1 e1]
          rw [hP, scan_s s1 e2]
        · have : sq1R c w f v s b p j = none := by unfold sq1R; rw [if_neg]; simpa using hx
          rw [hP3, scan_c j1 this]
      · intro next3 hP3 _
        rw [scan_n] at hP3
        exact cnd_d (fun h => absurd h (Int.lt_irrefl _)) (fun _ => ⟨by rw [inK64]; (try dsimp only); omega, hn2 (by rw [hP2, scan_c i1 hP3])⟩)
    · intro next2 hP2 _
      rw [scan_n] at hP2
      exact cnd_d (fun h => absurd h (Int.lt_irrefl _)) (fun _ => ⟨by rw [inK64]; (try dsimp only); omega, hn (by rw [hP, scan_c s1 hP2])⟩)
  · intro next hP _
    rw [scan_n] at hP
    exact cnd_d (fun h => absurd h (Int.lt_irrefl _)) (fun _ => resn hP)
theorem ct_spec_l33Square : CtOk Try.prog 103 c_spec_l33Square :=
  ct_by (Φ := lkp [(129, c_spec_l01Has), (128, c_spec_l02Hom), (82, c_spec_l02Then)]) (good_cons ct_spec_l01Has (good_cons ct_spec_l02Hom (good_cons ct_spec_l02Then good_nil))) tab_ok (by kernel_rfl) (fn := Try.f103) (c := bodyOf Try.f103) (by kernel_rfl) (by kernel_rfl) (by kernel_rfl) c_spec_l33Square rfl (.s .n (.s (.s .n (.l [(12, (.d (.int .i64)))] [] [1, 2, 3, 4] (.s .n (.s (.s .n (.s .n (.l [(15, (.d (.int .i64)))] [] [1, 2, 3, 4, 12, 13, 14] (.s .n (.s (.s .n (.l [(16, (.d (.int .i64)))] [] [1, 2, 3, 4, 12, 13, 14, 15] .n)) .n))))) .n)))) .n)) (cutL [(4, 515), (11, 20), (12, 11)]) (by kernel_rfl) (by kernel_rfl) k_spec_l33Square (by decide) (fun x K => W_spec_l33Square x.1 x.2.1 x.2.2.1 x.2.2.2.1 K) w_spec_l33Square (fun x h1 h2 => m_spec_l33Square x.1 x.2.1 x.2.2.1 x.2.2.2.1 h1 h2)
def sqBodW (w : CategoryD × List Int × List Bool) (f v : Int) (c : CategoryD) (u i k : Int) (den num : List Int) (nxt : (Nat × ((((Int × ((List Int) × ((List Int) × ((List Int) × (List (List Int)))))) × ((List Int) × (List Bool))) × (Int × (Int × ((Int × ((List Int) × ((List Int) × ((List Int) × (List (List Int)))))) × (Int × (Int × (Int × ((List Int) × ((List Int) × Unit))))))))) × Unit)) → Prop) (K : Int × Int × Bool × Unit → Prop) : Prop := (cnd (i == (((List.length den) : Nat) : Int)) (nxt (0, ((w, (f, (v, (c, (u, (i, (k, (den, (num, ()))))))))), ()))) ((((k == (((List.length num) : Nat) : Int)) = Bool.false) → ((i < (((List.length den) : Nat) : Int)) ∧ ((0 : Int) ≤ i))) ∧ ((((k == (((List.length num) : Nat) : Int)) = Bool.false) → (((List.getD den (Int.toNat i) (0 : Int)) < (((List.length w.2.2) : Nat) : Int)) ∧ ((0 : Int) ≤ (List.getD den (Int.toNat i) (0 : Int))))) ∧ (cnd ((k == (((List.length num) : Nat) : Int)) || (!(List.getD w.2.2 (Int.toNat (List.getD den (Int.toNat i) (0 : Int))) Bool.false))) ((inK IntKind.i64 (i + (1 : Int))) ∧ (nxt (1, ((w, (f, (v, (c, (u, ((i + (1 : Int)), ((0 : Int), (den, (num, ()))))))))), ())))) (((0 : Int) ≤ i) ∧ ((i < (((List.length den) : Nat) : Int)) ∧ (((0 : Int) ≤ (List.getD den (Int.toNat i) (0 : Int))) ∧ (((List.getD den (Int.toNat i) (0 : Int)) < (((List.length c.2.2.2.2) : Nat) : Int)) ∧ (((0 : Int) ≤ f) ∧ ((f < (((List.length (List.getD c.2.2.2.2 (Int.toNat (List.getD den (Int.toNat i) (0 : Int))) ([] : List Int))) : Nat) : Int)) ∧ (((0 : Int) ≤ k) ∧ ((k < (((List.length num) : Nat) : Int)) ∧ (((0 : Int) ≤ (List.getD num (Int.toNat k) (0 : Int))) ∧ (((List.getD num (Int.toNat k) (0 : Int)) < (((List.length c.2.2.2.2) : Nat) : Int)) ∧ (((0 : Int) ≤ v) ∧ ((v < (((List.length (List.getD c.2.2.2.2 (Int.toNat (List.getD num (Int.toNat k) (0 : Int))) ([] : List Int))) : Nat) : Int)) ∧ (cnd ((compR c (List.getD den (Int.toNat i) (0 : Int)) f) == (compR c (List.getD num (Int.toNat k) (0 : Int)) v)) (((0 : Int) ≤ i) ∧ ((i < (((List.length den) : Nat) : Int)) ∧ (((0 : Int) ≤ k) ∧ ((k < (((List.length num) : Nat) : Int)) ∧ (K ((List.getD den (Int.toNat i) (0 : Int)), ((List.getD num (Int.toNat k) (0 : Int)), (Bool.true, ())))))))) ((inK IntKind.i64 (k + (1 : Int))) ∧ (nxt (1, ((w, (f, (v, (c, (u, (i, ((k + (1 : Int)), (den, (num, ()))))))))), ())))))))))))))))))))))
structure SqA (w : CategoryD × List Int × List Bool) (f v u : Int) : Prop where
  u0 : 0 ≤ u
  u1 : u ≤ w.1.1
  sc : sqR w.1 w.2.1 f v = scanR (sq3R w.1 w.2.1 f v) (w.1.1 - u).toNat u
structure SqB (w : CategoryD × List Int × List Bool) (f v u i k : Int) (den num : List Int) : Prop where
  u0 : 1 ≤ u
  u1 : u ≤ w.1.1
  de : den = homR w.1 (u - 1) (w.1.2.1.getD f.toNat 0)
  nu : num = homR w.1 (u - 1) (w.1.2.1.getD v.toNat 0)
  i0 : 0 ≤ i
  i1 : i ≤ den.length
  k0 : 0 ≤ k
  k1 : k ≤ num.length
  s3 : sqR w.1 w.2.1 f v = scanR (sq3R w.1 w.2.1 f v) (w.1.1 - (u - 1)).toNat (u - 1)
  s2 : sq3R w.1 w.2.1 f v (u - 1) = scanR (sq2R w.1 w.2.1 f v (u - 1) num den) ((den.length : Int) - i).toNat i
  s1 : i < den.length → sq2R w.1 w.2.1 f v (u - 1) num den i = scanR (sq1R w.1 w.2.1 f v (u - 1) (den.getD i.toNat 0) num) ((num.length : Int) - k).toNat k
theorem scan_nun {α : Type} {p : Int → Option α} (h : ∀ j, p j = none) : ∀ (n : Nat) (i : Int), scanR p n i = none
  | 0, _ => rfl
  | n + 1, i => by rw [scanR, h]; exact scan_nun h n _
theorem hom_len40 {c : CategoryD} {x y : Int} (S : ShapeP c) : (homR c x y).length ≤ 40 := by
  have := @sel_len (fun g => c.2.1.getD g.toNat 0 == x && c.2.2.1.getD g.toNat 0 == y) c.2.1.length
  have h := S.m
  unfold homR; omega
theorem sqBod_ok {w : CategoryD × List Int × List Bool} {f v u i k : Int} {den num : List Int} (D : DenP w) (f0 : 0 ≤ f) (f1 : f < w.1.2.1.length) (v0 : 0 ≤ v) (v1 : v < w.1.2.1.length) (B : SqB w f v u i k den num)
    {nxt : (Nat × ((((Int × ((List Int) × ((List Int) × ((List Int) × (List (List Int)))))) × ((List Int) × (List Bool))) × (Int × (Int × ((Int × ((List Int) × ((List Int) × ((List Int) × (List (List Int)))))) × (Int × (Int × (Int × ((List Int) × ((List Int) × Unit))))))))) × Unit)) → Prop} {K : Int × Int × Bool × Unit → Prop}
    (h0 : SqA w f v u → nxt (0, ((w, (f, (v, (w.1, (u, (i, (k, (den, (num, ()))))))))), ())))
    (h1 : ∀ i' k' : Int, SqB w f v u i' k' den num → ((den.length : Int) - i') * 50 + ((num.length : Int) - k') < ((den.length : Int) - i) * 50 + ((num.length : Int) - k) → nxt (1, ((w, (f, (v, (w.1, (u, (i', (k', (den, (num, ()))))))))), ())))
    (hK : ∀ r, sqR w.1 w.2.1 f v = some r → K (r.2.1, r.2.2, true, ())) : sqBodW w f v w.1 u i k den num nxt K := by
  have S := D.sh
  have hm := S.m
  have hlt := S.lt
  have hlc := S.lc
  have hlm := D.len
  have hob := S.ob
  obtain ⟨u0, u1, de, nu, i0, i1, k0, k1, s3, s2, s1⟩ := B
  have hdl : den.length ≤ 40 := by rw [de]; exact hom_len40 S
  have hnl : num.length ≤ 40 := by rw [nu]; exact hom_len40 S
  have hd : ∀ j : Int, 0 ≤ j → j < den.length → 0 ≤ den.getD j.toNat 0 ∧ den.getD j.toNat 0 < w.1.2.1.length := fun j j0 j1 => by
    rw [de] at j1 ⊢
    have := hom_mem.1 (getD_mem _ 0 j0 j1); exact ⟨this.1, this.2.1⟩
  have hn : ∀ j : Int, 0 ≤ j → j < num.length → 0 ≤ num.getD j.toNat 0 ∧ num.getD j.toNat 0 < w.1.2.1.length := fun j j0 j1 => by
    rw [nu] at j1 ⊢
    have := hom_mem.1 (getD_mem _ 0 j0 j1); exact ⟨this.1, this.2.1⟩
  unfold sqBodW
  refine cnd_of (fun hx => h0 ?_) (fun hx => ?_)
  · have e : i = den.length := by simpa using hx
    subst e
    rw [scan_n] at s2
    refine ⟨by omega, u1, ?_⟩
    rw [s3, scan_c (by omega) s2, show u - 1 + 1 = u from by omega]
  · have hne : i ≠ den.length := by simpa using hx
    have hi : i < den.length := by omega
    have hb := hd i i0 hi
    have s1 := s1 hi
    have hrb := S.row _ hb.1 hb.2
    refine ⟨fun _ => ⟨hi, i0⟩, fun _ => ⟨by omega, hb.1⟩, cnd_of (fun hy => ⟨by rw [inK64]; omega, h1 _ _ ⟨u0, u1, de, nu, by omega, by omega, Int.le_refl _, by omega, s3, ?_, fun hi2 => ?_⟩ (by omega)⟩) (fun hy => ?_)⟩
    · have hno : sq2R w.1 w.2.1 f v (u - 1) num den i = none := by
        rw [Bool.or_eq_true] at hy
        rcases hy with hy | hy
        · have e : k = num.length := by simpa using hy
          subst e
          rw [s1, scan_n]
        · rw [D.get hb.1 hb.2] at hy
          have hy : hasR w.2.1 (den.getD i.toNat 0) = false := by simpa using hy
          rw [s1]
          refine scan_nun (fun j => ?_) _ _
          unfold sq1R
          rw [if_neg]
          rintro ⟨h, _⟩
          rw [hy] at h; cases h
      rw [s2, scan_c hi hno]
    · exact scan_0
    · rw [Bool.or_eq_false_iff] at hy
      have hk : k < num.length := by have : k ≠ num.length := by simpa using hy.1
                                     omega
      have ha := hn k k0 hk
      have hra := S.row _ ha.1 ha.2
      have hth : hasR w.2.1 (den.getD i.toNat 0) = true := by rw [← D.get hb.1 hb.2]; simpa using hy.2
      refine ⟨i0, hi, hb.1, by omega, f0, by omega, k0, hk, ha.1, by omega, v0, by omega, cnd_of (fun hz => ⟨i0, hi, k0, hk, ?_⟩) (fun hz => ⟨by rw [inK64]; omega, h1 _ _ ⟨u0, u1, de, nu, i0, i1, by omega, by omega, s3, s2, fun _ => ?_⟩ (by omega)⟩)⟩
      · have e1 : sq1R w.1 w.2.1 f v (u - 1) (den.getD i.toNat 0) num k = some (u - 1, den.getD i.toNat 0, num.getD k.toNat 0) := by
          unfold sq1R; rw [if_pos ⟨hth, by simpa using hz⟩]
        exact hK _ (by rw [s3, scan_s (by omega) (by rw [s2, scan_s hi (by rw [s1, scan_s hk e1])])])
      · have e1 : sq1R w.1 w.2.1 f v (u - 1) (den.getD i.toNat 0) num k = none := by
          unfold sq1R; rw [if_neg]; rintro ⟨_, h⟩; rw [h] at hz; simp at hz
        rw [s1, scan_c hk e1]

def c_impl_denominators_square : Ct := ⟨[(.pt denominatorsT), (.int .i64), (.int .i64)], [false, false, false], fun x => [DenP x.1, 0 ≤ x.2.1, x.2.1 < x.1.1.2.1.length, 0 ≤ x.2.2.1, x.2.2.1 < x.1.1.2.1.length], [(false, (.fz (.int .i64))), (false, (.fz (.int .i64))), (false, (.fz .bool))], fun x => (((sqR x.1.1 x.1.2.1 x.2.1 x.2.2.1).getD (0, 0, 0)).2.1, ((sqR x.1.1 x.1.2.1 x.2.1 x.2.2.1).getD (0, 0, 0)).2.2, (sqR x.1.1 x.1.2.1 x.2.1 x.2.2.1).isSome, ()), false, none⟩
noncomputable def j0_impl_denominators_square : Code := match bodyOf Try.f137 with | .seq x _ => x | _ => .skip
noncomputable def j1_impl_denominators_square : Code := match bodyOf Try.f137 with | .seq _ (.scope x) => x | _ => .skip
def W_impl_denominators_square (w : T.den denominatorsT) (f : Int) (v : Int) (K : Int × Int × Bool × Unit → Prop) : Prop := (loopW (S := (Nat × ((((Int × ((List Int) × ((List Int) × ((List Int) × (List (List Int)))))) × ((List Int) × (List Bool))) × (Int × (Int × ((Int × ((List Int) × ((List Int) × ((List Int) × (List (List Int)))))) × (Int × (Int × (Int × ((List Int) × ((List Int) × Unit))))))))) × Unit))) (fun s => (fun next => ((inK IntKind.i64 s.2.1.1.1.1) → ((T.ok (T.sl (T.int IntKind.i64)) s.2.1.1.1.2.1) → ((T.ok (T.sl (T.int IntKind.i64)) s.2.1.1.1.2.2.1) → ((T.ok (T.sl (T.int IntKind.i64)) s.2.1.1.1.2.2.2.1) → ((T.ok (T.sl (T.sl (T.int IntKind.i64))) s.2.1.1.1.2.2.2.2) → ((T.ok (T.sl (T.int IntKind.i64)) s.2.1.1.2.1) → ((T.ok (T.sl T.bool) s.2.1.1.2.2) → ((inK IntKind.i64 s.2.1.2.1) → ((inK IntKind.i64 s.2.1.2.2.1) → ((inK IntKind.i64 s.2.1.2.2.2.1.1) → ((T.ok (T.sl (T.int IntKind.i64)) s.2.1.2.2.2.1.2.1) → ((T.ok (T.sl (T.int IntKind.i64)) s.2.1.2.2.2.1.2.2.1) → ((T.ok (T.sl (T.int IntKind.i64)) s.2.1.2.2.2.1.2.2.2.1) → ((T.ok (T.sl (T.sl (T.int IntKind.i64))) s.2.1.2.2.2.1.2.2.2.2) → ((inK IntKind.i64 s.2.1.2.2.2.2.1) → ((inK IntKind.i64 s.2.1.2.2.2.2.2.1) → ((inK IntKind.i64 s.2.1.2.2.2.2.2.2.1) → ((T.ok (T.sl (T.int IntKind.i64)) s.2.1.2.2.2.2.2.2.2.1) → ((T.ok (T.sl (T.int IntKind.i64)) s.2.1.2.2.2.2.2.2.2.2.1) → (cnd (Nat.beq s.1 0) (cnd (s.2.1.2.2.2.2.1 == s.2.1.2.2.2.1.1) (K ((0 : Int), ((0 : Int), (Bool.false, ())))) (((0 : Int) ≤ s.2.1.2.1) ∧ ((s.2.1.2.1 < (((List.length s.2.1.2.2.2.1.2.1) : Nat) : Int)) ∧ (((List.length s.2.1.2.2.2.1.2.1) ≤ 40) ∧ (((List.length s.2.1.2.2.2.1.2.2.1) = (List.length s.2.1.2.2.2.1.2.1)) ∧ (((0 : Int) ≤ s.2.1.2.2.1) ∧ ((s.2.1.2.2.1 < (((List.length s.2.1.2.2.2.1.2.1) : Nat) : Int)) ∧ (((List.length s.2.1.2.2.2.1.2.1) ≤ 40) ∧ (((List.length s.2.1.2.2.2.1.2.2.1) = (List.length s.2.1.2.2.2.1.2.1)) ∧ ((inK IntKind.i64 (s.2.1.2.2.2.2.1 + (1 : Int))) ∧ (cnd ((0 : Int) == (((List.length (homR s.2.1.2.2.2.1 s.2.1.2.2.2.2.1 (List.getD s.2.1.2.2.2.1.2.1 (Int.toNat s.2.1.2.1) (0 : Int)))) : Nat) : Int)) (next (0, ((s.2.1.1, (s.2.1.2.1, (s.2.1.2.2.1, (s.2.1.2.2.2.1, ((s.2.1.2.2.2.2.1 + (1 : Int)), ((0 : Int), ((0 : Int), ((homR s.2.1.2.2.2.1 s.2.1.2.2.2.2.1 (List.getD s.2.1.2.2.2.1.2.1 (Int.toNat s.2.1.2.1) (0 : Int))), ((homR s.2.1.2.2.2.1 s.2.1.2.2.2.2.1 (List.getD s.2.1.2.2.2.1.2.1 (Int.toNat s.2.1.2.2.1) (0 : Int))), ()))))))))), ()))) (((((0 : Int) == (((List.length (homR s.2.1.2.2.2.1 s.2.1.2.2.2.2.1 (List.getD s.2.1.2.2.2.1.2.1 (Int.toNat s.2.1.2.2.1) (0 : Int)))) : Nat) : Int)) = Bool.false) → (((0 : Int) < (((List.length (homR s.2.1.2.2.2.1 s.2.1.2.2.2.2.1 (List.getD s.2.1.2.2.2.1.2.1 (Int.toNat s.2.1.2.1) (0 : Int)))) : Nat) : Int)) ∧ ((0 : Int) ≤ (0 : Int)))) ∧ (((((0 : Int) == (((List.length (homR s.2.1.2.2.2.1 s.2.1.2.2.2.2.1 (List.getD s.2.1.2.2.2.1.2.1 (Int.toNat s.2.1.2.2.1) (0 : Int)))) : Nat) : Int)) = Bool.false) → (((List.getD (homR s.2.1.2.2.2.1 s.2.1.2.2.2.2.1 (List.getD s.2.1.2.2.2.1.2.1 (Int.toNat s.2.1.2.1) (0 : Int))) (Int.toNat (0 : Int)) (0 : Int)) < (((List.length s.2.1.1.2.2) : Nat) : Int)) ∧ ((0 : Int) ≤ (List.getD (homR s.2.1.2.2.2.1 s.2.1.2.2.2.2.1 (List.getD s.2.1.2.2.2.1.2.1 (Int.toNat s.2.1.2.1) (0 : Int))) (Int.toNat (0 : Int)) (0 : Int))))) ∧ (cnd (((0 : Int) == (((List.length (homR s.2.1.2.2.2.1 s.2.1.2.2.2.2.1 (List.getD s.2.1.2.2.2.1.2.1 (Int.toNat s.2.1.2.2.1) (0 : Int)))) : Nat) : Int)) || (!(List.getD s.2.1.1.2.2 (Int.toNat (List.getD (homR s.2.1.2.2.2.1 s.2.1.2.2.2.2.1 (List.getD s.2.1.2.2.2.1.2.1 (Int.toNat s.2.1.2.1) (0 : Int))) (Int.toNat (0 : Int)) (0 : Int))) Bool.false))) ((inK IntKind.i64 ((0 : Int) + (1 : Int))) ∧ (next (1, ((s.2.1.1, (s.2.1.2.1, (s.2.1.2.2.1, (s.2.1.2.2.2.1, ((s.2.1.2.2.2.2.1 + (1 : Int)), (((0 : Int) + (1 : Int)), ((0 : Int), ((homR s.2.1.2.2.2.1 s.2.1.2.2.2.2.1 (List.getD s.2.1.2.2.2.1.2.1 (Int.toNat s.2.1.2.1) (0 : Int))), ((homR s.2.1.2.2.2.1 s.2.1.2.2.2.2.1 (List.getD s.2.1.2.2.2.1.2.1 (Int.toNat s.2.1.2.2.1) (0 : Int))), ()))))))))), ())))) (((0 : Int) ≤ (0 : Int)) ∧ (((0 : Int) < (((List.length (homR s.2.1.2.2.2.1 s.2.1.2.2.2.2.1 (List.getD s.2.1.2.2.2.1.2.1 (Int.toNat s.2.1.2.1) (0 : Int)))) : Nat) : Int)) ∧ (((0 : Int) ≤ (List.getD (homR s.2.1.2.2.2.1 s.2.1.2.2.2.2.1 (List.getD s.2.1.2.2.2.1.2.1 (Int.toNat s.2.1.2.1) (0 : Int))) (Int.toNat (0 : Int)) (0 : Int))) ∧ (((List.getD (homR s.2.1.2.2.2.1 s.2.1.2.2.2.2.1 (List.getD s.2.1.2.2.2.1.2.1 (Int.toNat s.2.1.2.1) (0 : Int))) (Int.toNat (0 : Int)) (0 : Int)) < (((List.length s.2.1.2.2.2.1.2.2.2.2) : Nat) : Int)) ∧ (((0 : Int) ≤ s.2.1.2.1) ∧ ((s.2.1.2.1 < (((List.length (List.getD s.2.1.2.2.2.1.2.2.2.2 (Int.toNat (List.getD (homR s.2.1.2.2.2.1 s.2.1.2.2.2.2.1 (List.getD s.2.1.2.2.2.1.2.1 (Int.toNat s.2.1.2.1) (0 : Int))) (Int.toNat (0 : Int)) (0 : Int))) ([] : List Int))) : Nat) : Int)) ∧ (((0 : Int) ≤ (0 : Int)) ∧ (((0 : Int) < (((List.length (homR s.2.1.2.2.2.1 s.2.1.2.2.2.2.1 (List.getD s.2.1.2.2.2.1.2.1 (Int.toNat s.2.1.2.2.1) (0 : Int)))) : Nat) : Int)) ∧ (((0 : Int) ≤ (List.getD (homR s.2.1.2.2.2.1 s.2.1.2.2.2.2.1 (List.getD s.2.1.2.2.2.1.2.1 (Int.toNat s.2.1.2.2.1) (0 : Int))) (Int.toNat (0 : Int)) (0 : Int))) ∧ (((List.getD (homR s.2.1.2.2.2.1 s.2.1.2.2.2.2.1 (List.getD s.2.1.2.2.2.1.2.1 (Int.toNat s.2.1.2.2.1) (0 : Int))) (Int.toNat (0 : Int)) (0 : Int)) < (((List.length s.2.1.2.2.2.1.2.2.2.2) : Nat) : Int)) ∧ (((0 : Int) ≤ s.2.1.2.2.1) ∧ ((s.2.1.2.2.1 < (((List.length (List.getD s.2.1.2.2.2.1.2.2.2.2 (Int.toNat (List.getD (homR s.2.1.2.2.2.1 s.2.1.2.2.2.2.1 (List.getD s.2.1.2.2.2.1.2.1 (Int.toNat s.2.1.2.2.1) (0 : Int))) (Int.toNat (0 : Int)) (0 : Int))) ([] : List Int))) : Nat) : Int)) ∧ (cnd ((compR s.2.1.2.2.2.1 (List.getD (homR s.2.1.2.2.2.1 s.2.1.2.2.2.2.1 (List.getD s.2.1.2.2.2.1.2.1 (Int.toNat s.2.1.2.1) (0 : Int))) (Int.toNat (0 : Int)) (0 : Int)) s.2.1.2.1) == (compR s.2.1.2.2.2.1 (List.getD (homR s.2.1.2.2.2.1 s.2.1.2.2.2.2.1 (List.getD s.2.1.2.2.2.1.2.1 (Int.toNat s.2.1.2.2.1) (0 : Int))) (Int.toNat (0 : Int)) (0 : Int)) s.2.1.2.2.1)) (((0 : Int) ≤ (0 : Int)) ∧ (((0 : Int) < (((List.length (homR s.2.1.2.2.2.1 s.2.1.2.2.2.2.1 (List.getD s.2.1.2.2.2.1.2.1 (Int.toNat s.2.1.2.1) (0 : Int)))) : Nat) : Int)) ∧ (((0 : Int) ≤ (0 : Int)) ∧ (((0 : Int) < (((List.length (homR s.2.1.2.2.2.1 s.2.1.2.2.2.2.1 (List.getD s.2.1.2.2.2.1.2.1 (Int.toNat s.2.1.2.2.1) (0 : Int)))) : Nat) : Int)) ∧ (K ((List.getD (homR s.2.1.2.2.2.1 s.2.1.2.2.2.2.1 (List.getD s.2.1.2.2.2.1.2.1 (Int.toNat s.2.1.2.1) (0 : Int))) (Int.toNat (0 : Int)) (0 : Int)), ((List.getD (homR s.2.1.2.2.2.1 s.2.1.2.2.2.2.1 (List.getD s.2.1.2.2.2.1.2.1 (Int.toNat s.2.1.2.2.1) (0 : Int))) (Int.toNat (0 : Int)) (0 : Int)), (Bool.true, ())))))))) ((inK IntKind.i64 ((0 : Int) + (1 : Int))) ∧ (next (1, ((s.2.1.1, (s.2.1.2.1, (s.2.1.2.2.1, (s.2.1.2.2.2.1, ((s.2.1.2.2.2.2.1 + (1 : Int)), ((0 : Int), (((0 : Int) + (1 : Int)), ((homR s.2.1.2.2.2.1 s.2.1.2.2.2.2.1 (List.getD s.2.1.2.2.2.1.2.1 (Int.toNat s.2.1.2.1) (0 : Int))), ((homR s.2.1.2.2.2.1 s.2.1.2.2.2.2.1 (List.getD s.2.1.2.2.2.1.2.1 (Int.toNat s.2.1.2.2.1) (0 : Int))), ()))))))))), ()))))))))))))))))))))))))))))))) (cnd (Nat.beq s.1 1) (cnd (s.2.1.2.2.2.2.2.1 == (((List.length s.2.1.2.2.2.2.2.2.2.1) : Nat) : Int)) (next (0, ((s.2.1.1, (s.2.1.2.1, (s.2.1.2.2.1, (s.2.1.2.2.2.1, (s.2.1.2.2.2.2.1, (s.2.1.2.2.2.2.2.1, (s.2.1.2.2.2.2.2.2.1, (s.2.1.2.2.2.2.2.2.2.1, (s.2.1.2.2.2.2.2.2.2.2.1, ()))))))))), ()))) ((((s.2.1.2.2.2.2.2.2.1 == (((List.length s.2.1.2.2.2.2.2.2.2.2.1) : Nat) : Int)) = Bool.false) → ((s.2.1.2.2.2.2.2.1 < (((List.length s.2.1.2.2.2.2.2.2.2.1) : Nat) : Int)) ∧ ((0 : Int) ≤ s.2.1.2.2.2.2.2.1))) ∧ ((((s.2.1.2.2.2.2.2.2.1 == (((List.length s.2.1.2.2.2.2.2.2.2.2.1) : Nat) : Int)) = Bool.false) → (((List.getD s.2.1.2.2.2.2.2.2.2.1 (Int.toNat s.2.1.2.2.2.2.2.1) (0 : Int)) < (((List.length s.2.1.1.2.2) : Nat) : Int)) ∧ ((0 : Int) ≤ (List.getD s.2.1.2.2.2.2.2.2.2.1 (Int.toNat s.2.1.2.2.2.2.2.1) (0 : Int))))) ∧ (cnd ((s.2.1.2.2.2.2.2.2.1 == (((List.length s.2.1.2.2.2.2.2.2.2.2.1) : Nat) : Int)) || (!(List.getD s.2.1.1.2.2 (Int.toNat (List.getD s.2.1.2.2.2.2.2.2.2.1 (Int.toNat s.2.1.2.2.2.2.2.1) (0 : Int))) Bool.false))) ((inK IntKind.i64 (s.2.1.2.2.2.2.2.1 + (1 : Int))) ∧ (next (1, ((s.2.1.1, (s.2.1.2.1, (s.2.1.2.2.1, (s.2.1.2.2.2.1, (s.2.1.2.2.2.2.1, ((s.2.1.2.2.2.2.2.1 + (1 : Int)), ((0 : Int), (s.2.1.2.2.2.2.2.2.2.1, (s.2.1.2.2.2.2.2.2.2.2.1, ()))))))))), ())))) (((0 : Int) ≤ s.2.1.2.2.2.2.2.1) ∧ ((s.2.1.2.2.2.2.2.1 < (((List.length s.2.1.2.2.2.2.2.2.2.1) : Nat) : Int)) ∧ (((0 : Int) ≤ (List.getD s.2.1.2.2.2.2.2.2.2.1 (Int.toNat s.2.1.2.2.2.2.2.1) (0 : Int))) ∧ (((List.getD s.2.1.2.2.2.2.2.2.2.1 (Int.toNat s.2.1.2.2.2.2.2.1) (0 : Int)) < (((List.length s.2.1.2.2.2.1.2.2.2.2) : Nat) : Int)) ∧ (((0 : Int) ≤ s.2.1.2.1) ∧ ((s.2.1.2.1 < (((List.length (List.getD s.2.1.2.2.2.1.2.2.2.2 (Int.toNat (List.getD s.2.1.2.2.2.2.2.2.2.1 (Int.toNat s.2.1.2.2.2.2.2.1) (0 : Int))) ([] : List Int))) : Nat) : Int)) ∧ (((0 : Int) ≤ s.2.1.2.2.2.2.2.2.1) ∧ ((s.2.1.2.2.2.2.2.2.1 < (((List.length s.2.1.2.2.2.2.2.2.2.2.1) : Nat) : Int)) ∧ (((0 : Int) ≤ (List.getD s.2.1.2.2.2.2.2.2.2.2.1 (Int.toNat s.2.1.2.2.2.2.2.2.1) (0 : Int))) ∧ (((List.getD s.2.1.2.2.2.2.2.2.2.2.1 (Int.toNat s.2.1.2.2.2.2.2.2.1) (0 : Int)) < (((List.length s.2.1.2.2.2.1.2.2.2.2) : Nat) : Int)) ∧ (((0 : Int) ≤ s.2.1.2.2.1) ∧ ((s.2.1.2.2.1 < (((List.length (List.getD s.2.1.2.2.2.1.2.2.2.2 (Int.toNat (List.getD s.2.1.2.2.2.2.2.2.2.2.1 (Int.toNat s.2.1.2.2.2.2.2.2.1) (0 : Int))) ([] : List Int))) : Nat) : Int)) ∧ (cnd ((compR s.2.1.2.2.2.1 (List.getD s.2.1.2.2.2.2.2.2.2.1 (Int.toNat s.2.1.2.2.2.2.2.1) (0 : Int)) s.2.1.2.1) == (compR s.2.1.2.2.2.1 (List.getD s.2.1.2.2.2.2.2.2.2.2.1 (Int.toNat s.2.1.2.2.2.2.2.2.1) (0 : Int)) s.2.1.2.2.1)) (((0 : Int) ≤ s.2.1.2.2.2.2.2.1) ∧ ((s.2.1.2.2.2.2.2.1 < (((List.length s.2.1.2.2.2.2.2.2.2.1) : Nat) : Int)) ∧ (((0 : Int) ≤ s.2.1.2.2.2.2.2.2.1) ∧ ((s.2.1.2.2.2.2.2.2.1 < (((List.length s.2.1.2.2.2.2.2.2.2.2.1) : Nat) : Int)) ∧ (K ((List.getD s.2.1.2.2.2.2.2.2.2.1 (Int.toNat s.2.1.2.2.2.2.2.1) (0 : Int)), ((List.getD s.2.1.2.2.2.2.2.2.2.2.1 (Int.toNat s.2.1.2.2.2.2.2.2.1) (0 : Int)), (Bool.true, ())))))))) ((inK IntKind.i64 (s.2.1.2.2.2.2.2.2.1 + (1 : Int))) ∧ (next (1, ((s.2.1.1, (s.2.1.2.1, (s.2.1.2.2.1, (s.2.1.2.2.2.1, (s.2.1.2.2.2.2.1, (s.2.1.2.2.2.2.2.1, ((s.2.1.2.2.2.2.2.2.1 + (1 : Int)), (s.2.1.2.2.2.2.2.2.2.1, (s.2.1.2.2.2.2.2.2.2.2.1, ()))))))))), ()))))))))))))))))))))) False))))))))))))))))))))))) (0, ((w, (f, (v, (w.1, ((0 : Int), ((0 : Int), ((0 : Int), (([] : List Int), (([] : List Int), ()))))))))), ())))
theorem w_impl_denominators_square (x : denL c_impl_denominators_square.args) (K : Int × Int × Bool × Unit → Prop) : evJ tab (lkp [(88, c_impl_Category_hom), (89, c_impl_Category_then)]) (cutL [(6, 519), (10, 13), (13, 513), (14, 9)]) Try.f137 j0_impl_denominators_square j1_impl_denominators_square (preL j1_impl_denominators_square) 0 .n [(0, .n), (1, .n)] [(0, (.d (.pt denominatorsT))), (1, (.d (.int .i64))), (2, (.d (.int .i64))), (9, (.d (.pt CategoryT))), (10, (.d (.int .i64))), (11, (.d (.int .i64))), (12, (.d (.int .i64))), (13, (.d (.sl (.int .i64)))), (14, (.d (.sl (.int .i64))))] [] c_impl_denominators_square x K = W_impl_denominators_square x.1 x.2.1 x.2.2.1 K := by kernel_rfl
theorem k_impl_denominators_square : okC Try.f137.ntmps (cutL [(6, 519), (10, 13), (13, 513), (14, 9)]) (.seq j0_impl_denominators_square (.scope j1_impl_denominators_square)) = true := by kernel_rfl
theorem m_impl_denominators_square (w : T.den denominatorsT) (f : Int) (v : Int) (hok : allP (okL c_impl_denominators_square.args (w, f, v, ()))) (hpre : allP (c_impl_denominators_square.pre (w, f, v, ()))) : W_impl_denominators_square w f v (fun r => r = c_impl_denominators_square.res (w, f, v, ())) := by
  simp only [c_impl_denominators_square, okL, T.oks, T.ok, ap, allP, true_and, and_true, implies_true] at hok hpre
  try dsimp only [T.den] at hok
  try dsimp only [T.den] at hpre
  unfold W_impl_denominators_square
  obtain ⟨D, f0, f1, v0, v1⟩ := hpre
  clear hok
  have S := D.sh
  have hob := S.ob
  have hlt := S.lt
  have hm := S.m
  have hK : ∀ r, sqR w.1 w.2.1 f v = some r → (r.2.1, r.2.2, true, ()) = c_impl_denominators_square.res (w, f, v, ()) := fun r h => by simp only [c_impl_denominators_square, h]; rfl
  refine loop_of (fun (s : (Nat × ((((Int × ((List Int) × ((List Int) × ((List Int) × (List (List Int)))))) × ((List Int) × (List Bool))) × (Int × (Int × ((Int × ((List Int) × ((List Int) × ((List Int) × (List (List Int)))))) × (Int × (Int × (Int × ((List Int) × ((List Int) × Unit))))))))) × Unit))) => s.2.1.1 = w ∧ s.2.1.2.1 = f ∧ s.2.1.2.2.1 = v ∧ s.2.1.2.2.2.1 = w.1 ∧ (s.1 = 0 ∧ SqA w f v s.2.1.2.2.2.2.1 ∨ s.1 = 1 ∧ SqB w f v s.2.1.2.2.2.2.1 s.2.1.2.2.2.2.2.1 s.2.1.2.2.2.2.2.2.1 s.2.1.2.2.2.2.2.2.2.1 s.2.1.2.2.2.2.2.2.2.2.1))
    (fun (s : (Nat × ((((Int × ((List Int) × ((List Int) × ((List Int) × (List (List Int)))))) × ((List Int) × (List Bool))) × (Int × (Int × ((Int × ((List Int) × ((List Int) × ((List Int) × (List (List Int)))))) × (Int × (Int × (Int × ((List Int) × ((List Int) × Unit))))))))) × Unit))) => (if s.1 = 0 then (w.1.1 - s.2.1.2.2.2.2.1) * 10000 else (w.1.1 - s.2.1.2.2.2.2.1) * 10000 + (((s.2.1.2.2.2.2.2.2.2.1).length : Int) - s.2.1.2.2.2.2.2.1) * 50 + (((s.2.1.2.2.2.2.2.2.2.2.1).length : Int) - s.2.1.2.2.2.2.2.2.1) + 1).toNat) ?_ ⟨rfl, rfl, rfl, rfl, .inl ⟨rfl, Int.le_refl _, hob.1, by rw [Int.sub_zero]; rfl⟩⟩
  rintro ⟨l, ⟨w', f', v', c', u, i, k, den, num, _⟩, _⟩ next ⟨e1, e2, e3, e4, hl⟩ hnx _ _ _ _ _ _ _ _ _ _ _ _ _ _ _ _ _ _ _
  try dsimp only at e1 e2 e3 e4 hl hnx ⊢
  subst e1 e2 e3 e4
  rcases hl with ⟨rfl, A⟩ | ⟨rfl, B⟩
  · refine cnd_of (fun _ => ?_) (fun h => by simp at h)
    obtain ⟨u0, u1, sc⟩ := A
    refine cnd_of (fun hx => ?_) (fun hx => ?_)
    · have e : u = w'.1.1 := by simpa using hx
      rw [e, scan_n] at sc
      simp only [c_impl_denominators_square, sc]
      rfl
    · have hu : u < w'.1.1 := by have : u ≠ w'.1.1 := by simpa using hx
                                 omega
      refine ⟨f0, f1, hm, hlt, v0, v1, hm, hlt, by rw [inK64]; (try dsimp only); omega, ?_⟩
      have hu1 : u + 1 - 1 = u := by omega
      have hdl : (homR w'.1 u (w'.1.2.1.getD f'.toNat 0)).length ≤ 40 := hom_len40 S
      have hnl : (homR w'.1 u (w'.1.2.1.getD v'.toNat 0)).length ≤ 40 := hom_len40 S
      refine sqBod_ok (K := fun r => r = c_impl_denominators_square.res (w', f', v', ())) (u := u + 1) (i := 0) (k := 0) (den := homR w'.1 u (w'.1.2.1.getD f'.toNat 0)) (num := homR w'.1 u (w'.1.2.1.getD v'.toNat 0)) D f0 f1 v0 v1 ⟨by omega, by omega, by rw [hu1], by rw [hu1], Int.le_refl _, by omega, Int.le_refl _, by omega, by rw [hu1]; exact sc, by rw [hu1]; exact scan_0, fun _ => by rw [hu1]; exact scan_0⟩ (fun A => hnx _ ⟨rfl, rfl, rfl, rfl, .inl ⟨rfl, A⟩⟩ ?_) (fun i' k' B hlt => hnx _ ⟨rfl, rfl, rfl, rfl, .inr ⟨rfl, B⟩⟩ ?_) hK
      · skip
        try dsimp only
        rw [if_pos rfl, if_pos rfl]
        omega
      · have := B.i0
        have := B.i1
        have := B.k0
        have := B.k1
        skip
        try dsimp only
        rw [if_neg (by omega), if_pos rfl]
        omega
  · refine cnd_of (fun h => by simp at h) (fun _ => cnd_of (fun _ => ?_) (fun h => by simp at h))
    have b1 := B.i1
    have b2 := B.k1
    have b3 := B.u1
    have b4 := B.u0
    have b5 := B.i0
    have b6 := B.k0
    refine sqBod_ok (K := fun r => r = c_impl_denominators_square.res (w', f', v', ())) D f0 f1 v0 v1 B (fun A => hnx _ ⟨rfl, rfl, rfl, rfl, .inl ⟨rfl, A⟩⟩ ?_) (fun i' k' B' hlt => hnx _ ⟨rfl, rfl, rfl, rfl, .inr ⟨rfl, B'⟩⟩ ?_) hK
    · skip
      try dsimp only
      rw [if_pos rfl, if_neg (by omega)]
      omega
    · have := B'.i1
      have := B'.k1
      have := B.u1
      skip
      try dsimp only
      rw [if_neg (by omega), if_neg (by omega)]
      omega
theorem ct_impl_denominators_square : CtOk Try.prog 137 c_impl_denominators_square :=
  ct_jump (Φ := lkp [(88, c_impl_Category_hom), (89, c_impl_Category_then)]) (good_cons ct_impl_Category_hom (good_cons ct_impl_Category_then good_nil)) tab_ok (by kernel_rfl) (fn := Try.f137) (c0 := j0_impl_denominators_square) (c := j1_impl_denominators_square) (by kernel_rfl) (by kernel_rfl) (by kernel_rfl) c_impl_denominators_square rfl (preL j1_impl_denominators_square) 0 (postL j1_impl_denominators_square) (by kernel_rfl) (by kernel_rfl) .n [(0, .n), (1, .n)] [(0, (.d (.pt denominatorsT))), (1, (.d (.int .i64))), (2, (.d (.int .i64))), (9, (.d (.pt CategoryT))), (10, (.d (.int .i64))), (11, (.d (.int .i64))), (12, (.d (.int .i64))), (13, (.d (.sl (.int .i64)))), (14, (.d (.sl (.int .i64))))] [] (cutL [(6, 519), (10, 13), (13, 513), (14, 9)]) (by kernel_rfl) (by kernel_rfl) k_impl_denominators_square (by kernel_rfl) (by decide) (fun x K => W_impl_denominators_square x.1 x.2.1 x.2.2.1 K) w_impl_denominators_square (fun x h1 h2 => m_impl_denominators_square x.1 x.2.1 x.2.2.1 h1 h2)
def c_impl_denominators_hasSquare : Ct := ⟨[(.pt denominatorsT), (.int .i64), (.int .i64)], [false, false, false], fun x => [DenP x.1, 0 ≤ x.2.1, x.2.1 < x.1.1.2.1.length, 0 ≤ x.2.2.1, x.2.2.1 < x.1.1.2.1.length], [(false, (.fz .bool))], fun x => ((sqR x.1.1 x.1.2.1 x.2.1 x.2.2.1).isSome, ()), false, none⟩
def W_impl_denominators_hasSquare (w : T.den denominatorsT) (f : Int) (v : Int) (K : Bool × Unit → Prop) : Prop := ((DenP w) ∧ (((0 : Int) ≤ f) ∧ ((f < (((List.length w.1.2.1) : Nat) : Int)) ∧ (((0 : Int) ≤ v) ∧ ((v < (((List.length w.1.2.1) : Nat) : Int)) ∧ (K ((Option.isSome (sqR w.1 w.2.1 f v)), ())))))))
theorem w_impl_denominators_hasSquare (x : denL c_impl_denominators_hasSquare.args) (K : Bool × Unit → Prop) : evF tab (lkp [(137, c_impl_denominators_square)]) (cutL []) Try.f109 (bodyOf Try.f109) .n c_impl_denominators_hasSquare x K = W_impl_denominators_hasSquare x.1 x.2.1 x.2.2.1 K := by kernel_rfl
theorem k_impl_denominators_hasSquare : okC Try.f109.ntmps (cutL []) (bodyOf Try.f109) = true := by kernel_rfl
theorem m_impl_denominators_hasSquare (w : T.den denominatorsT) (f : Int) (v : Int) (hok : allP (okL c_impl_denominators_hasSquare.args (w, f, v, ()))) (hpre : allP (c_impl_denominators_hasSquare.pre (w, f, v, ()))) : W_impl_denominators_hasSquare w f v (fun r => r = c_impl_denominators_hasSquare.res (w, f, v, ())) := by
  simp only [c_impl_denominators_hasSquare, okL, T.oks, T.ok, ap, allP, true_and, and_true, implies_true] at hok hpre
  try dsimp only [T.den] at hok
  try dsimp only [T.den] at hpre
  unfold W_impl_denominators_hasSquare
  exact ⟨hpre.1, hpre.2.1, hpre.2.2.1, hpre.2.2.2.1, hpre.2.2.2.2, rfl⟩
theorem ct_impl_denominators_hasSquare : CtOk Try.prog 109 c_impl_denominators_hasSquare :=
  ct_by (Φ := lkp [(137, c_impl_denominators_square)]) (good_cons ct_impl_denominators_square good_nil) tab_ok (by kernel_rfl) (fn := Try.f109) (c := bodyOf Try.f109) (by kernel_rfl) (by kernel_rfl) (by kernel_rfl) c_impl_denominators_hasSquare rfl .n (cutL []) (by kernel_rfl) (by kernel_rfl) k_impl_denominators_hasSquare (by decide) (fun x K => W_impl_denominators_hasSquare x.1 x.2.1 x.2.2.1 K) w_impl_denominators_hasSquare (fun x h1 h2 => m_impl_denominators_hasSquare x.1 x.2.1 x.2.2.1 h1 h2)
def ffS1R (c : CategoryD) (l : List Int) (f i : Int) : Option (Int × Int × Int) := if c.2.2.1.getD f.toNat 0 = c.2.2.1.getD (l.getD i.toNat 0).toNat 0 ∧ (sqR c l f (l.getD i.toNat 0)).isSome = false then some (2, f, l.getD i.toNat 0) else none
def ffSR (c : CategoryD) (l : List Int) (f : Int) : Option (Int × Int × Int) := scanR (ffS1R c l f) l.length 0
def ffC1R (c : CategoryD) (l : List Int) (f g : Int) : Option (Int × Int × Int) := if parR c f g = true ∧ canR c l f g = false then some (3, f, g) else none
def ffCR (c : CategoryD) (l : List Int) (f : Int) : Option (Int × Int × Int) := scanR (ffC1R c l f) ((c.2.1.length : Int) - (f + 1)).toNat (f + 1)
def ffR (c : CategoryD) (l : List Int) : Int × Int × Int := if (closedR c l).1 ≠ 0 then closedR c l else (match scanR (ffSR c l) c.2.1.length 0 with
  | some r => r
  | none => (scanR (ffCR c l) c.2.1.length 0).getD (0, -1, -1))

def c_spec_l33Fault : Ct := ⟨[CategoryT, (.sl (.int .i64))], [true, false], fun x => [ShapeP x.1, withinR x.2.1 x.1.2.1.length = true], [(false, (.fz (.int .i64))), (false, (.fz (.int .i64))), (false, (.fz (.int .i64)))], fun x => ((ffR x.1 x.2.1).1, (ffR x.1 x.2.1).2.1, (ffR x.1 x.2.1).2.2, ()), false, none⟩
def W_spec_l33Fault (c : CategoryD) (w : List Int) (K : Int × Int × Int × Unit → Prop) : Prop := ((ShapeP c) ∧ (((withinR w (((List.length c.2.1) : Nat) : Int)) = Bool.true) ∧ (cnd ((closedR c w).1 != (0 : Int)) (K ((closedR c w).1, ((closedR c w).2.1, ((closedR c w).2.2, ())))) (loopW (S := ((Int × Unit) × Unit)) (fun s => (fun next => ((inK IntKind.i64 s.1.1) → (cnd (decide (s.1.1 < (((List.length c.2.1) : Nat) : Int))) (loopW (S := ((Int × Unit) × Unit)) (fun s1 => (fun next1 => ((inK IntKind.i64 s1.1.1) → (cnd (decide (s1.1.1 < (((List.length w) : Nat) : Int))) (((0 : Int) ≤ s.1.1) ∧ ((s.1.1 < (((List.length c.2.2.1) : Nat) : Int)) ∧ (((0 : Int) ≤ s1.1.1) ∧ ((s1.1.1 < (((List.length w) : Nat) : Int)) ∧ (((0 : Int) ≤ (List.getD w (Int.toNat s1.1.1) (0 : Int))) ∧ (((List.getD w (Int.toNat s1.1.1) (0 : Int)) < (((List.length c.2.2.1) : Nat) : Int)) ∧ (joinW (S := (Unit × Unit)) (fun s2 => ((inK IntKind.i64 (s1.1.1 + (1 : Int))) ∧ (next1 (((s1.1.1 + (1 : Int)), ()), ())))) (fun k => (cnd ((List.getD c.2.2.1 (Int.toNat s.1.1) (0 : Int)) == (List.getD c.2.2.1 (Int.toNat (List.getD w (Int.toNat s1.1.1) (0 : Int))) (0 : Int))) (((0 : Int) ≤ s1.1.1) ∧ ((s1.1.1 < (((List.length w) : Nat) : Int)) ∧ ((ShapeP c) ∧ (((withinR w (((List.length c.2.1) : Nat) : Int)) = Bool.true) ∧ (((0 : Int) ≤ s.1.1) ∧ ((s.1.1 < (((List.length c.2.1) : Nat) : Int)) ∧ (((0 : Int) ≤ (List.getD w (Int.toNat s1.1.1) (0 : Int))) ∧ (((List.getD w (Int.toNat s1.1.1) (0 : Int)) < (((List.length c.2.1) : Nat) : Int)) ∧ (cnd (!(Option.isSome (sqR c w s.1.1 (List.getD w (Int.toNat s1.1.1) (0 : Int))))) (((0 : Int) ≤ s1.1.1) ∧ ((s1.1.1 < (((List.length w) : Nat) : Int)) ∧ (K ((2 : Int), (s.1.1, ((List.getD w (Int.toNat s1.1.1) (0 : Int)), ())))))) (k ((), ()))))))))))) (k ((), ()))))))))))) ((inK IntKind.i64 (s.1.1 + (1 : Int))) ∧ (next (((s.1.1 + (1 : Int)), ()), ()))))))) (((0 : Int), ()), ())) (loopW (S := ((Int × Unit) × Unit)) (fun s1 => (fun next1 => ((inK IntKind.i64 s1.1.1) → (cnd (decide (s1.1.1 < (((List.length c.2.1) : Nat) : Int))) ((inK IntKind.i64 (s1.1.1 + (1 : Int))) ∧ (loopW (S := ((Int × Unit) × Unit)) (fun s2 => (fun next2 => ((inK IntKind.i64 s2.1.1) → (cnd (decide (s2.1.1 < (((List.length c.2.1) : Nat) : Int))) ((ShapeP c) ∧ (((0 : Int) ≤ s1.1.1) ∧ ((s1.1.1 < (((List.length c.2.1) : Nat) : Int)) ∧ (((0 : Int) ≤ s2.1.1) ∧ ((s2.1.1 < (((List.length c.2.1) : Nat) : Int)) ∧ ((((parR c s1.1.1 s2.1.1) = Bool.true) → (((withinR w (((List.length c.2.1) : Nat) : Int)) = Bool.true) ∧ (((0 : Int) ≤ s1.1.1) ∧ ((s1.1.1 < (((List.length c.2.1) : Nat) : Int)) ∧ (((0 : Int) ≤ s2.1.1) ∧ ((s2.1.1 < (((List.length c.2.1) : Nat) : Int)) ∧ (ShapeP c))))))) ∧ (cnd ((parR c s1.1.1 s2.1.1) && (!(canR c w s1.1.1 s2.1.1))) (K ((3 : Int), (s1.1.1, (s2.1.1, ())))) ((inK IntKind.i64 (s2.1.1 + (1 : Int))) ∧ (next2 (((s2.1.1 + (1 : Int)), ()), ())))))))))) ((inK IntKind.i64 (s1.1.1 + (1 : Int))) ∧ (next1 (((s1.1.1 + (1 : Int)), ()), ()))))))) (((s1.1.1 + (1 : Int)), ()), ()))) (K ((0 : Int), ((-(1 : Int)), ((-(1 : Int)), ())))))))) (((0 : Int), ()), ())))))) (((0 : Int), ()), ())))))
theorem w_spec_l33Fault (x : denL c_spec_l33Fault.args) (K : Int × Int × Int × Unit → Prop) : evF tab (lkp [(104, c_spec_l03Parallel), (105, c_spec_l33Cancels), (102, c_spec_l33Closed), (103, c_spec_l33Square)]) (cutL [(11, 13), (12, 16), (14, 7)]) Try.f64 (bodyOf Try.f64) (.s .n (.s .n (.s .n (.s .n (.s (.s .n (.l [(11, (.d (.int .i64)))] [] [1, 2, 10] (.s .n (.s (.s .n (.l [(12, (.d (.int .i64)))] [] [1, 2, 10, 11] (.s .n (.s (.s .n (.j [] [] [1, 2, 10, 11, 12] .n)) .n)))) .n)))) (.s (.s .n (.l [(17, (.d (.int .i64)))] [] [1, 2, 10] (.s .n (.s (.s .n (.l [(18, (.d (.int .i64)))] [] [1, 2, 10, 17] .n)) .n)))) .n)))))) c_spec_l33Fault x K = W_spec_l33Fault x.1 x.2.1 K := by kernel_rfl
theorem k_spec_l33Fault : okC Try.f64.ntmps (cutL [(11, 13), (12, 16), (14, 7)]) (bodyOf Try.f64) = true := by kernel_rfl
theorem m_spec_l33Fault (c : CategoryD) (w : List Int) (hok : allP (okL c_spec_l33Fault.args (c, w, ()))) (hpre : allP (c_spec_l33Fault.pre (c, w, ()))) : W_spec_l33Fault c w (fun r => r = c_spec_l33Fault.res (c, w, ())) := by
  simp only [c_spec_l33Fault, okL, T.oks, T.ok, ap, allP, true_and, and_true, implies_true] at hok hpre
  try dsimp only [T.den] at hok
  try dsimp only [T.den] at hpre
  unfold W_spec_l33Fault
  obtain ⟨S, hw⟩ := hpre
  have hl : w.length ≤ 140737488355328 := by simp only [nb_eq] at hok; omega
  clear hok
  have hm := S.m
  have hlt := S.lt
  have resq : ∀ a b d, ffR c w = (a, b, d) → (a, b, d, ()) = c_spec_l33Fault.res (c, w, ()) := fun a b d h => by simp only [c_spec_l33Fault, h]
  refine ⟨S, hw, cnd_of (fun hx => ?_) (fun hx => ?_)⟩
  · have h : (closedR c w).1 ≠ 0 := by simpa using hx
    exact resq _ _ _ (by unfold ffR; rw [if_pos h])
  have h : ¬ (closedR c w).1 ≠ 0 := by simpa using hx
  have hc : ffR c w = (match scanR (ffSR c w) c.2.1.length 0 with | some r => r | none => (scanR (ffCR c w) c.2.1.length 0).getD (0, -1, -1)) := by unfold ffR; rw [if_neg h]
  refine loop_ix (n := c.2.1.length) (fun f => scanR (ffSR c w) c.2.1.length 0 = scanR (ffSR c w) ((c.2.1.length : Int) - f).toNat f) (by omega) scan_0 ?_ ?_
  · intro f next f0 f1 hP hn _
    try dsimp only at hn ⊢
    refine cnd_d (fun _ => ?_) (fun h => absurd f1 h)
    refine loop_ix (n := w.length) (fun i => ffSR c w f = scanR (ffS1R c w f) ((w.length : Int) - i).toNat i) (by omega) scan_0 ?_ ?_
    · intro i next2 i0 i1 hP2 hn2 _
      try dsimp only at hn2 ⊢
      obtain ⟨v0, v1⟩ := within_iff.1 hw i i0 i1
      refine cnd_d (fun _ => ⟨f0, by omega, i0, i1, v0, by omega, join_of (fun _ => ffS1R c w f i = none) (fun _ hG => ⟨by rw [inK64]; (try dsimp only); omega, hn2 (by rw [hP2, scan_c i1 hG])⟩) (fun k hk => ?_)⟩) (fun h => absurd i1 h)
      refine cnd_of (fun hx => ⟨i0, i1, S, hw, f0, f1, v0, v1, cnd_of (fun hy => ⟨i0, i1, resq _ _ _ ?_⟩) (fun hy => hk _ ?_)⟩) (fun hx => hk _ ?_)
      · have : ffS1R c w f i = some (2, f, w.getD i.toNat 0) := by unfold ffS1R; rw [if_pos]; exact ⟨by simpa using hx, by simpa using hy⟩
        have e1 : ffSR c w f = some (2, f, w.getD i.toNat 0) := by rw [hP2, scan_s i1 this]
        rw [hc, hP, scan_s f1 e1]
      · unfold ffS1R; rw [if_neg]
        rintro ⟨_, h2⟩
        rw [h2] at hy; simp at hy
      · unfold ffS1R; rw [if_neg]
        rintro ⟨h2, _⟩
        rw [h2] at hx; simp at hx
    · intro next2 hP2 _
      rw [scan_n] at hP2
      exact cnd_d (fun h => absurd h (Int.lt_irrefl _)) (fun _ => ⟨by rw [inK64]; (try dsimp only); omega, hn (by rw [hP, scan_c f1 hP2])⟩)
  · intro next hP _
    rw [scan_n] at hP
    refine cnd_d (fun h => absurd h (Int.lt_irrefl _)) (fun _ => ?_)
    rw [hP] at hc
    try dsimp only at hc
    refine loop_ix (n := c.2.1.length) (fun f => scanR (ffCR c w) c.2.1.length 0 = scanR (ffCR c w) ((c.2.1.length : Int) - f).toNat f) (by omega) scan_0 ?_ ?_
    · intro f next2 f0 f1 hP2 hn2 _
      try dsimp only at hn2 ⊢
      refine cnd_d (fun _ => ⟨by rw [inK64]; (try dsimp only); omega, ?_⟩) (fun h => absurd f1 h)
      refine loop_ix (n := c.2.1.length) (fun g => ffCR c w f = scanR (ffC1R c w f) ((c.2.1.length : Int) - g).toNat g) (by omega) rfl ?_ ?_
      · intro g next3 g0 g1 hP3 hn3 _
        try dsimp only at hn3 ⊢
        refine cnd_d (fun _ => ⟨S, f0, f1, by omega, g1, fun _ => ⟨hw, f0, f1, by omega, g1, S⟩, cnd_of (fun hx => resq _ _ _ ?_) (fun hx => ⟨by rw [inK64]; (try dsimp only); omega, hn3 ?_⟩)⟩) (fun h => absurd g1 h)
        · have : ffC1R c w f g = some (3, f, g) := by unfold ffC1R; rw [if_pos]; simpa using hx
          have e1 : ffCR c w f = some (3, f, g) := by rw [hP3, scan_s g1 this]
          rw [hc, hP2, scan_s f1 e1]; rfl
        · have : ffC1R c w f g = none := by unfold ffC1R; rw [if_neg]; simpa using hx
          rw [hP3, scan_c g1 this]
      · intro next3 hP3 _
        rw [scan_n] at hP3
        exact cnd_d (fun h => absurd h (Int.lt_irrefl _)) (fun _ => ⟨by rw [inK64]; (try dsimp only); omega, hn2 (by rw [hP2, scan_c f1 hP3])⟩)
    · intro next2 hP2 _
      rw [scan_n] at hP2
      exact cnd_d (fun h => absurd h (Int.lt_irrefl _)) (fun _ => resq _ _ _ (by rw [hc, hP2]; rfl))
theorem ct_spec_l33Fault : CtOk Try.prog 64 c_spec_l33Fault :=
  ct_by (Φ := lkp [(104, c_spec_l03Parallel), (105, c_spec_l33Cancels), (102, c_spec_l33Closed), (103, c_spec_l33Square)]) (good_cons ct_spec_l03Parallel (good_cons ct_spec_l33Cancels (good_cons ct_spec_l33Closed (good_cons ct_spec_l33Square good_nil)))) tab_ok (by kernel_rfl) (fn := Try.f64) (c := bodyOf Try.f64) (by kernel_rfl) (by kernel_rfl) (by kernel_rfl) c_spec_l33Fault rfl (.s .n (.s .n (.s .n (.s .n (.s (.s .n (.l [(11, (.d (.int .i64)))] [] [1, 2, 10] (.s .n (.s (.s .n (.l [(12, (.d (.int .i64)))] [] [1, 2, 10, 11] (.s .n (.s (.s .n (.j [] [] [1, 2, 10, 11, 12] .n)) .n)))) .n)))) (.s (.s .n (.l [(17, (.d (.int .i64)))] [] [1, 2, 10] (.s .n (.s (.s .n (.l [(18, (.d (.int .i64)))] [] [1, 2, 10, 17] .n)) .n)))) .n)))))) (cutL [(11, 13), (12, 16), (14, 7)]) (by kernel_rfl) (by kernel_rfl) k_spec_l33Fault (by decide) (fun x K => W_spec_l33Fault x.1 x.2.1 K) w_spec_l33Fault (fun x h1 h2 => m_spec_l33Fault x.1 x.2.1 h1 h2)
theorem lt_eqI {a b c : Int} (h : a < b) (e : b = c) : a < c := e ▸ h
theorem scan_ex {α : Type} {p : Int → Option α} {r : α} : ∀ {n : Nat} {i : Int}, scanR p n i = some r → ∃ j, p j = some r
  | 0, _, h => by cases h
  | n + 1, i, h => by
    rw [scanR] at h
    split at h
    · rename_i q hq; cases h; exact ⟨i, hq⟩
    · exact scan_ex h
theorem clos_kind {c : CategoryD} {l : List Int} (h : (closedR c l).1 ≠ 0) : (closedR c l).1 = 1 := by
  unfold closedR at h ⊢
  split
  · rfl
  · rename_i hb
    rw [if_neg hb] at h
    cases hs : scanR (cl2R c l) l.length 0 with
    | none => rw [hs] at h; exact absurd rfl h
    | some r =>
      obtain ⟨i, hi⟩ := scan_ex hs
      unfold cl2R at hi
      obtain ⟨j, hj⟩ := scan_ex hi
      unfold cl1R at hj
      split at hj
      · cases hj; rfl
      · cases hj

def c_impl_denominators_fault : Ct := ⟨[(.pt denominatorsT)], [false], fun x => [DenP x.1], [(false, (.fz (.int .i64))), (false, (.fz (.int .i64))), (false, (.fz (.int .i64)))], fun x => ((ffR x.1.1 x.1.2.1).1, (ffR x.1.1 x.1.2.1).2.1, (ffR x.1.1 x.1.2.1).2.2, ()), false, none⟩
def W_impl_denominators_fault (w : T.den denominatorsT) (K : Int × Int × Int × Unit → Prop) : Prop := ((DenP w) ∧ (cnd (closFR w).2.2 (K ((1 : Int), ((closFR w).1, ((closFR w).2.1, ())))) (loopW (S := ((Int × Unit) × Unit)) (fun s => (fun next => ((inK IntKind.i64 s.1.1) → (cnd (decide (s.1.1 < (((List.length w.1.2.1) : Nat) : Int))) (loopW (S := ((Int × Unit) × Unit)) (fun s1 => (fun next1 => ((inK IntKind.i64 s1.1.1) → (cnd (decide (s1.1.1 < (((List.length w.2.1) : Nat) : Int))) (((0 : Int) ≤ s1.1.1) ∧ ((s1.1.1 < (((List.length w.2.1) : Nat) : Int)) ∧ (((0 : Int) ≤ s.1.1) ∧ ((s.1.1 < (((List.length w.1.2.2.1) : Nat) : Int)) ∧ (((0 : Int) ≤ (List.getD w.2.1 (Int.toNat s1.1.1) (0 : Int))) ∧ (((List.getD w.2.1 (Int.toNat s1.1.1) (0 : Int)) < (((List.length w.1.2.2.1) : Nat) : Int)) ∧ (((((List.getD w.1.2.2.1 (Int.toNat s.1.1) (0 : Int)) == (List.getD w.1.2.2.1 (Int.toNat (List.getD w.2.1 (Int.toNat s1.1.1) (0 : Int))) (0 : Int))) = Bool.true) → (((0 : Int) ≤ s.1.1) ∧ ((s.1.1 < (((List.length w.1.2.1) : Nat) : Int)) ∧ (((0 : Int) ≤ (List.getD w.2.1 (Int.toNat s1.1.1) (0 : Int))) ∧ (((List.getD w.2.1 (Int.toNat s1.1.1) (0 : Int)) < (((List.length w.1.2.1) : Nat) : Int)) ∧ (DenP w)))))) ∧ (cnd (((List.getD w.1.2.2.1 (Int.toNat s.1.1) (0 : Int)) == (List.getD w.1.2.2.1 (Int.toNat (List.getD w.2.1 (Int.toNat s1.1.1) (0 : Int))) (0 : Int))) && (!(Option.isSome (sqR w.1 w.2.1 s.1.1 (List.getD w.2.1 (Int.toNat s1.1.1) (0 : Int)))))) (K ((2 : Int), (s.1.1, ((List.getD w.2.1 (Int.toNat s1.1.1) (0 : Int)), ())))) ((inK IntKind.i64 (s1.1.1 + (1 : Int))) ∧ (next1 (((s1.1.1 + (1 : Int)), ()), ()))))))))))) ((inK IntKind.i64 (s.1.1 + (1 : Int))) ∧ (next (((s.1.1 + (1 : Int)), ()), ()))))))) (((0 : Int), ()), ())) (loopW (S := ((Int × Unit) × Unit)) (fun s1 => (fun next1 => ((inK IntKind.i64 s1.1.1) → (cnd (decide (s1.1.1 < (((List.length w.1.2.1) : Nat) : Int))) ((inK IntKind.i64 (s1.1.1 + (1 : Int))) ∧ (loopW (S := ((Int × Unit) × Unit)) (fun s2 => (fun next2 => ((inK IntKind.i64 s2.1.1) → (cnd (decide (s2.1.1 < (((List.length w.1.2.1) : Nat) : Int))) (((0 : Int) ≤ s1.1.1) ∧ ((s1.1.1 < (((List.length w.1.2.1) : Nat) : Int)) ∧ ((s1.1.1 < (((List.length w.1.2.2.1) : Nat) : Int)) ∧ (((0 : Int) ≤ s2.1.1) ∧ ((s2.1.1 < (((List.length w.1.2.1) : Nat) : Int)) ∧ ((s2.1.1 < (((List.length w.1.2.2.1) : Nat) : Int)) ∧ ((((((List.getD w.1.2.1 (Int.toNat s1.1.1) (0 : Int)) == (List.getD w.1.2.1 (Int.toNat s2.1.1) (0 : Int))) && ((List.getD w.1.2.2.1 (Int.toNat s1.1.1) (0 : Int)) == (List.getD w.1.2.2.1 (Int.toNat s2.1.1) (0 : Int)))) = Bool.true) → (((0 : Int) ≤ s1.1.1) ∧ ((s1.1.1 < (((List.length w.1.2.1) : Nat) : Int)) ∧ (((0 : Int) ≤ s2.1.1) ∧ ((s2.1.1 < (((List.length w.1.2.1) : Nat) : Int)) ∧ (DenP w)))))) ∧ (cnd ((((List.getD w.1.2.1 (Int.toNat s1.1.1) (0 : Int)) == (List.getD w.1.2.1 (Int.toNat s2.1.1) (0 : Int))) && ((List.getD w.1.2.2.1 (Int.toNat s1.1.1) (0 : Int)) == (List.getD w.1.2.2.1 (Int.toNat s2.1.1) (0 : Int)))) && (!(canR w.1 w.2.1 s1.1.1 s2.1.1))) (K ((3 : Int), (s1.1.1, (s2.1.1, ())))) ((inK IntKind.i64 (s2.1.1 + (1 : Int))) ∧ (next2 (((s2.1.1 + (1 : Int)), ()), ()))))))))))) ((inK IntKind.i64 (s1.1.1 + (1 : Int))) ∧ (next1 (((s1.1.1 + (1 : Int)), ()), ()))))))) (((s1.1.1 + (1 : Int)), ()), ()))) (K ((0 : Int), ((-(1 : Int)), ((-(1 : Int)), ())))))))) (((0 : Int), ()), ())))))) (((0 : Int), ()), ()))))
theorem w_impl_denominators_fault (x : denL c_impl_denominators_fault.args) (K : Int × Int × Int × Unit → Prop) : evF tab (lkp [(86, c_impl_Category_arrows), (110, c_impl_Category_ends), (111, c_impl_denominators_cancels), (108, c_impl_denominators_closedFault), (109, c_impl_denominators_hasSquare)]) (cutL [(21, 17), (11, 25)]) Try.f66 (bodyOf Try.f66) (.s .n (.s .n (.s .n (.s (.s .n (.l [(29, (.d (.int .i64)))] [] [0, 8, 28] (.s .n (.s .n (.s (.s .n (.s .n (.l [(37, (.d (.int .i64)))] [] [0, 8, 9, 28, 29, 35, 36] .n))) .n))))) (.s (.s .n (.l [(74, (.d (.int .i64)))] [] [0, 8, 73] (.s .n (.s .n (.s (.s .n (.s .n (.l [(13, (.d (.int .i64)))] [] [0, 8, 12, 73, 74] .n))) .n))))) .n))))) c_impl_denominators_fault x K = W_impl_denominators_fault x.1 K := by kernel_rfl
theorem k_impl_denominators_fault : okC Try.f66.ntmps (cutL [(21, 17), (11, 25)]) (bodyOf Try.f66) = true := by kernel_rfl
theorem m_impl_denominators_fault (w : T.den denominatorsT) (hok : allP (okL c_impl_denominators_fault.args (w, ()))) (hpre : allP (c_impl_denominators_fault.pre (w, ()))) : W_impl_denominators_fault w (fun r => r = c_impl_denominators_fault.res (w, ())) := by
  simp only [c_impl_denominators_fault, okL, T.oks, T.ok, ap, allP, true_and, and_true, implies_true] at hok hpre
  try dsimp only [T.den] at hok
  try dsimp only [T.den] at hpre
  unfold W_impl_denominators_fault
  have D : DenP w := hpre
  have hl : w.2.1.length ≤ 140737488355328 := by simp only [nb_eq] at hok; omega
  clear hok hpre
  have S := D.sh
  have hw := D.wi
  have hm := S.m
  have hlt := S.lt
  have hlt' : ((w.1.2.1.length : Nat) : Int) = ((w.1.2.2.1.length : Nat) : Int) := by omega
  have resq : ∀ a b d, ffR w.1 w.2.1 = (a, b, d) → (a, b, d, ()) = c_impl_denominators_fault.res (w, ()) := fun a b d h => by simp only [c_impl_denominators_fault, h]
  have hcf : closFR w = if (closedR w.1 w.2.1).1 = 0 then (0, 0, false) else ((closedR w.1 w.2.1).2.1, (closedR w.1 w.2.1).2.2, true) := rfl
  refine ⟨D, cnd_of (fun hx => ?_) (fun hx => ?_)⟩
  · have h : (closedR w.1 w.2.1).1 ≠ 0 := fun h => by rw [hcf, if_pos h] at hx; cases hx
    rw [if_neg h] at hcf
    have hk := clos_kind h
    refine resq _ _ _ ?_
    rw [hcf]
    unfold ffR; rw [if_pos h]
    exact Prod.ext hk rfl
  have h : ¬ (closedR w.1 w.2.1).1 ≠ 0 := fun h => by rw [hcf, if_neg h] at hx; cases hx
  have hc : ffR w.1 w.2.1 = (match scanR (ffSR w.1 w.2.1) w.1.2.1.length 0 with | some r => r | none => (scanR (ffCR w.1 w.2.1) w.1.2.1.length 0).getD (0, -1, -1)) := by unfold ffR; rw [if_neg h]; try rfl
  refine loop_ix (n := w.1.2.1.length) (fun f => scanR (ffSR w.1 w.2.1) w.1.2.1.length 0 = scanR (ffSR w.1 w.2.1) ((w.1.2.1.length : Int) - f).toNat f) (by omega) scan_0 ?_ ?_
  · intro f next f0 f1 hP hn _
    try dsimp only at hn ⊢
    refine cnd_d (fun _ => ?_) (fun h => absurd f1 h)
    refine loop_ix (n := w.2.1.length) (fun i => ffSR w.1 w.2.1 f = scanR (ffS1R w.1 w.2.1 f) ((w.2.1.length : Int) - i).toNat i) (by omega) scan_0 ?_ ?_
    · intro i next2 i0 i1 hP2 hn2 _
      try dsimp only at hn2 ⊢
      obtain ⟨v0, v1⟩ := within_iff.1 hw i i0 i1
      refine cnd_d (fun _ => ⟨i0, i1, f0, lt_eqI f1 hlt', v0, lt_eqI v1 hlt', fun _ => ⟨f0, f1, v0, v1, D⟩, ?_⟩) (fun h => absurd i1 h)
      refine cnd_of (fun hy => resq _ _ _ ?_) (fun hy => ⟨by rw [inK64]; (try dsimp only); omega, hn2 ?_⟩)
      · have : ffS1R w.1 w.2.1 f i = some (2, f, w.2.1.getD i.toNat 0) := by unfold ffS1R; rw [if_pos]; simpa using hy
        have e1 : ffSR w.1 w.2.1 f = some (2, f, w.2.1.getD i.toNat 0) := by rw [hP2, scan_s i1 this]
        rw [hc, hP, scan_s f1 e1]
      · have : ffS1R w.1 w.2.1 f i = none := by
          unfold ffS1R; rw [if_neg]
          rintro ⟨h1, h2⟩
          rw [h1, h2] at hy; simp at hy
        rw [hP2, scan_c i1 this]
    · intro next2 hP2 _
      rw [scan_n] at hP2
      exact cnd_d (fun h => absurd h (Int.lt_irrefl _)) (fun _ => ⟨by rw [inK64]; (try dsimp only); omega, hn (by rw [hP, scan_c f1 hP2])⟩)
  · intro next hP _
    rw [scan_n] at hP
    refine cnd_d (fun h => absurd h (Int.lt_irrefl _)) (fun _ => ?_)
    rw [hP] at hc
    try dsimp only at hc
    refine loop_ix (n := w.1.2.1.length) (fun f => scanR (ffCR w.1 w.2.1) w.1.2.1.length 0 = scanR (ffCR w.1 w.2.1) ((w.1.2.1.length : Int) - f).toNat f) (by omega) scan_0 ?_ ?_
    · intro f next2 f0 f1 hP2 hn2 _
      try dsimp only at hn2 ⊢
      refine cnd_d (fun _ => ⟨by rw [inK64]; (try dsimp only); omega, ?_⟩) (fun h => absurd f1 h)
      refine loop_ix (n := w.1.2.1.length) (fun g => ffCR w.1 w.2.1 f = scanR (ffC1R w.1 w.2.1 f) ((w.1.2.1.length : Int) - g).toNat g) (by omega) rfl ?_ ?_
      · intro g next3 g0 g1 hP3 hn3 _
        try dsimp only at hn3 ⊢
        refine cnd_d (fun _ => ⟨f0, f1, lt_eqI f1 hlt', by omega, g1, lt_eqI g1 hlt', fun _ => ⟨f0, f1, by omega, g1, D⟩, cnd_of (fun hx => resq _ _ _ ?_) (fun hx => ⟨by rw [inK64]; (try dsimp only); omega, hn3 ?_⟩)⟩) (fun h => absurd g1 h)
        · have : ffC1R w.1 w.2.1 f g = some (3, f, g) := by unfold ffC1R parR; rw [if_pos]; simpa using hx
          have e1 : ffCR w.1 w.2.1 f = some (3, f, g) := by rw [hP3, scan_s g1 this]
          rw [hc, hP2, scan_s f1 e1]; rfl
        · have : ffC1R w.1 w.2.1 f g = none := by
            unfold ffC1R parR; rw [if_neg]
            rintro ⟨h1, h2⟩
            rw [h1, h2] at hx; cases hx
          rw [hP3, scan_c g1 this]
      · intro next3 hP3 _
        rw [scan_n] at hP3
        exact cnd_d (fun h => absurd h (Int.lt_irrefl _)) (fun _ => ⟨by rw [inK64]; (try dsimp only); omega, hn2 (by rw [hP2, scan_c f1 hP3])⟩)
    · intro next2 hP2 _
      rw [scan_n] at hP2
      exact cnd_d (fun h => absurd h (Int.lt_irrefl _)) (fun _ => resq _ _ _ (by rw [hc, hP2]; rfl))
theorem ct_impl_denominators_fault : CtOk Try.prog 66 c_impl_denominators_fault :=
  ct_by (Φ := lkp [(86, c_impl_Category_arrows), (110, c_impl_Category_ends), (111, c_impl_denominators_cancels), (108, c_impl_denominators_closedFault), (109, c_impl_denominators_hasSquare)]) (good_cons ct_impl_Category_arrows (good_cons ct_impl_Category_ends (good_cons ct_impl_denominators_cancels (good_cons ct_impl_denominators_closedFault (good_cons ct_impl_denominators_hasSquare good_nil))))) tab_ok (by kernel_rfl) (fn := Try.f66) (c := bodyOf Try.f66) (by kernel_rfl) (by kernel_rfl) (by kernel_rfl) c_impl_denominators_fault rfl (.s .n (.s .n (.s .n (.s (.s .n (.l [(29, (.d (.int .i64)))] [] [0, 8, 28] (.s .n (.s .n (.s (.s .n (.s .n (.l [(37, (.d (.int .i64)))] [] [0, 8, 9, 28, 29, 35, 36] .n))) .n))))) (.s (.s .n (.l [(74, (.d (.int .i64)))] [] [0, 8, 73] (.s .n (.s .n (.s (.s .n (.s .n (.l [(13, (.d (.int .i64)))] [] [0, 8, 12, 73, 74] .n))) .n))))) .n))))) (cutL [(21, 17), (11, 25)]) (by kernel_rfl) (by kernel_rfl) k_impl_denominators_fault (by decide) (fun x K => W_impl_denominators_fault x.1 K) w_impl_denominators_fault (fun x h1 h2 => m_impl_denominators_fault x.1 h1 h2)
def arrCodeR (c : CategoryD) (l : List Int) : Int := if catR c = true then (if withinR l c.2.1.length = true then 0 else 2) else 1
theorem arrCode_1 {c : CategoryD} {f : Int} (h : arrCodeR c [f] = 0) : ShapeP c ∧ 0 ≤ f ∧ f < c.2.1.length := by
  unfold arrCodeR at h
  split at h
  · rename_i hc
    split at h
    · rename_i hw
      simp only [withinR, List.all_cons, List.all_nil, inR, Bool.and_true, Bool.and_eq_true, decide_eq_true_eq] at hw
      exact ⟨cat_shape hc, hw.1, by omega⟩
    · omega
  · omega

def c_impl_arrowCode : Ct := ⟨[(.pt CategoryT), (.sl (.int .i64))], [false, false], fun x => [], [(false, (.fz (.int .i64)))], fun x => (arrCodeR x.1 x.2.1, ()), false, none⟩
def W_impl_arrowCode (c : CategoryD) (list : List Int) (K : Int × Unit → Prop) : Prop := (cnd (!(catR c)) (K ((1 : Int), ())) ((inK IntKind.i64 ((((List.length c.2.1) : Nat) : Int) - (1 : Int))) ∧ (cnd (!(withinR list (((List.length c.2.1) : Nat) : Int))) (K ((2 : Int), ())) (K ((0 : Int), ())))))
theorem w_impl_arrowCode (x : denL c_impl_arrowCode.args) (K : Int × Unit → Prop) : evF tab (lkp [(86, c_impl_Category_arrows), (60, c_impl_Category_isCategory), (85, c_impl_within)]) (cutL []) Try.f53 (bodyOf Try.f53) .n c_impl_arrowCode x K = W_impl_arrowCode x.1 x.2.1 K := by kernel_rfl
theorem k_impl_arrowCode : okC Try.f53.ntmps (cutL []) (bodyOf Try.f53) = true := by kernel_rfl
theorem m_impl_arrowCode (c : CategoryD) (list : List Int) (hok : allP (okL c_impl_arrowCode.args (c, list, ()))) (hpre : allP (c_impl_arrowCode.pre (c, list, ()))) : W_impl_arrowCode c list (fun r => r = c_impl_arrowCode.res (c, list, ())) := by
  simp only [c_impl_arrowCode, okL, T.oks, T.ok, ap, allP, true_and, and_true, implies_true] at hok hpre
  try dsimp only [T.den] at hok
  try dsimp only [T.den] at hpre
  unfold W_impl_arrowCode
  simp only [c_impl_arrowCode, arrCodeR]
  have h1 := fun h => (cat_shape (c := c) h).m
  grind [cnd, nb_eq, inK64]
theorem ct_impl_arrowCode : CtOk Try.prog 53 c_impl_arrowCode :=
  ct_by (Φ := lkp [(86, c_impl_Category_arrows), (60, c_impl_Category_isCategory), (85, c_impl_within)]) (good_cons ct_impl_Category_arrows (good_cons ct_impl_Category_isCategory (good_cons ct_impl_within good_nil))) tab_ok (by kernel_rfl) (fn := Try.f53) (c := bodyOf Try.f53) (by kernel_rfl) (by kernel_rfl) (by kernel_rfl) c_impl_arrowCode rfl .n (cutL []) (by kernel_rfl) (by kernel_rfl) k_impl_arrowCode (by decide) (fun x K => W_impl_arrowCode x.1 x.2.1 K) w_impl_arrowCode (fun x h1 h2 => m_impl_arrowCode x.1 x.2.1 h1 h2)
def risesR (l : List Int) : Bool := allB l.length fun i => decide (1 ≤ i → l.getD (i - 1).toNat 0 < l.getD i.toNat 0)
theorem rises_iff {l : List Int} : risesR l = true ↔ ∀ i : Int, 1 ≤ i → i < l.length → l.getD (i - 1).toNat 0 < l.getD i.toNat 0 := by
  simp only [risesR, allB_iff, decide_eq_true_eq]
  constructor
  · intro h i h1 h2; exact h i (by omega) h2 h1
  · intro h i h0 h1 h2; exact h i h2 h1


def c_impl_rising : Ct := ⟨[(.sl (.int .i64))], [false], fun x => [], [(false, (.fz .bool))], fun x => (risesR x.1, ()), false, none⟩
def W_impl_rising (list : List Int) (K : Bool × Unit → Prop) : Prop := (loopW (S := ((Int × Unit) × Unit)) (fun s => (fun next => ((inK IntKind.i64 s.1.1) → (cnd (decide (s.1.1 < (((List.length list) : Nat) : Int))) ((inK IntKind.i64 (s.1.1 - (1 : Int))) ∧ (((0 : Int) ≤ (s.1.1 - (1 : Int))) ∧ (((s.1.1 - (1 : Int)) < (((List.length list) : Nat) : Int)) ∧ (((0 : Int) ≤ s.1.1) ∧ ((s.1.1 < (((List.length list) : Nat) : Int)) ∧ (cnd (decide ((List.getD list (Int.toNat s.1.1) (0 : Int)) ≤ (List.getD list (Int.toNat (s.1.1 - (1 : Int))) (0 : Int)))) (K (Bool.false, ())) ((inK IntKind.i64 (s.1.1 + (1 : Int))) ∧ (next (((s.1.1 + (1 : Int)), ()), ()))))))))) (K (Bool.true, ())))))) (((1 : Int), ()), ()))
theorem w_impl_rising (x : denL c_impl_rising.args) (K : Bool × Unit → Prop) : evF tab (lkp []) (cutL [(4, 10)]) Try.f106 (bodyOf Try.f106) (.s .n (.s (.s .n (.l [(3, (.d (.int .i64)))] [] [0] .n)) .n)) c_impl_rising x K = W_impl_rising x.1 K := by kernel_rfl
theorem k_impl_rising : okC Try.f106.ntmps (cutL [(4, 10)]) (bodyOf Try.f106) = true := by kernel_rfl
theorem m_impl_rising (list : List Int) (hok : allP (okL c_impl_rising.args (list, ()))) (hpre : allP (c_impl_rising.pre (list, ()))) : W_impl_rising list (fun r => r = c_impl_rising.res (list, ())) := by
  simp only [c_impl_rising, okL, T.oks, T.ok, ap, allP, true_and, and_true, implies_true] at hok hpre
  try dsimp only [T.den] at hok
  try dsimp only [T.den] at hpre
  unfold W_impl_rising
  have bad : ∀ i : Int, 1 ≤ i → i < list.length → list.getD i.toNat 0 ≤ list.getD (i - 1).toNat 0 → (false, ()) = c_impl_rising.res (list, ()) := fun i h1 h2 h3 => by
    simp only [c_impl_rising]
    cases h : risesR list with
    | false => rfl
    | true => have := rises_iff.1 h i h1 h2; omega
  refine loop_of (fun (s : ((Int × Unit) × Unit)) => 1 ≤ s.1.1 ∧ (s.1.1 ≤ list.length ∨ s.1.1 = 1) ∧ ∀ j : Int, 1 ≤ j → j < s.1.1 → list.getD (j - 1).toNat 0 < list.getD j.toNat 0) (fun (s : ((Int × Unit) × Unit)) => (list.length - s.1.1).toNat) ?_ ⟨by simp, by simp, fun j h1 h2 => by dsimp only at h2; omega⟩
  rintro ⟨⟨i, _⟩, _⟩ next ⟨h0, h1, h2⟩ hn hin
  try dsimp only at h0 h1 h2 hn ⊢
  have hin' : inK .i64 i := hin
  rw [inK64] at hin'
  have hl := hok.1
  rw [nb_eq] at hl
  refine cnd_d (fun hc => ⟨by rw [inK64]; (try dsimp only); omega, by omega, by omega, by omega, by omega, cnd_d (fun hx => bad i h0 hc hx) (fun hx => ⟨by rw [inK64]; (try dsimp only); omega, hn _ ⟨by dsimp only; omega, by dsimp only; omega, fun j j0 j1 => ?_⟩ (by dsimp only; omega)⟩)⟩) (fun hc => ?_)
  · by_cases e : j = i
    · rw [e]; omega
    · exact h2 j j0 (by dsimp only at j1; omega)
  · simp only [c_impl_rising]
    rw [rises_iff.2 fun j j0 j1 => h2 j j0 (by omega)]
theorem ct_impl_rising : CtOk Try.prog 106 c_impl_rising :=
  ct_by (Φ := lkp []) good_nil tab_ok (by kernel_rfl) (fn := Try.f106) (c := bodyOf Try.f106) (by kernel_rfl) (by kernel_rfl) (by kernel_rfl) c_impl_rising rfl (.s .n (.s (.s .n (.l [(3, (.d (.int .i64)))] [] [0] .n)) .n)) (cutL [(4, 10)]) (by kernel_rfl) (by kernel_rfl) k_impl_rising (by decide) (fun x K => W_impl_rising x.1 K) w_impl_rising (fun x h1 h2 => m_impl_rising x.1 h1 h2)
def c_spec_l01Map : Ct := ⟨[(.int .i64), (.sl (.int .i64))], [false, false], fun x => [], [(false, (.fz .bool))], fun x => (withinR x.2.1 x.1, ()), false, none⟩
def W_spec_l01Map (n : Int) (f : List Int) (K : Bool × Unit → Prop) : Prop := (loopW (S := ((Int × Unit) × Unit)) (fun s => (fun next => ((inK IntKind.i64 s.1.1) → (cnd (decide (s.1.1 < (((List.length f) : Nat) : Int))) (((0 : Int) ≤ s.1.1) ∧ ((s.1.1 < (((List.length f) : Nat) : Int)) ∧ ((((decide ((List.getD f (Int.toNat s.1.1) (0 : Int)) < (0 : Int))) = Bool.false) → ((s.1.1 < (((List.length f) : Nat) : Int)) ∧ ((0 : Int) ≤ s.1.1))) ∧ (cnd ((decide ((List.getD f (Int.toNat s.1.1) (0 : Int)) < (0 : Int))) || (decide (n ≤ (List.getD f (Int.toNat s.1.1) (0 : Int))))) (K (Bool.false, ())) ((inK IntKind.i64 (s.1.1 + (1 : Int))) ∧ (next (((s.1.1 + (1 : Int)), ()), ()))))))) (K (Bool.true, ())))))) (((0 : Int), ()), ()))
theorem w_spec_l01Map (x : denL c_spec_l01Map.args) (K : Bool × Unit → Prop) : evF tab (lkp []) (cutL []) Try.f81 (bodyOf Try.f81) (.s .n (.s (.s .n (.l [(5, (.d (.int .i64)))] [] [0, 1] .n)) .n)) c_spec_l01Map x K = W_spec_l01Map x.1 x.2.1 K := by kernel_rfl
theorem k_spec_l01Map : okC Try.f81.ntmps (cutL []) (bodyOf Try.f81) = true := by kernel_rfl
theorem m_spec_l01Map (n : Int) (f : List Int) (hok : allP (okL c_spec_l01Map.args (n, f, ()))) (hpre : allP (c_spec_l01Map.pre (n, f, ()))) : W_spec_l01Map n f (fun r => r = c_spec_l01Map.res (n, f, ())) := by
  simp only [c_spec_l01Map, okL, T.oks, T.ok, ap, allP, true_and, and_true, implies_true] at hok hpre
  try dsimp only [T.den] at hok
  try dsimp only [T.den] at hpre
  unfold W_spec_l01Map
  refine loop_of (fun (s : ((Int × Unit) × Unit)) => 0 ≤ s.1.1 ∧ s.1.1 ≤ f.length ∧ withinR f n = withinR (f.drop s.1.1.toNat) n) (fun (s : ((Int × Unit) × Unit)) => (f.length - s.1.1).toNat) ?_ (by simp)
  rintro ⟨⟨i, _⟩, _⟩ next ⟨h0, h1, h2⟩ hn hin
  simp only at h0 h1 h2 hn ⊢
  refine cnd_d (fun hc => ?_) (fun hc => ?_)
  · rw [drop_c f 0 h0 hc] at h2
    simp only [withinR, List.all_cons] at h2
    grind [cnd, nb_eq, inK64, c_spec_l01Map, withinR, inR]
  · rw [drop_n f (by omega)] at h2
    grind [cnd, nb_eq, inK64, c_spec_l01Map, withinR]
theorem ct_spec_l01Map : CtOk Try.prog 81 c_spec_l01Map :=
  ct_by (Φ := lkp []) good_nil tab_ok (by kernel_rfl) (fn := Try.f81) (c := bodyOf Try.f81) (by kernel_rfl) (by kernel_rfl) (by kernel_rfl) c_spec_l01Map rfl (.s .n (.s (.s .n (.l [(5, (.d (.int .i64)))] [] [0, 1] .n)) .n)) (cutL []) (by kernel_rfl) (by kernel_rfl) k_spec_l01Map (by decide) (fun x K => W_spec_l01Map x.1 x.2.1 K) w_spec_l01Map (fun x h1 h2 => m_spec_l01Map x.1 x.2.1 h1 h2)
def c_spec_l01In : Ct := ⟨[(.int .i64), (.int .i64), (.int .i64)], [false, false, false], fun x => [], [(false, (.fz .bool))], fun x => (inR x.1 x.2.1 x.2.2.1, ()), false, none⟩
def W_spec_l01In (n : Int) (low : Int) (high : Int) (K : Bool × Unit → Prop) : Prop := (K (((decide (low ≤ n)) && (decide (n ≤ high))), ()))
theorem w_spec_l01In (x : denL c_spec_l01In.args) (K : Bool × Unit → Prop) : evF tab (lkp []) (cutL []) Try.f127 (bodyOf Try.f127) .n c_spec_l01In x K = W_spec_l01In x.1 x.2.1 x.2.2.1 K := by kernel_rfl
theorem k_spec_l01In : okC Try.f127.ntmps (cutL []) (bodyOf Try.f127) = true := by kernel_rfl
theorem m_spec_l01In (n : Int) (low : Int) (high : Int) (hok : allP (okL c_spec_l01In.args (n, low, high, ()))) (hpre : allP (c_spec_l01In.pre (n, low, high, ()))) : W_spec_l01In n low high (fun r => r = c_spec_l01In.res (n, low, high, ())) := by
  simp only [c_spec_l01In, okL, T.oks, T.ok, ap, allP, true_and, and_true, implies_true] at hok hpre
  try dsimp only [T.den] at hok
  try dsimp only [T.den] at hpre
  unfold W_spec_l01In
  grind [cnd, nb_eq, inK64, c_spec_l01In, inR]
theorem ct_spec_l01In : CtOk Try.prog 127 c_spec_l01In :=
  ct_by (Φ := lkp []) good_nil tab_ok (by kernel_rfl) (fn := Try.f127) (c := bodyOf Try.f127) (by kernel_rfl) (by kernel_rfl) (by kernel_rfl) c_spec_l01In rfl .n (cutL []) (by kernel_rfl) (by kernel_rfl) k_spec_l01In (by decide) (fun x K => W_spec_l01In x.1 x.2.1 x.2.2.1 K) w_spec_l01In (fun x h1 h2 => m_spec_l01In x.1 x.2.1 x.2.2.1 h1 h2)
def c_spec_l02Ends : Ct := ⟨[(.sl (.int .i64)), (.int .i64), (.int .i64)], [false, false, false], fun x => [], [(false, (.fz .bool))], fun x => ((decide ((x.1.length : Int) = x.2.1) && withinR x.1 x.2.2.1), ()), false, none⟩
def W_spec_l02Ends (list : List Int) (length : Int) (objects : Int) (K : Bool × Unit → Prop) : Prop := (K ((((((List.length list) : Nat) : Int) == length) && (withinR list objects)), ()))
theorem w_spec_l02Ends (x : denL c_spec_l02Ends.args) (K : Bool × Unit → Prop) : evF tab (lkp [(81, c_spec_l01Map)]) (cutL []) Try.f135 (bodyOf Try.f135) .n c_spec_l02Ends x K = W_spec_l02Ends x.1 x.2.1 x.2.2.1 K := by kernel_rfl
theorem k_spec_l02Ends : okC Try.f135.ntmps (cutL []) (bodyOf Try.f135) = true := by kernel_rfl
theorem m_spec_l02Ends (list : List Int) (length : Int) (objects : Int) (hok : allP (okL c_spec_l02Ends.args (list, length, objects, ()))) (hpre : allP (c_spec_l02Ends.pre (list, length, objects, ()))) : W_spec_l02Ends list length objects (fun r => r = c_spec_l02Ends.res (list, length, objects, ())) := by
  simp only [c_spec_l02Ends, okL, T.oks, T.ok, ap, allP, true_and, and_true, implies_true] at hok hpre
  try dsimp only [T.den] at hok
  try dsimp only [T.den] at hpre
  unfold W_spec_l02Ends
  have : ((list.length : Int) == length) = decide ((list.length : Int) = length) := rfl
  simp only [c_spec_l02Ends, this]
theorem ct_spec_l02Ends : CtOk Try.prog 135 c_spec_l02Ends :=
  ct_by (Φ := lkp [(81, c_spec_l01Map)]) (good_cons ct_spec_l01Map good_nil) tab_ok (by kernel_rfl) (fn := Try.f135) (c := bodyOf Try.f135) (by kernel_rfl) (by kernel_rfl) (by kernel_rfl) c_spec_l02Ends rfl .n (cutL []) (by kernel_rfl) (by kernel_rfl) k_spec_l02Ends (by decide) (fun x K => W_spec_l02Ends x.1 x.2.1 x.2.2.1 K) w_spec_l02Ends (fun x h1 h2 => m_spec_l02Ends x.1 x.2.1 x.2.2.1 h1 h2)
def c_spec_IsShape : Ct := ⟨[CategoryT], [true], fun x => [], [(false, (.fz .bool))], fun x => (shapeR x.1, ()), false, none⟩
def W_spec_IsShape (c : CategoryD) (K : Bool × Unit → Prop) : Prop := (cnd (((((!(inR c.1 (0 : Int) (8 : Int))) || (decide ((40 : Int) < (((List.length c.2.1) : Nat) : Int)))) || (!((decide ((((List.length c.2.1) : Nat) : Int) = (((List.length c.2.1) : Nat) : Int))) && (withinR c.2.1 c.1)))) || (!((decide ((((List.length c.2.2.1) : Nat) : Int) = (((List.length c.2.1) : Nat) : Int))) && (withinR c.2.2.1 c.1)))) || ((((List.length c.2.2.2.2) : Nat) : Int) != (((List.length c.2.1) : Nat) : Int))) (K (Bool.false, ())) (cnd (((((List.length c.2.2.2.1) : Nat) : Int) != c.1) || (!(withinR c.2.2.2.1 (((List.length c.2.1) : Nat) : Int)))) (K (Bool.false, ())) (loopW (S := ((Int × Unit) × Unit)) (fun s => (fun next => ((inK IntKind.i64 s.1.1) → (cnd (decide (s.1.1 < c.1)) (((0 : Int) ≤ s.1.1) ∧ ((s.1.1 < (((List.length c.2.2.2.1) : Nat) : Int)) ∧ (((0 : Int) ≤ (List.getD c.2.2.2.1 (Int.toNat s.1.1) (0 : Int))) ∧ (((List.getD c.2.2.2.1 (Int.toNat s.1.1) (0 : Int)) < (((List.length c.2.1) : Nat) : Int)) ∧ (((((List.getD c.2.1 (Int.toNat (List.getD c.2.2.2.1 (Int.toNat s.1.1) (0 : Int))) (0 : Int)) != s.1.1) = Bool.false) → ((s.1.1 < (((List.length c.2.2.2.1) : Nat) : Int)) ∧ ((0 : Int) ≤ s.1.1))) ∧ (((((List.getD c.2.1 (Int.toNat (List.getD c.2.2.2.1 (Int.toNat s.1.1) (0 : Int))) (0 : Int)) != s.1.1) = Bool.false) → (((List.getD c.2.2.2.1 (Int.toNat s.1.1) (0 : Int)) < (((List.length c.2.2.1) : Nat) : Int)) ∧ ((0 : Int) ≤ (List.getD c.2.2.2.1 (Int.toNat s.1.1) (0 : Int))))) ∧ (cnd (((List.getD c.2.1 (Int.toNat (List.getD c.2.2.2.1 (Int.toNat s.1.1) (0 : Int))) (0 : Int)) != s.1.1) || ((List.getD c.2.2.1 (Int.toNat (List.getD c.2.2.2.1 (Int.toNat s.1.1) (0 : Int))) (0 : Int)) != s.1.1)) (K (Bool.false, ())) ((inK IntKind.i64 (s.1.1 + (1 : Int))) ∧ (next (((s.1.1 + (1 : Int)), ()), ())))))))))) (loopW (S := ((Int × Unit) × Unit)) (fun s1 => (fun next1 => ((inK IntKind.i64 s1.1.1) → (cnd (decide (s1.1.1 < (((List.length c.2.1) : Nat) : Int))) (((0 : Int) ≤ s1.1.1) ∧ ((s1.1.1 < (((List.length c.2.2.2.2) : Nat) : Int)) ∧ (cnd ((((List.length (List.getD c.2.2.2.2 (Int.toNat s1.1.1) ([] : List Int))) : Nat) : Int) != (((List.length c.2.1) : Nat) : Int)) (K (Bool.false, ())) (loopW (S := ((Int × Unit) × Unit)) (fun s2 => (fun next2 => ((inK IntKind.i64 s2.1.1) → (cnd (decide (s2.1.1 < (((List.length c.2.1) : Nat) : Int))) (joinW (S := (Unit × Unit)) (fun s3 => ((inK IntKind.i64 (s2.1.1 + (1 : Int))) ∧ (next2 (((s2.1.1 + (1 : Int)), ()), ())))) (fun k => (((0 : Int) ≤ s1.1.1) ∧ ((s1.1.1 < (((List.length c.2.2.2.2) : Nat) : Int)) ∧ (((0 : Int) ≤ s2.1.1) ∧ ((s2.1.1 < (((List.length (List.getD c.2.2.2.2 (Int.toNat s1.1.1) ([] : List Int))) : Nat) : Int)) ∧ (((0 : Int) ≤ s1.1.1) ∧ ((s1.1.1 < (((List.length c.2.2.1) : Nat) : Int)) ∧ (((0 : Int) ≤ s2.1.1) ∧ ((s2.1.1 < (((List.length c.2.1) : Nat) : Int)) ∧ (cnd ((List.getD c.2.2.1 (Int.toNat s1.1.1) (0 : Int)) != (List.getD c.2.1 (Int.toNat s2.1.1) (0 : Int))) (cnd ((List.getD (List.getD c.2.2.2.2 (Int.toNat s1.1.1) ([] : List Int)) (Int.toNat s2.1.1) (0 : Int)) != (-(1 : Int))) (K (Bool.false, ())) (k ((), ()))) (((((decide ((List.getD (List.getD c.2.2.2.2 (Int.toNat s1.1.1) ([] : List Int)) (Int.toNat s2.1.1) (0 : Int)) < (0 : Int))) || (decide ((((List.length c.2.1) : Nat) : Int) ≤ (List.getD (List.getD c.2.2.2.2 (Int.toNat s1.1.1) ([] : List Int)) (Int.toNat s2.1.1) (0 : Int))))) = Bool.false) → (((List.getD (List.getD c.2.2.2.2 (Int.toNat s1.1.1) ([] : List Int)) (Int.toNat s2.1.1) (0 : Int)) < (((List.length c.2.1) : Nat) : Int)) ∧ ((0 : Int) ≤ (List.getD (List.getD c.2.2.2.2 (Int.toNat s1.1.1) ([] : List Int)) (Int.toNat s2.1.1) (0 : Int))))) ∧ (((((decide ((List.getD (List.getD c.2.2.2.2 (Int.toNat s1.1.1) ([] : List Int)) (Int.toNat s2.1.1) (0 : Int)) < (0 : Int))) || (decide ((((List.length c.2.1) : Nat) : Int) ≤ (List.getD (List.getD c.2.2.2.2 (Int.toNat s1.1.1) ([] : List Int)) (Int.toNat s2.1.1) (0 : Int))))) = Bool.false) → ((s1.1.1 < (((List.length c.2.1) : Nat) : Int)) ∧ ((0 : Int) ≤ s1.1.1))) ∧ ((((((decide ((List.getD (List.getD c.2.2.2.2 (Int.toNat s1.1.1) ([] : List Int)) (Int.toNat s2.1.1) (0 : Int)) < (0 : Int))) || (decide ((((List.length c.2.1) : Nat) : Int) ≤ (List.getD (List.getD c.2.2.2.2 (Int.toNat s1.1.1) ([] : List Int)) (Int.toNat s2.1.1) (0 : Int))))) || ((List.getD c.2.1 (Int.toNat (List.getD (List.getD c.2.2.2.2 (Int.toNat s1.1.1) ([] : List Int)) (Int.toNat s2.1.1) (0 : Int))) (0 : Int)) != (List.getD c.2.1 (Int.toNat s1.1.1) (0 : Int)))) = Bool.false) → (((List.getD (List.getD c.2.2.2.2 (Int.toNat s1.1.1) ([] : List Int)) (Int.toNat s2.1.1) (0 : Int)) < (((List.length c.2.2.1) : Nat) : Int)) ∧ ((0 : Int) ≤ (List.getD (List.getD c.2.2.2.2 (Int.toNat s1.1.1) ([] : List Int)) (Int.toNat s2.1.1) (0 : Int))))) ∧ ((((((decide ((List.getD (List.getD c.2.2.2.2 (Int.toNat s1.1.1) ([] : List Int)) (Int.toNat s2.1.1) (0 : Int)) < (0 : Int))) || (decide ((((List.length c.2.1) : Nat) : Int) ≤ (List.getD (List.getD c.2.2.2.2 (Int.toNat s1.1.1) ([] : List Int)) (Int.toNat s2.1.1) (0 : Int))))) || ((List.getD c.2.1 (Int.toNat (List.getD (List.getD c.2.2.2.2 (Int.toNat s1.1.1) ([] : List Int)) (Int.toNat s2.1.1) (0 : Int))) (0 : Int)) != (List.getD c.2.1 (Int.toNat s1.1.1) (0 : Int)))) = Bool.false) → ((s2.1.1 < (((List.length c.2.2.1) : Nat) : Int)) ∧ ((0 : Int) ≤ s2.1.1))) ∧ (cnd ((((decide ((List.getD (List.getD c.2.2.2.2 (Int.toNat s1.1.1) ([] : List Int)) (Int.toNat s2.1.1) (0 : Int)) < (0 : Int))) || (decide ((((List.length c.2.1) : Nat) : Int) ≤ (List.getD (List.getD c.2.2.2.2 (Int.toNat s1.1.1) ([] : List Int)) (Int.toNat s2.1.1) (0 : Int))))) || ((List.getD c.2.1 (Int.toNat (List.getD (List.getD c.2.2.2.2 (Int.toNat s1.1.1) ([] : List Int)) (Int.toNat s2.1.1) (0 : Int))) (0 : Int)) != (List.getD c.2.1 (Int.toNat s1.1.1) (0 : Int)))) || ((List.getD c.2.2.1 (Int.toNat (List.getD (List.getD c.2.2.2.2 (Int.toNat s1.1.1) ([] : List Int)) (Int.toNat s2.1.1) (0 : Int))) (0 : Int)) != (List.getD c.2.2.1 (Int.toNat s2.1.1) (0 : Int)))) (K (Bool.false, ())) (k ((), ())))))))))))))))))) ((inK IntKind.i64 (s1.1.1 + (1 : Int))) ∧ (next1 (((s1.1.1 + (1 : Int)), ()), ()))))))) (((0 : Int), ()), ()))))) (K (Bool.true, ())))))) (((0 : Int), ()), ())))))) (((0 : Int), ()), ()))))
theorem w_spec_IsShape (x : denL c_spec_IsShape.args) (K : Bool × Unit → Prop) : evF tab (lkp [(127, c_spec_l01In), (81, c_spec_l01Map), (135, c_spec_l02Ends)]) (cutL [(20, 11), (23, 33), (9, 24)]) Try.f96 (bodyOf Try.f96) (.s .n (.s .n (.s .n (.s .n (.s (.s .n (.l [(4, (.d (.int .i64)))] [] [1, 3] .n)) (.s (.s .n (.l [(5, (.d (.int .i64)))] [] [1, 3] (.s .n (.s (.s .n (.s .n (.l [(6, (.d (.int .i64)))] [] [1, 3, 5] (.s .n (.s (.j [] [] [1, 3, 5, 6] .n) .n))))) .n)))) .n)))))) c_spec_IsShape x K = W_spec_IsShape x.1 K := by kernel_rfl
theorem k_spec_IsShape : okC Try.f96.ntmps (cutL [(20, 11), (23, 33), (9, 24)]) (bodyOf Try.f96) = true := by kernel_rfl
theorem m_spec_IsShape (c : CategoryD) (hok : allP (okL c_spec_IsShape.args (c, ()))) (hpre : allP (c_spec_IsShape.pre (c, ()))) : W_spec_IsShape c (fun r => r = c_spec_IsShape.res (c, ())) := by
  simp only [c_spec_IsShape, okL, T.oks, T.ok, ap, allP, true_and, and_true, implies_true] at hok hpre
  try dsimp only [T.den] at hok
  try dsimp only [T.den] at hpre
  unfold W_spec_IsShape
  have bad : ¬ ShapeP c → (false, ()) = c_spec_IsShape.res (c, ()) := fun h => by simp only [c_spec_IsShape]; rw [shape_f h]
  refine cnd_of (fun hc => bad fun h => ?_) (fun hc => cnd_of (fun hd => bad fun h => ?_) (fun hd => ?_))
  · have h1 := h.ob; have h2 := h.m; have h3 := h.lt; have h4 := h.fr; have h5 := h.to; have h6 := h.lc; simp only [inR] at hc; grind [cnd, nb_eq, inK64]
  · have h1 := h.li; have h2 := h.ids; grind [cnd, nb_eq, inK64]
  simp only [inR, Bool.or_eq_false_iff, Bool.not_eq_false', Bool.and_eq_true, decide_eq_true_eq, decide_eq_false_iff_not, bne_eq_false_iff_eq] at hc hd
  obtain ⟨⟨⟨⟨hob, hm⟩, _, hfr⟩, hlt, hto⟩, hlc⟩ := hc
  obtain ⟨hli, hids⟩ := hd
  refine loop_ix (n := c.1) (fun x => ∀ y : Int, 0 ≤ y → y < x → c.2.1.getD (c.2.2.2.1.getD y.toNat 0).toNat 0 = y ∧ c.2.2.1.getD (c.2.2.2.1.getD y.toNat 0).toNat 0 = y) (by omega) (by intro y h0 h1; omega) ?_ ?_
  · intro x next h0 h1 hP hn hin
    have hb := within_iff.1 hids x h0 (by omega)
    try dsimp only
    refine cnd_d (fun _ => ⟨h0, by omega, hb.1, hb.2, fun _ => by omega, fun _ => by omega, cnd_of (fun hx => bad fun h => ?_) (fun hx => ?_)⟩) (fun h => absurd h1 h)
    · have := h.idt x h0 (by omega)
      rw [this.1, this.2] at hx
      simp at hx
    · simp only [Bool.or_eq_false_iff, bne_eq_false_iff_eq] at hx
      refine ⟨by rw [inK64]; (try dsimp only); omega, hn fun y y0 y1 => ?_⟩
      by_cases e : y = x
      · rw [e]; exact hx
      · exact hP y y0 (by omega)
  intro next hidt hin
  refine cnd_d (fun h => absurd h (by dsimp only; omega)) (fun _ => ?_)
  refine loop_ix (n := c.2.1.length) (fun f => ∀ f' : Int, 0 ≤ f' → f' < f → (c.2.2.2.2.getD f'.toNat []).length = c.2.1.length ∧ ∀ g : Int, 0 ≤ g → g < c.2.1.length → cellR c f' g = true) (by omega) (by intro y h0 h1; omega) ?_ ?_
  · intro f next h0 h1 hP hn hin
    try dsimp only
    refine cnd_d (fun _ => ⟨h0, by omega, cnd_of (fun hx => bad fun h => ?_) (fun hx => ?_)⟩) (fun h => absurd h1 h)
    · have := h.row f h0 (by omega)
      rw [this] at hx
      simp at hx
    simp only [bne_eq_false_iff_eq] at hx
    refine loop_ix (n := c.2.1.length) (fun g => ∀ g' : Int, 0 ≤ g' → g' < g → cellR c f g' = true) (by omega) (by intro y h0 h1; omega) ?_ ?_
    · intro g next3 g0 g1 hP3 hn3 hin3
      try dsimp only
      refine cnd_d (fun _ => ?_) (fun h => absurd g1 h)
      refine join_of (fun _ => cellR c f g = true) (fun _ hcell => ⟨by rw [inK64]; (try dsimp only); omega, hn3 fun g' y0 y1 => ?_⟩) (fun k hk => ?_)
      · by_cases e : g' = g
        · rw [e]; exact hcell
        · exact hP3 g' y0 (by omega)
      have hcell : ∀ b, cellR c f g = b → b = false → ¬ ShapeP c := fun b h1 h2 h => by
        have := h.cell f g h0 (by omega) g0 (by omega)
        rw [h1, h2] at this; cases this
      have hk' := hk ((), ())
      obtain ⟨v, hv⟩ : ∃ v, (c.2.2.2.2.getD f.toNat []).getD g.toNat 0 = v := ⟨_, rfl⟩
      have hR : cellR c f g = cellQ c f g v := by unfold cellR compR; rw [hv]
      rw [hR] at hk'
      rw [hR] at hcell
      rw [hv]
      clear hP3 hn3 hP hn hk hR hv hidt hok
      refine ⟨h0, by omega, g0, by omega, h0, by omega, g0, by omega, cnd_of (fun ha => cnd_of (fun hb => bad ?_) (fun hb => hk' ?_)) (fun ha => ⟨fun hv => ?_, fun _ => ⟨by omega, h0⟩, fun hv => ?_, fun _ => ⟨by omega, g0⟩, cnd_of (fun hb => bad ?_) (fun hb => hk' ?_)⟩)⟩
      · exact hcell _ rfl (by grind [cnd, nb_eq, inK64, cellQ])
      · grind [cnd, nb_eq, inK64, cellQ]
      · simp only [Bool.or_eq_false_iff, decide_eq_false_iff_not] at hv; omega
      · simp only [Bool.or_eq_false_iff, decide_eq_false_iff_not] at hv; omega
      · exact hcell _ rfl (by grind [cnd, nb_eq, inK64, cellQ])
      · grind [cnd, nb_eq, inK64, cellQ]
    · intro next3 hP3 hin3
      refine cnd_d (fun h => absurd h (by dsimp only; omega)) (fun _ => ⟨by rw [inK64]; (try dsimp only); omega, hn fun f' y0 y1 => ?_⟩)
      by_cases e : f' = f
      · rw [e]; exact ⟨by omega, fun g g0 g1 => hP3 g g0 (by omega)⟩
      · exact hP f' y0 (by omega)
  · intro next2 hP2 hin2
    refine cnd_d (fun h => absurd h (by dsimp only; omega)) (fun _ => ?_)
    simp only [c_spec_IsShape]
    rw [shape_t ⟨hob, by omega, by omega, hfr, hto, by omega, hids, by omega, fun x a b => hidt x a (by omega), fun f a b => (hP2 f a (by omega)).1, fun f g a b d e => (hP2 f a (by omega)).2 g d e⟩]
theorem ct_spec_IsShape : CtOk Try.prog 96 c_spec_IsShape :=
  ct_by (Φ := lkp [(127, c_spec_l01In), (81, c_spec_l01Map), (135, c_spec_l02Ends)]) (good_cons ct_spec_l01In (good_cons ct_spec_l01Map (good_cons ct_spec_l02Ends good_nil))) tab_ok (by kernel_rfl) (fn := Try.f96) (c := bodyOf Try.f96) (by kernel_rfl) (by kernel_rfl) (by kernel_rfl) c_spec_IsShape rfl (.s .n (.s .n (.s .n (.s .n (.s (.s .n (.l [(4, (.d (.int .i64)))] [] [1, 3] .n)) (.s (.s .n (.l [(5, (.d (.int .i64)))] [] [1, 3] (.s .n (.s (.s .n (.s .n (.l [(6, (.d (.int .i64)))] [] [1, 3, 5] (.s .n (.s (.j [] [] [1, 3, 5, 6] .n) .n))))) .n)))) .n)))))) (cutL [(20, 11), (23, 33), (9, 24)]) (by kernel_rfl) (by kernel_rfl) k_spec_IsShape (by decide) (fun x K => W_spec_IsShape x.1 K) w_spec_IsShape (fun x h1 h2 => m_spec_IsShape x.1 h1 h2)
def c_spec_l02Fault : Ct := ⟨[CategoryT], [true], fun x => [ShapeP x.1], [(false, (.fz (.int .i64))), (false, (.fz (.int .i64))), (false, (.fz (.int .i64))), (false, (.fz (.int .i64)))], fun x => ((faultR x.1).1, (faultR x.1).2.1, (faultR x.1).2.2.1, (faultR x.1).2.2.2, ()), false, none⟩
def W_spec_l02Fault (c : CategoryD) (K : Int × Int × Int × Int × Unit → Prop) : Prop := (loopW (S := ((Int × Unit) × Unit)) (fun s => (fun next => ((inK IntKind.i64 s.1.1) → (cnd (decide (s.1.1 < (((List.length c.2.1) : Nat) : Int))) (((0 : Int) ≤ s.1.1) ∧ ((s.1.1 < (((List.length c.2.1) : Nat) : Int)) ∧ (((0 : Int) ≤ (List.getD c.2.1 (Int.toNat s.1.1) (0 : Int))) ∧ (((List.getD c.2.1 (Int.toNat s.1.1) (0 : Int)) < (((List.length c.2.2.2.1) : Nat) : Int)) ∧ (((0 : Int) ≤ (List.getD c.2.2.2.1 (Int.toNat (List.getD c.2.1 (Int.toNat s.1.1) (0 : Int))) (0 : Int))) ∧ (((List.getD c.2.2.2.1 (Int.toNat (List.getD c.2.1 (Int.toNat s.1.1) (0 : Int))) (0 : Int)) < (((List.length c.2.2.2.2) : Nat) : Int)) ∧ (((0 : Int) ≤ s.1.1) ∧ ((s.1.1 < (((List.length (List.getD c.2.2.2.2 (Int.toNat (List.getD c.2.2.2.1 (Int.toNat (List.getD c.2.1 (Int.toNat s.1.1) (0 : Int))) (0 : Int))) ([] : List Int))) : Nat) : Int)) ∧ (((((List.getD (List.getD c.2.2.2.2 (Int.toNat (List.getD c.2.2.2.1 (Int.toNat (List.getD c.2.1 (Int.toNat s.1.1) (0 : Int))) (0 : Int))) ([] : List Int)) (Int.toNat s.1.1) (0 : Int)) != s.1.1) = Bool.false) → ((s.1.1 < (((List.length c.2.2.2.2) : Nat) : Int)) ∧ ((0 : Int) ≤ s.1.1))) ∧ (((((List.getD (List.getD c.2.2.2.2 (Int.toNat (List.getD c.2.2.2.1 (Int.toNat (List.getD c.2.1 (Int.toNat s.1.1) (0 : Int))) (0 : Int))) ([] : List Int)) (Int.toNat s.1.1) (0 : Int)) != s.1.1) = Bool.false) → ((s.1.1 < (((List.length c.2.2.1) : Nat) : Int)) ∧ ((0 : Int) ≤ s.1.1))) ∧ (((((List.getD (List.getD c.2.2.2.2 (Int.toNat (List.getD c.2.2.2.1 (Int.toNat (List.getD c.2.1 (Int.toNat s.1.1) (0 : Int))) (0 : Int))) ([] : List Int)) (Int.toNat s.1.1) (0 : Int)) != s.1.1) = Bool.false) → (((List.getD c.2.2.1 (Int.toNat s.1.1) (0 : Int)) < (((List.length c.2.2.2.1) : Nat) : Int)) ∧ ((0 : Int) ≤ (List.getD c.2.2.1 (Int.toNat s.1.1) (0 : Int))))) ∧ (((((List.getD (List.getD c.2.2.2.2 (Int.toNat (List.getD c.2.2.2.1 (Int.toNat (List.getD c.2.1 (Int.toNat s.1.1) (0 : Int))) (0 : Int))) ([] : List Int)) (Int.toNat s.1.1) (0 : Int)) != s.1.1) = Bool.false) → (((List.getD c.2.2.2.1 (Int.toNat (List.getD c.2.2.1 (Int.toNat s.1.1) (0 : Int))) (0 : Int)) < (((List.length (List.getD c.2.2.2.2 (Int.toNat s.1.1) ([] : List Int))) : Nat) : Int)) ∧ ((0 : Int) ≤ (List.getD c.2.2.2.1 (Int.toNat (List.getD c.2.2.1 (Int.toNat s.1.1) (0 : Int))) (0 : Int))))) ∧ (cnd (((List.getD (List.getD c.2.2.2.2 (Int.toNat (List.getD c.2.2.2.1 (Int.toNat (List.getD c.2.1 (Int.toNat s.1.1) (0 : Int))) (0 : Int))) ([] : List Int)) (Int.toNat s.1.1) (0 : Int)) != s.1.1) || ((List.getD (List.getD c.2.2.2.2 (Int.toNat s.1.1) ([] : List Int)) (Int.toNat (List.getD c.2.2.2.1 (Int.toNat (List.getD c.2.2.1 (Int.toNat s.1.1) (0 : Int))) (0 : Int))) (0 : Int)) != s.1.1)) (K ((1 : Int), (s.1.1, ((0 : Int), ((0 : Int), ()))))) ((inK IntKind.i64 (s.1.1 + (1 : Int))) ∧ (next (((s.1.1 + (1 : Int)), ()), ())))))))))))))))) (loopW (S := ((Int × Unit) × Unit)) (fun s1 => (fun next1 => ((inK IntKind.i64 s1.1.1) → (cnd (decide (s1.1.1 < (((List.length c.2.1) : Nat) : Int))) (loopW (S := ((Int × Unit) × Unit)) (fun s2 => (fun next2 => ((inK IntKind.i64 s2.1.1) → (cnd (decide (s2.1.1 < (((List.length c.2.1) : Nat) : Int))) (joinW (S := (Unit × Unit)) (fun s3 => ((inK IntKind.i64 (s2.1.1 + (1 : Int))) ∧ (next2 (((s2.1.1 + (1 : Int)), ()), ())))) (fun k => (((0 : Int) ≤ s1.1.1) ∧ ((s1.1.1 < (((List.length c.2.2.1) : Nat) : Int)) ∧ (((0 : Int) ≤ s2.1.1) ∧ ((s2.1.1 < (((List.length c.2.1) : Nat) : Int)) ∧ (cnd ((List.getD c.2.2.1 (Int.toNat s1.1.1) (0 : Int)) != (List.getD c.2.1 (Int.toNat s2.1.1) (0 : Int))) (k ((), ())) (loopW (S := ((Int × Unit) × Unit)) (fun s3 => (fun next3 => ((inK IntKind.i64 s3.1.1) → (cnd (decide (s3.1.1 < (((List.length c.2.1) : Nat) : Int))) (((0 : Int) ≤ s2.1.1) ∧ ((s2.1.1 < (((List.length c.2.2.1) : Nat) : Int)) ∧ (((0 : Int) ≤ s3.1.1) ∧ ((s3.1.1 < (((List.length c.2.1) : Nat) : Int)) ∧ (((((List.getD c.2.2.1 (Int.toNat s2.1.1) (0 : Int)) == (List.getD c.2.1 (Int.toNat s3.1.1) (0 : Int))) = Bool.true) → ((s1.1.1 < (((List.length c.2.2.2.2) : Nat) : Int)) ∧ ((0 : Int) ≤ s1.1.1))) ∧ (((((List.getD c.2.2.1 (Int.toNat s2.1.1) (0 : Int)) == (List.getD c.2.1 (Int.toNat s3.1.1) (0 : Int))) = Bool.true) → ((s2.1.1 < (((List.length (List.getD c.2.2.2.2 (Int.toNat s1.1.1) ([] : List Int))) : Nat) : Int)) ∧ ((0 : Int) ≤ s2.1.1))) ∧ (((((List.getD c.2.2.1 (Int.toNat s2.1.1) (0 : Int)) == (List.getD c.2.1 (Int.toNat s3.1.1) (0 : Int))) = Bool.true) → (((List.getD (List.getD c.2.2.2.2 (Int.toNat s1.1.1) ([] : List Int)) (Int.toNat s2.1.1) (0 : Int)) < (((List.length c.2.2.2.2) : Nat) : Int)) ∧ ((0 : Int) ≤ (List.getD (List.getD c.2.2.2.2 (Int.toNat s1.1.1) ([] : List Int)) (Int.toNat s2.1.1) (0 : Int))))) ∧ (((((List.getD c.2.2.1 (Int.toNat s2.1.1) (0 : Int)) == (List.getD c.2.1 (Int.toNat s3.1.1) (0 : Int))) = Bool.true) → ((s3.1.1 < (((List.length (List.getD c.2.2.2.2 (Int.toNat (List.getD (List.getD c.2.2.2.2 (Int.toNat s1.1.1) ([] : List Int)) (Int.toNat s2.1.1) (0 : Int))) ([] : List Int))) : Nat) : Int)) ∧ ((0 : Int) ≤ s3.1.1))) ∧ (((((List.getD c.2.2.1 (Int.toNat s2.1.1) (0 : Int)) == (List.getD c.2.1 (Int.toNat s3.1.1) (0 : Int))) = Bool.true) → ((s1.1.1 < (((List.length c.2.2.2.2) : Nat) : Int)) ∧ ((0 : Int) ≤ s1.1.1))) ∧ (((((List.getD c.2.2.1 (Int.toNat s2.1.1) (0 : Int)) == (List.getD c.2.1 (Int.toNat s3.1.1) (0 : Int))) = Bool.true) → ((s2.1.1 < (((List.length c.2.2.2.2) : Nat) : Int)) ∧ ((0 : Int) ≤ s2.1.1))) ∧ (((((List.getD c.2.2.1 (Int.toNat s2.1.1) (0 : Int)) == (List.getD c.2.1 (Int.toNat s3.1.1) (0 : Int))) = Bool.true) → ((s3.1.1 < (((List.length (List.getD c.2.2.2.2 (Int.toNat s2.1.1) ([] : List Int))) : Nat) : Int)) ∧ ((0 : Int) ≤ s3.1.1))) ∧ (((((List.getD c.2.2.1 (Int.toNat s2.1.1) (0 : Int)) == (List.getD c.2.1 (Int.toNat s3.1.1) (0 : Int))) = Bool.true) → (((List.getD (List.getD c.2.2.2.2 (Int.toNat s2.1.1) ([] : List Int)) (Int.toNat s3.1.1) (0 : Int)) < (((List.length (List.getD c.2.2.2.2 (Int.toNat s1.1.1) ([] : List Int))) : Nat) : Int)) ∧ ((0 : Int) ≤ (List.getD (List.getD c.2.2.2.2 (Int.toNat s2.1.1) ([] : List Int)) (Int.toNat s3.1.1) (0 : Int))))) ∧ (cnd (((List.getD c.2.2.1 (Int.toNat s2.1.1) (0 : Int)) == (List.getD c.2.1 (Int.toNat s3.1.1) (0 : Int))) && ((List.getD (List.getD c.2.2.2.2 (Int.toNat (List.getD (List.getD c.2.2.2.2 (Int.toNat s1.1.1) ([] : List Int)) (Int.toNat s2.1.1) (0 : Int))) ([] : List Int)) (Int.toNat s3.1.1) (0 : Int)) != (List.getD (List.getD c.2.2.2.2 (Int.toNat s1.1.1) ([] : List Int)) (Int.toNat (List.getD (List.getD c.2.2.2.2 (Int.toNat s2.1.1) ([] : List Int)) (Int.toNat s3.1.1) (0 : Int))) (0 : Int)))) (K ((2 : Int), (s1.1.1, (s2.1.1, (s3.1.1, ()))))) ((inK IntKind.i64 (s3.1.1 + (1 : Int))) ∧ (next3 (((s3.1.1 + (1 : Int)), ()), ())))))))))))))))) (k ((), ())))))) (((0 : Int), ()), ()))))))))) ((inK IntKind.i64 (s1.1.1 + (1 : Int))) ∧ (next1 (((s1.1.1 + (1 : Int)), ()), ()))))))) (((0 : Int), ()), ())) (K ((0 : Int), ((0 : Int), ((0 : Int), ((0 : Int), ()))))))))) (((0 : Int), ()), ())))))) (((0 : Int), ()), ()))
theorem w_spec_l02Fault (x : denL c_spec_l02Fault.args) (K : Int × Int × Int × Int × Unit → Prop) : evF tab (lkp []) (cutL [(17, 44), (5, 38), (13, 11)]) Try.f97 (bodyOf Try.f97) (.s .n (.s .n (.s (.s .n (.l [(7, (.d (.int .i64)))] [] [1, 6] .n)) (.s (.s .n (.l [(8, (.d (.int .i64)))] [] [1, 6] (.s .n (.s (.s .n (.l [(9, (.d (.int .i64)))] [] [1, 6, 8] (.s .n (.s (.j [] [] [1, 6, 8, 9] (.s .n (.s .n (.l [(10, (.d (.int .i64)))] [] [1, 6, 8, 9] .n)))) .n)))) .n)))) .n)))) c_spec_l02Fault x K = W_spec_l02Fault x.1 K := by kernel_rfl
theorem k_spec_l02Fault : okC Try.f97.ntmps (cutL [(17, 44), (5, 38), (13, 11)]) (bodyOf Try.f97) = true := by kernel_rfl
theorem m_spec_l02Fault (c : CategoryD) (hok : allP (okL c_spec_l02Fault.args (c, ()))) (hpre : allP (c_spec_l02Fault.pre (c, ()))) : W_spec_l02Fault c (fun r => r = c_spec_l02Fault.res (c, ())) := by
  simp only [c_spec_l02Fault, okL, T.oks, T.ok, ap, allP, true_and, and_true, implies_true] at hok hpre
  try dsimp only [T.den] at hok
  try dsimp only [T.den] at hpre
  unfold W_spec_l02Fault
  have S : ShapeP c := hpre
  have hlt := S.lt
  have hli := S.li
  have hlc := S.lc
  have hmm := S.m
  have resq : ∀ a b d e, faultR c = (a, b, d, e) → (a, b, d, e, ()) = c_spec_l02Fault.res (c, ()) := fun a b d e h => by simp only [c_spec_l02Fault, h]
  have hcr : ∀ f g : Int, (c.2.2.2.2.getD f.toNat []).getD g.toNat 0 = compR c f g := fun _ _ => rfl
  simp only [hcr]
  refine loop_ix (n := c.2.1.length) (fun f => scanR (faultI c) c.2.1.length 0 = scanR (faultI c) ((c.2.1.length : Int) - f).toNat f) (by omega) scan_0 ?_ ?_
  · intro f next h0 h1 hP hn hin
    try dsimp only
    obtain ⟨a1, a2, a3, a4⟩ := S.frm h0 h1
    obtain ⟨b1, b2, _, _⟩ := S.idn a1 a2
    obtain ⟨d1, d2, _, _⟩ := S.idn a3 a4
    have r1 := S.row _ b1 b2
    have r2 := S.row f h0 h1
    refine cnd_d (fun _ => ⟨h0, h1, by omega, by omega, by omega, by omega, h0, by omega, fun _ => by omega, fun _ => by omega, fun _ => by omega, fun _ => by omega, cnd_of (fun hx => resq _ _ _ _ ?_) (fun hx => ⟨by rw [inK64]; (try dsimp only); omega, hn ?_⟩)⟩) (fun h => absurd h1 h)
    · have : faultI c f = some (1, f, 0, 0) := by unfold faultI; rw [if_pos]; simpa using hx
      unfold faultR; rw [hP, scan_s h1 this]; rfl
    · have : faultI c f = none := by unfold faultI; rw [if_neg]; simpa using hx
      rw [hP, scan_c h1 this]
  intro next hI hin
  rw [scan_n] at hI
  refine cnd_d (fun h => absurd h (by dsimp only; omega)) (fun _ => ?_)
  have hF : faultR c = orR (scanR (faultF c) c.2.1.length 0) (0, 0, 0, 0) := by unfold faultR; rw [hI]; rfl
  refine loop_ix (n := c.2.1.length) (fun f => scanR (faultF c) c.2.1.length 0 = scanR (faultF c) ((c.2.1.length : Int) - f).toNat f) (by omega) scan_0 ?_ ?_
  · intro f next h0 h1 hP hn hin
    try dsimp only
    refine cnd_d (fun _ => ?_) (fun h => absurd h1 h)
    have r1 := S.row f h0 h1
    refine loop_ix (n := c.2.1.length) (fun g => faultF c f = scanR (faultG c f) ((c.2.1.length : Int) - g).toNat g) (by omega) scan_0 ?_ ?_
    · intro g next3 g0 g1 hP3 hn3 hin3
      try dsimp only
      refine cnd_d (fun _ => ?_) (fun h => absurd g1 h)
      have r2 := S.row g g0 g1
      refine join_of (fun _ => faultG c f g = none) (fun _ hG => ⟨by rw [inK64]; (try dsimp only); omega, hn3 (by rw [hP3, scan_c g1 hG])⟩) (fun k hk => ?_)
      have hk' := hk ((), ())
      refine ⟨by omega, by omega, by omega, by omega, cnd_of (fun hx => hk' ?_) (fun hx => ?_)⟩
      · unfold faultG; rw [if_neg]; simpa using hx
      have hfg : c.2.2.1.getD f.toNat 0 = c.2.1.getD g.toNat 0 := by rw [bne_eq_false_iff_eq] at hx; exact hx
      obtain ⟨y1, y2, _, _⟩ := S.yes h0 h1 g0 g1 hfg
      refine loop_ix (n := c.2.1.length) (fun h => faultG c f g = scanR (faultH c f g) ((c.2.1.length : Int) - h).toNat h) (by omega) (by unfold faultG; rw [if_pos hfg]; exact scan_0) ?_ ?_
      · intro h next4 i0 i1 hP4 hn4 hin4
        try dsimp only
        refine cnd_d (fun _ => ?_) (fun h => absurd i1 h)
        have r3 := S.row _ y1 y2
        have cgh := S.comp g0 g1 i0 i1
        have ygh := @ShapeP.yes c S g h g0 g1 i0 i1
        refine ⟨by omega, by omega, by omega, by omega, fun _ => by omega, fun _ => by omega, fun _ => by omega, fun _ => by omega, fun _ => by omega, fun _ => by omega, fun _ => by omega, fun he => ?_, cnd_of (fun hx => resq _ _ _ _ ?_) (fun hx => ⟨by rw [inK64]; (try dsimp only); omega, hn4 ?_⟩)⟩
        · have := ygh (by simpa only [beq_iff_eq] using he); omega
        · have : faultH c f g h = some (2, f, g, h) := by unfold faultH; rw [if_pos]; simpa using hx
          have e1 : faultG c f g = some (2, f, g, h) := by rw [hP4, scan_s i1 this]
          have e2 : faultF c f = some (2, f, g, h) := by rw [hP3, scan_s g1 e1]
          rw [hF, hP, scan_s h1 e2]; rfl
        · have : faultH c f g h = none := by unfold faultH; rw [if_neg]; simpa using hx
          rw [hP4, scan_c i1 this]
      · intro next4 hP4 hin4
        rw [scan_n] at hP4
        exact cnd_d (fun h => absurd h (by dsimp only; omega)) (fun _ => hk' hP4)
    · intro next3 hP3 hin3
      rw [scan_n] at hP3
      exact cnd_d (fun h => absurd h (by dsimp only; omega)) (fun _ => ⟨by rw [inK64]; (try dsimp only); omega, hn (by rw [hP, scan_c h1 hP3])⟩)
  · intro next2 hP2 hin2
    rw [scan_n] at hP2
    refine cnd_d (fun h => absurd h (by dsimp only; omega)) (fun _ => resq _ _ _ _ ?_)
    rw [hF, hP2]; rfl
theorem ct_spec_l02Fault : CtOk Try.prog 97 c_spec_l02Fault :=
  ct_by (Φ := lkp []) good_nil tab_ok (by kernel_rfl) (fn := Try.f97) (c := bodyOf Try.f97) (by kernel_rfl) (by kernel_rfl) (by kernel_rfl) c_spec_l02Fault rfl (.s .n (.s .n (.s (.s .n (.l [(7, (.d (.int .i64)))] [] [1, 6] .n)) (.s (.s .n (.l [(8, (.d (.int .i64)))] [] [1, 6] (.s .n (.s (.s .n (.l [(9, (.d (.int .i64)))] [] [1, 6, 8] (.s .n (.s (.j [] [] [1, 6, 8, 9] (.s .n (.s .n (.l [(10, (.d (.int .i64)))] [] [1, 6, 8, 9] .n)))) .n)))) .n)))) .n)))) (cutL [(17, 44), (5, 38), (13, 11)]) (by kernel_rfl) (by kernel_rfl) k_spec_l02Fault (by decide) (fun x K => W_spec_l02Fault x.1 K) w_spec_l02Fault (fun x h1 h2 => m_spec_l02Fault x.1 h1 h2)
def c_spec_l02Is : Ct := ⟨[CategoryT], [true], fun x => [], [(false, (.fz .bool))], fun x => (catR x.1, ()), false, none⟩
def W_spec_l02Is (c : CategoryD) (K : Bool × Unit → Prop) : Prop := (cnd (!(shapeR c)) (K (Bool.false, ())) ((ShapeP c) ∧ (K (((faultR c).1 == (0 : Int)), ()))))
theorem w_spec_l02Is (x : denL c_spec_l02Is.args) (K : Bool × Unit → Prop) : evF tab (lkp [(96, c_spec_IsShape), (97, c_spec_l02Fault)]) (cutL []) Try.f57 (bodyOf Try.f57) .n c_spec_l02Is x K = W_spec_l02Is x.1 K := by kernel_rfl
theorem k_spec_l02Is : okC Try.f57.ntmps (cutL []) (bodyOf Try.f57) = true := by kernel_rfl
theorem m_spec_l02Is (c : CategoryD) (hok : allP (okL c_spec_l02Is.args (c, ()))) (hpre : allP (c_spec_l02Is.pre (c, ()))) : W_spec_l02Is c (fun r => r = c_spec_l02Is.res (c, ())) := by
  simp only [c_spec_l02Is, okL, T.oks, T.ok, ap, allP, true_and, and_true, implies_true] at hok hpre
  try dsimp only [T.den] at hok
  try dsimp only [T.den] at hpre
  unfold W_spec_l02Is
  simp only [c_spec_l02Is, catR]
  have := @shape_iff c
  grind [cnd, nb_eq, inK64]
theorem ct_spec_l02Is : CtOk Try.prog 57 c_spec_l02Is :=
  ct_by (Φ := lkp [(96, c_spec_IsShape), (97, c_spec_l02Fault)]) (good_cons ct_spec_IsShape (good_cons ct_spec_l02Fault good_nil)) tab_ok (by kernel_rfl) (fn := Try.f57) (c := bodyOf Try.f57) (by kernel_rfl) (by kernel_rfl) (by kernel_rfl) c_spec_l02Is rfl .n (cutL []) (by kernel_rfl) (by kernel_rfl) k_spec_l02Is (by decide) (fun x K => W_spec_l02Is x.1 K) w_spec_l02Is (fun x h1 h2 => m_spec_l02Is x.1 h1 h2)
def c_spec_l02Arrows : Ct := ⟨[CategoryT, (.sl (.int .i64))], [true, false], fun x => [], [(false, (.fz (.int .i64)))], fun x => (arrCodeR x.1 x.2.1, ()), false, none⟩
def W_spec_l02Arrows (c : CategoryD) (arrows : List Int) (K : Int × Unit → Prop) : Prop := (cnd (!(catR c)) (K ((1 : Int), ())) (cnd (!(withinR arrows (((List.length c.2.1) : Nat) : Int))) (K ((2 : Int), ())) (K ((0 : Int), ()))))
theorem w_spec_l02Arrows (x : denL c_spec_l02Arrows.args) (K : Int × Unit → Prop) : evF tab (lkp [(81, c_spec_l01Map), (57, c_spec_l02Is)]) (cutL []) Try.f51 (bodyOf Try.f51) .n c_spec_l02Arrows x K = W_spec_l02Arrows x.1 x.2.1 K := by kernel_rfl
theorem k_spec_l02Arrows : okC Try.f51.ntmps (cutL []) (bodyOf Try.f51) = true := by kernel_rfl
theorem m_spec_l02Arrows (c : CategoryD) (arrows : List Int) (hok : allP (okL c_spec_l02Arrows.args (c, arrows, ()))) (hpre : allP (c_spec_l02Arrows.pre (c, arrows, ()))) : W_spec_l02Arrows c arrows (fun r => r = c_spec_l02Arrows.res (c, arrows, ())) := by
  simp only [c_spec_l02Arrows, okL, T.oks, T.ok, ap, allP, true_and, and_true, implies_true] at hok hpre
  try dsimp only [T.den] at hok
  try dsimp only [T.den] at hpre
  unfold W_spec_l02Arrows
  simp only [c_spec_l02Arrows, arrCodeR]
  grind [cnd, nb_eq, inK64]
theorem ct_spec_l02Arrows : CtOk Try.prog 51 c_spec_l02Arrows :=
  ct_by (Φ := lkp [(81, c_spec_l01Map), (57, c_spec_l02Is)]) (good_cons ct_spec_l01Map (good_cons ct_spec_l02Is good_nil)) tab_ok (by kernel_rfl) (fn := Try.f51) (c := bodyOf Try.f51) (by kernel_rfl) (by kernel_rfl) (by kernel_rfl) c_spec_l02Arrows rfl .n (cutL []) (by kernel_rfl) (by kernel_rfl) k_spec_l02Arrows (by decide) (fun x K => W_spec_l02Arrows x.1 x.2.1 K) w_spec_l02Arrows (fun x h1 h2 => m_spec_l02Arrows x.1 x.2.1 h1 h2)
def c_spec_l02Rises : Ct := ⟨[(.sl (.int .i64))], [false], fun x => [], [(false, (.fz .bool))], fun x => (risesR x.1, ()), false, none⟩
def W_spec_l02Rises (list : List Int) (K : Bool × Unit → Prop) : Prop := (loopW (S := ((Int × Unit) × Unit)) (fun s => (fun next => ((inK IntKind.i64 s.1.1) → (cnd (decide (s.1.1 < (((List.length list) : Nat) : Int))) (((0 : Int) ≤ s.1.1) ∧ ((s.1.1 < (((List.length list) : Nat) : Int)) ∧ ((inK IntKind.i64 (s.1.1 - (1 : Int))) ∧ (((0 : Int) ≤ (s.1.1 - (1 : Int))) ∧ (((s.1.1 - (1 : Int)) < (((List.length list) : Nat) : Int)) ∧ (cnd (decide ((List.getD list (Int.toNat s.1.1) (0 : Int)) ≤ (List.getD list (Int.toNat (s.1.1 - (1 : Int))) (0 : Int)))) (K (Bool.false, ())) ((inK IntKind.i64 (s.1.1 + (1 : Int))) ∧ (next (((s.1.1 + (1 : Int)), ()), ()))))))))) (K (Bool.true, ())))))) (((1 : Int), ()), ()))
theorem w_spec_l02Rises (x : denL c_spec_l02Rises.args) (K : Bool × Unit → Prop) : evF tab (lkp []) (cutL [(4, 10)]) Try.f101 (bodyOf Try.f101) (.s .n (.s (.s .n (.l [(3, (.d (.int .i64)))] [] [0] .n)) .n)) c_spec_l02Rises x K = W_spec_l02Rises x.1 K := by kernel_rfl
theorem k_spec_l02Rises : okC Try.f101.ntmps (cutL [(4, 10)]) (bodyOf Try.f101) = true := by kernel_rfl
theorem m_spec_l02Rises (list : List Int) (hok : allP (okL c_spec_l02Rises.args (list, ()))) (hpre : allP (c_spec_l02Rises.pre (list, ()))) : W_spec_l02Rises list (fun r => r = c_spec_l02Rises.res (list, ())) := by
  simp only [c_spec_l02Rises, okL, T.oks, T.ok, ap, allP, true_and, and_true, implies_true] at hok hpre
  try dsimp only [T.den] at hok
  try dsimp only [T.den] at hpre
  unfold W_spec_l02Rises
  have bad : ∀ i : Int, 1 ≤ i → i < list.length → list.getD i.toNat 0 ≤ list.getD (i - 1).toNat 0 → (false, ()) = c_spec_l02Rises.res (list, ()) := fun i h1 h2 h3 => by
    simp only [c_spec_l02Rises]
    cases h : risesR list with
    | false => rfl
    | true => have := rises_iff.1 h i h1 h2; omega
  refine loop_of (fun (s : ((Int × Unit) × Unit)) => 1 ≤ s.1.1 ∧ (s.1.1 ≤ list.length ∨ s.1.1 = 1) ∧ ∀ j : Int, 1 ≤ j → j < s.1.1 → list.getD (j - 1).toNat 0 < list.getD j.toNat 0) (fun (s : ((Int × Unit) × Unit)) => (list.length - s.1.1).toNat) ?_ ⟨by simp, by simp, fun j h1 h2 => by dsimp only at h2; omega⟩
  rintro ⟨⟨i, _⟩, _⟩ next ⟨h0, h1, h2⟩ hn hin
  try dsimp only at h0 h1 h2 hn ⊢
  have hin' : inK .i64 i := hin
  rw [inK64] at hin'
  have hl := hok.1
  rw [nb_eq] at hl
  refine cnd_d (fun hc => ⟨by omega, by omega, by rw [inK64]; (try dsimp only); omega, by omega, by omega, cnd_d (fun hx => bad i h0 hc hx) (fun hx => ⟨by rw [inK64]; (try dsimp only); omega, hn _ ⟨by dsimp only; omega, by dsimp only; omega, fun j j0 j1 => ?_⟩ (by dsimp only; omega)⟩)⟩) (fun hc => ?_)
  · by_cases e : j = i
    · rw [e]; omega
    · exact h2 j j0 (by dsimp only at j1; omega)
  · simp only [c_spec_l02Rises]
    rw [rises_iff.2 fun j j0 j1 => h2 j j0 (by omega)]
theorem ct_spec_l02Rises : CtOk Try.prog 101 c_spec_l02Rises :=
  ct_by (Φ := lkp []) good_nil tab_ok (by kernel_rfl) (fn := Try.f101) (c := bodyOf Try.f101) (by kernel_rfl) (by kernel_rfl) (by kernel_rfl) c_spec_l02Rises rfl (.s .n (.s (.s .n (.l [(3, (.d (.int .i64)))] [] [0] .n)) .n)) (cutL [(4, 10)]) (by kernel_rfl) (by kernel_rfl) k_spec_l02Rises (by decide) (fun x K => W_spec_l02Rises x.1 K) w_spec_l02Rises (fun x h1 h2 => m_spec_l02Rises x.1 h1 h2)
def denCodeR (c : CategoryD) (l : List Int) : Int := if arrCodeR c l = 0 then (if risesR l = true then 0 else 5) else arrCodeR c l

def c_spec_l33Set : Ct := ⟨[CategoryT, (.sl (.int .i64))], [true, false], fun x => [], [(false, (.fz (.int .i64)))], fun x => (denCodeR x.1 x.2.1, ()), false, none⟩
def W_spec_l33Set (c : CategoryD) (w : List Int) (K : Int × Unit → Prop) : Prop := (joinW (S := ((Int × Unit) × Unit)) (fun s => ((inK IntKind.i64 s.1.1) → (K (s.1.1, ())))) (fun k => (cnd (((arrCodeR c w) == (0 : Int)) && (!(risesR w))) (k (((5 : Int), ()), ())) (k (((arrCodeR c w), ()), ())))))
theorem w_spec_l33Set (x : denL c_spec_l33Set.args) (K : Int × Unit → Prop) : evF tab (lkp [(51, c_spec_l02Arrows), (101, c_spec_l02Rises)]) (cutL []) Try.f63 (bodyOf Try.f63) (.s .n (.s .n (.s (.s .n (.j [(5, (.d (.int .i64)))] [] [] .n)) .n))) c_spec_l33Set x K = W_spec_l33Set x.1 x.2.1 K := by kernel_rfl
theorem k_spec_l33Set : okC Try.f63.ntmps (cutL []) (bodyOf Try.f63) = true := by kernel_rfl
theorem m_spec_l33Set (c : CategoryD) (w : List Int) (hok : allP (okL c_spec_l33Set.args (c, w, ()))) (hpre : allP (c_spec_l33Set.pre (c, w, ()))) : W_spec_l33Set c w (fun r => r = c_spec_l33Set.res (c, w, ())) := by
  simp only [c_spec_l33Set, okL, T.oks, T.ok, ap, allP, true_and, and_true, implies_true] at hok hpre
  try dsimp only [T.den] at hok
  try dsimp only [T.den] at hpre
  unfold W_spec_l33Set
  have h1 : -(9223372036854775808 : Int) ≤ arrCodeR c w ∧ arrCodeR c w ≤ 9223372036854775807 := by
    unfold arrCodeR; split
    · split <;> decide
    · decide
  refine join_of (fun (s : ((Int × Unit) × Unit)) => s.1.1 = denCodeR c w) (fun s hs _ => ?_) (fun k hk => ?_)
  · simp only [c_spec_l33Set, hs]
  · unfold denCodeR at hk
    refine cnd_of (fun hx => hk _ ?_) (fun hx => hk _ ?_)
    · simp only [Bool.and_eq_true, beq_iff_eq, Bool.not_eq_true'] at hx
      rw [if_pos hx.1, if_neg (by rw [hx.2]; simp)]
    · by_cases h : arrCodeR c w = 0
      · rw [h] at hx
        have : risesR w = true := by simpa using hx
        rw [if_pos h, if_pos this]; exact h
      · rw [if_neg h]
theorem ct_spec_l33Set : CtOk Try.prog 63 c_spec_l33Set :=
  ct_by (Φ := lkp [(51, c_spec_l02Arrows), (101, c_spec_l02Rises)]) (good_cons ct_spec_l02Arrows (good_cons ct_spec_l02Rises good_nil)) tab_ok (by kernel_rfl) (fn := Try.f63) (c := bodyOf Try.f63) (by kernel_rfl) (by kernel_rfl) (by kernel_rfl) c_spec_l33Set rfl (.s .n (.s .n (.s (.s .n (.j [(5, (.d (.int .i64)))] [] [] .n)) .n))) (cutL []) (by kernel_rfl) (by kernel_rfl) k_spec_l33Set (by decide) (fun x K => W_spec_l33Set x.1 x.2.1 K) w_spec_l33Set (fun x h1 h2 => m_spec_l33Set x.1 x.2.1 h1 h2)
def ffMR (c : CategoryD) (l : List Int) : Int × Int × Int × Int := if denCodeR c l = 0 then ((ffR c l).1, (ffR c l).2.1, (ffR c l).2.2, 0) else (0, 0, 0, denCodeR c l)
theorem den_ok {c : CategoryD} {l : List Int} (h : denCodeR c l = 0) : catR c = true ∧ withinR l c.2.1.length = true ∧ risesR l = true := by
  unfold denCodeR arrCodeR at h
  by_cases h1 : catR c = true
  · by_cases h2 : withinR l c.2.1.length = true
    · by_cases h3 : risesR l = true
      · exact ⟨h1, h2, h3⟩
      · simp [h1, h2, h3] at h
    · simp [h1, h2] at h
  · simp [h1] at h

def c_spec_FirstFractionFault : Ct := ⟨[CategoryT, (.sl (.int .i64))], [true, false], fun x => [], [(false, (.fz (.int .i64))), (false, (.fz (.int .i64))), (false, (.fz (.int .i64))), (false, (.fz (.int .i64)))], fun x => ((ffMR x.1 x.2.1).1, (ffMR x.1 x.2.1).2.1, (ffMR x.1 x.2.1).2.2.1, (ffMR x.1 x.2.1).2.2.2, ()), false, none⟩
def W_spec_FirstFractionFault (c : CategoryD) (w : List Int) (K : Int × Int × Int × Int × Unit → Prop) : Prop := (cnd ((denCodeR c w) != (0 : Int)) (K ((0 : Int), ((0 : Int), ((0 : Int), ((denCodeR c w), ()))))) ((ShapeP c) ∧ (((withinR w (((List.length c.2.1) : Nat) : Int)) = Bool.true) ∧ (K ((ffR c w).1, ((ffR c w).2.1, ((ffR c w).2.2, ((0 : Int), ()))))))))
theorem w_spec_FirstFractionFault (x : denL c_spec_FirstFractionFault.args) (K : Int × Int × Int × Int × Unit → Prop) : evF tab (lkp [(64, c_spec_l33Fault), (63, c_spec_l33Set)]) (cutL []) Try.f28 (bodyOf Try.f28) .n c_spec_FirstFractionFault x K = W_spec_FirstFractionFault x.1 x.2.1 K := by kernel_rfl
theorem k_spec_FirstFractionFault : okC Try.f28.ntmps (cutL []) (bodyOf Try.f28) = true := by kernel_rfl
theorem m_spec_FirstFractionFault (c : CategoryD) (w : List Int) (hok : allP (okL c_spec_FirstFractionFault.args (c, w, ()))) (hpre : allP (c_spec_FirstFractionFault.pre (c, w, ()))) : W_spec_FirstFractionFault c w (fun r => r = c_spec_FirstFractionFault.res (c, w, ())) := by
  simp only [c_spec_FirstFractionFault, okL, T.oks, T.ok, ap, allP, true_and, and_true, implies_true] at hok hpre
  try dsimp only [T.den] at hok
  try dsimp only [T.den] at hpre
  unfold W_spec_FirstFractionFault
  refine cnd_of (fun hx => ?_) (fun hx => ?_)
  · have h : ¬ denCodeR c w = 0 := by simpa using hx
    simp only [c_spec_FirstFractionFault, ffMR, if_neg h]
  · have h : denCodeR c w = 0 := by simpa using hx
    obtain ⟨h1, h2, _⟩ := den_ok h
    exact ⟨cat_shape h1, h2, by simp only [c_spec_FirstFractionFault, ffMR, if_pos h]⟩
theorem ct_spec_FirstFractionFault : CtOk Try.prog 28 c_spec_FirstFractionFault :=
  ct_by (Φ := lkp [(64, c_spec_l33Fault), (63, c_spec_l33Set)]) (good_cons ct_spec_l33Fault (good_cons ct_spec_l33Set good_nil)) tab_ok (by kernel_rfl) (fn := Try.f28) (c := bodyOf Try.f28) (by kernel_rfl) (by kernel_rfl) (by kernel_rfl) c_spec_FirstFractionFault rfl .n (cutL []) (by kernel_rfl) (by kernel_rfl) k_spec_FirstFractionFault (by decide) (fun x K => W_spec_FirstFractionFault x.1 x.2.1 K) w_spec_FirstFractionFault (fun x h1 h2 => m_spec_FirstFractionFault x.1 x.2.1 h1 h2)
def s_impl_denominatorsCode : Sp := ⟨[(.pt CategoryT), (.sl (.int .i64)), (.sl (.int .i64))], [false, false, false], true, fun x => denCodeR x.1 x.2.1 == 0, fun x => [x.2.2.1 = []], [(false, (.fz (.pt denominatorsT))), (false, (.fz (.int .i64)))], fun x => ((x.1, x.2.1, marksR x.1 x.2.1), 0, ()), [(false, (.fz .any)), (false, (.fz (.int .i64)))], fun x => ((), denCodeR x.1 x.2.1, ())⟩
def c_impl_denominatorsCode_y : Ct := spCt s_impl_denominatorsCode true
def c_impl_denominatorsCode_n : Ct := spCt s_impl_denominatorsCode false
def c_impl_denominatorsCode : Ct := spC s_impl_denominatorsCode
def W_impl_denominatorsCode_y (c : CategoryD) (list : List Int) (objects : List Int) (K : denR c_impl_denominatorsCode_y.rt → Prop) : Prop := (cnd ((arrCodeR c list) != (0 : Int)) False ((inK IntKind.i64 (c.1 - (1 : Int))) ∧ (cnd (!(withinR objects c.1)) False (cnd (!(risesR list)) False (((List.length c.2.1) ≤ 40) ∧ (((withinR list (((List.length c.2.1) : Nat) : Int)) = Bool.true) ∧ (K ((c, (list, (marksR c list))), ((0 : Int), ())))))))))
theorem w_impl_denominatorsCode_y (x : denL c_impl_denominatorsCode_y.args) (K : denR c_impl_denominatorsCode_y.rt → Prop) : evF tab (lkp [(107, c_impl_Category_marks), (53, c_impl_arrowCode), (106, c_impl_rising), (85, c_impl_within)]) (cutL []) Try.f65 (bodyOf Try.f65) .n c_impl_denominatorsCode_y x K = W_impl_denominatorsCode_y x.1 x.2.1 x.2.2.1 K := by kernel_rfl
theorem k_impl_denominatorsCode_y : okC Try.f65.ntmps (cutL []) (bodyOf Try.f65) = true := by kernel_rfl
theorem m_impl_denominatorsCode_y (c : CategoryD) (list : List Int) (objects : List Int) (hok : allP (okL c_impl_denominatorsCode_y.args (c, list, objects, ()))) (hpre : allP (c_impl_denominatorsCode_y.pre (c, list, objects, ()))) : W_impl_denominatorsCode_y c list objects (fun r => r = c_impl_denominatorsCode_y.res (c, list, objects, ())) := by
  simp only [c_impl_denominatorsCode_y, spCt, s_impl_denominatorsCode, okL, T.oks, T.ok, ap, allP, true_and, and_true, implies_true] at hok hpre
  try dsimp only [T.den] at hok
  try dsimp only [T.den] at hpre
  unfold W_impl_denominatorsCode_y
  obtain ⟨hd, rfl⟩ := hpre
  clear hok
  have hd0 : denCodeR c list = 0 := by simpa using hd
  obtain ⟨h1, h2, h3⟩ := den_ok hd0
  have ha : arrCodeR c list = 0 := by
    unfold denCodeR at hd0
    by_cases h : arrCodeR c list = 0
    · exact h
    · rw [if_neg h] at hd0; exact absurd hd0 h
  have S := cat_shape h1
  have hob := S.ob
  refine cnd_of (fun hx => absurd ha (by simpa using hx)) (fun _ => ⟨by rw [inK64]; (try dsimp only); omega, cnd_of (fun hx => by simp [withinR] at hx) (fun _ => cnd_of (fun hx => by rw [h3] at hx; cases hx) (fun _ => ⟨S.m, h2, rfl⟩))⟩)
theorem ct_impl_denominatorsCode_y : CtOk Try.prog 65 c_impl_denominatorsCode_y :=
  ct_by (Φ := lkp [(107, c_impl_Category_marks), (53, c_impl_arrowCode), (106, c_impl_rising), (85, c_impl_within)]) (good_cons ct_impl_Category_marks (good_cons ct_impl_arrowCode (good_cons ct_impl_rising (good_cons ct_impl_within good_nil)))) tab_ok (by kernel_rfl) (fn := Try.f65) (c := bodyOf Try.f65) (by kernel_rfl) (by kernel_rfl) (by kernel_rfl) c_impl_denominatorsCode_y rfl .n (cutL []) (by kernel_rfl) (by kernel_rfl) k_impl_denominatorsCode_y (by decide) (fun x K => W_impl_denominatorsCode_y x.1 x.2.1 x.2.2.1 K) w_impl_denominatorsCode_y (fun x h1 h2 => m_impl_denominatorsCode_y x.1 x.2.1 x.2.2.1 h1 h2)
def W_impl_denominatorsCode_n (c : CategoryD) (list : List Int) (objects : List Int) (K : denR c_impl_denominatorsCode_n.rt → Prop) : Prop := (cnd ((arrCodeR c list) != (0 : Int)) (K ((), ((arrCodeR c list), ()))) ((inK IntKind.i64 (c.1 - (1 : Int))) ∧ (cnd (!(withinR objects c.1)) (K ((), ((2 : Int), ()))) (cnd (!(risesR list)) (K ((), ((5 : Int), ()))) (((List.length c.2.1) ≤ 40) ∧ (((withinR list (((List.length c.2.1) : Nat) : Int)) = Bool.true) ∧ False))))))
theorem w_impl_denominatorsCode_n (x : denL c_impl_denominatorsCode_n.args) (K : denR c_impl_denominatorsCode_n.rt → Prop) : evF tab (lkp [(107, c_impl_Category_marks), (53, c_impl_arrowCode), (106, c_impl_rising), (85, c_impl_within)]) (cutL []) Try.f65 (bodyOf Try.f65) .n c_impl_denominatorsCode_n x K = W_impl_denominatorsCode_n x.1 x.2.1 x.2.2.1 K := by kernel_rfl
theorem k_impl_denominatorsCode_n : okC Try.f65.ntmps (cutL []) (bodyOf Try.f65) = true := by kernel_rfl
theorem m_impl_denominatorsCode_n (c : CategoryD) (list : List Int) (objects : List Int) (hok : allP (okL c_impl_denominatorsCode_n.args (c, list, objects, ()))) (hpre : allP (c_impl_denominatorsCode_n.pre (c, list, objects, ()))) : W_impl_denominatorsCode_n c list objects (fun r => r = c_impl_denominatorsCode_n.res (c, list, objects, ())) := by
  simp only [c_impl_denominatorsCode_n, spCt, s_impl_denominatorsCode, okL, T.oks, T.ok, ap, allP, true_and, and_true, implies_true] at hok hpre
  try dsimp only [T.den] at hok
  try dsimp only [T.den] at hpre
  unfold W_impl_denominatorsCode_n
  obtain ⟨hd, rfl⟩ := hpre
  clear hok
  have hd0 : denCodeR c list ≠ 0 := by simpa using hd
  have hv : denCodeR c list = if arrCodeR c list = 0 then (if risesR list = true then 0 else 5) else arrCodeR c list := rfl
  refine cnd_of (fun hx => ?_) (fun hx => ?_)
  · rw [if_neg (by simpa using hx)] at hv
    simp only [c_impl_denominatorsCode_n, spCt, s_impl_denominatorsCode, hv]
  · have ha : arrCodeR c list = 0 := by simpa using hx
    rw [if_pos ha] at hv
    have hc : catR c = true := by
      cases h : catR c with
      | true => rfl
      | false => simp [arrCodeR, h] at ha
    have hob := (cat_shape hc).ob
    refine ⟨by rw [inK64]; (try dsimp only); omega, cnd_of (fun hx => by simp [withinR] at hx) (fun _ => cnd_of (fun hx => ?_) (fun hx => ?_))⟩
    · have h3 : risesR list = false := by simpa using hx
      rw [h3, if_neg (by simp)] at hv
      simp only [c_impl_denominatorsCode_n, spCt, s_impl_denominatorsCode, hv]
    · have h3 : risesR list = true := by simpa using hx
      rw [h3, if_pos rfl] at hv
      exact absurd hv hd0
theorem ct_impl_denominatorsCode_n : CtOk Try.prog 65 c_impl_denominatorsCode_n :=
  ct_by (Φ := lkp [(107, c_impl_Category_marks), (53, c_impl_arrowCode), (106, c_impl_rising), (85, c_impl_within)]) (good_cons ct_impl_Category_marks (good_cons ct_impl_arrowCode (good_cons ct_impl_rising (good_cons ct_impl_within good_nil)))) tab_ok (by kernel_rfl) (fn := Try.f65) (c := bodyOf Try.f65) (by kernel_rfl) (by kernel_rfl) (by kernel_rfl) c_impl_denominatorsCode_n rfl .n (cutL []) (by kernel_rfl) (by kernel_rfl) k_impl_denominatorsCode_n (by decide) (fun x K => W_impl_denominatorsCode_n x.1 x.2.1 x.2.2.1 K) w_impl_denominatorsCode_n (fun x h1 h2 => m_impl_denominatorsCode_n x.1 x.2.1 x.2.2.1 h1 h2)
theorem ct_impl_denominatorsCode : CtOk Try.prog 65 c_impl_denominatorsCode := ct_sp ct_impl_denominatorsCode_y ct_impl_denominatorsCode_n
def c_impl_FirstFractionFault : Ct := ⟨[CategoryT, (.sl (.int .i64))], [true, false], fun x => [], [(false, (.fz (.int .i64))), (false, (.fz (.int .i64))), (false, (.fz (.int .i64))), (false, (.fz (.int .i64)))], fun x => ((ffMR x.1 x.2.1).1, (ffMR x.1 x.2.1).2.1, (ffMR x.1 x.2.1).2.2.1, (ffMR x.1 x.2.1).2.2.2, ()), false, none⟩
def W_impl_FirstFractionFault (c : CategoryD) (w : List Int) (K : Int × Int × Int × Int × Unit → Prop) : Prop := (cnd ((denCodeR c w) == (0 : Int)) ((((denCodeR c w) == (0 : Int)) = Bool.true) ∧ ((([] : List Int) = ([] : List Int)) ∧ (cnd ((0 : Int) != (0 : Int)) (K ((0 : Int), ((0 : Int), ((0 : Int), ((0 : Int), ()))))) ((DenP (c, (w, (marksR c w)))) ∧ (K ((ffR c w).1, ((ffR c w).2.1, ((ffR c w).2.2, ((0 : Int), ()))))))))) ((((denCodeR c w) == (0 : Int)) = Bool.false) ∧ ((([] : List Int) = ([] : List Int)) ∧ (cnd ((denCodeR c w) != (0 : Int)) (K ((0 : Int), ((0 : Int), ((0 : Int), ((denCodeR c w), ()))))) (False ∧ (False ∧ (False ∧ (False ∧ False))))))))
theorem w_impl_FirstFractionFault (x : denL c_impl_FirstFractionFault.args) (K : Int × Int × Int × Int × Unit → Prop) : evF tab (lkp [(66, c_impl_denominators_fault), (65, c_impl_denominatorsCode)]) (cutL [(1, 1500)]) Try.f30 (bodyOf Try.f30) .n c_impl_FirstFractionFault x K = W_impl_FirstFractionFault x.1 x.2.1 K := by kernel_rfl
theorem k_impl_FirstFractionFault : okC Try.f30.ntmps (cutL [(1, 1500)]) (bodyOf Try.f30) = true := by kernel_rfl
theorem m_impl_FirstFractionFault (c : CategoryD) (w : List Int) (hok : allP (okL c_impl_FirstFractionFault.args (c, w, ()))) (hpre : allP (c_impl_FirstFractionFault.pre (c, w, ()))) : W_impl_FirstFractionFault c w (fun r => r = c_impl_FirstFractionFault.res (c, w, ())) := by
  simp only [c_impl_FirstFractionFault, okL, T.oks, T.ok, ap, allP, true_and, and_true, implies_true] at hok hpre
  try dsimp only [T.den] at hok
  try dsimp only [T.den] at hpre
  unfold W_impl_FirstFractionFault
  clear hok
  refine cnd_of (fun hb => ⟨hb, rfl, cnd_of (fun h => by simp at h) (fun _ => ?_)⟩) (fun hb => ⟨hb, rfl, cnd_of (fun hx => ?_) (fun hx => ?_)⟩)
  · have h : denCodeR c w = 0 := by simpa using hb
    obtain ⟨h1, h2, _⟩ := den_ok h
    exact ⟨⟨cat_shape h1, h2, rfl⟩, by simp only [c_impl_FirstFractionFault, ffMR, if_pos h]⟩
  · have h : ¬ denCodeR c w = 0 := by simpa using hb
    simp only [c_impl_FirstFractionFault, ffMR, if_neg h]
  · rw [bne_eq_false_iff_eq] at hx
    rw [hx] at hb; simp at hb
theorem ct_impl_FirstFractionFault : CtOk Try.prog 30 c_impl_FirstFractionFault :=
  ct_by (Φ := lkp [(66, c_impl_denominators_fault), (65, c_impl_denominatorsCode)]) (good_cons ct_impl_denominators_fault (good_cons ct_impl_denominatorsCode good_nil)) tab_ok (by kernel_rfl) (fn := Try.f30) (c := bodyOf Try.f30) (by kernel_rfl) (by kernel_rfl) (by kernel_rfl) c_impl_FirstFractionFault rfl .n (cutL [(1, 1500)]) (by kernel_rfl) (by kernel_rfl) k_impl_FirstFractionFault (by decide) (fun x K => W_impl_FirstFractionFault x.1 x.2.1 K) w_impl_FirstFractionFault (fun x h1 h2 => m_impl_FirstFractionFault x.1 x.2.1 h1 h2)
def c_laws_eqInt64S : Ct := ⟨[(.sl (.int .i64)), (.sl (.int .i64))], [false, false], fun x => [], [(false, (.fz .bool))], fun x => (eqR (.sl (.int .i64)) x.1 x.2.1, ()), false, none⟩
def W_laws_eqInt64S (a : List Int) (b : List Int) (K : Bool × Unit → Prop) : Prop := (cnd ((((List.length a) : Nat) : Int) != (((List.length b) : Nat) : Int)) (K (Bool.false, ())) (loopW (S := ((Int × Unit) × Unit)) (fun s => (fun next => ((inK IntKind.i64 s.1.1) → (cnd (decide (s.1.1 < (((List.length a) : Nat) : Int))) (((0 : Int) ≤ s.1.1) ∧ ((s.1.1 < (((List.length a) : Nat) : Int)) ∧ (((0 : Int) ≤ s.1.1) ∧ ((s.1.1 < (((List.length b) : Nat) : Int)) ∧ (cnd ((List.getD a (Int.toNat s.1.1) (0 : Int)) != (List.getD b (Int.toNat s.1.1) (0 : Int))) (K (Bool.false, ())) ((inK IntKind.i64 (s.1.1 + (1 : Int))) ∧ (next (((s.1.1 + (1 : Int)), ()), ())))))))) (K (Bool.true, ())))))) (((0 : Int), ()), ())))
theorem w_laws_eqInt64S (x : denL c_laws_eqInt64S.args) (K : Bool × Unit → Prop) : evF tab (lkp []) (cutL [(6, 9)]) Try.f31 (bodyOf Try.f31) (.s .n (.s .n (.s (.s .n (.l [(5, (.d (.int .i64)))] [] [0, 1] .n)) .n))) c_laws_eqInt64S x K = W_laws_eqInt64S x.1 x.2.1 K := by kernel_rfl
theorem k_laws_eqInt64S : okC Try.f31.ntmps (cutL [(6, 9)]) (bodyOf Try.f31) = true := by kernel_rfl
theorem m_laws_eqInt64S (a : List Int) (b : List Int) (hok : allP (okL c_laws_eqInt64S.args (a, b, ()))) (hpre : allP (c_laws_eqInt64S.pre (a, b, ()))) : W_laws_eqInt64S a b (fun r => r = c_laws_eqInt64S.res (a, b, ())) := by
  simp only [c_laws_eqInt64S, okL, T.oks, T.ok, ap, allP, true_and, and_true, implies_true] at hok hpre
  try dsimp only [T.den] at hok
  try dsimp only [T.den] at hpre
  unfold W_laws_eqInt64S
  refine cnd_of (fun hc => ?_) (fun hc => ?_)
  · simp only [c_laws_eqInt64S, Prod.mk.injEq, and_true]; rw [eqR_f]; rintro rfl; simp at hc
  have hl : a.length = b.length := by simp at hc; omega
  refine loop_of (fun (s : ((Int × Unit) × Unit)) => 0 ≤ s.1.1 ∧ s.1.1 ≤ a.length ∧ a.take s.1.1.toNat = b.take s.1.1.toNat) (fun (s : ((Int × Unit) × Unit)) => (a.length - s.1.1).toNat) ?_ (by simp)
  rintro ⟨⟨i, _⟩, _⟩ next ⟨h0, h1, h2⟩ hn hin
  simp only at h0 h1 h2 hn ⊢
  refine cnd_d (fun hc => ?_) (fun hc => ?_)
  · have ha := take_c a (0 : Int) h0 hc
    have hb := take_c b (0 : Int) h0 (by omega)
    refine ⟨by omega, by omega, by omega, by omega, cnd_of (fun hd => ?_) (fun hd => ?_)⟩
    · simp only [c_laws_eqInt64S, Prod.mk.injEq, and_true]; rw [eqR_f]; rintro rfl; simp at hd
    · refine ⟨by grind [cnd, nb_eq, inK64], hn _ ⟨(by first | omega | (dsimp only; omega)), (by first | omega | (dsimp only; omega)), ?_⟩ (by first | omega | (dsimp only; omega))⟩
      simp only [Bool.not_eq_false', eqR_iff, bne_eq_false_iff_eq] at hd
      simp only [ha, hb, h2, hd]
  · rw [take_n a (by omega), take_n b (by omega)] at h2
    simp [h2, c_laws_eqInt64S]
theorem ct_laws_eqInt64S : CtOk Try.prog 31 c_laws_eqInt64S :=
  ct_by (Φ := lkp []) good_nil tab_ok (by kernel_rfl) (fn := Try.f31) (c := bodyOf Try.f31) (by kernel_rfl) (by kernel_rfl) (by kernel_rfl) c_laws_eqInt64S rfl (.s .n (.s .n (.s (.s .n (.l [(5, (.d (.int .i64)))] [] [0, 1] .n)) .n))) (cutL [(6, 9)]) (by kernel_rfl) (by kernel_rfl) k_laws_eqInt64S (by decide) (fun x K => W_laws_eqInt64S x.1 x.2.1 K) w_laws_eqInt64S (fun x h1 h2 => m_laws_eqInt64S x.1 x.2.1 h1 h2)
def c_laws_eqInt64SS : Ct := ⟨[(.sl (.sl (.int .i64))), (.sl (.sl (.int .i64)))], [false, false], fun x => [], [(false, (.fz .bool))], fun x => (eqR (.sl (.sl (.int .i64))) x.1 x.2.1, ()), false, none⟩
def W_laws_eqInt64SS (a : List (List Int)) (b : List (List Int)) (K : Bool × Unit → Prop) : Prop := (cnd ((((List.length a) : Nat) : Int) != (((List.length b) : Nat) : Int)) (K (Bool.false, ())) (loopW (S := ((Int × Unit) × Unit)) (fun s => (fun next => ((inK IntKind.i64 s.1.1) → (cnd (decide (s.1.1 < (((List.length a) : Nat) : Int))) (((0 : Int) ≤ s.1.1) ∧ ((s.1.1 < (((List.length a) : Nat) : Int)) ∧ (((0 : Int) ≤ s.1.1) ∧ ((s.1.1 < (((List.length b) : Nat) : Int)) ∧ (cnd (!(eqR (T.sl (T.int IntKind.i64)) (List.getD a (Int.toNat s.1.1) ([] : List Int)) (List.getD b (Int.toNat s.1.1) ([] : List Int)))) (K (Bool.false, ())) ((inK IntKind.i64 (s.1.1 + (1 : Int))) ∧ (next (((s.1.1 + (1 : Int)), ()), ())))))))) (K (Bool.true, ())))))) (((0 : Int), ()), ())))
theorem w_laws_eqInt64SS (x : denL c_laws_eqInt64SS.args) (K : Bool × Unit → Prop) : evF tab (lkp [(31, c_laws_eqInt64S)]) (cutL [(6, 10)]) Try.f14 (bodyOf Try.f14) (.s .n (.s .n (.s (.s .n (.l [(5, (.d (.int .i64)))] [] [0, 1] .n)) .n))) c_laws_eqInt64SS x K = W_laws_eqInt64SS x.1 x.2.1 K := by kernel_rfl
theorem k_laws_eqInt64SS : okC Try.f14.ntmps (cutL [(6, 10)]) (bodyOf Try.f14) = true := by kernel_rfl
theorem m_laws_eqInt64SS (a : List (List Int)) (b : List (List Int)) (hok : allP (okL c_laws_eqInt64SS.args (a, b, ()))) (hpre : allP (c_laws_eqInt64SS.pre (a, b, ()))) : W_laws_eqInt64SS a b (fun r => r = c_laws_eqInt64SS.res (a, b, ())) := by
  simp only [c_laws_eqInt64SS, okL, T.oks, T.ok, ap, allP, true_and, and_true, implies_true] at hok hpre
  try dsimp only [T.den] at hok
  try dsimp only [T.den] at hpre
  unfold W_laws_eqInt64SS
  refine cnd_of (fun hc => ?_) (fun hc => ?_)
  · simp only [c_laws_eqInt64SS, Prod.mk.injEq, and_true]; rw [eqR_f]; rintro rfl; simp at hc
  have hl : a.length = b.length := by simp at hc; omega
  refine loop_of (fun (s : ((Int × Unit) × Unit)) => 0 ≤ s.1.1 ∧ s.1.1 ≤ a.length ∧ a.take s.1.1.toNat = b.take s.1.1.toNat) (fun (s : ((Int × Unit) × Unit)) => (a.length - s.1.1).toNat) ?_ (by simp)
  rintro ⟨⟨i, _⟩, _⟩ next ⟨h0, h1, h2⟩ hn hin
  simp only at h0 h1 h2 hn ⊢
  refine cnd_d (fun hc => ?_) (fun hc => ?_)
  · have ha := take_c a ([] : List Int) h0 hc
    have hb := take_c b ([] : List Int) h0 (by omega)
    refine ⟨by omega, by omega, by omega, by omega, cnd_of (fun hd => ?_) (fun hd => ?_)⟩
    · simp only [c_laws_eqInt64SS, Prod.mk.injEq, and_true]; rw [eqR_f]; rintro rfl; simp at hd
    · refine ⟨by grind [cnd, nb_eq, inK64], hn _ ⟨(by first | omega | (dsimp only; omega)), (by first | omega | (dsimp only; omega)), ?_⟩ (by first | omega | (dsimp only; omega))⟩
      simp only [Bool.not_eq_false', eqR_iff, bne_eq_false_iff_eq] at hd
      simp only [ha, hb, h2, hd]
  · rw [take_n a (by omega), take_n b (by omega)] at h2
    simp [h2, c_laws_eqInt64SS]
theorem ct_laws_eqInt64SS : CtOk Try.prog 14 c_laws_eqInt64SS :=
  ct_by (Φ := lkp [(31, c_laws_eqInt64S)]) (good_cons ct_laws_eqInt64S good_nil) tab_ok (by kernel_rfl) (fn := Try.f14) (c := bodyOf Try.f14) (by kernel_rfl) (by kernel_rfl) (by kernel_rfl) c_laws_eqInt64SS rfl (.s .n (.s .n (.s (.s .n (.l [(5, (.d (.int .i64)))] [] [0, 1] .n)) .n))) (cutL [(6, 10)]) (by kernel_rfl) (by kernel_rfl) k_laws_eqInt64SS (by decide) (fun x K => W_laws_eqInt64SS x.1 x.2.1 K) w_laws_eqInt64SS (fun x h1 h2 => m_laws_eqInt64SS x.1 x.2.1 h1 h2)
def c_laws_eqCategory : Ct := ⟨[CategoryT, CategoryT], [true, true], fun x => [], [(false, (.fz .bool))], fun x => (eqR CategoryT x.1 x.2.1, ()), false, none⟩
def W_laws_eqCategory (a : CategoryD) (b : CategoryD) (K : Bool × Unit → Prop) : Prop := (cnd (a.1 != b.1) (K (Bool.false, ())) (cnd (!(eqR (T.sl (T.int IntKind.i64)) a.2.1 b.2.1)) (K (Bool.false, ())) (cnd (!(eqR (T.sl (T.int IntKind.i64)) a.2.2.1 b.2.2.1)) (K (Bool.false, ())) (cnd (!(eqR (T.sl (T.int IntKind.i64)) a.2.2.2.1 b.2.2.2.1)) (K (Bool.false, ())) (cnd (!(eqR (T.sl (T.sl (T.int IntKind.i64))) a.2.2.2.2 b.2.2.2.2)) (K (Bool.false, ())) (K (Bool.true, ())))))))
theorem w_laws_eqCategory (x : denL c_laws_eqCategory.args) (K : Bool × Unit → Prop) : evF tab (lkp [(31, c_laws_eqInt64S), (14, c_laws_eqInt64SS)]) (cutL []) Try.f23 (bodyOf Try.f23) .n c_laws_eqCategory x K = W_laws_eqCategory x.1 x.2.1 K := by kernel_rfl
theorem k_laws_eqCategory : okC Try.f23.ntmps (cutL []) (bodyOf Try.f23) = true := by kernel_rfl
theorem m_laws_eqCategory (a : CategoryD) (b : CategoryD) (hok : allP (okL c_laws_eqCategory.args (a, b, ()))) (hpre : allP (c_laws_eqCategory.pre (a, b, ()))) : W_laws_eqCategory a b (fun r => r = c_laws_eqCategory.res (a, b, ())) := by
  simp only [c_laws_eqCategory, okL, T.oks, T.ok, ap, allP, true_and, and_true, implies_true] at hok hpre
  try dsimp only [T.den] at hok
  try dsimp only [T.den] at hpre
  unfold W_laws_eqCategory
  simp only [c_laws_eqCategory, eqR_p, eqR_int, eqR_bool]
  grind [cnd, nb_eq, inK64]
theorem ct_laws_eqCategory : CtOk Try.prog 23 c_laws_eqCategory :=
  ct_by (Φ := lkp [(31, c_laws_eqInt64S), (14, c_laws_eqInt64SS)]) (good_cons ct_laws_eqInt64S (good_cons ct_laws_eqInt64SS good_nil)) tab_ok (by kernel_rfl) (fn := Try.f23) (c := bodyOf Try.f23) (by kernel_rfl) (by kernel_rfl) (by kernel_rfl) c_laws_eqCategory rfl .n (cutL []) (by kernel_rfl) (by kernel_rfl) k_laws_eqCategory (by decide) (fun x K => W_laws_eqCategory x.1 x.2.1 K) w_laws_eqCategory (fun x h1 h2 => m_laws_eqCategory x.1 x.2.1 h1 h2)
def c_laws_szInt64S : Ct := ⟨[(.sl (.int .i64)), (.int .i64)], [false, false], fun x => [-4611545280939032576 ≤ x.2.1], [(false, (.fz (.int .i64)))], fun x => (szR (wR (.sl (.int .i64)) x.1) x.2.1, ()), false, none⟩
def W_laws_szInt64S (a : List Int) (left : Int) (K : Int × Unit → Prop) : Prop := ((inK IntKind.i64 (left - (((List.length a) : Nat) : Int))) ∧ (cnd (decide ((left - (((List.length a) : Nat) : Int)) < (0 : Int))) (K ((-(1 : Int)), ())) (K ((left - (((List.length a) : Nat) : Int)), ()))))
theorem w_laws_szInt64S (x : denL c_laws_szInt64S.args) (K : Int × Unit → Prop) : evF tab (lkp []) (cutL []) Try.f41 (bodyOf Try.f41) .n c_laws_szInt64S x K = W_laws_szInt64S x.1 x.2.1 K := by kernel_rfl
theorem k_laws_szInt64S : okC Try.f41.ntmps (cutL []) (bodyOf Try.f41) = true := by kernel_rfl
theorem m_laws_szInt64S (a : List Int) (left : Int) (hok : allP (okL c_laws_szInt64S.args (a, left, ()))) (hpre : allP (c_laws_szInt64S.pre (a, left, ()))) : W_laws_szInt64S a left (fun r => r = c_laws_szInt64S.res (a, left, ())) := by
  simp only [c_laws_szInt64S, okL, T.oks, T.ok, ap, allP, true_and, and_true, implies_true] at hok hpre
  try dsimp only [T.den] at hok
  try dsimp only [T.den] at hpre
  unfold W_laws_szInt64S
  simp only [c_laws_szInt64S, wR_ints]
  grind [cnd, nb_eq, inK64, szR]
theorem ct_laws_szInt64S : CtOk Try.prog 41 c_laws_szInt64S :=
  ct_by (Φ := lkp []) good_nil tab_ok (by kernel_rfl) (fn := Try.f41) (c := bodyOf Try.f41) (by kernel_rfl) (by kernel_rfl) (by kernel_rfl) c_laws_szInt64S rfl .n (cutL []) (by kernel_rfl) (by kernel_rfl) k_laws_szInt64S (by decide) (fun x K => W_laws_szInt64S x.1 x.2.1 K) w_laws_szInt64S (fun x h1 h2 => m_laws_szInt64S x.1 x.2.1 h1 h2)
def c_laws_szInt64SS : Ct := ⟨[(.sl (.sl (.int .i64))), (.int .i64)], [false, false], fun x => [-4611404543450677248 ≤ x.2.1], [(false, (.fz (.int .i64)))], fun x => (szR (wR (.sl (.sl (.int .i64))) x.1) x.2.1, ()), false, none⟩
def W_laws_szInt64SS (a : List (List Int)) (left : Int) (K : Int × Unit → Prop) : Prop := ((inK IntKind.i64 (left - (((List.length a) : Nat) : Int))) ∧ (cnd (decide ((left - (((List.length a) : Nat) : Int)) < (0 : Int))) (K ((-(1 : Int)), ())) (loopW (S := ((Int × (Int × Unit)) × Unit)) (fun s => (fun next => ((inK IntKind.i64 s.1.1) → ((inK IntKind.i64 s.1.2.1) → (cnd (decide (s.1.2.1 < (((List.length a) : Nat) : Int))) (((0 : Int) ≤ s.1.2.1) ∧ ((s.1.2.1 < (((List.length a) : Nat) : Int)) ∧ (((-(4611545280939032576 : Int)) ≤ s.1.1) ∧ (cnd (decide ((szR (wR (T.sl (T.int IntKind.i64)) (List.getD a (Int.toNat s.1.2.1) ([] : List Int))) s.1.1) < (0 : Int))) (K ((-(1 : Int)), ())) ((inK IntKind.i64 (s.1.2.1 + (1 : Int))) ∧ (next (((szR (wR (T.sl (T.int IntKind.i64)) (List.getD a (Int.toNat s.1.2.1) ([] : List Int))) s.1.1), ((s.1.2.1 + (1 : Int)), ())), ()))))))) (K (s.1.1, ()))))))) (((left - (((List.length a) : Nat) : Int)), ((0 : Int), ())), ()))))
theorem w_laws_szInt64SS (x : denL c_laws_szInt64SS.args) (K : Int × Unit → Prop) : evF tab (lkp [(41, c_laws_szInt64S)]) (cutL []) Try.f42 (bodyOf Try.f42) (.s .n (.s .n (.s .n (.s (.s .n (.l [(1, (.d (.int .i64))), (5, (.d (.int .i64)))] [] [0] .n)) .n)))) c_laws_szInt64SS x K = W_laws_szInt64SS x.1 x.2.1 K := by kernel_rfl
theorem k_laws_szInt64SS : okC Try.f42.ntmps (cutL []) (bodyOf Try.f42) = true := by kernel_rfl
theorem m_laws_szInt64SS (a : List (List Int)) (left : Int) (hok : allP (okL c_laws_szInt64SS.args (a, left, ()))) (hpre : allP (c_laws_szInt64SS.pre (a, left, ()))) : W_laws_szInt64SS a left (fun r => r = c_laws_szInt64SS.res (a, left, ())) := by
  simp only [c_laws_szInt64SS, okL, T.oks, T.ok, ap, allP, true_and, and_true, implies_true] at hok hpre
  try dsimp only [T.den] at hok
  try dsimp only [T.den] at hpre
  unfold W_laws_szInt64SS
  have hr := szR_ge (x := a.length) (r := (a.map (wR (.sl (.int .i64)))).sum) (l := left)
  refine ⟨by grind [cnd, nb_eq, inK64], cnd_d (fun hc => ?_) (fun hc => ?_)⟩
  · simp only [c_laws_szInt64SS]; rw [wR_sl, szR_lt (x := a.length) (by omega)]
  replace hr := hr (by omega)
  rw [szR_val (x := a.length) (by omega)] at hr
  refine loop_of (fun (s : ((Int × (Int × Unit)) × Unit)) => 0 ≤ s.1.1 ∧ 0 ≤ s.1.2.1 ∧ s.1.2.1 ≤ a.length ∧ szR (wR (.sl (.sl (.int .i64))) a) left = szR ((a.drop s.1.2.1.toNat).map (wR (.sl (.int .i64)))).sum s.1.1) (fun (s : ((Int × (Int × Unit)) × Unit)) => (a.length - s.1.2.1).toNat) ?_ ⟨(by first | omega | (dsimp only; omega)), by simp, by simp, by rw [wR_sl]; simpa using hr⟩
  rintro ⟨⟨l, i, _⟩, _⟩ next ⟨h0, h1, h2, h3⟩ hn hin hl
  simp only at h0 h1 h2 h3 hn ⊢
  refine cnd_d (fun hc => ?_) (fun hc => ?_)
  · rw [drop_c a ([] : List Int) h1 hc, List.map_cons, List.sum_cons] at h3
    refine ⟨by omega, by omega, by omega, cnd_d (fun hd => ?_) (fun hd => ?_)⟩
    · rw [szR_neg] at hd
      rw [szR_lt hd] at h3
      simp only [c_laws_szInt64SS]; rw [h3]
    · rw [szR_neg] at hd
      rw [szR_ge hd] at h3
      exact ⟨by grind [cnd, nb_eq, inK64], hn _ ⟨by simp only; rw [szR_val hd]; omega, (by first | omega | (dsimp only; omega)), (by first | omega | (dsimp only; omega)), h3⟩ (by first | omega | (dsimp only; omega))⟩
  · rw [drop_n a (by omega)] at h3
    simp only [List.map_nil, List.sum_nil] at h3
    rw [szR_zero h0] at h3
    simp only [c_laws_szInt64SS]; rw [h3]
theorem ct_laws_szInt64SS : CtOk Try.prog 42 c_laws_szInt64SS :=
  ct_by (Φ := lkp [(41, c_laws_szInt64S)]) (good_cons ct_laws_szInt64S good_nil) tab_ok (by kernel_rfl) (fn := Try.f42) (c := bodyOf Try.f42) (by kernel_rfl) (by kernel_rfl) (by kernel_rfl) c_laws_szInt64SS rfl (.s .n (.s .n (.s .n (.s (.s .n (.l [(1, (.d (.int .i64))), (5, (.d (.int .i64)))] [] [0] .n)) .n)))) (cutL []) (by kernel_rfl) (by kernel_rfl) k_laws_szInt64SS (by decide) (fun x K => W_laws_szInt64SS x.1 x.2.1 K) w_laws_szInt64SS (fun x h1 h2 => m_laws_szInt64SS x.1 x.2.1 h1 h2)
def c_laws_szCategory : Ct := ⟨[CategoryT, (.int .i64)], [true, false], fun x => [-4611404543450677248 ≤ x.2.1], [(false, (.fz (.int .i64)))], fun x => (szR (wR CategoryT x.1) x.2.1, ()), false, none⟩
def W_laws_szCategory (a : CategoryD) (left : Int) (K : Int × Unit → Prop) : Prop := (((-(4611545280939032576 : Int)) ≤ left) ∧ (cnd (decide ((szR (wR (T.sl (T.int IntKind.i64)) a.2.1) left) < (0 : Int))) (K ((-(1 : Int)), ())) (((-(4611545280939032576 : Int)) ≤ (szR (wR (T.sl (T.int IntKind.i64)) a.2.1) left)) ∧ (cnd (decide ((szR (wR (T.sl (T.int IntKind.i64)) a.2.2.1) (szR (wR (T.sl (T.int IntKind.i64)) a.2.1) left)) < (0 : Int))) (K ((-(1 : Int)), ())) (((-(4611545280939032576 : Int)) ≤ (szR (wR (T.sl (T.int IntKind.i64)) a.2.2.1) (szR (wR (T.sl (T.int IntKind.i64)) a.2.1) left))) ∧ (cnd (decide ((szR (wR (T.sl (T.int IntKind.i64)) a.2.2.2.1) (szR (wR (T.sl (T.int IntKind.i64)) a.2.2.1) (szR (wR (T.sl (T.int IntKind.i64)) a.2.1) left))) < (0 : Int))) (K ((-(1 : Int)), ())) (((-(4611404543450677248 : Int)) ≤ (szR (wR (T.sl (T.int IntKind.i64)) a.2.2.2.1) (szR (wR (T.sl (T.int IntKind.i64)) a.2.2.1) (szR (wR (T.sl (T.int IntKind.i64)) a.2.1) left)))) ∧ (cnd (decide ((szR (wR (T.sl (T.sl (T.int IntKind.i64))) a.2.2.2.2) (szR (wR (T.sl (T.int IntKind.i64)) a.2.2.2.1) (szR (wR (T.sl (T.int IntKind.i64)) a.2.2.1) (szR (wR (T.sl (T.int IntKind.i64)) a.2.1) left)))) < (0 : Int))) (K ((-(1 : Int)), ())) (K ((szR (wR (T.sl (T.sl (T.int IntKind.i64))) a.2.2.2.2) (szR (wR (T.sl (T.int IntKind.i64)) a.2.2.2.1) (szR (wR (T.sl (T.int IntKind.i64)) a.2.2.1) (szR (wR (T.sl (T.int IntKind.i64)) a.2.1) left)))), ()))))))))))
theorem w_laws_szCategory (x : denL c_laws_szCategory.args) (K : Int × Unit → Prop) : evF tab (lkp [(41, c_laws_szInt64S), (42, c_laws_szInt64SS)]) (cutL []) Try.f19 (bodyOf Try.f19) .n c_laws_szCategory x K = W_laws_szCategory x.1 x.2.1 K := by kernel_rfl
theorem k_laws_szCategory : okC Try.f19.ntmps (cutL []) (bodyOf Try.f19) = true := by kernel_rfl
theorem m_laws_szCategory (a : CategoryD) (left : Int) (hok : allP (okL c_laws_szCategory.args (a, left, ()))) (hpre : allP (c_laws_szCategory.pre (a, left, ()))) : W_laws_szCategory a left (fun r => r = c_laws_szCategory.res (a, left, ())) := by
  simp only [c_laws_szCategory, okL, T.oks, T.ok, ap, allP, true_and, and_true, implies_true] at hok hpre
  try dsimp only [T.den] at hok
  try dsimp only [T.den] at hpre
  unfold W_laws_szCategory
  simp only [c_laws_szCategory, wR_p, wR_int, wR_bool, Nat.zero_add, Nat.add_zero]
  grind [cnd, nb_eq, inK64, szR]
theorem ct_laws_szCategory : CtOk Try.prog 19 c_laws_szCategory :=
  ct_by (Φ := lkp [(41, c_laws_szInt64S), (42, c_laws_szInt64SS)]) (good_cons ct_laws_szInt64S (good_cons ct_laws_szInt64SS good_nil)) tab_ok (by kernel_rfl) (fn := Try.f19) (c := bodyOf Try.f19) (by kernel_rfl) (by kernel_rfl) (by kernel_rfl) c_laws_szCategory rfl .n (cutL []) (by kernel_rfl) (by kernel_rfl) k_laws_szCategory (by decide) (fun x K => W_laws_szCategory x.1 x.2.1 K) w_laws_szCategory (fun x h1 h2 => m_laws_szCategory x.1 x.2.1 h1 h2)
def c_laws_toInt64S : Ct := ⟨[(.sl (.int .i64))], [false], fun x => [wR (.sl (.int .i64)) x.1 ≤ 1099511627776], [(false, (.sl (.fz (.int .i64))))], fun x => (x.1, ()), false, none⟩
def W_laws_toInt64S (a : List Int) (K : (List Int) × Unit → Prop) : Prop := (((0 : Int) ≤ (((List.length a) : Nat) : Int)) ∧ (((((List.length a) : Nat) : Int) ≤ (((List.length a) : Nat) : Int)) ∧ (((((List.length a) : Nat) : Int) ≤ ((140737488355328 : Nat) : Int)) ∧ ((((((List.length a) : Nat) : Int) * ((8 : Nat) : Int)) ≤ ((140737488355328 : Nat) : Int)) ∧ (loopW (S := ((Unit × (Int × Unit)) × ((List Int) × Unit))) (fun s => (fun next => ((inK IntKind.i64 s.1.2.1) → ((T.ok (T.sl (T.int IntKind.i64)) s.2.1) → (cnd (decide (s.1.2.1 < (((List.length a) : Nat) : Int))) (((0 : Int) ≤ s.1.2.1) ∧ ((s.1.2.1 < (((List.length a) : Nat) : Int)) ∧ (((0 : Int) ≤ s.1.2.1) ∧ ((s.1.2.1 < (((List.length s.2.1) : Nat) : Int)) ∧ ((inK IntKind.i64 (s.1.2.1 + (1 : Int))) ∧ (next (((), ((s.1.2.1 + (1 : Int)), ())), ((List.set s.2.1 (Int.toNat s.1.2.1) (List.getD a (Int.toNat s.1.2.1) (0 : Int))), ())))))))) (K (s.2.1, ()))))))) (((), ((0 : Int), ())), ((List.replicate (Int.toNat (((List.length a) : Nat) : Int)) (0 : Int)), ())))))))
theorem w_laws_toInt64S (x : denL c_laws_toInt64S.args) (K : (List Int) × Unit → Prop) : evF tab (lkp []) (cutL []) Try.f29 (bodyOf Try.f29) (.s .n (.s .n (.s (.s .n (.l [(3, (.ref 7 [])), (4, (.d (.int .i64)))] [(7, (.sl (.fz (.int .i64))))] [0] .n)) .n))) c_laws_toInt64S x K = W_laws_toInt64S x.1 K := by kernel_rfl
theorem k_laws_toInt64S : okC Try.f29.ntmps (cutL []) (bodyOf Try.f29) = true := by kernel_rfl
theorem m_laws_toInt64S (a : List Int) (hok : allP (okL c_laws_toInt64S.args (a, ()))) (hpre : allP (c_laws_toInt64S.pre (a, ()))) : W_laws_toInt64S a (fun r => r = c_laws_toInt64S.res (a, ())) := by
  simp only [c_laws_toInt64S, okL, T.oks, T.ok, ap, allP, true_and, and_true, implies_true] at hok hpre
  try dsimp only [T.den] at hok
  try dsimp only [T.den] at hpre
  unfold W_laws_toInt64S
  rw [wR_sl] at hpre
  refine ⟨by omega, by omega, by first | omega | (rw [nb_eq]; omega), by first | omega | (rw [nb_eq]; omega), ?_⟩
  refine loop_of (fun (s : ((Unit × (Int × Unit)) × ((List Int) × Unit))) => 0 ≤ s.1.2.1 ∧ s.1.2.1 ≤ a.length ∧ s.2.1.length = a.length ∧ s.2.1.take s.1.2.1.toNat = a.take s.1.2.1.toNat) (fun (s : ((Unit × (Int × Unit)) × ((List Int) × Unit))) => (a.length - s.1.2.1).toNat) ?_ (by simp)
  rintro ⟨⟨_, i, _⟩, l, _⟩ next ⟨h0, h1, h2, h3⟩ hn hin hl
  simp only at h0 h1 h2 h3 hn ⊢
  refine cnd_d (fun hc => ?_) (fun hc => ?_)
  · refine ⟨by omega, by omega, by omega, by omega, by grind [cnd, nb_eq, inK64], hn _ ⟨(by first | omega | (dsimp only; omega)), (by first | omega | (dsimp only; omega)), by simp [h2], ?_⟩ (by first | omega | (dsimp only; omega))⟩
    simp only
    rw [take_c a (0 : Int) h0 hc, ← h3]
    exact take_set l h0 (by omega) _
  · rw [take_n a (by omega), take_n l (by omega)] at h3
    simp [h3, c_laws_toInt64S]
theorem ct_laws_toInt64S : CtOk Try.prog 29 c_laws_toInt64S :=
  ct_by (Φ := lkp []) good_nil tab_ok (by kernel_rfl) (fn := Try.f29) (c := bodyOf Try.f29) (by kernel_rfl) (by kernel_rfl) (by kernel_rfl) c_laws_toInt64S rfl (.s .n (.s .n (.s (.s .n (.l [(3, (.ref 7 [])), (4, (.d (.int .i64)))] [(7, (.sl (.fz (.int .i64))))] [0] .n)) .n))) (cutL []) (by kernel_rfl) (by kernel_rfl) k_laws_toInt64S (by decide) (fun x K => W_laws_toInt64S x.1 K) w_laws_toInt64S (fun x h1 h2 => m_laws_toInt64S x.1 h1 h2)
def c_laws_toInt64SS : Ct := ⟨[(.sl (.sl (.int .i64)))], [false], fun x => [wR (.sl (.sl (.int .i64))) x.1 ≤ 1099511627776], [(false, (.sl (.sl (.fz (.int .i64)))))], fun x => (x.1, ()), false, none⟩
def W_laws_toInt64SS (a : List (List Int)) (K : (List (List Int)) × Unit → Prop) : Prop := (((0 : Int) ≤ (((List.length a) : Nat) : Int)) ∧ (((((List.length a) : Nat) : Int) ≤ (((List.length a) : Nat) : Int)) ∧ (((((List.length a) : Nat) : Int) ≤ ((140737488355328 : Nat) : Int)) ∧ ((((((List.length a) : Nat) : Int) * ((24 : Nat) : Int)) ≤ ((140737488355328 : Nat) : Int)) ∧ (loopW (S := ((Unit × (Int × Unit)) × ((List (List Int)) × Unit))) (fun s => (fun next => ((inK IntKind.i64 s.1.2.1) → ((T.ok (T.sl (T.sl (T.int IntKind.i64))) s.2.1) → (cnd (decide (s.1.2.1 < (((List.length a) : Nat) : Int))) (((0 : Int) ≤ s.1.2.1) ∧ ((s.1.2.1 < (((List.length a) : Nat) : Int)) ∧ (((wR (T.sl (T.int IntKind.i64)) (List.getD a (Int.toNat s.1.2.1) ([] : List Int))) ≤ 1099511627776) ∧ (((0 : Int) ≤ s.1.2.1) ∧ ((s.1.2.1 < (((List.length s.2.1) : Nat) : Int)) ∧ ((inK IntKind.i64 (s.1.2.1 + (1 : Int))) ∧ (next (((), ((s.1.2.1 + (1 : Int)), ())), ((List.set s.2.1 (Int.toNat s.1.2.1) (List.getD a (Int.toNat s.1.2.1) ([] : List Int))), ()))))))))) (K (s.2.1, ()))))))) (((), ((0 : Int), ())), ((List.replicate (Int.toNat (((List.length a) : Nat) : Int)) ([] : List Int)), ())))))))
theorem w_laws_toInt64SS (x : denL c_laws_toInt64SS.args) (K : (List (List Int)) × Unit → Prop) : evF tab (lkp [(29, c_laws_toInt64S)]) (cutL []) Try.f45 (bodyOf Try.f45) (.s .n (.s .n (.s (.s .n (.l [(3, (.ref 7 [])), (4, (.d (.int .i64)))] [(7, (.sl (.sl (.fz (.int .i64)))))] [0] .n)) .n))) c_laws_toInt64SS x K = W_laws_toInt64SS x.1 K := by kernel_rfl
theorem k_laws_toInt64SS : okC Try.f45.ntmps (cutL []) (bodyOf Try.f45) = true := by kernel_rfl
theorem m_laws_toInt64SS (a : List (List Int)) (hok : allP (okL c_laws_toInt64SS.args (a, ()))) (hpre : allP (c_laws_toInt64SS.pre (a, ()))) : W_laws_toInt64SS a (fun r => r = c_laws_toInt64SS.res (a, ())) := by
  simp only [c_laws_toInt64SS, okL, T.oks, T.ok, ap, allP, true_and, and_true, implies_true] at hok hpre
  try dsimp only [T.den] at hok
  try dsimp only [T.den] at hpre
  unfold W_laws_toInt64SS
  rw [wR_sl] at hpre
  refine ⟨by omega, by omega, by first | omega | (rw [nb_eq]; omega), by first | omega | (rw [nb_eq]; omega), ?_⟩
  refine loop_of (fun (s : ((Unit × (Int × Unit)) × ((List (List Int)) × Unit))) => 0 ≤ s.1.2.1 ∧ s.1.2.1 ≤ a.length ∧ s.2.1.length = a.length ∧ s.2.1.take s.1.2.1.toNat = a.take s.1.2.1.toNat) (fun (s : ((Unit × (Int × Unit)) × ((List (List Int)) × Unit))) => (a.length - s.1.2.1).toNat) ?_ (by simp)
  rintro ⟨⟨_, i, _⟩, l, _⟩ next ⟨h0, h1, h2, h3⟩ hn hin hl
  simp only at h0 h1 h2 h3 hn ⊢
  refine cnd_d (fun hc => ?_) (fun hc => ?_)
  · have hm := wR_mem (e := (.sl (.int .i64))) (getD_mem a ([] : List Int) h0 hc)
    refine ⟨by omega, by omega, by omega, by omega, by omega, by grind [cnd, nb_eq, inK64], hn _ ⟨(by first | omega | (dsimp only; omega)), (by first | omega | (dsimp only; omega)), by simp [h2], ?_⟩ (by first | omega | (dsimp only; omega))⟩
    simp only
    rw [take_c a ([] : List Int) h0 hc, ← h3]
    exact take_set l h0 (by omega) _
  · rw [take_n a (by omega), take_n l (by omega)] at h3
    simp [h3, c_laws_toInt64SS]
theorem ct_laws_toInt64SS : CtOk Try.prog 45 c_laws_toInt64SS :=
  ct_by (Φ := lkp [(29, c_laws_toInt64S)]) (good_cons ct_laws_toInt64S good_nil) tab_ok (by kernel_rfl) (fn := Try.f45) (c := bodyOf Try.f45) (by kernel_rfl) (by kernel_rfl) (by kernel_rfl) c_laws_toInt64SS rfl (.s .n (.s .n (.s (.s .n (.l [(3, (.ref 7 [])), (4, (.d (.int .i64)))] [(7, (.sl (.sl (.fz (.int .i64)))))] [0] .n)) .n))) (cutL []) (by kernel_rfl) (by kernel_rfl) k_laws_toInt64SS (by decide) (fun x K => W_laws_toInt64SS x.1 K) w_laws_toInt64SS (fun x h1 h2 => m_laws_toInt64SS x.1 h1 h2)
def c_laws_toCategory : Ct := ⟨[CategoryT], [true], fun x => [wR CategoryT x.1 ≤ 1099511627776], [(true, CategoryO)], fun x => (x.1, ()), false, none⟩
def W_laws_toCategory (a : CategoryD) (K : CategoryD × Unit → Prop) : Prop := (((wR (T.sl (T.int IntKind.i64)) a.2.1) ≤ 1099511627776) ∧ (((wR (T.sl (T.int IntKind.i64)) a.2.2.1) ≤ 1099511627776) ∧ (((wR (T.sl (T.int IntKind.i64)) a.2.2.2.1) ≤ 1099511627776) ∧ (((wR (T.sl (T.sl (T.int IntKind.i64))) a.2.2.2.2) ≤ 1099511627776) ∧ (K (a, ()))))))
theorem w_laws_toCategory (x : denL c_laws_toCategory.args) (K : CategoryD × Unit → Prop) : evF tab (lkp [(29, c_laws_toInt64S), (45, c_laws_toInt64SS)]) (cutL []) Try.f21 (bodyOf Try.f21) .n c_laws_toCategory x K = W_laws_toCategory x.1 K := by kernel_rfl
theorem k_laws_toCategory : okC Try.f21.ntmps (cutL []) (bodyOf Try.f21) = true := by kernel_rfl
theorem m_laws_toCategory (a : CategoryD) (hok : allP (okL c_laws_toCategory.args (a, ()))) (hpre : allP (c_laws_toCategory.pre (a, ()))) : W_laws_toCategory a (fun r => r = c_laws_toCategory.res (a, ())) := by
  simp only [c_laws_toCategory, okL, T.oks, T.ok, ap, allP, true_and, and_true, implies_true] at hok hpre
  try dsimp only [T.den] at hok
  try dsimp only [T.den] at hpre
  unfold W_laws_toCategory
  simp only [wR_p, wR_int, wR_bool] at hpre
  repeat' apply And.intro
  all_goals first | rfl | ((try simp only [wR_p, wR_int, wR_bool]); omega)
theorem ct_laws_toCategory : CtOk Try.prog 21 c_laws_toCategory :=
  ct_by (Φ := lkp [(29, c_laws_toInt64S), (45, c_laws_toInt64SS)]) (good_cons ct_laws_toInt64S (good_cons ct_laws_toInt64SS good_nil)) tab_ok (by kernel_rfl) (fn := Try.f21) (c := bodyOf Try.f21) (by kernel_rfl) (by kernel_rfl) (by kernel_rfl) c_laws_toCategory rfl .n (cutL []) (by kernel_rfl) (by kernel_rfl) k_laws_toCategory (by decide) (fun x K => W_laws_toCategory x.1 K) w_laws_toCategory (fun x h1 h2 => m_laws_toCategory x.1 h1 h2)
end Go.Bm
