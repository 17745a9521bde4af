/- What the functions that FnExactIsRegularEpi reaches give: for each its contract, what it asks, and the proof. No condition. -/
import Derived.Test.YtjggbiglookngaaTab
namespace Go.Bm
open Go.Proofs
set_option maxRecDepth 100000
set_option maxHeartbeats 1000000
set_option linter.unusedVariables false
set_option linter.unusedSimpArgs false
def c_impl_Category_arrows : Ct := ⟨[(.pt CategoryT)], [false], fun x => [], [(false, (.fz (.int .i64)))], fun x => ((x.1.2.1.length : Int), ()), false, none⟩
def W_impl_Category_arrows (c : CategoryD) (K : Int × Unit → Prop) : Prop := (K ((((List.length c.2.1) : Nat) : Int), ()))
theorem w_impl_Category_arrows (x : denL c_impl_Category_arrows.args) (K : Int × Unit → Prop) : evF tab (lkp []) (cutL []) Try.f86 (bodyOf Try.f86) .n c_impl_Category_arrows x K = W_impl_Category_arrows x.1 K := by kernel_rfl
theorem k_impl_Category_arrows : okC Try.f86.ntmps (cutL []) (bodyOf Try.f86) = true := by kernel_rfl
theorem m_impl_Category_arrows (c : CategoryD) (hok : allP (okL c_impl_Category_arrows.args (c, ()))) (hpre : allP (c_impl_Category_arrows.pre (c, ()))) : W_impl_Category_arrows c (fun r => r = c_impl_Category_arrows.res (c, ())) := by
  simp only [c_impl_Category_arrows, okL, T.oks, T.ok, ap, allP, true_and, and_true, implies_true] at hok hpre
  try dsimp only [T.den] at hok
  try dsimp only [T.den] at hpre
  unfold W_impl_Category_arrows
  rfl
theorem ct_impl_Category_arrows : CtOk Try.prog 86 c_impl_Category_arrows :=
  ct_by (Φ := lkp []) good_nil tab_ok (by kernel_rfl) (fn := Try.f86) (c := bodyOf Try.f86) (by kernel_rfl) (by kernel_rfl) (by kernel_rfl) c_impl_Category_arrows rfl .n (cutL []) (by kernel_rfl) (by kernel_rfl) k_impl_Category_arrows (by decide) (fun x K => W_impl_Category_arrows x.1 K) w_impl_Category_arrows (fun x h1 h2 => m_impl_Category_arrows x.1 h1 h2)
def c_impl_Category_ends : Ct := ⟨[(.pt CategoryT), (.int .i64)], [false, false], fun x => [0 ≤ x.2.1, x.2.1 < x.1.2.1.length, x.2.1 < x.1.2.2.1.length], [(true, (.fz endsT))], fun x => (((x.1.2.1.getD x.2.1.toNat 0, x.1.2.2.1.getD x.2.1.toNat 0) : Int × Int), ()), false, none⟩
def W_impl_Category_ends (c : CategoryD) (f : Int) (K : endsD × Unit → Prop) : Prop := (((0 : Int) ≤ f) ∧ ((f < (((List.length c.2.1) : Nat) : Int)) ∧ (((0 : Int) ≤ f) ∧ ((f < (((List.length c.2.2.1) : Nat) : Int)) ∧ (K (((List.getD c.2.1 (Int.toNat f) (0 : Int)), (List.getD c.2.2.1 (Int.toNat f) (0 : Int))), ()))))))
theorem w_impl_Category_ends (x : denL c_impl_Category_ends.args) (K : endsD × Unit → Prop) : evF tab (lkp []) (cutL [(1, 15)]) Try.f110 (bodyOf Try.f110) .n c_impl_Category_ends x K = W_impl_Category_ends x.1 x.2.1 K := by kernel_rfl
theorem k_impl_Category_ends : okC Try.f110.ntmps (cutL [(1, 15)]) (bodyOf Try.f110) = true := by kernel_rfl
theorem m_impl_Category_ends (c : CategoryD) (f : Int) (hok : allP (okL c_impl_Category_ends.args (c, f, ()))) (hpre : allP (c_impl_Category_ends.pre (c, f, ()))) : W_impl_Category_ends c f (fun r => r = c_impl_Category_ends.res (c, f, ())) := by
  simp only [c_impl_Category_ends, okL, T.oks, T.ok, ap, allP, true_and, and_true, implies_true] at hok hpre
  try dsimp only [T.den] at hok
  try dsimp only [T.den] at hpre
  unfold W_impl_Category_ends
  exact ⟨hpre.1, hpre.2.1, hpre.1, hpre.2.2, rfl⟩
theorem ct_impl_Category_ends : CtOk Try.prog 110 c_impl_Category_ends :=
  ct_by (Φ := lkp []) good_nil tab_ok (by kernel_rfl) (fn := Try.f110) (c := bodyOf Try.f110) (by kernel_rfl) (by kernel_rfl) (by kernel_rfl) c_impl_Category_ends rfl .n (cutL [(1, 15)]) (by kernel_rfl) (by kernel_rfl) k_impl_Category_ends (by decide) (fun x K => W_impl_Category_ends x.1 x.2.1 K) w_impl_Category_ends (fun x h1 h2 => m_impl_Category_ends x.1 x.2.1 h1 h2)
def c_impl_inRange : Ct := ⟨[(.int .i64), (.int .i64), (.int .i64)], [false, false, false], fun x => [], [(false, (.fz .bool))], fun x => (inR x.1 x.2.1 x.2.2.1, ()), false, none⟩
def W_impl_inRange (n : Int) (low : Int) (high : Int) (K : Bool × Unit → Prop) : Prop := (K (((decide (low ≤ n)) && (decide (n ≤ high))), ()))
theorem w_impl_inRange (x : denL c_impl_inRange.args) (K : Bool × Unit → Prop) : evF tab (lkp []) (cutL []) Try.f132 (bodyOf Try.f132) .n c_impl_inRange x K = W_impl_inRange x.1 x.2.1 x.2.2.1 K := by kernel_rfl
theorem k_impl_inRange : okC Try.f132.ntmps (cutL []) (bodyOf Try.f132) = true := by kernel_rfl
theorem m_impl_inRange (n : Int) (low : Int) (high : Int) (hok : allP (okL c_impl_inRange.args (n, low, high, ()))) (hpre : allP (c_impl_inRange.pre (n, low, high, ()))) : W_impl_inRange n low high (fun r => r = c_impl_inRange.res (n, low, high, ())) := by
  simp only [c_impl_inRange, okL, T.oks, T.ok, ap, allP, true_and, and_true, implies_true] at hok hpre
  try dsimp only [T.den] at hok
  try dsimp only [T.den] at hpre
  unfold W_impl_inRange
  grind [cnd, nb_eq, inK64, c_impl_inRange, inR]
theorem ct_impl_inRange : CtOk Try.prog 132 c_impl_inRange :=
  ct_by (Φ := lkp []) good_nil tab_ok (by kernel_rfl) (fn := Try.f132) (c := bodyOf Try.f132) (by kernel_rfl) (by kernel_rfl) (by kernel_rfl) c_impl_inRange rfl .n (cutL []) (by kernel_rfl) (by kernel_rfl) k_impl_inRange (by decide) (fun x K => W_impl_inRange x.1 x.2.1 x.2.2.1 K) w_impl_inRange (fun x h1 h2 => m_impl_inRange x.1 x.2.1 x.2.2.1 h1 h2)
def c_impl_within : Ct := ⟨[(.sl (.int .i64)), (.int .i64)], [false, false], fun x => [inK .i64 (x.2.1 - 1)], [(false, (.fz .bool))], fun x => (withinR x.1 x.2.1, ()), false, none⟩
def W_impl_within (list : List Int) (n : Int) (K : Bool × Unit → Prop) : Prop := (loopW (S := ((Int × Unit) × Unit)) (fun s => (fun next => ((inK IntKind.i64 s.1.1) → (cnd (decide (s.1.1 < (((List.length list) : Nat) : Int))) (((0 : Int) ≤ s.1.1) ∧ ((s.1.1 < (((List.length list) : Nat) : Int)) ∧ ((inK IntKind.i64 (n - (1 : Int))) ∧ (cnd (!(inR (List.getD list (Int.toNat s.1.1) (0 : Int)) (0 : Int) (n - (1 : Int)))) (K (Bool.false, ())) ((inK IntKind.i64 (s.1.1 + (1 : Int))) ∧ (next (((s.1.1 + (1 : Int)), ()), ()))))))) (K (Bool.true, ())))))) (((0 : Int), ()), ()))
theorem w_impl_within (x : denL c_impl_within.args) (K : Bool × Unit → Prop) : evF tab (lkp [(132, c_impl_inRange)]) (cutL []) Try.f85 (bodyOf Try.f85) (.s .n (.s (.s .n (.l [(9, (.d (.int .i64)))] [] [1, 7, 8] .n)) .n)) c_impl_within x K = W_impl_within x.1 x.2.1 K := by kernel_rfl
theorem k_impl_within : okC Try.f85.ntmps (cutL []) (bodyOf Try.f85) = true := by kernel_rfl
theorem m_impl_within (list : List Int) (n : Int) (hok : allP (okL c_impl_within.args (list, n, ()))) (hpre : allP (c_impl_within.pre (list, n, ()))) : W_impl_within list n (fun r => r = c_impl_within.res (list, n, ())) := by
  simp only [c_impl_within, okL, T.oks, T.ok, ap, allP, true_and, and_true, implies_true] at hok hpre
  try dsimp only [T.den] at hok
  try dsimp only [T.den] at hpre
  unfold W_impl_within
  refine loop_of (fun (s : ((Int × Unit) × Unit)) => 0 ≤ s.1.1 ∧ s.1.1 ≤ list.length ∧ withinR list n = withinR (list.drop s.1.1.toNat) n) (fun (s : ((Int × Unit) × Unit)) => (list.length - s.1.1).toNat) ?_ (by simp)
  rintro ⟨⟨i, _⟩, _⟩ next ⟨h0, h1, h2⟩ hn hin
  simp only at h0 h1 h2 hn ⊢
  refine cnd_d (fun hc => ?_) (fun hc => ?_)
  · rw [drop_c list 0 h0 hc] at h2
    simp only [withinR, List.all_cons] at h2
    grind [cnd, nb_eq, inK64, c_impl_within, withinR]
  · rw [drop_n list (by omega)] at h2
    grind [cnd, nb_eq, inK64, c_impl_within, withinR]
theorem ct_impl_within : CtOk Try.prog 85 c_impl_within :=
  ct_by (Φ := lkp [(132, c_impl_inRange)]) (good_cons ct_impl_inRange good_nil) tab_ok (by kernel_rfl) (fn := Try.f85) (c := bodyOf Try.f85) (by kernel_rfl) (by kernel_rfl) (by kernel_rfl) c_impl_within rfl (.s .n (.s (.s .n (.l [(9, (.d (.int .i64)))] [] [1, 7, 8] .n)) .n)) (cutL []) (by kernel_rfl) (by kernel_rfl) k_impl_within (by decide) (fun x K => W_impl_within x.1 x.2.1 K) w_impl_within (fun x h1 h2 => m_impl_within x.1 x.2.1 h1 h2)
def compR (c : CategoryD) (f g : Int) : Int := (c.2.2.2.2.getD f.toNat []).getD g.toNat 0

def c_impl_Category_then : Ct := ⟨[(.pt CategoryT), (.int .i64), (.int .i64)], [false, false, false], fun x => [0 ≤ x.2.1, x.2.1 < x.1.2.2.2.2.length, 0 ≤ x.2.2.1, x.2.2.1 < (x.1.2.2.2.2.getD x.2.1.toNat []).length], [(false, (.fz (.int .i64)))], fun x => (compR x.1 x.2.1 x.2.2.1, ()), false, none⟩
def W_impl_Category_then (c : CategoryD) (f : Int) (g : Int) (K : Int × Unit → Prop) : Prop := (((0 : Int) ≤ f) ∧ ((f < (((List.length c.2.2.2.2) : Nat) : Int)) ∧ (((0 : Int) ≤ g) ∧ ((g < (((List.length (List.getD c.2.2.2.2 (Int.toNat f) ([] : List Int))) : Nat) : Int)) ∧ (K ((List.getD (List.getD c.2.2.2.2 (Int.toNat f) ([] : List Int)) (Int.toNat g) (0 : Int)), ()))))))
theorem w_impl_Category_then (x : denL c_impl_Category_then.args) (K : Int × Unit → Prop) : evF tab (lkp []) (cutL []) Try.f89 (bodyOf Try.f89) .n c_impl_Category_then x K = W_impl_Category_then x.1 x.2.1 x.2.2.1 K := by kernel_rfl
theorem k_impl_Category_then : okC Try.f89.ntmps (cutL []) (bodyOf Try.f89) = true := by kernel_rfl
theorem m_impl_Category_then (c : CategoryD) (f : Int) (g : Int) (hok : allP (okL c_impl_Category_then.args (c, f, g, ()))) (hpre : allP (c_impl_Category_then.pre (c, f, g, ()))) : W_impl_Category_then c f g (fun r => r = c_impl_Category_then.res (c, f, g, ())) := by
  simp only [c_impl_Category_then, okL, T.oks, T.ok, ap, allP, true_and, and_true, implies_true] at hok hpre
  try dsimp only [T.den] at hok
  try dsimp only [T.den] at hpre
  unfold W_impl_Category_then
  exact ⟨hpre.1, hpre.2.1, hpre.2.2.1, hpre.2.2.2, rfl⟩
theorem ct_impl_Category_then : CtOk Try.prog 89 c_impl_Category_then :=
  ct_by (Φ := lkp []) good_nil tab_ok (by kernel_rfl) (fn := Try.f89) (c := bodyOf Try.f89) (by kernel_rfl) (by kernel_rfl) (by kernel_rfl) c_impl_Category_then rfl .n (cutL []) (by kernel_rfl) (by kernel_rfl) k_impl_Category_then (by decide) (fun x K => W_impl_Category_then x.1 x.2.1 x.2.2.1 K) w_impl_Category_then (fun x h1 h2 => m_impl_Category_then x.1 x.2.1 x.2.2.1 h1 h2)
/-- what a cell of the table must be -/
def cellQ (c : CategoryD) (f g v : Int) : Bool :=
  if c.2.2.1.getD f.toNat 0 = c.2.1.getD g.toNat 0 then decide (0 ≤ v ∧ v < c.2.1.length ∧ c.2.1.getD v.toNat 0 = c.2.1.getD f.toNat 0 ∧ c.2.2.1.getD v.toNat 0 = c.2.2.1.getD g.toNat 0)
  else decide (v = -1)
def cellR (c : CategoryD) (f g : Int) : Bool := cellQ c f g (compR c f g)
structure ShapeP (c : CategoryD) : Prop where
  ob : 0 ≤ c.1 ∧ c.1 ≤ 8
  m : c.2.1.length ≤ 40
  lt : c.2.2.1.length = c.2.1.length
  fr : withinR c.2.1 c.1 = true
  to : withinR c.2.2.1 c.1 = true
  li : (c.2.2.2.1.length : Int) = c.1
  ids : withinR c.2.2.2.1 c.2.1.length = true
  lc : c.2.2.2.2.length = c.2.1.length
  idt : ∀ x : Int, 0 ≤ x → x < c.1 → c.2.1.getD (c.2.2.2.1.getD x.toNat 0).toNat 0 = x ∧ c.2.2.1.getD (c.2.2.2.1.getD x.toNat 0).toNat 0 = x
  row : ∀ f : Int, 0 ≤ f → f < c.2.1.length → (c.2.2.2.2.getD f.toNat []).length = c.2.1.length
  cell : ∀ f g : Int, 0 ≤ f → f < c.2.1.length → 0 ≤ g → g < c.2.1.length → cellR c f g = true
def shapeR (c : CategoryD) : Bool := inR c.1 0 8 && decide (c.2.1.length ≤ 40) && decide (c.2.2.1.length = c.2.1.length) && withinR c.2.1 c.1 && withinR c.2.2.1 c.1 && decide ((c.2.2.2.1.length : Int) = c.1) && withinR c.2.2.2.1 c.2.1.length &&
  decide (c.2.2.2.2.length = c.2.1.length) && allB c.1.toNat (fun x => decide (c.2.1.getD (c.2.2.2.1.getD x.toNat 0).toNat 0 = x ∧ c.2.2.1.getD (c.2.2.2.1.getD x.toNat 0).toNat 0 = x)) &&
  allB c.2.1.length (fun f => decide ((c.2.2.2.2.getD f.toNat []).length = c.2.1.length)) && allB c.2.1.length (fun f => allB c.2.1.length fun g => cellR c f g)
theorem shape_iff {c : CategoryD} : shapeR c = true ↔ ShapeP c := by
  simp only [shapeR, Bool.and_eq_true, decide_eq_true_eq, inR, allB_iff]
  constructor
  · rintro ⟨⟨⟨⟨⟨⟨⟨⟨⟨⟨h0, h1⟩, h2⟩, h3⟩, h4⟩, h5⟩, h6⟩, h7⟩, h8⟩, h9⟩, h10⟩
    exact ⟨h0, h1, h2, h3, h4, h5, h6, h7, fun x a b => h8 x a (by omega), h9, fun f g a b d e => h10 f a b g d e⟩
  · intro h
    exact ⟨⟨⟨⟨⟨⟨⟨⟨⟨⟨h.ob, h.m⟩, h.lt⟩, h.fr⟩, h.to⟩, h.li⟩, h.ids⟩, h.lc⟩, fun x a b => h.idt x a (by have := h.ob; omega)⟩, h.row⟩, fun f a b g d e => h.cell f g a b d e⟩
theorem shape_f {c : CategoryD} (h : ¬ ShapeP c) : shapeR c = false := by
  cases hs : shapeR c with
  | false => rfl
  | true => exact absurd (shape_iff.1 hs) h
theorem shape_t {c : CategoryD} (h : ShapeP c) : shapeR c = true := shape_iff.2 h

def c_impl_Category_isShape : Ct := ⟨[(.pt CategoryT)], [false], fun x => [], [(false, (.fz .bool))], fun x => (shapeR x.1, ()), false, none⟩
def W_impl_Category_isShape (c : CategoryD) (K : Bool × Unit → Prop) : Prop := ((((((!(inR c.1 (0 : Int) (8 : Int))) || (decide ((40 : Int) < (((List.length c.2.1) : Nat) : Int)))) || ((((List.length c.2.2.1) : Nat) : Int) != (((List.length c.2.1) : Nat) : Int))) = Bool.false) → (inK IntKind.i64 (c.1 - (1 : Int)))) ∧ (((((((!(inR c.1 (0 : Int) (8 : Int))) || (decide ((40 : Int) < (((List.length c.2.1) : Nat) : Int)))) || ((((List.length c.2.2.1) : Nat) : Int) != (((List.length c.2.1) : Nat) : Int))) || (!(withinR c.2.1 c.1))) = Bool.false) → (inK IntKind.i64 (c.1 - (1 : Int)))) ∧ (cnd (((((!(inR c.1 (0 : Int) (8 : Int))) || (decide ((40 : Int) < (((List.length c.2.1) : Nat) : Int)))) || ((((List.length c.2.2.1) : Nat) : Int) != (((List.length c.2.1) : Nat) : Int))) || (!(withinR c.2.1 c.1))) || (!(withinR c.2.2.1 c.1))) (K (Bool.false, ())) (((((((List.length c.2.2.2.1) : Nat) : Int) != c.1) = Bool.false) → (inK IntKind.i64 ((((List.length c.2.1) : Nat) : Int) - (1 : Int)))) ∧ (cnd ((((((List.length c.2.2.2.1) : Nat) : Int) != c.1) || (!(withinR c.2.2.2.1 (((List.length c.2.1) : Nat) : Int)))) || ((((List.length c.2.2.2.2) : Nat) : Int) != (((List.length c.2.1) : Nat) : Int))) (K (Bool.false, ())) (loopW (S := ((Int × Unit) × Unit)) (fun s => (fun next => ((inK IntKind.i64 s.1.1) → (cnd (decide (s.1.1 < (((List.length c.2.2.2.1) : Nat) : Int))) (((0 : Int) ≤ s.1.1) ∧ ((s.1.1 < (((List.length c.2.2.2.1) : Nat) : Int)) ∧ (((0 : Int) ≤ (List.getD c.2.2.2.1 (Int.toNat s.1.1) (0 : Int))) ∧ (((List.getD c.2.2.2.1 (Int.toNat s.1.1) (0 : Int)) < (((List.length c.2.1) : Nat) : Int)) ∧ (((List.getD c.2.2.2.1 (Int.toNat s.1.1) (0 : Int)) < (((List.length c.2.2.1) : Nat) : Int)) ∧ (cnd (!(((List.getD c.2.1 (Int.toNat (List.getD c.2.2.2.1 (Int.toNat s.1.1) (0 : Int))) (0 : Int)) == s.1.1) && ((List.getD c.2.2.1 (Int.toNat (List.getD c.2.2.2.1 (Int.toNat s.1.1) (0 : Int))) (0 : Int)) == s.1.1))) (K (Bool.false, ())) ((inK IntKind.i64 (s.1.1 + (1 : Int))) ∧ (next (((s.1.1 + (1 : Int)), ()), ()))))))))) (loopW (S := ((Int × Unit) × Unit)) (fun s1 => (fun next1 => ((inK IntKind.i64 s1.1.1) → (cnd (decide (s1.1.1 < (((List.length c.2.2.2.2) : Nat) : Int))) (((0 : Int) ≤ s1.1.1) ∧ ((s1.1.1 < (((List.length c.2.2.2.2) : Nat) : Int)) ∧ (cnd ((((List.length (List.getD c.2.2.2.2 (Int.toNat s1.1.1) ([] : List Int))) : Nat) : Int) != (((List.length c.2.1) : Nat) : Int)) (K (Bool.false, ())) (loopW (S := ((Int × Unit) × Unit)) (fun s2 => (fun next2 => ((inK IntKind.i64 s2.1.1) → (cnd (decide (s2.1.1 < (((List.length (List.getD c.2.2.2.2 (Int.toNat s1.1.1) ([] : List Int))) : Nat) : Int))) (joinW (S := (Unit × Unit)) (fun s3 => ((inK IntKind.i64 (s2.1.1 + (1 : Int))) ∧ (next2 (((s2.1.1 + (1 : Int)), ()), ())))) (fun k => (((0 : Int) ≤ s2.1.1) ∧ ((s2.1.1 < (((List.length (List.getD c.2.2.2.2 (Int.toNat s1.1.1) ([] : List Int))) : Nat) : Int)) ∧ (((0 : Int) ≤ s1.1.1) ∧ ((s1.1.1 < (((List.length c.2.2.1) : Nat) : Int)) ∧ (((0 : Int) ≤ s2.1.1) ∧ ((s2.1.1 < (((List.length c.2.1) : Nat) : Int)) ∧ (cnd ((List.getD c.2.2.1 (Int.toNat s1.1.1) (0 : Int)) != (List.getD c.2.1 (Int.toNat s2.1.1) (0 : Int))) (cnd ((List.getD (List.getD c.2.2.2.2 (Int.toNat s1.1.1) ([] : List Int)) (Int.toNat s2.1.1) (0 : Int)) != (-(1 : Int))) (K (Bool.false, ())) (k ((), ()))) ((inK IntKind.i64 ((((List.length c.2.1) : Nat) : Int) - (1 : Int))) ∧ ((((!(inR (List.getD (List.getD c.2.2.2.2 (Int.toNat s1.1.1) ([] : List Int)) (Int.toNat s2.1.1) (0 : Int)) (0 : Int) ((((List.length c.2.1) : Nat) : Int) - (1 : Int)))) = Bool.false) → (((List.getD (List.getD c.2.2.2.2 (Int.toNat s1.1.1) ([] : List Int)) (Int.toNat s2.1.1) (0 : Int)) < (((List.length c.2.1) : Nat) : Int)) ∧ (((List.getD (List.getD c.2.2.2.2 (Int.toNat s1.1.1) ([] : List Int)) (Int.toNat s2.1.1) (0 : Int)) < (((List.length c.2.2.1) : Nat) : Int)) ∧ ((0 : Int) ≤ (List.getD (List.getD c.2.2.2.2 (Int.toNat s1.1.1) ([] : List Int)) (Int.toNat s2.1.1) (0 : Int)))))) ∧ ((((!(inR (List.getD (List.getD c.2.2.2.2 (Int.toNat s1.1.1) ([] : List Int)) (Int.toNat s2.1.1) (0 : Int)) (0 : Int) ((((List.length c.2.1) : Nat) : Int) - (1 : Int)))) = Bool.false) → ((s1.1.1 < (((List.length c.2.1) : Nat) : Int)) ∧ ((0 : Int) ≤ s1.1.1))) ∧ ((((!(inR (List.getD (List.getD c.2.2.2.2 (Int.toNat s1.1.1) ([] : List Int)) (Int.toNat s2.1.1) (0 : Int)) (0 : Int) ((((List.length c.2.1) : Nat) : Int) - (1 : Int)))) = Bool.false) → ((s2.1.1 < (((List.length c.2.2.1) : Nat) : Int)) ∧ ((0 : Int) ≤ s2.1.1))) ∧ (cnd ((!(inR (List.getD (List.getD c.2.2.2.2 (Int.toNat s1.1.1) ([] : List Int)) (Int.toNat s2.1.1) (0 : Int)) (0 : Int) ((((List.length c.2.1) : Nat) : Int) - (1 : Int)))) || (!(((List.getD c.2.1 (Int.toNat (List.getD (List.getD c.2.2.2.2 (Int.toNat s1.1.1) ([] : List Int)) (Int.toNat s2.1.1) (0 : Int))) (0 : Int)) == (List.getD c.2.1 (Int.toNat s1.1.1) (0 : Int))) && ((List.getD c.2.2.1 (Int.toNat (List.getD (List.getD c.2.2.2.2 (Int.toNat s1.1.1) ([] : List Int)) (Int.toNat s2.1.1) (0 : Int))) (0 : Int)) == (List.getD c.2.2.1 (Int.toNat s2.1.1) (0 : Int)))))) (K (Bool.false, ())) (k ((), ())))))))))))))))) ((inK IntKind.i64 (s1.1.1 + (1 : Int))) ∧ (next1 (((s1.1.1 + (1 : Int)), ()), ()))))))) (((0 : Int), ()), ()))))) (K (Bool.true, ())))))) (((0 : Int), ()), ())))))) (((0 : Int), ()), ())))))))
theorem w_impl_Category_isShape (x : denL c_impl_Category_isShape.args) (K : Bool × Unit → Prop) : evF tab (lkp [(86, c_impl_Category_arrows), (110, c_impl_Category_ends), (132, c_impl_inRange), (85, c_impl_within)]) (cutL [(2, 43), (20, 15), (4, 28), (23, 26)]) Try.f98 (bodyOf Try.f98) (.s .n (.s .n (.s .n (.s .n (.s (.s .n (.l [(88, (.d (.int .i64)))] [] [0, 3, 86, 87] .n)) (.s (.s .n (.l [(106, (.d (.int .i64)))] [] [0, 3, 104, 105] (.s .n (.s .n (.s (.s .n (.s .n (.s .n (.l [(117, (.d (.int .i64)))] [] [0, 3, 6, 104, 105, 106, 115, 116] (.s .n (.s .n (.s (.j [] [] [0, 3, 6, 104, 105, 106, 115, 116, 117] .n) .n))))))) .n))))) .n)))))) c_impl_Category_isShape x K = W_impl_Category_isShape x.1 K := by kernel_rfl
theorem k_impl_Category_isShape : okC Try.f98.ntmps (cutL [(2, 43), (20, 15), (4, 28), (23, 26)]) (bodyOf Try.f98) = true := by kernel_rfl
theorem m_impl_Category_isShape (c : CategoryD) (hok : allP (okL c_impl_Category_isShape.args (c, ()))) (hpre : allP (c_impl_Category_isShape.pre (c, ()))) : W_impl_Category_isShape c (fun r => r = c_impl_Category_isShape.res (c, ())) := by
  simp only [c_impl_Category_isShape, okL, T.oks, T.ok, ap, allP, true_and, and_true, implies_true] at hok hpre
  try dsimp only [T.den] at hok
  try dsimp only [T.den] at hpre
  unfold W_impl_Category_isShape
  refine ⟨by grind [cnd, nb_eq, inK64, inR], by grind [cnd, nb_eq, inK64, inR], cnd_of (fun hc => ?_) (fun hc => ⟨by rw [inK64]; have := hok.2.1.1; grind [cnd, nb_eq, inK64], cnd_of (fun hd => ?_) (fun hd => ?_)⟩)⟩
  · simp only [c_impl_Category_isShape]; rw [shape_f]; intro h; have h1 := h.ob; have h2 := h.m; have h3 := h.lt; have h4 := h.fr; have h5 := h.to; simp only [inR] at hc; grind [cnd, nb_eq, inK64]
  · simp only [c_impl_Category_isShape]; rw [shape_f]; intro h; have h1 := h.li; have h2 := h.ids; have h3 := h.lc; grind [cnd, nb_eq, inK64]
  simp only [inR, Bool.or_eq_false_iff, Bool.not_eq_false', Bool.and_eq_true, decide_eq_true_eq, decide_eq_false_iff_not, bne_eq_false_iff_eq] at hc hd
  obtain ⟨⟨⟨⟨hob, hm⟩, hlt⟩, hfr⟩, hto⟩ := hc
  obtain ⟨⟨hli, hids⟩, hlc⟩ := hd
  have bad : ¬ ShapeP c → (false, ()) = c_impl_Category_isShape.res (c, ()) := fun h => by simp only [c_impl_Category_isShape]; rw [shape_f h]
  refine loop_ix (n := c.2.2.2.1.length) (fun x => ∀ y : Int, 0 ≤ y → y < x → c.2.1.getD (c.2.2.2.1.getD y.toNat 0).toNat 0 = y ∧ c.2.2.1.getD (c.2.2.2.1.getD y.toNat 0).toNat 0 = y) (by omega) (by intro y h0 h1; omega) ?_ ?_
  · intro x next h0 h1 hP hn hin
    have hb := within_iff.1 hids x h0 h1
    try dsimp only
    refine cnd_d (fun _ => ⟨h0, h1, hb.1, hb.2, by omega, cnd_of (fun hx => bad fun h => ?_) (fun hx => ?_)⟩) (fun h => absurd h1 h)
    · have := h.idt x h0 (by omega)
      rw [this.1, this.2] at hx
      simp at hx
    · simp only [Bool.not_eq_false', Bool.and_eq_true, beq_iff_eq] at hx
      refine ⟨by rw [inK64]; (try dsimp only); omega, hn fun y y0 y1 => ?_⟩
      by_cases e : y = x
      · rw [e]; exact hx
      · exact hP y y0 (by omega)
  intro next hidt hin
  refine cnd_d (fun h => absurd h (by dsimp only; omega)) (fun _ => ?_)
  refine loop_ix (n := c.2.2.2.2.length) (fun f => ∀ f' : Int, 0 ≤ f' → f' < f → (c.2.2.2.2.getD f'.toNat []).length = c.2.1.length ∧ ∀ g : Int, 0 ≤ g → g < c.2.1.length → cellR c f' g = true) (by omega) (by intro y h0 h1; omega) ?_ ?_
  · intro f next h0 h1 hP hn hin
    try dsimp only
    refine cnd_d (fun _ => ⟨h0, h1, cnd_of (fun hx => bad fun h => ?_) (fun hx => ?_)⟩) (fun h => absurd h1 h)
    · have := h.row f h0 (by omega)
      rw [this] at hx
      simp at hx
    simp only [bne_eq_false_iff_eq] at hx
    refine loop_ix (n := (c.2.2.2.2.getD f.toNat []).length) (fun g => ∀ g' : Int, 0 ≤ g' → g' < g → cellR c f g' = true) (by omega) (by intro y h0 h1; omega) ?_ ?_
    · intro g next3 g0 g1 hP3 hn3 hin3
      try dsimp only
      refine cnd_d (fun _ => ?_) (fun h => absurd g1 h)
      refine join_of (fun _ => cellR c f g = true) (fun _ hcell => ⟨by rw [inK64]; (try dsimp only); omega, hn3 fun g' y0 y1 => ?_⟩) (fun k hk => ?_)
      · by_cases e : g' = g
        · rw [e]; exact hcell
        · exact hP3 g' y0 (by omega)
      have hcell : ∀ b, cellR c f g = b → b = false → ¬ ShapeP c := fun b h1 h2 h => by
        have := h.cell f g h0 (by omega) g0 (by omega)
        rw [h1, h2] at this; cases this
      have hk' := hk ((), ())
      obtain ⟨v, hv⟩ : ∃ v, (c.2.2.2.2.getD f.toNat []).getD g.toNat 0 = v := ⟨_, rfl⟩
      have hR : cellR c f g = cellQ c f g v := by unfold cellR compR; rw [hv]
      rw [hR] at hk'
      rw [hR] at hcell
      rw [hv]
      clear hP3 hn3 hP hn hk hR hv hidt hok
      refine ⟨g0, g1, h0, by omega, g0, by omega, cnd_of (fun ha => cnd_of (fun hb => bad ?_) (fun hb => hk' ?_)) (fun ha => ⟨by rw [inK64]; (try dsimp only); omega, fun hv => ?_, fun _ => ⟨by omega, h0⟩, fun _ => ⟨by omega, g0⟩, cnd_of (fun hb => bad ?_) (fun hb => hk' ?_)⟩)⟩
      · exact hcell _ rfl (by grind [cnd, nb_eq, inK64, cellQ])
      · grind [cnd, nb_eq, inK64, cellQ]
      · simp only [inR, Bool.not_eq_false', Bool.and_eq_true, decide_eq_true_eq] at hv; omega
      · exact hcell _ rfl (by simp only [inR] at hb; grind [cnd, nb_eq, inK64, cellQ])
      · simp only [inR] at hb; grind [cnd, nb_eq, inK64, cellQ]
    · intro next3 hP3 hin3
      refine cnd_d (fun h => absurd h (by dsimp only; omega)) (fun _ => ⟨by rw [inK64]; (try dsimp only); omega, hn fun f' y0 y1 => ?_⟩)
      by_cases e : f' = f
      · rw [e]; exact ⟨by omega, fun g g0 g1 => hP3 g g0 (by omega)⟩
      · exact hP f' y0 (by omega)
  · intro next2 hP2 hin2
    refine cnd_d (fun h => absurd h (by dsimp only; omega)) (fun _ => ?_)
    simp only [c_impl_Category_isShape]
    rw [shape_t ⟨hob, by omega, by omega, hfr, hto, by omega, hids, by omega, fun x a b => hidt x a (by omega), fun f a b => (hP2 f a (by omega)).1, fun f g a b d e => (hP2 f a (by omega)).2 g d e⟩]
theorem ct_impl_Category_isShape : CtOk Try.prog 98 c_impl_Category_isShape :=
  ct_by (Φ := lkp [(86, c_impl_Category_arrows), (110, c_impl_Category_ends), (132, c_impl_inRange), (85, c_impl_within)]) (good_cons ct_impl_Category_arrows (good_cons ct_impl_Category_ends (good_cons ct_impl_inRange (good_cons ct_impl_within good_nil)))) tab_ok (by kernel_rfl) (fn := Try.f98) (c := bodyOf Try.f98) (by kernel_rfl) (by kernel_rfl) (by kernel_rfl) c_impl_Category_isShape rfl (.s .n (.s .n (.s .n (.s .n (.s (.s .n (.l [(88, (.d (.int .i64)))] [] [0, 3, 86, 87] .n)) (.s (.s .n (.l [(106, (.d (.int .i64)))] [] [0, 3, 104, 105] (.s .n (.s .n (.s (.s .n (.s .n (.s .n (.l [(117, (.d (.int .i64)))] [] [0, 3, 6, 104, 105, 106, 115, 116] (.s .n (.s .n (.s (.j [] [] [0, 3, 6, 104, 105, 106, 115, 116, 117] .n) .n))))))) .n))))) .n)))))) (cutL [(2, 43), (20, 15), (4, 28), (23, 26)]) (by kernel_rfl) (by kernel_rfl) k_impl_Category_isShape (by decide) (fun x K => W_impl_Category_isShape x.1 K) w_impl_Category_isShape (fun x h1 h2 => m_impl_Category_isShape x.1 h1 h2)
def c_impl_Category_equalizers : Ct := ⟨[(.pt CategoryT), (.int .i64), (.int .i64)], [false, false, false], fun x => [0 ≤ x.2.1, x.2.1 < x.1.2.1.length], [(false, (.fz (.pt (.p (.pt CategoryT) (.p (.int .i64) (.p (.int .i64) (.p (.fn 133 (.p (.pt (.pt CategoryT)) (.p (.pt (.int .i64)) (.p (.pt (.int .i64)) .u)))) .bool)))))))], fun x => (((x.1, (x.1.2.1.getD x.2.1.toNat 0, (x.1.2.1.getD x.2.1.toNat 0, ((x.1, (x.2.1, (x.2.2.1, ()))), true)))) : CategoryD × (Int × (Int × ((CategoryD × (Int × (Int × Unit))) × Bool)))), ()), true, none⟩
def W_impl_Category_equalizers (c : CategoryD) (f : Int) (g : Int) (K : (CategoryD × (Int × (Int × ((CategoryD × (Int × (Int × Unit))) × Bool)))) × Unit → Prop) : Prop := (((0 : Int) ≤ f) ∧ ((f < (((List.length c.2.1) : Nat) : Int)) ∧ (((0 : Int) ≤ f) ∧ ((f < (((List.length c.2.1) : Nat) : Int)) ∧ (K ((c, ((List.getD c.2.1 (Int.toNat f) (0 : Int)), ((List.getD c.2.1 (Int.toNat f) (0 : Int)), ((c, (f, (g, ()))), Bool.true)))), ()))))))
theorem w_impl_Category_equalizers (x : denL c_impl_Category_equalizers.args) (K : (CategoryD × (Int × (Int × ((CategoryD × (Int × (Int × Unit))) × Bool)))) × Unit → Prop) : evF tab (lkp []) (cutL [(1, 16)]) Try.f90 (bodyOf Try.f90) .n c_impl_Category_equalizers x K = W_impl_Category_equalizers x.1 x.2.1 x.2.2.1 K := by kernel_rfl
theorem k_impl_Category_equalizers : okC Try.f90.ntmps (cutL [(1, 16)]) (bodyOf Try.f90) = true := by kernel_rfl
theorem m_impl_Category_equalizers (c : CategoryD) (f : Int) (g : Int) (hok : allP (okL c_impl_Category_equalizers.args (c, f, g, ()))) (hpre : allP (c_impl_Category_equalizers.pre (c, f, g, ()))) : W_impl_Category_equalizers c f g (fun r => r = c_impl_Category_equalizers.res (c, f, g, ())) := by
  simp only [c_impl_Category_equalizers, okL, T.oks, T.ok, ap, allP, true_and, and_true, implies_true] at hok hpre
  try dsimp only [T.den] at hok
  try dsimp only [T.den] at hpre
  unfold W_impl_Category_equalizers
  exact ⟨hpre.1, hpre.2, hpre.1, hpre.2, rfl⟩
theorem ct_impl_Category_equalizers : CtOk Try.prog 90 c_impl_Category_equalizers :=
  ct_by (Φ := lkp []) good_nil tab_ok (by kernel_rfl) (fn := Try.f90) (c := bodyOf Try.f90) (by kernel_rfl) (by kernel_rfl) (by kernel_rfl) c_impl_Category_equalizers rfl .n (cutL [(1, 16)]) (by kernel_rfl) (by kernel_rfl) k_impl_Category_equalizers (by decide) (fun x K => W_impl_Category_equalizers x.1 x.2.1 x.2.2.1 K) w_impl_Category_equalizers (fun x h1 h2 => m_impl_Category_equalizers x.1 x.2.1 x.2.2.1 h1 h2)
theorem ShapeP.frm {c : CategoryD} (h : ShapeP c) {f : Int} (h0 : 0 ≤ f) (h1 : f < c.2.1.length) : 0 ≤ c.2.1.getD f.toNat 0 ∧ c.2.1.getD f.toNat 0 < c.1 ∧ 0 ≤ c.2.2.1.getD f.toNat 0 ∧ c.2.2.1.getD f.toNat 0 < c.1 := by
  have a := within_iff.1 h.fr f h0 h1
  have b := within_iff.1 h.to f h0 (by have := h.lt; omega)
  exact ⟨a.1, a.2, b.1, b.2⟩
theorem ShapeP.idn {c : CategoryD} (h : ShapeP c) {x : Int} (h0 : 0 ≤ x) (h1 : x < c.1) : 0 ≤ c.2.2.2.1.getD x.toNat 0 ∧ c.2.2.2.1.getD x.toNat 0 < c.2.1.length ∧ c.2.1.getD (c.2.2.2.1.getD x.toNat 0).toNat 0 = x ∧ c.2.2.1.getD (c.2.2.2.1.getD x.toNat 0).toNat 0 = x := by
  have a := within_iff.1 h.ids x h0 (by have := h.li; omega)
  have b := h.idt x h0 h1
  exact ⟨a.1, a.2, b.1, b.2⟩
theorem ShapeP.yes {c : CategoryD} (h : ShapeP c) {f g : Int} (h0 : 0 ≤ f) (h1 : f < c.2.1.length) (g0 : 0 ≤ g) (g1 : g < c.2.1.length) (e : c.2.2.1.getD f.toNat 0 = c.2.1.getD g.toNat 0) :
    0 ≤ compR c f g ∧ compR c f g < c.2.1.length ∧ c.2.1.getD (compR c f g).toNat 0 = c.2.1.getD f.toNat 0 ∧ c.2.2.1.getD (compR c f g).toNat 0 = c.2.2.1.getD g.toNat 0 := by
  have := h.cell f g h0 h1 g0 g1
  unfold cellR cellQ at this
  rw [if_pos e] at this
  simpa using this
theorem ShapeP.no {c : CategoryD} (h : ShapeP c) {f g : Int} (h0 : 0 ≤ f) (h1 : f < c.2.1.length) (g0 : 0 ≤ g) (g1 : g < c.2.1.length) (e : c.2.2.1.getD f.toNat 0 ≠ c.2.1.getD g.toNat 0) : compR c f g = -1 := by
  have := h.cell f g h0 h1 g0 g1
  unfold cellR cellQ at this
  rw [if_neg e] at this
  simpa using this
theorem ShapeP.comp {c : CategoryD} (h : ShapeP c) {f g : Int} (h0 : 0 ≤ f) (h1 : f < c.2.1.length) (g0 : 0 ≤ g) (g1 : g < c.2.1.length) : 0 ≤ compR c f g ↔ c.2.2.1.getD f.toNat 0 = c.2.1.getD g.toNat 0 := by
  constructor
  · intro h2
    by_cases e : c.2.2.1.getD f.toNat 0 = c.2.1.getD g.toNat 0
    · exact e
    · have := h.no h0 h1 g0 g1 e; omega
  · intro e; exact (h.yes h0 h1 g0 g1 e).1
def faultI (c : CategoryD) (f : Int) : Option (Int × Int × Int × Int) :=
  if compR c (c.2.2.2.1.getD (c.2.1.getD f.toNat 0).toNat 0) f ≠ f ∨ compR c f (c.2.2.2.1.getD (c.2.2.1.getD f.toNat 0).toNat 0) ≠ f then some (1, f, 0, 0) else none
def faultH (c : CategoryD) (f g h : Int) : Option (Int × Int × Int × Int) :=
  if c.2.2.1.getD g.toNat 0 = c.2.1.getD h.toNat 0 ∧ compR c (compR c f g) h ≠ compR c f (compR c g h) then some (2, f, g, h) else none
def faultG (c : CategoryD) (f g : Int) : Option (Int × Int × Int × Int) :=
  if c.2.2.1.getD f.toNat 0 = c.2.1.getD g.toNat 0 then scanR (faultH c f g) c.2.1.length 0 else none
def faultF (c : CategoryD) (f : Int) : Option (Int × Int × Int × Int) := scanR (faultG c f) c.2.1.length 0
def faultR (c : CategoryD) : Int × Int × Int × Int :=
  orR (scanR (faultI c) c.2.1.length 0) (orR (scanR (faultF c) c.2.1.length 0) (0, 0, 0, 0))

def c_impl_Category_fault : Ct := ⟨[(.pt CategoryT)], [false], fun x => [ShapeP x.1], [(false, (.fz (.int .i64))), (false, (.fz (.int .i64))), (false, (.fz (.int .i64))), (false, (.fz (.int .i64)))], fun x => ((faultR x.1).1, (faultR x.1).2.1, (faultR x.1).2.2.1, (faultR x.1).2.2.2, ()), false, none⟩
def W_impl_Category_fault (c : CategoryD) (K : Int × Int × Int × Int × Unit → Prop) : Prop := (loopW (S := ((Int × Unit) × Unit)) (fun s => (fun next => ((inK IntKind.i64 s.1.1) → (cnd (decide (s.1.1 < (((List.length c.2.1) : Nat) : Int))) (((0 : Int) ≤ s.1.1) ∧ ((s.1.1 < (((List.length c.2.1) : Nat) : Int)) ∧ (((0 : Int) ≤ (List.getD c.2.1 (Int.toNat s.1.1) (0 : Int))) ∧ (((List.getD c.2.1 (Int.toNat s.1.1) (0 : Int)) < (((List.length c.2.2.2.1) : Nat) : Int)) ∧ (((0 : Int) ≤ (List.getD c.2.2.2.1 (Int.toNat (List.getD c.2.1 (Int.toNat s.1.1) (0 : Int))) (0 : Int))) ∧ (((List.getD c.2.2.2.1 (Int.toNat (List.getD c.2.1 (Int.toNat s.1.1) (0 : Int))) (0 : Int)) < (((List.length c.2.2.2.2) : Nat) : Int)) ∧ (((0 : Int) ≤ s.1.1) ∧ ((s.1.1 < (((List.length (List.getD c.2.2.2.2 (Int.toNat (List.getD c.2.2.2.1 (Int.toNat (List.getD c.2.1 (Int.toNat s.1.1) (0 : Int))) (0 : Int))) ([] : List Int))) : Nat) : Int)) ∧ (((((compR c (List.getD c.2.2.2.1 (Int.toNat (List.getD c.2.1 (Int.toNat s.1.1) (0 : Int))) (0 : Int)) s.1.1) != s.1.1) = Bool.false) → ((s.1.1 < (((List.length c.2.2.1) : Nat) : Int)) ∧ ((0 : Int) ≤ s.1.1))) ∧ (((((compR c (List.getD c.2.2.2.1 (Int.toNat (List.getD c.2.1 (Int.toNat s.1.1) (0 : Int))) (0 : Int)) s.1.1) != s.1.1) = Bool.false) → (((List.getD c.2.2.1 (Int.toNat s.1.1) (0 : Int)) < (((List.length c.2.2.2.1) : Nat) : Int)) ∧ ((0 : Int) ≤ (List.getD c.2.2.1 (Int.toNat s.1.1) (0 : Int))))) ∧ (((((compR c (List.getD c.2.2.2.1 (Int.toNat (List.getD c.2.1 (Int.toNat s.1.1) (0 : Int))) (0 : Int)) s.1.1) != s.1.1) = Bool.false) → ((s.1.1 < (((List.length c.2.2.2.2) : Nat) : Int)) ∧ (((0 : Int) ≤ (List.getD c.2.2.2.1 (Int.toNat (List.getD c.2.2.1 (Int.toNat s.1.1) (0 : Int))) (0 : Int))) ∧ (((List.getD c.2.2.2.1 (Int.toNat (List.getD c.2.2.1 (Int.toNat s.1.1) (0 : Int))) (0 : Int)) < (((List.length (List.getD c.2.2.2.2 (Int.toNat s.1.1) ([] : List Int))) : Nat) : Int)) ∧ ((0 : Int) ≤ s.1.1))))) ∧ (cnd (((compR c (List.getD c.2.2.2.1 (Int.toNat (List.getD c.2.1 (Int.toNat s.1.1) (0 : Int))) (0 : Int)) s.1.1) != s.1.1) || ((compR c s.1.1 (List.getD c.2.2.2.1 (Int.toNat (List.getD c.2.2.1 (Int.toNat s.1.1) (0 : Int))) (0 : Int))) != s.1.1)) (K ((1 : Int), (s.1.1, ((0 : Int), ((0 : Int), ()))))) ((inK IntKind.i64 (s.1.1 + (1 : Int))) ∧ (next (((s.1.1 + (1 : Int)), ()), ()))))))))))))))) (loopW (S := ((Int × Unit) × Unit)) (fun s1 => (fun next1 => ((inK IntKind.i64 s1.1.1) → (cnd (decide (s1.1.1 < (((List.length c.2.1) : Nat) : Int))) (loopW (S := ((Int × Unit) × Unit)) (fun s2 => (fun next2 => ((inK IntKind.i64 s2.1.1) → (cnd (decide (s2.1.1 < (((List.length c.2.1) : Nat) : Int))) (joinW (S := (Unit × Unit)) (fun s3 => ((inK IntKind.i64 (s2.1.1 + (1 : Int))) ∧ (next2 (((s2.1.1 + (1 : Int)), ()), ())))) (fun k => (((0 : Int) ≤ s1.1.1) ∧ ((s1.1.1 < (((List.length c.2.2.2.2) : Nat) : Int)) ∧ (((0 : Int) ≤ s2.1.1) ∧ ((s2.1.1 < (((List.length (List.getD c.2.2.2.2 (Int.toNat s1.1.1) ([] : List Int))) : Nat) : Int)) ∧ (cnd (decide ((compR c s1.1.1 s2.1.1) < (0 : Int))) (k ((), ())) (loopW (S := ((Int × Unit) × Unit)) (fun s3 => (fun next3 => ((inK IntKind.i64 s3.1.1) → (cnd (decide (s3.1.1 < (((List.length c.2.1) : Nat) : Int))) (((0 : Int) ≤ s2.1.1) ∧ ((s2.1.1 < (((List.length c.2.2.2.2) : Nat) : Int)) ∧ (((0 : Int) ≤ s3.1.1) ∧ ((s3.1.1 < (((List.length (List.getD c.2.2.2.2 (Int.toNat s2.1.1) ([] : List Int))) : Nat) : Int)) ∧ ((((decide ((0 : Int) ≤ (compR c s2.1.1 s3.1.1))) = Bool.true) → ((s1.1.1 < (((List.length c.2.2.2.2) : Nat) : Int)) ∧ (((0 : Int) ≤ s2.1.1) ∧ ((s2.1.1 < (((List.length (List.getD c.2.2.2.2 (Int.toNat s1.1.1) ([] : List Int))) : Nat) : Int)) ∧ ((0 : Int) ≤ s1.1.1))))) ∧ ((((decide ((0 : Int) ≤ (compR c s2.1.1 s3.1.1))) = Bool.true) → (((compR c s1.1.1 s2.1.1) < (((List.length c.2.2.2.2) : Nat) : Int)) ∧ (((0 : Int) ≤ s3.1.1) ∧ ((s3.1.1 < (((List.length (List.getD c.2.2.2.2 (Int.toNat (compR c s1.1.1 s2.1.1)) ([] : List Int))) : Nat) : Int)) ∧ ((0 : Int) ≤ (compR c s1.1.1 s2.1.1)))))) ∧ ((((decide ((0 : Int) ≤ (compR c s2.1.1 s3.1.1))) = Bool.true) → ((s2.1.1 < (((List.length c.2.2.2.2) : Nat) : Int)) ∧ (((0 : Int) ≤ s3.1.1) ∧ ((s3.1.1 < (((List.length (List.getD c.2.2.2.2 (Int.toNat s2.1.1) ([] : List Int))) : Nat) : Int)) ∧ ((0 : Int) ≤ s2.1.1))))) ∧ ((((decide ((0 : Int) ≤ (compR c s2.1.1 s3.1.1))) = Bool.true) → ((s1.1.1 < (((List.length c.2.2.2.2) : Nat) : Int)) ∧ (((0 : Int) ≤ (compR c s2.1.1 s3.1.1)) ∧ (((compR c s2.1.1 s3.1.1) < (((List.length (List.getD c.2.2.2.2 (Int.toNat s1.1.1) ([] : List Int))) : Nat) : Int)) ∧ ((0 : Int) ≤ s1.1.1))))) ∧ (cnd ((decide ((0 : Int) ≤ (compR c s2.1.1 s3.1.1))) && ((compR c (compR c s1.1.1 s2.1.1) s3.1.1) != (compR c s1.1.1 (compR c s2.1.1 s3.1.1)))) (K ((2 : Int), (s1.1.1, (s2.1.1, (s3.1.1, ()))))) ((inK IntKind.i64 (s3.1.1 + (1 : Int))) ∧ (next3 (((s3.1.1 + (1 : Int)), ()), ())))))))))))) (k ((), ())))))) (((0 : Int), ()), ()))))))))) ((inK IntKind.i64 (s1.1.1 + (1 : Int))) ∧ (next1 (((s1.1.1 + (1 : Int)), ()), ()))))))) (((0 : Int), ()), ())) (K ((0 : Int), ((0 : Int), ((0 : Int), ((0 : Int), ()))))))))) (((0 : Int), ()), ())))))) (((0 : Int), ()), ()))
theorem w_impl_Category_fault (x : denL c_impl_Category_fault.args) (K : Int × Int × Int × Int × Unit → Prop) : evF tab (lkp [(86, c_impl_Category_arrows), (89, c_impl_Category_then)]) (cutL [(5, 38)]) Try.f99 (bodyOf Try.f99) (.s .n (.s .n (.s (.s .n (.l [(7, (.d (.int .i64)))] [] [0, 6] .n)) (.s (.s .n (.l [(8, (.d (.int .i64)))] [] [0, 6] (.s .n (.s (.s .n (.l [(9, (.d (.int .i64)))] [] [0, 6, 8] (.s .n (.s (.j [] [] [0, 6, 8, 9] (.s .n (.s .n (.l [(10, (.d (.int .i64)))] [] [0, 6, 8, 9] .n)))) .n)))) .n)))) .n)))) c_impl_Category_fault x K = W_impl_Category_fault x.1 K := by kernel_rfl
theorem k_impl_Category_fault : okC Try.f99.ntmps (cutL [(5, 38)]) (bodyOf Try.f99) = true := by kernel_rfl
theorem m_impl_Category_fault (c : CategoryD) (hok : allP (okL c_impl_Category_fault.args (c, ()))) (hpre : allP (c_impl_Category_fault.pre (c, ()))) : W_impl_Category_fault c (fun r => r = c_impl_Category_fault.res (c, ())) := by
  simp only [c_impl_Category_fault, okL, T.oks, T.ok, ap, allP, true_and, and_true, implies_true] at hok hpre
  try dsimp only [T.den] at hok
  try dsimp only [T.den] at hpre
  unfold W_impl_Category_fault
  have S : ShapeP c := hpre
  have hlt := S.lt
  have hli := S.li
  have hlc := S.lc
  have hmm := S.m
  have resq : ∀ a b d e, faultR c = (a, b, d, e) → (a, b, d, e, ()) = c_impl_Category_fault.res (c, ()) := fun a b d e h => by simp only [c_impl_Category_fault, h]
  refine loop_ix (n := c.2.1.length) (fun f => scanR (faultI c) c.2.1.length 0 = scanR (faultI c) ((c.2.1.length : Int) - f).toNat f) (by omega) scan_0 ?_ ?_
  · intro f next h0 h1 hP hn hin
    try dsimp only
    obtain ⟨a1, a2, a3, a4⟩ := S.frm h0 h1
    obtain ⟨b1, b2, _, _⟩ := S.idn a1 a2
    obtain ⟨d1, d2, _, _⟩ := S.idn a3 a4
    have r1 := S.row _ b1 b2
    have r2 := S.row f h0 h1
    refine cnd_d (fun _ => ⟨h0, h1, by omega, by omega, by omega, by omega, h0, by omega, fun _ => by omega, fun _ => by omega, fun _ => by omega, cnd_of (fun hx => resq _ _ _ _ ?_) (fun hx => ⟨by rw [inK64]; (try dsimp only); omega, hn ?_⟩)⟩) (fun h => absurd h1 h)
    · have : faultI c f = some (1, f, 0, 0) := by unfold faultI; rw [if_pos]; simpa using hx
      unfold faultR; rw [hP, scan_s h1 this]; rfl
    · have : faultI c f = none := by unfold faultI; rw [if_neg]; simpa using hx
      rw [hP, scan_c h1 this]
  intro next hI hin
  rw [scan_n] at hI
  refine cnd_d (fun h => absurd h (by dsimp only; omega)) (fun _ => ?_)
  have hF : faultR c = orR (scanR (faultF c) c.2.1.length 0) (0, 0, 0, 0) := by unfold faultR; rw [hI]; rfl
  refine loop_ix (n := c.2.1.length) (fun f => scanR (faultF c) c.2.1.length 0 = scanR (faultF c) ((c.2.1.length : Int) - f).toNat f) (by omega) scan_0 ?_ ?_
  · intro f next h0 h1 hP hn hin
    try dsimp only
    refine cnd_d (fun _ => ?_) (fun h => absurd h1 h)
    have r1 := S.row f h0 h1
    refine loop_ix (n := c.2.1.length) (fun g => faultF c f = scanR (faultG c f) ((c.2.1.length : Int) - g).toNat g) (by omega) scan_0 ?_ ?_
    · intro g next3 g0 g1 hP3 hn3 hin3
      try dsimp only
      refine cnd_d (fun _ => ?_) (fun h => absurd g1 h)
      have r2 := S.row g g0 g1
      refine join_of (fun _ => faultG c f g = none) (fun _ hG => ⟨by rw [inK64]; (try dsimp only); omega, hn3 (by rw [hP3, scan_c g1 hG])⟩) (fun k hk => ?_)
      have hk' := hk ((), ())
      refine ⟨by omega, by omega, by omega, by omega, cnd_d (fun hx => hk' ?_) (fun hx => ?_)⟩
      · unfold faultG; rw [if_neg]; intro e; have := (S.comp h0 h1 g0 g1).2 e; omega
      have hfg := (S.comp h0 h1 g0 g1).1 (by omega)
      obtain ⟨y1, y2, _, _⟩ := S.yes h0 h1 g0 g1 hfg
      refine loop_ix (n := c.2.1.length) (fun h => faultG c f g = scanR (faultH c f g) ((c.2.1.length : Int) - h).toNat h) (by omega) (by unfold faultG; rw [if_pos hfg]; exact scan_0) ?_ ?_
      · intro h next4 i0 i1 hP4 hn4 hin4
        try dsimp only
        refine cnd_d (fun _ => ?_) (fun h => absurd i1 h)
        have r3 := S.row _ y1 y2
        have cgh := S.comp g0 g1 i0 i1
        have ygh := @ShapeP.yes c S g h g0 g1 i0 i1
        refine ⟨by omega, by omega, by omega, by omega, fun _ => by omega, fun _ => by omega, fun _ => by omega, fun he => ?_, cnd_of (fun hx => resq _ _ _ _ ?_) (fun hx => ⟨by rw [inK64]; (try dsimp only); omega, hn4 ?_⟩)⟩
        · have := ygh (cgh.1 (by simpa using he)); omega
        · have : faultH c f g h = some (2, f, g, h) := by unfold faultH; rw [if_pos]; rw [← cgh]; simpa using hx
          have e1 : faultG c f g = some (2, f, g, h) := by rw [hP4, scan_s i1 this]
          have e2 : faultF c f = some (2, f, g, h) := by rw [hP3, scan_s g1 e1]
          rw [hF, hP, scan_s h1 e2]; rfl
        · have : faultH c f g h = none := by unfold faultH; rw [if_neg]; rw [← cgh]; simpa using hx
          rw [hP4, scan_c i1 this]
      · intro next4 hP4 hin4
        rw [scan_n] at hP4
        exact cnd_d (fun h => absurd h (by dsimp only; omega)) (fun _ => hk' hP4)
    · intro next3 hP3 hin3
      rw [scan_n] at hP3
      exact cnd_d (fun h => absurd h (by dsimp only; omega)) (fun _ => ⟨by rw [inK64]; (try dsimp only); omega, hn (by rw [hP, scan_c h1 hP3])⟩)
  · intro next2 hP2 hin2
    rw [scan_n] at hP2
    refine cnd_d (fun h => absurd h (by dsimp only; omega)) (fun _ => resq _ _ _ _ ?_)
    rw [hF, hP2]; rfl
theorem ct_impl_Category_fault : CtOk Try.prog 99 c_impl_Category_fault :=
  ct_by (Φ := lkp [(86, c_impl_Category_arrows), (89, c_impl_Category_then)]) (good_cons ct_impl_Category_arrows (good_cons ct_impl_Category_then good_nil)) tab_ok (by kernel_rfl) (fn := Try.f99) (c := bodyOf Try.f99) (by kernel_rfl) (by kernel_rfl) (by kernel_rfl) c_impl_Category_fault rfl (.s .n (.s .n (.s (.s .n (.l [(7, (.d (.int .i64)))] [] [0, 6] .n)) (.s (.s .n (.l [(8, (.d (.int .i64)))] [] [0, 6] (.s .n (.s (.s .n (.l [(9, (.d (.int .i64)))] [] [0, 6, 8] (.s .n (.s (.j [] [] [0, 6, 8, 9] (.s .n (.s .n (.l [(10, (.d (.int .i64)))] [] [0, 6, 8, 9] .n)))) .n)))) .n)))) .n)))) (cutL [(5, 38)]) (by kernel_rfl) (by kernel_rfl) k_impl_Category_fault (by decide) (fun x K => W_impl_Category_fault x.1 K) w_impl_Category_fault (fun x h1 h2 => m_impl_Category_fault x.1 h1 h2)
/-- the arrows from x to y -/
def homR (c : CategoryD) (x y : Int) : List Int := selR c.2.1.length fun f => c.2.1.getD f.toNat 0 == x && c.2.2.1.getD f.toNat 0 == y
theorem hom_mem {c : CategoryD} {x y g : Int} : g ∈ homR c x y ↔ 0 ≤ g ∧ g < c.2.1.length ∧ c.2.1.getD g.toNat 0 = x ∧ c.2.2.1.getD g.toNat 0 = y := by
  unfold homR; rw [sel_mem, Bool.and_eq_true, beq_iff_eq, beq_iff_eq]

def c_impl_Category_hom : Ct := ⟨[(.pt CategoryT), (.int .i64), (.int .i64)], [false, false, false], fun x => [x.1.2.1.length ≤ 40, x.1.2.2.1.length = x.1.2.1.length], [(false, (.sl (.fz (.int .i64))))], fun x => (homR x.1 x.2.1 x.2.2.1, ()), false, none⟩
def W_impl_Category_hom (c : CategoryD) (x : Int) (y : Int) (K : (List Int) × Unit → Prop) : Prop := (loopW (S := ((Unit × (Int × Unit)) × ((List Int) × Unit))) (fun s => (fun next => ((inK IntKind.i64 s.1.2.1) → ((T.ok (T.sl (T.int IntKind.i64)) s.2.1) → (cnd (decide (s.1.2.1 < (((List.length c.2.1) : Nat) : Int))) (((0 : Int) ≤ s.1.2.1) ∧ ((s.1.2.1 < (((List.length c.2.1) : Nat) : Int)) ∧ (((((List.getD c.2.1 (Int.toNat s.1.2.1) (0 : Int)) == x) = Bool.true) → ((s.1.2.1 < (((List.length c.2.2.1) : Nat) : Int)) ∧ ((0 : Int) ≤ s.1.2.1))) ∧ (joinW (S := ((Unit × Unit) × ((List Int) × Unit))) (fun s1 => ((T.ok (T.sl (T.int IntKind.i64)) s1.2.1) → ((inK IntKind.i64 (s.1.2.1 + (1 : Int))) ∧ (next (((), ((s.1.2.1 + (1 : Int)), ())), (s1.2.1, ())))))) (fun k => (cnd (((List.getD c.2.1 (Int.toNat s.1.2.1) (0 : Int)) == x) && ((List.getD c.2.2.1 (Int.toNat s.1.2.1) (0 : Int)) == y)) ((room (List.length s.2.1) (List.length (s.1.2.1 :: ([] : List Int))) 8) ∧ (k (((), ()), ((s.2.1 ++ (s.1.2.1 :: ([] : List Int))), ())))) (k (((), ()), (s.2.1, ()))))))))) (K (s.2.1, ()))))))) (((), ((0 : Int), ())), (([] : List Int), ())))
theorem w_impl_Category_hom (x : denL c_impl_Category_hom.args) (K : (List Int) × Unit → Prop) : evF tab (lkp []) (cutL []) Try.f88 (bodyOf Try.f88) (.s .n (.s .n (.s (.s .n (.l [(7, (.ref 800007 [])), (15, (.d (.int .i64)))] [(800007, (.sl (.fz (.int .i64))))] [0, 1, 2, 14] (.s .n (.s .n (.s (.s .n (.s .n (.j [(7, (.ref 800007 []))] [(800007, (.sl (.fz (.int .i64))))] [0, 1, 2, 14, 15] .n))) .n))))) .n))) c_impl_Category_hom x K = W_impl_Category_hom x.1 x.2.1 x.2.2.1 K := by kernel_rfl
theorem k_impl_Category_hom : okC Try.f88.ntmps (cutL []) (bodyOf Try.f88) = true := by kernel_rfl
theorem m_impl_Category_hom (c : CategoryD) (x : Int) (y : Int) (hok : allP (okL c_impl_Category_hom.args (c, x, y, ()))) (hpre : allP (c_impl_Category_hom.pre (c, x, y, ()))) : W_impl_Category_hom c x y (fun r => r = c_impl_Category_hom.res (c, x, y, ())) := by
  simp only [c_impl_Category_hom, okL, T.oks, T.ok, ap, allP, true_and, and_true, implies_true] at hok hpre
  try dsimp only [T.den] at hok
  try dsimp only [T.den] at hpre
  unfold W_impl_Category_hom
  have hm : c.2.1.length ≤ 40 := hpre.1
  have hlt : c.2.2.1.length = c.2.1.length := hpre.2
  refine loop_of (fun (s : ((Unit × (Int × Unit)) × ((List Int) × Unit))) => 0 ≤ s.1.2.1 ∧ s.1.2.1 ≤ c.2.1.length ∧ s.2.1 = selR s.1.2.1.toNat fun f => c.2.1.getD f.toNat 0 == x && c.2.2.1.getD f.toNat 0 == y) (fun (s : ((Unit × (Int × Unit)) × ((List Int) × Unit))) => (c.2.1.length - s.1.2.1).toNat) ?_ ⟨by simp, by simp, rfl⟩
  rintro ⟨⟨_, i, _⟩, l, _⟩ next ⟨h0, h1, h2⟩ hn hin hl
  try dsimp only at h0 h1 h2 hn ⊢
  subst h2
  refine cnd_d (fun hc => ⟨h0, hc, fun _ => by omega, join_of (fun s1 => s1.2.1 = selR (i + 1).toNat fun f => c.2.1.getD f.toNat 0 == x && c.2.2.1.getD f.toNat 0 == y) (fun s1 hs _ => ⟨by rw [inK64]; (try dsimp only); omega, hn _ ⟨(by first | omega | (dsimp only; omega)), (by first | omega | (dsimp only; omega)), hs⟩ (by first | omega | (dsimp only; omega))⟩) (fun k hk => cnd_of (fun hx => ⟨?_, hk _ ?_⟩) (fun hx => hk _ ?_))⟩) (fun hc => ?_)
  · have := sel_len (p := fun f => c.2.1.getD f.toNat 0 == x && c.2.2.1.getD f.toNat 0 == y) i.toNat
    unfold room
    rw [nb_eq]
    have h3 : (i :: ([] : List Int)).length = 1 := rfl
    rw [h3]
    omega
  · exact (sel_t h0 hx).symm
  · exact (sel_f h0 hx).symm
  · have e1 : i.toNat = c.2.1.length := by omega
    simp only [c_impl_Category_hom, homR]
    rw [e1]
theorem ct_impl_Category_hom : CtOk Try.prog 88 c_impl_Category_hom :=
  ct_by (Φ := lkp []) good_nil tab_ok (by kernel_rfl) (fn := Try.f88) (c := bodyOf Try.f88) (by kernel_rfl) (by kernel_rfl) (by kernel_rfl) c_impl_Category_hom rfl (.s .n (.s .n (.s (.s .n (.l [(7, (.ref 800007 [])), (15, (.d (.int .i64)))] [(800007, (.sl (.fz (.int .i64))))] [0, 1, 2, 14] (.s .n (.s .n (.s (.s .n (.s .n (.j [(7, (.ref 800007 []))] [(800007, (.sl (.fz (.int .i64))))] [0, 1, 2, 14, 15] .n))) .n))))) .n))) (cutL []) (by kernel_rfl) (by kernel_rfl) k_impl_Category_hom (by decide) (fun x K => W_impl_Category_hom x.1 x.2.1 x.2.2.1 K) w_impl_Category_hom (fun x h1 h2 => m_impl_Category_hom x.1 x.2.1 x.2.2.1 h1 h2)
def catR (c : CategoryD) : Bool := shapeR c && (faultR c).1 == 0

def c_impl_Category_isCategory : Ct := ⟨[(.pt CategoryT)], [false], fun x => [], [(false, (.fz .bool))], fun x => (catR x.1, ()), false, none⟩
def W_impl_Category_isCategory (c : CategoryD) (K : Bool × Unit → Prop) : Prop := (cnd (!(shapeR c)) (K (Bool.false, ())) ((ShapeP c) ∧ (K (((faultR c).1 == (0 : Int)), ()))))
theorem w_impl_Category_isCategory (x : denL c_impl_Category_isCategory.args) (K : Bool × Unit → Prop) : evF tab (lkp [(99, c_impl_Category_fault), (98, c_impl_Category_isShape)]) (cutL []) Try.f60 (bodyOf Try.f60) .n c_impl_Category_isCategory x K = W_impl_Category_isCategory x.1 K := by kernel_rfl
theorem k_impl_Category_isCategory : okC Try.f60.ntmps (cutL []) (bodyOf Try.f60) = true := by kernel_rfl
theorem m_impl_Category_isCategory (c : CategoryD) (hok : allP (okL c_impl_Category_isCategory.args (c, ()))) (hpre : allP (c_impl_Category_isCategory.pre (c, ()))) : W_impl_Category_isCategory c (fun r => r = c_impl_Category_isCategory.res (c, ())) := by
  simp only [c_impl_Category_isCategory, okL, T.oks, T.ok, ap, allP, true_and, and_true, implies_true] at hok hpre
  try dsimp only [T.den] at hok
  try dsimp only [T.den] at hpre
  unfold W_impl_Category_isCategory
  simp only [c_impl_Category_isCategory, catR]
  have := @shape_iff c
  grind [cnd, nb_eq, inK64]
theorem ct_impl_Category_isCategory : CtOk Try.prog 60 c_impl_Category_isCategory :=
  ct_by (Φ := lkp [(99, c_impl_Category_fault), (98, c_impl_Category_isShape)]) (good_cons ct_impl_Category_fault (good_cons ct_impl_Category_isShape good_nil)) tab_ok (by kernel_rfl) (fn := Try.f60) (c := bodyOf Try.f60) (by kernel_rfl) (by kernel_rfl) (by kernel_rfl) c_impl_Category_isCategory rfl .n (cutL []) (by kernel_rfl) (by kernel_rfl) k_impl_Category_isCategory (by decide) (fun x K => W_impl_Category_isCategory x.1 K) w_impl_Category_isCategory (fun x h1 h2 => m_impl_Category_isCategory x.1 h1 h2)
def objCodeR (c : CategoryD) (l : List Int) : Int := if catR c = true then (if withinR l c.1 = true then 0 else 2) else 1
theorem cat_shape {c : CategoryD} (h : catR c = true) : ShapeP c := by
  simp only [catR, Bool.and_eq_true] at h; exact shape_iff.1 h.1
theorem scan_none {α : Type} {p : Int → Option α} : ∀ {n : Nat} {i : Int}, scanR p n i = none → ∀ j : Int, i ≤ j → j < i + n → p j = none
  | 0, i, _, j, h0, h1 => by omega
  | n + 1, i, h, j, h0, h1 => by
    unfold scanR at h
    cases hp : p i with
    | some v => rw [hp] at h; cases h
    | none =>
      rw [hp] at h
      by_cases e : j = i
      · rw [e, hp]
      · exact scan_none (n := n) (i := i + 1) h j (by omega) (by omega)
theorem scan_some {α : Type} {p : Int → Option α} {v : α} : ∀ {n : Nat} {i : Int}, scanR p n i = some v → ∃ j : Int, p j = some v
  | 0, i, h => by cases h
  | n + 1, i, h => by
    unfold scanR at h
    cases hp : p i with
    | some w => rw [hp] at h; exact ⟨i, hp.trans h⟩
    | none => rw [hp] at h; exact scan_some (n := n) (i := i + 1) h
theorem cat_assoc {c : CategoryD} (hc : catR c = true) {f g h : Int} (f0 : 0 ≤ f) (f1 : f < c.2.1.length) (g0 : 0 ≤ g) (g1 : g < c.2.1.length) (h0 : 0 ≤ h) (h1 : h < c.2.1.length)
    (hfg : c.2.2.1.getD f.toNat 0 = c.2.1.getD g.toNat 0) (hgh : c.2.2.1.getD g.toNat 0 = c.2.1.getD h.toNat 0) : compR c (compR c f g) h = compR c f (compR c g h) := by
  simp only [catR, Bool.and_eq_true, beq_iff_eq] at hc
  have h2 := hc.2
  unfold faultR at h2
  cases h3 : scanR (faultI c) c.2.1.length 0 with
  | some v =>
    obtain ⟨j, hj⟩ := scan_some h3
    unfold faultI at hj
    split at hj
    · cases hj; rw [h3] at h2; simp [orR] at h2
    · cases hj
  | none =>
    rw [h3] at h2
    cases h4 : scanR (faultF c) c.2.1.length 0 with
    | some v =>
      obtain ⟨j, hj⟩ := scan_some h4
      unfold faultF at hj
      obtain ⟨k, hk⟩ := scan_some hj
      unfold faultG at hk
      split at hk
      · obtain ⟨l, hl⟩ := scan_some hk
        unfold faultH at hl
        split at hl
        · cases hl; rw [h4] at h2; simp [orR] at h2
        · cases hl
      · cases hk
    | none =>
      have a1 := scan_none h4 f f0 (by omega)
      unfold faultF at a1
      have a2 := scan_none a1 g g0 (by omega)
      unfold faultG at a2
      rw [if_pos hfg] at a2
      have a3 := scan_none a2 h h0 (by omega)
      unfold faultH at a3
      split at a3
      · cases a3
      · rename_i hn
        exact Decidable.byContradiction fun hne => hn ⟨hgh, hne⟩

/-- the arrows out of x -/
def outR (c : CategoryD) (x : Int) : List Int := selR c.2.1.length fun f => c.2.1.getD f.toNat 0 == x

def c_impl_Category_outOf : Ct := ⟨[(.pt CategoryT), (.int .i64)], [false, false], fun x => [x.1.2.1.length ≤ 40], [(false, (.sl (.fz (.int .i64))))], fun x => (outR x.1 x.2.1, ()), false, none⟩
def W_impl_Category_outOf (c : CategoryD) (x : Int) (K : (List Int) × Unit → Prop) : Prop := (loopW (S := ((Unit × (Int × Unit)) × ((List Int) × Unit))) (fun s => (fun next => ((inK IntKind.i64 s.1.2.1) → ((T.ok (T.sl (T.int IntKind.i64)) s.2.1) → (cnd (decide (s.1.2.1 < (((List.length c.2.1) : Nat) : Int))) (((0 : Int) ≤ s.1.2.1) ∧ ((s.1.2.1 < (((List.length c.2.1) : Nat) : Int)) ∧ (joinW (S := ((Unit × Unit) × ((List Int) × Unit))) (fun s1 => ((T.ok (T.sl (T.int IntKind.i64)) s1.2.1) → ((inK IntKind.i64 (s.1.2.1 + (1 : Int))) ∧ (next (((), ((s.1.2.1 + (1 : Int)), ())), (s1.2.1, ())))))) (fun k => (cnd ((List.getD c.2.1 (Int.toNat s.1.2.1) (0 : Int)) == x) ((room (List.length s.2.1) (List.length (s.1.2.1 :: ([] : List Int))) 8) ∧ (k (((), ()), ((s.2.1 ++ (s.1.2.1 :: ([] : List Int))), ())))) (k (((), ()), (s.2.1, ())))))))) (K (s.2.1, ()))))))) (((), ((0 : Int), ())), (([] : List Int), ())))
theorem w_impl_Category_outOf (x : denL c_impl_Category_outOf.args) (K : (List Int) × Unit → Prop) : evF tab (lkp []) (cutL []) Try.f87 (bodyOf Try.f87) (.s .n (.s .n (.s (.s .n (.l [(5, (.ref 800005 [])), (14, (.d (.int .i64)))] [(800005, (.sl (.fz (.int .i64))))] [1, 12, 13] (.s .n (.s .n (.s (.s .n (.s .n (.j [(5, (.ref 800005 []))] [(800005, (.sl (.fz (.int .i64))))] [1, 12, 13, 14] .n))) .n))))) .n))) c_impl_Category_outOf x K = W_impl_Category_outOf x.1 x.2.1 K := by kernel_rfl
theorem k_impl_Category_outOf : okC Try.f87.ntmps (cutL []) (bodyOf Try.f87) = true := by kernel_rfl
theorem m_impl_Category_outOf (c : CategoryD) (x : Int) (hok : allP (okL c_impl_Category_outOf.args (c, x, ()))) (hpre : allP (c_impl_Category_outOf.pre (c, x, ()))) : W_impl_Category_outOf c x (fun r => r = c_impl_Category_outOf.res (c, x, ())) := by
  simp only [c_impl_Category_outOf, okL, T.oks, T.ok, ap, allP, true_and, and_true, implies_true] at hok hpre
  try dsimp only [T.den] at hok
  try dsimp only [T.den] at hpre
  unfold W_impl_Category_outOf
  have hm : c.2.1.length ≤ 40 := hpre
  refine loop_of (fun (s : ((Unit × (Int × Unit)) × ((List Int) × Unit))) => 0 ≤ s.1.2.1 ∧ s.1.2.1 ≤ c.2.1.length ∧ s.2.1 = selR s.1.2.1.toNat fun f => c.2.1.getD f.toNat 0 == x) (fun (s : ((Unit × (Int × Unit)) × ((List Int) × Unit))) => (c.2.1.length - s.1.2.1).toNat) ?_ ⟨by simp, by simp, rfl⟩
  rintro ⟨⟨_, i, _⟩, l, _⟩ next ⟨h0, h1, h2⟩ hn hin hl
  try dsimp only at h0 h1 h2 hn ⊢
  subst h2
  refine cnd_d (fun hc => ⟨h0, hc, join_of (fun s1 => s1.2.1 = selR (i + 1).toNat fun f => c.2.1.getD f.toNat 0 == x) (fun s1 hs _ => ⟨by rw [inK64]; (try dsimp only); omega, hn _ ⟨(by first | omega | (dsimp only; omega)), (by first | omega | (dsimp only; omega)), hs⟩ (by first | omega | (dsimp only; omega))⟩) (fun k hk => cnd_of (fun hx => ⟨?_, hk _ ?_⟩) (fun hx => hk _ ?_))⟩) (fun hc => ?_)
  · have := sel_len (p := fun f => c.2.1.getD f.toNat 0 == x) i.toNat
    unfold room
    rw [nb_eq]
    have h3 : (i :: ([] : List Int)).length = 1 := rfl
    rw [h3]
    omega
  · exact (sel_t h0 hx).symm
  · exact (sel_f h0 hx).symm
  · have e : i.toNat = c.2.1.length := by omega
    simp only [c_impl_Category_outOf, outR]
    rw [e]
theorem ct_impl_Category_outOf : CtOk Try.prog 87 c_impl_Category_outOf :=
  ct_by (Φ := lkp []) good_nil tab_ok (by kernel_rfl) (fn := Try.f87) (c := bodyOf Try.f87) (by kernel_rfl) (by kernel_rfl) (by kernel_rfl) c_impl_Category_outOf rfl (.s .n (.s .n (.s (.s .n (.l [(5, (.ref 800005 [])), (14, (.d (.int .i64)))] [(800005, (.sl (.fz (.int .i64))))] [1, 12, 13] (.s .n (.s .n (.s (.s .n (.s .n (.j [(5, (.ref 800005 []))] [(800005, (.sl (.fz (.int .i64))))] [1, 12, 13, 14] .n))) .n))))) .n))) (cutL []) (by kernel_rfl) (by kernel_rfl) k_impl_Category_outOf (by decide) (fun x K => W_impl_Category_outOf x.1 x.2.1 K) w_impl_Category_outOf (fun x h1 h2 => m_impl_Category_outOf x.1 x.2.1 h1 h2)
def c_impl_Category_equalizers_1 : Ct := ⟨[(.int .i64), (.int .i64), (.pt (.pt CategoryT)), (.pt (.int .i64)), (.pt (.int .i64))], [false, false, false, false, false], fun x => [ShapeP x.2.2.1, 0 ≤ x.1, x.1 < x.2.2.1.2.1.length, 0 ≤ x.2.1, x.2.1 < x.2.2.1.2.1.length, 0 ≤ x.2.2.2.1, x.2.2.2.1 < x.2.2.1.2.1.length, 0 ≤ x.2.2.2.2.1, x.2.2.2.2.1 < x.2.2.1.2.1.length], [(false, (.fz .bool))], fun x => (compR x.2.2.1 x.1 x.2.2.2.1 == compR x.2.2.1 x.2.1 x.2.2.2.2.1, ()), false, none⟩
def W_impl_Category_equalizers_1 (a : Int) (b : Int) (c : CategoryD) (f : Int) (g : Int) (K : Bool × Unit → Prop) : Prop := (((0 : Int) ≤ a) ∧ ((a < (((List.length c.2.2.2.2) : Nat) : Int)) ∧ (((0 : Int) ≤ f) ∧ ((f < (((List.length (List.getD c.2.2.2.2 (Int.toNat a) ([] : List Int))) : Nat) : Int)) ∧ (((0 : Int) ≤ b) ∧ ((b < (((List.length c.2.2.2.2) : Nat) : Int)) ∧ (((0 : Int) ≤ g) ∧ ((g < (((List.length (List.getD c.2.2.2.2 (Int.toNat b) ([] : List Int))) : Nat) : Int)) ∧ (K (((compR c a f) == (compR c b g)), ()))))))))))
theorem w_impl_Category_equalizers_1 (x : denL c_impl_Category_equalizers_1.args) (K : Bool × Unit → Prop) : evF tab (lkp [(89, c_impl_Category_then)]) (cutL [(1, 7)]) Try.f133 (bodyOf Try.f133) .n c_impl_Category_equalizers_1 x K = W_impl_Category_equalizers_1 x.1 x.2.1 x.2.2.1 x.2.2.2.1 x.2.2.2.2.1 K := by kernel_rfl
theorem k_impl_Category_equalizers_1 : okC Try.f133.ntmps (cutL [(1, 7)]) (bodyOf Try.f133) = true := by kernel_rfl
theorem m_impl_Category_equalizers_1 (a : Int) (b : Int) (c : CategoryD) (f : Int) (g : Int) (hok : allP (okL c_impl_Category_equalizers_1.args (a, b, c, f, g, ()))) (hpre : allP (c_impl_Category_equalizers_1.pre (a, b, c, f, g, ()))) : W_impl_Category_equalizers_1 a b c f g (fun r => r = c_impl_Category_equalizers_1.res (a, b, c, f, g, ())) := by
  simp only [c_impl_Category_equalizers_1, okL, T.oks, T.ok, ap, allP, true_and, and_true, implies_true] at hok hpre
  try dsimp only [T.den] at hok
  try dsimp only [T.den] at hpre
  unfold W_impl_Category_equalizers_1
  obtain ⟨S, a0, a1, b0, b1, f0, f1, g0, g1⟩ := hpre
  have ra := S.row a a0 a1
  have rb := S.row b b0 b1
  have hlc := S.lc
  exact ⟨a0, by omega, f0, by omega, b0, by omega, g0, by omega, rfl⟩
theorem ct_impl_Category_equalizers_1 : CtOk Try.prog 133 c_impl_Category_equalizers_1 :=
  ct_by (Φ := lkp [(89, c_impl_Category_then)]) (good_cons ct_impl_Category_then good_nil) tab_ok (by kernel_rfl) (fn := Try.f133) (c := bodyOf Try.f133) (by kernel_rfl) (by kernel_rfl) (by kernel_rfl) c_impl_Category_equalizers_1 rfl .n (cutL [(1, 7)]) (by kernel_rfl) (by kernel_rfl) k_impl_Category_equalizers_1 (by decide) (fun x K => W_impl_Category_equalizers_1 x.1 x.2.1 x.2.2.1 x.2.2.2.1 x.2.2.2.2.1 K) w_impl_Category_equalizers_1 (fun x h1 h2 => m_impl_Category_equalizers_1 x.1 x.2.1 x.2.2.1 x.2.2.2.1 x.2.2.2.2.1 h1 h2)
abbrev SpD : Type := CategoryD × (Int × (Int × ((CategoryD × (Int × (Int × Unit))) × Bool)))
/-- what equalizers gives -/
structure EqP (s : SpD) : Prop where
  sh : ShapeP s.1
  cc : s.2.2.2.1.1 = s.1
  al : s.2.2.2.2 = true
  f0 : 0 ≤ s.2.2.2.1.2.1
  f1 : s.2.2.2.1.2.1 < s.1.2.1.length
  g0 : 0 ≤ s.2.2.2.1.2.2.1
  g1 : s.2.2.2.1.2.2.1 < s.1.2.1.length
/-- the arrows from w to x that g and h do not tell apart -/
def forkR (c : CategoryD) (x g h w : Int) : List Int := (homR c w x).filter fun a => compR c a g == compR c a h

def c_impl_spans_from_eq : Ct := ⟨[(.pt (.p (.pt CategoryT) (.p (.int .i64) (.p (.int .i64) (.p (.fn 133 (.p (.pt (.pt CategoryT)) (.p (.pt (.int .i64)) (.p (.pt (.int .i64)) .u)))) .bool))))), (.int .i64)], [false, false], fun x => [EqP x.1], [(false, (.sl endsO))], fun x => ((forkR x.1.1 x.1.2.1 x.1.2.2.2.1.2.1 x.1.2.2.2.1.2.2.1 x.2.1).map fun a => (a, a), ()), false, none⟩
def W_impl_spans_from_eq (s : CategoryD × (Int × (Int × ((CategoryD × (Int × (Int × Unit))) × Bool)))) (w : Int) (K : (List endsD) × Unit → Prop) : Prop := (((List.length s.1.2.1) ≤ 40) ∧ (((List.length s.1.2.2.1) = (List.length s.1.2.1)) ∧ (loopW (S := ((Unit × (Int × Unit)) × ((List (Int × Int)) × Unit))) (fun s1 => (fun next => ((inK IntKind.i64 s1.1.2.1) → ((T.ok (T.sl endsT) s1.2.1) → (cnd (decide (s1.1.2.1 < (((List.length (homR s.1 w s.2.1)) : Nat) : Int))) (joinW (S := ((Unit × Unit) × ((List (Int × Int)) × Unit))) (fun s2 => ((T.ok (T.sl endsT) s2.2.1) → ((inK IntKind.i64 (s1.1.2.1 + (1 : Int))) ∧ (next (((), ((s1.1.2.1 + (1 : Int)), ())), (s2.2.1, ())))))) (fun k => (((0 : Int) ≤ s1.1.2.1) ∧ ((s1.1.2.1 < (((List.length (homR s.1 w s.2.1)) : Nat) : Int)) ∧ (cnd s.2.2.2.2 ((ShapeP s.2.2.2.1.1) ∧ (((0 : Int) ≤ (List.getD (homR s.1 w s.2.1) (Int.toNat s1.1.2.1) (0 : Int))) ∧ (((List.getD (homR s.1 w s.2.1) (Int.toNat s1.1.2.1) (0 : Int)) < (((List.length s.2.2.2.1.1.2.1) : Nat) : Int)) ∧ (((0 : Int) ≤ (List.getD (homR s.1 w s.2.1) (Int.toNat s1.1.2.1) (0 : Int))) ∧ (((List.getD (homR s.1 w s.2.1) (Int.toNat s1.1.2.1) (0 : Int)) < (((List.length s.2.2.2.1.1.2.1) : Nat) : Int)) ∧ (((0 : Int) ≤ s.2.2.2.1.2.1) ∧ ((s.2.2.2.1.2.1 < (((List.length s.2.2.2.1.1.2.1) : Nat) : Int)) ∧ (((0 : Int) ≤ s.2.2.2.1.2.2.1) ∧ ((s.2.2.2.1.2.2.1 < (((List.length s.2.2.2.1.1.2.1) : Nat) : Int)) ∧ (joinW (S := ((Unit × Unit) × ((List (Int × Int)) × Unit))) (fun s2 => ((T.ok (T.sl endsT) s2.2.1) → (k (((), ()), (s2.2.1, ()))))) (fun k1 => (cnd ((compR s.2.2.2.1.1 (List.getD (homR s.1 w s.2.1) (Int.toNat s1.1.2.1) (0 : Int)) s.2.2.2.1.2.1) == (compR s.2.2.2.1.1 (List.getD (homR s.1 w s.2.1) (Int.toNat s1.1.2.1) (0 : Int)) s.2.2.2.1.2.2.1)) ((room (List.length s1.2.1) (List.length (((List.getD (homR s.1 w s.2.1) (Int.toNat s1.1.2.1) (0 : Int)), (List.getD (homR s.1 w s.2.1) (Int.toNat s1.1.2.1) (0 : Int))) :: ([] : List (Int × Int)))) 16) ∧ (k1 (((), ()), ((s1.2.1 ++ (((List.getD (homR s.1 w s.2.1) (Int.toNat s1.1.2.1) (0 : Int)), (List.getD (homR s.1 w s.2.1) (Int.toNat s1.1.2.1) (0 : Int))) :: ([] : List (Int × Int)))), ())))) (k1 (((), ()), (s1.2.1, ()))))))))))))))) (((List.length s.1.2.1) ≤ 40) ∧ (((List.length s.1.2.2.1) = (List.length s.1.2.1)) ∧ (loopW (S := ((Unit × (Int × Unit)) × ((List (Int × Int)) × Unit))) (fun s2 => (fun next1 => ((inK IntKind.i64 s2.1.2.1) → ((T.ok (T.sl endsT) s2.2.1) → (cnd (decide (s2.1.2.1 < (((List.length (homR s.1 w s.2.2.1)) : Nat) : Int))) (((0 : Int) ≤ s2.1.2.1) ∧ ((s2.1.2.1 < (((List.length (homR s.1 w s.2.2.1)) : Nat) : Int)) ∧ ((ShapeP s.2.2.2.1.1) ∧ (((0 : Int) ≤ (List.getD (homR s.1 w s.2.1) (Int.toNat s1.1.2.1) (0 : Int))) ∧ (((List.getD (homR s.1 w s.2.1) (Int.toNat s1.1.2.1) (0 : Int)) < (((List.length s.2.2.2.1.1.2.1) : Nat) : Int)) ∧ (((0 : Int) ≤ (List.getD (homR s.1 w s.2.2.1) (Int.toNat s2.1.2.1) (0 : Int))) ∧ (((List.getD (homR s.1 w s.2.2.1) (Int.toNat s2.1.2.1) (0 : Int)) < (((List.length s.2.2.2.1.1.2.1) : Nat) : Int)) ∧ (((0 : Int) ≤ s.2.2.2.1.2.1) ∧ ((s.2.2.2.1.2.1 < (((List.length s.2.2.2.1.1.2.1) : Nat) : Int)) ∧ (((0 : Int) ≤ s.2.2.2.1.2.2.1) ∧ ((s.2.2.2.1.2.2.1 < (((List.length s.2.2.2.1.1.2.1) : Nat) : Int)) ∧ (joinW (S := ((Unit × Unit) × ((List (Int × Int)) × Unit))) (fun s3 => ((T.ok (T.sl endsT) s3.2.1) → ((inK IntKind.i64 (s2.1.2.1 + (1 : Int))) ∧ (next1 (((), ((s2.1.2.1 + (1 : Int)), ())), (s3.2.1, ())))))) (fun k1 => (cnd ((compR s.2.2.2.1.1 (List.getD (homR s.1 w s.2.1) (Int.toNat s1.1.2.1) (0 : Int)) s.2.2.2.1.2.1) == (compR s.2.2.2.1.1 (List.getD (homR s.1 w s.2.2.1) (Int.toNat s2.1.2.1) (0 : Int)) s.2.2.2.1.2.2.1)) ((room (List.length s2.2.1) (List.length (((List.getD (homR s.1 w s.2.1) (Int.toNat s1.1.2.1) (0 : Int)), (List.getD (homR s.1 w s.2.2.1) (Int.toNat s2.1.2.1) (0 : Int))) :: ([] : List (Int × Int)))) 16) ∧ (k1 (((), ()), ((s2.2.1 ++ (((List.getD (homR s.1 w s.2.1) (Int.toNat s1.1.2.1) (0 : Int)), (List.getD (homR s.1 w s.2.2.1) (Int.toNat s2.1.2.1) (0 : Int))) :: ([] : List (Int × Int)))), ())))) (k1 (((), ()), (s2.2.1, ()))))))))))))))))) (k (((), ()), (s2.2.1, ())))))))) (((), ((0 : Int), ())), (s1.2.1, ())))))))))) (K (s1.2.1, ()))))))) (((), ((0 : Int), ())), (([] : List (Int × Int)), ())))))
theorem w_impl_spans_from_eq (x : denL c_impl_spans_from_eq.args) (K : (List endsD) × Unit → Prop) : evF tab (lkp [(88, c_impl_Category_hom), (133, c_impl_Category_equalizers_1)]) (cutL [(2, 512), (8, 512)]) Try.f134 (bodyOf Try.f134) (.s .n (.s .n (.s (.s .n (.l [(5, (.ref 800005 [])), (22, (.d (.int .i64)))] [(800005, (.sl (.fz (.p (.int .i64) (.int .i64)))))] [0, 1, 20, 21] (.s .n (.s .n (.s (.j [(5, (.ref 800005 []))] [(800005, (.sl (.fz (.p (.int .i64) (.int .i64)))))] [0, 1, 20, 21, 22] (.s .n (.s (.s .n (.s (.s (.s .n (.j [(5, (.ref 800005 []))] [(800005, (.sl (.fz (.p (.int .i64) (.int .i64)))))] [0, 1, 20, 21, 22] .n)) .n) .n)) (.s .n (.l [(5, (.ref 800005 [])), (54, (.d (.int .i64)))] [(800005, (.sl (.fz (.p (.int .i64) (.int .i64)))))] [0, 1, 7, 20, 21, 22, 52, 53] (.s .n (.s .n (.s (.s .n (.s .n (.j [(5, (.ref 800005 []))] [(800005, (.sl (.fz (.p (.int .i64) (.int .i64)))))] [0, 1, 7, 20, 21, 22, 52, 53, 54] .n))) .n)))))))) .n))))) .n))) c_impl_spans_from_eq x K = W_impl_spans_from_eq x.1 x.2.1 K := by kernel_rfl
theorem k_impl_spans_from_eq : okC Try.f134.ntmps (cutL [(2, 512), (8, 512)]) (bodyOf Try.f134) = true := by kernel_rfl
theorem m_impl_spans_from_eq (s : CategoryD × (Int × (Int × ((CategoryD × (Int × (Int × Unit))) × Bool)))) (w : Int) (hok : allP (okL c_impl_spans_from_eq.args (s, w, ()))) (hpre : allP (c_impl_spans_from_eq.pre (s, w, ()))) : W_impl_spans_from_eq s w (fun r => r = c_impl_spans_from_eq.res (s, w, ())) := by
  simp only [c_impl_spans_from_eq, okL, T.oks, T.ok, ap, allP, true_and, and_true, implies_true] at hok hpre
  try dsimp only [T.den] at hok
  try dsimp only [T.den] at hpre
  unfold W_impl_spans_from_eq
  have E : EqP s := hpre
  clear hok
  obtain ⟨c, x, y, ⟨c', f, g, v⟩, al⟩ := s
  obtain ⟨S, hc, hal, f0, f1, g0, g1⟩ := E
  try dsimp only at S hc hal f0 f1 g0 g1 ⊢
  subst hc; subst hal
  have hm := S.m
  have hhl : (homR c' w x).length ≤ 40 := Nat.le_trans (sel_len _) hm
  refine ⟨hm, S.lt, ?_⟩
  refine loop_ixa (n := ((homR c' w x).length : Int)) (fun j => (filT (fun a => compR c' a f == compR c' a g) (homR c' w x) j).map fun a => (a, a)) (by omega) rfl ?_ ?_
  · intro j next j0 j1 hn hin hol
    have hh := hom_mem.1 (getD_mem (homR c' w x) 0 j0 j1)
    have hlen := Nat.le_trans (@fil_len (fun a => compR c' a f == compR c' a g) (homR c' w x) j) (Nat.le_trans (sel_len _) hm)
    have ft := @fil_t (fun a => compR c' a f == compR c' a g) (homR c' w x) j j0 j1
    have ff := @fil_f (fun a => compR c' a f == compR c' a g) (homR c' w x) j j0 j1
    try dsimp only at hn hol ⊢
    refine cnd_d (fun _ => ?_) (fun h => absurd j1 h)
    refine join_add _ (fun s hs _ => ⟨by rw [inK64]; (try dsimp only); omega, by rw [hs]; exact hn⟩) (fun k hk => ⟨j0, j1, cnd_of (fun _ => ⟨S, hh.1, hh.2.1, hh.1, hh.2.1, f0, f1, g0, g1, ?_⟩) (fun h => by cases h)⟩)
    refine join_add _ (fun s hs _ => hk _ hs) (fun k1 hk1 => cnd_of (fun hp => ⟨room_of (by simp only [List.length_map, List.length_cons, List.length_nil]; omega), hk1 _ ?_⟩) (fun hp => hk1 _ ?_))
    · rw [ft hp, List.map_append]; rfl
    · rw [ff hp]
  · intro next _ _
    exact cnd_d (fun h => absurd h (Int.lt_irrefl _)) (fun _ => by simp only [c_impl_spans_from_eq, forkR]; rw [fil_n (Int.le_refl _)])
theorem ct_impl_spans_from_eq : CtOk Try.prog 134 c_impl_spans_from_eq :=
  ct_by (Φ := lkp [(88, c_impl_Category_hom), (133, c_impl_Category_equalizers_1)]) (good_cons ct_impl_Category_hom (good_cons ct_impl_Category_equalizers_1 good_nil)) tab_ok (by kernel_rfl) (fn := Try.f134) (c := bodyOf Try.f134) (by kernel_rfl) (by kernel_rfl) (by kernel_rfl) c_impl_spans_from_eq rfl (.s .n (.s .n (.s (.s .n (.l [(5, (.ref 800005 [])), (22, (.d (.int .i64)))] [(800005, (.sl (.fz (.p (.int .i64) (.int .i64)))))] [0, 1, 20, 21] (.s .n (.s .n (.s (.j [(5, (.ref 800005 []))] [(800005, (.sl (.fz (.p (.int .i64) (.int .i64)))))] [0, 1, 20, 21, 22] (.s .n (.s (.s .n (.s (.s (.s .n (.j [(5, (.ref 800005 []))] [(800005, (.sl (.fz (.p (.int .i64) (.int .i64)))))] [0, 1, 20, 21, 22] .n)) .n) .n)) (.s .n (.l [(5, (.ref 800005 [])), (54, (.d (.int .i64)))] [(800005, (.sl (.fz (.p (.int .i64) (.int .i64)))))] [0, 1, 7, 20, 21, 22, 52, 53] (.s .n (.s .n (.s (.s .n (.s .n (.j [(5, (.ref 800005 []))] [(800005, (.sl (.fz (.p (.int .i64) (.int .i64)))))] [0, 1, 7, 20, 21, 22, 52, 53, 54] .n))) .n)))))))) .n))))) .n))) (cutL [(2, 512), (8, 512)]) (by kernel_rfl) (by kernel_rfl) k_impl_spans_from_eq (by decide) (fun x K => W_impl_spans_from_eq x.1 x.2.1 K) w_impl_spans_from_eq (fun x h1 h2 => m_impl_spans_from_eq x.1 x.2.1 h1 h2)
def seenR (l : List (Int × Int)) : List ((Int × Int) × Bool) := l.foldl (fun m k => msetR (.p (.int .i64) (.int .i64)) .bool m k true) []
def univ1R (c : CategoryD) (x g h z p q w : Int) : Bool := (homR c w z).length == (forkR c x g h w).length && (seenR ((homR c w z).map fun u => (compR c u p, compR c u q))).length == (homR c w z).length
def univER (c : CategoryD) (x g h z p q : Int) : Bool := allB c.1.toNat (univ1R c x g h z p q)
theorem seen_s {l : List (Int × Int)} {j : Int} {d : Int × Int} (h0 : 0 ≤ j) (h1 : j < l.length) : seenR (l.take (j + 1).toNat) = msetR (.p (.int .i64) (.int .i64)) .bool (seenR (l.take j.toNat)) (l.getD j.toNat d) true := by
  rw [take_c l d h0 h1]; unfold seenR; rw [List.foldl_append]; rfl
theorem seen_le : ∀ (l : List (Int × Int)) (m : List ((Int × Int) × Bool)), (l.foldl (fun m k => msetR (.p (.int .i64) (.int .i64)) .bool m k true) m).length ≤ m.length + l.length
  | [], m => by simp
  | a :: r, m => by
    have h1 := seen_le r (msetR (.p (.int .i64) (.int .i64)) .bool m a true)
    have h2 := @mset_len (.p (.int .i64) (.int .i64)) .bool a true m
    simp only [List.foldl_cons, List.length_cons]
    omega
theorem seen_len {l : List (Int × Int)} : (seenR l).length ≤ l.length := by
  have := seen_le l []
  simpa [seenR] using this

def c_impl_spans_isUniversal_eq : Ct := ⟨[(.pt (.p (.pt CategoryT) (.p (.int .i64) (.p (.int .i64) (.p (.fn 133 (.p (.pt (.pt CategoryT)) (.p (.pt (.int .i64)) (.p (.pt (.int .i64)) .u)))) .bool))))), (.int .i64), endsT], [false, false, true], fun x => [EqP x.1, 0 ≤ x.2.2.1.1, x.2.2.1.1 < x.1.1.2.1.length, 0 ≤ x.2.2.1.2, x.2.2.1.2 < x.1.1.2.1.length], [(false, (.fz .bool))], fun x => (univER x.1.1 x.1.2.1 x.1.2.2.2.1.2.1 x.1.2.2.2.1.2.2.1 x.2.1 x.2.2.1.1 x.2.2.1.2, ()), false, none⟩
def W_impl_spans_isUniversal_eq (s : CategoryD × (Int × (Int × ((CategoryD × (Int × (Int × Unit))) × Bool)))) (z : Int) (p : endsD) (K : Bool × Unit → Prop) : Prop := (loopW (S := ((Int × Unit) × Unit)) (fun s1 => (fun next => ((inK IntKind.i64 s1.1.1) → (cnd (decide (s1.1.1 < s.1.1)) (((List.length s.1.2.1) ≤ 40) ∧ (((List.length s.1.2.2.1) = (List.length s.1.2.1)) ∧ ((EqP s) ∧ (cnd ((((List.length (homR s.1 s1.1.1 z)) : Nat) : Int) != (((List.length (List.map (fun a => (a, a)) (forkR s.1 s.2.1 s.2.2.2.1.2.1 s.2.2.2.1.2.2.1 s1.1.1))) : Nat) : Int)) (K (Bool.false, ())) (loopW (S := ((Unit × (Int × Unit)) × ((List ((Int × Int) × Bool)) × Unit))) (fun s2 => (fun next1 => ((inK IntKind.i64 s2.1.2.1) → ((T.ok (T.mp endsT T.bool) s2.2.1) → (cnd (decide (s2.1.2.1 < (((List.length (homR s.1 s1.1.1 z)) : Nat) : Int))) (((0 : Int) ≤ s2.1.2.1) ∧ ((s2.1.2.1 < (((List.length (homR s.1 s1.1.1 z)) : Nat) : Int)) ∧ (((0 : Int) ≤ (List.getD (homR s.1 s1.1.1 z) (Int.toNat s2.1.2.1) (0 : Int))) ∧ (((List.getD (homR s.1 s1.1.1 z) (Int.toNat s2.1.2.1) (0 : Int)) < (((List.length s.1.2.2.2.2) : Nat) : Int)) ∧ (((0 : Int) ≤ p.1) ∧ ((p.1 < (((List.length (List.getD s.1.2.2.2.2 (Int.toNat (List.getD (homR s.1 s1.1.1 z) (Int.toNat s2.1.2.1) (0 : Int))) ([] : List Int))) : Nat) : Int)) ∧ (((0 : Int) ≤ (List.getD (homR s.1 s1.1.1 z) (Int.toNat s2.1.2.1) (0 : Int))) ∧ (((List.getD (homR s.1 s1.1.1 z) (Int.toNat s2.1.2.1) (0 : Int)) < (((List.length s.1.2.2.2.2) : Nat) : Int)) ∧ (((0 : Int) ≤ p.2) ∧ ((p.2 < (((List.length (List.getD s.1.2.2.2.2 (Int.toNat (List.getD (homR s.1 s1.1.1 z) (Int.toNat s2.1.2.1) (0 : Int))) ([] : List Int))) : Nat) : Int)) ∧ ((room (List.length s2.2.1) 1 1) ∧ ((inK IntKind.i64 (s2.1.2.1 + (1 : Int))) ∧ (next1 (((), ((s2.1.2.1 + (1 : Int)), ())), ((msetR endsT T.bool s2.2.1 ((compR s.1 (List.getD (homR s.1 s1.1.1 z) (Int.toNat s2.1.2.1) (0 : Int)) p.1), (compR s.1 (List.getD (homR s.1 s1.1.1 z) (Int.toNat s2.1.2.1) (0 : Int)) p.2)) Bool.true), ()))))))))))))))) (cnd ((((List.length s2.2.1) : Nat) : Int) != (((List.length (homR s.1 s1.1.1 z)) : Nat) : Int)) (K (Bool.false, ())) ((inK IntKind.i64 (s1.1.1 + (1 : Int))) ∧ (next (((s1.1.1 + (1 : Int)), ()), ()))))))))) (((), ((0 : Int), ())), (([] : List ((Int × Int) × Bool)), ()))))))) (K (Bool.true, ())))))) (((0 : Int), ()), ()))
theorem w_impl_spans_isUniversal_eq (x : denL c_impl_spans_isUniversal_eq.args) (K : Bool × Unit → Prop) : evF tab (lkp [(88, c_impl_Category_hom), (134, c_impl_spans_from_eq), (89, c_impl_Category_then)]) (cutL [(11, 18)]) Try.f91 (bodyOf Try.f91) (.s .n (.s (.s .n (.l [(7, (.d (.int .i64)))] [] [0, 1, 5] (.s .n (.s (.s .n (.s .n (.s .n (.s (.s .n (.l [(9, (.ref 37 [])), (40, (.d (.int .i64)))] [(37, (.mp (.p (.int .i64) (.int .i64)) .bool))] [0, 1, 5, 7, 8, 38, 39] .n)) .n)))) .n)))) .n)) c_impl_spans_isUniversal_eq x K = W_impl_spans_isUniversal_eq x.1 x.2.1 x.2.2.1 K := by kernel_rfl
theorem k_impl_spans_isUniversal_eq : okC Try.f91.ntmps (cutL [(11, 18)]) (bodyOf Try.f91) = true := by kernel_rfl
theorem m_impl_spans_isUniversal_eq (s : CategoryD × (Int × (Int × ((CategoryD × (Int × (Int × Unit))) × Bool)))) (z : Int) (p : endsD) (hok : allP (okL c_impl_spans_isUniversal_eq.args (s, z, p, ()))) (hpre : allP (c_impl_spans_isUniversal_eq.pre (s, z, p, ()))) : W_impl_spans_isUniversal_eq s z p (fun r => r = c_impl_spans_isUniversal_eq.res (s, z, p, ())) := by
  simp only [c_impl_spans_isUniversal_eq, okL, T.oks, T.ok, ap, allP, true_and, and_true, implies_true] at hok hpre
  try dsimp only [T.den] at hok
  try dsimp only [T.den] at hpre
  unfold W_impl_spans_isUniversal_eq
  obtain ⟨E, p0, p1, q0, q1⟩ := hpre
  have S := E.sh
  have hob := S.ob
  have hm := S.m
  have hlc := S.lc
  clear hok
  have res : ∀ b, univER s.1 s.2.1 s.2.2.2.1.2.1 s.2.2.2.1.2.2.1 z p.1 p.2 = b → (b, ()) = c_impl_spans_isUniversal_eq.res (s, z, p, ()) := fun b h => by simp only [c_impl_spans_isUniversal_eq, h]
  refine loop_allB s.1.1.toNat (univ1R s.1 s.2.1 s.2.2.2.1.2.1 s.2.2.2.1.2.2.1 z p.1 p.2) ?_ ?_
  · intro w next w0 w1 hno hyes _
    try dsimp only
    rw [List.length_map]
    have hhl : (homR s.1 w z).length ≤ 40 := Nat.le_trans (sel_len _) hm
    refine cnd_d (fun _ => ⟨hm, S.lt, E, ?_⟩) (fun h => absurd (by omega) h)
    have hu : univ1R s.1 s.2.1 s.2.2.2.1.2.1 s.2.2.2.1.2.2.1 z p.1 p.2 w = ((homR s.1 w z).length == (forkR s.1 s.2.1 s.2.2.2.1.2.1 s.2.2.2.1.2.2.1 w).length && (seenR ((homR s.1 w z).map fun u => (compR s.1 u p.1, compR s.1 u p.2))).length == (homR s.1 w z).length) := rfl
    refine cnd_of (fun hx => res _ (hno ?_)) (fun hx => ?_)
    · rw [hu]
      have : ((homR s.1 w z).length == (forkR s.1 s.2.1 s.2.2.2.1.2.1 s.2.2.2.1.2.2.1 w).length) = false := by
        rw [bne_iff_ne] at hx; rw [beq_eq_false_iff_ne]; omega
      rw [this, Bool.false_and]
    have he : ((homR s.1 w z).length == (forkR s.1 s.2.1 s.2.2.2.1.2.1 s.2.2.2.1.2.2.1 w).length) = true := by
      rw [bne_eq_false_iff_eq] at hx; rw [beq_iff_eq]; omega
    rw [he, Bool.true_and] at hu
    have hsl := @seen_len ((homR s.1 w z).map fun u => (compR s.1 u p.1, compR s.1 u p.2))
    rw [List.length_map] at hsl
    refine loop_ixa (n := ((homR s.1 w z).length : Int)) (fun j => seenR (((homR s.1 w z).map fun u => (compR s.1 u p.1, compR s.1 u p.2)).take j.toNat)) (by omega) rfl ?_ ?_
    · intro j next1 j0 j1 hn1 _ _
      have hs := @seen_s ((homR s.1 w z).map fun u => (compR s.1 u p.1, compR s.1 u p.2)) j (0, 0) j0 (by rw [List.length_map]; exact j1)
      have hl := @seen_len (((homR s.1 w z).map fun u => (compR s.1 u p.1, compR s.1 u p.2)).take j.toNat)
      rw [List.length_take, List.length_map] at hl
      rw [map_getD (d := 0) (by omega)] at hs
      try dsimp only at hn1 ⊢
      rw [hs] at hn1
      have hh := hom_mem.1 (getD_mem (homR s.1 w z) 0 j0 j1)
      have hr := S.row _ hh.1 hh.2.1
      exact cnd_d (fun _ => ⟨j0, j1, hh.1, by omega, p0, by omega, hh.1, by omega, q0, by omega, by unfold room; rw [nb_eq]; omega, by rw [inK64]; (try dsimp only); omega, hn1⟩) (fun h => absurd j1 h)
    · intro next1 _ _
      refine cnd_d (fun h => absurd h (Int.lt_irrefl _)) (fun _ => ?_)
      try dsimp only
      rw [take_n _ (by rw [List.length_map]; omega)]
      refine cnd_of (fun hy => res _ (hno ?_)) (fun hy => ⟨by rw [inK64]; (try dsimp only); omega, hyes ?_⟩)
      · rw [hu, beq_eq_false_iff_ne]; rw [bne_iff_ne] at hy; omega
      · rw [hu, beq_iff_eq]; rw [bne_eq_false_iff_eq] at hy; omega
  · intro next h _
    exact cnd_d (fun h => absurd h (by dsimp only; omega)) (fun _ => res _ h)
theorem ct_impl_spans_isUniversal_eq : CtOk Try.prog 91 c_impl_spans_isUniversal_eq :=
  ct_by (Φ := lkp [(88, c_impl_Category_hom), (134, c_impl_spans_from_eq), (89, c_impl_Category_then)]) (good_cons ct_impl_Category_hom (good_cons ct_impl_spans_from_eq (good_cons ct_impl_Category_then good_nil))) tab_ok (by kernel_rfl) (fn := Try.f91) (c := bodyOf Try.f91) (by kernel_rfl) (by kernel_rfl) (by kernel_rfl) c_impl_spans_isUniversal_eq rfl (.s .n (.s (.s .n (.l [(7, (.d (.int .i64)))] [] [0, 1, 5] (.s .n (.s (.s .n (.s .n (.s .n (.s (.s .n (.l [(9, (.ref 37 [])), (40, (.d (.int .i64)))] [(37, (.mp (.p (.int .i64) (.int .i64)) .bool))] [0, 1, 5, 7, 8, 38, 39] .n)) .n)))) .n)))) .n)) (cutL [(11, 18)]) (by kernel_rfl) (by kernel_rfl) k_impl_spans_isUniversal_eq (by decide) (fun x K => W_impl_spans_isUniversal_eq x.1 x.2.1 x.2.2.1 K) w_impl_spans_isUniversal_eq (fun x h1 h2 => m_impl_spans_isUniversal_eq x.1 x.2.1 x.2.2.1 h1 h2)
def reg1R (c : CategoryD) (f g h : Int) : Bool := compR c f g == compR c f h && univER c (c.2.1.getD g.toNat 0) g h (c.2.1.getD f.toNat 0) f f
def regR (c : CategoryD) (f : Int) : Bool := (outR c (c.2.2.1.getD f.toNat 0)).any fun g => (homR c (c.2.1.getD g.toNat 0) (c.2.2.1.getD g.toNat 0)).any fun h => reg1R c f g h

def c_impl_Category_isRegularMono : Ct := ⟨[(.pt CategoryT), (.int .i64)], [false, false], fun x => [ShapeP x.1, 0 ≤ x.2.1, x.2.1 < x.1.2.1.length], [(false, (.fz .bool))], fun x => (regR x.1 x.2.1, ()), false, none⟩
def W_impl_Category_isRegularMono (c : CategoryD) (f : Int) (K : Bool × Unit → Prop) : Prop := (((0 : Int) ≤ f) ∧ ((f < (((List.length c.2.2.1) : Nat) : Int)) ∧ (((List.length c.2.1) ≤ 40) ∧ (loopW (S := ((Int × Unit) × Unit)) (fun s => (fun next => ((inK IntKind.i64 s.1.1) → (cnd (decide (s.1.1 < (((List.length (outR c (List.getD c.2.2.1 (Int.toNat f) (0 : Int)))) : Nat) : Int))) (((0 : Int) ≤ s.1.1) ∧ ((s.1.1 < (((List.length (outR c (List.getD c.2.2.1 (Int.toNat f) (0 : Int)))) : Nat) : Int)) ∧ (((0 : Int) ≤ (List.getD (outR c (List.getD c.2.2.1 (Int.toNat f) (0 : Int))) (Int.toNat s.1.1) (0 : Int))) ∧ (((List.getD (outR c (List.getD c.2.2.1 (Int.toNat f) (0 : Int))) (Int.toNat s.1.1) (0 : Int)) < (((List.length c.2.1) : Nat) : Int)) ∧ (((0 : Int) ≤ (List.getD (outR c (List.getD c.2.2.1 (Int.toNat f) (0 : Int))) (Int.toNat s.1.1) (0 : Int))) ∧ (((List.getD (outR c (List.getD c.2.2.1 (Int.toNat f) (0 : Int))) (Int.toNat s.1.1) (0 : Int)) < (((List.length c.2.2.1) : Nat) : Int)) ∧ (((List.length c.2.1) ≤ 40) ∧ (((List.length c.2.2.1) = (List.length c.2.1)) ∧ (loopW (S := ((Int × Unit) × Unit)) (fun s1 => (fun next1 => ((inK IntKind.i64 s1.1.1) → (cnd (decide (s1.1.1 < (((List.length (homR c (List.getD c.2.1 (Int.toNat (List.getD (outR c (List.getD c.2.2.1 (Int.toNat f) (0 : Int))) (Int.toNat s.1.1) (0 : Int))) (0 : Int)) (List.getD c.2.2.1 (Int.toNat (List.getD (outR c (List.getD c.2.2.1 (Int.toNat f) (0 : Int))) (Int.toNat s.1.1) (0 : Int))) (0 : Int)))) : Nat) : Int))) (((0 : Int) ≤ s1.1.1) ∧ ((s1.1.1 < (((List.length (homR c (List.getD c.2.1 (Int.toNat (List.getD (outR c (List.getD c.2.2.1 (Int.toNat f) (0 : Int))) (Int.toNat s.1.1) (0 : Int))) (0 : Int)) (List.getD c.2.2.1 (Int.toNat (List.getD (outR c (List.getD c.2.2.1 (Int.toNat f) (0 : Int))) (Int.toNat s.1.1) (0 : Int))) (0 : Int)))) : Nat) : Int)) ∧ (((0 : Int) ≤ f) ∧ ((f < (((List.length c.2.2.2.2) : Nat) : Int)) ∧ (((0 : Int) ≤ (List.getD (outR c (List.getD c.2.2.1 (Int.toNat f) (0 : Int))) (Int.toNat s.1.1) (0 : Int))) ∧ (((List.getD (outR c (List.getD c.2.2.1 (Int.toNat f) (0 : Int))) (Int.toNat s.1.1) (0 : Int)) < (((List.length (List.getD c.2.2.2.2 (Int.toNat f) ([] : List Int))) : Nat) : Int)) ∧ (((0 : Int) ≤ f) ∧ ((f < (((List.length c.2.2.2.2) : Nat) : Int)) ∧ (((0 : Int) ≤ (List.getD (homR c (List.getD c.2.1 (Int.toNat (List.getD (outR c (List.getD c.2.2.1 (Int.toNat f) (0 : Int))) (Int.toNat s.1.1) (0 : Int))) (0 : Int)) (List.getD c.2.2.1 (Int.toNat (List.getD (outR c (List.getD c.2.2.1 (Int.toNat f) (0 : Int))) (Int.toNat s.1.1) (0 : Int))) (0 : Int))) (Int.toNat s1.1.1) (0 : Int))) ∧ (((List.getD (homR c (List.getD c.2.1 (Int.toNat (List.getD (outR c (List.getD c.2.2.1 (Int.toNat f) (0 : Int))) (Int.toNat s.1.1) (0 : Int))) (0 : Int)) (List.getD c.2.2.1 (Int.toNat (List.getD (outR c (List.getD c.2.2.1 (Int.toNat f) (0 : Int))) (Int.toNat s.1.1) (0 : Int))) (0 : Int))) (Int.toNat s1.1.1) (0 : Int)) < (((List.length (List.getD c.2.2.2.2 (Int.toNat f) ([] : List Int))) : Nat) : Int)) ∧ (((((compR c f (List.getD (outR c (List.getD c.2.2.1 (Int.toNat f) (0 : Int))) (Int.toNat s.1.1) (0 : Int))) == (compR c f (List.getD (homR c (List.getD c.2.1 (Int.toNat (List.getD (outR c (List.getD c.2.2.1 (Int.toNat f) (0 : Int))) (Int.toNat s.1.1) (0 : Int))) (0 : Int)) (List.getD c.2.2.1 (Int.toNat (List.getD (outR c (List.getD c.2.2.1 (Int.toNat f) (0 : Int))) (Int.toNat s.1.1) (0 : Int))) (0 : Int))) (Int.toNat s1.1.1) (0 : Int)))) = Bool.true) → (((List.getD (outR c (List.getD c.2.2.1 (Int.toNat f) (0 : Int))) (Int.toNat s.1.1) (0 : Int)) < (((List.length c.2.1) : Nat) : Int)) ∧ ((0 : Int) ≤ (List.getD (outR c (List.getD c.2.2.1 (Int.toNat f) (0 : Int))) (Int.toNat s.1.1) (0 : Int))))) ∧ (((((compR c f (List.getD (outR c (List.getD c.2.2.1 (Int.toNat f) (0 : Int))) (Int.toNat s.1.1) (0 : Int))) == (compR c f (List.getD (homR c (List.getD c.2.1 (Int.toNat (List.getD (outR c (List.getD c.2.2.1 (Int.toNat f) (0 : Int))) (Int.toNat s.1.1) (0 : Int))) (0 : Int)) (List.getD c.2.2.1 (Int.toNat (List.getD (outR c (List.getD c.2.2.1 (Int.toNat f) (0 : Int))) (Int.toNat s.1.1) (0 : Int))) (0 : Int))) (Int.toNat s1.1.1) (0 : Int)))) = Bool.true) → ((f < (((List.length c.2.1) : Nat) : Int)) ∧ ((0 : Int) ≤ f))) ∧ (((((compR c f (List.getD (outR c (List.getD c.2.2.1 (Int.toNat f) (0 : Int))) (Int.toNat s.1.1) (0 : Int))) == (compR c f (List.getD (homR c (List.getD c.2.1 (Int.toNat (List.getD (outR c (List.getD c.2.2.1 (Int.toNat f) (0 : Int))) (Int.toNat s.1.1) (0 : Int))) (0 : Int)) (List.getD c.2.2.1 (Int.toNat (List.getD (outR c (List.getD c.2.2.1 (Int.toNat f) (0 : Int))) (Int.toNat s.1.1) (0 : Int))) (0 : Int))) (Int.toNat s1.1.1) (0 : Int)))) = Bool.true) → (((0 : Int) ≤ f) ∧ ((f < (((List.length c.2.1) : Nat) : Int)) ∧ (((0 : Int) ≤ f) ∧ ((f < (((List.length c.2.1) : Nat) : Int)) ∧ (EqP (c, ((List.getD c.2.1 (Int.toNat (List.getD (outR c (List.getD c.2.2.1 (Int.toNat f) (0 : Int))) (Int.toNat s.1.1) (0 : Int))) (0 : Int)), ((List.getD c.2.1 (Int.toNat (List.getD (outR c (List.getD c.2.2.1 (Int.toNat f) (0 : Int))) (Int.toNat s.1.1) (0 : Int))) (0 : Int)), ((c, ((List.getD (outR c (List.getD c.2.2.1 (Int.toNat f) (0 : Int))) (Int.toNat s.1.1) (0 : Int)), ((List.getD (homR c (List.getD c.2.1 (Int.toNat (List.getD (outR c (List.getD c.2.2.1 (Int.toNat f) (0 : Int))) (Int.toNat s.1.1) (0 : Int))) (0 : Int)) (List.getD c.2.2.1 (Int.toNat (List.getD (outR c (List.getD c.2.2.1 (Int.toNat f) (0 : Int))) (Int.toNat s.1.1) (0 : Int))) (0 : Int))) (Int.toNat s1.1.1) (0 : Int)), ()))), Bool.true)))))))))) ∧ (cnd (((compR c f (List.getD (outR c (List.getD c.2.2.1 (Int.toNat f) (0 : Int))) (Int.toNat s.1.1) (0 : Int))) == (compR c f (List.getD (homR c (List.getD c.2.1 (Int.toNat (List.getD (outR c (List.getD c.2.2.1 (Int.toNat f) (0 : Int))) (Int.toNat s.1.1) (0 : Int))) (0 : Int)) (List.getD c.2.2.1 (Int.toNat (List.getD (outR c (List.getD c.2.2.1 (Int.toNat f) (0 : Int))) (Int.toNat s.1.1) (0 : Int))) (0 : Int))) (Int.toNat s1.1.1) (0 : Int)))) && (univER c (List.getD c.2.1 (Int.toNat (List.getD (outR c (List.getD c.2.2.1 (Int.toNat f) (0 : Int))) (Int.toNat s.1.1) (0 : Int))) (0 : Int)) (List.getD (outR c (List.getD c.2.2.1 (Int.toNat f) (0 : Int))) (Int.toNat s.1.1) (0 : Int)) (List.getD (homR c (List.getD c.2.1 (Int.toNat (List.getD (outR c (List.getD c.2.2.1 (Int.toNat f) (0 : Int))) (Int.toNat s.1.1) (0 : Int))) (0 : Int)) (List.getD c.2.2.1 (Int.toNat (List.getD (outR c (List.getD c.2.2.1 (Int.toNat f) (0 : Int))) (Int.toNat s.1.1) (0 : Int))) (0 : Int))) (Int.toNat s1.1.1) (0 : Int)) (List.getD c.2.1 (Int.toNat f) (0 : Int)) f f)) (K (Bool.true, ())) ((inK IntKind.i64 (s1.1.1 + (1 : Int))) ∧ (next1 (((s1.1.1 + (1 : Int)), ()), ()))))))))))))))))) ((inK IntKind.i64 (s.1.1 + (1 : Int))) ∧ (next (((s.1.1 + (1 : Int)), ()), ()))))))) (((0 : Int), ()), ())))))))))) (K (Bool.false, ())))))) (((0 : Int), ()), ())))))
theorem w_impl_Category_isRegularMono (x : denL c_impl_Category_isRegularMono.args) (K : Bool × Unit → Prop) : evF tab (lkp [(90, c_impl_Category_equalizers), (88, c_impl_Category_hom), (87, c_impl_Category_outOf), (89, c_impl_Category_then), (91, c_impl_spans_isUniversal_eq)]) (cutL [(4, 518), (7, 24)]) Try.f54 (bodyOf Try.f54) (.s .n (.s (.s .n (.l [(19, (.d (.int .i64)))] [] [0, 1, 17, 18] (.s .n (.s .n (.s (.s .n (.s .n (.l [(40, (.d (.int .i64)))] [] [0, 1, 6, 17, 18, 19, 38, 39] .n))) .n))))) .n)) c_impl_Category_isRegularMono x K = W_impl_Category_isRegularMono x.1 x.2.1 K := by kernel_rfl
theorem k_impl_Category_isRegularMono : okC Try.f54.ntmps (cutL [(4, 518), (7, 24)]) (bodyOf Try.f54) = true := by kernel_rfl
theorem m_impl_Category_isRegularMono (c : CategoryD) (f : Int) (hok : allP (okL c_impl_Category_isRegularMono.args (c, f, ()))) (hpre : allP (c_impl_Category_isRegularMono.pre (c, f, ()))) : W_impl_Category_isRegularMono c f (fun r => r = c_impl_Category_isRegularMono.res (c, f, ())) := by
  simp only [c_impl_Category_isRegularMono, okL, T.oks, T.ok, ap, allP, true_and, and_true, implies_true] at hok hpre
  try dsimp only [T.den] at hok
  try dsimp only [T.den] at hpre
  unfold W_impl_Category_isRegularMono
  obtain ⟨S, f0, f1⟩ := hpre
  have hm := S.m
  have hlt := S.lt
  have hlc := S.lc
  have rf := S.row f f0 f1
  clear hok
  have hlo : (outR c (c.2.2.1.getD f.toNat 0)).length ≤ 40 := Nat.le_trans (sel_len _) hm
  have res : ∀ b, regR c f = b → (b, ()) = c_impl_Category_isRegularMono.res (c, f, ()) := fun b h => by simp only [c_impl_Category_isRegularMono, h]
  refine ⟨f0, by omega, hm, ?_⟩
  refine loop_any (outR c (c.2.2.1.getD f.toNat 0)) 0 (fun g => (homR c (c.2.1.getD g.toNat 0) (c.2.2.1.getD g.toNat 0)).any fun h => reg1R c f g h) ?_ ?_
  · intro i next i0 i1 hyes hno _
    have hg := sel_mem.1 (show (outR c (c.2.2.1.getD f.toNat 0)).getD i.toNat 0 ∈ selR c.2.1.length _ from getD_mem (outR c (c.2.2.1.getD f.toNat 0)) 0 i0 i1)
    try dsimp only at hyes hno ⊢
    generalize (outR c (c.2.2.1.getD f.toNat 0)).getD i.toNat 0 = g at *
    have hhl : (homR c (c.2.1.getD g.toNat 0) (c.2.2.1.getD g.toNat 0)).length ≤ 40 := Nat.le_trans (sel_len _) hm
    refine cnd_d (fun _ => ⟨i0, i1, hg.1, hg.2.1, hg.1, by omega, hm, hlt, ?_⟩) (fun h => absurd i1 h)
    refine loop_any (homR c (c.2.1.getD g.toNat 0) (c.2.2.1.getD g.toNat 0)) 0 (fun h => reg1R c f g h) ?_ ?_
    · intro j next1 j0 j1 hyes1 hno1 _
      have hh := hom_mem.1 (getD_mem (homR c (c.2.1.getD g.toNat 0) (c.2.2.1.getD g.toNat 0)) 0 j0 j1)
      try dsimp only at hyes1 hno1 ⊢
      generalize (homR c (c.2.1.getD g.toNat 0) (c.2.2.1.getD g.toNat 0)).getD j.toNat 0 = h at *
      refine cnd_d (fun _ => ⟨j0, j1, f0, by omega, hg.1, by omega, f0, by omega, hh.1, by omega, fun _ => ⟨hg.2.1, hg.1⟩, fun _ => ⟨f1, f0⟩, fun _ => ⟨f0, f1, f0, f1, ⟨S, rfl, rfl, hg.1, hg.2.1, hh.1, hh.2.1⟩⟩, cnd_of (fun hx => res _ ?_) (fun hx => ⟨by rw [inK64]; (try dsimp only); omega, hno1 hx⟩)⟩) (fun h => absurd j1 h)
      exact hyes (hyes1 hx)
    · intro next1 h1 _
      exact cnd_d (fun h => absurd h (Int.lt_irrefl _)) (fun _ => ⟨by rw [inK64]; (try dsimp only); omega, hno h1⟩)
  · intro next h1 _
    exact cnd_d (fun h => absurd h (Int.lt_irrefl _)) (fun _ => res _ h1)
theorem ct_impl_Category_isRegularMono : CtOk Try.prog 54 c_impl_Category_isRegularMono :=
  ct_by (Φ := lkp [(90, c_impl_Category_equalizers), (88, c_impl_Category_hom), (87, c_impl_Category_outOf), (89, c_impl_Category_then), (91, c_impl_spans_isUniversal_eq)]) (good_cons ct_impl_Category_equalizers (good_cons ct_impl_Category_hom (good_cons ct_impl_Category_outOf (good_cons ct_impl_Category_then (good_cons ct_impl_spans_isUniversal_eq good_nil))))) tab_ok (by kernel_rfl) (fn := Try.f54) (c := bodyOf Try.f54) (by kernel_rfl) (by kernel_rfl) (by kernel_rfl) c_impl_Category_isRegularMono rfl (.s .n (.s (.s .n (.l [(19, (.d (.int .i64)))] [] [0, 1, 17, 18] (.s .n (.s .n (.s (.s .n (.s .n (.l [(40, (.d (.int .i64)))] [] [0, 1, 6, 17, 18, 19, 38, 39] .n))) .n))))) .n)) (cutL [(4, 518), (7, 24)]) (by kernel_rfl) (by kernel_rfl) k_impl_Category_isRegularMono (by decide) (fun x K => W_impl_Category_isRegularMono x.1 x.2.1 K) w_impl_Category_isRegularMono (fun x h1 h2 => m_impl_Category_isRegularMono x.1 x.2.1 h1 h2)
def arrCodeR (c : CategoryD) (l : List Int) : Int := if catR c = true then (if withinR l c.2.1.length = true then 0 else 2) else 1
theorem arrCode_1 {c : CategoryD} {f : Int} (h : arrCodeR c [f] = 0) : ShapeP c ∧ 0 ≤ f ∧ f < c.2.1.length := by
  unfold arrCodeR at h
  split at h
  · rename_i hc
    split at h
    · rename_i hw
      simp only [withinR, List.all_cons, List.all_nil, inR, Bool.and_true, Bool.and_eq_true, decide_eq_true_eq] at hw
      exact ⟨cat_shape hc, hw.1, by omega⟩
    · omega
  · omega

def c_impl_arrowCode : Ct := ⟨[(.pt CategoryT), (.sl (.int .i64))], [false, false], fun x => [], [(false, (.fz (.int .i64)))], fun x => (arrCodeR x.1 x.2.1, ()), false, none⟩
def W_impl_arrowCode (c : CategoryD) (list : List Int) (K : Int × Unit → Prop) : Prop := (cnd (!(catR c)) (K ((1 : Int), ())) ((inK IntKind.i64 ((((List.length c.2.1) : Nat) : Int) - (1 : Int))) ∧ (cnd (!(withinR list (((List.length c.2.1) : Nat) : Int))) (K ((2 : Int), ())) (K ((0 : Int), ())))))
theorem w_impl_arrowCode (x : denL c_impl_arrowCode.args) (K : Int × Unit → Prop) : evF tab (lkp [(86, c_impl_Category_arrows), (60, c_impl_Category_isCategory), (85, c_impl_within)]) (cutL []) Try.f53 (bodyOf Try.f53) .n c_impl_arrowCode x K = W_impl_arrowCode x.1 x.2.1 K := by kernel_rfl
theorem k_impl_arrowCode : okC Try.f53.ntmps (cutL []) (bodyOf Try.f53) = true := by kernel_rfl
theorem m_impl_arrowCode (c : CategoryD) (list : List Int) (hok : allP (okL c_impl_arrowCode.args (c, list, ()))) (hpre : allP (c_impl_arrowCode.pre (c, list, ()))) : W_impl_arrowCode c list (fun r => r = c_impl_arrowCode.res (c, list, ())) := by
  simp only [c_impl_arrowCode, okL, T.oks, T.ok, ap, allP, true_and, and_true, implies_true] at hok hpre
  try dsimp only [T.den] at hok
  try dsimp only [T.den] at hpre
  unfold W_impl_arrowCode
  simp only [c_impl_arrowCode, arrCodeR]
  have h1 := fun h => (cat_shape (c := c) h).m
  grind [cnd, nb_eq, inK64]
theorem ct_impl_arrowCode : CtOk Try.prog 53 c_impl_arrowCode :=
  ct_by (Φ := lkp [(86, c_impl_Category_arrows), (60, c_impl_Category_isCategory), (85, c_impl_within)]) (good_cons ct_impl_Category_arrows (good_cons ct_impl_Category_isCategory (good_cons ct_impl_within good_nil))) tab_ok (by kernel_rfl) (fn := Try.f53) (c := bodyOf Try.f53) (by kernel_rfl) (by kernel_rfl) (by kernel_rfl) c_impl_arrowCode rfl .n (cutL []) (by kernel_rfl) (by kernel_rfl) k_impl_arrowCode (by decide) (fun x K => W_impl_arrowCode x.1 x.2.1 K) w_impl_arrowCode (fun x h1 h2 => m_impl_arrowCode x.1 x.2.1 h1 h2)
def c_impl_clone : Ct := ⟨[(.sl (.int .i64))], [false], fun x => [x.1.length ≤ 1099511627776], [(false, (.sl (.fz (.int .i64))))], fun x => (x.1, ()), false, none⟩
def W_impl_clone (list : List Int) (K : (List Int) × Unit → Prop) : Prop := ((room 0 (List.length list) 8) ∧ (K (list, ())))
theorem w_impl_clone (x : denL c_impl_clone.args) (K : (List Int) × Unit → Prop) : evF tab (lkp []) (cutL []) Try.f93 (bodyOf Try.f93) .n c_impl_clone x K = W_impl_clone x.1 K := by kernel_rfl
theorem k_impl_clone : okC Try.f93.ntmps (cutL []) (bodyOf Try.f93) = true := by kernel_rfl
theorem m_impl_clone (list : List Int) (hok : allP (okL c_impl_clone.args (list, ()))) (hpre : allP (c_impl_clone.pre (list, ()))) : W_impl_clone list (fun r => r = c_impl_clone.res (list, ())) := by
  simp only [c_impl_clone, okL, T.oks, T.ok, ap, allP, true_and, and_true, implies_true] at hok hpre
  try dsimp only [T.den] at hok
  try dsimp only [T.den] at hpre
  unfold W_impl_clone
  have hl : list.length ≤ 1099511627776 := hpre
  exact ⟨room_of (by omega), rfl⟩
theorem ct_impl_clone : CtOk Try.prog 93 c_impl_clone :=
  ct_by (Φ := lkp []) good_nil tab_ok (by kernel_rfl) (fn := Try.f93) (c := bodyOf Try.f93) (by kernel_rfl) (by kernel_rfl) (by kernel_rfl) c_impl_clone rfl .n (cutL []) (by kernel_rfl) (by kernel_rfl) k_impl_clone (by decide) (fun x K => W_impl_clone x.1 K) w_impl_clone (fun x h1 h2 => m_impl_clone x.1 h1 h2)
def c_impl_opposite_1 : Ct := ⟨[(.int .i64), (.int .i64), (.pt (.pt CategoryT))], [false, false, false], fun x => [ShapeP x.2.2.1, 0 ≤ x.1, x.1 < x.2.2.1.2.1.length, 0 ≤ x.2.1, x.2.1 < x.2.2.1.2.1.length], [(false, (.fz (.int .i64)))], fun x => (compR x.2.2.1 x.2.1 x.1, ()), false, none⟩
def W_impl_opposite_1 (f : Int) (g : Int) (c : CategoryD) (K : Int × Unit → Prop) : Prop := (((0 : Int) ≤ g) ∧ ((g < (((List.length c.2.2.2.2) : Nat) : Int)) ∧ (((0 : Int) ≤ f) ∧ ((f < (((List.length (List.getD c.2.2.2.2 (Int.toNat g) ([] : List Int))) : Nat) : Int)) ∧ (K ((compR c g f), ()))))))
theorem w_impl_opposite_1 (x : denL c_impl_opposite_1.args) (K : Int × Unit → Prop) : evF tab (lkp [(89, c_impl_Category_then)]) (cutL []) Try.f95 (bodyOf Try.f95) .n c_impl_opposite_1 x K = W_impl_opposite_1 x.1 x.2.1 x.2.2.1 K := by kernel_rfl
theorem k_impl_opposite_1 : okC Try.f95.ntmps (cutL []) (bodyOf Try.f95) = true := by kernel_rfl
theorem m_impl_opposite_1 (f : Int) (g : Int) (c : CategoryD) (hok : allP (okL c_impl_opposite_1.args (f, g, c, ()))) (hpre : allP (c_impl_opposite_1.pre (f, g, c, ()))) : W_impl_opposite_1 f g c (fun r => r = c_impl_opposite_1.res (f, g, c, ())) := by
  simp only [c_impl_opposite_1, okL, T.oks, T.ok, ap, allP, true_and, and_true, implies_true] at hok hpre
  try dsimp only [T.den] at hok
  try dsimp only [T.den] at hpre
  unfold W_impl_opposite_1
  obtain ⟨S, f0, f1, g0, g1⟩ := hpre
  have rg := S.row g g0 g1
  have hlc := S.lc
  exact ⟨g0, by omega, f0, by omega, rfl⟩
theorem ct_impl_opposite_1 : CtOk Try.prog 95 c_impl_opposite_1 :=
  ct_by (Φ := lkp [(89, c_impl_Category_then)]) (good_cons ct_impl_Category_then good_nil) tab_ok (by kernel_rfl) (fn := Try.f95) (c := bodyOf Try.f95) (by kernel_rfl) (by kernel_rfl) (by kernel_rfl) c_impl_opposite_1 rfl .n (cutL []) (by kernel_rfl) (by kernel_rfl) k_impl_opposite_1 (by decide) (fun x K => W_impl_opposite_1 x.1 x.2.1 x.2.2.1 K) w_impl_opposite_1 (fun x h1 h2 => m_impl_opposite_1 x.1 x.2.1 x.2.2.1 h1 h2)
def renFR (a : List Int) (c : CategoryD) (b : List Int) (f g : Int) : Int := a.getD (compR c (b.getD f.toNat 0) (b.getD g.toNat 0)).toNat 0

structure TabRP (o : CategoryD) (a : List Int) (c : CategoryD) (b : List Int) : Prop where
  sh : ShapeP c
  lb : b.length = c.2.1.length
  wb : withinR b c.2.1.length = true
  la : a.length = c.2.1.length
  lo : o.2.1.length = c.2.1.length
  lt : o.2.2.1.length = c.2.1.length
  co : ∀ f g : Int, 0 ≤ f → f < c.2.1.length → 0 ≤ g → g < c.2.1.length → o.2.2.1.getD f.toNat 0 = o.2.1.getD g.toNat 0 → c.2.2.1.getD (b.getD f.toNat 0).toNat 0 = c.2.1.getD (b.getD g.toNat 0).toNat 0
def tabFR (o : CategoryD) (F : Int → Int → Int) (f g : Int) : Int := if o.2.2.1.getD f.toNat 0 = o.2.1.getD g.toNat 0 then F f g else -1
def tableR (o : CategoryD) (F : Int → Int → Int) : List (List Int) := tabN o.2.1.length fun f => tabN o.2.1.length fun g => tabFR o F f g
def tbT (F : Int → Int → Int) (n : Nat) (i j : Int) : List (List Int) := tabN n fun e => if e = i then (tabN n fun g => if g < j then F i g else 0) else if e < i then tabN n (F e) else []
theorem tbT_len {F : Int → Int → Int} {n : Nat} {i j : Int} : (tbT F n i j).length = n := tabN_len _
theorem tbT_row {F : Int → Int → Int} {n : Nat} {i j : Int} (i0 : 0 ≤ i) (i1 : i < n) : (tbT F n i j).getD i.toNat [] = tabN n fun g => if g < j then F i g else 0 := by
  unfold tbT; rw [tabN_get i0 i1, if_pos rfl]
theorem tbT_s {F : Int → Int → Int} {n : Nat} {i j : Int} (i0 : 0 ≤ i) (i1 : i < n) (j0 : 0 ≤ j) (j1 : j < n) : (tbT F n i j).set i.toNat (((tbT F n i j).getD i.toNat []).set j.toNat (F i j)) = tbT F n i (j + 1) := by
  rw [tbT_row i0 i1, tab_set j0 j1]
  unfold tbT
  rw [tab_set i0 i1]
  refine tabN_congr fun e _ _ => ?_
  by_cases h : e = i
  · rw [if_pos h, if_pos h]
    refine tabN_congr fun g _ _ => ?_
    by_cases hg : g = j
    · rw [if_pos hg, if_pos (by omega), hg]
    · rw [if_neg hg]
      by_cases h2 : g < j
      · rw [if_pos h2, if_pos (by omega)]
      · rw [if_neg h2, if_neg (by omega)]
  · rw [if_neg h, if_neg h, if_neg h]
theorem set_twice {A : List (List Int)} {i j : Nat} {w v : Int} (h : i < A.length) : (A.set i ((A.getD i []).set j w)).set i (((A.set i ((A.getD i []).set j w)).getD i []).set j v) = A.set i ((A.getD i []).set j v) := by
  rw [set_getD _ _ _ _ _ h, if_pos rfl, List.set_set, List.set_set]
theorem tbT_0 {F : Int → Int → Int} {n : Nat} {i : Int} (i0 : 0 ≤ i) (i1 : i < n) : (tabN n fun e => if e < i then tabN n (F e) else []).set i.toNat (tabN n fun _ => 0) = tbT F n i 0 := by
  rw [tab_set i0 i1]
  unfold tbT
  refine tabN_congr fun e _ _ => ?_
  by_cases h : e = i
  · rw [if_pos h, if_pos h]; exact tabN_congr fun g g0 _ => by rw [if_neg (by omega)]
  · rw [if_neg h, if_neg h]
theorem tbT_n {F : Int → Int → Int} {n : Nat} {i : Int} : tbT F n i n = tabN n fun e => if e < i + 1 then tabN n (F e) else [] := by
  unfold tbT
  refine tabN_congr fun e _ _ => ?_
  by_cases h : e = i
  · rw [if_pos h, if_pos (by omega), h]; exact tabN_congr fun g _ g1 => by rw [if_pos g1]
  · rw [if_neg h]
    by_cases h2 : e < i
    · rw [if_pos h2, if_pos (by omega)]
    · rw [if_neg h2, if_neg (by omega)]

def opFR (d : CategoryD) (f g : Int) : Int := compR d g f

def w0_impl_Category_table_op : Wt := ⟨(.pt CategoryO), [(.fn 95 (.p (.pt (.pt CategoryT)) .u))], [false], fun x y => [ShapeP y.1.1, x.2.1.length = y.1.1.2.1.length, x.2.2.1.length = y.1.1.2.1.length], fun x y => (x.1, x.2.1, x.2.2.1, x.2.2.2.1, tableR x (opFR y.1.1)), [], fun x y => (())⟩
def c_impl_Category_table_op : Ct := wtCt w0_impl_Category_table_op
def W_impl_Category_table_op (c : CategoryD) (composite : CategoryD × Unit) (K : CategoryD → (Unit) → Prop) : Prop := (((0 : Int) ≤ (((List.length c.2.1) : Nat) : Int)) ∧ (((((List.length c.2.1) : Nat) : Int) ≤ (((List.length c.2.1) : Nat) : Int)) ∧ (((((List.length c.2.1) : Nat) : Int) ≤ ((140737488355328 : Nat) : Int)) ∧ ((((((List.length c.2.1) : Nat) : Int) * ((24 : Nat) : Int)) ≤ ((140737488355328 : Nat) : Int)) ∧ (loopW (S := ((Unit × (Int × Unit)) × ((Int × ((List Int) × ((List Int) × ((List Int) × (List (List Int)))))) × Unit))) (fun s => (fun next => ((inK IntKind.i64 s.1.2.1) → ((inK IntKind.i64 s.2.1.1) → ((T.ok (T.sl (T.int IntKind.i64)) s.2.1.2.1) → ((T.ok (T.sl (T.int IntKind.i64)) s.2.1.2.2.1) → ((T.ok (T.sl (T.int IntKind.i64)) s.2.1.2.2.2.1) → ((T.ok (T.sl (T.sl (T.int IntKind.i64))) s.2.1.2.2.2.2) → (cnd (decide (s.1.2.1 < (((List.length (List.replicate (Int.toNat (((List.length c.2.1) : Nat) : Int)) ([] : List Int))) : Nat) : Int))) (((0 : Int) ≤ (((List.length c.2.1) : Nat) : Int)) ∧ (((((List.length c.2.1) : Nat) : Int) ≤ (((List.length c.2.1) : Nat) : Int)) ∧ (((((List.length c.2.1) : Nat) : Int) ≤ ((140737488355328 : Nat) : Int)) ∧ ((((((List.length c.2.1) : Nat) : Int) * ((8 : Nat) : Int)) ≤ ((140737488355328 : Nat) : Int)) ∧ (((0 : Int) ≤ s.1.2.1) ∧ ((s.1.2.1 < (((List.length s.2.1.2.2.2.2) : Nat) : Int)) ∧ (((0 : Int) ≤ s.1.2.1) ∧ ((s.1.2.1 < (((List.length (List.set s.2.1.2.2.2.2 (Int.toNat s.1.2.1) (List.replicate (Int.toNat (((List.length c.2.1) : Nat) : Int)) (0 : Int)))) : Nat) : Int)) ∧ (loopW (S := ((Unit × (Int × Unit)) × ((Int × ((List Int) × ((List Int) × ((List Int) × (List (List Int)))))) × Unit))) (fun s1 => (fun next1 => ((inK IntKind.i64 s1.1.2.1) → ((inK IntKind.i64 s1.2.1.1) → ((T.ok (T.sl (T.int IntKind.i64)) s1.2.1.2.1) → ((T.ok (T.sl (T.int IntKind.i64)) s1.2.1.2.2.1) → ((T.ok (T.sl (T.int IntKind.i64)) s1.2.1.2.2.2.1) → ((T.ok (T.sl (T.sl (T.int IntKind.i64))) s1.2.1.2.2.2.2) → (cnd (decide (s1.1.2.1 < (((List.length (List.getD (List.set s.2.1.2.2.2.2 (Int.toNat s.1.2.1) (List.replicate (Int.toNat (((List.length c.2.1) : Nat) : Int)) (0 : Int))) (Int.toNat s.1.2.1) ([] : List Int))) : Nat) : Int))) (((0 : Int) ≤ s.1.2.1) ∧ ((s.1.2.1 < (((List.length s1.2.1.2.2.2.2) : Nat) : Int)) ∧ (((0 : Int) ≤ s1.1.2.1) ∧ ((s1.1.2.1 < (((List.length (List.getD s1.2.1.2.2.2.2 (Int.toNat s.1.2.1) ([] : List Int))) : Nat) : Int)) ∧ (((0 : Int) ≤ s.1.2.1) ∧ ((s.1.2.1 < (((List.length s1.2.1.2.2.1) : Nat) : Int)) ∧ (((0 : Int) ≤ s1.1.2.1) ∧ ((s1.1.2.1 < (((List.length s1.2.1.2.1) : Nat) : Int)) ∧ (joinW (S := ((Unit × Unit) × ((Int × ((List Int) × ((List Int) × ((List Int) × (List (List Int)))))) × Unit))) (fun s2 => ((inK IntKind.i64 s2.2.1.1) → ((T.ok (T.sl (T.int IntKind.i64)) s2.2.1.2.1) → ((T.ok (T.sl (T.int IntKind.i64)) s2.2.1.2.2.1) → ((T.ok (T.sl (T.int IntKind.i64)) s2.2.1.2.2.2.1) → ((T.ok (T.sl (T.sl (T.int IntKind.i64))) s2.2.1.2.2.2.2) → ((inK IntKind.i64 (s1.1.2.1 + (1 : Int))) ∧ (next1 (((), ((s1.1.2.1 + (1 : Int)), ())), (s2.2.1, ())))))))))) (fun k => (cnd ((List.getD s1.2.1.2.2.1 (Int.toNat s.1.2.1) (0 : Int)) == (List.getD s1.2.1.2.1 (Int.toNat s1.1.2.1) (0 : Int))) (((0 : Int) ≤ s.1.2.1) ∧ ((s.1.2.1 < (((List.length (List.set s1.2.1.2.2.2.2 (Int.toNat s.1.2.1) (List.set (List.getD s1.2.1.2.2.2.2 (Int.toNat s.1.2.1) ([] : List Int)) (Int.toNat s1.1.2.1) (-(1 : Int))))) : Nat) : Int)) ∧ ((ShapeP composite.1) ∧ (((0 : Int) ≤ s.1.2.1) ∧ ((s.1.2.1 < (((List.length composite.1.2.1) : Nat) : Int)) ∧ (((0 : Int) ≤ s1.1.2.1) ∧ ((s1.1.2.1 < (((List.length composite.1.2.1) : Nat) : Int)) ∧ (((0 : Int) ≤ s1.1.2.1) ∧ ((s1.1.2.1 < (((List.length (List.getD (List.set s1.2.1.2.2.2.2 (Int.toNat s.1.2.1) (List.set (List.getD s1.2.1.2.2.2.2 (Int.toNat s.1.2.1) ([] : List Int)) (Int.toNat s1.1.2.1) (-(1 : Int)))) (Int.toNat s.1.2.1) ([] : List Int))) : Nat) : Int)) ∧ (k (((), ()), ((s1.2.1.1, (s1.2.1.2.1, (s1.2.1.2.2.1, (s1.2.1.2.2.2.1, (List.set (List.set s1.2.1.2.2.2.2 (Int.toNat s.1.2.1) (List.set (List.getD s1.2.1.2.2.2.2 (Int.toNat s.1.2.1) ([] : List Int)) (Int.toNat s1.1.2.1) (-(1 : Int)))) (Int.toNat s.1.2.1) (List.set (List.getD (List.set s1.2.1.2.2.2.2 (Int.toNat s.1.2.1) (List.set (List.getD s1.2.1.2.2.2.2 (Int.toNat s.1.2.1) ([] : List Int)) (Int.toNat s1.1.2.1) (-(1 : Int)))) (Int.toNat s.1.2.1) ([] : List Int)) (Int.toNat s1.1.2.1) (compR composite.1 s1.1.2.1 s.1.2.1))))))), ())))))))))))) (k (((), ()), ((s1.2.1.1, (s1.2.1.2.1, (s1.2.1.2.2.1, (s1.2.1.2.2.2.1, (List.set s1.2.1.2.2.2.2 (Int.toNat s.1.2.1) (List.set (List.getD s1.2.1.2.2.2.2 (Int.toNat s.1.2.1) ([] : List Int)) (Int.toNat s1.1.2.1) (-(1 : Int)))))))), ())))))))))))))) ((inK IntKind.i64 (s.1.2.1 + (1 : Int))) ∧ (next (((), ((s.1.2.1 + (1 : Int)), ())), (s1.2.1, ()))))))))))))) (((), ((0 : Int), ())), ((s.2.1.1, (s.2.1.2.1, (s.2.1.2.2.1, (s.2.1.2.2.2.1, (List.set s.2.1.2.2.2.2 (Int.toNat s.1.2.1) (List.replicate (Int.toNat (((List.length c.2.1) : Nat) : Int)) (0 : Int))))))), ()))))))))))) (K s.2.1 ())))))))))) (((), ((0 : Int), ())), ((c.1, (c.2.1, (c.2.2.1, (c.2.2.2.1, (List.replicate (Int.toNat (((List.length c.2.1) : Nat) : Int)) ([] : List Int)))))), ())))))))
theorem w_impl_Category_table_op (x : w0_impl_Category_table_op.o.strip.den) (y : denL w0_impl_Category_table_op.as) (K : CategoryD → (Unit) → Prop) : evFw tab (lkp [(86, c_impl_Category_arrows), (95, c_impl_opposite_1)]) (cutL [(5, 507), (10, 14), (11, 12)]) Try.f94 (bodyOf Try.f94) (.s .n (.s .n (.s .n (.l [(0, (.ad 1000000 [.de])), (19, (.d (.int .i64)))] [(1000000, (.pt (.p (.fz (.int .i64)) (.p (.sl (.fz (.int .i64))) (.p (.sl (.fz (.int .i64))) (.p (.sl (.fz (.int .i64))) (.sl (.sl (.fz (.int .i64))))))))))] [1, 4, 18] (.s .n (.s .n (.s (.s .n (.s .n (.s .n (.l [(0, (.ad 1000000 [.de])), (38, (.d (.int .i64)))] [(1000000, (.pt (.p (.fz (.int .i64)) (.p (.sl (.fz (.int .i64))) (.p (.sl (.fz (.int .i64))) (.p (.sl (.fz (.int .i64))) (.sl (.sl (.fz (.int .i64))))))))))] [1, 4, 5, 18, 19, 37] (.s .n (.s .n (.s (.s .n (.s .n (.s .n (.j [(0, (.ad 1000000 [.de]))] [(1000000, (.pt (.p (.fz (.int .i64)) (.p (.sl (.fz (.int .i64))) (.p (.sl (.fz (.int .i64))) (.p (.sl (.fz (.int .i64))) (.sl (.sl (.fz (.int .i64))))))))))] [1, 4, 5, 18, 19, 37, 38] .n)))) .n))))))) .n))))))) w0_impl_Category_table_op x y K = W_impl_Category_table_op x y.1 K := by kernel_rfl
theorem k_impl_Category_table_op : okC Try.f94.ntmps (cutL [(5, 507), (10, 14), (11, 12)]) (bodyOf Try.f94) = true := by kernel_rfl
theorem m_impl_Category_table_op (c : CategoryD) (composite : CategoryD × Unit) (hok : allP (w0_impl_Category_table_op.o.strip.oks c)) (hok2 : allP (okL w0_impl_Category_table_op.as (composite, ()))) (hpre : allP (w0_impl_Category_table_op.pre c (composite, ()))) : W_impl_Category_table_op c composite (fun z r => z = w0_impl_Category_table_op.new c (composite, ()) ∧ r = w0_impl_Category_table_op.res c (composite, ())) := by
  simp only [w0_impl_Category_table_op, O.strip, okL, T.oks, T.ok, ap, allP, true_and, and_true, implies_true] at hok hok2 hpre
  try dsimp only [T.den] at hok
  try dsimp only [T.den] at hok2
  try dsimp only [T.den] at hpre
  unfold W_impl_Category_table_op
  obtain ⟨d, u⟩ := composite
  obtain ⟨S, hlo, hlt⟩ := hpre
  try dsimp only at S hlo hlt
  have hmm := S.m
  have hnew : ∀ z, z = tableR c (opFR d) → (c.1, c.2.1, c.2.2.1, c.2.2.2.1, z) = (c.1, c.2.1, c.2.2.1, c.2.2.2.1, tableR c (opFR d)) := fun z h => by rw [h]
  clear hok
  try dsimp only
  have hR : tableR c (opFR d) = tabN c.2.1.length fun e => tabN c.2.1.length (tabFR c (opFR d) e) := rfl
  refine ⟨by omega, by omega, by omega, by omega, ?_⟩
  simp only [Int.toNat_natCast, tab_rep, tabN_len]
  generalize hn : c.2.1.length = n at *
  generalize hF : tabFR c (opFR d) = F at *
  refine loop_ixa (fun i => (c.1, c.2.1, c.2.2.1, c.2.2.2.1, tabN n fun e => if e < i then tabN n (F e) else [])) (n := n) (by omega) (congrArg (fun z => (c.1, c.2.1, c.2.2.1, c.2.2.2.1, z)) (tabN_congr fun e h0 _ => by rw [if_neg (by omega)])) ?_ ?_
  · intro i next i0 i1 hnx _ _ _ _ _ _
    try dsimp only
    refine cnd_d (fun _ => ⟨by omega, by omega, by omega, by omega, i0, by rw [tabN_len]; exact i1, i0, by rw [List.length_set, tabN_len]; exact i1, ?_⟩) (fun h => absurd i1 h)
    rw [tbT_0 i0 i1, tbT_row i0 i1, tabN_len]
    refine loop_ixa (fun j => (c.1, c.2.1, c.2.2.1, c.2.2.2.1, tbT F n i j)) (n := n) (by omega) rfl ?_ ?_
    · intro j next2 j0 j1 hn2 _ _ _ _ _ _
      try dsimp only
      have hr : ((tbT F n i j).getD i.toNat []).length = n := by rw [tbT_row i0 i1, tabN_len]
      have hA : i.toNat < (tbT F n i j).length := by rw [tbT_len]; omega
      have hs2 := @set_twice (tbT F n i j) i.toNat j.toNat (-1) (F i j) hA
      have hs1 := @tbT_s F n i j i0 i1 j0 j1
      have hrow : (((tbT F n i j).set i.toNat (((tbT F n i j).getD i.toNat []).set j.toNat (-1))).getD i.toNat []).length = n := by rw [set_getD _ _ _ _ _ hA, if_pos rfl, List.length_set, hr]
      refine cnd_d (fun _ => ⟨i0, by rw [tbT_len]; exact i1, j0, by rw [hr]; exact j1, i0, by omega, j0, by omega, ?_⟩) (fun h => absurd j1 h)
      refine join_of (fun s2 => s2.2.1 = (c.1, c.2.1, c.2.2.1, c.2.2.2.1, tbT F n i (j + 1))) (fun s2 hs _ _ _ _ _ => ⟨by rw [inK64]; (try dsimp only); omega, by rw [hs]; exact hn2⟩) (fun k hk => cnd_of (fun he => ?_) (fun he => hk _ ?_))
      · rw [beq_iff_eq] at he
        have hv : compR d j i = F i j := by rw [← hF]; unfold tabFR; rw [if_pos he]; rfl
        refine ⟨i0, by rw [List.length_set, tbT_len]; exact i1, S, i0, by omega, j0, by omega, j0, by rw [hrow]; exact j1, hk _ ?_⟩
        try dsimp only
        rw [hv, hs2, hs1]
      · have hv : F i j = -1 := by rw [← hF]; unfold tabFR; rw [if_neg (by intro h; rw [h] at he; simp at he)]
        try dsimp only
        rw [← hv, hs1]
    · intro next2 _ _ _ _ _ _
      try dsimp only
      refine cnd_d (fun h => absurd h (Int.lt_irrefl _)) (fun _ => ⟨by rw [inK64]; (try dsimp only); omega, ?_⟩)
      rw [tbT_n]; exact hnx
  · intro next _ _ _ _ _ _
    try dsimp only
    refine cnd_d (fun h => absurd h (Int.lt_irrefl _)) (fun _ => ⟨hnew _ ?_, rfl⟩)
    rw [hR]; exact tabN_congr fun e _ e1 => by rw [if_pos e1]
theorem ct_impl_Category_table_op : CtOk Try.prog 94 c_impl_Category_table_op :=
  wt_of (Φ := lkp [(86, c_impl_Category_arrows), (95, c_impl_opposite_1)]) (good_cons ct_impl_Category_arrows (good_cons ct_impl_opposite_1 good_nil)) tab_ok (by kernel_rfl) (fn := Try.f94) (c := bodyOf Try.f94) (by kernel_rfl) (by kernel_rfl) (by kernel_rfl) w0_impl_Category_table_op (.s .n (.s .n (.s .n (.l [(0, (.ad 1000000 [.de])), (19, (.d (.int .i64)))] [(1000000, (.pt (.p (.fz (.int .i64)) (.p (.sl (.fz (.int .i64))) (.p (.sl (.fz (.int .i64))) (.p (.sl (.fz (.int .i64))) (.sl (.sl (.fz (.int .i64))))))))))] [1, 4, 18] (.s .n (.s .n (.s (.s .n (.s .n (.s .n (.l [(0, (.ad 1000000 [.de])), (38, (.d (.int .i64)))] [(1000000, (.pt (.p (.fz (.int .i64)) (.p (.sl (.fz (.int .i64))) (.p (.sl (.fz (.int .i64))) (.p (.sl (.fz (.int .i64))) (.sl (.sl (.fz (.int .i64))))))))))] [1, 4, 5, 18, 19, 37] (.s .n (.s .n (.s (.s .n (.s .n (.s .n (.j [(0, (.ad 1000000 [.de]))] [(1000000, (.pt (.p (.fz (.int .i64)) (.p (.sl (.fz (.int .i64))) (.p (.sl (.fz (.int .i64))) (.p (.sl (.fz (.int .i64))) (.sl (.sl (.fz (.int .i64))))))))))] [1, 4, 5, 18, 19, 37, 38] .n)))) .n))))))) .n))))))) (cutL [(5, 507), (10, 14), (11, 12)]) (by kernel_rfl) (by kernel_rfl) k_impl_Category_table_op (by decide) (by kernel_rfl) (fun x y h1 h2 h3 => (w_impl_Category_table_op x y _).mpr (m_impl_Category_table_op x y.1 h1 h2 h3))
def c_spec_l01Own : Ct := ⟨[(.sl (.int .i64))], [false], fun x => [x.1.length ≤ 1099511627776], [(false, (.sl (.fz (.int .i64))))], fun x => (x.1, ()), false, none⟩
def W_spec_l01Own (list : List Int) (K : (List Int) × Unit → Prop) : Prop := ((room 0 (List.length list) 8) ∧ (K (list, ())))
theorem w_spec_l01Own (x : denL c_spec_l01Own.args) (K : (List Int) × Unit → Prop) : evF tab (lkp []) (cutL []) Try.f92 (bodyOf Try.f92) .n c_spec_l01Own x K = W_spec_l01Own x.1 K := by kernel_rfl
theorem k_spec_l01Own : okC Try.f92.ntmps (cutL []) (bodyOf Try.f92) = true := by kernel_rfl
theorem m_spec_l01Own (list : List Int) (hok : allP (okL c_spec_l01Own.args (list, ()))) (hpre : allP (c_spec_l01Own.pre (list, ()))) : W_spec_l01Own list (fun r => r = c_spec_l01Own.res (list, ())) := by
  simp only [c_spec_l01Own, okL, T.oks, T.ok, ap, allP, true_and, and_true, implies_true] at hok hpre
  try dsimp only [T.den] at hok
  try dsimp only [T.den] at hpre
  unfold W_spec_l01Own
  have hl : list.length ≤ 1099511627776 := hpre
  exact ⟨room_of (by omega), rfl⟩
theorem ct_spec_l01Own : CtOk Try.prog 92 c_spec_l01Own :=
  ct_by (Φ := lkp []) good_nil tab_ok (by kernel_rfl) (fn := Try.f92) (c := bodyOf Try.f92) (by kernel_rfl) (by kernel_rfl) (by kernel_rfl) c_spec_l01Own rfl .n (cutL []) (by kernel_rfl) (by kernel_rfl) k_spec_l01Own (by decide) (fun x K => W_spec_l01Own x.1 K) w_spec_l01Own (fun x h1 h2 => m_spec_l01Own x.1 h1 h2)
def opR (c : CategoryD) : CategoryD := (c.1, c.2.2.1, c.2.1, c.2.2.2.1, (tabN c.2.1.length fun f => tabN c.2.1.length fun g => compR c g f))
theorem op_at {c : CategoryD} {f g : Int} (f0 : 0 ≤ f) (f1 : f < c.2.1.length) (g0 : 0 ≤ g) (g1 : g < c.2.1.length) : compR (opR c) f g = compR c g f := by
  show ((tabN c.2.1.length fun f => tabN c.2.1.length fun g => compR c g f).getD f.toNat []).getD g.toNat 0 = _
  rw [tabN_get f0 f1, tabN_get g0 g1]
theorem op_shape {c : CategoryD} (S : ShapeP c) : ShapeP (opR c) := by
  have hlt := S.lt
  have hlc := S.lc
  refine ⟨S.ob, by show c.2.2.1.length ≤ 40; rw [hlt]; exact S.m, hlt.symm, S.to, S.fr, S.li, ?_, ?_, fun x a b => ⟨(S.idt x a b).2, (S.idt x a b).1⟩, ?_, ?_⟩
  · show withinR c.2.2.2.1 c.2.2.1.length = true; rw [hlt]; exact S.ids
  · show (tabN c.2.1.length _).length = c.2.2.1.length; rw [tabN_len, hlt]
  · intro f f0 f1
    have f1' : f < c.2.1.length := by rw [← hlt]; exact f1
    show ((tabN c.2.1.length fun f => tabN c.2.1.length fun g => compR c g f).getD f.toNat []).length = c.2.2.1.length
    rw [tabN_get f0 f1', tabN_len, hlt]
  · intro f g f0 f1 g0 g1
    have f1' : f < c.2.1.length := by rw [← hlt]; exact f1
    have g1' : g < c.2.1.length := by rw [← hlt]; exact g1
    unfold cellR cellQ
    rw [op_at f0 f1' g0 g1']
    show (if c.2.1.getD f.toNat 0 = c.2.2.1.getD g.toNat 0 then decide (0 ≤ compR c g f ∧ compR c g f < c.2.2.1.length ∧ c.2.2.1.getD (compR c g f).toNat 0 = c.2.2.1.getD f.toNat 0 ∧ c.2.1.getD (compR c g f).toNat 0 = c.2.1.getD g.toNat 0) else decide (compR c g f = -1)) = true
    split
    · rename_i h
      have := S.yes g0 g1' f0 f1' h.symm
      rw [decide_eq_true_eq, hlt]
      exact ⟨this.1, this.2.1, this.2.2.2, this.2.2.1⟩
    · rename_i h
      rw [decide_eq_true_eq]
      exact S.no g0 g1' f0 f1' fun e => h e.symm

def c_spec_l03Op : Ct := ⟨[CategoryT], [true], fun x => [ShapeP x.1], [(true, CategoryO)], fun x => (opR x.1, ()), false, none⟩
def W_spec_l03Op (c : CategoryD) (K : CategoryD × Unit → Prop) : Prop := (((List.length c.2.2.1) ≤ 1099511627776) ∧ (((List.length c.2.1) ≤ 1099511627776) ∧ (((List.length c.2.2.2.1) ≤ 1099511627776) ∧ (loopW (S := ((Unit × (Unit × (Int × Unit))) × ((Int × ((List Int) × ((List Int) × ((List Int) × (List (List Int)))))) × ((Int × ((List Int) × ((List Int) × ((List Int) × (List (List Int)))))) × Unit)))) (fun s => (fun next => ((inK IntKind.i64 s.1.2.2.1) → ((inK IntKind.i64 s.2.1.1) → ((T.ok (T.sl (T.int IntKind.i64)) s.2.1.2.1) → ((T.ok (T.sl (T.int IntKind.i64)) s.2.1.2.2.1) → ((T.ok (T.sl (T.int IntKind.i64)) s.2.1.2.2.2.1) → ((T.ok (T.sl (T.sl (T.int IntKind.i64))) s.2.1.2.2.2.2) → ((inK IntKind.i64 s.2.2.1.1) → ((T.ok (T.sl (T.int IntKind.i64)) s.2.2.1.2.1) → ((T.ok (T.sl (T.int IntKind.i64)) s.2.2.1.2.2.1) → ((T.ok (T.sl (T.int IntKind.i64)) s.2.2.1.2.2.2.1) → ((T.ok (T.sl (T.sl (T.int IntKind.i64))) s.2.2.1.2.2.2.2) → (cnd (decide (s.1.2.2.1 < (((List.length c.2.1) : Nat) : Int))) (loopW (S := ((Unit × (Unit × (Unit × (Int × Unit)))) × ((Int × ((List Int) × ((List Int) × ((List Int) × (List (List Int)))))) × ((Int × ((List Int) × ((List Int) × ((List Int) × (List (List Int)))))) × ((List Int) × Unit))))) (fun s1 => (fun next1 => ((inK IntKind.i64 s1.1.2.2.2.1) → ((inK IntKind.i64 s1.2.1.1) → ((T.ok (T.sl (T.int IntKind.i64)) s1.2.1.2.1) → ((T.ok (T.sl (T.int IntKind.i64)) s1.2.1.2.2.1) → ((T.ok (T.sl (T.int IntKind.i64)) s1.2.1.2.2.2.1) → ((T.ok (T.sl (T.sl (T.int IntKind.i64))) s1.2.1.2.2.2.2) → ((inK IntKind.i64 s1.2.2.1.1) → ((T.ok (T.sl (T.int IntKind.i64)) s1.2.2.1.2.1) → ((T.ok (T.sl (T.int IntKind.i64)) s1.2.2.1.2.2.1) → ((T.ok (T.sl (T.int IntKind.i64)) s1.2.2.1.2.2.2.1) → ((T.ok (T.sl (T.sl (T.int IntKind.i64))) s1.2.2.1.2.2.2.2) → ((T.ok (T.sl (T.int IntKind.i64)) s1.2.2.2.1) → (cnd (decide (s1.1.2.2.2.1 < (((List.length c.2.1) : Nat) : Int))) (((0 : Int) ≤ s1.1.2.2.2.1) ∧ ((s1.1.2.2.2.1 < (((List.length c.2.2.2.2) : Nat) : Int)) ∧ (((0 : Int) ≤ s.1.2.2.1) ∧ ((s.1.2.2.1 < (((List.length (List.getD c.2.2.2.2 (Int.toNat s1.1.2.2.2.1) ([] : List Int))) : Nat) : Int)) ∧ ((room (List.length s1.2.2.2.1) (List.length ((List.getD (List.getD c.2.2.2.2 (Int.toNat s1.1.2.2.2.1) ([] : List Int)) (Int.toNat s.1.2.2.1) (0 : Int)) :: ([] : List Int))) 8) ∧ ((inK IntKind.i64 (s1.1.2.2.2.1 + (1 : Int))) ∧ (next1 (((), ((), ((), ((s1.1.2.2.2.1 + (1 : Int)), ())))), (s1.2.1, (s1.2.2.1, ((s1.2.2.2.1 ++ ((List.getD (List.getD c.2.2.2.2 (Int.toNat s1.1.2.2.2.1) ([] : List Int)) (Int.toNat s.1.2.2.1) (0 : Int)) :: ([] : List Int))), ()))))))))))) ((room (List.length s1.2.2.1.2.2.2.2) (List.length (s1.2.2.2.1 :: ([] : List (List Int)))) 24) ∧ ((inK IntKind.i64 (s.1.2.2.1 + (1 : Int))) ∧ (next (((), ((), ((s.1.2.2.1 + (1 : Int)), ()))), (s1.2.1, ((s1.2.2.1.1, (s1.2.2.1.2.1, (s1.2.2.1.2.2.1, (s1.2.2.1.2.2.2.1, (s1.2.2.1.2.2.2.2 ++ (s1.2.2.2.1 :: ([] : List (List Int)))))))), ()))))))))))))))))))))) (((), ((), ((), ((0 : Int), ())))), (s.2.1, (s.2.2.1, (([] : List Int), ()))))) (K (s.2.2.1, ())))))))))))))))) (((), ((), ((0 : Int), ()))), (((0 : Int), (([] : List Int), (([] : List Int), (([] : List Int), ([] : List (List Int)))))), ((c.1, (c.2.2.1, (c.2.1, (c.2.2.2.1, ([] : List (List Int)))))), ())))))))
theorem w_spec_l03Op (x : denL c_spec_l03Op.args) (K : CategoryD × Unit → Prop) : evF tab (lkp [(92, c_spec_l01Own)]) (cutL [(1, 514)]) Try.f55 (bodyOf Try.f55) (.s .n (.s .n (.s (.s .n (.l [(2, (.ad 2 [.de])), (3, (.ad 3 [.de])), (4, (.d (.int .i64)))] [(2, (.pt (.p (.fz (.int .i64)) (.p (.sl (.fz (.int .i64))) (.p (.sl (.fz (.int .i64))) (.p (.sl (.fz (.int .i64))) (.sl (.sl (.fz (.int .i64)))))))))), (3, (.pt (.p (.fz (.int .i64)) (.p (.sl (.fz (.int .i64))) (.p (.sl (.fz (.int .i64))) (.p (.sl (.fz (.int .i64))) (.sl (.sl (.fz (.int .i64))))))))))] [1] (.s .n (.s (.s .n (.s (.s .n (.l [(2, (.ad 2 [.de])), (3, (.ad 3 [.de])), (5, (.ref 800005 [])), (6, (.d (.int .i64)))] [(2, (.pt (.p (.fz (.int .i64)) (.p (.sl (.fz (.int .i64))) (.p (.sl (.fz (.int .i64))) (.p (.sl (.fz (.int .i64))) (.sl (.sl (.fz (.int .i64)))))))))), (3, (.pt (.p (.fz (.int .i64)) (.p (.sl (.fz (.int .i64))) (.p (.sl (.fz (.int .i64))) (.p (.sl (.fz (.int .i64))) (.sl (.sl (.fz (.int .i64)))))))))), (800005, (.sl (.fz (.int .i64))))] [1, 4] .n)) .n)) .n)))) .n))) c_spec_l03Op x K = W_spec_l03Op x.1 K := by kernel_rfl
theorem k_spec_l03Op : okC Try.f55.ntmps (cutL [(1, 514)]) (bodyOf Try.f55) = true := by kernel_rfl
theorem m_spec_l03Op (c : CategoryD) (hok : allP (okL c_spec_l03Op.args (c, ()))) (hpre : allP (c_spec_l03Op.pre (c, ()))) : W_spec_l03Op c (fun r => r = c_spec_l03Op.res (c, ())) := by
  simp only [c_spec_l03Op, okL, T.oks, T.ok, ap, allP, true_and, and_true, implies_true] at hok hpre
  try dsimp only [T.den] at hok
  try dsimp only [T.den] at hpre
  unfold W_spec_l03Op
  have S : ShapeP c := hpre
  have hlt := S.lt
  have hlc := S.lc
  have hmm := S.m
  have hids := S.li
  have hob := S.ob
  clear hok
  generalize hn : c.2.1.length = n at *
  refine ⟨by omega, by omega, by omega, ?_⟩
  refine loop_of (fun (s : ((Unit × (Unit × (Int × Unit))) × ((Int × ((List Int) × ((List Int) × ((List Int) × (List (List Int)))))) × ((Int × ((List Int) × ((List Int) × ((List Int) × (List (List Int)))))) × Unit)))) => 0 ≤ s.1.2.2.1 ∧ s.1.2.2.1 ≤ n ∧ s.2.2.1 = (c.1, c.2.2.1, c.2.1, c.2.2.2.1, tabN s.1.2.2.1.toNat fun f => tabN n fun g => compR c g f)) (fun (s : ((Unit × (Unit × (Int × Unit))) × ((Int × ((List Int) × ((List Int) × ((List Int) × (List (List Int)))))) × ((Int × ((List Int) × ((List Int) × ((List Int) × (List (List Int)))))) × Unit)))) => (n - s.1.2.2.1).toNat) ?_ ⟨by simp, by simp, rfl⟩
  rintro ⟨⟨_, _, f, _⟩, o1, out, _⟩ next ⟨f0, f1, hq⟩ hnx _ _ _ _ _ _ _ _ _ _ _
  try dsimp only at f0 f1 hq hnx ⊢
  refine cnd_d (fun hf => ?_) (fun hf => ?_)
  · refine loop_of (fun (s1 : ((Unit × (Unit × (Unit × (Int × Unit)))) × ((Int × ((List Int) × ((List Int) × ((List Int) × (List (List Int)))))) × ((Int × ((List Int) × ((List Int) × ((List Int) × (List (List Int)))))) × ((List Int) × Unit))))) => 0 ≤ s1.1.2.2.2.1 ∧ s1.1.2.2.2.1 ≤ n ∧ s1.2.2.1 = out ∧ s1.2.2.2.1 = tabN s1.1.2.2.2.1.toNat fun g => compR c g f) (fun (s1 : ((Unit × (Unit × (Unit × (Int × Unit)))) × ((Int × ((List Int) × ((List Int) × ((List Int) × (List (List Int)))))) × ((Int × ((List Int) × ((List Int) × ((List Int) × (List (List Int)))))) × ((List Int) × Unit))))) => (n - s1.1.2.2.2.1).toNat) ?_ ⟨by simp, by simp, rfl, rfl⟩
    rintro ⟨⟨_, _, _, g, _⟩, p1, out2, row, _⟩ next1 ⟨g0, g1, h1, h2⟩ hn1 _ _ _ _ _ _ _ _ _ _ _ _
    try dsimp only at g0 g1 h1 h2 hn1 ⊢
    subst h1; subst h2
    refine cnd_d (fun hg => ?_) (fun hg => ?_)
    · have hr := S.row g g0 (by omega)
      refine ⟨g0, by omega, f0, by omega, room_of (by rw [tabN_len]; simp only [List.length_cons, List.length_nil]; omega), by rw [inK64]; (try dsimp only); omega, hn1 _ ⟨(by first | omega | (dsimp only; omega)), (by first | omega | (dsimp only; omega)), rfl, ?_⟩ (by first | omega | (dsimp only; omega))⟩
      try dsimp only; rw [tabN_s g0]; rfl
    · have e : g = n := by omega
      subst hq
      refine ⟨room_of (by rw [tabN_len]; simp only [List.length_cons, List.length_nil]; omega), by rw [inK64]; (try dsimp only); omega, hnx _ ⟨(by first | omega | (dsimp only; omega)), (by first | omega | (dsimp only; omega)), ?_⟩ (by first | omega | (dsimp only; omega))⟩
      try dsimp only; rw [tabN_s f0, e, Int.toNat_natCast]
  · have e : f = n := by omega
    simp only [c_spec_l03Op, opR, hn]
    rw [hq, e, Int.toNat_natCast]
theorem ct_spec_l03Op : CtOk Try.prog 55 c_spec_l03Op :=
  ct_by (Φ := lkp [(92, c_spec_l01Own)]) (good_cons ct_spec_l01Own good_nil) tab_ok (by kernel_rfl) (fn := Try.f55) (c := bodyOf Try.f55) (by kernel_rfl) (by kernel_rfl) (by kernel_rfl) c_spec_l03Op rfl (.s .n (.s .n (.s (.s .n (.l [(2, (.ad 2 [.de])), (3, (.ad 3 [.de])), (4, (.d (.int .i64)))] [(2, (.pt (.p (.fz (.int .i64)) (.p (.sl (.fz (.int .i64))) (.p (.sl (.fz (.int .i64))) (.p (.sl (.fz (.int .i64))) (.sl (.sl (.fz (.int .i64)))))))))), (3, (.pt (.p (.fz (.int .i64)) (.p (.sl (.fz (.int .i64))) (.p (.sl (.fz (.int .i64))) (.p (.sl (.fz (.int .i64))) (.sl (.sl (.fz (.int .i64))))))))))] [1] (.s .n (.s (.s .n (.s (.s .n (.l [(2, (.ad 2 [.de])), (3, (.ad 3 [.de])), (5, (.ref 800005 [])), (6, (.d (.int .i64)))] [(2, (.pt (.p (.fz (.int .i64)) (.p (.sl (.fz (.int .i64))) (.p (.sl (.fz (.int .i64))) (.p (.sl (.fz (.int .i64))) (.sl (.sl (.fz (.int .i64)))))))))), (3, (.pt (.p (.fz (.int .i64)) (.p (.sl (.fz (.int .i64))) (.p (.sl (.fz (.int .i64))) (.p (.sl (.fz (.int .i64))) (.sl (.sl (.fz (.int .i64)))))))))), (800005, (.sl (.fz (.int .i64))))] [1, 4] .n)) .n)) .n)))) .n))) (cutL [(1, 514)]) (by kernel_rfl) (by kernel_rfl) k_spec_l03Op (by decide) (fun x K => W_spec_l03Op x.1 K) w_spec_l03Op (fun x h1 h2 => m_spec_l03Op x.1 h1 h2)
def c_impl_opposite : Ct := ⟨[(.pt CategoryT)], [false], fun x => [ShapeP x.1], [(true, CategoryO)], fun x => (opR x.1, ()), false, none⟩
def W_impl_opposite (c : CategoryD) (K : CategoryD × Unit → Prop) : Prop := (((List.length c.2.2.1) ≤ 1099511627776) ∧ (((List.length c.2.1) ≤ 1099511627776) ∧ (((List.length c.2.2.2.1) ≤ 1099511627776) ∧ ((ShapeP c) ∧ (((List.length c.2.2.1) = (List.length c.2.1)) ∧ (((List.length c.2.1) = (List.length c.2.1)) ∧ (K ((c.1, (c.2.2.1, (c.2.1, (c.2.2.2.1, (tableR (c.1, (c.2.2.1, (c.2.1, (c.2.2.2.1, ([] : List (List Int)))))) (opFR c)))))), ()))))))))
theorem w_impl_opposite (x : denL c_impl_opposite.args) (K : CategoryD × Unit → Prop) : evF tab (lkp [(93, c_impl_clone), (94, c_impl_Category_table_op)]) (cutL [(1, 521)]) Try.f56 (bodyOf Try.f56) .n c_impl_opposite x K = W_impl_opposite x.1 K := by kernel_rfl
theorem k_impl_opposite : okC Try.f56.ntmps (cutL [(1, 521)]) (bodyOf Try.f56) = true := by kernel_rfl
theorem m_impl_opposite (c : CategoryD) (hok : allP (okL c_impl_opposite.args (c, ()))) (hpre : allP (c_impl_opposite.pre (c, ()))) : W_impl_opposite c (fun r => r = c_impl_opposite.res (c, ())) := by
  simp only [c_impl_opposite, okL, T.oks, T.ok, ap, allP, true_and, and_true, implies_true] at hok hpre
  try dsimp only [T.den] at hok
  try dsimp only [T.den] at hpre
  unfold W_impl_opposite
  have S : ShapeP c := hpre
  have hm := S.m
  have hlt := S.lt
  have hli := S.li
  have hob := S.ob
  clear hok
  refine ⟨by omega, by omega, by omega, S, hlt, rfl, ?_⟩
  have ht : tableR (c.1, (c.2.2.1, (c.2.1, (c.2.2.2.1, ([] : List (List Int)))))) (opFR c) = tabN c.2.1.length fun f => tabN c.2.1.length fun g => compR c g f := by
    unfold tableR tabFR opFR
    try dsimp only
    rw [hlt]
    refine tabN_congr fun f f0 f1 => tabN_congr fun g g0 g1 => ?_
    split
    · rfl
    · rename_i h
      exact (S.no g0 g1 f0 f1 fun e => h e.symm).symm
  rw [ht]
  rfl
theorem ct_impl_opposite : CtOk Try.prog 56 c_impl_opposite :=
  ct_by (Φ := lkp [(93, c_impl_clone), (94, c_impl_Category_table_op)]) (good_cons ct_impl_clone (good_cons ct_impl_Category_table_op good_nil)) tab_ok (by kernel_rfl) (fn := Try.f56) (c := bodyOf Try.f56) (by kernel_rfl) (by kernel_rfl) (by kernel_rfl) c_impl_opposite rfl .n (cutL [(1, 521)]) (by kernel_rfl) (by kernel_rfl) k_impl_opposite (by decide) (fun x K => W_impl_opposite x.1 K) w_impl_opposite (fun x h1 h2 => m_impl_opposite x.1 h1 h2)
def regER (c : CategoryD) (f : Int) : Bool × Int := if arrCodeR c [f] = 0 then (regR (opR c) f, 0) else (false, arrCodeR c [f])

def c_impl_IsRegularEpi : Ct := ⟨[CategoryT, (.int .i64)], [true, false], fun x => [], [(false, (.fz .bool)), (false, (.fz (.int .i64)))], fun x => ((regER x.1 x.2.1).1, (regER x.1 x.2.1).2, ()), false, none⟩
def W_impl_IsRegularEpi (c : CategoryD) (f : Int) (K : Bool × Int × Unit → Prop) : Prop := (cnd ((arrCodeR c (f :: ([] : List Int))) != (0 : Int)) (K (Bool.false, ((arrCodeR c (f :: ([] : List Int))), ()))) ((ShapeP c) ∧ ((ShapeP (opR c)) ∧ (((0 : Int) ≤ f) ∧ ((f < (((List.length (opR c).2.1) : Nat) : Int)) ∧ (K ((regR (opR c) f), ((0 : Int), ()))))))))
theorem w_impl_IsRegularEpi (x : denL c_impl_IsRegularEpi.args) (K : Bool × Int × Unit → Prop) : evF tab (lkp [(54, c_impl_Category_isRegularMono), (53, c_impl_arrowCode), (56, c_impl_opposite)]) (cutL []) Try.f25 (bodyOf Try.f25) .n c_impl_IsRegularEpi x K = W_impl_IsRegularEpi x.1 x.2.1 K := by kernel_rfl
theorem k_impl_IsRegularEpi : okC Try.f25.ntmps (cutL []) (bodyOf Try.f25) = true := by kernel_rfl
theorem m_impl_IsRegularEpi (c : CategoryD) (f : Int) (hok : allP (okL c_impl_IsRegularEpi.args (c, f, ()))) (hpre : allP (c_impl_IsRegularEpi.pre (c, f, ()))) : W_impl_IsRegularEpi c f (fun r => r = c_impl_IsRegularEpi.res (c, f, ())) := by
  simp only [c_impl_IsRegularEpi, okL, T.oks, T.ok, ap, allP, true_and, and_true, implies_true] at hok hpre
  try dsimp only [T.den] at hok
  try dsimp only [T.den] at hpre
  unfold W_impl_IsRegularEpi
  refine cnd_of (fun hx => ?_) (fun hx => ?_)
  · have h : ¬ arrCodeR c [f] = 0 := by simpa using hx
    simp only [c_impl_IsRegularEpi, regER, if_neg h]
  · have h : arrCodeR c [f] = 0 := by simpa using hx
    obtain ⟨S, f0, f1⟩ := arrCode_1 h
    have hl : (opR c).2.1.length = c.2.1.length := S.lt
    exact ⟨S, op_shape S, f0, by omega, by simp only [c_impl_IsRegularEpi, regER, if_pos h]⟩
theorem ct_impl_IsRegularEpi : CtOk Try.prog 25 c_impl_IsRegularEpi :=
  ct_by (Φ := lkp [(54, c_impl_Category_isRegularMono), (53, c_impl_arrowCode), (56, c_impl_opposite)]) (good_cons ct_impl_Category_isRegularMono (good_cons ct_impl_arrowCode (good_cons ct_impl_opposite good_nil))) tab_ok (by kernel_rfl) (fn := Try.f25) (c := bodyOf Try.f25) (by kernel_rfl) (by kernel_rfl) (by kernel_rfl) c_impl_IsRegularEpi rfl .n (cutL []) (by kernel_rfl) (by kernel_rfl) k_impl_IsRegularEpi (by decide) (fun x K => W_impl_IsRegularEpi x.1 x.2.1 K) w_impl_IsRegularEpi (fun x h1 h2 => m_impl_IsRegularEpi x.1 x.2.1 h1 h2)
def c_laws_eqInt64S : Ct := ⟨[(.sl (.int .i64)), (.sl (.int .i64))], [false, false], fun x => [], [(false, (.fz .bool))], fun x => (eqR (.sl (.int .i64)) x.1 x.2.1, ()), false, none⟩
def W_laws_eqInt64S (a : List Int) (b : List Int) (K : Bool × Unit → Prop) : Prop := (cnd ((((List.length a) : Nat) : Int) != (((List.length b) : Nat) : Int)) (K (Bool.false, ())) (loopW (S := ((Int × Unit) × Unit)) (fun s => (fun next => ((inK IntKind.i64 s.1.1) → (cnd (decide (s.1.1 < (((List.length a) : Nat) : Int))) (((0 : Int) ≤ s.1.1) ∧ ((s.1.1 < (((List.length a) : Nat) : Int)) ∧ (((0 : Int) ≤ s.1.1) ∧ ((s.1.1 < (((List.length b) : Nat) : Int)) ∧ (cnd ((List.getD a (Int.toNat s.1.1) (0 : Int)) != (List.getD b (Int.toNat s.1.1) (0 : Int))) (K (Bool.false, ())) ((inK IntKind.i64 (s.1.1 + (1 : Int))) ∧ (next (((s.1.1 + (1 : Int)), ()), ())))))))) (K (Bool.true, ())))))) (((0 : Int), ()), ())))
theorem w_laws_eqInt64S (x : denL c_laws_eqInt64S.args) (K : Bool × Unit → Prop) : evF tab (lkp []) (cutL [(6, 9)]) Try.f31 (bodyOf Try.f31) (.s .n (.s .n (.s (.s .n (.l [(5, (.d (.int .i64)))] [] [0, 1] .n)) .n))) c_laws_eqInt64S x K = W_laws_eqInt64S x.1 x.2.1 K := by kernel_rfl
theorem k_laws_eqInt64S : okC Try.f31.ntmps (cutL [(6, 9)]) (bodyOf Try.f31) = true := by kernel_rfl
theorem m_laws_eqInt64S (a : List Int) (b : List Int) (hok : allP (okL c_laws_eqInt64S.args (a, b, ()))) (hpre : allP (c_laws_eqInt64S.pre (a, b, ()))) : W_laws_eqInt64S a b (fun r => r = c_laws_eqInt64S.res (a, b, ())) := by
  simp only [c_laws_eqInt64S, okL, T.oks, T.ok, ap, allP, true_and, and_true, implies_true] at hok hpre
  try dsimp only [T.den] at hok
  try dsimp only [T.den] at hpre
  unfold W_laws_eqInt64S
  refine cnd_of (fun hc => ?_) (fun hc => ?_)
  · simp only [c_laws_eqInt64S, Prod.mk.injEq, and_true]; rw [eqR_f]; rintro rfl; simp at hc
  have hl : a.length = b.length := by simp at hc; omega
  refine loop_of (fun (s : ((Int × Unit) × Unit)) => 0 ≤ s.1.1 ∧ s.1.1 ≤ a.length ∧ a.take s.1.1.toNat = b.take s.1.1.toNat) (fun (s : ((Int × Unit) × Unit)) => (a.length - s.1.1).toNat) ?_ (by simp)
  rintro ⟨⟨i, _⟩, _⟩ next ⟨h0, h1, h2⟩ hn hin
  simp only at h0 h1 h2 hn ⊢
  refine cnd_d (fun hc => ?_) (fun hc => ?_)
  · have ha := take_c a (0 : Int) h0 hc
    have hb := take_c b (0 : Int) h0 (by omega)
    refine ⟨by omega, by omega, by omega, by omega, cnd_of (fun hd => ?_) (fun hd => ?_)⟩
    · simp only [c_laws_eqInt64S, Prod.mk.injEq, and_true]; rw [eqR_f]; rintro rfl; simp at hd
    · refine ⟨by grind [cnd, nb_eq, inK64], hn _ ⟨(by first | omega | (dsimp only; omega)), (by first | omega | (dsimp only; omega)), ?_⟩ (by first | omega | (dsimp only; omega))⟩
      simp only [Bool.not_eq_false', eqR_iff, bne_eq_false_iff_eq] at hd
      simp only [ha, hb, h2, hd]
  · rw [take_n a (by omega), take_n b (by omega)] at h2
    simp [h2, c_laws_eqInt64S]
theorem ct_laws_eqInt64S : CtOk Try.prog 31 c_laws_eqInt64S :=
  ct_by (Φ := lkp []) good_nil tab_ok (by kernel_rfl) (fn := Try.f31) (c := bodyOf Try.f31) (by kernel_rfl) (by kernel_rfl) (by kernel_rfl) c_laws_eqInt64S rfl (.s .n (.s .n (.s (.s .n (.l [(5, (.d (.int .i64)))] [] [0, 1] .n)) .n))) (cutL [(6, 9)]) (by kernel_rfl) (by kernel_rfl) k_laws_eqInt64S (by decide) (fun x K => W_laws_eqInt64S x.1 x.2.1 K) w_laws_eqInt64S (fun x h1 h2 => m_laws_eqInt64S x.1 x.2.1 h1 h2)
def c_laws_eqInt64SS : Ct := ⟨[(.sl (.sl (.int .i64))), (.sl (.sl (.int .i64)))], [false, false], fun x => [], [(false, (.fz .bool))], fun x => (eqR (.sl (.sl (.int .i64))) x.1 x.2.1, ()), false, none⟩
def W_laws_eqInt64SS (a : List (List Int)) (b : List (List Int)) (K : Bool × Unit → Prop) : Prop := (cnd ((((List.length a) : Nat) : Int) != (((List.length b) : Nat) : Int)) (K (Bool.false, ())) (loopW (S := ((Int × Unit) × Unit)) (fun s => (fun next => ((inK IntKind.i64 s.1.1) → (cnd (decide (s.1.1 < (((List.length a) : Nat) : Int))) (((0 : Int) ≤ s.1.1) ∧ ((s.1.1 < (((List.length a) : Nat) : Int)) ∧ (((0 : Int) ≤ s.1.1) ∧ ((s.1.1 < (((List.length b) : Nat) : Int)) ∧ (cnd (!(eqR (T.sl (T.int IntKind.i64)) (List.getD a (Int.toNat s.1.1) ([] : List Int)) (List.getD b (Int.toNat s.1.1) ([] : List Int)))) (K (Bool.false, ())) ((inK IntKind.i64 (s.1.1 + (1 : Int))) ∧ (next (((s.1.1 + (1 : Int)), ()), ())))))))) (K (Bool.true, ())))))) (((0 : Int), ()), ())))
theorem w_laws_eqInt64SS (x : denL c_laws_eqInt64SS.args) (K : Bool × Unit → Prop) : evF tab (lkp [(31, c_laws_eqInt64S)]) (cutL [(6, 10)]) Try.f14 (bodyOf Try.f14) (.s .n (.s .n (.s (.s .n (.l [(5, (.d (.int .i64)))] [] [0, 1] .n)) .n))) c_laws_eqInt64SS x K = W_laws_eqInt64SS x.1 x.2.1 K := by kernel_rfl
theorem k_laws_eqInt64SS : okC Try.f14.ntmps (cutL [(6, 10)]) (bodyOf Try.f14) = true := by kernel_rfl
theorem m_laws_eqInt64SS (a : List (List Int)) (b : List (List Int)) (hok : allP (okL c_laws_eqInt64SS.args (a, b, ()))) (hpre : allP (c_laws_eqInt64SS.pre (a, b, ()))) : W_laws_eqInt64SS a b (fun r => r = c_laws_eqInt64SS.res (a, b, ())) := by
  simp only [c_laws_eqInt64SS, okL, T.oks, T.ok, ap, allP, true_and, and_true, implies_true] at hok hpre
  try dsimp only [T.den] at hok
  try dsimp only [T.den] at hpre
  unfold W_laws_eqInt64SS
  refine cnd_of (fun hc => ?_) (fun hc => ?_)
  · simp only [c_laws_eqInt64SS, Prod.mk.injEq, and_true]; rw [eqR_f]; rintro rfl; simp at hc
  have hl : a.length = b.length := by simp at hc; omega
  refine loop_of (fun (s : ((Int × Unit) × Unit)) => 0 ≤ s.1.1 ∧ s.1.1 ≤ a.length ∧ a.take s.1.1.toNat = b.take s.1.1.toNat) (fun (s : ((Int × Unit) × Unit)) => (a.length - s.1.1).toNat) ?_ (by simp)
  rintro ⟨⟨i, _⟩, _⟩ next ⟨h0, h1, h2⟩ hn hin
  simp only at h0 h1 h2 hn ⊢
  refine cnd_d (fun hc => ?_) (fun hc => ?_)
  · have ha := take_c a ([] : List Int) h0 hc
    have hb := take_c b ([] : List Int) h0 (by omega)
    refine ⟨by omega, by omega, by omega, by omega, cnd_of (fun hd => ?_) (fun hd => ?_)⟩
    · simp only [c_laws_eqInt64SS, Prod.mk.injEq, and_true]; rw [eqR_f]; rintro rfl; simp at hd
    · refine ⟨by grind [cnd, nb_eq, inK64], hn _ ⟨(by first | omega | (dsimp only; omega)), (by first | omega | (dsimp only; omega)), ?_⟩ (by first | omega | (dsimp only; omega))⟩
      simp only [Bool.not_eq_false', eqR_iff, bne_eq_false_iff_eq] at hd
      simp only [ha, hb, h2, hd]
  · rw [take_n a (by omega), take_n b (by omega)] at h2
    simp [h2, c_laws_eqInt64SS]
theorem ct_laws_eqInt64SS : CtOk Try.prog 14 c_laws_eqInt64SS :=
  ct_by (Φ := lkp [(31, c_laws_eqInt64S)]) (good_cons ct_laws_eqInt64S good_nil) tab_ok (by kernel_rfl) (fn := Try.f14) (c := bodyOf Try.f14) (by kernel_rfl) (by kernel_rfl) (by kernel_rfl) c_laws_eqInt64SS rfl (.s .n (.s .n (.s (.s .n (.l [(5, (.d (.int .i64)))] [] [0, 1] .n)) .n))) (cutL [(6, 10)]) (by kernel_rfl) (by kernel_rfl) k_laws_eqInt64SS (by decide) (fun x K => W_laws_eqInt64SS x.1 x.2.1 K) w_laws_eqInt64SS (fun x h1 h2 => m_laws_eqInt64SS x.1 x.2.1 h1 h2)
def c_laws_eqCategory : Ct := ⟨[CategoryT, CategoryT], [true, true], fun x => [], [(false, (.fz .bool))], fun x => (eqR CategoryT x.1 x.2.1, ()), false, none⟩
def W_laws_eqCategory (a : CategoryD) (b : CategoryD) (K : Bool × Unit → Prop) : Prop := (cnd (a.1 != b.1) (K (Bool.false, ())) (cnd (!(eqR (T.sl (T.int IntKind.i64)) a.2.1 b.2.1)) (K (Bool.false, ())) (cnd (!(eqR (T.sl (T.int IntKind.i64)) a.2.2.1 b.2.2.1)) (K (Bool.false, ())) (cnd (!(eqR (T.sl (T.int IntKind.i64)) a.2.2.2.1 b.2.2.2.1)) (K (Bool.false, ())) (cnd (!(eqR (T.sl (T.sl (T.int IntKind.i64))) a.2.2.2.2 b.2.2.2.2)) (K (Bool.false, ())) (K (Bool.true, ())))))))
theorem w_laws_eqCategory (x : denL c_laws_eqCategory.args) (K : Bool × Unit → Prop) : evF tab (lkp [(31, c_laws_eqInt64S), (14, c_laws_eqInt64SS)]) (cutL []) Try.f23 (bodyOf Try.f23) .n c_laws_eqCategory x K = W_laws_eqCategory x.1 x.2.1 K := by kernel_rfl
theorem k_laws_eqCategory : okC Try.f23.ntmps (cutL []) (bodyOf Try.f23) = true := by kernel_rfl
theorem m_laws_eqCategory (a : CategoryD) (b : CategoryD) (hok : allP (okL c_laws_eqCategory.args (a, b, ()))) (hpre : allP (c_laws_eqCategory.pre (a, b, ()))) : W_laws_eqCategory a b (fun r => r = c_laws_eqCategory.res (a, b, ())) := by
  simp only [c_laws_eqCategory, okL, T.oks, T.ok, ap, allP, true_and, and_true, implies_true] at hok hpre
  try dsimp only [T.den] at hok
  try dsimp only [T.den] at hpre
  unfold W_laws_eqCategory
  simp only [c_laws_eqCategory, eqR_p, eqR_int, eqR_bool]
  grind [cnd, nb_eq, inK64]
theorem ct_laws_eqCategory : CtOk Try.prog 23 c_laws_eqCategory :=
  ct_by (Φ := lkp [(31, c_laws_eqInt64S), (14, c_laws_eqInt64SS)]) (good_cons ct_laws_eqInt64S (good_cons ct_laws_eqInt64SS good_nil)) tab_ok (by kernel_rfl) (fn := Try.f23) (c := bodyOf Try.f23) (by kernel_rfl) (by kernel_rfl) (by kernel_rfl) c_laws_eqCategory rfl .n (cutL []) (by kernel_rfl) (by kernel_rfl) k_laws_eqCategory (by decide) (fun x K => W_laws_eqCategory x.1 x.2.1 K) w_laws_eqCategory (fun x h1 h2 => m_laws_eqCategory x.1 x.2.1 h1 h2)
def c_laws_szInt64S : Ct := ⟨[(.sl (.int .i64)), (.int .i64)], [false, false], fun x => [-4611545280939032576 ≤ x.2.1], [(false, (.fz (.int .i64)))], fun x => (szR (wR (.sl (.int .i64)) x.1) x.2.1, ()), false, none⟩
def W_laws_szInt64S (a : List Int) (left : Int) (K : Int × Unit → Prop) : Prop := ((inK IntKind.i64 (left - (((List.length a) : Nat) : Int))) ∧ (cnd (decide ((left - (((List.length a) : Nat) : Int)) < (0 : Int))) (K ((-(1 : Int)), ())) (K ((left - (((List.length a) : Nat) : Int)), ()))))
theorem w_laws_szInt64S (x : denL c_laws_szInt64S.args) (K : Int × Unit → Prop) : evF tab (lkp []) (cutL []) Try.f41 (bodyOf Try.f41) .n c_laws_szInt64S x K = W_laws_szInt64S x.1 x.2.1 K := by kernel_rfl
theorem k_laws_szInt64S : okC Try.f41.ntmps (cutL []) (bodyOf Try.f41) = true := by kernel_rfl
theorem m_laws_szInt64S (a : List Int) (left : Int) (hok : allP (okL c_laws_szInt64S.args (a, left, ()))) (hpre : allP (c_laws_szInt64S.pre (a, left, ()))) : W_laws_szInt64S a left (fun r => r = c_laws_szInt64S.res (a, left, ())) := by
  simp only [c_laws_szInt64S, okL, T.oks, T.ok, ap, allP, true_and, and_true, implies_true] at hok hpre
  try dsimp only [T.den] at hok
  try dsimp only [T.den] at hpre
  unfold W_laws_szInt64S
  simp only [c_laws_szInt64S, wR_ints]
  grind [cnd, nb_eq, inK64, szR]
theorem ct_laws_szInt64S : CtOk Try.prog 41 c_laws_szInt64S :=
  ct_by (Φ := lkp []) good_nil tab_ok (by kernel_rfl) (fn := Try.f41) (c := bodyOf Try.f41) (by kernel_rfl) (by kernel_rfl) (by kernel_rfl) c_laws_szInt64S rfl .n (cutL []) (by kernel_rfl) (by kernel_rfl) k_laws_szInt64S (by decide) (fun x K => W_laws_szInt64S x.1 x.2.1 K) w_laws_szInt64S (fun x h1 h2 => m_laws_szInt64S x.1 x.2.1 h1 h2)
def c_laws_szInt64SS : Ct := ⟨[(.sl (.sl (.int .i64))), (.int .i64)], [false, false], fun x => [-4611404543450677248 ≤ x.2.1], [(false, (.fz (.int .i64)))], fun x => (szR (wR (.sl (.sl (.int .i64))) x.1) x.2.1, ()), false, none⟩
def W_laws_szInt64SS (a : List (List Int)) (left : Int) (K : Int × Unit → Prop) : Prop := ((inK IntKind.i64 (left - (((List.length a) : Nat) : Int))) ∧ (cnd (decide ((left - (((List.length a) : Nat) : Int)) < (0 : Int))) (K ((-(1 : Int)), ())) (loopW (S := ((Int × (Int × Unit)) × Unit)) (fun s => (fun next => ((inK IntKind.i64 s.1.1) → ((inK IntKind.i64 s.1.2.1) → (cnd (decide (s.1.2.1 < (((List.length a) : Nat) : Int))) (((0 : Int) ≤ s.1.2.1) ∧ ((s.1.2.1 < (((List.length a) : Nat) : Int)) ∧ (((-(4611545280939032576 : Int)) ≤ s.1.1) ∧ (cnd (decide ((szR (wR (T.sl (T.int IntKind.i64)) (List.getD a (Int.toNat s.1.2.1) ([] : List Int))) s.1.1) < (0 : Int))) (K ((-(1 : Int)), ())) ((inK IntKind.i64 (s.1.2.1 + (1 : Int))) ∧ (next (((szR (wR (T.sl (T.int IntKind.i64)) (List.getD a (Int.toNat s.1.2.1) ([] : List Int))) s.1.1), ((s.1.2.1 + (1 : Int)), ())), ()))))))) (K (s.1.1, ()))))))) (((left - (((List.length a) : Nat) : Int)), ((0 : Int), ())), ()))))
theorem w_laws_szInt64SS (x : denL c_laws_szInt64SS.args) (K : Int × Unit → Prop) : evF tab (lkp [(41, c_laws_szInt64S)]) (cutL []) Try.f42 (bodyOf Try.f42) (.s .n (.s .n (.s .n (.s (.s .n (.l [(1, (.d (.int .i64))), (5, (.d (.int .i64)))] [] [0] .n)) .n)))) c_laws_szInt64SS x K = W_laws_szInt64SS x.1 x.2.1 K := by kernel_rfl
theorem k_laws_szInt64SS : okC Try.f42.ntmps (cutL []) (bodyOf Try.f42) = true := by kernel_rfl
theorem m_laws_szInt64SS (a : List (List Int)) (left : Int) (hok : allP (okL c_laws_szInt64SS.args (a, left, ()))) (hpre : allP (c_laws_szInt64SS.pre (a, left, ()))) : W_laws_szInt64SS a left (fun r => r = c_laws_szInt64SS.res (a, left, ())) := by
  simp only [c_laws_szInt64SS, okL, T.oks, T.ok, ap, allP, true_and, and_true, implies_true] at hok hpre
  try dsimp only [T.den] at hok
  try dsimp only [T.den] at hpre
  unfold W_laws_szInt64SS
  have hr := szR_ge (x := a.length) (r := (a.map (wR (.sl (.int .i64)))).sum) (l := left)
  refine ⟨by grind [cnd, nb_eq, inK64], cnd_d (fun hc => ?_) (fun hc => ?_)⟩
  · simp only [c_laws_szInt64SS]; rw [wR_sl, szR_lt (x := a.length) (by omega)]
  replace hr := hr (by omega)
  rw [szR_val (x := a.length) (by omega)] at hr
  refine loop_of (fun (s : ((Int × (Int × Unit)) × Unit)) => 0 ≤ s.1.1 ∧ 0 ≤ s.1.2.1 ∧ s.1.2.1 ≤ a.length ∧ szR (wR (.sl (.sl (.int .i64))) a) left = szR ((a.drop s.1.2.1.toNat).map (wR (.sl (.int .i64)))).sum s.1.1) (fun (s : ((Int × (Int × Unit)) × Unit)) => (a.length - s.1.2.1).toNat) ?_ ⟨(by first | omega | (dsimp only; omega)), by simp, by simp, by rw [wR_sl]; simpa using hr⟩
  rintro ⟨⟨l, i, _⟩, _⟩ next ⟨h0, h1, h2, h3⟩ hn hin hl
  simp only at h0 h1 h2 h3 hn ⊢
  refine cnd_d (fun hc => ?_) (fun hc => ?_)
  · rw [drop_c a ([] : List Int) h1 hc, List.map_cons, List.sum_cons] at h3
    refine ⟨by omega, by omega, by omega, cnd_d (fun hd => ?_) (fun hd => ?_)⟩
    · rw [szR_neg] at hd
      rw [szR_lt hd] at h3
      simp only [c_laws_szInt64SS]; rw [h3]
    · rw [szR_neg] at hd
      rw [szR_ge hd] at h3
      exact ⟨by grind [cnd, nb_eq, inK64], hn _ ⟨by simp only; rw [szR_val hd]; omega, (by first | omega | (dsimp only; omega)), (by first | omega | (dsimp only; omega)), h3⟩ (by first | omega | (dsimp only; omega))⟩
  · rw [drop_n a (by omega)] at h3
    simp only [List.map_nil, List.sum_nil] at h3
    rw [szR_zero h0] at h3
    simp only [c_laws_szInt64SS]; rw [h3]
theorem ct_laws_szInt64SS : CtOk Try.prog 42 c_laws_szInt64SS :=
  ct_by (Φ := lkp [(41, c_laws_szInt64S)]) (good_cons ct_laws_szInt64S good_nil) tab_ok (by kernel_rfl) (fn := Try.f42) (c := bodyOf Try.f42) (by kernel_rfl) (by kernel_rfl) (by kernel_rfl) c_laws_szInt64SS rfl (.s .n (.s .n (.s .n (.s (.s .n (.l [(1, (.d (.int .i64))), (5, (.d (.int .i64)))] [] [0] .n)) .n)))) (cutL []) (by kernel_rfl) (by kernel_rfl) k_laws_szInt64SS (by decide) (fun x K => W_laws_szInt64SS x.1 x.2.1 K) w_laws_szInt64SS (fun x h1 h2 => m_laws_szInt64SS x.1 x.2.1 h1 h2)
def c_laws_szCategory : Ct := ⟨[CategoryT, (.int .i64)], [true, false], fun x => [-4611404543450677248 ≤ x.2.1], [(false, (.fz (.int .i64)))], fun x => (szR (wR CategoryT x.1) x.2.1, ()), false, none⟩
def W_laws_szCategory (a : CategoryD) (left : Int) (K : Int × Unit → Prop) : Prop := (((-(4611545280939032576 : Int)) ≤ left) ∧ (cnd (decide ((szR (wR (T.sl (T.int IntKind.i64)) a.2.1) left) < (0 : Int))) (K ((-(1 : Int)), ())) (((-(4611545280939032576 : Int)) ≤ (szR (wR (T.sl (T.int IntKind.i64)) a.2.1) left)) ∧ (cnd (decide ((szR (wR (T.sl (T.int IntKind.i64)) a.2.2.1) (szR (wR (T.sl (T.int IntKind.i64)) a.2.1) left)) < (0 : Int))) (K ((-(1 : Int)), ())) (((-(4611545280939032576 : Int)) ≤ (szR (wR (T.sl (T.int IntKind.i64)) a.2.2.1) (szR (wR (T.sl (T.int IntKind.i64)) a.2.1) left))) ∧ (cnd (decide ((szR (wR (T.sl (T.int IntKind.i64)) a.2.2.2.1) (szR (wR (T.sl (T.int IntKind.i64)) a.2.2.1) (szR (wR (T.sl (T.int IntKind.i64)) a.2.1) left))) < (0 : Int))) (K ((-(1 : Int)), ())) (((-(4611404543450677248 : Int)) ≤ (szR (wR (T.sl (T.int IntKind.i64)) a.2.2.2.1) (szR (wR (T.sl (T.int IntKind.i64)) a.2.2.1) (szR (wR (T.sl (T.int IntKind.i64)) a.2.1) left)))) ∧ (cnd (decide ((szR (wR (T.sl (T.sl (T.int IntKind.i64))) a.2.2.2.2) (szR (wR (T.sl (T.int IntKind.i64)) a.2.2.2.1) (szR (wR (T.sl (T.int IntKind.i64)) a.2.2.1) (szR (wR (T.sl (T.int IntKind.i64)) a.2.1) left)))) < (0 : Int))) (K ((-(1 : Int)), ())) (K ((szR (wR (T.sl (T.sl (T.int IntKind.i64))) a.2.2.2.2) (szR (wR (T.sl (T.int IntKind.i64)) a.2.2.2.1) (szR (wR (T.sl (T.int IntKind.i64)) a.2.2.1) (szR (wR (T.sl (T.int IntKind.i64)) a.2.1) left)))), ()))))))))))
theorem w_laws_szCategory (x : denL c_laws_szCategory.args) (K : Int × Unit → Prop) : evF tab (lkp [(41, c_laws_szInt64S), (42, c_laws_szInt64SS)]) (cutL []) Try.f19 (bodyOf Try.f19) .n c_laws_szCategory x K = W_laws_szCategory x.1 x.2.1 K := by kernel_rfl
theorem k_laws_szCategory : okC Try.f19.ntmps (cutL []) (bodyOf Try.f19) = true := by kernel_rfl
theorem m_laws_szCategory (a : CategoryD) (left : Int) (hok : allP (okL c_laws_szCategory.args (a, left, ()))) (hpre : allP (c_laws_szCategory.pre (a, left, ()))) : W_laws_szCategory a left (fun r => r = c_laws_szCategory.res (a, left, ())) := by
  simp only [c_laws_szCategory, okL, T.oks, T.ok, ap, allP, true_and, and_true, implies_true] at hok hpre
  try dsimp only [T.den] at hok
  try dsimp only [T.den] at hpre
  unfold W_laws_szCategory
  simp only [c_laws_szCategory, wR_p, wR_int, wR_bool, Nat.zero_add, Nat.add_zero]
  grind [cnd, nb_eq, inK64, szR]
theorem ct_laws_szCategory : CtOk Try.prog 19 c_laws_szCategory :=
  ct_by (Φ := lkp [(41, c_laws_szInt64S), (42, c_laws_szInt64SS)]) (good_cons ct_laws_szInt64S (good_cons ct_laws_szInt64SS good_nil)) tab_ok (by kernel_rfl) (fn := Try.f19) (c := bodyOf Try.f19) (by kernel_rfl) (by kernel_rfl) (by kernel_rfl) c_laws_szCategory rfl .n (cutL []) (by kernel_rfl) (by kernel_rfl) k_laws_szCategory (by decide) (fun x K => W_laws_szCategory x.1 x.2.1 K) w_laws_szCategory (fun x h1 h2 => m_laws_szCategory x.1 x.2.1 h1 h2)
def c_laws_toInt64S : Ct := ⟨[(.sl (.int .i64))], [false], fun x => [wR (.sl (.int .i64)) x.1 ≤ 1099511627776], [(false, (.sl (.fz (.int .i64))))], fun x => (x.1, ()), false, none⟩
def W_laws_toInt64S (a : List Int) (K : (List Int) × Unit → Prop) : Prop := (((0 : Int) ≤ (((List.length a) : Nat) : Int)) ∧ (((((List.length a) : Nat) : Int) ≤ (((List.length a) : Nat) : Int)) ∧ (((((List.length a) : Nat) : Int) ≤ ((140737488355328 : Nat) : Int)) ∧ ((((((List.length a) : Nat) : Int) * ((8 : Nat) : Int)) ≤ ((140737488355328 : Nat) : Int)) ∧ (loopW (S := ((Unit × (Int × Unit)) × ((List Int) × Unit))) (fun s => (fun next => ((inK IntKind.i64 s.1.2.1) → ((T.ok (T.sl (T.int IntKind.i64)) s.2.1) → (cnd (decide (s.1.2.1 < (((List.length a) : Nat) : Int))) (((0 : Int) ≤ s.1.2.1) ∧ ((s.1.2.1 < (((List.length a) : Nat) : Int)) ∧ (((0 : Int) ≤ s.1.2.1) ∧ ((s.1.2.1 < (((List.length s.2.1) : Nat) : Int)) ∧ ((inK IntKind.i64 (s.1.2.1 + (1 : Int))) ∧ (next (((), ((s.1.2.1 + (1 : Int)), ())), ((List.set s.2.1 (Int.toNat s.1.2.1) (List.getD a (Int.toNat s.1.2.1) (0 : Int))), ())))))))) (K (s.2.1, ()))))))) (((), ((0 : Int), ())), ((List.replicate (Int.toNat (((List.length a) : Nat) : Int)) (0 : Int)), ())))))))
theorem w_laws_toInt64S (x : denL c_laws_toInt64S.args) (K : (List Int) × Unit → Prop) : evF tab (lkp []) (cutL []) Try.f29 (bodyOf Try.f29) (.s .n (.s .n (.s (.s .n (.l [(3, (.ref 7 [])), (4, (.d (.int .i64)))] [(7, (.sl (.fz (.int .i64))))] [0] .n)) .n))) c_laws_toInt64S x K = W_laws_toInt64S x.1 K := by kernel_rfl
theorem k_laws_toInt64S : okC Try.f29.ntmps (cutL []) (bodyOf Try.f29) = true := by kernel_rfl
theorem m_laws_toInt64S (a : List Int) (hok : allP (okL c_laws_toInt64S.args (a, ()))) (hpre : allP (c_laws_toInt64S.pre (a, ()))) : W_laws_toInt64S a (fun r => r = c_laws_toInt64S.res (a, ())) := by
  simp only [c_laws_toInt64S, okL, T.oks, T.ok, ap, allP, true_and, and_true, implies_true] at hok hpre
  try dsimp only [T.den] at hok
  try dsimp only [T.den] at hpre
  unfold W_laws_toInt64S
  rw [wR_sl] at hpre
  refine ⟨by omega, by omega, by first | omega | (rw [nb_eq]; omega), by first | omega | (rw [nb_eq]; omega), ?_⟩
  refine loop_of (fun (s : ((Unit × (Int × Unit)) × ((List Int) × Unit))) => 0 ≤ s.1.2.1 ∧ s.1.2.1 ≤ a.length ∧ s.2.1.length = a.length ∧ s.2.1.take s.1.2.1.toNat = a.take s.1.2.1.toNat) (fun (s : ((Unit × (Int × Unit)) × ((List Int) × Unit))) => (a.length - s.1.2.1).toNat) ?_ (by simp)
  rintro ⟨⟨_, i, _⟩, l, _⟩ next ⟨h0, h1, h2, h3⟩ hn hin hl
  simp only at h0 h1 h2 h3 hn ⊢
  refine cnd_d (fun hc => ?_) (fun hc => ?_)
  · refine ⟨by omega, by omega, by omega, by omega, by grind [cnd, nb_eq, inK64], hn _ ⟨(by first | omega | (dsimp only; omega)), (by first | omega | (dsimp only; omega)), by simp [h2], ?_⟩ (by first | omega | (dsimp only; omega))⟩
    simp only
    rw [take_c a (0 : Int) h0 hc, ← h3]
    exact take_set l h0 (by omega) _
  · rw [take_n a (by omega), take_n l (by omega)] at h3
    simp [h3, c_laws_toInt64S]
theorem ct_laws_toInt64S : CtOk Try.prog 29 c_laws_toInt64S :=
  ct_by (Φ := lkp []) good_nil tab_ok (by kernel_rfl) (fn := Try.f29) (c := bodyOf Try.f29) (by kernel_rfl) (by kernel_rfl) (by kernel_rfl) c_laws_toInt64S rfl (.s .n (.s .n (.s (.s .n (.l [(3, (.ref 7 [])), (4, (.d (.int .i64)))] [(7, (.sl (.fz (.int .i64))))] [0] .n)) .n))) (cutL []) (by kernel_rfl) (by kernel_rfl) k_laws_toInt64S (by decide) (fun x K => W_laws_toInt64S x.1 K) w_laws_toInt64S (fun x h1 h2 => m_laws_toInt64S x.1 h1 h2)
def c_laws_toInt64SS : Ct := ⟨[(.sl (.sl (.int .i64)))], [false], fun x => [wR (.sl (.sl (.int .i64))) x.1 ≤ 1099511627776], [(false, (.sl (.sl (.fz (.int .i64)))))], fun x => (x.1, ()), false, none⟩
def W_laws_toInt64SS (a : List (List Int)) (K : (List (List Int)) × Unit → Prop) : Prop := (((0 : Int) ≤ (((List.length a) : Nat) : Int)) ∧ (((((List.length a) : Nat) : Int) ≤ (((List.length a) : Nat) : Int)) ∧ (((((List.length a) : Nat) : Int) ≤ ((140737488355328 : Nat) : Int)) ∧ ((((((List.length a) : Nat) : Int) * ((24 : Nat) : Int)) ≤ ((140737488355328 : Nat) : Int)) ∧ (loopW (S := ((Unit × (Int × Unit)) × ((List (List Int)) × Unit))) (fun s => (fun next => ((inK IntKind.i64 s.1.2.1) → ((T.ok (T.sl (T.sl (T.int IntKind.i64))) s.2.1) → (cnd (decide (s.1.2.1 < (((List.length a) : Nat) : Int))) (((0 : Int) ≤ s.1.2.1) ∧ ((s.1.2.1 < (((List.length a) : Nat) : Int)) ∧ (((wR (T.sl (T.int IntKind.i64)) (List.getD a (Int.toNat s.1.2.1) ([] : List Int))) ≤ 1099511627776) ∧ (((0 : Int) ≤ s.1.2.1) ∧ ((s.1.2.1 < (((List.length s.2.1) : Nat) : Int)) ∧ ((inK IntKind.i64 (s.1.2.1 + (1 : Int))) ∧ (next (((), ((s.1.2.1 + (1 : Int)), ())), ((List.set s.2.1 (Int.toNat s.1.2.1) (List.getD a (Int.toNat s.1.2.1) ([] : List Int))), ()))))))))) (K (s.2.1, ()))))))) (((), ((0 : Int), ())), ((List.replicate (Int.toNat (((List.length a) : Nat) : Int)) ([] : List Int)), ())))))))
theorem w_laws_toInt64SS (x : denL c_laws_toInt64SS.args) (K : (List (List Int)) × Unit → Prop) : evF tab (lkp [(29, c_laws_toInt64S)]) (cutL []) Try.f45 (bodyOf Try.f45) (.s .n (.s .n (.s (.s .n (.l [(3, (.ref 7 [])), (4, (.d (.int .i64)))] [(7, (.sl (.sl (.fz (.int .i64)))))] [0] .n)) .n))) c_laws_toInt64SS x K = W_laws_toInt64SS x.1 K := by kernel_rfl
theorem k_laws_toInt64SS : okC Try.f45.ntmps (cutL []) (bodyOf Try.f45) = true := by kernel_rfl
theorem m_laws_toInt64SS (a : List (List Int)) (hok : allP (okL c_laws_toInt64SS.args (a, ()))) (hpre : allP (c_laws_toInt64SS.pre (a, ()))) : W_laws_toInt64SS a (fun r => r = c_laws_toInt64SS.res (a, ())) := by
  simp only [c_laws_toInt64SS, okL, T.oks, T.ok, ap, allP, true_and, and_true, implies_true] at hok hpre
  try dsimp only [T.den] at hok
  try dsimp only [T.den] at hpre
  unfold W_laws_toInt64SS
  rw [wR_sl] at hpre
  refine ⟨by omega, by omega, by first | omega | (rw [nb_eq]; omega), by first | omega | (rw [nb_eq]; omega), ?_⟩
  refine loop_of (fun (s : ((Unit × (Int × Unit)) × ((List (List Int)) × Unit))) => 0 ≤ s.1.2.1 ∧ s.1.2.1 ≤ a.length ∧ s.2.1.length = a.length ∧ s.2.1.take s.1.2.1.toNat = a.take s.1.2.1.toNat) (fun (s : ((Unit × (Int × Unit)) × ((List (List Int)) × Unit))) => (a.length - s.1.2.1).toNat) ?_ (by simp)
  rintro ⟨⟨_, i, _⟩, l, _⟩ next ⟨h0, h1, h2, h3⟩ hn hin hl
  simp only at h0 h1 h2 h3 hn ⊢
  refine cnd_d (fun hc => ?_) (fun hc => ?_)
  · have hm := wR_mem (e := (.sl (.int .i64))) (getD_mem a ([] : List Int) h0 hc)
    refine ⟨by omega, by omega, by omega, by omega, by omega, by grind [cnd, nb_eq, inK64], hn _ ⟨(by first | omega | (dsimp only; omega)), (by first | omega | (dsimp only; omega)), by simp [h2], ?_⟩ (by first | omega | (dsimp only; omega))⟩
    simp only
    rw [take_c a ([] : List Int) h0 hc, ← h3]
    exact take_set l h0 (by omega) _
  · rw [take_n a (by omega), take_n l (by omega)] at h3
    simp [h3, c_laws_toInt64SS]
theorem ct_laws_toInt64SS : CtOk Try.prog 45 c_laws_toInt64SS :=
  ct_by (Φ := lkp [(29, c_laws_toInt64S)]) (good_cons ct_laws_toInt64S good_nil) tab_ok (by kernel_rfl) (fn := Try.f45) (c := bodyOf Try.f45) (by kernel_rfl) (by kernel_rfl) (by kernel_rfl) c_laws_toInt64SS rfl (.s .n (.s .n (.s (.s .n (.l [(3, (.ref 7 [])), (4, (.d (.int .i64)))] [(7, (.sl (.sl (.fz (.int .i64)))))] [0] .n)) .n))) (cutL []) (by kernel_rfl) (by kernel_rfl) k_laws_toInt64SS (by decide) (fun x K => W_laws_toInt64SS x.1 K) w_laws_toInt64SS (fun x h1 h2 => m_laws_toInt64SS x.1 h1 h2)
def c_laws_toCategory : Ct := ⟨[CategoryT], [true], fun x => [wR CategoryT x.1 ≤ 1099511627776], [(true, CategoryO)], fun x => (x.1, ()), false, none⟩
def W_laws_toCategory (a : CategoryD) (K : CategoryD × Unit → Prop) : Prop := (((wR (T.sl (T.int IntKind.i64)) a.2.1) ≤ 1099511627776) ∧ (((wR (T.sl (T.int IntKind.i64)) a.2.2.1) ≤ 1099511627776) ∧ (((wR (T.sl (T.int IntKind.i64)) a.2.2.2.1) ≤ 1099511627776) ∧ (((wR (T.sl (T.sl (T.int IntKind.i64))) a.2.2.2.2) ≤ 1099511627776) ∧ (K (a, ()))))))
theorem w_laws_toCategory (x : denL c_laws_toCategory.args) (K : CategoryD × Unit → Prop) : evF tab (lkp [(29, c_laws_toInt64S), (45, c_laws_toInt64SS)]) (cutL []) Try.f21 (bodyOf Try.f21) .n c_laws_toCategory x K = W_laws_toCategory x.1 K := by kernel_rfl
theorem k_laws_toCategory : okC Try.f21.ntmps (cutL []) (bodyOf Try.f21) = true := by kernel_rfl
theorem m_laws_toCategory (a : CategoryD) (hok : allP (okL c_laws_toCategory.args (a, ()))) (hpre : allP (c_laws_toCategory.pre (a, ()))) : W_laws_toCategory a (fun r => r = c_laws_toCategory.res (a, ())) := by
  simp only [c_laws_toCategory, okL, T.oks, T.ok, ap, allP, true_and, and_true, implies_true] at hok hpre
  try dsimp only [T.den] at hok
  try dsimp only [T.den] at hpre
  unfold W_laws_toCategory
  simp only [wR_p, wR_int, wR_bool] at hpre
  repeat' apply And.intro
  all_goals first | rfl | ((try simp only [wR_p, wR_int, wR_bool]); omega)
theorem ct_laws_toCategory : CtOk Try.prog 21 c_laws_toCategory :=
  ct_by (Φ := lkp [(29, c_laws_toInt64S), (45, c_laws_toInt64SS)]) (good_cons ct_laws_toInt64S (good_cons ct_laws_toInt64SS good_nil)) tab_ok (by kernel_rfl) (fn := Try.f21) (c := bodyOf Try.f21) (by kernel_rfl) (by kernel_rfl) (by kernel_rfl) c_laws_toCategory rfl .n (cutL []) (by kernel_rfl) (by kernel_rfl) k_laws_toCategory (by decide) (fun x K => W_laws_toCategory x.1 K) w_laws_toCategory (fun x h1 h2 => m_laws_toCategory x.1 h1 h2)
def c_spec_l01Map : Ct := ⟨[(.int .i64), (.sl (.int .i64))], [false, false], fun x => [], [(false, (.fz .bool))], fun x => (withinR x.2.1 x.1, ()), false, none⟩
def W_spec_l01Map (n : Int) (f : List Int) (K : Bool × Unit → Prop) : Prop := (loopW (S := ((Int × Unit) × Unit)) (fun s => (fun next => ((inK IntKind.i64 s.1.1) → (cnd (decide (s.1.1 < (((List.length f) : Nat) : Int))) (((0 : Int) ≤ s.1.1) ∧ ((s.1.1 < (((List.length f) : Nat) : Int)) ∧ ((((decide ((List.getD f (Int.toNat s.1.1) (0 : Int)) < (0 : Int))) = Bool.false) → ((s.1.1 < (((List.length f) : Nat) : Int)) ∧ ((0 : Int) ≤ s.1.1))) ∧ (cnd ((decide ((List.getD f (Int.toNat s.1.1) (0 : Int)) < (0 : Int))) || (decide (n ≤ (List.getD f (Int.toNat s.1.1) (0 : Int))))) (K (Bool.false, ())) ((inK IntKind.i64 (s.1.1 + (1 : Int))) ∧ (next (((s.1.1 + (1 : Int)), ()), ()))))))) (K (Bool.true, ())))))) (((0 : Int), ()), ()))
theorem w_spec_l01Map (x : denL c_spec_l01Map.args) (K : Bool × Unit → Prop) : evF tab (lkp []) (cutL []) Try.f81 (bodyOf Try.f81) (.s .n (.s (.s .n (.l [(5, (.d (.int .i64)))] [] [0, 1] .n)) .n)) c_spec_l01Map x K = W_spec_l01Map x.1 x.2.1 K := by kernel_rfl
theorem k_spec_l01Map : okC Try.f81.ntmps (cutL []) (bodyOf Try.f81) = true := by kernel_rfl
theorem m_spec_l01Map (n : Int) (f : List Int) (hok : allP (okL c_spec_l01Map.args (n, f, ()))) (hpre : allP (c_spec_l01Map.pre (n, f, ()))) : W_spec_l01Map n f (fun r => r = c_spec_l01Map.res (n, f, ())) := by
  simp only [c_spec_l01Map, okL, T.oks, T.ok, ap, allP, true_and, and_true, implies_true] at hok hpre
  try dsimp only [T.den] at hok
  try dsimp only [T.den] at hpre
  unfold W_spec_l01Map
  refine loop_of (fun (s : ((Int × Unit) × Unit)) => 0 ≤ s.1.1 ∧ s.1.1 ≤ f.length ∧ withinR f n = withinR (f.drop s.1.1.toNat) n) (fun (s : ((Int × Unit) × Unit)) => (f.length - s.1.1).toNat) ?_ (by simp)
  rintro ⟨⟨i, _⟩, _⟩ next ⟨h0, h1, h2⟩ hn hin
  simp only at h0 h1 h2 hn ⊢
  refine cnd_d (fun hc => ?_) (fun hc => ?_)
  · rw [drop_c f 0 h0 hc] at h2
    simp only [withinR, List.all_cons] at h2
    grind [cnd, nb_eq, inK64, c_spec_l01Map, withinR, inR]
  · rw [drop_n f (by omega)] at h2
    grind [cnd, nb_eq, inK64, c_spec_l01Map, withinR]
theorem ct_spec_l01Map : CtOk Try.prog 81 c_spec_l01Map :=
  ct_by (Φ := lkp []) good_nil tab_ok (by kernel_rfl) (fn := Try.f81) (c := bodyOf Try.f81) (by kernel_rfl) (by kernel_rfl) (by kernel_rfl) c_spec_l01Map rfl (.s .n (.s (.s .n (.l [(5, (.d (.int .i64)))] [] [0, 1] .n)) .n)) (cutL []) (by kernel_rfl) (by kernel_rfl) k_spec_l01Map (by decide) (fun x K => W_spec_l01Map x.1 x.2.1 K) w_spec_l01Map (fun x h1 h2 => m_spec_l01Map x.1 x.2.1 h1 h2)
def c_spec_l01In : Ct := ⟨[(.int .i64), (.int .i64), (.int .i64)], [false, false, false], fun x => [], [(false, (.fz .bool))], fun x => (inR x.1 x.2.1 x.2.2.1, ()), false, none⟩
def W_spec_l01In (n : Int) (low : Int) (high : Int) (K : Bool × Unit → Prop) : Prop := (K (((decide (low ≤ n)) && (decide (n ≤ high))), ()))
theorem w_spec_l01In (x : denL c_spec_l01In.args) (K : Bool × Unit → Prop) : evF tab (lkp []) (cutL []) Try.f127 (bodyOf Try.f127) .n c_spec_l01In x K = W_spec_l01In x.1 x.2.1 x.2.2.1 K := by kernel_rfl
theorem k_spec_l01In : okC Try.f127.ntmps (cutL []) (bodyOf Try.f127) = true := by kernel_rfl
theorem m_spec_l01In (n : Int) (low : Int) (high : Int) (hok : allP (okL c_spec_l01In.args (n, low, high, ()))) (hpre : allP (c_spec_l01In.pre (n, low, high, ()))) : W_spec_l01In n low high (fun r => r = c_spec_l01In.res (n, low, high, ())) := by
  simp only [c_spec_l01In, okL, T.oks, T.ok, ap, allP, true_and, and_true, implies_true] at hok hpre
  try dsimp only [T.den] at hok
  try dsimp only [T.den] at hpre
  unfold W_spec_l01In
  grind [cnd, nb_eq, inK64, c_spec_l01In, inR]
theorem ct_spec_l01In : CtOk Try.prog 127 c_spec_l01In :=
  ct_by (Φ := lkp []) good_nil tab_ok (by kernel_rfl) (fn := Try.f127) (c := bodyOf Try.f127) (by kernel_rfl) (by kernel_rfl) (by kernel_rfl) c_spec_l01In rfl .n (cutL []) (by kernel_rfl) (by kernel_rfl) k_spec_l01In (by decide) (fun x K => W_spec_l01In x.1 x.2.1 x.2.2.1 K) w_spec_l01In (fun x h1 h2 => m_spec_l01In x.1 x.2.1 x.2.2.1 h1 h2)
def c_spec_l02Ends : Ct := ⟨[(.sl (.int .i64)), (.int .i64), (.int .i64)], [false, false, false], fun x => [], [(false, (.fz .bool))], fun x => ((decide ((x.1.length : Int) = x.2.1) && withinR x.1 x.2.2.1), ()), false, none⟩
def W_spec_l02Ends (list : List Int) (length : Int) (objects : Int) (K : Bool × Unit → Prop) : Prop := (K ((((((List.length list) : Nat) : Int) == length) && (withinR list objects)), ()))
theorem w_spec_l02Ends (x : denL c_spec_l02Ends.args) (K : Bool × Unit → Prop) : evF tab (lkp [(81, c_spec_l01Map)]) (cutL []) Try.f135 (bodyOf Try.f135) .n c_spec_l02Ends x K = W_spec_l02Ends x.1 x.2.1 x.2.2.1 K := by kernel_rfl
theorem k_spec_l02Ends : okC Try.f135.ntmps (cutL []) (bodyOf Try.f135) = true := by kernel_rfl
theorem m_spec_l02Ends (list : List Int) (length : Int) (objects : Int) (hok : allP (okL c_spec_l02Ends.args (list, length, objects, ()))) (hpre : allP (c_spec_l02Ends.pre (list, length, objects, ()))) : W_spec_l02Ends list length objects (fun r => r = c_spec_l02Ends.res (list, length, objects, ())) := by
  simp only [c_spec_l02Ends, okL, T.oks, T.ok, ap, allP, true_and, and_true, implies_true] at hok hpre
  try dsimp only [T.den] at hok
  try dsimp only [T.den] at hpre
  unfold W_spec_l02Ends
  have : ((list.length : Int) == length) = decide ((list.length : Int) = length) := rfl
  simp only [c_spec_l02Ends, this]
theorem ct_spec_l02Ends : CtOk Try.prog 135 c_spec_l02Ends :=
  ct_by (Φ := lkp [(81, c_spec_l01Map)]) (good_cons ct_spec_l01Map good_nil) tab_ok (by kernel_rfl) (fn := Try.f135) (c := bodyOf Try.f135) (by kernel_rfl) (by kernel_rfl) (by kernel_rfl) c_spec_l02Ends rfl .n (cutL []) (by kernel_rfl) (by kernel_rfl) k_spec_l02Ends (by decide) (fun x K => W_spec_l02Ends x.1 x.2.1 x.2.2.1 K) w_spec_l02Ends (fun x h1 h2 => m_spec_l02Ends x.1 x.2.1 x.2.2.1 h1 h2)
def c_spec_IsShape : Ct := ⟨[CategoryT], [true], fun x => [], [(false, (.fz .bool))], fun x => (shapeR x.1, ()), false, none⟩
def W_spec_IsShape (c : CategoryD) (K : Bool × Unit → Prop) : Prop := (cnd (((((!(inR c.1 (0 : Int) (8 : Int))) || (decide ((40 : Int) < (((List.length c.2.1) : Nat) : Int)))) || (!((decide ((((List.length c.2.1) : Nat) : Int) = (((List.length c.2.1) : Nat) : Int))) && (withinR c.2.1 c.1)))) || (!((decide ((((List.length c.2.2.1) : Nat) : Int) = (((List.length c.2.1) : Nat) : Int))) && (withinR c.2.2.1 c.1)))) || ((((List.length c.2.2.2.2) : Nat) : Int) != (((List.length c.2.1) : Nat) : Int))) (K (Bool.false, ())) (cnd (((((List.length c.2.2.2.1) : Nat) : Int) != c.1) || (!(withinR c.2.2.2.1 (((List.length c.2.1) : Nat) : Int)))) (K (Bool.false, ())) (loopW (S := ((Int × Unit) × Unit)) (fun s => (fun next => ((inK IntKind.i64 s.1.1) → (cnd (decide (s.1.1 < c.1)) (((0 : Int) ≤ s.1.1) ∧ ((s.1.1 < (((List.length c.2.2.2.1) : Nat) : Int)) ∧ (((0 : Int) ≤ (List.getD c.2.2.2.1 (Int.toNat s.1.1) (0 : Int))) ∧ (((List.getD c.2.2.2.1 (Int.toNat s.1.1) (0 : Int)) < (((List.length c.2.1) : Nat) : Int)) ∧ (((((List.getD c.2.1 (Int.toNat (List.getD c.2.2.2.1 (Int.toNat s.1.1) (0 : Int))) (0 : Int)) != s.1.1) = Bool.false) → ((s.1.1 < (((List.length c.2.2.2.1) : Nat) : Int)) ∧ ((0 : Int) ≤ s.1.1))) ∧ (((((List.getD c.2.1 (Int.toNat (List.getD c.2.2.2.1 (Int.toNat s.1.1) (0 : Int))) (0 : Int)) != s.1.1) = Bool.false) → (((List.getD c.2.2.2.1 (Int.toNat s.1.1) (0 : Int)) < (((List.length c.2.2.1) : Nat) : Int)) ∧ ((0 : Int) ≤ (List.getD c.2.2.2.1 (Int.toNat s.1.1) (0 : Int))))) ∧ (cnd (((List.getD c.2.1 (Int.toNat (List.getD c.2.2.2.1 (Int.toNat s.1.1) (0 : Int))) (0 : Int)) != s.1.1) || ((List.getD c.2.2.1 (Int.toNat (List.getD c.2.2.2.1 (Int.toNat s.1.1) (0 : Int))) (0 : Int)) != s.1.1)) (K (Bool.false, ())) ((inK IntKind.i64 (s.1.1 + (1 : Int))) ∧ (next (((s.1.1 + (1 : Int)), ()), ())))))))))) (loopW (S := ((Int × Unit) × Unit)) (fun s1 => (fun next1 => ((inK IntKind.i64 s1.1.1) → (cnd (decide (s1.1.1 < (((List.length c.2.1) : Nat) : Int))) (((0 : Int) ≤ s1.1.1) ∧ ((s1.1.1 < (((List.length c.2.2.2.2) : Nat) : Int)) ∧ (cnd ((((List.length (List.getD c.2.2.2.2 (Int.toNat s1.1.1) ([] : List Int))) : Nat) : Int) != (((List.length c.2.1) : Nat) : Int)) (K (Bool.false, ())) (loopW (S := ((Int × Unit) × Unit)) (fun s2 => (fun next2 => ((inK IntKind.i64 s2.1.1) → (cnd (decide (s2.1.1 < (((List.length c.2.1) : Nat) : Int))) (joinW (S := (Unit × Unit)) (fun s3 => ((inK IntKind.i64 (s2.1.1 + (1 : Int))) ∧ (next2 (((s2.1.1 + (1 : Int)), ()), ())))) (fun k => (((0 : Int) ≤ s1.1.1) ∧ ((s1.1.1 < (((List.length c.2.2.2.2) : Nat) : Int)) ∧ (((0 : Int) ≤ s2.1.1) ∧ ((s2.1.1 < (((List.length (List.getD c.2.2.2.2 (Int.toNat s1.1.1) ([] : List Int))) : Nat) : Int)) ∧ (((0 : Int) ≤ s1.1.1) ∧ ((s1.1.1 < (((List.length c.2.2.1) : Nat) : Int)) ∧ (((0 : Int) ≤ s2.1.1) ∧ ((s2.1.1 < (((List.length c.2.1) : Nat) : Int)) ∧ (cnd ((List.getD c.2.2.1 (Int.toNat s1.1.1) (0 : Int)) != (List.getD c.2.1 (Int.toNat s2.1.1) (0 : Int))) (cnd ((List.getD (List.getD c.2.2.2.2 (Int.toNat s1.1.1) ([] : List Int)) (Int.toNat s2.1.1) (0 : Int)) != (-(1 : Int))) (K (Bool.false, ())) (k ((), ()))) (((((decide ((List.getD (List.getD c.2.2.2.2 (Int.toNat s1.1.1) ([] : List Int)) (Int.toNat s2.1.1) (0 : Int)) < (0 : Int))) || (decide ((((List.length c.2.1) : Nat) : Int) ≤ (List.getD (List.getD c.2.2.2.2 (Int.toNat s1.1.1) ([] : List Int)) (Int.toNat s2.1.1) (0 : Int))))) = Bool.false) → (((List.getD (List.getD c.2.2.2.2 (Int.toNat s1.1.1) ([] : List Int)) (Int.toNat s2.1.1) (0 : Int)) < (((List.length c.2.1) : Nat) : Int)) ∧ ((0 : Int) ≤ (List.getD (List.getD c.2.2.2.2 (Int.toNat s1.1.1) ([] : List Int)) (Int.toNat s2.1.1) (0 : Int))))) ∧ (((((decide ((List.getD (List.getD c.2.2.2.2 (Int.toNat s1.1.1) ([] : List Int)) (Int.toNat s2.1.1) (0 : Int)) < (0 : Int))) || (decide ((((List.length c.2.1) : Nat) : Int) ≤ (List.getD (List.getD c.2.2.2.2 (Int.toNat s1.1.1) ([] : List Int)) (Int.toNat s2.1.1) (0 : Int))))) = Bool.false) → ((s1.1.1 < (((List.length c.2.1) : Nat) : Int)) ∧ ((0 : Int) ≤ s1.1.1))) ∧ ((((((decide ((List.getD (List.getD c.2.2.2.2 (Int.toNat s1.1.1) ([] : List Int)) (Int.toNat s2.1.1) (0 : Int)) < (0 : Int))) || (decide ((((List.length c.2.1) : Nat) : Int) ≤ (List.getD (List.getD c.2.2.2.2 (Int.toNat s1.1.1) ([] : List Int)) (Int.toNat s2.1.1) (0 : Int))))) || ((List.getD c.2.1 (Int.toNat (List.getD (List.getD c.2.2.2.2 (Int.toNat s1.1.1) ([] : List Int)) (Int.toNat s2.1.1) (0 : Int))) (0 : Int)) != (List.getD c.2.1 (Int.toNat s1.1.1) (0 : Int)))) = Bool.false) → (((List.getD (List.getD c.2.2.2.2 (Int.toNat s1.1.1) ([] : List Int)) (Int.toNat s2.1.1) (0 : Int)) < (((List.length c.2.2.1) : Nat) : Int)) ∧ ((0 : Int) ≤ (List.getD (List.getD c.2.2.2.2 (Int.toNat s1.1.1) ([] : List Int)) (Int.toNat s2.1.1) (0 : Int))))) ∧ ((((((decide ((List.getD (List.getD c.2.2.2.2 (Int.toNat s1.1.1) ([] : List Int)) (Int.toNat s2.1.1) (0 : Int)) < (0 : Int))) || (decide ((((List.length c.2.1) : Nat) : Int) ≤ (List.getD (List.getD c.2.2.2.2 (Int.toNat s1.1.1) ([] : List Int)) (Int.toNat s2.1.1) (0 : Int))))) || ((List.getD c.2.1 (Int.toNat (List.getD (List.getD c.2.2.2.2 (Int.toNat s1.1.1) ([] : List Int)) (Int.toNat s2.1.1) (0 : Int))) (0 : Int)) != (List.getD c.2.1 (Int.toNat s1.1.1) (0 : Int)))) = Bool.false) → ((s2.1.1 < (((List.length c.2.2.1) : Nat) : Int)) ∧ ((0 : Int) ≤ s2.1.1))) ∧ (cnd ((((decide ((List.getD (List.getD c.2.2.2.2 (Int.toNat s1.1.1) ([] : List Int)) (Int.toNat s2.1.1) (0 : Int)) < (0 : Int))) || (decide ((((List.length c.2.1) : Nat) : Int) ≤ (List.getD (List.getD c.2.2.2.2 (Int.toNat s1.1.1) ([] : List Int)) (Int.toNat s2.1.1) (0 : Int))))) || ((List.getD c.2.1 (Int.toNat (List.getD (List.getD c.2.2.2.2 (Int.toNat s1.1.1) ([] : List Int)) (Int.toNat s2.1.1) (0 : Int))) (0 : Int)) != (List.getD c.2.1 (Int.toNat s1.1.1) (0 : Int)))) || ((List.getD c.2.2.1 (Int.toNat (List.getD (List.getD c.2.2.2.2 (Int.toNat s1.1.1) ([] : List Int)) (Int.toNat s2.1.1) (0 : Int))) (0 : Int)) != (List.getD c.2.2.1 (Int.toNat s2.1.1) (0 : Int)))) (K (Bool.false, ())) (k ((), ())))))))))))))))))) ((inK IntKind.i64 (s1.1.1 + (1 : Int))) ∧ (next1 (((s1.1.1 + (1 : Int)), ()), ()))))))) (((0 : Int), ()), ()))))) (K (Bool.true, ())))))) (((0 : Int), ()), ())))))) (((0 : Int), ()), ()))))
theorem w_spec_IsShape (x : denL c_spec_IsShape.args) (K : Bool × Unit → Prop) : evF tab (lkp [(127, c_spec_l01In), (81, c_spec_l01Map), (135, c_spec_l02Ends)]) (cutL [(20, 11), (23, 33), (9, 24)]) Try.f96 (bodyOf Try.f96) (.s .n (.s .n (.s .n (.s .n (.s (.s .n (.l [(4, (.d (.int .i64)))] [] [1, 3] .n)) (.s (.s .n (.l [(5, (.d (.int .i64)))] [] [1, 3] (.s .n (.s (.s .n (.s .n (.l [(6, (.d (.int .i64)))] [] [1, 3, 5] (.s .n (.s (.j [] [] [1, 3, 5, 6] .n) .n))))) .n)))) .n)))))) c_spec_IsShape x K = W_spec_IsShape x.1 K := by kernel_rfl
theorem k_spec_IsShape : okC Try.f96.ntmps (cutL [(20, 11), (23, 33), (9, 24)]) (bodyOf Try.f96) = true := by kernel_rfl
theorem m_spec_IsShape (c : CategoryD) (hok : allP (okL c_spec_IsShape.args (c, ()))) (hpre : allP (c_spec_IsShape.pre (c, ()))) : W_spec_IsShape c (fun r => r = c_spec_IsShape.res (c, ())) := by
  simp only [c_spec_IsShape, okL, T.oks, T.ok, ap, allP, true_and, and_true, implies_true] at hok hpre
  try dsimp only [T.den] at hok
  try dsimp only [T.den] at hpre
  unfold W_spec_IsShape
  have bad : ¬ ShapeP c → (false, ()) = c_spec_IsShape.res (c, ()) := fun h => by simp only [c_spec_IsShape]; rw [shape_f h]
  refine cnd_of (fun hc => bad fun h => ?_) (fun hc => cnd_of (fun hd => bad fun h => ?_) (fun hd => ?_))
  · have h1 := h.ob; have h2 := h.m; have h3 := h.lt; have h4 := h.fr; have h5 := h.to; have h6 := h.lc; simp only [inR] at hc; grind [cnd, nb_eq, inK64]
  · have h1 := h.li; have h2 := h.ids; grind [cnd, nb_eq, inK64]
  simp only [inR, Bool.or_eq_false_iff, Bool.not_eq_false', Bool.and_eq_true, decide_eq_true_eq, decide_eq_false_iff_not, bne_eq_false_iff_eq] at hc hd
  obtain ⟨⟨⟨⟨hob, hm⟩, _, hfr⟩, hlt, hto⟩, hlc⟩ := hc
  obtain ⟨hli, hids⟩ := hd
  refine loop_ix (n := c.1) (fun x => ∀ y : Int, 0 ≤ y → y < x → c.2.1.getD (c.2.2.2.1.getD y.toNat 0).toNat 0 = y ∧ c.2.2.1.getD (c.2.2.2.1.getD y.toNat 0).toNat 0 = y) (by omega) (by intro y h0 h1; omega) ?_ ?_
  · intro x next h0 h1 hP hn hin
    have hb := within_iff.1 hids x h0 (by omega)
    try dsimp only
    refine cnd_d (fun _ => ⟨h0, by omega, hb.1, hb.2, fun _ => by omega, fun _ => by omega, cnd_of (fun hx => bad fun h => ?_) (fun hx => ?_)⟩) (fun h => absurd h1 h)
    · have := h.idt x h0 (by omega)
      rw [this.1, this.2] at hx
      simp at hx
    · simp only [Bool.or_eq_false_iff, bne_eq_false_iff_eq] at hx
      refine ⟨by rw [inK64]; (try dsimp only); omega, hn fun y y0 y1 => ?_⟩
      by_cases e : y = x
      · rw [e]; exact hx
      · exact hP y y0 (by omega)
  intro next hidt hin
  refine cnd_d (fun h => absurd h (by dsimp only; omega)) (fun _ => ?_)
  refine loop_ix (n := c.2.1.length) (fun f => ∀ f' : Int, 0 ≤ f' → f' < f → (c.2.2.2.2.getD f'.toNat []).length = c.2.1.length ∧ ∀ g : Int, 0 ≤ g → g < c.2.1.length → cellR c f' g = true) (by omega) (by intro y h0 h1; omega) ?_ ?_
  · intro f next h0 h1 hP hn hin
    try dsimp only
    refine cnd_d (fun _ => ⟨h0, by omega, cnd_of (fun hx => bad fun h => ?_) (fun hx => ?_)⟩) (fun h => absurd h1 h)
    · have := h.row f h0 (by omega)
      rw [this] at hx
      simp at hx
    simp only [bne_eq_false_iff_eq] at hx
    refine loop_ix (n := c.2.1.length) (fun g => ∀ g' : Int, 0 ≤ g' → g' < g → cellR c f g' = true) (by omega) (by intro y h0 h1; omega) ?_ ?_
    · intro g next3 g0 g1 hP3 hn3 hin3
      try dsimp only
      refine cnd_d (fun _ => ?_) (fun h => absurd g1 h)
      refine join_of (fun _ => cellR c f g = true) (fun _ hcell => ⟨by rw [inK64]; (try dsimp only); omega, hn3 fun g' y0 y1 => ?_⟩) (fun k hk => ?_)
      · by_cases e : g' = g
        · rw [e]; exact hcell
        · exact hP3 g' y0 (by omega)
      have hcell : ∀ b, cellR c f g = b → b = false → ¬ ShapeP c := fun b h1 h2 h => by
        have := h.cell f g h0 (by omega) g0 (by omega)
        rw [h1, h2] at this; cases this
      have hk' := hk ((), ())
      obtain ⟨v, hv⟩ : ∃ v, (c.2.2.2.2.getD f.toNat []).getD g.toNat 0 = v := ⟨_, rfl⟩
      have hR : cellR c f g = cellQ c f g v := by unfold cellR compR; rw [hv]
      rw [hR] at hk'
      rw [hR] at hcell
      rw [hv]
      clear hP3 hn3 hP hn hk hR hv hidt hok
      refine ⟨h0, by omega, g0, by omega, h0, by omega, g0, by omega, cnd_of (fun ha => cnd_of (fun hb => bad ?_) (fun hb => hk' ?_)) (fun ha => ⟨fun hv => ?_, fun _ => ⟨by omega, h0⟩, fun hv => ?_, fun _ => ⟨by omega, g0⟩, cnd_of (fun hb => bad ?_) (fun hb => hk' ?_)⟩)⟩
      · exact hcell _ rfl (by grind [cnd, nb_eq, inK64, cellQ])
      · grind [cnd, nb_eq, inK64, cellQ]
      · simp only [Bool.or_eq_false_iff, decide_eq_false_iff_not] at hv; omega
      · simp only [Bool.or_eq_false_iff, decide_eq_false_iff_not] at hv; omega
      · exact hcell _ rfl (by grind [cnd, nb_eq, inK64, cellQ])
      · grind [cnd, nb_eq, inK64, cellQ]
    · intro next3 hP3 hin3
      refine cnd_d (fun h => absurd h (by dsimp only; omega)) (fun _ => ⟨by rw [inK64]; (try dsimp only); omega, hn fun f' y0 y1 => ?_⟩)
      by_cases e : f' = f
      · rw [e]; exact ⟨by omega, fun g g0 g1 => hP3 g g0 (by omega)⟩
      · exact hP f' y0 (by omega)
  · intro next2 hP2 hin2
    refine cnd_d (fun h => absurd h (by dsimp only; omega)) (fun _ => ?_)
    simp only [c_spec_IsShape]
    rw [shape_t ⟨hob, by omega, by omega, hfr, hto, by omega, hids, by omega, fun x a b => hidt x a (by omega), fun f a b => (hP2 f a (by omega)).1, fun f g a b d e => (hP2 f a (by omega)).2 g d e⟩]
theorem ct_spec_IsShape : CtOk Try.prog 96 c_spec_IsShape :=
  ct_by (Φ := lkp [(127, c_spec_l01In), (81, c_spec_l01Map), (135, c_spec_l02Ends)]) (good_cons ct_spec_l01In (good_cons ct_spec_l01Map (good_cons ct_spec_l02Ends good_nil))) tab_ok (by kernel_rfl) (fn := Try.f96) (c := bodyOf Try.f96) (by kernel_rfl) (by kernel_rfl) (by kernel_rfl) c_spec_IsShape rfl (.s .n (.s .n (.s .n (.s .n (.s (.s .n (.l [(4, (.d (.int .i64)))] [] [1, 3] .n)) (.s (.s .n (.l [(5, (.d (.int .i64)))] [] [1, 3] (.s .n (.s (.s .n (.s .n (.l [(6, (.d (.int .i64)))] [] [1, 3, 5] (.s .n (.s (.j [] [] [1, 3, 5, 6] .n) .n))))) .n)))) .n)))))) (cutL [(20, 11), (23, 33), (9, 24)]) (by kernel_rfl) (by kernel_rfl) k_spec_IsShape (by decide) (fun x K => W_spec_IsShape x.1 K) w_spec_IsShape (fun x h1 h2 => m_spec_IsShape x.1 h1 h2)
def c_spec_l02Fault : Ct := ⟨[CategoryT], [true], fun x => [ShapeP x.1], [(false, (.fz (.int .i64))), (false, (.fz (.int .i64))), (false, (.fz (.int .i64))), (false, (.fz (.int .i64)))], fun x => ((faultR x.1).1, (faultR x.1).2.1, (faultR x.1).2.2.1, (faultR x.1).2.2.2, ()), false, none⟩
def W_spec_l02Fault (c : CategoryD) (K : Int × Int × Int × Int × Unit → Prop) : Prop := (loopW (S := ((Int × Unit) × Unit)) (fun s => (fun next => ((inK IntKind.i64 s.1.1) → (cnd (decide (s.1.1 < (((List.length c.2.1) : Nat) : Int))) (((0 : Int) ≤ s.1.1) ∧ ((s.1.1 < (((List.length c.2.1) : Nat) : Int)) ∧ (((0 : Int) ≤ (List.getD c.2.1 (Int.toNat s.1.1) (0 : Int))) ∧ (((List.getD c.2.1 (Int.toNat s.1.1) (0 : Int)) < (((List.length c.2.2.2.1) : Nat) : Int)) ∧ (((0 : Int) ≤ (List.getD c.2.2.2.1 (Int.toNat (List.getD c.2.1 (Int.toNat s.1.1) (0 : Int))) (0 : Int))) ∧ (((List.getD c.2.2.2.1 (Int.toNat (List.getD c.2.1 (Int.toNat s.1.1) (0 : Int))) (0 : Int)) < (((List.length c.2.2.2.2) : Nat) : Int)) ∧ (((0 : Int) ≤ s.1.1) ∧ ((s.1.1 < (((List.length (List.getD c.2.2.2.2 (Int.toNat (List.getD c.2.2.2.1 (Int.toNat (List.getD c.2.1 (Int.toNat s.1.1) (0 : Int))) (0 : Int))) ([] : List Int))) : Nat) : Int)) ∧ (((((List.getD (List.getD c.2.2.2.2 (Int.toNat (List.getD c.2.2.2.1 (Int.toNat (List.getD c.2.1 (Int.toNat s.1.1) (0 : Int))) (0 : Int))) ([] : List Int)) (Int.toNat s.1.1) (0 : Int)) != s.1.1) = Bool.false) → ((s.1.1 < (((List.length c.2.2.2.2) : Nat) : Int)) ∧ ((0 : Int) ≤ s.1.1))) ∧ (((((List.getD (List.getD c.2.2.2.2 (Int.toNat (List.getD c.2.2.2.1 (Int.toNat (List.getD c.2.1 (Int.toNat s.1.1) (0 : Int))) (0 : Int))) ([] : List Int)) (Int.toNat s.1.1) (0 : Int)) != s.1.1) = Bool.false) → ((s.1.1 < (((List.length c.2.2.1) : Nat) : Int)) ∧ ((0 : Int) ≤ s.1.1))) ∧ (((((List.getD (List.getD c.2.2.2.2 (Int.toNat (List.getD c.2.2.2.1 (Int.toNat (List.getD c.2.1 (Int.toNat s.1.1) (0 : Int))) (0 : Int))) ([] : List Int)) (Int.toNat s.1.1) (0 : Int)) != s.1.1) = Bool.false) → (((List.getD c.2.2.1 (Int.toNat s.1.1) (0 : Int)) < (((List.length c.2.2.2.1) : Nat) : Int)) ∧ ((0 : Int) ≤ (List.getD c.2.2.1 (Int.toNat s.1.1) (0 : Int))))) ∧ (((((List.getD (List.getD c.2.2.2.2 (Int.toNat (List.getD c.2.2.2.1 (Int.toNat (List.getD c.2.1 (Int.toNat s.1.1) (0 : Int))) (0 : Int))) ([] : List Int)) (Int.toNat s.1.1) (0 : Int)) != s.1.1) = Bool.false) → (((List.getD c.2.2.2.1 (Int.toNat (List.getD c.2.2.1 (Int.toNat s.1.1) (0 : Int))) (0 : Int)) < (((List.length (List.getD c.2.2.2.2 (Int.toNat s.1.1) ([] : List Int))) : Nat) : Int)) ∧ ((0 : Int) ≤ (List.getD c.2.2.2.1 (Int.toNat (List.getD c.2.2.1 (Int.toNat s.1.1) (0 : Int))) (0 : Int))))) ∧ (cnd (((List.getD (List.getD c.2.2.2.2 (Int.toNat (List.getD c.2.2.2.1 (Int.toNat (List.getD c.2.1 (Int.toNat s.1.1) (0 : Int))) (0 : Int))) ([] : List Int)) (Int.toNat s.1.1) (0 : Int)) != s.1.1) || ((List.getD (List.getD c.2.2.2.2 (Int.toNat s.1.1) ([] : List Int)) (Int.toNat (List.getD c.2.2.2.1 (Int.toNat (List.getD c.2.2.1 (Int.toNat s.1.1) (0 : Int))) (0 : Int))) (0 : Int)) != s.1.1)) (K ((1 : Int), (s.1.1, ((0 : Int), ((0 : Int), ()))))) ((inK IntKind.i64 (s.1.1 + (1 : Int))) ∧ (next (((s.1.1 + (1 : Int)), ()), ())))))))))))))))) (loopW (S := ((Int × Unit) × Unit)) (fun s1 => (fun next1 => ((inK IntKind.i64 s1.1.1) → (cnd (decide (s1.1.1 < (((List.length c.2.1) : Nat) : Int))) (loopW (S := ((Int × Unit) × Unit)) (fun s2 => (fun next2 => ((inK IntKind.i64 s2.1.1) → (cnd (decide (s2.1.1 < (((List.length c.2.1) : Nat) : Int))) (joinW (S := (Unit × Unit)) (fun s3 => ((inK IntKind.i64 (s2.1.1 + (1 : Int))) ∧ (next2 (((s2.1.1 + (1 : Int)), ()), ())))) (fun k => (((0 : Int) ≤ s1.1.1) ∧ ((s1.1.1 < (((List.length c.2.2.1) : Nat) : Int)) ∧ (((0 : Int) ≤ s2.1.1) ∧ ((s2.1.1 < (((List.length c.2.1) : Nat) : Int)) ∧ (cnd ((List.getD c.2.2.1 (Int.toNat s1.1.1) (0 : Int)) != (List.getD c.2.1 (Int.toNat s2.1.1) (0 : Int))) (k ((), ())) (loopW (S := ((Int × Unit) × Unit)) (fun s3 => (fun next3 => ((inK IntKind.i64 s3.1.1) → (cnd (decide (s3.1.1 < (((List.length c.2.1) : Nat) : Int))) (((0 : Int) ≤ s2.1.1) ∧ ((s2.1.1 < (((List.length c.2.2.1) : Nat) : Int)) ∧ (((0 : Int) ≤ s3.1.1) ∧ ((s3.1.1 < (((List.length c.2.1) : Nat) : Int)) ∧ (((((List.getD c.2.2.1 (Int.toNat s2.1.1) (0 : Int)) == (List.getD c.2.1 (Int.toNat s3.1.1) (0 : Int))) = Bool.true) → ((s1.1.1 < (((List.length c.2.2.2.2) : Nat) : Int)) ∧ ((0 : Int) ≤ s1.1.1))) ∧ (((((List.getD c.2.2.1 (Int.toNat s2.1.1) (0 : Int)) == (List.getD c.2.1 (Int.toNat s3.1.1) (0 : Int))) = Bool.true) → ((s2.1.1 < (((List.length (List.getD c.2.2.2.2 (Int.toNat s1.1.1) ([] : List Int))) : Nat) : Int)) ∧ ((0 : Int) ≤ s2.1.1))) ∧ (((((List.getD c.2.2.1 (Int.toNat s2.1.1) (0 : Int)) == (List.getD c.2.1 (Int.toNat s3.1.1) (0 : Int))) = Bool.true) → (((List.getD (List.getD c.2.2.2.2 (Int.toNat s1.1.1) ([] : List Int)) (Int.toNat s2.1.1) (0 : Int)) < (((List.length c.2.2.2.2) : Nat) : Int)) ∧ ((0 : Int) ≤ (List.getD (List.getD c.2.2.2.2 (Int.toNat s1.1.1) ([] : List Int)) (Int.toNat s2.1.1) (0 : Int))))) ∧ (((((List.getD c.2.2.1 (Int.toNat s2.1.1) (0 : Int)) == (List.getD c.2.1 (Int.toNat s3.1.1) (0 : Int))) = Bool.true) → ((s3.1.1 < (((List.length (List.getD c.2.2.2.2 (Int.toNat (List.getD (List.getD c.2.2.2.2 (Int.toNat s1.1.1) ([] : List Int)) (Int.toNat s2.1.1) (0 : Int))) ([] : List Int))) : Nat) : Int)) ∧ ((0 : Int) ≤ s3.1.1))) ∧ (((((List.getD c.2.2.1 (Int.toNat s2.1.1) (0 : Int)) == (List.getD c.2.1 (Int.toNat s3.1.1) (0 : Int))) = Bool.true) → ((s1.1.1 < (((List.length c.2.2.2.2) : Nat) : Int)) ∧ ((0 : Int) ≤ s1.1.1))) ∧ (((((List.getD c.2.2.1 (Int.toNat s2.1.1) (0 : Int)) == (List.getD c.2.1 (Int.toNat s3.1.1) (0 : Int))) = Bool.true) → ((s2.1.1 < (((List.length c.2.2.2.2) : Nat) : Int)) ∧ ((0 : Int) ≤ s2.1.1))) ∧ (((((List.getD c.2.2.1 (Int.toNat s2.1.1) (0 : Int)) == (List.getD c.2.1 (Int.toNat s3.1.1) (0 : Int))) = Bool.true) → ((s3.1.1 < (((List.length (List.getD c.2.2.2.2 (Int.toNat s2.1.1) ([] : List Int))) : Nat) : Int)) ∧ ((0 : Int) ≤ s3.1.1))) ∧ (((((List.getD c.2.2.1 (Int.toNat s2.1.1) (0 : Int)) == (List.getD c.2.1 (Int.toNat s3.1.1) (0 : Int))) = Bool.true) → (((List.getD (List.getD c.2.2.2.2 (Int.toNat s2.1.1) ([] : List Int)) (Int.toNat s3.1.1) (0 : Int)) < (((List.length (List.getD c.2.2.2.2 (Int.toNat s1.1.1) ([] : List Int))) : Nat) : Int)) ∧ ((0 : Int) ≤ (List.getD (List.getD c.2.2.2.2 (Int.toNat s2.1.1) ([] : List Int)) (Int.toNat s3.1.1) (0 : Int))))) ∧ (cnd (((List.getD c.2.2.1 (Int.toNat s2.1.1) (0 : Int)) == (List.getD c.2.1 (Int.toNat s3.1.1) (0 : Int))) && ((List.getD (List.getD c.2.2.2.2 (Int.toNat (List.getD (List.getD c.2.2.2.2 (Int.toNat s1.1.1) ([] : List Int)) (Int.toNat s2.1.1) (0 : Int))) ([] : List Int)) (Int.toNat s3.1.1) (0 : Int)) != (List.getD (List.getD c.2.2.2.2 (Int.toNat s1.1.1) ([] : List Int)) (Int.toNat (List.getD (List.getD c.2.2.2.2 (Int.toNat s2.1.1) ([] : List Int)) (Int.toNat s3.1.1) (0 : Int))) (0 : Int)))) (K ((2 : Int), (s1.1.1, (s2.1.1, (s3.1.1, ()))))) ((inK IntKind.i64 (s3.1.1 + (1 : Int))) ∧ (next3 (((s3.1.1 + (1 : Int)), ()), ())))))))))))))))) (k ((), ())))))) (((0 : Int), ()), ()))))))))) ((inK IntKind.i64 (s1.1.1 + (1 : Int))) ∧ (next1 (((s1.1.1 + (1 : Int)), ()), ()))))))) (((0 : Int), ()), ())) (K ((0 : Int), ((0 : Int), ((0 : Int), ((0 : Int), ()))))))))) (((0 : Int), ()), ())))))) (((0 : Int), ()), ()))
theorem w_spec_l02Fault (x : denL c_spec_l02Fault.args) (K : Int × Int × Int × Int × Unit → Prop) : evF tab (lkp []) (cutL [(17, 44), (5, 38), (13, 11)]) Try.f97 (bodyOf Try.f97) (.s .n (.s .n (.s (.s .n (.l [(7, (.d (.int .i64)))] [] [1, 6] .n)) (.s (.s .n (.l [(8, (.d (.int .i64)))] [] [1, 6] (.s .n (.s (.s .n (.l [(9, (.d (.int .i64)))] [] [1, 6, 8] (.s .n (.s (.j [] [] [1, 6, 8, 9] (.s .n (.s .n (.l [(10, (.d (.int .i64)))] [] [1, 6, 8, 9] .n)))) .n)))) .n)))) .n)))) c_spec_l02Fault x K = W_spec_l02Fault x.1 K := by kernel_rfl
theorem k_spec_l02Fault : okC Try.f97.ntmps (cutL [(17, 44), (5, 38), (13, 11)]) (bodyOf Try.f97) = true := by kernel_rfl
theorem m_spec_l02Fault (c : CategoryD) (hok : allP (okL c_spec_l02Fault.args (c, ()))) (hpre : allP (c_spec_l02Fault.pre (c, ()))) : W_spec_l02Fault c (fun r => r = c_spec_l02Fault.res (c, ())) := by
  simp only [c_spec_l02Fault, okL, T.oks, T.ok, ap, allP, true_and, and_true, implies_true] at hok hpre
  try dsimp only [T.den] at hok
  try dsimp only [T.den] at hpre
  unfold W_spec_l02Fault
  have S : ShapeP c := hpre
  have hlt := S.lt
  have hli := S.li
  have hlc := S.lc
  have hmm := S.m
  have resq : ∀ a b d e, faultR c = (a, b, d, e) → (a, b, d, e, ()) = c_spec_l02Fault.res (c, ()) := fun a b d e h => by simp only [c_spec_l02Fault, h]
  have hcr : ∀ f g : Int, (c.2.2.2.2.getD f.toNat []).getD g.toNat 0 = compR c f g := fun _ _ => rfl
  simp only [hcr]
  refine loop_ix (n := c.2.1.length) (fun f => scanR (faultI c) c.2.1.length 0 = scanR (faultI c) ((c.2.1.length : Int) - f).toNat f) (by omega) scan_0 ?_ ?_
  · intro f next h0 h1 hP hn hin
    try dsimp only
    obtain ⟨a1, a2, a3, a4⟩ := S.frm h0 h1
    obtain ⟨b1, b2, _, _⟩ := S.idn a1 a2
    obtain ⟨d1, d2, _, _⟩ := S.idn a3 a4
    have r1 := S.row _ b1 b2
    have r2 := S.row f h0 h1
    refine cnd_d (fun _ => ⟨h0, h1, by omega, by omega, by omega, by omega, h0, by omega, fun _ => by omega, fun _ => by omega, fun _ => by omega, fun _ => by omega, cnd_of (fun hx => resq _ _ _ _ ?_) (fun hx => ⟨by rw [inK64]; (try dsimp only); omega, hn ?_⟩)⟩) (fun h => absurd h1 h)
    · have : faultI c f = some (1, f, 0, 0) := by unfold faultI; rw [if_pos]; simpa using hx
      unfold faultR; rw [hP, scan_s h1 this]; rfl
    · have : faultI c f = none := by unfold faultI; rw [if_neg]; simpa using hx
      rw [hP, scan_c h1 this]
  intro next hI hin
  rw [scan_n] at hI
  refine cnd_d (fun h => absurd h (by dsimp only; omega)) (fun _ => ?_)
  have hF : faultR c = orR (scanR (faultF c) c.2.1.length 0) (0, 0, 0, 0) := by unfold faultR; rw [hI]; rfl
  refine loop_ix (n := c.2.1.length) (fun f => scanR (faultF c) c.2.1.length 0 = scanR (faultF c) ((c.2.1.length : Int) - f).toNat f) (by omega) scan_0 ?_ ?_
  · intro f next h0 h1 hP hn hin
    try dsimp only
    refine cnd_d (fun _ => ?_) (fun h => absurd h1 h)
    have r1 := S.row f h0 h1
    refine loop_ix (n := c.2.1.length) (fun g => faultF c f = scanR (faultG c f) ((c.2.1.length : Int) - g).toNat g) (by omega) scan_0 ?_ ?_
    · intro g next3 g0 g1 hP3 hn3 hin3
      try dsimp only
      refine cnd_d (fun _ => ?_) (fun h => absurd g1 h)
      have r2 := S.row g g0 g1
      refine join_of (fun _ => faultG c f g = none) (fun _ hG => ⟨by rw [inK64]; (try dsimp only); omega, hn3 (by rw [hP3, scan_c g1 hG])⟩) (fun k hk => ?_)
      have hk' := hk ((), ())
      refine ⟨by omega, by omega, by omega, by omega, cnd_of (fun hx => hk' ?_) (fun hx => ?_)⟩
      · unfold faultG; rw [if_neg]; simpa using hx
      have hfg : c.2.2.1.getD f.toNat 0 = c.2.1.getD g.toNat 0 := by rw [bne_eq_false_iff_eq] at hx; exact hx
      obtain ⟨y1, y2, _, _⟩ := S.yes h0 h1 g0 g1 hfg
      refine loop_ix (n := c.2.1.length) (fun h => faultG c f g = scanR (faultH c f g) ((c.2.1.length : Int) - h).toNat h) (by omega) (by unfold faultG; rw [if_pos hfg]; exact scan_0) ?_ ?_
      · intro h next4 i0 i1 hP4 hn4 hin4
        try dsimp only
        refine cnd_d (fun _ => ?_) (fun h => absurd i1 h)
        have r3 := S.row _ y1 y2
        have cgh := S.comp g0 g1 i0 i1
        have ygh := @ShapeP.yes c S g h g0 g1 i0 i1
        refine ⟨by omega, by omega, by omega, by omega, fun _ => by omega, fun _ => by omega, fun _ => by omega, fun _ => by omega, fun _ => by omega, fun _ => by omega, fun _ => by omega, fun he => ?_, cnd_of (fun hx => resq _ _ _ _ ?_) (fun hx => ⟨by rw [inK64]; (try dsimp only); omega, hn4 ?_⟩)⟩
        · have := ygh (by simpa only [beq_iff_eq] using he); omega
        · have : faultH c f g h = some (2, f, g, h) := by unfold faultH; rw [if_pos]; simpa using hx
          have e1 : faultG c f g = some (2, f, g, h) := by rw [hP4, scan_s i1 this]
          have e2 : faultF c f = some (2, f, g, h) := by rw [hP3, scan_s g1 e1]
          rw [hF, hP, scan_s h1 e2]; rfl
        · have : faultH c f g h = none := by unfold faultH; rw [if_neg]; simpa using hx
          rw [hP4, scan_c i1 this]
      · intro next4 hP4 hin4
        rw [scan_n] at hP4
        exact cnd_d (fun h => absurd h (by dsimp only; omega)) (fun _ => hk' hP4)
    · intro next3 hP3 hin3
      rw [scan_n] at hP3
      exact cnd_d (fun h => absurd h (by dsimp only; omega)) (fun _ => ⟨by rw [inK64]; (try dsimp only); omega, hn (by rw [hP, scan_c h1 hP3])⟩)
  · intro next2 hP2 hin2
    rw [scan_n] at hP2
    refine cnd_d (fun h => absurd h (by dsimp only; omega)) (fun _ => resq _ _ _ _ ?_)
    rw [hF, hP2]; rfl
theorem ct_spec_l02Fault : CtOk Try.prog 97 c_spec_l02Fault :=
  ct_by (Φ := lkp []) good_nil tab_ok (by kernel_rfl) (fn := Try.f97) (c := bodyOf Try.f97) (by kernel_rfl) (by kernel_rfl) (by kernel_rfl) c_spec_l02Fault rfl (.s .n (.s .n (.s (.s .n (.l [(7, (.d (.int .i64)))] [] [1, 6] .n)) (.s (.s .n (.l [(8, (.d (.int .i64)))] [] [1, 6] (.s .n (.s (.s .n (.l [(9, (.d (.int .i64)))] [] [1, 6, 8] (.s .n (.s (.j [] [] [1, 6, 8, 9] (.s .n (.s .n (.l [(10, (.d (.int .i64)))] [] [1, 6, 8, 9] .n)))) .n)))) .n)))) .n)))) (cutL [(17, 44), (5, 38), (13, 11)]) (by kernel_rfl) (by kernel_rfl) k_spec_l02Fault (by decide) (fun x K => W_spec_l02Fault x.1 K) w_spec_l02Fault (fun x h1 h2 => m_spec_l02Fault x.1 h1 h2)
def c_spec_l02Is : Ct := ⟨[CategoryT], [true], fun x => [], [(false, (.fz .bool))], fun x => (catR x.1, ()), false, none⟩
def W_spec_l02Is (c : CategoryD) (K : Bool × Unit → Prop) : Prop := (cnd (!(shapeR c)) (K (Bool.false, ())) ((ShapeP c) ∧ (K (((faultR c).1 == (0 : Int)), ()))))
theorem w_spec_l02Is (x : denL c_spec_l02Is.args) (K : Bool × Unit → Prop) : evF tab (lkp [(96, c_spec_IsShape), (97, c_spec_l02Fault)]) (cutL []) Try.f57 (bodyOf Try.f57) .n c_spec_l02Is x K = W_spec_l02Is x.1 K := by kernel_rfl
theorem k_spec_l02Is : okC Try.f57.ntmps (cutL []) (bodyOf Try.f57) = true := by kernel_rfl
theorem m_spec_l02Is (c : CategoryD) (hok : allP (okL c_spec_l02Is.args (c, ()))) (hpre : allP (c_spec_l02Is.pre (c, ()))) : W_spec_l02Is c (fun r => r = c_spec_l02Is.res (c, ())) := by
  simp only [c_spec_l02Is, okL, T.oks, T.ok, ap, allP, true_and, and_true, implies_true] at hok hpre
  try dsimp only [T.den] at hok
  try dsimp only [T.den] at hpre
  unfold W_spec_l02Is
  simp only [c_spec_l02Is, catR]
  have := @shape_iff c
  grind [cnd, nb_eq, inK64]
theorem ct_spec_l02Is : CtOk Try.prog 57 c_spec_l02Is :=
  ct_by (Φ := lkp [(96, c_spec_IsShape), (97, c_spec_l02Fault)]) (good_cons ct_spec_IsShape (good_cons ct_spec_l02Fault good_nil)) tab_ok (by kernel_rfl) (fn := Try.f57) (c := bodyOf Try.f57) (by kernel_rfl) (by kernel_rfl) (by kernel_rfl) c_spec_l02Is rfl .n (cutL []) (by kernel_rfl) (by kernel_rfl) k_spec_l02Is (by decide) (fun x K => W_spec_l02Is x.1 K) w_spec_l02Is (fun x h1 h2 => m_spec_l02Is x.1 h1 h2)
def c_spec_l02Arrows : Ct := ⟨[CategoryT, (.sl (.int .i64))], [true, false], fun x => [], [(false, (.fz (.int .i64)))], fun x => (arrCodeR x.1 x.2.1, ()), false, none⟩
def W_spec_l02Arrows (c : CategoryD) (arrows : List Int) (K : Int × Unit → Prop) : Prop := (cnd (!(catR c)) (K ((1 : Int), ())) (cnd (!(withinR arrows (((List.length c.2.1) : Nat) : Int))) (K ((2 : Int), ())) (K ((0 : Int), ()))))
theorem w_spec_l02Arrows (x : denL c_spec_l02Arrows.args) (K : Int × Unit → Prop) : evF tab (lkp [(81, c_spec_l01Map), (57, c_spec_l02Is)]) (cutL []) Try.f51 (bodyOf Try.f51) .n c_spec_l02Arrows x K = W_spec_l02Arrows x.1 x.2.1 K := by kernel_rfl
theorem k_spec_l02Arrows : okC Try.f51.ntmps (cutL []) (bodyOf Try.f51) = true := by kernel_rfl
theorem m_spec_l02Arrows (c : CategoryD) (arrows : List Int) (hok : allP (okL c_spec_l02Arrows.args (c, arrows, ()))) (hpre : allP (c_spec_l02Arrows.pre (c, arrows, ()))) : W_spec_l02Arrows c arrows (fun r => r = c_spec_l02Arrows.res (c, arrows, ())) := by
  simp only [c_spec_l02Arrows, okL, T.oks, T.ok, ap, allP, true_and, and_true, implies_true] at hok hpre
  try dsimp only [T.den] at hok
  try dsimp only [T.den] at hpre
  unfold W_spec_l02Arrows
  simp only [c_spec_l02Arrows, arrCodeR]
  grind [cnd, nb_eq, inK64]
theorem ct_spec_l02Arrows : CtOk Try.prog 51 c_spec_l02Arrows :=
  ct_by (Φ := lkp [(81, c_spec_l01Map), (57, c_spec_l02Is)]) (good_cons ct_spec_l01Map (good_cons ct_spec_l02Is good_nil)) tab_ok (by kernel_rfl) (fn := Try.f51) (c := bodyOf Try.f51) (by kernel_rfl) (by kernel_rfl) (by kernel_rfl) c_spec_l02Arrows rfl .n (cutL []) (by kernel_rfl) (by kernel_rfl) k_spec_l02Arrows (by decide) (fun x K => W_spec_l02Arrows x.1 x.2.1 K) w_spec_l02Arrows (fun x h1 h2 => m_spec_l02Arrows x.1 x.2.1 h1 h2)
def c_spec_l02Then : Ct := ⟨[CategoryT, (.int .i64), (.int .i64)], [true, false, false], fun x => [0 ≤ x.2.1, x.2.1 < x.1.2.2.2.2.length, 0 ≤ x.2.2.1, x.2.2.1 < (x.1.2.2.2.2.getD x.2.1.toNat []).length], [(false, (.fz (.int .i64)))], fun x => (compR x.1 x.2.1 x.2.2.1, ()), false, none⟩
def W_spec_l02Then (c : CategoryD) (f : Int) (g : Int) (K : Int × Unit → Prop) : Prop := (((0 : Int) ≤ f) ∧ ((f < (((List.length c.2.2.2.2) : Nat) : Int)) ∧ (((0 : Int) ≤ g) ∧ ((g < (((List.length (List.getD c.2.2.2.2 (Int.toNat f) ([] : List Int))) : Nat) : Int)) ∧ (K ((List.getD (List.getD c.2.2.2.2 (Int.toNat f) ([] : List Int)) (Int.toNat g) (0 : Int)), ()))))))
theorem w_spec_l02Then (x : denL c_spec_l02Then.args) (K : Int × Unit → Prop) : evF tab (lkp []) (cutL []) Try.f82 (bodyOf Try.f82) .n c_spec_l02Then x K = W_spec_l02Then x.1 x.2.1 x.2.2.1 K := by kernel_rfl
theorem k_spec_l02Then : okC Try.f82.ntmps (cutL []) (bodyOf Try.f82) = true := by kernel_rfl
theorem m_spec_l02Then (c : CategoryD) (f : Int) (g : Int) (hok : allP (okL c_spec_l02Then.args (c, f, g, ()))) (hpre : allP (c_spec_l02Then.pre (c, f, g, ()))) : W_spec_l02Then c f g (fun r => r = c_spec_l02Then.res (c, f, g, ())) := by
  simp only [c_spec_l02Then, okL, T.oks, T.ok, ap, allP, true_and, and_true, implies_true] at hok hpre
  try dsimp only [T.den] at hok
  try dsimp only [T.den] at hpre
  unfold W_spec_l02Then
  exact ⟨hpre.1, hpre.2.1, hpre.2.2.1, hpre.2.2.2, rfl⟩
theorem ct_spec_l02Then : CtOk Try.prog 82 c_spec_l02Then :=
  ct_by (Φ := lkp []) good_nil tab_ok (by kernel_rfl) (fn := Try.f82) (c := bodyOf Try.f82) (by kernel_rfl) (by kernel_rfl) (by kernel_rfl) c_spec_l02Then rfl .n (cutL []) (by kernel_rfl) (by kernel_rfl) k_spec_l02Then (by decide) (fun x K => W_spec_l02Then x.1 x.2.1 x.2.2.1 K) w_spec_l02Then (fun x h1 h2 => m_spec_l02Then x.1 x.2.1 x.2.2.1 h1 h2)
def c_spec_l02Hom : Ct := ⟨[CategoryT, (.int .i64), (.int .i64)], [true, false, false], fun x => [x.1.2.1.length ≤ 40, x.1.2.2.1.length = x.1.2.1.length], [(false, (.sl (.fz (.int .i64))))], fun x => (homR x.1 x.2.1 x.2.2.1, ()), false, none⟩
def W_spec_l02Hom (c : CategoryD) (x : Int) (y : Int) (K : (List Int) × Unit → Prop) : Prop := (loopW (S := ((Unit × (Int × Unit)) × ((List Int) × Unit))) (fun s => (fun next => ((inK IntKind.i64 s.1.2.1) → ((T.ok (T.sl (T.int IntKind.i64)) s.2.1) → (cnd (decide (s.1.2.1 < (((List.length c.2.1) : Nat) : Int))) (((0 : Int) ≤ s.1.2.1) ∧ ((s.1.2.1 < (((List.length c.2.1) : Nat) : Int)) ∧ (((((List.getD c.2.1 (Int.toNat s.1.2.1) (0 : Int)) == x) = Bool.true) → ((s.1.2.1 < (((List.length c.2.2.1) : Nat) : Int)) ∧ ((0 : Int) ≤ s.1.2.1))) ∧ (joinW (S := ((Unit × Unit) × ((List Int) × Unit))) (fun s1 => ((T.ok (T.sl (T.int IntKind.i64)) s1.2.1) → ((inK IntKind.i64 (s.1.2.1 + (1 : Int))) ∧ (next (((), ((s.1.2.1 + (1 : Int)), ())), (s1.2.1, ())))))) (fun k => (cnd (((List.getD c.2.1 (Int.toNat s.1.2.1) (0 : Int)) == x) && ((List.getD c.2.2.1 (Int.toNat s.1.2.1) (0 : Int)) == y)) ((room (List.length s.2.1) (List.length (s.1.2.1 :: ([] : List Int))) 8) ∧ (k (((), ()), ((s.2.1 ++ (s.1.2.1 :: ([] : List Int))), ())))) (k (((), ()), (s.2.1, ()))))))))) (K (s.2.1, ()))))))) (((), ((0 : Int), ())), (([] : List Int), ())))
theorem w_spec_l02Hom (x : denL c_spec_l02Hom.args) (K : (List Int) × Unit → Prop) : evF tab (lkp []) (cutL []) Try.f128 (bodyOf Try.f128) (.s .n (.s .n (.s (.s .n (.l [(7, (.ref 800007 [])), (8, (.d (.int .i64)))] [(800007, (.sl (.fz (.int .i64))))] [1, 2, 3] (.s .n (.s (.s .n (.j [(7, (.ref 800007 []))] [(800007, (.sl (.fz (.int .i64))))] [1, 2, 3, 8] .n)) .n)))) .n))) c_spec_l02Hom x K = W_spec_l02Hom x.1 x.2.1 x.2.2.1 K := by kernel_rfl
theorem k_spec_l02Hom : okC Try.f128.ntmps (cutL []) (bodyOf Try.f128) = true := by kernel_rfl
theorem m_spec_l02Hom (c : CategoryD) (x : Int) (y : Int) (hok : allP (okL c_spec_l02Hom.args (c, x, y, ()))) (hpre : allP (c_spec_l02Hom.pre (c, x, y, ()))) : W_spec_l02Hom c x y (fun r => r = c_spec_l02Hom.res (c, x, y, ())) := by
  simp only [c_spec_l02Hom, okL, T.oks, T.ok, ap, allP, true_and, and_true, implies_true] at hok hpre
  try dsimp only [T.den] at hok
  try dsimp only [T.den] at hpre
  unfold W_spec_l02Hom
  have hm : c.2.1.length ≤ 40 := hpre.1
  have hlt : c.2.2.1.length = c.2.1.length := hpre.2
  refine loop_of (fun (s : ((Unit × (Int × Unit)) × ((List Int) × Unit))) => 0 ≤ s.1.2.1 ∧ s.1.2.1 ≤ c.2.1.length ∧ s.2.1 = selR s.1.2.1.toNat fun f => c.2.1.getD f.toNat 0 == x && c.2.2.1.getD f.toNat 0 == y) (fun (s : ((Unit × (Int × Unit)) × ((List Int) × Unit))) => (c.2.1.length - s.1.2.1).toNat) ?_ ⟨by simp, by simp, rfl⟩
  rintro ⟨⟨_, i, _⟩, l, _⟩ next ⟨h0, h1, h2⟩ hn hin hl
  try dsimp only at h0 h1 h2 hn ⊢
  subst h2
  refine cnd_d (fun hc => ⟨h0, hc, fun _ => by omega, join_of (fun s1 => s1.2.1 = selR (i + 1).toNat fun f => c.2.1.getD f.toNat 0 == x && c.2.2.1.getD f.toNat 0 == y) (fun s1 hs _ => ⟨by rw [inK64]; (try dsimp only); omega, hn _ ⟨(by first | omega | (dsimp only; omega)), (by first | omega | (dsimp only; omega)), hs⟩ (by first | omega | (dsimp only; omega))⟩) (fun k hk => cnd_of (fun hx => ⟨?_, hk _ ?_⟩) (fun hx => hk _ ?_))⟩) (fun hc => ?_)
  · have := sel_len (p := fun f => c.2.1.getD f.toNat 0 == x && c.2.2.1.getD f.toNat 0 == y) i.toNat
    unfold room
    rw [nb_eq]
    have h3 : (i :: ([] : List Int)).length = 1 := rfl
    rw [h3]
    omega
  · exact (sel_t h0 hx).symm
  · exact (sel_f h0 hx).symm
  · have e1 : i.toNat = c.2.1.length := by omega
    simp only [c_spec_l02Hom, homR]
    rw [e1]
theorem ct_spec_l02Hom : CtOk Try.prog 128 c_spec_l02Hom :=
  ct_by (Φ := lkp []) good_nil tab_ok (by kernel_rfl) (fn := Try.f128) (c := bodyOf Try.f128) (by kernel_rfl) (by kernel_rfl) (by kernel_rfl) c_spec_l02Hom rfl (.s .n (.s .n (.s (.s .n (.l [(7, (.ref 800007 [])), (8, (.d (.int .i64)))] [(800007, (.sl (.fz (.int .i64))))] [1, 2, 3] (.s .n (.s (.s .n (.j [(7, (.ref 800007 []))] [(800007, (.sl (.fz (.int .i64))))] [1, 2, 3, 8] .n)) .n)))) .n))) (cutL []) (by kernel_rfl) (by kernel_rfl) k_spec_l02Hom (by decide) (fun x K => W_spec_l02Hom x.1 x.2.1 x.2.2.1 K) w_spec_l02Hom (fun x h1 h2 => m_spec_l02Hom x.1 x.2.1 x.2.2.1 h1 h2)
def forkPR (c : CategoryD) (f g z : Int) : List (List Int) := (forkR c (c.2.1.getD f.toNat 0) f g z).map fun h => [z, h]
def forksR (c : CategoryD) (f g : Int) : List (List Int) := (tabN c.1.toNat (forkPR c f g)).flatten

def c_spec_l13Forks : Ct := ⟨[CategoryT, (.int .i64), (.int .i64)], [true, false, false], fun x => [ShapeP x.1, 0 ≤ x.2.1, x.2.1 < x.1.2.1.length, 0 ≤ x.2.2.1, x.2.2.1 < x.1.2.1.length], [(false, (.sl (.sl (.fz (.int .i64)))))], fun x => (forksR x.1 x.2.1 x.2.2.1, ()), false, none⟩
def W_spec_l13Forks (c : CategoryD) (f : Int) (g : Int) (K : (List (List Int)) × Unit → Prop) : Prop := (loopW (S := ((Unit × (Int × Unit)) × ((List (List Int)) × Unit))) (fun s => (fun next => ((inK IntKind.i64 s.1.2.1) → ((T.ok (T.sl (T.sl (T.int IntKind.i64))) s.2.1) → (cnd (decide (s.1.2.1 < c.1)) (((0 : Int) ≤ f) ∧ ((f < (((List.length c.2.1) : Nat) : Int)) ∧ (((List.length c.2.1) ≤ 40) ∧ (((List.length c.2.2.1) = (List.length c.2.1)) ∧ (loopW (S := ((Unit × (Int × Unit)) × ((List (List Int)) × Unit))) (fun s1 => (fun next1 => ((inK IntKind.i64 s1.1.2.1) → ((T.ok (T.sl (T.sl (T.int IntKind.i64))) s1.2.1) → (cnd (decide (s1.1.2.1 < (((List.length (homR c s.1.2.1 (List.getD c.2.1 (Int.toNat f) (0 : Int)))) : Nat) : Int))) (((0 : Int) ≤ s1.1.2.1) ∧ ((s1.1.2.1 < (((List.length (homR c s.1.2.1 (List.getD c.2.1 (Int.toNat f) (0 : Int)))) : Nat) : Int)) ∧ (((0 : Int) ≤ (List.getD (homR c s.1.2.1 (List.getD c.2.1 (Int.toNat f) (0 : Int))) (Int.toNat s1.1.2.1) (0 : Int))) ∧ (((List.getD (homR c s.1.2.1 (List.getD c.2.1 (Int.toNat f) (0 : Int))) (Int.toNat s1.1.2.1) (0 : Int)) < (((List.length c.2.2.2.2) : Nat) : Int)) ∧ (((0 : Int) ≤ f) ∧ ((f < (((List.length (List.getD c.2.2.2.2 (Int.toNat (List.getD (homR c s.1.2.1 (List.getD c.2.1 (Int.toNat f) (0 : Int))) (Int.toNat s1.1.2.1) (0 : Int))) ([] : List Int))) : Nat) : Int)) ∧ (((0 : Int) ≤ s1.1.2.1) ∧ ((s1.1.2.1 < (((List.length (homR c s.1.2.1 (List.getD c.2.1 (Int.toNat f) (0 : Int)))) : Nat) : Int)) ∧ (((0 : Int) ≤ (List.getD (homR c s.1.2.1 (List.getD c.2.1 (Int.toNat f) (0 : Int))) (Int.toNat s1.1.2.1) (0 : Int))) ∧ (((List.getD (homR c s.1.2.1 (List.getD c.2.1 (Int.toNat f) (0 : Int))) (Int.toNat s1.1.2.1) (0 : Int)) < (((List.length c.2.2.2.2) : Nat) : Int)) ∧ (((0 : Int) ≤ g) ∧ ((g < (((List.length (List.getD c.2.2.2.2 (Int.toNat (List.getD (homR c s.1.2.1 (List.getD c.2.1 (Int.toNat f) (0 : Int))) (Int.toNat s1.1.2.1) (0 : Int))) ([] : List Int))) : Nat) : Int)) ∧ (joinW (S := ((Unit × Unit) × ((List (List Int)) × Unit))) (fun s2 => ((T.ok (T.sl (T.sl (T.int IntKind.i64))) s2.2.1) → ((inK IntKind.i64 (s1.1.2.1 + (1 : Int))) ∧ (next1 (((), ((s1.1.2.1 + (1 : Int)), ())), (s2.2.1, ())))))) (fun k => (cnd ((compR c (List.getD (homR c s.1.2.1 (List.getD c.2.1 (Int.toNat f) (0 : Int))) (Int.toNat s1.1.2.1) (0 : Int)) f) == (compR c (List.getD (homR c s.1.2.1 (List.getD c.2.1 (Int.toNat f) (0 : Int))) (Int.toNat s1.1.2.1) (0 : Int)) g)) (((0 : Int) ≤ s1.1.2.1) ∧ ((s1.1.2.1 < (((List.length (homR c s.1.2.1 (List.getD c.2.1 (Int.toNat f) (0 : Int)))) : Nat) : Int)) ∧ ((room (List.length s1.2.1) (List.length ((s.1.2.1 :: ((List.getD (homR c s.1.2.1 (List.getD c.2.1 (Int.toNat f) (0 : Int))) (Int.toNat s1.1.2.1) (0 : Int)) :: ([] : List Int))) :: ([] : List (List Int)))) 24) ∧ (k (((), ()), ((s1.2.1 ++ ((s.1.2.1 :: ((List.getD (homR c s.1.2.1 (List.getD c.2.1 (Int.toNat f) (0 : Int))) (Int.toNat s1.1.2.1) (0 : Int)) :: ([] : List Int))) :: ([] : List (List Int)))), ())))))) (k (((), ()), (s1.2.1, ())))))))))))))))))) ((inK IntKind.i64 (s.1.2.1 + (1 : Int))) ∧ (next (((), ((s.1.2.1 + (1 : Int)), ())), (s1.2.1, ()))))))))) (((), ((0 : Int), ())), (s.2.1, ()))))))) (K (s.2.1, ()))))))) (((), ((0 : Int), ())), (([] : List (List Int)), ())))
theorem w_spec_l13Forks (x : denL c_spec_l13Forks.args) (K : (List (List Int)) × Unit → Prop) : evF tab (lkp [(128, c_spec_l02Hom), (82, c_spec_l02Then)]) (cutL [(5, 7), (9, 13)]) Try.f83 (bodyOf Try.f83) (.s .n (.s .n (.s (.s .n (.l [(7, (.ref 800007 [])), (8, (.d (.int .i64)))] [(800007, (.sl (.sl (.fz (.int .i64)))))] [1, 2, 3] (.s .n (.s (.s .n (.s .n (.l [(7, (.ref 800007 [])), (10, (.d (.int .i64)))] [(800007, (.sl (.sl (.fz (.int .i64)))))] [1, 2, 3, 8, 9] (.s .n (.s (.s .n (.j [(7, (.ref 800007 []))] [(800007, (.sl (.sl (.fz (.int .i64)))))] [1, 2, 3, 8, 9, 10] .n)) .n))))) .n)))) .n))) c_spec_l13Forks x K = W_spec_l13Forks x.1 x.2.1 x.2.2.1 K := by kernel_rfl
theorem k_spec_l13Forks : okC Try.f83.ntmps (cutL [(5, 7), (9, 13)]) (bodyOf Try.f83) = true := by kernel_rfl
theorem m_spec_l13Forks (c : CategoryD) (f : Int) (g : Int) (hok : allP (okL c_spec_l13Forks.args (c, f, g, ()))) (hpre : allP (c_spec_l13Forks.pre (c, f, g, ()))) : W_spec_l13Forks c f g (fun r => r = c_spec_l13Forks.res (c, f, g, ())) := by
  simp only [c_spec_l13Forks, okL, T.oks, T.ok, ap, allP, true_and, and_true, implies_true] at hok hpre
  try dsimp only [T.den] at hok
  try dsimp only [T.den] at hpre
  unfold W_spec_l13Forks
  obtain ⟨S, f0, f1, g0, g1⟩ := hpre
  have hob := S.ob
  have hm := S.m
  have hlt := S.lt
  have hlc := S.lc
  clear hok
  have hfl : ∀ z : Int, (forkPR c f g z).length ≤ 40 := fun z => by
    unfold forkPR forkR; rw [List.length_map]; exact Nat.le_trans (List.length_filter_le _ _) (Nat.le_trans (sel_len _) hm)
  refine loop_ixa (n := c.1) (fun i => (tabN i.toNat (forkPR c f g)).flatten) hob.1 rfl ?_ ?_
  · intro i next i0 i1 hn hin hol
    have hl : (tabN i.toNat (forkPR c f g)).flatten.length ≤ i.toNat * 40 := by
      have := flat_le (B := 40) (L := tabN i.toNat (forkPR c f g)) (fun l hl => by
        obtain ⟨x, x0, x1, rfl⟩ := tabN_mem.1 hl
        exact hfl x)
      rwa [tabN_len] at this
    try dsimp only at hn hin hol ⊢
    rw [tabN_s i0, List.flatten_append, List.flatten_cons, List.flatten_nil, List.append_nil] at hn
    generalize (tabN i.toNat (forkPR c f g)).flatten = A at *
    have hhl : (homR c i (c.2.1.getD f.toNat 0)).length ≤ 40 := Nat.le_trans (sel_len _) hm
    refine cnd_d (fun _ => ⟨f0, f1, hm, hlt, ?_⟩) (fun h => absurd i1 h)
    refine loop_ixa (n := ((homR c i (c.2.1.getD f.toNat 0)).length : Int)) (fun j => A ++ (filT (fun a => compR c a f == compR c a g) (homR c i (c.2.1.getD f.toNat 0)) j).map fun h => [i, h]) (by omega) (by simp [filT]) ?_ ?_
    · intro j next1 j0 j1 hn1 hjn hjl
      have hh := hom_mem.1 (getD_mem (homR c i (c.2.1.getD f.toNat 0)) 0 j0 j1)
      have hr := S.row _ hh.1 hh.2.1
      have hlen := Nat.le_trans (@fil_len (fun a => compR c a f == compR c a g) (homR c i (c.2.1.getD f.toNat 0)) j) hhl
      have ft := @fil_t (fun a => compR c a f == compR c a g) (homR c i (c.2.1.getD f.toNat 0)) j j0 j1
      have ff := @fil_f (fun a => compR c a f == compR c a g) (homR c i (c.2.1.getD f.toNat 0)) j j0 j1
      try dsimp only at hn1 hjl ⊢
      refine cnd_d (fun _ => ⟨j0, j1, hh.1, by omega, f0, by omega, j0, j1, hh.1, by omega, g0, by omega, ?_⟩) (fun h => absurd j1 h)
      refine join_add _ (fun s hs _ => ⟨by rw [inK64]; (try dsimp only); omega, by rw [hs]; exact hn1⟩) (fun k hk => cnd_of (fun hp => ⟨j0, j1, room_of (by simp only [List.length_append, List.length_map, List.length_cons, List.length_nil]; omega), hk _ ?_⟩) (fun hp => hk _ ?_))
      · rw [ft hp, List.map_append, ← List.append_assoc]; rfl
      · rw [ff hp]
    · intro next1 _ _
      refine cnd_d (fun h => absurd h (Int.lt_irrefl _)) (fun _ => ⟨by rw [inK64]; (try dsimp only); omega, ?_⟩)
      try dsimp only
      rw [fil_n (Int.le_refl _)]
      exact hn
  · intro next _ _
    exact cnd_d (fun h => absurd h (Int.lt_irrefl _)) (fun _ => by simp only [c_spec_l13Forks, forksR])
theorem ct_spec_l13Forks : CtOk Try.prog 83 c_spec_l13Forks :=
  ct_by (Φ := lkp [(128, c_spec_l02Hom), (82, c_spec_l02Then)]) (good_cons ct_spec_l02Hom (good_cons ct_spec_l02Then good_nil)) tab_ok (by kernel_rfl) (fn := Try.f83) (c := bodyOf Try.f83) (by kernel_rfl) (by kernel_rfl) (by kernel_rfl) c_spec_l13Forks rfl (.s .n (.s .n (.s (.s .n (.l [(7, (.ref 800007 [])), (8, (.d (.int .i64)))] [(800007, (.sl (.sl (.fz (.int .i64)))))] [1, 2, 3] (.s .n (.s (.s .n (.s .n (.l [(7, (.ref 800007 [])), (10, (.d (.int .i64)))] [(800007, (.sl (.sl (.fz (.int .i64)))))] [1, 2, 3, 8, 9] (.s .n (.s (.s .n (.j [(7, (.ref 800007 []))] [(800007, (.sl (.sl (.fz (.int .i64)))))] [1, 2, 3, 8, 9, 10] .n)) .n))))) .n)))) .n))) (cutL [(5, 7), (9, 13)]) (by kernel_rfl) (by kernel_rfl) k_spec_l13Forks (by decide) (fun x K => W_spec_l13Forks x.1 x.2.1 x.2.2.1 K) w_spec_l13Forks (fun x h1 h2 => m_spec_l13Forks x.1 x.2.1 x.2.2.1 h1 h2)
def map2R (c : CategoryD) (s t : List Int) : List Int := (homR c (s.getD 0 0) (t.getD 0 0)).filter fun u => compR c u (t.getD 1 0) == s.getD 1 0

def c_spec_l13Maps : Ct := ⟨[CategoryT, (.sl (.int .i64)), (.sl (.int .i64))], [true, false, false], fun x => [ShapeP x.1, x.2.1.length = 2, x.2.2.1.length = 2, 0 ≤ x.2.2.1.getD 1 0, x.2.2.1.getD 1 0 < x.1.2.1.length], [(false, (.sl (.fz (.int .i64))))], fun x => (map2R x.1 x.2.1 x.2.2.1, ()), false, none⟩
def W_spec_l13Maps (c : CategoryD) (s : List Int) (t : List Int) (K : (List Int) × Unit → Prop) : Prop := (((0 : Int) ≤ (0 : Int)) ∧ (((0 : Int) < (((List.length s) : Nat) : Int)) ∧ (((0 : Int) ≤ (0 : Int)) ∧ (((0 : Int) < (((List.length t) : Nat) : Int)) ∧ (((List.length c.2.1) ≤ 40) ∧ (((List.length c.2.2.1) = (List.length c.2.1)) ∧ (loopW (S := ((Unit × (Int × Unit)) × ((List Int) × Unit))) (fun s1 => (fun next => ((inK IntKind.i64 s1.1.2.1) → ((T.ok (T.sl (T.int IntKind.i64)) s1.2.1) → (cnd (decide (s1.1.2.1 < (((List.length (homR c (List.getD s (Int.toNat (0 : Int)) (0 : Int)) (List.getD t (Int.toNat (0 : Int)) (0 : Int)))) : Nat) : Int))) (loopW (S := ((Unit × (Bool × (Int × Unit))) × ((List Int) × Unit))) (fun s2 => (fun next1 => ((inK IntKind.i64 s2.1.2.2.1) → ((T.ok (T.sl (T.int IntKind.i64)) s2.2.1) → (cnd (s2.1.2.1 && (decide (s2.1.2.2.1 < (((List.length s) : Nat) : Int)))) (((0 : Int) ≤ s1.1.2.1) ∧ ((s1.1.2.1 < (((List.length (homR c (List.getD s (Int.toNat (0 : Int)) (0 : Int)) (List.getD t (Int.toNat (0 : Int)) (0 : Int)))) : Nat) : Int)) ∧ (((0 : Int) ≤ s2.1.2.2.1) ∧ ((s2.1.2.2.1 < (((List.length t) : Nat) : Int)) ∧ (((0 : Int) ≤ (List.getD (homR c (List.getD s (Int.toNat (0 : Int)) (0 : Int)) (List.getD t (Int.toNat (0 : Int)) (0 : Int))) (Int.toNat s1.1.2.1) (0 : Int))) ∧ (((List.getD (homR c (List.getD s (Int.toNat (0 : Int)) (0 : Int)) (List.getD t (Int.toNat (0 : Int)) (0 : Int))) (Int.toNat s1.1.2.1) (0 : Int)) < (((List.length c.2.2.2.2) : Nat) : Int)) ∧ (((0 : Int) ≤ (List.getD t (Int.toNat s2.1.2.2.1) (0 : Int))) ∧ (((List.getD t (Int.toNat s2.1.2.2.1) (0 : Int)) < (((List.length (List.getD c.2.2.2.2 (Int.toNat (List.getD (homR c (List.getD s (Int.toNat (0 : Int)) (0 : Int)) (List.getD t (Int.toNat (0 : Int)) (0 : Int))) (Int.toNat s1.1.2.1) (0 : Int))) ([] : List Int))) : Nat) : Int)) ∧ (((0 : Int) ≤ s2.1.2.2.1) ∧ ((s2.1.2.2.1 < (((List.length s) : Nat) : Int)) ∧ ((inK IntKind.i64 (s2.1.2.2.1 + (1 : Int))) ∧ (next1 (((), (((compR c (List.getD (homR c (List.getD s (Int.toNat (0 : Int)) (0 : Int)) (List.getD t (Int.toNat (0 : Int)) (0 : Int))) (Int.toNat s1.1.2.1) (0 : Int)) (List.getD t (Int.toNat s2.1.2.2.1) (0 : Int))) == (List.getD s (Int.toNat s2.1.2.2.1) (0 : Int))), ((s2.1.2.2.1 + (1 : Int)), ()))), (s2.2.1, ())))))))))))))) (joinW (S := ((Unit × Unit) × ((List Int) × Unit))) (fun s3 => ((T.ok (T.sl (T.int IntKind.i64)) s3.2.1) → ((inK IntKind.i64 (s1.1.2.1 + (1 : Int))) ∧ (next (((), ((s1.1.2.1 + (1 : Int)), ())), (s3.2.1, ())))))) (fun k => (cnd s2.1.2.1 (((0 : Int) ≤ s1.1.2.1) ∧ ((s1.1.2.1 < (((List.length (homR c (List.getD s (Int.toNat (0 : Int)) (0 : Int)) (List.getD t (Int.toNat (0 : Int)) (0 : Int)))) : Nat) : Int)) ∧ ((room (List.length s2.2.1) (List.length ((List.getD (homR c (List.getD s (Int.toNat (0 : Int)) (0 : Int)) (List.getD t (Int.toNat (0 : Int)) (0 : Int))) (Int.toNat s1.1.2.1) (0 : Int)) :: ([] : List Int))) 8) ∧ (k (((), ()), ((s2.2.1 ++ ((List.getD (homR c (List.getD s (Int.toNat (0 : Int)) (0 : Int)) (List.getD t (Int.toNat (0 : Int)) (0 : Int))) (Int.toNat s1.1.2.1) (0 : Int)) :: ([] : List Int))), ())))))) (k (((), ()), (s2.2.1, ()))))))))))) (((), (Bool.true, ((1 : Int), ()))), (s1.2.1, ()))) (K (s1.2.1, ()))))))) (((), ((0 : Int), ())), (([] : List Int), ())))))))))
theorem w_spec_l13Maps (x : denL c_spec_l13Maps.args) (K : (List Int) × Unit → Prop) : evF tab (lkp [(128, c_spec_l02Hom), (82, c_spec_l02Then)]) (cutL [(1, 510), (9, 14)]) Try.f84 (bodyOf Try.f84) (.s .n (.s .n (.s (.s .n (.l [(8, (.ref 800008 [])), (9, (.d (.int .i64)))] [(800008, (.sl (.fz (.int .i64))))] [1, 2, 3, 7] (.s .n (.s (.s .n (.s (.s .n (.l [(8, (.ref 800008 [])), (10, (.d .bool)), (11, (.d (.int .i64)))] [(800008, (.sl (.fz (.int .i64))))] [1, 2, 3, 7, 9] .n)) (.s .n (.j [(8, (.ref 800008 []))] [(800008, (.sl (.fz (.int .i64))))] [1, 2, 3, 7, 9] .n)))) .n)))) .n))) c_spec_l13Maps x K = W_spec_l13Maps x.1 x.2.1 x.2.2.1 K := by kernel_rfl
theorem k_spec_l13Maps : okC Try.f84.ntmps (cutL [(1, 510), (9, 14)]) (bodyOf Try.f84) = true := by kernel_rfl
theorem m_spec_l13Maps (c : CategoryD) (s : List Int) (t : List Int) (hok : allP (okL c_spec_l13Maps.args (c, s, t, ()))) (hpre : allP (c_spec_l13Maps.pre (c, s, t, ()))) : W_spec_l13Maps c s t (fun r => r = c_spec_l13Maps.res (c, s, t, ())) := by
  simp only [c_spec_l13Maps, okL, T.oks, T.ok, ap, allP, true_and, and_true, implies_true] at hok hpre
  try dsimp only [T.den] at hok
  try dsimp only [T.den] at hpre
  unfold W_spec_l13Maps
  obtain ⟨S, s2, t2, e0, e1⟩ := hpre
  have hm := S.m
  have hlt := S.lt
  have hlc := S.lc
  clear hok
  refine ⟨by omega, by omega, by omega, by omega, hm, hlt, ?_⟩
  simp only [show Int.toNat 0 = 0 from rfl]
  have hhl : (homR c (s.getD 0 0) (t.getD 0 0)).length ≤ 40 := Nat.le_trans (sel_len _) hm
  refine loop_ixa (n := ((homR c (s.getD 0 0) (t.getD 0 0)).length : Int)) (fun j => filT (fun u => compR c u (t.getD 1 0) == s.getD 1 0) (homR c (s.getD 0 0) (t.getD 0 0)) j) (by omega) rfl ?_ ?_
  · intro j next j0 j1 hn hin hol
    have hh := hom_mem.1 (getD_mem (homR c (s.getD 0 0) (t.getD 0 0)) 0 j0 j1)
    have hr := S.row _ hh.1 hh.2.1
    have hlen := Nat.le_trans (@fil_len (fun u => compR c u (t.getD 1 0) == s.getD 1 0) (homR c (s.getD 0 0) (t.getD 0 0)) j) hhl
    have ft := @fil_t (fun u => compR c u (t.getD 1 0) == s.getD 1 0) (homR c (s.getD 0 0) (t.getD 0 0)) j j0 j1
    have ff := @fil_f (fun u => compR c u (t.getD 1 0) == s.getD 1 0) (homR c (s.getD 0 0) (t.getD 0 0)) j j0 j1
    try dsimp only at hn hol ⊢
    generalize (homR c (s.getD 0 0) (t.getD 0 0)).getD j.toNat 0 = u at *
    refine cnd_d (fun _ => ?_) (fun h => absurd j1 h)
    refine loop_of (fun (q : ((Unit × (Bool × (Int × Unit))) × ((List Int) × Unit))) => q.2.1 = filT (fun u => compR c u (t.getD 1 0) == s.getD 1 0) (homR c (s.getD 0 0) (t.getD 0 0)) j ∧ ((q.1.2.2.1 = 1 ∧ q.1.2.1 = true) ∨ (q.1.2.2.1 = 2 ∧ q.1.2.1 = (compR c u (t.getD 1 0) == s.getD 1 0)))) (fun (q : ((Unit × (Bool × (Int × Unit))) × ((List Int) × Unit))) => (2 - q.1.2.2.1).toNat) ?_ ⟨rfl, .inl ⟨rfl, rfl⟩⟩
    rintro ⟨⟨_, b, i, _⟩, o, _⟩ next1 ⟨ho, hbi⟩ hn1 _ _
    try dsimp only at ho hbi hn1 ⊢
    subst ho
    refine cnd_of (fun hx => ?_) (fun hx => ?_)
    · simp only [Bool.and_eq_true, decide_eq_true_eq] at hx
      have hi : i = 1 := by omega
      subst hi
      exact ⟨j0, j1, by omega, by omega, hh.1, by omega, e0, by rw [hr]; exact e1, by omega, by omega, by rw [inK64]; (try dsimp only); omega, hn1 _ ⟨rfl, .inr ⟨rfl, rfl⟩⟩ (by dsimp only; omega)⟩
    · have hb : b = (compR c u (t.getD 1 0) == s.getD 1 0) := by
        rcases hbi with ⟨h1, h2⟩ | ⟨h1, h2⟩
        · rw [h1, h2, decide_eq_true (by omega)] at hx; cases hx
        · exact h2
      refine join_add _ (fun s hs _ => ⟨by rw [inK64]; (try dsimp only); omega, by rw [hs]; exact hn⟩) (fun k hk => cnd_of (fun hp => ⟨j0, j1, room_of (by simp only [List.length_cons, List.length_nil]; omega), hk _ ?_⟩) (fun hp => hk _ ?_))
      · rw [ft (by rw [← hb]; exact hp)]
      · rw [ff (by rw [← hb]; exact hp)]
  · intro next _ _
    exact cnd_d (fun h => absurd h (Int.lt_irrefl _)) (fun _ => by simp only [c_spec_l13Maps, map2R]; rw [fil_n (Int.le_refl _)])
theorem ct_spec_l13Maps : CtOk Try.prog 84 c_spec_l13Maps :=
  ct_by (Φ := lkp [(128, c_spec_l02Hom), (82, c_spec_l02Then)]) (good_cons ct_spec_l02Hom (good_cons ct_spec_l02Then good_nil)) tab_ok (by kernel_rfl) (fn := Try.f84) (c := bodyOf Try.f84) (by kernel_rfl) (by kernel_rfl) (by kernel_rfl) c_spec_l13Maps rfl (.s .n (.s .n (.s (.s .n (.l [(8, (.ref 800008 [])), (9, (.d (.int .i64)))] [(800008, (.sl (.fz (.int .i64))))] [1, 2, 3, 7] (.s .n (.s (.s .n (.s (.s .n (.l [(8, (.ref 800008 [])), (10, (.d .bool)), (11, (.d (.int .i64)))] [(800008, (.sl (.fz (.int .i64))))] [1, 2, 3, 7, 9] .n)) (.s .n (.j [(8, (.ref 800008 []))] [(800008, (.sl (.fz (.int .i64))))] [1, 2, 3, 7, 9] .n)))) .n)))) .n))) (cutL [(1, 510), (9, 14)]) (by kernel_rfl) (by kernel_rfl) k_spec_l13Maps (by decide) (fun x K => W_spec_l13Maps x.1 x.2.1 x.2.2.1 K) w_spec_l13Maps (fun x h1 h2 => m_spec_l13Maps x.1 x.2.1 x.2.2.1 h1 h2)
def regCR (c : CategoryD) (e f g : Int) : Bool := !((((c.2.1.getD f.toNat 0 != c.2.2.1.getD e.toNat 0) || (c.2.1.getD g.toNat 0 != c.2.2.1.getD e.toNat 0)) || (c.2.2.1.getD f.toNat 0 != c.2.2.1.getD g.toNat 0)) || (compR c e f != compR c e g))
def regF1R (c : CategoryD) (e : Int) (p : List Int) : Bool := (((map2R c p [c.2.1.getD e.toNat 0, e]).length : Nat) : Int) == 1
def regFR (c : CategoryD) (e f g : Int) : Bool := (forksR c f g).all (regF1R c e)
def regSR (c : CategoryD) (e : Int) : Bool := anyB c.2.1.length fun f => anyB c.2.1.length fun g => decide (f ≤ g) && (regCR c e f g && regFR c e f g)

def c_spec_l13Regular : Ct := ⟨[CategoryT, (.int .i64)], [true, false], fun x => [ShapeP x.1, 0 ≤ x.2.1, x.2.1 < x.1.2.1.length], [(false, (.fz .bool))], fun x => (regSR x.1 x.2.1, ()), false, none⟩
def W_spec_l13Regular (c : CategoryD) (e : Int) (K : Bool × Unit → Prop) : Prop := (loopW (S := ((Int × Unit) × Unit)) (fun s => (fun next => ((inK IntKind.i64 s.1.1) → (cnd (decide (s.1.1 < (((List.length c.2.1) : Nat) : Int))) (loopW (S := ((Int × Unit) × Unit)) (fun s1 => (fun next1 => ((inK IntKind.i64 s1.1.1) → (cnd (decide (s1.1.1 < (((List.length c.2.1) : Nat) : Int))) (joinW (S := (Unit × Unit)) (fun s2 => ((inK IntKind.i64 (s1.1.1 + (1 : Int))) ∧ (next1 (((s1.1.1 + (1 : Int)), ()), ())))) (fun k => (((0 : Int) ≤ s.1.1) ∧ ((s.1.1 < (((List.length c.2.1) : Nat) : Int)) ∧ (((0 : Int) ≤ e) ∧ ((e < (((List.length c.2.2.1) : Nat) : Int)) ∧ (((((List.getD c.2.1 (Int.toNat s.1.1) (0 : Int)) != (List.getD c.2.2.1 (Int.toNat e) (0 : Int))) = Bool.false) → ((s1.1.1 < (((List.length c.2.1) : Nat) : Int)) ∧ ((0 : Int) ≤ s1.1.1))) ∧ (((((List.getD c.2.1 (Int.toNat s.1.1) (0 : Int)) != (List.getD c.2.2.1 (Int.toNat e) (0 : Int))) = Bool.false) → ((e < (((List.length c.2.2.1) : Nat) : Int)) ∧ ((0 : Int) ≤ e))) ∧ ((((((List.getD c.2.1 (Int.toNat s.1.1) (0 : Int)) != (List.getD c.2.2.1 (Int.toNat e) (0 : Int))) || ((List.getD c.2.1 (Int.toNat s1.1.1) (0 : Int)) != (List.getD c.2.2.1 (Int.toNat e) (0 : Int)))) = Bool.false) → ((s.1.1 < (((List.length c.2.2.1) : Nat) : Int)) ∧ ((0 : Int) ≤ s.1.1))) ∧ ((((((List.getD c.2.1 (Int.toNat s.1.1) (0 : Int)) != (List.getD c.2.2.1 (Int.toNat e) (0 : Int))) || ((List.getD c.2.1 (Int.toNat s1.1.1) (0 : Int)) != (List.getD c.2.2.1 (Int.toNat e) (0 : Int)))) = Bool.false) → ((s1.1.1 < (((List.length c.2.2.1) : Nat) : Int)) ∧ ((0 : Int) ≤ s1.1.1))) ∧ (((((((List.getD c.2.1 (Int.toNat s.1.1) (0 : Int)) != (List.getD c.2.2.1 (Int.toNat e) (0 : Int))) || ((List.getD c.2.1 (Int.toNat s1.1.1) (0 : Int)) != (List.getD c.2.2.1 (Int.toNat e) (0 : Int)))) || ((List.getD c.2.2.1 (Int.toNat s.1.1) (0 : Int)) != (List.getD c.2.2.1 (Int.toNat s1.1.1) (0 : Int)))) = Bool.false) → ((e < (((List.length c.2.2.2.2) : Nat) : Int)) ∧ (((0 : Int) ≤ s.1.1) ∧ ((s.1.1 < (((List.length (List.getD c.2.2.2.2 (Int.toNat e) ([] : List Int))) : Nat) : Int)) ∧ ((0 : Int) ≤ e))))) ∧ (((((((List.getD c.2.1 (Int.toNat s.1.1) (0 : Int)) != (List.getD c.2.2.1 (Int.toNat e) (0 : Int))) || ((List.getD c.2.1 (Int.toNat s1.1.1) (0 : Int)) != (List.getD c.2.2.1 (Int.toNat e) (0 : Int)))) || ((List.getD c.2.2.1 (Int.toNat s.1.1) (0 : Int)) != (List.getD c.2.2.1 (Int.toNat s1.1.1) (0 : Int)))) = Bool.false) → ((e < (((List.length c.2.2.2.2) : Nat) : Int)) ∧ (((0 : Int) ≤ s1.1.1) ∧ ((s1.1.1 < (((List.length (List.getD c.2.2.2.2 (Int.toNat e) ([] : List Int))) : Nat) : Int)) ∧ ((0 : Int) ≤ e))))) ∧ (cnd (((((List.getD c.2.1 (Int.toNat s.1.1) (0 : Int)) != (List.getD c.2.2.1 (Int.toNat e) (0 : Int))) || ((List.getD c.2.1 (Int.toNat s1.1.1) (0 : Int)) != (List.getD c.2.2.1 (Int.toNat e) (0 : Int)))) || ((List.getD c.2.2.1 (Int.toNat s.1.1) (0 : Int)) != (List.getD c.2.2.1 (Int.toNat s1.1.1) (0 : Int)))) || ((compR c e s.1.1) != (compR c e s1.1.1))) (k ((), ())) ((ShapeP c) ∧ (((0 : Int) ≤ s.1.1) ∧ ((s.1.1 < (((List.length c.2.1) : Nat) : Int)) ∧ (((0 : Int) ≤ s1.1.1) ∧ ((s1.1.1 < (((List.length c.2.1) : Nat) : Int)) ∧ (loopW (S := ((Bool × (Int × Unit)) × Unit)) (fun s2 => (fun next2 => ((inK IntKind.i64 s2.1.2.1) → (cnd (s2.1.1 && (decide (s2.1.2.1 < (((List.length (forksR c s.1.1 s1.1.1)) : Nat) : Int)))) (((0 : Int) ≤ s2.1.2.1) ∧ ((s2.1.2.1 < (((List.length (forksR c s.1.1 s1.1.1)) : Nat) : Int)) ∧ (((0 : Int) ≤ e) ∧ ((e < (((List.length c.2.1) : Nat) : Int)) ∧ ((ShapeP c) ∧ (((List.length (List.getD (forksR c s.1.1 s1.1.1) (Int.toNat s2.1.2.1) ([] : List Int))) = 2) ∧ (((List.length ((List.getD c.2.1 (Int.toNat e) (0 : Int)) :: (e :: ([] : List Int)))) = 2) ∧ (((0 : Int) ≤ (List.getD ((List.getD c.2.1 (Int.toNat e) (0 : Int)) :: (e :: ([] : List Int))) 1 (0 : Int))) ∧ (((List.getD ((List.getD c.2.1 (Int.toNat e) (0 : Int)) :: (e :: ([] : List Int))) 1 (0 : Int)) < (((List.length c.2.1) : Nat) : Int)) ∧ ((inK IntKind.i64 (s2.1.2.1 + (1 : Int))) ∧ (next2 ((((((List.length (map2R c (List.getD (forksR c s.1.1 s1.1.1) (Int.toNat s2.1.2.1) ([] : List Int)) ((List.getD c.2.1 (Int.toNat e) (0 : Int)) :: (e :: ([] : List Int))))) : Nat) : Int) == (1 : Int)), ((s2.1.2.1 + (1 : Int)), ())), ())))))))))))) (cnd s2.1.1 (K (Bool.true, ())) (k ((), ()))))))) ((Bool.true, ((0 : Int), ())), ())))))))))))))))))))) ((inK IntKind.i64 (s.1.1 + (1 : Int))) ∧ (next (((s.1.1 + (1 : Int)), ()), ()))))))) ((s.1.1, ()), ())) (K (Bool.false, ())))))) (((0 : Int), ()), ()))
theorem w_spec_l13Regular (x : denL c_spec_l13Regular.args) (K : Bool × Unit → Prop) : evF tab (lkp [(82, c_spec_l02Then), (83, c_spec_l13Forks), (84, c_spec_l13Maps)]) (cutL [(7, 45), (12, 12)]) Try.f52 (bodyOf Try.f52) (.s .n (.s (.s .n (.l [(5, (.d (.int .i64)))] [] [1, 2] (.s .n (.s (.s .n (.l [(6, (.d (.int .i64)))] [] [1, 2, 5] (.s .n (.s (.j [] [] [1, 2, 5, 6] (.s .n (.s .n (.s (.s .n (.l [(8, (.d .bool)), (9, (.d (.int .i64)))] [] [1, 2, 5, 6, 7] .n)) .n)))) .n)))) .n)))) .n)) c_spec_l13Regular x K = W_spec_l13Regular x.1 x.2.1 K := by kernel_rfl
theorem k_spec_l13Regular : okC Try.f52.ntmps (cutL [(7, 45), (12, 12)]) (bodyOf Try.f52) = true := by kernel_rfl
theorem m_spec_l13Regular (c : CategoryD) (e : Int) (hok : allP (okL c_spec_l13Regular.args (c, e, ()))) (hpre : allP (c_spec_l13Regular.pre (c, e, ()))) : W_spec_l13Regular c e (fun r => r = c_spec_l13Regular.res (c, e, ())) := by
  simp only [c_spec_l13Regular, okL, T.oks, T.ok, ap, allP, true_and, and_true, implies_true] at hok hpre
  try dsimp only [T.den] at hok
  try dsimp only [T.den] at hpre
  unfold W_spec_l13Regular
  obtain ⟨S, e0, e1⟩ := hpre
  have hob := S.ob
  have hm := S.m
  have hlt := S.lt
  have hlc := S.lc
  have re := S.row e e0 e1
  clear hok
  have res : ∀ b, regSR c e = b → (b, ()) = c_spec_l13Regular.res (c, e, ()) := fun b h => by simp only [c_spec_l13Regular, h]
  have hfalse : (∀ f g : Int, 0 ≤ f → f ≤ g → g < c.2.1.length → (regCR c e f g && regFR c e f g) = false) → regSR c e = false := fun h => by
    cases hb : regSR c e with
    | false => rfl
    | true =>
      obtain ⟨f, f0, f1, hf⟩ := anyB_iff.1 hb
      obtain ⟨g, g0, g1, hg⟩ := anyB_iff.1 hf
      simp only [Bool.and_eq_true, decide_eq_true_eq] at hg
      have := h f g f0 hg.1 g1
      simp [hg.2.1, hg.2.2] at this
  refine loop_ix (n := c.2.1.length) (fun i => ∀ f g : Int, 0 ≤ f → f < i → f ≤ g → g < c.2.1.length → (regCR c e f g && regFR c e f g) = false) (by omega) (by intro f g h0 h1; omega) ?_ ?_
  · intro f next f0 f1 hP hn hin
    have rf := S.frm f0 f1
    try dsimp only
    refine cnd_d (fun _ => ?_) (fun h => absurd f1 h)
    refine loop_ix (n := c.2.1.length) (fun j => ∀ g : Int, f ≤ g → g < j → (regCR c e f g && regFR c e f g) = false) (by omega) (by intro g h0 h1; omega) ?_ ?_
    · intro g next1 g0 g1 hQ hn1 hin1
      have g00 : 0 ≤ g := by omega
      try dsimp only
      refine cnd_d (fun _ => ?_) (fun h => absurd g1 h)
      refine join_of (fun _ => (regCR c e f g && regFR c e f g) = false) (fun s hs => ⟨by rw [inK64]; (try dsimp only); omega, hn1 fun g' h0 h1 => ?_⟩) (fun k hk => ?_)
      · by_cases hgg : g' = g
        · subst hgg; exact hs
        · exact hQ g' h0 (by omega)
      refine ⟨f0, f1, e0, by omega, fun _ => ⟨g1, g00⟩, fun _ => ⟨by omega, e0⟩, fun _ => ⟨by omega, f0⟩, fun _ => ⟨by omega, g00⟩, fun _ => ⟨by omega, f0, by omega, e0⟩, fun _ => ⟨by omega, g00, by omega, e0⟩, cnd_of (fun hx => hk _ ?_) (fun hx => ⟨S, f0, f1, g00, g1, ?_⟩)⟩
      · have : regCR c e f g = false := by unfold regCR; rw [hx]; rfl
        rw [this, Bool.false_and]
      have hc : regCR c e f g = true := by unfold regCR; rw [hx]; rfl
      refine loop_of (fun (s : ((Bool × (Int × Unit)) × Unit)) => 0 ≤ s.1.2.1 ∧ s.1.2.1 ≤ (forksR c f g).length ∧ s.1.1 = ((forksR c f g).take s.1.2.1.toNat).all (regF1R c e)) (fun (s : ((Bool × (Int × Unit)) × Unit)) => ((forksR c f g).length - s.1.2.1).toNat) ?_ ⟨by simp, by simp, by simp⟩
      rintro ⟨⟨b, i, _⟩, _⟩ next2 ⟨i0, i1, hb⟩ hn2 _
      try dsimp only at i0 i1 hb hn2 ⊢
      have hfkl : (forksR c f g).length ≤ 100000 := by
        have := flat_le (B := 40) (L := tabN c.1.toNat (forkPR c f g)) (fun l hl => by
          obtain ⟨x, x0, x1, rfl⟩ := tabN_mem.1 hl
          unfold forkPR forkR; rw [List.length_map]; exact Nat.le_trans (List.length_filter_le _ _) (Nat.le_trans (sel_len _) hm))
        rw [tabN_len] at this
        unfold forksR; omega
      refine cnd_of (fun hx2 => ?_) (fun hx2 => ?_)
      · simp only [Bool.and_eq_true, decide_eq_true_eq] at hx2
        have hat := all_take (p := regF1R c e) (forksR c f g) [] i0 hx2.2
        have hmem := getD_mem (forksR c f g) [] i0 hx2.2
        have hl2 : ((forksR c f g).getD i.toNat []).length = 2 := by
          obtain ⟨l, hl, hp⟩ := List.mem_flatten.1 hmem
          obtain ⟨x, x0, x1, rfl⟩ := tabN_mem.1 hl
          obtain ⟨h, _, he⟩ := List.mem_map.1 hp
          rw [← he]; rfl
        rw [← hb, hx2.1, Bool.true_and] at hat
        exact ⟨i0, hx2.2, e0, e1, S, hl2, rfl, e0, e1, by rw [inK64]; (try dsimp only); omega, hn2 _ ⟨by dsimp only; omega, by dsimp only; omega, by dsimp only; rw [hat]; rfl⟩ (by dsimp only; omega)⟩
      · refine cnd_of (fun hy => res _ ?_) (fun hy => hk _ ?_)
        · rw [hy, Bool.true_and] at hx2
          have hi : ¬ i < (forksR c f g).length := of_decide_eq_false hx2
          rw [hy, take_n _ (by omega)] at hb
          refine anyB_iff.2 ⟨f, f0, f1, anyB_iff.2 ⟨g, g00, g1, ?_⟩⟩
          rw [decide_eq_true g0, hc]; simpa [regFR] using hb.symm
        · have : regFR c e f g = false := by
            cases hr : regFR c e f g with
            | false => rfl
            | true =>
              have : ((forksR c f g).take i.toNat).all (regF1R c e) = true := by
                rw [List.all_eq_true]; intro x hx; exact List.all_eq_true.1 hr x (List.mem_of_mem_take hx)
              rw [hb, this] at hy; cases hy
          rw [this, Bool.and_false]
    · intro next1 hQ _
      refine cnd_d (fun h => absurd h (Int.lt_irrefl _)) (fun _ => ⟨by rw [inK64]; (try dsimp only); omega, hn fun f' g h0 h1 h2 h3 => ?_⟩)
      by_cases hff : f' = f
      · subst hff; exact hQ g h2 h3
      · exact hP f' g h0 (by omega) h2 h3
  · intro next hP _
    exact cnd_d (fun h => absurd h (Int.lt_irrefl _)) (fun _ => res _ (hfalse fun f g h0 h1 h2 => hP f g h0 (by omega) h1 h2))
theorem ct_spec_l13Regular : CtOk Try.prog 52 c_spec_l13Regular :=
  ct_by (Φ := lkp [(82, c_spec_l02Then), (83, c_spec_l13Forks), (84, c_spec_l13Maps)]) (good_cons ct_spec_l02Then (good_cons ct_spec_l13Forks (good_cons ct_spec_l13Maps good_nil))) tab_ok (by kernel_rfl) (fn := Try.f52) (c := bodyOf Try.f52) (by kernel_rfl) (by kernel_rfl) (by kernel_rfl) c_spec_l13Regular rfl (.s .n (.s (.s .n (.l [(5, (.d (.int .i64)))] [] [1, 2] (.s .n (.s (.s .n (.l [(6, (.d (.int .i64)))] [] [1, 2, 5] (.s .n (.s (.j [] [] [1, 2, 5, 6] (.s .n (.s .n (.s (.s .n (.l [(8, (.d .bool)), (9, (.d (.int .i64)))] [] [1, 2, 5, 6, 7] .n)) .n)))) .n)))) .n)))) .n)) (cutL [(7, 45), (12, 12)]) (by kernel_rfl) (by kernel_rfl) k_spec_l13Regular (by decide) (fun x K => W_spec_l13Regular x.1 x.2.1 K) w_spec_l13Regular (fun x h1 h2 => m_spec_l13Regular x.1 x.2.1 h1 h2)
def regMR (c : CategoryD) (f : Int) : Bool × Int := if arrCodeR c [f] = 0 then (regR c f, 0) else (false, arrCodeR c [f])

def c_impl_IsRegularMono : Ct := ⟨[CategoryT, (.int .i64)], [true, false], fun x => [], [(false, (.fz .bool)), (false, (.fz (.int .i64)))], fun x => ((regMR x.1 x.2.1).1, (regMR x.1 x.2.1).2, ()), false, none⟩
def W_impl_IsRegularMono (c : CategoryD) (f : Int) (K : Bool × Int × Unit → Prop) : Prop := (cnd ((arrCodeR c (f :: ([] : List Int))) != (0 : Int)) (K (Bool.false, ((arrCodeR c (f :: ([] : List Int))), ()))) ((ShapeP c) ∧ (((0 : Int) ≤ f) ∧ ((f < (((List.length c.2.1) : Nat) : Int)) ∧ (K ((regR c f), ((0 : Int), ())))))))
theorem w_impl_IsRegularMono (x : denL c_impl_IsRegularMono.args) (K : Bool × Int × Unit → Prop) : evF tab (lkp [(54, c_impl_Category_isRegularMono), (53, c_impl_arrowCode)]) (cutL []) Try.f22 (bodyOf Try.f22) .n c_impl_IsRegularMono x K = W_impl_IsRegularMono x.1 x.2.1 K := by kernel_rfl
theorem k_impl_IsRegularMono : okC Try.f22.ntmps (cutL []) (bodyOf Try.f22) = true := by kernel_rfl
theorem m_impl_IsRegularMono (c : CategoryD) (f : Int) (hok : allP (okL c_impl_IsRegularMono.args (c, f, ()))) (hpre : allP (c_impl_IsRegularMono.pre (c, f, ()))) : W_impl_IsRegularMono c f (fun r => r = c_impl_IsRegularMono.res (c, f, ())) := by
  simp only [c_impl_IsRegularMono, okL, T.oks, T.ok, ap, allP, true_and, and_true, implies_true] at hok hpre
  try dsimp only [T.den] at hok
  try dsimp only [T.den] at hpre
  unfold W_impl_IsRegularMono
  refine cnd_of (fun hx => ?_) (fun hx => ?_)
  · have h : ¬ arrCodeR c [f] = 0 := by simpa using hx
    simp only [c_impl_IsRegularMono, regMR, if_neg h]
  · have h : arrCodeR c [f] = 0 := by simpa using hx
    obtain ⟨S, f0, f1⟩ := arrCode_1 h
    exact ⟨S, f0, f1, by simp only [c_impl_IsRegularMono, regMR, if_pos h]⟩
theorem ct_impl_IsRegularMono : CtOk Try.prog 22 c_impl_IsRegularMono :=
  ct_by (Φ := lkp [(54, c_impl_Category_isRegularMono), (53, c_impl_arrowCode)]) (good_cons ct_impl_Category_isRegularMono (good_cons ct_impl_arrowCode good_nil)) tab_ok (by kernel_rfl) (fn := Try.f22) (c := bodyOf Try.f22) (by kernel_rfl) (by kernel_rfl) (by kernel_rfl) c_impl_IsRegularMono rfl .n (cutL []) (by kernel_rfl) (by kernel_rfl) k_impl_IsRegularMono (by decide) (fun x K => W_impl_IsRegularMono x.1 x.2.1 K) w_impl_IsRegularMono (fun x h1 h2 => m_impl_IsRegularMono x.1 x.2.1 h1 h2)
/-- what is associative -/
def AssP (c : CategoryD) : Prop := ∀ f g h : Int, 0 ≤ f → f < c.2.1.length → 0 ≤ g → g < c.2.1.length → 0 ≤ h → h < c.2.1.length → c.2.2.1.getD f.toNat 0 = c.2.1.getD g.toNat 0 → c.2.2.1.getD g.toNat 0 = c.2.1.getD h.toNat 0 → compR c (compR c f g) h = compR c f (compR c g h)
theorem nodup_perm : ∀ {A B : List Int}, A.Nodup → (∀ x ∈ A, x ∈ B) → B.length ≤ A.length → A.Perm B
  | [], B, _, _, h => by rw [List.length_eq_zero_iff.1 (Nat.le_zero.1 h)]
  | a :: r, B, hn, hs, h => by
    rw [List.nodup_cons] at hn
    have ha := hs a (by simp)
    have hp := List.perm_cons_erase ha
    have hl := hp.length_eq
    simp only [List.length_cons] at hl h
    have ih := @nodup_perm r (B.erase a) hn.2 (fun x hx => by
      have hne : x ≠ a := fun e => hn.1 (e ▸ hx)
      exact (List.mem_erase_of_ne hne).2 (hs x (by simp [hx]))) (by omega)
    exact (ih.cons a).trans hp.symm
/-- a map of lists without repetition: one to one and as many, or each met once -/
theorem once_iff {H K : List Int} {φ : Int → Int} (hK : K.Nodup) (hm : ∀ u ∈ H, φ u ∈ K) : (H.length = K.length ∧ (H.map φ).Nodup) ↔ ∀ h ∈ K, (H.filter fun u => φ u == h).length = 1 := by
  have hc : ∀ h, (H.filter fun u => φ u == h).length = (H.map φ).count h := fun h => by
    rw [List.count, List.countP_map, ← List.countP_eq_length_filter]; rfl
  constructor
  · rintro ⟨h1, h2⟩ h hh
    rw [hc, h2.count]
    have hp : (H.map φ).Perm K := by
      refine nodup_perm h2 (fun x hx => ?_) (by rw [List.length_map]; omega)
      obtain ⟨u, hu, rfl⟩ := List.mem_map.1 hx
      exact hm u hu
    rw [if_pos (hp.mem_iff.2 hh)]
  · intro h
    have hp : (H.map φ).Perm K := by
      rw [List.perm_iff_count]
      intro x
      by_cases hx : x ∈ K
      · rw [← hc, h x hx, hK.count, if_pos hx]
      · rw [List.count_eq_zero.2 hx, List.count_eq_zero]
        intro hx2
        obtain ⟨u, hu, rfl⟩ := List.mem_map.1 hx2
        exact hx (hm u hu)
    exact ⟨by have := hp.length_eq; rwa [List.length_map] at this, hp.nodup_iff.2 hK⟩
theorem sel_nodup {p : Int → Bool} : ∀ n : Nat, (selR n p).Nodup
  | 0 => List.nodup_nil
  | n + 1 => by
    have ih := @sel_nodup p n
    unfold selR
    split
    · rw [List.nodup_append]
      refine ⟨ih, by simp, fun a ha b hb => ?_⟩
      rw [List.mem_singleton] at hb
      have := (sel_mem.1 ha).2.1
      omega
    · exact ih
/-- what is gathered in a map: as many as there are different ones -/
theorem seen_has : ∀ (l : List (Int × Int)) (m : List ((Int × Int) × Bool)) (k : Int × Int), k ∈ (l.foldl (fun m k => msetR (.p (.int .i64) (.int .i64)) .bool m k true) m).map (·.1) ↔ k ∈ m.map (·.1) ∨ k ∈ l
  | [], m, k => by simp
  | a :: r, m, k => by
    rw [List.foldl_cons, seen_has r, @mset_keys (.p (.int .i64) (.int .i64)) .bool a k true m]
    simp only [List.mem_cons]
    constructor
    · rintro ((h | h) | h)
      · exact .inl h
      · exact .inr (.inl h)
      · exact .inr (.inr h)
    · rintro (h | h | h)
      · exact .inl (.inl h)
      · exact .inl (.inr h)
      · exact .inr h
theorem seen_full : ∀ (l : List (Int × Int)) (m : List ((Int × Int) × Bool)), (l.foldl (fun m k => msetR (.p (.int .i64) (.int .i64)) .bool m k true) m).length = m.length + l.length ↔ l.Nodup ∧ ∀ k ∈ l, k ∉ m.map (·.1)
  | [], m => by simp
  | a :: r, m => by
    have hle := seen_le r (msetR (.p (.int .i64) (.int .i64)) .bool m a true)
    have hl := @mset_len (.p (.int .i64) (.int .i64)) .bool a true m
    have ih := seen_full r (msetR (.p (.int .i64) (.int .i64)) .bool m a true)
    simp only [List.foldl_cons, List.length_cons, List.nodup_cons, List.mem_cons, forall_eq_or_imp]
    by_cases ha : a ∈ m.map (·.1)
    · have h1 : (msetR (.p (.int .i64) (.int .i64)) .bool m a true).length = m.length := mset_in ha
      constructor
      · intro h; omega
      · rintro ⟨_, h, _⟩; exact absurd ha h
    · have h1 : (msetR (.p (.int .i64) (.int .i64)) .bool m a true).length = m.length + 1 := mset_out ha
      rw [h1] at ih
      rw [show m.length + (r.length + 1) = m.length + 1 + r.length from by omega, ih]
      have hmk := fun k => @mset_keys (.p (.int .i64) (.int .i64)) .bool a k true m
      simp only [hmk, not_or]
      constructor
      · rintro ⟨h2, h3⟩
        exact ⟨⟨fun h => (h3 a h).2 rfl, h2⟩, ha, fun k hk => (h3 k hk).1⟩
      · rintro ⟨⟨h2, h3⟩, h4, h5⟩
        exact ⟨h3, fun k hk => ⟨h5 k hk, fun e => h2 (e ▸ hk)⟩⟩
theorem seen_nodup {l : List (Int × Int)} : (seenR l).length = l.length ↔ l.Nodup := by
  have := seen_full l []
  simpa [seenR] using this
theorem univ_iff {c : CategoryD} (S : ShapeP c) (A : AssP c) {e g h : Int} (e0 : 0 ≤ e) (e1 : e < c.2.1.length) (g0 : 0 ≤ g) (g1 : g < c.2.1.length) (h0 : 0 ≤ h) (h1 : h < c.2.1.length)
    (hg : c.2.1.getD g.toNat 0 = c.2.2.1.getD e.toNat 0) (hh : c.2.1.getD h.toNat 0 = c.2.2.1.getD e.toNat 0) (hc : compR c e g = compR c e h) :
    univER c (c.2.1.getD g.toNat 0) g h (c.2.1.getD e.toNat 0) e e = regFR c e g h := by
  have key : ∀ w : Int, univ1R c (c.2.1.getD g.toNat 0) g h (c.2.1.getD e.toNat 0) e e w = (forkPR c g h w).all (regF1R c e) := fun w => by
    rw [Bool.eq_iff_iff]
    have hK : (forkR c (c.2.1.getD g.toNat 0) g h w).Nodup := (sel_nodup _).sublist List.filter_sublist
    have hm : ∀ u ∈ homR c w (c.2.1.getD e.toNat 0), compR c u e ∈ forkR c (c.2.1.getD g.toNat 0) g h w := fun u hu => by
      obtain ⟨u0, u1, u2, u3⟩ := hom_mem.1 hu
      obtain ⟨y0, y1, y2, y3⟩ := S.yes u0 u1 e0 e1 u3
      refine List.mem_filter.2 ⟨hom_mem.2 ⟨y0, y1, by rw [y2, u2], by rw [y3, hg]⟩, ?_⟩
      rw [beq_iff_eq, A u e g u0 u1 e0 e1 g0 g1 u3 hg.symm, A u e h u0 u1 e0 e1 h0 h1 u3 hh.symm, hc]
    have ho := once_iff (H := homR c w (c.2.1.getD e.toNat 0)) (φ := fun u => compR c u e) hK hm
    have hmap : ((homR c w (c.2.1.getD e.toNat 0)).map fun u => (compR c u e, compR c u e)) = ((homR c w (c.2.1.getD e.toNat 0)).map fun u => compR c u e).map fun v => (v, v) := by rw [List.map_map]; rfl
    have hnd : ((homR c w (c.2.1.getD e.toNat 0)).map fun u => (compR c u e, compR c u e)).Nodup ↔ ((homR c w (c.2.1.getD e.toNat 0)).map fun u => compR c u e).Nodup := by
      rw [hmap, List.Nodup, List.Nodup, List.pairwise_map]
      exact ⟨fun h => h.imp fun hne e => hne (by rw [e]), fun h => h.imp fun hne e => hne (congrArg Prod.fst e)⟩
    unfold univ1R
    simp only [Bool.and_eq_true, beq_iff_eq]
    rw [show (homR c w (c.2.1.getD e.toNat 0)).length = ((homR c w (c.2.1.getD e.toNat 0)).map fun u => (compR c u e, compR c u e)).length from by rw [List.length_map], seen_nodup, hnd, List.length_map, ho, List.all_eq_true]
    unfold forkPR
    simp only [List.forall_mem_map]
    refine forall_congr' fun v => imp_congr_right fun _ => ?_
    unfold regF1R map2R
    simp only [beq_iff_eq]
    show _ ↔ (((List.filter (fun u => compR c u e == v) (homR c w (c.2.1.getD e.toNat 0))).length : Nat) : Int) = 1
    omega
  unfold univER regFR forksR
  rw [Bool.eq_iff_iff, allB_iff, List.all_eq_true]
  simp only [key]
  constructor
  · intro hA p hp
    obtain ⟨l, hl, hp⟩ := List.mem_flatten.1 hp
    obtain ⟨w, w0, w1, rfl⟩ := tabN_mem.1 hl
    exact List.all_eq_true.1 (hA w w0 w1) p hp
  · intro hA w w0 w1
    exact List.all_eq_true.2 fun p hp => hA p (List.mem_flatten.2 ⟨_, tabN_mem.2 ⟨w, w0, w1, rfl⟩, hp⟩)
theorem univ_comm {c : CategoryD} {x g h z p q : Int} : univER c x g h z p q = univER c x h g z p q := by
  have : ∀ w, forkR c x g h w = forkR c x h g w := fun w => by
    unfold forkR; exact List.filter_congr fun a _ => by rw [Bool.eq_iff_iff, beq_iff_eq, beq_iff_eq, eq_comm]
  unfold univER
  congr 1
  funext w
  unfold univ1R
  rw [this]
theorem reg_eq {c : CategoryD} (S : ShapeP c) (A : AssP c) {e : Int} (e0 : 0 ≤ e) (e1 : e < c.2.1.length) : regSR c e = regR c e := by
  have hl : ∀ g h : Int, regCR c e g h = true ↔ c.2.1.getD g.toNat 0 = c.2.2.1.getD e.toNat 0 ∧ c.2.1.getD h.toNat 0 = c.2.2.1.getD e.toNat 0 ∧ c.2.2.1.getD g.toNat 0 = c.2.2.1.getD h.toNat 0 ∧ compR c e g = compR c e h := fun g h => by
    unfold regCR
    simp only [Bool.not_eq_true', Bool.or_eq_false_iff, bne_eq_false_iff_eq, and_assoc]
  rw [Bool.eq_iff_iff]
  constructor
  · intro h
    obtain ⟨g, g0, g1, hg⟩ := anyB_iff.1 h
    obtain ⟨k, k0, k1, hk⟩ := anyB_iff.1 hg
    simp only [Bool.and_eq_true, decide_eq_true_eq] at hk
    obtain ⟨_, hc, hf⟩ := hk
    obtain ⟨c1, c2, c3, c4⟩ := (hl g k).1 hc
    refine List.any_eq_true.2 ⟨g, sel_mem.2 ⟨g0, g1, by simpa using c1⟩, List.any_eq_true.2 ⟨k, hom_mem.2 ⟨k0, k1, by rw [c1, c2], c3.symm⟩, ?_⟩⟩
    unfold reg1R
    rw [univ_iff S A e0 e1 g0 g1 k0 k1 c1 c2 c4, hf, c4]; simp
  · intro h
    obtain ⟨g, hg, h⟩ := List.any_eq_true.1 h
    obtain ⟨k, hk, h⟩ := List.any_eq_true.1 h
    obtain ⟨g0, g1, c1⟩ := sel_mem.1 hg
    obtain ⟨k0, k1, c2, c3⟩ := hom_mem.1 hk
    have c1 : c.2.1.getD g.toNat 0 = c.2.2.1.getD e.toNat 0 := by simpa using c1
    unfold reg1R at h
    simp only [Bool.and_eq_true, beq_iff_eq] at h
    obtain ⟨c4, h⟩ := h
    by_cases hle : g ≤ k
    · refine anyB_iff.2 ⟨g, g0, g1, anyB_iff.2 ⟨k, k0, k1, ?_⟩⟩
      rw [decide_eq_true hle, (hl g k).2 ⟨c1, by rw [c2, c1], c3.symm, c4⟩, ← univ_iff S A e0 e1 g0 g1 k0 k1 c1 (by rw [c2, c1]) c4, h]; rfl
    · refine anyB_iff.2 ⟨k, k0, k1, anyB_iff.2 ⟨g, g0, g1, ?_⟩⟩
      rw [decide_eq_true (by omega), (hl k g).2 ⟨by rw [c2, c1], c1, c3, c4.symm⟩, ← univ_iff S A e0 e1 k0 k1 g0 g1 (by rw [c2, c1]) c1 c4.symm, c2, univ_comm, h]; rfl
theorem cat_ass {c : CategoryD} (h : catR c = true) : AssP c := fun _ _ _ f0 f1 g0 g1 h0 h1 e1 e2 => cat_assoc h f0 f1 g0 g1 h0 h1 e1 e2
theorem arr_cat {c : CategoryD} {l : List Int} (h : arrCodeR c l = 0) : catR c = true := by
  unfold arrCodeR at h
  split at h
  · assumption
  · omega

def c_spec_IsRegularMono : Ct := ⟨[CategoryT, (.int .i64)], [true, false], fun x => [], [(false, (.fz .bool)), (false, (.fz (.int .i64)))], fun x => ((regMR x.1 x.2.1).1, (regMR x.1 x.2.1).2, ()), false, none⟩
def W_spec_IsRegularMono (c : CategoryD) (f : Int) (K : Bool × Int × Unit → Prop) : Prop := (cnd ((arrCodeR c (f :: ([] : List Int))) != (0 : Int)) (K (Bool.false, ((arrCodeR c (f :: ([] : List Int))), ()))) ((ShapeP c) ∧ (((0 : Int) ≤ f) ∧ ((f < (((List.length c.2.1) : Nat) : Int)) ∧ (K ((regSR c f), ((0 : Int), ())))))))
theorem w_spec_IsRegularMono (x : denL c_spec_IsRegularMono.args) (K : Bool × Int × Unit → Prop) : evF tab (lkp [(51, c_spec_l02Arrows), (52, c_spec_l13Regular)]) (cutL []) Try.f20 (bodyOf Try.f20) .n c_spec_IsRegularMono x K = W_spec_IsRegularMono x.1 x.2.1 K := by kernel_rfl
theorem k_spec_IsRegularMono : okC Try.f20.ntmps (cutL []) (bodyOf Try.f20) = true := by kernel_rfl
theorem m_spec_IsRegularMono (c : CategoryD) (f : Int) (hok : allP (okL c_spec_IsRegularMono.args (c, f, ()))) (hpre : allP (c_spec_IsRegularMono.pre (c, f, ()))) : W_spec_IsRegularMono c f (fun r => r = c_spec_IsRegularMono.res (c, f, ())) := by
  simp only [c_spec_IsRegularMono, okL, T.oks, T.ok, ap, allP, true_and, and_true, implies_true] at hok hpre
  try dsimp only [T.den] at hok
  try dsimp only [T.den] at hpre
  unfold W_spec_IsRegularMono
  refine cnd_of (fun hx => ?_) (fun hx => ?_)
  · have h : ¬ arrCodeR c [f] = 0 := by simpa using hx
    simp only [c_spec_IsRegularMono, regMR, if_neg h]
  · have h : arrCodeR c [f] = 0 := by simpa using hx
    obtain ⟨S, f0, f1⟩ := arrCode_1 h
    refine ⟨S, f0, f1, ?_⟩
    rw [reg_eq S (cat_ass (arr_cat h)) f0 f1]
    simp only [c_spec_IsRegularMono, regMR, if_pos h]
theorem ct_spec_IsRegularMono : CtOk Try.prog 20 c_spec_IsRegularMono :=
  ct_by (Φ := lkp [(51, c_spec_l02Arrows), (52, c_spec_l13Regular)]) (good_cons ct_spec_l02Arrows (good_cons ct_spec_l13Regular good_nil)) tab_ok (by kernel_rfl) (fn := Try.f20) (c := bodyOf Try.f20) (by kernel_rfl) (by kernel_rfl) (by kernel_rfl) c_spec_IsRegularMono rfl .n (cutL []) (by kernel_rfl) (by kernel_rfl) k_spec_IsRegularMono (by decide) (fun x K => W_spec_IsRegularMono x.1 x.2.1 K) w_spec_IsRegularMono (fun x h1 h2 => m_spec_IsRegularMono x.1 x.2.1 h1 h2)
theorem op_ass {c : CategoryD} (S : ShapeP c) (A : AssP c) : AssP (opR c) := by
  have hl : (opR c).2.1.length = c.2.1.length := S.lt
  intro f g h f0 f1 g0 g1 h0 h1 e1 e2
  rw [hl] at f1 g1 h1
  have e1' : c.2.1.getD f.toNat 0 = c.2.2.1.getD g.toNat 0 := e1
  have e2' : c.2.1.getD g.toNat 0 = c.2.2.1.getD h.toNat 0 := e2
  obtain ⟨y0, y1, _, _⟩ := S.yes g0 g1 f0 f1 e1'.symm
  obtain ⟨z0, z1, _, _⟩ := S.yes h0 h1 g0 g1 e2'.symm
  rw [op_at f0 f1 g0 g1, op_at g0 g1 h0 h1, op_at y0 y1 h0 h1, op_at f0 f1 z0 z1]
  exact (A h g f h0 h1 g0 g1 f0 f1 e2'.symm e1'.symm).symm

def c_spec_IsRegularEpi : Ct := ⟨[CategoryT, (.int .i64)], [true, false], fun x => [], [(false, (.fz .bool)), (false, (.fz (.int .i64)))], fun x => ((regER x.1 x.2.1).1, (regER x.1 x.2.1).2, ()), false, none⟩
def W_spec_IsRegularEpi (c : CategoryD) (f : Int) (K : Bool × Int × Unit → Prop) : Prop := (cnd ((arrCodeR c (f :: ([] : List Int))) != (0 : Int)) (K (Bool.false, ((arrCodeR c (f :: ([] : List Int))), ()))) ((ShapeP c) ∧ ((ShapeP (opR c)) ∧ (((0 : Int) ≤ f) ∧ ((f < (((List.length (opR c).2.1) : Nat) : Int)) ∧ (K ((regSR (opR c) f), ((0 : Int), ()))))))))
theorem w_spec_IsRegularEpi (x : denL c_spec_IsRegularEpi.args) (K : Bool × Int × Unit → Prop) : evF tab (lkp [(51, c_spec_l02Arrows), (55, c_spec_l03Op), (52, c_spec_l13Regular)]) (cutL []) Try.f24 (bodyOf Try.f24) .n c_spec_IsRegularEpi x K = W_spec_IsRegularEpi x.1 x.2.1 K := by kernel_rfl
theorem k_spec_IsRegularEpi : okC Try.f24.ntmps (cutL []) (bodyOf Try.f24) = true := by kernel_rfl
theorem m_spec_IsRegularEpi (c : CategoryD) (f : Int) (hok : allP (okL c_spec_IsRegularEpi.args (c, f, ()))) (hpre : allP (c_spec_IsRegularEpi.pre (c, f, ()))) : W_spec_IsRegularEpi c f (fun r => r = c_spec_IsRegularEpi.res (c, f, ())) := by
  simp only [c_spec_IsRegularEpi, okL, T.oks, T.ok, ap, allP, true_and, and_true, implies_true] at hok hpre
  try dsimp only [T.den] at hok
  try dsimp only [T.den] at hpre
  unfold W_spec_IsRegularEpi
  refine cnd_of (fun hx => ?_) (fun hx => ?_)
  · have h : ¬ arrCodeR c [f] = 0 := by simpa using hx
    simp only [c_spec_IsRegularEpi, regER, if_neg h]
  · have h : arrCodeR c [f] = 0 := by simpa using hx
    obtain ⟨S, f0, f1⟩ := arrCode_1 h
    have hl : (opR c).2.1.length = c.2.1.length := S.lt
    refine ⟨S, op_shape S, f0, by omega, ?_⟩
    rw [reg_eq (op_shape S) (op_ass S (cat_ass (arr_cat h))) f0 (by omega)]
    simp only [c_spec_IsRegularEpi, regER, if_pos h]
theorem ct_spec_IsRegularEpi : CtOk Try.prog 24 c_spec_IsRegularEpi :=
  ct_by (Φ := lkp [(51, c_spec_l02Arrows), (55, c_spec_l03Op), (52, c_spec_l13Regular)]) (good_cons ct_spec_l02Arrows (good_cons ct_spec_l03Op (good_cons ct_spec_l13Regular good_nil))) tab_ok (by kernel_rfl) (fn := Try.f24) (c := bodyOf Try.f24) (by kernel_rfl) (by kernel_rfl) (by kernel_rfl) c_spec_IsRegularEpi rfl .n (cutL []) (by kernel_rfl) (by kernel_rfl) k_spec_IsRegularEpi (by decide) (fun x K => W_spec_IsRegularEpi x.1 x.2.1 K) w_spec_IsRegularEpi (fun x h1 h2 => m_spec_IsRegularEpi x.1 x.2.1 h1 h2)
def c_laws_FnExactIsRegularEpi : Ct := ⟨[CategoryT, (.int .i64)], [true, false], fun x => [], [(false, (.fz .bool))], fun x => (true, ()), false, none⟩
def W_laws_FnExactIsRegularEpi (aC : CategoryD) (aF : Int) (K : Bool × Unit → Prop) : Prop := (((-(4611404543450677248 : Int)) ≤ (1048576 : Int)) ∧ (cnd (decide ((szR (wR CategoryT aC) (1048576 : Int)) < (0 : Int))) (K (Bool.true, ())) (((wR CategoryT aC) ≤ 1099511627776) ∧ (((wR CategoryT aC) ≤ 1099511627776) ∧ (cnd (((regER aC aF).1 != (regER aC aF).1) || ((regER aC aF).2 != (regER aC aF).2)) (K (Bool.false, ())) (((wR CategoryT aC) ≤ 1099511627776) ∧ (cnd (!(eqR CategoryT aC aC)) (K (Bool.false, ())) (K (Bool.true, ())))))))))
theorem w_laws_FnExactIsRegularEpi (x : denL c_laws_FnExactIsRegularEpi.args) (K : Bool × Unit → Prop) : evF tab (lkp [(25, c_impl_IsRegularEpi), (23, c_laws_eqCategory), (19, c_laws_szCategory), (21, c_laws_toCategory), (24, c_spec_IsRegularEpi)]) (cutL [(10, 503)]) Try.f5 (bodyOf Try.f5) .n c_laws_FnExactIsRegularEpi x K = W_laws_FnExactIsRegularEpi x.1 x.2.1 K := by kernel_rfl
theorem k_laws_FnExactIsRegularEpi : okC Try.f5.ntmps (cutL [(10, 503)]) (bodyOf Try.f5) = true := by kernel_rfl
theorem m_laws_FnExactIsRegularEpi (aC : CategoryD) (aF : Int) (hok : allP (okL c_laws_FnExactIsRegularEpi.args (aC, aF, ()))) (hpre : allP (c_laws_FnExactIsRegularEpi.pre (aC, aF, ()))) : W_laws_FnExactIsRegularEpi aC aF (fun r => r = c_laws_FnExactIsRegularEpi.res (aC, aF, ())) := by
  simp only [c_laws_FnExactIsRegularEpi, okL, T.oks, T.ok, ap, allP, true_and, and_true, implies_true] at hok hpre
  try dsimp only [T.den] at hok
  try dsimp only [T.den] at hpre
  unfold W_laws_FnExactIsRegularEpi
  generalize wR CategoryT aC = n1
  simp only [eqR_self]
  clear hok
  grind [cnd, nb_eq, inK64, szR, c_laws_FnExactIsRegularEpi]
theorem ct_laws_FnExactIsRegularEpi : CtOk Try.prog 5 c_laws_FnExactIsRegularEpi :=
  ct_by (Φ := lkp [(25, c_impl_IsRegularEpi), (23, c_laws_eqCategory), (19, c_laws_szCategory), (21, c_laws_toCategory), (24, c_spec_IsRegularEpi)]) (good_cons ct_impl_IsRegularEpi (good_cons ct_laws_eqCategory (good_cons ct_laws_szCategory (good_cons ct_laws_toCategory (good_cons ct_spec_IsRegularEpi good_nil))))) tab_ok (by kernel_rfl) (fn := Try.f5) (c := bodyOf Try.f5) (by kernel_rfl) (by kernel_rfl) (by kernel_rfl) c_laws_FnExactIsRegularEpi rfl .n (cutL [(10, 503)]) (by kernel_rfl) (by kernel_rfl) k_laws_FnExactIsRegularEpi (by decide) (fun x K => W_laws_FnExactIsRegularEpi x.1 x.2.1 K) w_laws_FnExactIsRegularEpi (fun x h1 h2 => m_laws_FnExactIsRegularEpi x.1 x.2.1 h1 h2)
end Go.Bm
