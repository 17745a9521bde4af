/- What the functions that FnExactIsFinal reaches give: for each its contract, what it asks, and the proof. No condition. -/
import Derived.Test.YtjggbiglookngaaTab
namespace Go.Bm
open Go.Proofs
set_option maxRecDepth 100000
set_option maxHeartbeats 1000000
set_option linter.unusedVariables false
set_option linter.unusedSimpArgs false
def c_impl_Category_arrows : Ct := ⟨[(.pt CategoryT)], [false], fun x => [], [(false, (.fz (.int .i64)))], fun x => ((x.1.2.1.length : Int), ()), false, none⟩
def W_impl_Category_arrows (c : CategoryD) (K : Int × Unit → Prop) : Prop := (K ((((List.length c.2.1) : Nat) : Int), ()))
theorem w_impl_Category_arrows (x : denL c_impl_Category_arrows.args) (K : Int × Unit → Prop) : evF tab (lkp []) (cutL []) Try.f86 (bodyOf Try.f86) .n c_impl_Category_arrows x K = W_impl_Category_arrows x.1 K := by kernel_rfl
theorem k_impl_Category_arrows : okC Try.f86.ntmps (cutL []) (bodyOf Try.f86) = true := by kernel_rfl
theorem m_impl_Category_arrows (c : CategoryD) (hok : allP (okL c_impl_Category_arrows.args (c, ()))) (hpre : allP (c_impl_Category_arrows.pre (c, ()))) : W_impl_Category_arrows c (fun r => r = c_impl_Category_arrows.res (c, ())) := by
  simp only [c_impl_Category_arrows, okL, T.oks, T.ok, ap, allP, true_and, and_true, implies_true] at hok hpre
  try dsimp only [T.den] at hok
  try dsimp only [T.den] at hpre
  unfold W_impl_Category_arrows
  rfl
theorem ct_impl_Category_arrows : CtOk Try.prog 86 c_impl_Category_arrows :=
  ct_by (Φ := lkp []) good_nil tab_ok (by kernel_rfl) (fn := Try.f86) (c := bodyOf Try.f86) (by kernel_rfl) (by kernel_rfl) (by kernel_rfl) c_impl_Category_arrows rfl .n (cutL []) (by kernel_rfl) (by kernel_rfl) k_impl_Category_arrows (by decide) (fun x K => W_impl_Category_arrows x.1 K) w_impl_Category_arrows (fun x h1 h2 => m_impl_Category_arrows x.1 h1 h2)
def compR (c : CategoryD) (f g : Int) : Int := (c.2.2.2.2.getD f.toNat []).getD g.toNat 0

def c_impl_Category_then : Ct := ⟨[(.pt CategoryT), (.int .i64), (.int .i64)], [false, false, false], fun x => [0 ≤ x.2.1, x.2.1 < x.1.2.2.2.2.length, 0 ≤ x.2.2.1, x.2.2.1 < (x.1.2.2.2.2.getD x.2.1.toNat []).length], [(false, (.fz (.int .i64)))], fun x => (compR x.1 x.2.1 x.2.2.1, ()), false, none⟩
def W_impl_Category_then (c : CategoryD) (f : Int) (g : Int) (K : Int × Unit → Prop) : Prop := (((0 : Int) ≤ f) ∧ ((f < (((List.length c.2.2.2.2) : Nat) : Int)) ∧ (((0 : Int) ≤ g) ∧ ((g < (((List.length (List.getD c.2.2.2.2 (Int.toNat f) ([] : List Int))) : Nat) : Int)) ∧ (K ((List.getD (List.getD c.2.2.2.2 (Int.toNat f) ([] : List Int)) (Int.toNat g) (0 : Int)), ()))))))
theorem w_impl_Category_then (x : denL c_impl_Category_then.args) (K : Int × Unit → Prop) : evF tab (lkp []) (cutL []) Try.f89 (bodyOf Try.f89) .n c_impl_Category_then x K = W_impl_Category_then x.1 x.2.1 x.2.2.1 K := by kernel_rfl
theorem k_impl_Category_then : okC Try.f89.ntmps (cutL []) (bodyOf Try.f89) = true := by kernel_rfl
theorem m_impl_Category_then (c : CategoryD) (f : Int) (g : Int) (hok : allP (okL c_impl_Category_then.args (c, f, g, ()))) (hpre : allP (c_impl_Category_then.pre (c, f, g, ()))) : W_impl_Category_then c f g (fun r => r = c_impl_Category_then.res (c, f, g, ())) := by
  simp only [c_impl_Category_then, okL, T.oks, T.ok, ap, allP, true_and, and_true, implies_true] at hok hpre
  try dsimp only [T.den] at hok
  try dsimp only [T.den] at hpre
  unfold W_impl_Category_then
  exact ⟨hpre.1, hpre.2.1, hpre.2.2.1, hpre.2.2.2, rfl⟩
theorem ct_impl_Category_then : CtOk Try.prog 89 c_impl_Category_then :=
  ct_by (Φ := lkp []) good_nil tab_ok (by kernel_rfl) (fn := Try.f89) (c := bodyOf Try.f89) (by kernel_rfl) (by kernel_rfl) (by kernel_rfl) c_impl_Category_then rfl .n (cutL []) (by kernel_rfl) (by kernel_rfl) k_impl_Category_then (by decide) (fun x K => W_impl_Category_then x.1 x.2.1 x.2.2.1 K) w_impl_Category_then (fun x h1 h2 => m_impl_Category_then x.1 x.2.1 x.2.2.1 h1 h2)
def c_impl_inRange : Ct := ⟨[(.int .i64), (.int .i64), (.int .i64)], [false, false, false], fun x => [], [(false, (.fz .bool))], fun x => (inR x.1 x.2.1 x.2.2.1, ()), false, none⟩
def W_impl_inRange (n : Int) (low : Int) (high : Int) (K : Bool × Unit → Prop) : Prop := (K (((decide (low ≤ n)) && (decide (n ≤ high))), ()))
theorem w_impl_inRange (x : denL c_impl_inRange.args) (K : Bool × Unit → Prop) : evF tab (lkp []) (cutL []) Try.f132 (bodyOf Try.f132) .n c_impl_inRange x K = W_impl_inRange x.1 x.2.1 x.2.2.1 K := by kernel_rfl
theorem k_impl_inRange : okC Try.f132.ntmps (cutL []) (bodyOf Try.f132) = true := by kernel_rfl
theorem m_impl_inRange (n : Int) (low : Int) (high : Int) (hok : allP (okL c_impl_inRange.args (n, low, high, ()))) (hpre : allP (c_impl_inRange.pre (n, low, high, ()))) : W_impl_inRange n low high (fun r => r = c_impl_inRange.res (n, low, high, ())) := by
  simp only [c_impl_inRange, okL, T.oks, T.ok, ap, allP, true_and, and_true, implies_true] at hok hpre
  try dsimp only [T.den] at hok
  try dsimp only [T.den] at hpre
  unfold W_impl_inRange
  grind [cnd, nb_eq, inK64, c_impl_inRange, inR]
theorem ct_impl_inRange : CtOk Try.prog 132 c_impl_inRange :=
  ct_by (Φ := lkp []) good_nil tab_ok (by kernel_rfl) (fn := Try.f132) (c := bodyOf Try.f132) (by kernel_rfl) (by kernel_rfl) (by kernel_rfl) c_impl_inRange rfl .n (cutL []) (by kernel_rfl) (by kernel_rfl) k_impl_inRange (by decide) (fun x K => W_impl_inRange x.1 x.2.1 x.2.2.1 K) w_impl_inRange (fun x h1 h2 => m_impl_inRange x.1 x.2.1 x.2.2.1 h1 h2)
def c_impl_within : Ct := ⟨[(.sl (.int .i64)), (.int .i64)], [false, false], fun x => [inK .i64 (x.2.1 - 1)], [(false, (.fz .bool))], fun x => (withinR x.1 x.2.1, ()), false, none⟩
def W_impl_within (list : List Int) (n : Int) (K : Bool × Unit → Prop) : Prop := (loopW (S := ((Int × Unit) × Unit)) (fun s => (fun next => ((inK IntKind.i64 s.1.1) → (cnd (decide (s.1.1 < (((List.length list) : Nat) : Int))) (((0 : Int) ≤ s.1.1) ∧ ((s.1.1 < (((List.length list) : Nat) : Int)) ∧ ((inK IntKind.i64 (n - (1 : Int))) ∧ (cnd (!(inR (List.getD list (Int.toNat s.1.1) (0 : Int)) (0 : Int) (n - (1 : Int)))) (K (Bool.false, ())) ((inK IntKind.i64 (s.1.1 + (1 : Int))) ∧ (next (((s.1.1 + (1 : Int)), ()), ()))))))) (K (Bool.true, ())))))) (((0 : Int), ()), ()))
theorem w_impl_within (x : denL c_impl_within.args) (K : Bool × Unit → Prop) : evF tab (lkp [(132, c_impl_inRange)]) (cutL []) Try.f85 (bodyOf Try.f85) (.s .n (.s (.s .n (.l [(9, (.d (.int .i64)))] [] [1, 7, 8] .n)) .n)) c_impl_within x K = W_impl_within x.1 x.2.1 K := by kernel_rfl
theorem k_impl_within : okC Try.f85.ntmps (cutL []) (bodyOf Try.f85) = true := by kernel_rfl
theorem m_impl_within (list : List Int) (n : Int) (hok : allP (okL c_impl_within.args (list, n, ()))) (hpre : allP (c_impl_within.pre (list, n, ()))) : W_impl_within list n (fun r => r = c_impl_within.res (list, n, ())) := by
  simp only [c_impl_within, okL, T.oks, T.ok, ap, allP, true_and, and_true, implies_true] at hok hpre
  try dsimp only [T.den] at hok
  try dsimp only [T.den] at hpre
  unfold W_impl_within
  refine loop_of (fun (s : ((Int × Unit) × Unit)) => 0 ≤ s.1.1 ∧ s.1.1 ≤ list.length ∧ withinR list n = withinR (list.drop s.1.1.toNat) n) (fun (s : ((Int × Unit) × Unit)) => (list.length - s.1.1).toNat) ?_ (by simp)
  rintro ⟨⟨i, _⟩, _⟩ next ⟨h0, h1, h2⟩ hn hin
  simp only at h0 h1 h2 hn ⊢
  refine cnd_d (fun hc => ?_) (fun hc => ?_)
  · rw [drop_c list 0 h0 hc] at h2
    simp only [withinR, List.all_cons] at h2
    grind [cnd, nb_eq, inK64, c_impl_within, withinR]
  · rw [drop_n list (by omega)] at h2
    grind [cnd, nb_eq, inK64, c_impl_within, withinR]
theorem ct_impl_within : CtOk Try.prog 85 c_impl_within :=
  ct_by (Φ := lkp [(132, c_impl_inRange)]) (good_cons ct_impl_inRange good_nil) tab_ok (by kernel_rfl) (fn := Try.f85) (c := bodyOf Try.f85) (by kernel_rfl) (by kernel_rfl) (by kernel_rfl) c_impl_within rfl (.s .n (.s (.s .n (.l [(9, (.d (.int .i64)))] [] [1, 7, 8] .n)) .n)) (cutL []) (by kernel_rfl) (by kernel_rfl) k_impl_within (by decide) (fun x K => W_impl_within x.1 x.2.1 K) w_impl_within (fun x h1 h2 => m_impl_within x.1 x.2.1 h1 h2)
def c_impl_Category_ends : Ct := ⟨[(.pt CategoryT), (.int .i64)], [false, false], fun x => [0 ≤ x.2.1, x.2.1 < x.1.2.1.length, x.2.1 < x.1.2.2.1.length], [(true, (.fz endsT))], fun x => (((x.1.2.1.getD x.2.1.toNat 0, x.1.2.2.1.getD x.2.1.toNat 0) : Int × Int), ()), false, none⟩
def W_impl_Category_ends (c : CategoryD) (f : Int) (K : endsD × Unit → Prop) : Prop := (((0 : Int) ≤ f) ∧ ((f < (((List.length c.2.1) : Nat) : Int)) ∧ (((0 : Int) ≤ f) ∧ ((f < (((List.length c.2.2.1) : Nat) : Int)) ∧ (K (((List.getD c.2.1 (Int.toNat f) (0 : Int)), (List.getD c.2.2.1 (Int.toNat f) (0 : Int))), ()))))))
theorem w_impl_Category_ends (x : denL c_impl_Category_ends.args) (K : endsD × Unit → Prop) : evF tab (lkp []) (cutL [(1, 15)]) Try.f110 (bodyOf Try.f110) .n c_impl_Category_ends x K = W_impl_Category_ends x.1 x.2.1 K := by kernel_rfl
theorem k_impl_Category_ends : okC Try.f110.ntmps (cutL [(1, 15)]) (bodyOf Try.f110) = true := by kernel_rfl
theorem m_impl_Category_ends (c : CategoryD) (f : Int) (hok : allP (okL c_impl_Category_ends.args (c, f, ()))) (hpre : allP (c_impl_Category_ends.pre (c, f, ()))) : W_impl_Category_ends c f (fun r => r = c_impl_Category_ends.res (c, f, ())) := by
  simp only [c_impl_Category_ends, okL, T.oks, T.ok, ap, allP, true_and, and_true, implies_true] at hok hpre
  try dsimp only [T.den] at hok
  try dsimp only [T.den] at hpre
  unfold W_impl_Category_ends
  exact ⟨hpre.1, hpre.2.1, hpre.1, hpre.2.2, rfl⟩
theorem ct_impl_Category_ends : CtOk Try.prog 110 c_impl_Category_ends :=
  ct_by (Φ := lkp []) good_nil tab_ok (by kernel_rfl) (fn := Try.f110) (c := bodyOf Try.f110) (by kernel_rfl) (by kernel_rfl) (by kernel_rfl) c_impl_Category_ends rfl .n (cutL [(1, 15)]) (by kernel_rfl) (by kernel_rfl) k_impl_Category_ends (by decide) (fun x K => W_impl_Category_ends x.1 x.2.1 K) w_impl_Category_ends (fun x h1 h2 => m_impl_Category_ends x.1 x.2.1 h1 h2)
/-- what a cell of the table must be -/
def cellQ (c : CategoryD) (f g v : Int) : Bool :=
  if c.2.2.1.getD f.toNat 0 = c.2.1.getD g.toNat 0 then decide (0 ≤ v ∧ v < c.2.1.length ∧ c.2.1.getD v.toNat 0 = c.2.1.getD f.toNat 0 ∧ c.2.2.1.getD v.toNat 0 = c.2.2.1.getD g.toNat 0)
  else decide (v = -1)
def cellR (c : CategoryD) (f g : Int) : Bool := cellQ c f g (compR c f g)
structure ShapeP (c : CategoryD) : Prop where
  ob : 0 ≤ c.1 ∧ c.1 ≤ 8
  m : c.2.1.length ≤ 40
  lt : c.2.2.1.length = c.2.1.length
  fr : withinR c.2.1 c.1 = true
  to : withinR c.2.2.1 c.1 = true
  li : (c.2.2.2.1.length : Int) = c.1
  ids : withinR c.2.2.2.1 c.2.1.length = true
  lc : c.2.2.2.2.length = c.2.1.length
  idt : ∀ x : Int, 0 ≤ x → x < c.1 → c.2.1.getD (c.2.2.2.1.getD x.toNat 0).toNat 0 = x ∧ c.2.2.1.getD (c.2.2.2.1.getD x.toNat 0).toNat 0 = x
  row : ∀ f : Int, 0 ≤ f → f < c.2.1.length → (c.2.2.2.2.getD f.toNat []).length = c.2.1.length
  cell : ∀ f g : Int, 0 ≤ f → f < c.2.1.length → 0 ≤ g → g < c.2.1.length → cellR c f g = true
def shapeR (c : CategoryD) : Bool := inR c.1 0 8 && decide (c.2.1.length ≤ 40) && decide (c.2.2.1.length = c.2.1.length) && withinR c.2.1 c.1 && withinR c.2.2.1 c.1 && decide ((c.2.2.2.1.length : Int) = c.1) && withinR c.2.2.2.1 c.2.1.length &&
  decide (c.2.2.2.2.length = c.2.1.length) && allB c.1.toNat (fun x => decide (c.2.1.getD (c.2.2.2.1.getD x.toNat 0).toNat 0 = x ∧ c.2.2.1.getD (c.2.2.2.1.getD x.toNat 0).toNat 0 = x)) &&
  allB c.2.1.length (fun f => decide ((c.2.2.2.2.getD f.toNat []).length = c.2.1.length)) && allB c.2.1.length (fun f => allB c.2.1.length fun g => cellR c f g)
theorem shape_iff {c : CategoryD} : shapeR c = true ↔ ShapeP c := by
  simp only [shapeR, Bool.and_eq_true, decide_eq_true_eq, inR, allB_iff]
  constructor
  · rintro ⟨⟨⟨⟨⟨⟨⟨⟨⟨⟨h0, h1⟩, h2⟩, h3⟩, h4⟩, h5⟩, h6⟩, h7⟩, h8⟩, h9⟩, h10⟩
    exact ⟨h0, h1, h2, h3, h4, h5, h6, h7, fun x a b => h8 x a (by omega), h9, fun f g a b d e => h10 f a b g d e⟩
  · intro h
    exact ⟨⟨⟨⟨⟨⟨⟨⟨⟨⟨h.ob, h.m⟩, h.lt⟩, h.fr⟩, h.to⟩, h.li⟩, h.ids⟩, h.lc⟩, fun x a b => h.idt x a (by have := h.ob; omega)⟩, h.row⟩, fun f a b g d e => h.cell f g a b d e⟩
theorem shape_f {c : CategoryD} (h : ¬ ShapeP c) : shapeR c = false := by
  cases hs : shapeR c with
  | false => rfl
  | true => exact absurd (shape_iff.1 hs) h
theorem shape_t {c : CategoryD} (h : ShapeP c) : shapeR c = true := shape_iff.2 h

def c_impl_Category_isShape : Ct := ⟨[(.pt CategoryT)], [false], fun x => [], [(false, (.fz .bool))], fun x => (shapeR x.1, ()), false, none⟩
def W_impl_Category_isShape (c : CategoryD) (K : Bool × Unit → Prop) : Prop := ((((((!(inR c.1 (0 : Int) (8 : Int))) || (decide ((40 : Int) < (((List.length c.2.1) : Nat) : Int)))) || ((((List.length c.2.2.1) : Nat) : Int) != (((List.length c.2.1) : Nat) : Int))) = Bool.false) → (inK IntKind.i64 (c.1 - (1 : Int)))) ∧ (((((((!(inR c.1 (0 : Int) (8 : Int))) || (decide ((40 : Int) < (((List.length c.2.1) : Nat) : Int)))) || ((((List.length c.2.2.1) : Nat) : Int) != (((List.length c.2.1) : Nat) : Int))) || (!(withinR c.2.1 c.1))) = Bool.false) → (inK IntKind.i64 (c.1 - (1 : Int)))) ∧ (cnd (((((!(inR c.1 (0 : Int) (8 : Int))) || (decide ((40 : Int) < (((List.length c.2.1) : Nat) : Int)))) || ((((List.length c.2.2.1) : Nat) : Int) != (((List.length c.2.1) : Nat) : Int))) || (!(withinR c.2.1 c.1))) || (!(withinR c.2.2.1 c.1))) (K (Bool.false, ())) (((((((List.length c.2.2.2.1) : Nat) : Int) != c.1) = Bool.false) → (inK IntKind.i64 ((((List.length c.2.1) : Nat) : Int) - (1 : Int)))) ∧ (cnd ((((((List.length c.2.2.2.1) : Nat) : Int) != c.1) || (!(withinR c.2.2.2.1 (((List.length c.2.1) : Nat) : Int)))) || ((((List.length c.2.2.2.2) : Nat) : Int) != (((List.length c.2.1) : Nat) : Int))) (K (Bool.false, ())) (loopW (S := ((Int × Unit) × Unit)) (fun s => (fun next => ((inK IntKind.i64 s.1.1) → (cnd (decide (s.1.1 < (((List.length c.2.2.2.1) : Nat) : Int))) (((0 : Int) ≤ s.1.1) ∧ ((s.1.1 < (((List.length c.2.2.2.1) : Nat) : Int)) ∧ (((0 : Int) ≤ (List.getD c.2.2.2.1 (Int.toNat s.1.1) (0 : Int))) ∧ (((List.getD c.2.2.2.1 (Int.toNat s.1.1) (0 : Int)) < (((List.length c.2.1) : Nat) : Int)) ∧ (((List.getD c.2.2.2.1 (Int.toNat s.1.1) (0 : Int)) < (((List.length c.2.2.1) : Nat) : Int)) ∧ (cnd (!(((List.getD c.2.1 (Int.toNat (List.getD c.2.2.2.1 (Int.toNat s.1.1) (0 : Int))) (0 : Int)) == s.1.1) && ((List.getD c.2.2.1 (Int.toNat (List.getD c.2.2.2.1 (Int.toNat s.1.1) (0 : Int))) (0 : Int)) == s.1.1))) (K (Bool.false, ())) ((inK IntKind.i64 (s.1.1 + (1 : Int))) ∧ (next (((s.1.1 + (1 : Int)), ()), ()))))))))) (loopW (S := ((Int × Unit) × Unit)) (fun s1 => (fun next1 => ((inK IntKind.i64 s1.1.1) → (cnd (decide (s1.1.1 < (((List.length c.2.2.2.2) : Nat) : Int))) (((0 : Int) ≤ s1.1.1) ∧ ((s1.1.1 < (((List.length c.2.2.2.2) : Nat) : Int)) ∧ (cnd ((((List.length (List.getD c.2.2.2.2 (Int.toNat s1.1.1) ([] : List Int))) : Nat) : Int) != (((List.length c.2.1) : Nat) : Int)) (K (Bool.false, ())) (loopW (S := ((Int × Unit) × Unit)) (fun s2 => (fun next2 => ((inK IntKind.i64 s2.1.1) → (cnd (decide (s2.1.1 < (((List.length (List.getD c.2.2.2.2 (Int.toNat s1.1.1) ([] : List Int))) : Nat) : Int))) (joinW (S := (Unit × Unit)) (fun s3 => ((inK IntKind.i64 (s2.1.1 + (1 : Int))) ∧ (next2 (((s2.1.1 + (1 : Int)), ()), ())))) (fun k => (((0 : Int) ≤ s2.1.1) ∧ ((s2.1.1 < (((List.length (List.getD c.2.2.2.2 (Int.toNat s1.1.1) ([] : List Int))) : Nat) : Int)) ∧ (((0 : Int) ≤ s1.1.1) ∧ ((s1.1.1 < (((List.length c.2.2.1) : Nat) : Int)) ∧ (((0 : Int) ≤ s2.1.1) ∧ ((s2.1.1 < (((List.length c.2.1) : Nat) : Int)) ∧ (cnd ((List.getD c.2.2.1 (Int.toNat s1.1.1) (0 : Int)) != (List.getD c.2.1 (Int.toNat s2.1.1) (0 : Int))) (cnd ((List.getD (List.getD c.2.2.2.2 (Int.toNat s1.1.1) ([] : List Int)) (Int.toNat s2.1.1) (0 : Int)) != (-(1 : Int))) (K (Bool.false, ())) (k ((), ()))) ((inK IntKind.i64 ((((List.length c.2.1) : Nat) : Int) - (1 : Int))) ∧ ((((!(inR (List.getD (List.getD c.2.2.2.2 (Int.toNat s1.1.1) ([] : List Int)) (Int.toNat s2.1.1) (0 : Int)) (0 : Int) ((((List.length c.2.1) : Nat) : Int) - (1 : Int)))) = Bool.false) → (((List.getD (List.getD c.2.2.2.2 (Int.toNat s1.1.1) ([] : List Int)) (Int.toNat s2.1.1) (0 : Int)) < (((List.length c.2.1) : Nat) : Int)) ∧ (((List.getD (List.getD c.2.2.2.2 (Int.toNat s1.1.1) ([] : List Int)) (Int.toNat s2.1.1) (0 : Int)) < (((List.length c.2.2.1) : Nat) : Int)) ∧ ((0 : Int) ≤ (List.getD (List.getD c.2.2.2.2 (Int.toNat s1.1.1) ([] : List Int)) (Int.toNat s2.1.1) (0 : Int)))))) ∧ ((((!(inR (List.getD (List.getD c.2.2.2.2 (Int.toNat s1.1.1) ([] : List Int)) (Int.toNat s2.1.1) (0 : Int)) (0 : Int) ((((List.length c.2.1) : Nat) : Int) - (1 : Int)))) = Bool.false) → ((s1.1.1 < (((List.length c.2.1) : Nat) : Int)) ∧ ((0 : Int) ≤ s1.1.1))) ∧ ((((!(inR (List.getD (List.getD c.2.2.2.2 (Int.toNat s1.1.1) ([] : List Int)) (Int.toNat s2.1.1) (0 : Int)) (0 : Int) ((((List.length c.2.1) : Nat) : Int) - (1 : Int)))) = Bool.false) → ((s2.1.1 < (((List.length c.2.2.1) : Nat) : Int)) ∧ ((0 : Int) ≤ s2.1.1))) ∧ (cnd ((!(inR (List.getD (List.getD c.2.2.2.2 (Int.toNat s1.1.1) ([] : List Int)) (Int.toNat s2.1.1) (0 : Int)) (0 : Int) ((((List.length c.2.1) : Nat) : Int) - (1 : Int)))) || (!(((List.getD c.2.1 (Int.toNat (List.getD (List.getD c.2.2.2.2 (Int.toNat s1.1.1) ([] : List Int)) (Int.toNat s2.1.1) (0 : Int))) (0 : Int)) == (List.getD c.2.1 (Int.toNat s1.1.1) (0 : Int))) && ((List.getD c.2.2.1 (Int.toNat (List.getD (List.getD c.2.2.2.2 (Int.toNat s1.1.1) ([] : List Int)) (Int.toNat s2.1.1) (0 : Int))) (0 : Int)) == (List.getD c.2.2.1 (Int.toNat s2.1.1) (0 : Int)))))) (K (Bool.false, ())) (k ((), ())))))))))))))))) ((inK IntKind.i64 (s1.1.1 + (1 : Int))) ∧ (next1 (((s1.1.1 + (1 : Int)), ()), ()))))))) (((0 : Int), ()), ()))))) (K (Bool.true, ())))))) (((0 : Int), ()), ())))))) (((0 : Int), ()), ())))))))
theorem w_impl_Category_isShape (x : denL c_impl_Category_isShape.args) (K : Bool × Unit → Prop) : evF tab (lkp [(86, c_impl_Category_arrows), (110, c_impl_Category_ends), (132, c_impl_inRange), (85, c_impl_within)]) (cutL [(2, 43), (20, 15), (4, 28), (23, 26)]) Try.f98 (bodyOf Try.f98) (.s .n (.s .n (.s .n (.s .n (.s (.s .n (.l [(88, (.d (.int .i64)))] [] [0, 3, 86, 87] .n)) (.s (.s .n (.l [(106, (.d (.int .i64)))] [] [0, 3, 104, 105] (.s .n (.s .n (.s (.s .n (.s .n (.s .n (.l [(117, (.d (.int .i64)))] [] [0, 3, 6, 104, 105, 106, 115, 116] (.s .n (.s .n (.s (.j [] [] [0, 3, 6, 104, 105, 106, 115, 116, 117] .n) .n))))))) .n))))) .n)))))) c_impl_Category_isShape x K = W_impl_Category_isShape x.1 K := by kernel_rfl
theorem k_impl_Category_isShape : okC Try.f98.ntmps (cutL [(2, 43), (20, 15), (4, 28), (23, 26)]) (bodyOf Try.f98) = true := by kernel_rfl
theorem m_impl_Category_isShape (c : CategoryD) (hok : allP (okL c_impl_Category_isShape.args (c, ()))) (hpre : allP (c_impl_Category_isShape.pre (c, ()))) : W_impl_Category_isShape c (fun r => r = c_impl_Category_isShape.res (c, ())) := by
  simp only [c_impl_Category_isShape, okL, T.oks, T.ok, ap, allP, true_and, and_true, implies_true] at hok hpre
  try dsimp only [T.den] at hok
  try dsimp only [T.den] at hpre
  unfold W_impl_Category_isShape
  refine ⟨by grind [cnd, nb_eq, inK64, inR], by grind [cnd, nb_eq, inK64, inR], cnd_of (fun hc => ?_) (fun hc => ⟨by rw [inK64]; have := hok.2.1.1; grind [cnd, nb_eq, inK64], cnd_of (fun hd => ?_) (fun hd => ?_)⟩)⟩
  · simp only [c_impl_Category_isShape]; rw [shape_f]; intro h; have h1 := h.ob; have h2 := h.m; have h3 := h.lt; have h4 := h.fr; have h5 := h.to; simp only [inR] at hc; grind [cnd, nb_eq, inK64]
  · simp only [c_impl_Category_isShape]; rw [shape_f]; intro h; have h1 := h.li; have h2 := h.ids; have h3 := h.lc; grind [cnd, nb_eq, inK64]
  simp only [inR, Bool.or_eq_false_iff, Bool.not_eq_false', Bool.and_eq_true, decide_eq_true_eq, decide_eq_false_iff_not, bne_eq_false_iff_eq] at hc hd
  obtain ⟨⟨⟨⟨hob, hm⟩, hlt⟩, hfr⟩, hto⟩ := hc
  obtain ⟨⟨hli, hids⟩, hlc⟩ := hd
  have bad : ¬ ShapeP c → (false, ()) = c_impl_Category_isShape.res (c, ()) := fun h => by simp only [c_impl_Category_isShape]; rw [shape_f h]
  refine loop_ix (n := c.2.2.2.1.length) (fun x => ∀ y : Int, 0 ≤ y → y < x → c.2.1.getD (c.2.2.2.1.getD y.toNat 0).toNat 0 = y ∧ c.2.2.1.getD (c.2.2.2.1.getD y.toNat 0).toNat 0 = y) (by omega) (by intro y h0 h1; omega) ?_ ?_
  · intro x next h0 h1 hP hn hin
    have hb := within_iff.1 hids x h0 h1
    try dsimp only
    refine cnd_d (fun _ => ⟨h0, h1, hb.1, hb.2, by omega, cnd_of (fun hx => bad fun h => ?_) (fun hx => ?_)⟩) (fun h => absurd h1 h)
    · have := h.idt x h0 (by omega)
      rw [this.1, this.2] at hx
      simp at hx
    · simp only [Bool.not_eq_false', Bool.and_eq_true, beq_iff_eq] at hx
      refine ⟨by rw [inK64]; (try dsimp only); omega, hn fun y y0 y1 => ?_⟩
      by_cases e : y = x
      · rw [e]; exact hx
      · exact hP y y0 (by omega)
  intro next hidt hin
  refine cnd_d (fun h => absurd h (by dsimp only; omega)) (fun _ => ?_)
  refine loop_ix (n := c.2.2.2.2.length) (fun f => ∀ f' : Int, 0 ≤ f' → f' < f → (c.2.2.2.2.getD f'.toNat []).length = c.2.1.length ∧ ∀ g : Int, 0 ≤ g → g < c.2.1.length → cellR c f' g = true) (by omega) (by intro y h0 h1; omega) ?_ ?_
  · intro f next h0 h1 hP hn hin
    try dsimp only
    refine cnd_d (fun _ => ⟨h0, h1, cnd_of (fun hx => bad fun h => ?_) (fun hx => ?_)⟩) (fun h => absurd h1 h)
    · have := h.row f h0 (by omega)
      rw [this] at hx
      simp at hx
    simp only [bne_eq_false_iff_eq] at hx
    refine loop_ix (n := (c.2.2.2.2.getD f.toNat []).length) (fun g => ∀ g' : Int, 0 ≤ g' → g' < g → cellR c f g' = true) (by omega) (by intro y h0 h1; omega) ?_ ?_
    · intro g next3 g0 g1 hP3 hn3 hin3
      try dsimp only
      refine cnd_d (fun _ => ?_) (fun h => absurd g1 h)
      refine join_of (fun _ => cellR c f g = true) (fun _ hcell => ⟨by rw [inK64]; (try dsimp only); omega, hn3 fun g' y0 y1 => ?_⟩) (fun k hk => ?_)
      · by_cases e : g' = g
        · rw [e]; exact hcell
        · exact hP3 g' y0 (by omega)
      have hcell : ∀ b, cellR c f g = b → b = false → ¬ ShapeP c := fun b h1 h2 h => by
        have := h.cell f g h0 (by omega) g0 (by omega)
        rw [h1, h2] at this; cases this
      have hk' := hk ((), ())
      obtain ⟨v, hv⟩ : ∃ v, (c.2.2.2.2.getD f.toNat []).getD g.toNat 0 = v := ⟨_, rfl⟩
      have hR : cellR c f g = cellQ c f g v := by unfold cellR compR; rw [hv]
      rw [hR] at hk'
      rw [hR] at hcell
      rw [hv]
      clear hP3 hn3 hP hn hk hR hv hidt hok
      refine ⟨g0, g1, h0, by omega, g0, by omega, cnd_of (fun ha => cnd_of (fun hb => bad ?_) (fun hb => hk' ?_)) (fun ha => ⟨by rw [inK64]; (try dsimp only); omega, fun hv => ?_, fun _ => ⟨by omega, h0⟩, fun _ => ⟨by omega, g0⟩, cnd_of (fun hb => bad ?_) (fun hb => hk' ?_)⟩)⟩
      · exact hcell _ rfl (by grind [cnd, nb_eq, inK64, cellQ])
      · grind [cnd, nb_eq, inK64, cellQ]
      · simp only [inR, Bool.not_eq_false', Bool.and_eq_true, decide_eq_true_eq] at hv; omega
      · exact hcell _ rfl (by simp only [inR] at hb; grind [cnd, nb_eq, inK64, cellQ])
      · simp only [inR] at hb; grind [cnd, nb_eq, inK64, cellQ]
    · intro next3 hP3 hin3
      refine cnd_d (fun h => absurd h (by dsimp only; omega)) (fun _ => ⟨by rw [inK64]; (try dsimp only); omega, hn fun f' y0 y1 => ?_⟩)
      by_cases e : f' = f
      · rw [e]; exact ⟨by omega, fun g g0 g1 => hP3 g g0 (by omega)⟩
      · exact hP f' y0 (by omega)
  · intro next2 hP2 hin2
    refine cnd_d (fun h => absurd h (by dsimp only; omega)) (fun _ => ?_)
    simp only [c_impl_Category_isShape]
    rw [shape_t ⟨hob, by omega, by omega, hfr, hto, by omega, hids, by omega, fun x a b => hidt x a (by omega), fun f a b => (hP2 f a (by omega)).1, fun f g a b d e => (hP2 f a (by omega)).2 g d e⟩]
theorem ct_impl_Category_isShape : CtOk Try.prog 98 c_impl_Category_isShape :=
  ct_by (Φ := lkp [(86, c_impl_Category_arrows), (110, c_impl_Category_ends), (132, c_impl_inRange), (85, c_impl_within)]) (good_cons ct_impl_Category_arrows (good_cons ct_impl_Category_ends (good_cons ct_impl_inRange (good_cons ct_impl_within good_nil)))) tab_ok (by kernel_rfl) (fn := Try.f98) (c := bodyOf Try.f98) (by kernel_rfl) (by kernel_rfl) (by kernel_rfl) c_impl_Category_isShape rfl (.s .n (.s .n (.s .n (.s .n (.s (.s .n (.l [(88, (.d (.int .i64)))] [] [0, 3, 86, 87] .n)) (.s (.s .n (.l [(106, (.d (.int .i64)))] [] [0, 3, 104, 105] (.s .n (.s .n (.s (.s .n (.s .n (.s .n (.l [(117, (.d (.int .i64)))] [] [0, 3, 6, 104, 105, 106, 115, 116] (.s .n (.s .n (.s (.j [] [] [0, 3, 6, 104, 105, 106, 115, 116, 117] .n) .n))))))) .n))))) .n)))))) (cutL [(2, 43), (20, 15), (4, 28), (23, 26)]) (by kernel_rfl) (by kernel_rfl) k_impl_Category_isShape (by decide) (fun x K => W_impl_Category_isShape x.1 K) w_impl_Category_isShape (fun x h1 h2 => m_impl_Category_isShape x.1 h1 h2)
theorem ShapeP.frm {c : CategoryD} (h : ShapeP c) {f : Int} (h0 : 0 ≤ f) (h1 : f < c.2.1.length) : 0 ≤ c.2.1.getD f.toNat 0 ∧ c.2.1.getD f.toNat 0 < c.1 ∧ 0 ≤ c.2.2.1.getD f.toNat 0 ∧ c.2.2.1.getD f.toNat 0 < c.1 := by
  have a := within_iff.1 h.fr f h0 h1
  have b := within_iff.1 h.to f h0 (by have := h.lt; omega)
  exact ⟨a.1, a.2, b.1, b.2⟩
theorem ShapeP.idn {c : CategoryD} (h : ShapeP c) {x : Int} (h0 : 0 ≤ x) (h1 : x < c.1) : 0 ≤ c.2.2.2.1.getD x.toNat 0 ∧ c.2.2.2.1.getD x.toNat 0 < c.2.1.length ∧ c.2.1.getD (c.2.2.2.1.getD x.toNat 0).toNat 0 = x ∧ c.2.2.1.getD (c.2.2.2.1.getD x.toNat 0).toNat 0 = x := by
  have a := within_iff.1 h.ids x h0 (by have := h.li; omega)
  have b := h.idt x h0 h1
  exact ⟨a.1, a.2, b.1, b.2⟩
theorem ShapeP.yes {c : CategoryD} (h : ShapeP c) {f g : Int} (h0 : 0 ≤ f) (h1 : f < c.2.1.length) (g0 : 0 ≤ g) (g1 : g < c.2.1.length) (e : c.2.2.1.getD f.toNat 0 = c.2.1.getD g.toNat 0) :
    0 ≤ compR c f g ∧ compR c f g < c.2.1.length ∧ c.2.1.getD (compR c f g).toNat 0 = c.2.1.getD f.toNat 0 ∧ c.2.2.1.getD (compR c f g).toNat 0 = c.2.2.1.getD g.toNat 0 := by
  have := h.cell f g h0 h1 g0 g1
  unfold cellR cellQ at this
  rw [if_pos e] at this
  simpa using this
theorem ShapeP.no {c : CategoryD} (h : ShapeP c) {f g : Int} (h0 : 0 ≤ f) (h1 : f < c.2.1.length) (g0 : 0 ≤ g) (g1 : g < c.2.1.length) (e : c.2.2.1.getD f.toNat 0 ≠ c.2.1.getD g.toNat 0) : compR c f g = -1 := by
  have := h.cell f g h0 h1 g0 g1
  unfold cellR cellQ at this
  rw [if_neg e] at this
  simpa using this
theorem ShapeP.comp {c : CategoryD} (h : ShapeP c) {f g : Int} (h0 : 0 ≤ f) (h1 : f < c.2.1.length) (g0 : 0 ≤ g) (g1 : g < c.2.1.length) : 0 ≤ compR c f g ↔ c.2.2.1.getD f.toNat 0 = c.2.1.getD g.toNat 0 := by
  constructor
  · intro h2
    by_cases e : c.2.2.1.getD f.toNat 0 = c.2.1.getD g.toNat 0
    · exact e
    · have := h.no h0 h1 g0 g1 e; omega
  · intro e; exact (h.yes h0 h1 g0 g1 e).1
def faultI (c : CategoryD) (f : Int) : Option (Int × Int × Int × Int) :=
  if compR c (c.2.2.2.1.getD (c.2.1.getD f.toNat 0).toNat 0) f ≠ f ∨ compR c f (c.2.2.2.1.getD (c.2.2.1.getD f.toNat 0).toNat 0) ≠ f then some (1, f, 0, 0) else none
def faultH (c : CategoryD) (f g h : Int) : Option (Int × Int × Int × Int) :=
  if c.2.2.1.getD g.toNat 0 = c.2.1.getD h.toNat 0 ∧ compR c (compR c f g) h ≠ compR c f (compR c g h) then some (2, f, g, h) else none
def faultG (c : CategoryD) (f g : Int) : Option (Int × Int × Int × Int) :=
  if c.2.2.1.getD f.toNat 0 = c.2.1.getD g.toNat 0 then scanR (faultH c f g) c.2.1.length 0 else none
def faultF (c : CategoryD) (f : Int) : Option (Int × Int × Int × Int) := scanR (faultG c f) c.2.1.length 0
def faultR (c : CategoryD) : Int × Int × Int × Int :=
  orR (scanR (faultI c) c.2.1.length 0) (orR (scanR (faultF c) c.2.1.length 0) (0, 0, 0, 0))

def c_impl_Category_fault : Ct := ⟨[(.pt CategoryT)], [false], fun x => [ShapeP x.1], [(false, (.fz (.int .i64))), (false, (.fz (.int .i64))), (false, (.fz (.int .i64))), (false, (.fz (.int .i64)))], fun x => ((faultR x.1).1, (faultR x.1).2.1, (faultR x.1).2.2.1, (faultR x.1).2.2.2, ()), false, none⟩
def W_impl_Category_fault (c : CategoryD) (K : Int × Int × Int × Int × Unit → Prop) : Prop := (loopW (S := ((Int × Unit) × Unit)) (fun s => (fun next => ((inK IntKind.i64 s.1.1) → (cnd (decide (s.1.1 < (((List.length c.2.1) : Nat) : Int))) (((0 : Int) ≤ s.1.1) ∧ ((s.1.1 < (((List.length c.2.1) : Nat) : Int)) ∧ (((0 : Int) ≤ (List.getD c.2.1 (Int.toNat s.1.1) (0 : Int))) ∧ (((List.getD c.2.1 (Int.toNat s.1.1) (0 : Int)) < (((List.length c.2.2.2.1) : Nat) : Int)) ∧ (((0 : Int) ≤ (List.getD c.2.2.2.1 (Int.toNat (List.getD c.2.1 (Int.toNat s.1.1) (0 : Int))) (0 : Int))) ∧ (((List.getD c.2.2.2.1 (Int.toNat (List.getD c.2.1 (Int.toNat s.1.1) (0 : Int))) (0 : Int)) < (((List.length c.2.2.2.2) : Nat) : Int)) ∧ (((0 : Int) ≤ s.1.1) ∧ ((s.1.1 < (((List.length (List.getD c.2.2.2.2 (Int.toNat (List.getD c.2.2.2.1 (Int.toNat (List.getD c.2.1 (Int.toNat s.1.1) (0 : Int))) (0 : Int))) ([] : List Int))) : Nat) : Int)) ∧ (((((compR c (List.getD c.2.2.2.1 (Int.toNat (List.getD c.2.1 (Int.toNat s.1.1) (0 : Int))) (0 : Int)) s.1.1) != s.1.1) = Bool.false) → ((s.1.1 < (((List.length c.2.2.1) : Nat) : Int)) ∧ ((0 : Int) ≤ s.1.1))) ∧ (((((compR c (List.getD c.2.2.2.1 (Int.toNat (List.getD c.2.1 (Int.toNat s.1.1) (0 : Int))) (0 : Int)) s.1.1) != s.1.1) = Bool.false) → (((List.getD c.2.2.1 (Int.toNat s.1.1) (0 : Int)) < (((List.length c.2.2.2.1) : Nat) : Int)) ∧ ((0 : Int) ≤ (List.getD c.2.2.1 (Int.toNat s.1.1) (0 : Int))))) ∧ (((((compR c (List.getD c.2.2.2.1 (Int.toNat (List.getD c.2.1 (Int.toNat s.1.1) (0 : Int))) (0 : Int)) s.1.1) != s.1.1) = Bool.false) → ((s.1.1 < (((List.length c.2.2.2.2) : Nat) : Int)) ∧ (((0 : Int) ≤ (List.getD c.2.2.2.1 (Int.toNat (List.getD c.2.2.1 (Int.toNat s.1.1) (0 : Int))) (0 : Int))) ∧ (((List.getD c.2.2.2.1 (Int.toNat (List.getD c.2.2.1 (Int.toNat s.1.1) (0 : Int))) (0 : Int)) < (((List.length (List.getD c.2.2.2.2 (Int.toNat s.1.1) ([] : List Int))) : Nat) : Int)) ∧ ((0 : Int) ≤ s.1.1))))) ∧ (cnd (((compR c (List.getD c.2.2.2.1 (Int.toNat (List.getD c.2.1 (Int.toNat s.1.1) (0 : Int))) (0 : Int)) s.1.1) != s.1.1) || ((compR c s.1.1 (List.getD c.2.2.2.1 (Int.toNat (List.getD c.2.2.1 (Int.toNat s.1.1) (0 : Int))) (0 : Int))) != s.1.1)) (K ((1 : Int), (s.1.1, ((0 : Int), ((0 : Int), ()))))) ((inK IntKind.i64 (s.1.1 + (1 : Int))) ∧ (next (((s.1.1 + (1 : Int)), ()), ()))))))))))))))) (loopW (S := ((Int × Unit) × Unit)) (fun s1 => (fun next1 => ((inK IntKind.i64 s1.1.1) → (cnd (decide (s1.1.1 < (((List.length c.2.1) : Nat) : Int))) (loopW (S := ((Int × Unit) × Unit)) (fun s2 => (fun next2 => ((inK IntKind.i64 s2.1.1) → (cnd (decide (s2.1.1 < (((List.length c.2.1) : Nat) : Int))) (joinW (S := (Unit × Unit)) (fun s3 => ((inK IntKind.i64 (s2.1.1 + (1 : Int))) ∧ (next2 (((s2.1.1 + (1 : Int)), ()), ())))) (fun k => (((0 : Int) ≤ s1.1.1) ∧ ((s1.1.1 < (((List.length c.2.2.2.2) : Nat) : Int)) ∧ (((0 : Int) ≤ s2.1.1) ∧ ((s2.1.1 < (((List.length (List.getD c.2.2.2.2 (Int.toNat s1.1.1) ([] : List Int))) : Nat) : Int)) ∧ (cnd (decide ((compR c s1.1.1 s2.1.1) < (0 : Int))) (k ((), ())) (loopW (S := ((Int × Unit) × Unit)) (fun s3 => (fun next3 => ((inK IntKind.i64 s3.1.1) → (cnd (decide (s3.1.1 < (((List.length c.2.1) : Nat) : Int))) (((0 : Int) ≤ s2.1.1) ∧ ((s2.1.1 < (((List.length c.2.2.2.2) : Nat) : Int)) ∧ (((0 : Int) ≤ s3.1.1) ∧ ((s3.1.1 < (((List.length (List.getD c.2.2.2.2 (Int.toNat s2.1.1) ([] : List Int))) : Nat) : Int)) ∧ ((((decide ((0 : Int) ≤ (compR c s2.1.1 s3.1.1))) = Bool.true) → ((s1.1.1 < (((List.length c.2.2.2.2) : Nat) : Int)) ∧ (((0 : Int) ≤ s2.1.1) ∧ ((s2.1.1 < (((List.length (List.getD c.2.2.2.2 (Int.toNat s1.1.1) ([] : List Int))) : Nat) : Int)) ∧ ((0 : Int) ≤ s1.1.1))))) ∧ ((((decide ((0 : Int) ≤ (compR c s2.1.1 s3.1.1))) = Bool.true) → (((compR c s1.1.1 s2.1.1) < (((List.length c.2.2.2.2) : Nat) : Int)) ∧ (((0 : Int) ≤ s3.1.1) ∧ ((s3.1.1 < (((List.length (List.getD c.2.2.2.2 (Int.toNat (compR c s1.1.1 s2.1.1)) ([] : List Int))) : Nat) : Int)) ∧ ((0 : Int) ≤ (compR c s1.1.1 s2.1.1)))))) ∧ ((((decide ((0 : Int) ≤ (compR c s2.1.1 s3.1.1))) = Bool.true) → ((s2.1.1 < (((List.length c.2.2.2.2) : Nat) : Int)) ∧ (((0 : Int) ≤ s3.1.1) ∧ ((s3.1.1 < (((List.length (List.getD c.2.2.2.2 (Int.toNat s2.1.1) ([] : List Int))) : Nat) : Int)) ∧ ((0 : Int) ≤ s2.1.1))))) ∧ ((((decide ((0 : Int) ≤ (compR c s2.1.1 s3.1.1))) = Bool.true) → ((s1.1.1 < (((List.length c.2.2.2.2) : Nat) : Int)) ∧ (((0 : Int) ≤ (compR c s2.1.1 s3.1.1)) ∧ (((compR c s2.1.1 s3.1.1) < (((List.length (List.getD c.2.2.2.2 (Int.toNat s1.1.1) ([] : List Int))) : Nat) : Int)) ∧ ((0 : Int) ≤ s1.1.1))))) ∧ (cnd ((decide ((0 : Int) ≤ (compR c s2.1.1 s3.1.1))) && ((compR c (compR c s1.1.1 s2.1.1) s3.1.1) != (compR c s1.1.1 (compR c s2.1.1 s3.1.1)))) (K ((2 : Int), (s1.1.1, (s2.1.1, (s3.1.1, ()))))) ((inK IntKind.i64 (s3.1.1 + (1 : Int))) ∧ (next3 (((s3.1.1 + (1 : Int)), ()), ())))))))))))) (k ((), ())))))) (((0 : Int), ()), ()))))))))) ((inK IntKind.i64 (s1.1.1 + (1 : Int))) ∧ (next1 (((s1.1.1 + (1 : Int)), ()), ()))))))) (((0 : Int), ()), ())) (K ((0 : Int), ((0 : Int), ((0 : Int), ((0 : Int), ()))))))))) (((0 : Int), ()), ())))))) (((0 : Int), ()), ()))
theorem w_impl_Category_fault (x : denL c_impl_Category_fault.args) (K : Int × Int × Int × Int × Unit → Prop) : evF tab (lkp [(86, c_impl_Category_arrows), (89, c_impl_Category_then)]) (cutL [(5, 38)]) Try.f99 (bodyOf Try.f99) (.s .n (.s .n (.s (.s .n (.l [(7, (.d (.int .i64)))] [] [0, 6] .n)) (.s (.s .n (.l [(8, (.d (.int .i64)))] [] [0, 6] (.s .n (.s (.s .n (.l [(9, (.d (.int .i64)))] [] [0, 6, 8] (.s .n (.s (.j [] [] [0, 6, 8, 9] (.s .n (.s .n (.l [(10, (.d (.int .i64)))] [] [0, 6, 8, 9] .n)))) .n)))) .n)))) .n)))) c_impl_Category_fault x K = W_impl_Category_fault x.1 K := by kernel_rfl
theorem k_impl_Category_fault : okC Try.f99.ntmps (cutL [(5, 38)]) (bodyOf Try.f99) = true := by kernel_rfl
theorem m_impl_Category_fault (c : CategoryD) (hok : allP (okL c_impl_Category_fault.args (c, ()))) (hpre : allP (c_impl_Category_fault.pre (c, ()))) : W_impl_Category_fault c (fun r => r = c_impl_Category_fault.res (c, ())) := by
  simp only [c_impl_Category_fault, okL, T.oks, T.ok, ap, allP, true_and, and_true, implies_true] at hok hpre
  try dsimp only [T.den] at hok
  try dsimp only [T.den] at hpre
  unfold W_impl_Category_fault
  have S : ShapeP c := hpre
  have hlt := S.lt
  have hli := S.li
  have hlc := S.lc
  have hmm := S.m
  have resq : ∀ a b d e, faultR c = (a, b, d, e) → (a, b, d, e, ()) = c_impl_Category_fault.res (c, ()) := fun a b d e h => by simp only [c_impl_Category_fault, h]
  refine loop_ix (n := c.2.1.length) (fun f => scanR (faultI c) c.2.1.length 0 = scanR (faultI c) ((c.2.1.length : Int) - f).toNat f) (by omega) scan_0 ?_ ?_
  · intro f next h0 h1 hP hn hin
    try dsimp only
    obtain ⟨a1, a2, a3, a4⟩ := S.frm h0 h1
    obtain ⟨b1, b2, _, _⟩ := S.idn a1 a2
    obtain ⟨d1, d2, _, _⟩ := S.idn a3 a4
    have r1 := S.row _ b1 b2
    have r2 := S.row f h0 h1
    refine cnd_d (fun _ => ⟨h0, h1, by omega, by omega, by omega, by omega, h0, by omega, fun _ => by omega, fun _ => by omega, fun _ => by omega, cnd_of (fun hx => resq _ _ _ _ ?_) (fun hx => ⟨by rw [inK64]; (try dsimp only); omega, hn ?_⟩)⟩) (fun h => absurd h1 h)
    · have : faultI c f = some (1, f, 0, 0) := by unfold faultI; rw [if_pos]; simpa using hx
      unfold faultR; rw [hP, scan_s h1 this]; rfl
    · have : faultI c f = none := by unfold faultI; rw [if_neg]; simpa using hx
      rw [hP, scan_c h1 this]
  intro next hI hin
  rw [scan_n] at hI
  refine cnd_d (fun h => absurd h (by dsimp only; omega)) (fun _ => ?_)
  have hF : faultR c = orR (scanR (faultF c) c.2.1.length 0) (0, 0, 0, 0) := by unfold faultR; rw [hI]; rfl
  refine loop_ix (n := c.2.1.length) (fun f => scanR (faultF c) c.2.1.length 0 = scanR (faultF c) ((c.2.1.length : Int) - f).toNat f) (by omega) scan_0 ?_ ?_
  · intro f next h0 h1 hP hn hin
    try dsimp only
    refine cnd_d (fun _ => ?_) (fun h => absurd h1 h)
    have r1 := S.row f h0 h1
    refine loop_ix (n := c.2.1.length) (fun g => faultF c f = scanR (faultG c f) ((c.2.1.length : Int) - g).toNat g) (by omega) scan_0 ?_ ?_
    · intro g next3 g0 g1 hP3 hn3 hin3
      try dsimp only
      refine cnd_d (fun _ => ?_) (fun h => absurd g1 h)
      have r2 := S.row g g0 g1
      refine join_of (fun _ => faultG c f g = none) (fun _ hG => ⟨by rw [inK64]; (try dsimp only); omega, hn3 (by rw [hP3, scan_c g1 hG])⟩) (fun k hk => ?_)
      have hk' := hk ((), ())
      refine ⟨by omega, by omega, by omega, by omega, cnd_d (fun hx => hk' ?_) (fun hx => ?_)⟩
      · unfold faultG; rw [if_neg]; intro e; have := (S.comp h0 h1 g0 g1).2 e; omega
      have hfg := (S.comp h0 h1 g0 g1).1 (by omega)
      obtain ⟨y1, y2, _, _⟩ := S.yes h0 h1 g0 g1 hfg
      refine loop_ix (n := c.2.1.length) (fun h => faultG c f g = scanR (faultH c f g) ((c.2.1.length : Int) - h).toNat h) (by omega) (by unfold faultG; rw [if_pos hfg]; exact scan_0) ?_ ?_
      · intro h next4 i0 i1 hP4 hn4 hin4
        try dsimp only
        refine cnd_d (fun _ => ?_) (fun h => absurd i1 h)
        have r3 := S.row _ y1 y2
        have cgh := S.comp g0 g1 i0 i1
        have ygh := @ShapeP.yes c S g h g0 g1 i0 i1
        refine ⟨by omega, by omega, by omega, by omega, fun _ => by omega, fun _ => by omega, fun _ => by omega, fun he => ?_, cnd_of (fun hx => resq _ _ _ _ ?_) (fun hx => ⟨by rw [inK64]; (try dsimp only); omega, hn4 ?_⟩)⟩
        · have := ygh (cgh.1 (by simpa using he)); omega
        · have : faultH c f g h = some (2, f, g, h) := by unfold faultH; rw [if_pos]; rw [← cgh]; simpa using hx
          have e1 : faultG c f g = some (2, f, g, h) := by rw [hP4, scan_s i1 this]
          have e2 : faultF c f = some (2, f, g, h) := by rw [hP3, scan_s g1 e1]
          rw [hF, hP, scan_s h1 e2]; rfl
        · have : faultH c f g h = none := by unfold faultH; rw [if_neg]; rw [← cgh]; simpa using hx
          rw [hP4, scan_c i1 this]
      · intro next4 hP4 hin4
        rw [scan_n] at hP4
        exact cnd_d (fun h => absurd h (by dsimp only; omega)) (fun _ => hk' hP4)
    · intro next3 hP3 hin3
      rw [scan_n] at hP3
      exact cnd_d (fun h => absurd h (by dsimp only; omega)) (fun _ => ⟨by rw [inK64]; (try dsimp only); omega, hn (by rw [hP, scan_c h1 hP3])⟩)
  · intro next2 hP2 hin2
    rw [scan_n] at hP2
    refine cnd_d (fun h => absurd h (by dsimp only; omega)) (fun _ => resq _ _ _ _ ?_)
    rw [hF, hP2]; rfl
theorem ct_impl_Category_fault : CtOk Try.prog 99 c_impl_Category_fault :=
  ct_by (Φ := lkp [(86, c_impl_Category_arrows), (89, c_impl_Category_then)]) (good_cons ct_impl_Category_arrows (good_cons ct_impl_Category_then good_nil)) tab_ok (by kernel_rfl) (fn := Try.f99) (c := bodyOf Try.f99) (by kernel_rfl) (by kernel_rfl) (by kernel_rfl) c_impl_Category_fault rfl (.s .n (.s .n (.s (.s .n (.l [(7, (.d (.int .i64)))] [] [0, 6] .n)) (.s (.s .n (.l [(8, (.d (.int .i64)))] [] [0, 6] (.s .n (.s (.s .n (.l [(9, (.d (.int .i64)))] [] [0, 6, 8] (.s .n (.s (.j [] [] [0, 6, 8, 9] (.s .n (.s .n (.l [(10, (.d (.int .i64)))] [] [0, 6, 8, 9] .n)))) .n)))) .n)))) .n)))) (cutL [(5, 38)]) (by kernel_rfl) (by kernel_rfl) k_impl_Category_fault (by decide) (fun x K => W_impl_Category_fault x.1 K) w_impl_Category_fault (fun x h1 h2 => m_impl_Category_fault x.1 h1 h2)
def catR (c : CategoryD) : Bool := shapeR c && (faultR c).1 == 0

def c_impl_Category_isCategory : Ct := ⟨[(.pt CategoryT)], [false], fun x => [], [(false, (.fz .bool))], fun x => (catR x.1, ()), false, none⟩
def W_impl_Category_isCategory (c : CategoryD) (K : Bool × Unit → Prop) : Prop := (cnd (!(shapeR c)) (K (Bool.false, ())) ((ShapeP c) ∧ (K (((faultR c).1 == (0 : Int)), ()))))
theorem w_impl_Category_isCategory (x : denL c_impl_Category_isCategory.args) (K : Bool × Unit → Prop) : evF tab (lkp [(99, c_impl_Category_fault), (98, c_impl_Category_isShape)]) (cutL []) Try.f60 (bodyOf Try.f60) .n c_impl_Category_isCategory x K = W_impl_Category_isCategory x.1 K := by kernel_rfl
theorem k_impl_Category_isCategory : okC Try.f60.ntmps (cutL []) (bodyOf Try.f60) = true := by kernel_rfl
theorem m_impl_Category_isCategory (c : CategoryD) (hok : allP (okL c_impl_Category_isCategory.args (c, ()))) (hpre : allP (c_impl_Category_isCategory.pre (c, ()))) : W_impl_Category_isCategory c (fun r => r = c_impl_Category_isCategory.res (c, ())) := by
  simp only [c_impl_Category_isCategory, okL, T.oks, T.ok, ap, allP, true_and, and_true, implies_true] at hok hpre
  try dsimp only [T.den] at hok
  try dsimp only [T.den] at hpre
  unfold W_impl_Category_isCategory
  simp only [c_impl_Category_isCategory, catR]
  have := @shape_iff c
  grind [cnd, nb_eq, inK64]
theorem ct_impl_Category_isCategory : CtOk Try.prog 60 c_impl_Category_isCategory :=
  ct_by (Φ := lkp [(99, c_impl_Category_fault), (98, c_impl_Category_isShape)]) (good_cons ct_impl_Category_fault (good_cons ct_impl_Category_isShape good_nil)) tab_ok (by kernel_rfl) (fn := Try.f60) (c := bodyOf Try.f60) (by kernel_rfl) (by kernel_rfl) (by kernel_rfl) c_impl_Category_isCategory rfl .n (cutL []) (by kernel_rfl) (by kernel_rfl) k_impl_Category_isCategory (by decide) (fun x K => W_impl_Category_isCategory x.1 K) w_impl_Category_isCategory (fun x h1 h2 => m_impl_Category_isCategory x.1 h1 h2)
def objCodeR (c : CategoryD) (l : List Int) : Int := if catR c = true then (if withinR l c.1 = true then 0 else 2) else 1
theorem cat_shape {c : CategoryD} (h : catR c = true) : ShapeP c := by
  simp only [catR, Bool.and_eq_true] at h; exact shape_iff.1 h.1
theorem scan_none {α : Type} {p : Int → Option α} : ∀ {n : Nat} {i : Int}, scanR p n i = none → ∀ j : Int, i ≤ j → j < i + n → p j = none
  | 0, i, _, j, h0, h1 => by omega
  | n + 1, i, h, j, h0, h1 => by
    unfold scanR at h
    cases hp : p i with
    | some v => rw [hp] at h; cases h
    | none =>
      rw [hp] at h
      by_cases e : j = i
      · rw [e, hp]
      · exact scan_none (n := n) (i := i + 1) h j (by omega) (by omega)
theorem scan_some {α : Type} {p : Int → Option α} {v : α} : ∀ {n : Nat} {i : Int}, scanR p n i = some v → ∃ j : Int, p j = some v
  | 0, i, h => by cases h
  | n + 1, i, h => by
    unfold scanR at h
    cases hp : p i with
    | some w => rw [hp] at h; exact ⟨i, hp.trans h⟩
    | none => rw [hp] at h; exact scan_some (n := n) (i := i + 1) h
theorem cat_assoc {c : CategoryD} (hc : catR c = true) {f g h : Int} (f0 : 0 ≤ f) (f1 : f < c.2.1.length) (g0 : 0 ≤ g) (g1 : g < c.2.1.length) (h0 : 0 ≤ h) (h1 : h < c.2.1.length)
    (hfg : c.2.2.1.getD f.toNat 0 = c.2.1.getD g.toNat 0) (hgh : c.2.2.1.getD g.toNat 0 = c.2.1.getD h.toNat 0) : compR c (compR c f g) h = compR c f (compR c g h) := by
  simp only [catR, Bool.and_eq_true, beq_iff_eq] at hc
  have h2 := hc.2
  unfold faultR at h2
  cases h3 : scanR (faultI c) c.2.1.length 0 with
  | some v =>
    obtain ⟨j, hj⟩ := scan_some h3
    unfold faultI at hj
    split at hj
    · cases hj; rw [h3] at h2; simp [orR] at h2
    · cases hj
  | none =>
    rw [h3] at h2
    cases h4 : scanR (faultF c) c.2.1.length 0 with
    | some v =>
      obtain ⟨j, hj⟩ := scan_some h4
      unfold faultF at hj
      obtain ⟨k, hk⟩ := scan_some hj
      unfold faultG at hk
      split at hk
      · obtain ⟨l, hl⟩ := scan_some hk
        unfold faultH at hl
        split at hl
        · cases hl; rw [h4] at h2; simp [orR] at h2
        · cases hl
      · cases hk
    | none =>
      have a1 := scan_none h4 f f0 (by omega)
      unfold faultF at a1
      have a2 := scan_none a1 g g0 (by omega)
      unfold faultG at a2
      rw [if_pos hfg] at a2
      have a3 := scan_none a2 h h0 (by omega)
      unfold faultH at a3
      split at a3
      · cases a3
      · rename_i hn
        exact Decidable.byContradiction fun hne => hn ⟨hgh, hne⟩

def fitsR (f : FunctorD) : Bool := decide ((f.2.2.1.length : Int) = f.1.1) && decide (f.2.2.2.length = f.1.2.1.length) && withinR f.2.2.1 f.2.1.1 && withinR f.2.2.2 f.2.1.2.1.length &&
  allB f.1.2.1.length (fun a => decide (f.2.1.2.1.getD (f.2.2.2.getD a.toNat 0).toNat 0 = f.2.2.1.getD (f.1.2.1.getD a.toNat 0).toNat 0) && decide (f.2.1.2.2.1.getD (f.2.2.2.getD a.toNat 0).toNat 0 = f.2.2.1.getD (f.1.2.2.1.getD a.toNat 0).toNat 0)) &&
  allB f.1.1.toNat (fun x => decide (f.2.2.2.getD (f.1.2.2.2.1.getD x.toNat 0).toNat 0 = f.2.1.2.2.2.1.getD (f.2.2.1.getD x.toNat 0).toNat 0)) &&
  allB f.1.2.1.length (fun a => allB f.1.2.1.length fun b => decide (f.1.2.2.1.getD a.toNat 0 = f.1.2.1.getD b.toNat 0 → f.2.2.2.getD (compR f.1 a b).toNat 0 = compR f.2.1 (f.2.2.2.getD a.toNat 0) (f.2.2.2.getD b.toNat 0)))
structure FitP (f : FunctorD) : Prop where
  lo : (f.2.2.1.length : Int) = f.1.1
  la : f.2.2.2.length = f.1.2.1.length
  ow : withinR f.2.2.1 f.2.1.1 = true
  aw : withinR f.2.2.2 f.2.1.2.1.length = true
  ends : ∀ a : Int, 0 ≤ a → a < f.1.2.1.length → f.2.1.2.1.getD (f.2.2.2.getD a.toNat 0).toNat 0 = f.2.2.1.getD (f.1.2.1.getD a.toNat 0).toNat 0 ∧ f.2.1.2.2.1.getD (f.2.2.2.getD a.toNat 0).toNat 0 = f.2.2.1.getD (f.1.2.2.1.getD a.toNat 0).toNat 0
  ids : ∀ x : Int, 0 ≤ x → x < f.1.1 → f.2.2.2.getD (f.1.2.2.2.1.getD x.toNat 0).toNat 0 = f.2.1.2.2.2.1.getD (f.2.2.1.getD x.toNat 0).toNat 0
  comp : ∀ a : Int, 0 ≤ a → a < f.1.2.1.length → ∀ b : Int, 0 ≤ b → b < f.1.2.1.length → f.1.2.2.1.getD a.toNat 0 = f.1.2.1.getD b.toNat 0 → f.2.2.2.getD (compR f.1 a b).toNat 0 = compR f.2.1 (f.2.2.2.getD a.toNat 0) (f.2.2.2.getD b.toNat 0)
theorem fits_iff {f : FunctorD} (S : ShapeP f.1) : fitsR f = true ↔ FitP f := by
  have e : ((f.1.1.toNat : Nat) : Int) = f.1.1 := by have := S.ob; omega
  simp only [fitsR, Bool.and_eq_true, decide_eq_true_eq, allB_iff, e]
  constructor
  · rintro ⟨⟨⟨⟨⟨⟨h1, h2⟩, h3⟩, h4⟩, h5⟩, h6⟩, h7⟩
    exact ⟨h1, h2, h3, h4, h5, h6, h7⟩
  · intro h
    exact ⟨⟨⟨⟨⟨⟨h.lo, h.la⟩, h.ow⟩, h.aw⟩, h.ends⟩, h.ids⟩, h.comp⟩

def c_impl_Functor_fits : Ct := ⟨[(.pt FunctorT)], [false], fun x => [ShapeP x.1.1, ShapeP x.1.2.1], [(false, (.fz .bool))], fun x => (fitsR x.1, ()), false, none⟩
def W_impl_Functor_fits (f : FunctorD) (K : Bool × Unit → Prop) : Prop := ((((((((List.length f.2.2.1) : Nat) : Int) != f.1.1) || ((((List.length f.2.2.2) : Nat) : Int) != (((List.length f.1.2.1) : Nat) : Int))) = Bool.false) → (inK IntKind.i64 (f.2.1.1 - (1 : Int)))) ∧ (((((((((List.length f.2.2.1) : Nat) : Int) != f.1.1) || ((((List.length f.2.2.2) : Nat) : Int) != (((List.length f.1.2.1) : Nat) : Int))) || (!(withinR f.2.2.1 f.2.1.1))) = Bool.false) → (inK IntKind.i64 ((((List.length f.2.1.2.1) : Nat) : Int) - (1 : Int)))) ∧ (cnd (((((((List.length f.2.2.1) : Nat) : Int) != f.1.1) || ((((List.length f.2.2.2) : Nat) : Int) != (((List.length f.1.2.1) : Nat) : Int))) || (!(withinR f.2.2.1 f.2.1.1))) || (!(withinR f.2.2.2 (((List.length f.2.1.2.1) : Nat) : Int)))) (K (Bool.false, ())) (loopW (S := ((Int × Unit) × Unit)) (fun s => (fun next => ((inK IntKind.i64 s.1.1) → (cnd (decide (s.1.1 < (((List.length f.2.2.2) : Nat) : Int))) (((0 : Int) ≤ s.1.1) ∧ ((s.1.1 < (((List.length f.2.2.2) : Nat) : Int)) ∧ (((0 : Int) ≤ (List.getD f.2.2.2 (Int.toNat s.1.1) (0 : Int))) ∧ (((List.getD f.2.2.2 (Int.toNat s.1.1) (0 : Int)) < (((List.length f.2.1.2.1) : Nat) : Int)) ∧ (((0 : Int) ≤ s.1.1) ∧ ((s.1.1 < (((List.length f.1.2.1) : Nat) : Int)) ∧ (((0 : Int) ≤ (List.getD f.1.2.1 (Int.toNat s.1.1) (0 : Int))) ∧ (((List.getD f.1.2.1 (Int.toNat s.1.1) (0 : Int)) < (((List.length f.2.2.1) : Nat) : Int)) ∧ (((((List.getD f.2.1.2.1 (Int.toNat (List.getD f.2.2.2 (Int.toNat s.1.1) (0 : Int))) (0 : Int)) != (List.getD f.2.2.1 (Int.toNat (List.getD f.1.2.1 (Int.toNat s.1.1) (0 : Int))) (0 : Int))) = Bool.false) → (((List.getD f.2.2.2 (Int.toNat s.1.1) (0 : Int)) < (((List.length f.2.1.2.2.1) : Nat) : Int)) ∧ ((0 : Int) ≤ (List.getD f.2.2.2 (Int.toNat s.1.1) (0 : Int))))) ∧ (((((List.getD f.2.1.2.1 (Int.toNat (List.getD f.2.2.2 (Int.toNat s.1.1) (0 : Int))) (0 : Int)) != (List.getD f.2.2.1 (Int.toNat (List.getD f.1.2.1 (Int.toNat s.1.1) (0 : Int))) (0 : Int))) = Bool.false) → ((s.1.1 < (((List.length f.1.2.2.1) : Nat) : Int)) ∧ ((0 : Int) ≤ s.1.1))) ∧ (((((List.getD f.2.1.2.1 (Int.toNat (List.getD f.2.2.2 (Int.toNat s.1.1) (0 : Int))) (0 : Int)) != (List.getD f.2.2.1 (Int.toNat (List.getD f.1.2.1 (Int.toNat s.1.1) (0 : Int))) (0 : Int))) = Bool.false) → (((List.getD f.1.2.2.1 (Int.toNat s.1.1) (0 : Int)) < (((List.length f.2.2.1) : Nat) : Int)) ∧ ((0 : Int) ≤ (List.getD f.1.2.2.1 (Int.toNat s.1.1) (0 : Int))))) ∧ (cnd (((List.getD f.2.1.2.1 (Int.toNat (List.getD f.2.2.2 (Int.toNat s.1.1) (0 : Int))) (0 : Int)) != (List.getD f.2.2.1 (Int.toNat (List.getD f.1.2.1 (Int.toNat s.1.1) (0 : Int))) (0 : Int))) || ((List.getD f.2.1.2.2.1 (Int.toNat (List.getD f.2.2.2 (Int.toNat s.1.1) (0 : Int))) (0 : Int)) != (List.getD f.2.2.1 (Int.toNat (List.getD f.1.2.2.1 (Int.toNat s.1.1) (0 : Int))) (0 : Int)))) (K (Bool.false, ())) ((inK IntKind.i64 (s.1.1 + (1 : Int))) ∧ (next (((s.1.1 + (1 : Int)), ()), ()))))))))))))))) (loopW (S := ((Int × Unit) × Unit)) (fun s1 => (fun next1 => ((inK IntKind.i64 s1.1.1) → (cnd (decide (s1.1.1 < (((List.length f.1.2.2.2.1) : Nat) : Int))) (((0 : Int) ≤ s1.1.1) ∧ ((s1.1.1 < (((List.length f.1.2.2.2.1) : Nat) : Int)) ∧ (((0 : Int) ≤ (List.getD f.1.2.2.2.1 (Int.toNat s1.1.1) (0 : Int))) ∧ (((List.getD f.1.2.2.2.1 (Int.toNat s1.1.1) (0 : Int)) < (((List.length f.2.2.2) : Nat) : Int)) ∧ (((0 : Int) ≤ s1.1.1) ∧ ((s1.1.1 < (((List.length f.2.2.1) : Nat) : Int)) ∧ (((0 : Int) ≤ (List.getD f.2.2.1 (Int.toNat s1.1.1) (0 : Int))) ∧ (((List.getD f.2.2.1 (Int.toNat s1.1.1) (0 : Int)) < (((List.length f.2.1.2.2.2.1) : Nat) : Int)) ∧ (cnd ((List.getD f.2.2.2 (Int.toNat (List.getD f.1.2.2.2.1 (Int.toNat s1.1.1) (0 : Int))) (0 : Int)) != (List.getD f.2.1.2.2.2.1 (Int.toNat (List.getD f.2.2.1 (Int.toNat s1.1.1) (0 : Int))) (0 : Int))) (K (Bool.false, ())) ((inK IntKind.i64 (s1.1.1 + (1 : Int))) ∧ (next1 (((s1.1.1 + (1 : Int)), ()), ())))))))))))) (loopW (S := ((Int × Unit) × Unit)) (fun s2 => (fun next2 => ((inK IntKind.i64 s2.1.1) → (cnd (decide (s2.1.1 < (((List.length f.1.2.2.2.2) : Nat) : Int))) (((0 : Int) ≤ s2.1.1) ∧ ((s2.1.1 < (((List.length f.1.2.2.2.2) : Nat) : Int)) ∧ (loopW (S := ((Int × Unit) × Unit)) (fun s3 => (fun next3 => ((inK IntKind.i64 s3.1.1) → (cnd (decide (s3.1.1 < (((List.length (List.getD f.1.2.2.2.2 (Int.toNat s2.1.1) ([] : List Int))) : Nat) : Int))) (((0 : Int) ≤ s3.1.1) ∧ ((s3.1.1 < (((List.length (List.getD f.1.2.2.2.2 (Int.toNat s2.1.1) ([] : List Int))) : Nat) : Int)) ∧ ((((decide ((0 : Int) ≤ (List.getD (List.getD f.1.2.2.2.2 (Int.toNat s2.1.1) ([] : List Int)) (Int.toNat s3.1.1) (0 : Int)))) = Bool.true) → (((List.getD (List.getD f.1.2.2.2.2 (Int.toNat s2.1.1) ([] : List Int)) (Int.toNat s3.1.1) (0 : Int)) < (((List.length f.2.2.2) : Nat) : Int)) ∧ ((0 : Int) ≤ (List.getD (List.getD f.1.2.2.2.2 (Int.toNat s2.1.1) ([] : List Int)) (Int.toNat s3.1.1) (0 : Int))))) ∧ ((((decide ((0 : Int) ≤ (List.getD (List.getD f.1.2.2.2.2 (Int.toNat s2.1.1) ([] : List Int)) (Int.toNat s3.1.1) (0 : Int)))) = Bool.true) → ((s2.1.1 < (((List.length f.2.2.2) : Nat) : Int)) ∧ ((0 : Int) ≤ s2.1.1))) ∧ ((((decide ((0 : Int) ≤ (List.getD (List.getD f.1.2.2.2.2 (Int.toNat s2.1.1) ([] : List Int)) (Int.toNat s3.1.1) (0 : Int)))) = Bool.true) → ((s3.1.1 < (((List.length f.2.2.2) : Nat) : Int)) ∧ ((0 : Int) ≤ s3.1.1))) ∧ ((((decide ((0 : Int) ≤ (List.getD (List.getD f.1.2.2.2.2 (Int.toNat s2.1.1) ([] : List Int)) (Int.toNat s3.1.1) (0 : Int)))) = Bool.true) → (((List.getD f.2.2.2 (Int.toNat s2.1.1) (0 : Int)) < (((List.length f.2.1.2.2.2.2) : Nat) : Int)) ∧ (((0 : Int) ≤ (List.getD f.2.2.2 (Int.toNat s3.1.1) (0 : Int))) ∧ (((List.getD f.2.2.2 (Int.toNat s3.1.1) (0 : Int)) < (((List.length (List.getD f.2.1.2.2.2.2 (Int.toNat (List.getD f.2.2.2 (Int.toNat s2.1.1) (0 : Int))) ([] : List Int))) : Nat) : Int)) ∧ ((0 : Int) ≤ (List.getD f.2.2.2 (Int.toNat s2.1.1) (0 : Int))))))) ∧ (cnd ((decide ((0 : Int) ≤ (List.getD (List.getD f.1.2.2.2.2 (Int.toNat s2.1.1) ([] : List Int)) (Int.toNat s3.1.1) (0 : Int)))) && ((List.getD f.2.2.2 (Int.toNat (List.getD (List.getD f.1.2.2.2.2 (Int.toNat s2.1.1) ([] : List Int)) (Int.toNat s3.1.1) (0 : Int))) (0 : Int)) != (compR f.2.1 (List.getD f.2.2.2 (Int.toNat s2.1.1) (0 : Int)) (List.getD f.2.2.2 (Int.toNat s3.1.1) (0 : Int))))) (K (Bool.false, ())) ((inK IntKind.i64 (s3.1.1 + (1 : Int))) ∧ (next3 (((s3.1.1 + (1 : Int)), ()), ())))))))))) ((inK IntKind.i64 (s2.1.1 + (1 : Int))) ∧ (next2 (((s2.1.1 + (1 : Int)), ()), ()))))))) (((0 : Int), ()), ())))) (K (Bool.true, ())))))) (((0 : Int), ()), ())))))) (((0 : Int), ()), ())))))) (((0 : Int), ()), ())))))
theorem w_impl_Functor_fits (x : denL c_impl_Functor_fits.args) (K : Bool × Unit → Prop) : evF tab (lkp [(86, c_impl_Category_arrows), (89, c_impl_Category_then), (85, c_impl_within)]) (cutL [(1, 8), (2, 42), (22, 28), (7, 44), (13, 21)]) Try.f147 (bodyOf Try.f147) (.s .n (.s .n (.s .n (.s (.s .n (.l [(66, (.d (.int .i64)))] [] [0, 3, 4, 64, 65] .n)) (.s (.s .n (.l [(121, (.d (.int .i64)))] [] [0, 3, 4, 119, 120] .n)) (.s (.s .n (.l [(153, (.d (.int .i64)))] [] [0, 4, 151, 152] (.s .n (.s .n (.s (.s .n (.s .n (.l [(160, (.d (.int .i64)))] [] [0, 4, 9, 151, 152, 153, 158, 159] .n))) .n))))) .n)))))) c_impl_Functor_fits x K = W_impl_Functor_fits x.1 K := by kernel_rfl
theorem k_impl_Functor_fits : okC Try.f147.ntmps (cutL [(1, 8), (2, 42), (22, 28), (7, 44), (13, 21)]) (bodyOf Try.f147) = true := by kernel_rfl
theorem m_impl_Functor_fits (f : FunctorD) (hok : allP (okL c_impl_Functor_fits.args (f, ()))) (hpre : allP (c_impl_Functor_fits.pre (f, ()))) : W_impl_Functor_fits f (fun r => r = c_impl_Functor_fits.res (f, ())) := by
  simp only [c_impl_Functor_fits, okL, T.oks, T.ok, ap, allP, true_and, and_true, implies_true] at hok hpre
  try dsimp only [T.den] at hok
  try dsimp only [T.den] at hpre
  unfold W_impl_Functor_fits
  have S : ShapeP f.1 := hpre.1
  have S2 : ShapeP f.2.1 := hpre.2
  have hob := S.ob
  have hlt := S.lt
  have hli := S.li
  have hlc := S.lc
  have hmm := S.m
  have tob := S2.ob
  have tlt := S2.lt
  have tli := S2.li
  have tlc := S2.lc
  have bad : ¬ FitP f → (false, ()) = c_impl_Functor_fits.res (f, ()) := fun h => by
    simp only [c_impl_Functor_fits]
    cases hs : fitsR f with
    | false => rfl
    | true => exact absurd ((fits_iff S).1 hs) h
  have at1 : ∀ i j : Int, (f.1.2.2.2.2.getD i.toNat []).getD j.toNat 0 = compR f.1 i j := fun _ _ => rfl
  have at2 : ∀ i j : Int, (f.2.1.2.2.2.2.getD i.toNat []).getD j.toNat 0 = compR f.2.1 i j := fun _ _ => rfl
  refine ⟨fun _ => by rw [inK64]; (try dsimp only); omega, fun _ => by rw [inK64]; have := S2.m; omega, cnd_of (fun hc => bad fun h => ?_) (fun hc => ?_)⟩
  · have h1 := h.lo; have h2 := h.la; have h3 := h.ow; have h4 := h.aw; grind [cnd, nb_eq, inK64]
  simp only [Bool.or_eq_false_iff, Bool.not_eq_false', bne_eq_false_iff_eq] at hc
  obtain ⟨⟨⟨hlo, hla⟩, how⟩, haw⟩ := hc
  refine loop_ix (n := f.2.2.2.length) (fun a => ∀ a' : Int, 0 ≤ a' → a' < a → f.2.1.2.1.getD (f.2.2.2.getD a'.toNat 0).toNat 0 = f.2.2.1.getD (f.1.2.1.getD a'.toNat 0).toNat 0 ∧ f.2.1.2.2.1.getD (f.2.2.2.getD a'.toNat 0).toNat 0 = f.2.2.1.getD (f.1.2.2.1.getD a'.toNat 0).toNat 0) (by omega) (by intro y h0 h1; omega) ?_ ?_
  · intro a next a0 a1 hP hn hin
    try dsimp only
    have sa := S.frm a0 (by omega)
    have fa := within_iff.1 haw a a0 a1
    refine cnd_d (fun _ => ⟨a0, a1, fa.1, by omega, a0, by omega, sa.1, by omega, fun _ => by omega, fun _ => by omega, fun _ => by omega, cnd_of (fun hx => bad fun h => ?_) (fun hx => ⟨by rw [inK64]; (try dsimp only); omega, hn fun a' b0 b1 => ?_⟩)⟩) (fun h => absurd a1 h)
    · have := h.ends a a0 (by omega)
      rw [this.1, this.2] at hx; simp at hx
    · by_cases e : a' = a
      · rw [e]; simpa only [Bool.or_eq_false_iff, bne_eq_false_iff_eq] using hx
      · exact hP a' b0 (by omega)
  intro next hE hin
  refine cnd_d (fun h => absurd h (by dsimp only; omega)) (fun _ => ?_)
  clear next
  refine loop_ix (n := f.1.2.2.2.1.length) (fun x => ∀ x' : Int, 0 ≤ x' → x' < x → f.2.2.2.getD (f.1.2.2.2.1.getD x'.toNat 0).toNat 0 = f.2.1.2.2.2.1.getD (f.2.2.1.getD x'.toNat 0).toNat 0) (by omega) (by intro y h0 h1; omega) ?_ ?_
  · intro x next x0 x1 hP hn hin
    try dsimp only
    have ix := S.idn x0 (by omega)
    have ox := within_iff.1 how x x0 (by omega)
    refine cnd_d (fun _ => ⟨x0, x1, ix.1, by omega, x0, by omega, ox.1, by omega, cnd_of (fun hx => bad fun h => ?_) (fun hx => ⟨by rw [inK64]; (try dsimp only); omega, hn fun x' b0 b1 => ?_⟩)⟩) (fun h => absurd x1 h)
    · rw [h.ids x x0 (by omega)] at hx; simp at hx
    · by_cases e : x' = x
      · rw [e]; simpa only [bne_eq_false_iff_eq] using hx
      · exact hP x' b0 (by omega)
  intro next hI hin
  refine cnd_d (fun h => absurd h (by dsimp only; omega)) (fun _ => ?_)
  clear next
  refine loop_ix (n := f.1.2.2.2.2.length) (fun a => ∀ a' : Int, 0 ≤ a' → a' < a → ∀ b : Int, 0 ≤ b → b < f.1.2.1.length → f.1.2.2.1.getD a'.toNat 0 = f.1.2.1.getD b.toNat 0 → f.2.2.2.getD (compR f.1 a' b).toNat 0 = compR f.2.1 (f.2.2.2.getD a'.toNat 0) (f.2.2.2.getD b.toNat 0)) (by omega) (by intro y h0 h1; omega) ?_ ?_
  · intro a next a0 a1 hP hn hin
    try dsimp only
    have ra := S.row a a0 (by omega)
    have fa := within_iff.1 haw a a0 (by omega)
    have rfa := S2.row _ fa.1 fa.2
    refine cnd_d (fun _ => ⟨a0, a1, ?_⟩) (fun h => absurd a1 h)
    refine loop_ix (n := (f.1.2.2.2.2.getD a.toNat []).length) (fun b => ∀ b' : Int, 0 ≤ b' → b' < b → f.1.2.2.1.getD a.toNat 0 = f.1.2.1.getD b'.toNat 0 → f.2.2.2.getD (compR f.1 a b').toNat 0 = compR f.2.1 (f.2.2.2.getD a.toNat 0) (f.2.2.2.getD b'.toNat 0)) (by omega) (by intro y h0 h1; omega) ?_ ?_
    · intro b next2 b0 b1 hP2 hn2 hin2
      try dsimp only
      simp only [at1, at2]
      have fb := within_iff.1 haw b b0 (by omega)
      have cab := S.comp a0 (by omega) b0 (by omega)
      have yab := @ShapeP.yes f.1 S a b a0 (by omega) b0 (by omega)
      refine cnd_d (fun _ => ⟨b0, b1, fun hq => ?_, fun _ => by omega, fun _ => by omega, fun _ => by omega, cnd_of (fun hx => bad fun h => ?_) (fun hx => ⟨by rw [inK64]; (try dsimp only); omega, hn2 fun b' c0 c1 => ?_⟩)⟩) (fun h => absurd b1 h)
      · have := yab (cab.1 (of_decide_eq_true hq)); omega
      · simp only [Bool.and_eq_true, decide_eq_true_eq, bne_iff_ne] at hx
        exact hx.2 (h.comp a a0 (by omega) b b0 (by omega) (cab.1 hx.1))
      · by_cases e : b' = b
        · rw [e]
          intro eab
          have hq := cab.2 eab
          simpa [hq] using hx
        · exact hP2 b' c0 (by omega)
    · intro next2 hP2 hin2
      refine cnd_d (fun h => absurd h (by dsimp only; omega)) (fun _ => ⟨by rw [inK64]; (try dsimp only); omega, hn fun a' b0 b1 => ?_⟩)
      by_cases e : a' = a
      · rw [e]; exact fun b b0 b1 => hP2 b b0 (by omega)
      · exact hP a' b0 (by omega)
  · intro next hP hin
    refine cnd_d (fun h => absurd h (by dsimp only; omega)) (fun _ => ?_)
    have key : FitP f := ⟨by omega, by omega, how, haw, fun a a0 a1 => hE a a0 (by omega), fun x x0 x1 => hI x x0 (by omega), fun a a0 a1 b b0 b1 => hP a a0 (by omega) b b0 b1⟩
    simp only [c_impl_Functor_fits]
    rw [(fits_iff S).2 key]
theorem ct_impl_Functor_fits : CtOk Try.prog 147 c_impl_Functor_fits :=
  ct_by (Φ := lkp [(86, c_impl_Category_arrows), (89, c_impl_Category_then), (85, c_impl_within)]) (good_cons ct_impl_Category_arrows (good_cons ct_impl_Category_then (good_cons ct_impl_within good_nil))) tab_ok (by kernel_rfl) (fn := Try.f147) (c := bodyOf Try.f147) (by kernel_rfl) (by kernel_rfl) (by kernel_rfl) c_impl_Functor_fits rfl (.s .n (.s .n (.s .n (.s (.s .n (.l [(66, (.d (.int .i64)))] [] [0, 3, 4, 64, 65] .n)) (.s (.s .n (.l [(121, (.d (.int .i64)))] [] [0, 3, 4, 119, 120] .n)) (.s (.s .n (.l [(153, (.d (.int .i64)))] [] [0, 4, 151, 152] (.s .n (.s .n (.s (.s .n (.s .n (.l [(160, (.d (.int .i64)))] [] [0, 4, 9, 151, 152, 153, 158, 159] .n))) .n))))) .n)))))) (cutL [(1, 8), (2, 42), (22, 28), (7, 44), (13, 21)]) (by kernel_rfl) (by kernel_rfl) k_impl_Functor_fits (by decide) (fun x K => W_impl_Functor_fits x.1 K) w_impl_Functor_fits (fun x h1 h2 => m_impl_Functor_fits x.1 h1 h2)
def c_impl_areCategories : Ct := ⟨[(.sl (.pt CategoryT))], [false], fun x => [], [(false, (.fz .bool))], fun x => (x.1.all catR, ()), false, none⟩
def W_impl_areCategories (list : List CategoryD) (K : Bool × Unit → Prop) : Prop := (loopW (S := ((Int × Unit) × Unit)) (fun s => (fun next => ((inK IntKind.i64 s.1.1) → (cnd (decide (s.1.1 < (((List.length list) : Nat) : Int))) (((0 : Int) ≤ s.1.1) ∧ ((s.1.1 < (((List.length list) : Nat) : Int)) ∧ (cnd (!(catR (List.getD list (Int.toNat s.1.1) ((0 : Int), (([] : List Int), (([] : List Int), (([] : List Int), ([] : List (List Int))))))))) (K (Bool.false, ())) ((inK IntKind.i64 (s.1.1 + (1 : Int))) ∧ (next (((s.1.1 + (1 : Int)), ()), ())))))) (K (Bool.true, ())))))) (((0 : Int), ()), ()))
theorem w_impl_areCategories (x : denL c_impl_areCategories.args) (K : Bool × Unit → Prop) : evF tab (lkp [(60, c_impl_Category_isCategory)]) (cutL []) Try.f146 (bodyOf Try.f146) (.s .n (.s (.s .n (.l [(7, (.d (.int .i64)))] [] [5, 6] .n)) .n)) c_impl_areCategories x K = W_impl_areCategories x.1 K := by kernel_rfl
theorem k_impl_areCategories : okC Try.f146.ntmps (cutL []) (bodyOf Try.f146) = true := by kernel_rfl
theorem m_impl_areCategories (list : List CategoryD) (hok : allP (okL c_impl_areCategories.args (list, ()))) (hpre : allP (c_impl_areCategories.pre (list, ()))) : W_impl_areCategories list (fun r => r = c_impl_areCategories.res (list, ())) := by
  simp only [c_impl_areCategories, okL, T.oks, T.ok, ap, allP, true_and, and_true, implies_true] at hok hpre
  try dsimp only [T.den] at hok
  try dsimp only [T.den] at hpre
  unfold W_impl_areCategories
  have hl : list.length ≤ 140737488355328 := by simp only [nb_eq] at hok; omega
  refine loop_ix (n := list.length) (fun i => list.all catR = (list.drop i.toNat).all catR) (by omega) (by simp) ?_ ?_
  · intro i next h0 h1 hP hn hin
    try dsimp only
    rw [drop_c list (0, ([], ([], ([], [])))) h0 h1, List.all_cons] at hP
    refine cnd_d (fun _ => ⟨h0, h1, cnd_of (fun hx => ?_) (fun hx => ⟨by rw [inK64]; (try dsimp only); omega, hn ?_⟩)⟩) (fun h => absurd h1 h)
    · simp only [Bool.not_eq_true'] at hx
      simp only [c_impl_areCategories]; rw [hP, hx]; rfl
    · simp only [Bool.not_eq_false'] at hx
      rw [hP, hx, Bool.true_and]
  · intro next hP hin
    refine cnd_d (fun h => absurd h (by dsimp only; omega)) (fun _ => ?_)
    simp only [c_impl_areCategories]
    rw [hP, drop_n list (by omega)]; rfl
theorem ct_impl_areCategories : CtOk Try.prog 146 c_impl_areCategories :=
  ct_by (Φ := lkp [(60, c_impl_Category_isCategory)]) (good_cons ct_impl_Category_isCategory good_nil) tab_ok (by kernel_rfl) (fn := Try.f146) (c := bodyOf Try.f146) (by kernel_rfl) (by kernel_rfl) (by kernel_rfl) c_impl_areCategories rfl (.s .n (.s (.s .n (.l [(7, (.d (.int .i64)))] [] [5, 6] .n)) .n)) (cutL []) (by kernel_rfl) (by kernel_rfl) k_impl_areCategories (by decide) (fun x K => W_impl_areCategories x.1 K) w_impl_areCategories (fun x h1 h2 => m_impl_areCategories x.1 h1 h2)
def funR (f : FunctorD) : Bool := catR f.1 && catR f.2.1 && fitsR f
def funCodeR (f : FunctorD) : Int := if funR f = true then 0 else 1
structure FunP (f : FunctorD) : Prop where
  src : ShapeP f.1
  tgt : ShapeP f.2.1
  fit : FitP f
theorem fun_of {f : FunctorD} (h : funR f = true) : FunP f := by
  simp only [funR, Bool.and_eq_true] at h
  exact ⟨cat_shape h.1.1, cat_shape h.1.2, (fits_iff (cat_shape h.1.1)).1 h.2⟩

def c_impl_Functor_isFunctor : Ct := ⟨[(.pt FunctorT)], [false], fun x => [], [(false, (.fz .bool))], fun x => (funR x.1, ()), false, none⟩
def W_impl_Functor_isFunctor (f : FunctorD) (K : Bool × Unit → Prop) : Prop := ((((List.all (f.1 :: (f.2.1 :: ([] : List (Int × ((List Int) × ((List Int) × ((List Int) × (List (List Int))))))))) catR) = Bool.true) → ((ShapeP f.2.1) ∧ (ShapeP f.1))) ∧ (K (((List.all (f.1 :: (f.2.1 :: ([] : List (Int × ((List Int) × ((List Int) × ((List Int) × (List (List Int))))))))) catR) && (fitsR f)), ())))
theorem w_impl_Functor_isFunctor (x : denL c_impl_Functor_isFunctor.args) (K : Bool × Unit → Prop) : evF tab (lkp [(147, c_impl_Functor_fits), (146, c_impl_areCategories)]) (cutL [(1, 13)]) Try.f121 (bodyOf Try.f121) .n c_impl_Functor_isFunctor x K = W_impl_Functor_isFunctor x.1 K := by kernel_rfl
theorem k_impl_Functor_isFunctor : okC Try.f121.ntmps (cutL [(1, 13)]) (bodyOf Try.f121) = true := by kernel_rfl
theorem m_impl_Functor_isFunctor (f : FunctorD) (hok : allP (okL c_impl_Functor_isFunctor.args (f, ()))) (hpre : allP (c_impl_Functor_isFunctor.pre (f, ()))) : W_impl_Functor_isFunctor f (fun r => r = c_impl_Functor_isFunctor.res (f, ())) := by
  simp only [c_impl_Functor_isFunctor, okL, T.oks, T.ok, ap, allP, true_and, and_true, implies_true] at hok hpre
  try dsimp only [T.den] at hok
  try dsimp only [T.den] at hpre
  unfold W_impl_Functor_isFunctor
  simp only [c_impl_Functor_isFunctor, funR, List.all_cons, List.all_nil, Bool.and_true]
  have h1 := @cat_shape f.1
  have h2 := @cat_shape f.2.1
  grind [cnd, nb_eq, inK64]
theorem ct_impl_Functor_isFunctor : CtOk Try.prog 121 c_impl_Functor_isFunctor :=
  ct_by (Φ := lkp [(147, c_impl_Functor_fits), (146, c_impl_areCategories)]) (good_cons ct_impl_Functor_fits (good_cons ct_impl_areCategories good_nil)) tab_ok (by kernel_rfl) (fn := Try.f121) (c := bodyOf Try.f121) (by kernel_rfl) (by kernel_rfl) (by kernel_rfl) c_impl_Functor_isFunctor rfl .n (cutL [(1, 13)]) (by kernel_rfl) (by kernel_rfl) k_impl_Functor_isFunctor (by decide) (fun x K => W_impl_Functor_isFunctor x.1 K) w_impl_Functor_isFunctor (fun x h1 h2 => m_impl_Functor_isFunctor x.1 h1 h2)
/-- the arrows from x to y -/
def homR (c : CategoryD) (x y : Int) : List Int := selR c.2.1.length fun f => c.2.1.getD f.toNat 0 == x && c.2.2.1.getD f.toNat 0 == y
theorem hom_mem {c : CategoryD} {x y g : Int} : g ∈ homR c x y ↔ 0 ≤ g ∧ g < c.2.1.length ∧ c.2.1.getD g.toNat 0 = x ∧ c.2.2.1.getD g.toNat 0 = y := by
  unfold homR; rw [sel_mem, Bool.and_eq_true, beq_iff_eq, beq_iff_eq]

def c_impl_Category_hom : Ct := ⟨[(.pt CategoryT), (.int .i64), (.int .i64)], [false, false, false], fun x => [x.1.2.1.length ≤ 40, x.1.2.2.1.length = x.1.2.1.length], [(false, (.sl (.fz (.int .i64))))], fun x => (homR x.1 x.2.1 x.2.2.1, ()), false, none⟩
def W_impl_Category_hom (c : CategoryD) (x : Int) (y : Int) (K : (List Int) × Unit → Prop) : Prop := (loopW (S := ((Unit × (Int × Unit)) × ((List Int) × Unit))) (fun s => (fun next => ((inK IntKind.i64 s.1.2.1) → ((T.ok (T.sl (T.int IntKind.i64)) s.2.1) → (cnd (decide (s.1.2.1 < (((List.length c.2.1) : Nat) : Int))) (((0 : Int) ≤ s.1.2.1) ∧ ((s.1.2.1 < (((List.length c.2.1) : Nat) : Int)) ∧ (((((List.getD c.2.1 (Int.toNat s.1.2.1) (0 : Int)) == x) = Bool.true) → ((s.1.2.1 < (((List.length c.2.2.1) : Nat) : Int)) ∧ ((0 : Int) ≤ s.1.2.1))) ∧ (joinW (S := ((Unit × Unit) × ((List Int) × Unit))) (fun s1 => ((T.ok (T.sl (T.int IntKind.i64)) s1.2.1) → ((inK IntKind.i64 (s.1.2.1 + (1 : Int))) ∧ (next (((), ((s.1.2.1 + (1 : Int)), ())), (s1.2.1, ())))))) (fun k => (cnd (((List.getD c.2.1 (Int.toNat s.1.2.1) (0 : Int)) == x) && ((List.getD c.2.2.1 (Int.toNat s.1.2.1) (0 : Int)) == y)) ((room (List.length s.2.1) (List.length (s.1.2.1 :: ([] : List Int))) 8) ∧ (k (((), ()), ((s.2.1 ++ (s.1.2.1 :: ([] : List Int))), ())))) (k (((), ()), (s.2.1, ()))))))))) (K (s.2.1, ()))))))) (((), ((0 : Int), ())), (([] : List Int), ())))
theorem w_impl_Category_hom (x : denL c_impl_Category_hom.args) (K : (List Int) × Unit → Prop) : evF tab (lkp []) (cutL []) Try.f88 (bodyOf Try.f88) (.s .n (.s .n (.s (.s .n (.l [(7, (.ref 800007 [])), (15, (.d (.int .i64)))] [(800007, (.sl (.fz (.int .i64))))] [0, 1, 2, 14] (.s .n (.s .n (.s (.s .n (.s .n (.j [(7, (.ref 800007 []))] [(800007, (.sl (.fz (.int .i64))))] [0, 1, 2, 14, 15] .n))) .n))))) .n))) c_impl_Category_hom x K = W_impl_Category_hom x.1 x.2.1 x.2.2.1 K := by kernel_rfl
theorem k_impl_Category_hom : okC Try.f88.ntmps (cutL []) (bodyOf Try.f88) = true := by kernel_rfl
theorem m_impl_Category_hom (c : CategoryD) (x : Int) (y : Int) (hok : allP (okL c_impl_Category_hom.args (c, x, y, ()))) (hpre : allP (c_impl_Category_hom.pre (c, x, y, ()))) : W_impl_Category_hom c x y (fun r => r = c_impl_Category_hom.res (c, x, y, ())) := by
  simp only [c_impl_Category_hom, okL, T.oks, T.ok, ap, allP, true_and, and_true, implies_true] at hok hpre
  try dsimp only [T.den] at hok
  try dsimp only [T.den] at hpre
  unfold W_impl_Category_hom
  have hm : c.2.1.length ≤ 40 := hpre.1
  have hlt : c.2.2.1.length = c.2.1.length := hpre.2
  refine loop_of (fun (s : ((Unit × (Int × Unit)) × ((List Int) × Unit))) => 0 ≤ s.1.2.1 ∧ s.1.2.1 ≤ c.2.1.length ∧ s.2.1 = selR s.1.2.1.toNat fun f => c.2.1.getD f.toNat 0 == x && c.2.2.1.getD f.toNat 0 == y) (fun (s : ((Unit × (Int × Unit)) × ((List Int) × Unit))) => (c.2.1.length - s.1.2.1).toNat) ?_ ⟨by simp, by simp, rfl⟩
  rintro ⟨⟨_, i, _⟩, l, _⟩ next ⟨h0, h1, h2⟩ hn hin hl
  try dsimp only at h0 h1 h2 hn ⊢
  subst h2
  refine cnd_d (fun hc => ⟨h0, hc, fun _ => by omega, join_of (fun s1 => s1.2.1 = selR (i + 1).toNat fun f => c.2.1.getD f.toNat 0 == x && c.2.2.1.getD f.toNat 0 == y) (fun s1 hs _ => ⟨by rw [inK64]; (try dsimp only); omega, hn _ ⟨(by first | omega | (dsimp only; omega)), (by first | omega | (dsimp only; omega)), hs⟩ (by first | omega | (dsimp only; omega))⟩) (fun k hk => cnd_of (fun hx => ⟨?_, hk _ ?_⟩) (fun hx => hk _ ?_))⟩) (fun hc => ?_)
  · have := sel_len (p := fun f => c.2.1.getD f.toNat 0 == x && c.2.2.1.getD f.toNat 0 == y) i.toNat
    unfold room
    rw [nb_eq]
    have h3 : (i :: ([] : List Int)).length = 1 := rfl
    rw [h3]
    omega
  · exact (sel_t h0 hx).symm
  · exact (sel_f h0 hx).symm
  · have e1 : i.toNat = c.2.1.length := by omega
    simp only [c_impl_Category_hom, homR]
    rw [e1]
theorem ct_impl_Category_hom : CtOk Try.prog 88 c_impl_Category_hom :=
  ct_by (Φ := lkp []) good_nil tab_ok (by kernel_rfl) (fn := Try.f88) (c := bodyOf Try.f88) (by kernel_rfl) (by kernel_rfl) (by kernel_rfl) c_impl_Category_hom rfl (.s .n (.s .n (.s (.s .n (.l [(7, (.ref 800007 [])), (15, (.d (.int .i64)))] [(800007, (.sl (.fz (.int .i64))))] [0, 1, 2, 14] (.s .n (.s .n (.s (.s .n (.s .n (.j [(7, (.ref 800007 []))] [(800007, (.sl (.fz (.int .i64))))] [0, 1, 2, 14, 15] .n))) .n))))) .n))) (cutL []) (by kernel_rfl) (by kernel_rfl) k_impl_Category_hom (by decide) (fun x K => W_impl_Category_hom x.1 x.2.1 x.2.2.1 K) w_impl_Category_hom (fun x h1 h2 => m_impl_Category_hom x.1 x.2.1 x.2.2.1 h1 h2)
/-- the arrows out of x -/
def outR (c : CategoryD) (x : Int) : List Int := selR c.2.1.length fun f => c.2.1.getD f.toNat 0 == x

def c_impl_Category_outOf : Ct := ⟨[(.pt CategoryT), (.int .i64)], [false, false], fun x => [x.1.2.1.length ≤ 40], [(false, (.sl (.fz (.int .i64))))], fun x => (outR x.1 x.2.1, ()), false, none⟩
def W_impl_Category_outOf (c : CategoryD) (x : Int) (K : (List Int) × Unit → Prop) : Prop := (loopW (S := ((Unit × (Int × Unit)) × ((List Int) × Unit))) (fun s => (fun next => ((inK IntKind.i64 s.1.2.1) → ((T.ok (T.sl (T.int IntKind.i64)) s.2.1) → (cnd (decide (s.1.2.1 < (((List.length c.2.1) : Nat) : Int))) (((0 : Int) ≤ s.1.2.1) ∧ ((s.1.2.1 < (((List.length c.2.1) : Nat) : Int)) ∧ (joinW (S := ((Unit × Unit) × ((List Int) × Unit))) (fun s1 => ((T.ok (T.sl (T.int IntKind.i64)) s1.2.1) → ((inK IntKind.i64 (s.1.2.1 + (1 : Int))) ∧ (next (((), ((s.1.2.1 + (1 : Int)), ())), (s1.2.1, ())))))) (fun k => (cnd ((List.getD c.2.1 (Int.toNat s.1.2.1) (0 : Int)) == x) ((room (List.length s.2.1) (List.length (s.1.2.1 :: ([] : List Int))) 8) ∧ (k (((), ()), ((s.2.1 ++ (s.1.2.1 :: ([] : List Int))), ())))) (k (((), ()), (s.2.1, ())))))))) (K (s.2.1, ()))))))) (((), ((0 : Int), ())), (([] : List Int), ())))
theorem w_impl_Category_outOf (x : denL c_impl_Category_outOf.args) (K : (List Int) × Unit → Prop) : evF tab (lkp []) (cutL []) Try.f87 (bodyOf Try.f87) (.s .n (.s .n (.s (.s .n (.l [(5, (.ref 800005 [])), (14, (.d (.int .i64)))] [(800005, (.sl (.fz (.int .i64))))] [1, 12, 13] (.s .n (.s .n (.s (.s .n (.s .n (.j [(5, (.ref 800005 []))] [(800005, (.sl (.fz (.int .i64))))] [1, 12, 13, 14] .n))) .n))))) .n))) c_impl_Category_outOf x K = W_impl_Category_outOf x.1 x.2.1 K := by kernel_rfl
theorem k_impl_Category_outOf : okC Try.f87.ntmps (cutL []) (bodyOf Try.f87) = true := by kernel_rfl
theorem m_impl_Category_outOf (c : CategoryD) (x : Int) (hok : allP (okL c_impl_Category_outOf.args (c, x, ()))) (hpre : allP (c_impl_Category_outOf.pre (c, x, ()))) : W_impl_Category_outOf c x (fun r => r = c_impl_Category_outOf.res (c, x, ())) := by
  simp only [c_impl_Category_outOf, okL, T.oks, T.ok, ap, allP, true_and, and_true, implies_true] at hok hpre
  try dsimp only [T.den] at hok
  try dsimp only [T.den] at hpre
  unfold W_impl_Category_outOf
  have hm : c.2.1.length ≤ 40 := hpre
  refine loop_of (fun (s : ((Unit × (Int × Unit)) × ((List Int) × Unit))) => 0 ≤ s.1.2.1 ∧ s.1.2.1 ≤ c.2.1.length ∧ s.2.1 = selR s.1.2.1.toNat fun f => c.2.1.getD f.toNat 0 == x) (fun (s : ((Unit × (Int × Unit)) × ((List Int) × Unit))) => (c.2.1.length - s.1.2.1).toNat) ?_ ⟨by simp, by simp, rfl⟩
  rintro ⟨⟨_, i, _⟩, l, _⟩ next ⟨h0, h1, h2⟩ hn hin hl
  try dsimp only at h0 h1 h2 hn ⊢
  subst h2
  refine cnd_d (fun hc => ⟨h0, hc, join_of (fun s1 => s1.2.1 = selR (i + 1).toNat fun f => c.2.1.getD f.toNat 0 == x) (fun s1 hs _ => ⟨by rw [inK64]; (try dsimp only); omega, hn _ ⟨(by first | omega | (dsimp only; omega)), (by first | omega | (dsimp only; omega)), hs⟩ (by first | omega | (dsimp only; omega))⟩) (fun k hk => cnd_of (fun hx => ⟨?_, hk _ ?_⟩) (fun hx => hk _ ?_))⟩) (fun hc => ?_)
  · have := sel_len (p := fun f => c.2.1.getD f.toNat 0 == x) i.toNat
    unfold room
    rw [nb_eq]
    have h3 : (i :: ([] : List Int)).length = 1 := rfl
    rw [h3]
    omega
  · exact (sel_t h0 hx).symm
  · exact (sel_f h0 hx).symm
  · have e : i.toNat = c.2.1.length := by omega
    simp only [c_impl_Category_outOf, outR]
    rw [e]
theorem ct_impl_Category_outOf : CtOk Try.prog 87 c_impl_Category_outOf :=
  ct_by (Φ := lkp []) good_nil tab_ok (by kernel_rfl) (fn := Try.f87) (c := bodyOf Try.f87) (by kernel_rfl) (by kernel_rfl) (by kernel_rfl) c_impl_Category_outOf rfl (.s .n (.s .n (.s (.s .n (.l [(5, (.ref 800005 [])), (14, (.d (.int .i64)))] [(800005, (.sl (.fz (.int .i64))))] [1, 12, 13] (.s .n (.s .n (.s (.s .n (.s .n (.j [(5, (.ref 800005 []))] [(800005, (.sl (.fz (.int .i64))))] [1, 12, 13, 14] .n))) .n))))) .n))) (cutL []) (by kernel_rfl) (by kernel_rfl) k_impl_Category_outOf (by decide) (fun x K => W_impl_Category_outOf x.1 x.2.1 K) w_impl_Category_outOf (fun x h1 h2 => m_impl_Category_outOf x.1 x.2.1 h1 h2)
structure UfP (j : List Int) : Prop where
  le : ∀ i : Int, 0 ≤ i → i < j.length → 0 ≤ j.getD i.toNat 0 ∧ j.getD i.toNat 0 ≤ i
/-- the way up, halved -/
def rootF : Nat → List Int → Int → List Int × Int
  | 0, j, x => (j, x)
  | n + 1, j, x => if j.getD x.toNat 0 = x then (j, x) else rootF n (j.set x.toNat (j.getD (j.getD x.toNat 0).toNat 0)) (j.getD (j.getD x.toNat 0).toNat 0)
def rootR (j : List Int) (x : Int) : List Int × Int := rootF j.length j x
def repF : Nat → List Int → Int → Int
  | 0, _, x => x
  | n + 1, j, x => if j.getD x.toNat 0 = x then x else repF n j (j.getD x.toNat 0)
def repR (j : List Int) (x : Int) : Int := repF j.length j x
theorem repF_s {j : List Int} (U : UfP j) : ∀ (n : Nat) (x : Int), 0 ≤ x → x < j.length → x.toNat ≤ n → repF (n + 1) j x = repF n j x
  | 0, x, x0, x1, h => by
    have := U.le x x0 x1
    simp only [repF]
    rw [if_pos (by omega)]
  | n + 1, x, x0, x1, h => by
    have := U.le x x0 x1
    show (if j.getD x.toNat 0 = x then x else repF (n + 1) j (j.getD x.toNat 0)) = (if j.getD x.toNat 0 = x then x else repF n j (j.getD x.toNat 0))
    split
    · rfl
    · exact repF_s U n _ this.1 (by omega) (by omega)
theorem rep_u {j : List Int} (U : UfP j) {x : Int} (x0 : 0 ≤ x) (x1 : x < j.length) : repR j x = if j.getD x.toNat 0 = x then x else repR j (j.getD x.toNat 0) := by
  have := U.le x x0 x1
  unfold repR
  obtain ⟨m, hm⟩ : ∃ m, j.length = m + 1 := ⟨j.length - 1, by omega⟩
  rw [hm]
  conv => lhs; rw [repF]
  split
  · rfl
  · rw [repF_s U m _ this.1 (by omega) (by omega)]
theorem uf_ind {j : List Int} {p : Int → Prop} (h : ∀ x : Int, 0 ≤ x → x < j.length → (∀ y : Int, 0 ≤ y → y < x → p y) → p x) {x : Int} (x0 : 0 ≤ x) (x1 : x < j.length) : p x := by
  have key : ∀ n : Nat, ∀ x : Int, 0 ≤ x → x < j.length → x.toNat < n → p x := by
    intro n
    induction n with
    | zero => intro x _ _ hx; omega
    | succ n ih => intro x x0 x1 hx; exact h x x0 x1 fun y y0 y1 => ih y y0 (by omega) (by omega)
  exact key (x.toNat + 1) x x0 x1 (by omega)
theorem rep_p {j : List Int} (U : UfP j) {x : Int} (x0 : 0 ≤ x) (x1 : x < j.length) : 0 ≤ repR j x ∧ repR j x ≤ x ∧ j.getD (repR j x).toNat 0 = repR j x := by
  refine uf_ind (j := j) (p := fun x => 0 ≤ repR j x ∧ repR j x ≤ x ∧ j.getD (repR j x).toNat 0 = repR j x) (fun x x0 x1 ih => ?_) x0 x1
  have := U.le x x0 x1
  rw [rep_u U x0 x1]
  split
  · rename_i h; exact ⟨x0, Int.le_refl _, h⟩
  · rename_i h
    have hp := ih _ this.1 (by omega)
    exact ⟨hp.1, by omega, hp.2.2⟩
theorem rep_fix {j : List Int} (U : UfP j) {x : Int} (x0 : 0 ≤ x) (x1 : x < j.length) (h : j.getD x.toNat 0 = x) : repR j x = x := by rw [rep_u U x0 x1, if_pos h]
theorem set_at {j : List Int} {x y v : Int} (x0 : 0 ≤ x) (x1 : x < j.length) (y0 : 0 ≤ y) : (j.set x.toNat v).getD y.toNat 0 = if y = x then v else j.getD y.toNat 0 := by
  rw [set_getD _ _ _ _ _ (by omega)]
  by_cases h : y = x
  · rw [if_pos h, if_pos (by rw [h])]
  · rw [if_neg h, if_neg (by omega)]
theorem uf_set {j : List Int} (U : UfP j) {x v : Int} (x0 : 0 ≤ x) (x1 : x < j.length) (v0 : 0 ≤ v) (v1 : v ≤ x) : UfP (j.set x.toNat v) := by
  refine ⟨fun i i0 i1 => ?_⟩
  rw [List.length_set] at i1
  rw [set_at x0 x1 i0]
  split
  · omega
  · exact U.le i i0 i1
theorem rep_half {j : List Int} (U : UfP j) {x : Int} (x0 : 0 ≤ x) (x1 : x < j.length) {y : Int} (y0 : 0 ≤ y) (y1 : y < j.length) : repR (j.set x.toNat (j.getD (j.getD x.toNat 0).toNat 0)) y = repR j y := by
  have hx := U.le x x0 x1
  have hp := U.le _ hx.1 (by omega)
  have U' := uf_set U x0 x1 hp.1 (by omega)
  refine uf_ind (j := j) (p := fun y => repR (j.set x.toNat (j.getD (j.getD x.toNat 0).toNat 0)) y = repR j y) (fun y y0 y1 ih => ?_) y0 y1
  rw [rep_u U' y0 (by rw [List.length_set]; exact y1), set_at x0 x1 y0]
  by_cases h : y = x
  · subst h
    simp only [if_true]
    split
    · rename_i hq
      have : j.getD y.toNat 0 = y := by omega
      rw [rep_fix U y0 y1 this]
    · rename_i hq
      rw [ih _ hp.1 (by omega)]
      rw [rep_u U y0 y1]
      have hne : ¬ j.getD y.toNat 0 = y := fun e => hq (by rw [e, e])
      rw [if_neg hne, rep_u U hx.1 (by omega)]
      split
      · rename_i he; rw [he]
        exact rep_fix U hx.1 (by omega) he
      · rfl
  · simp only [if_neg h]
    have hy := U.le y y0 y1
    rw [rep_u U y0 y1]
    split
    · rfl
    · exact ih _ hy.1 (by omega)
theorem rootF_s {j : List Int} (U : UfP j) : ∀ (n : Nat) (j : List Int) (x : Int), UfP j → 0 ≤ x → x < j.length → x.toNat ≤ n → rootF (n + 1) j x = rootF n j x
  | 0, j, x, U, x0, x1, h => by
    have := U.le x x0 x1
    simp only [rootF]
    rw [if_pos (by omega)]
  | n + 1, j, x, U, x0, x1, h => by
    have hx := U.le x x0 x1
    have hp := U.le _ hx.1 (by omega)
    show (if j.getD x.toNat 0 = x then (j, x) else rootF (n + 1) (j.set x.toNat (j.getD (j.getD x.toNat 0).toNat 0)) (j.getD (j.getD x.toNat 0).toNat 0)) = (if j.getD x.toNat 0 = x then (j, x) else rootF n (j.set x.toNat (j.getD (j.getD x.toNat 0).toNat 0)) (j.getD (j.getD x.toNat 0).toNat 0))
    split
    · rfl
    · exact rootF_s U n _ _ (uf_set U x0 x1 hp.1 (by omega)) hp.1 (by rw [List.length_set]; omega) (by omega)
theorem root_u {j : List Int} (U : UfP j) {x : Int} (x0 : 0 ≤ x) (x1 : x < j.length) : rootR j x = if j.getD x.toNat 0 = x then (j, x) else rootR (j.set x.toNat (j.getD (j.getD x.toNat 0).toNat 0)) (j.getD (j.getD x.toNat 0).toNat 0) := by
  have hx := U.le x x0 x1
  have hp := U.le _ hx.1 (by omega)
  unfold rootR
  rw [List.length_set]
  obtain ⟨m, hm⟩ : ∃ m, j.length = m + 1 := ⟨j.length - 1, by omega⟩
  rw [hm]
  conv => lhs; rw [rootF]
  split
  · rfl
  · rw [rootF_s U m _ _ (uf_set U x0 x1 hp.1 (by omega)) hp.1 (by rw [List.length_set]; omega) (by omega)]
/-- what root leaves and gives -/
theorem root_p : ∀ (n : Nat) {j : List Int}, UfP j → ∀ {x : Int}, 0 ≤ x → x < j.length → x.toNat < n → UfP (rootR j x).1 ∧ (rootR j x).1.length = j.length ∧ (rootR j x).2 = repR j x ∧ ∀ y : Int, 0 ≤ y → y < j.length → repR (rootR j x).1 y = repR j y
  | 0, j, U, x, x0, x1, h => by omega
  | n + 1, j, U, x, x0, x1, h => by
    have hx := U.le x x0 x1
    have hp := U.le _ hx.1 (by omega)
    have U' := uf_set U x0 x1 hp.1 (by omega)
    rw [root_u U x0 x1]
    split
    · rename_i he
      exact ⟨U, rfl, (rep_fix U x0 x1 he).symm, fun y _ _ => rfl⟩
    · rename_i he
      obtain ⟨h1, h2, h3, h4⟩ := root_p n U' hp.1 (by rw [List.length_set]; omega) (by omega)
      rw [List.length_set] at h2
      refine ⟨h1, h2, ?_, fun y y0 y1 => ?_⟩
      · rw [h3, rep_half U x0 x1 hp.1 (by omega)]
        rw [rep_u U x0 x1, if_neg he]
        by_cases hq : j.getD (j.getD x.toNat 0).toNat 0 = j.getD x.toNat 0
        · rw [hq]
        · rw [rep_u U hx.1 (by omega), if_neg hq]
      · rw [h4 y y0 (by rw [List.length_set]; exact y1), rep_half U x0 x1 y0 y1]
theorem root_ok {j : List Int} (U : UfP j) {x : Int} (x0 : 0 ≤ x) (x1 : x < j.length) : UfP (rootR j x).1 ∧ (rootR j x).1.length = j.length ∧ (rootR j x).2 = repR j x ∧ ∀ y : Int, 0 ≤ y → y < j.length → repR (rootR j x).1 y = repR j y := root_p (x.toNat + 1) U x0 x1 (by omega)

def w0_impl_joiner_root : Wt := ⟨(.sl (.fz (.int .i64))), [(.int .i64)], [false], fun x y => [UfP x, 0 ≤ y.1, y.1 < x.length], fun x y => (rootR x y.1).1, [(false, (.fz (.int .i64)))], fun x y => ((rootR x y.1).2, ())⟩
def c_impl_joiner_root : Ct := wtCt w0_impl_joiner_root
def W_impl_joiner_root (j : List Int) (x : Int) (K : (List Int) → (Int × Unit) → Prop) : Prop := (loopW (S := ((Unit × (Int × Unit)) × ((List Int) × Unit))) (fun s => (fun next => ((inK IntKind.i64 s.1.2.1) → ((T.ok (T.sl (T.int IntKind.i64)) s.2.1) → (((0 : Int) ≤ s.1.2.1) ∧ ((s.1.2.1 < (((List.length s.2.1) : Nat) : Int)) ∧ (cnd ((List.getD s.2.1 (Int.toNat s.1.2.1) (0 : Int)) != s.1.2.1) (((0 : Int) ≤ s.1.2.1) ∧ ((s.1.2.1 < (((List.length s.2.1) : Nat) : Int)) ∧ (((0 : Int) ≤ (List.getD s.2.1 (Int.toNat s.1.2.1) (0 : Int))) ∧ (((List.getD s.2.1 (Int.toNat s.1.2.1) (0 : Int)) < (((List.length s.2.1) : Nat) : Int)) ∧ (((0 : Int) ≤ s.1.2.1) ∧ ((s.1.2.1 < (((List.length s.2.1) : Nat) : Int)) ∧ (((0 : Int) ≤ s.1.2.1) ∧ ((s.1.2.1 < (((List.length (List.set s.2.1 (Int.toNat s.1.2.1) (List.getD s.2.1 (Int.toNat (List.getD s.2.1 (Int.toNat s.1.2.1) (0 : Int))) (0 : Int)))) : Nat) : Int)) ∧ (next (((), ((List.getD (List.set s.2.1 (Int.toNat s.1.2.1) (List.getD s.2.1 (Int.toNat (List.getD s.2.1 (Int.toNat s.1.2.1) (0 : Int))) (0 : Int))) (Int.toNat s.1.2.1) (0 : Int)), ())), ((List.set s.2.1 (Int.toNat s.1.2.1) (List.getD s.2.1 (Int.toNat (List.getD s.2.1 (Int.toNat s.1.2.1) (0 : Int))) (0 : Int))), ()))))))))))) (K s.2.1 (s.1.2.1, ()))))))))) (((), (x, ())), (j, ())))
theorem w_impl_joiner_root (x : w0_impl_joiner_root.o.strip.den) (y : denL w0_impl_joiner_root.as) (K : (List Int) → (Int × Unit) → Prop) : evFw tab (lkp []) (cutL []) Try.f149 (bodyOf Try.f149) (.s .n (.s (.l [(0, (.ref 1000000 [])), (1, (.d (.int .i64)))] [(1000000, (.sl (.fz (.int .i64))))] [] .n) .n)) w0_impl_joiner_root x y K = W_impl_joiner_root x y.1 K := by kernel_rfl
theorem k_impl_joiner_root : okC Try.f149.ntmps (cutL []) (bodyOf Try.f149) = true := by kernel_rfl
theorem m_impl_joiner_root (j : List Int) (x : Int) (hok : allP (w0_impl_joiner_root.o.strip.oks j)) (hok2 : allP (okL w0_impl_joiner_root.as (x, ()))) (hpre : allP (w0_impl_joiner_root.pre j (x, ()))) : W_impl_joiner_root j x (fun z r => z = w0_impl_joiner_root.new j (x, ()) ∧ r = w0_impl_joiner_root.res j (x, ())) := by
  simp only [w0_impl_joiner_root, O.strip, okL, T.oks, T.ok, ap, allP, true_and, and_true, implies_true] at hok hok2 hpre
  try dsimp only [T.den] at hok
  try dsimp only [T.den] at hok2
  try dsimp only [T.den] at hpre
  unfold W_impl_joiner_root
  obtain ⟨U, x0, x1⟩ := hpre
  clear hok
  refine loop_of (fun (s : ((Unit × (Int × Unit)) × ((List Int) × Unit))) => UfP s.2.1 ∧ 0 ≤ s.1.2.1 ∧ s.1.2.1 < s.2.1.length ∧ rootR s.2.1 s.1.2.1 = rootR j x) (fun (s : ((Unit × (Int × Unit)) × ((List Int) × Unit))) => s.1.2.1.toNat) ?_ ⟨U, x0, x1, rfl⟩
  rintro ⟨⟨_, y, _⟩, l, _⟩ next ⟨V, y0, y1, hr⟩ hn _ _
  try dsimp only at V y0 y1 hr hn ⊢
  have hy := V.le y y0 y1
  have hp := V.le _ hy.1 (by omega)
  rw [root_u V y0 y1] at hr
  refine ⟨y0, y1, cnd_of (fun hx => ?_) (fun hx => ?_)⟩
  · have hne : ¬ l.getD y.toNat 0 = y := by simpa using hx
    rw [if_neg hne] at hr
    have hs := @set_at l y y (l.getD (l.getD y.toNat 0).toNat 0) y0 y1 y0
    rw [if_pos rfl] at hs
    refine ⟨y0, y1, hy.1, by omega, y0, y1, y0, by rw [List.length_set]; exact y1, ?_⟩
    rw [hs]
    exact hn _ ⟨uf_set V y0 y1 hp.1 (by omega), hp.1, by dsimp only; rw [List.length_set]; omega, hr⟩ (by dsimp only; omega)
  · have he : l.getD y.toNat 0 = y := by simpa using hx
    rw [if_pos he] at hr
    exact ⟨congrArg Prod.fst hr, congrArg (fun z : List Int × Int => (z.2, ())) hr⟩
theorem ct_impl_joiner_root : CtOk Try.prog 149 c_impl_joiner_root :=
  wt_of (Φ := lkp []) good_nil tab_ok (by kernel_rfl) (fn := Try.f149) (c := bodyOf Try.f149) (by kernel_rfl) (by kernel_rfl) (by kernel_rfl) w0_impl_joiner_root (.s .n (.s (.l [(0, (.ref 1000000 [])), (1, (.d (.int .i64)))] [(1000000, (.sl (.fz (.int .i64))))] [] .n) .n)) (cutL []) (by kernel_rfl) (by kernel_rfl) k_impl_joiner_root (by decide) (by kernel_rfl) (fun x y h1 h2 h3 => (w_impl_joiner_root x y _).mpr (m_impl_joiner_root x y.1 h1 h2 h3))
def linkR (j : List Int) (a b : Int) : List Int := j.set (mxR a b).toNat (mnR a b)
def joinR (j : List Int) (x y : Int) : List Int × Bool := (linkR (rootR (rootR j x).1 y).1 (rootR j x).2 (rootR (rootR j x).1 y).2, (rootR j x).2 != (rootR (rootR j x).1 y).2)
theorem mm_p (a b : Int) : (mxR a b = a ∧ mnR a b = b ∧ b ≤ a) ∨ (mxR a b = b ∧ mnR a b = a ∧ a ≤ b) := by
  unfold mxR mnR
  split <;> split <;> omega
theorem rep_link {j : List Int} (U : UfP j) {m n : Int} (m1 : m < j.length) (n0 : 0 ≤ n) (h : n ≤ m) (hm : j.getD m.toNat 0 = m) (hn : j.getD n.toNat 0 = n) {y : Int} (y0 : 0 ≤ y) (y1 : y < j.length) :
    repR (j.set m.toNat n) y = if repR j y = m then n else repR j y := by
  have m0 : 0 ≤ m := by omega
  have U' := uf_set U m0 m1 n0 h
  refine uf_ind (j := j) (p := fun y => repR (j.set m.toNat n) y = if repR j y = m then n else repR j y) (fun y y0 y1 ih => ?_) y0 y1
  rw [rep_u U' y0 (by rw [List.length_set]; exact y1), set_at m0 m1 y0]
  by_cases e : y = m
  · subst e
    simp only [if_true]
    rw [rep_fix U y0 y1 hm, if_pos rfl]
    split
    · rename_i h1; exact h1.symm
    · rename_i h1
      rw [ih n n0 (by omega), rep_fix U n0 (by omega) hn, if_neg h1]
  · simp only [if_neg e]
    have hy := U.le y y0 y1
    split
    · rename_i h1
      rw [rep_fix U y0 y1 h1, if_neg e]
    · rename_i h1
      rw [ih _ hy.1 (by omega), rep_u U y0 y1, if_neg h1]
/-- what join leaves: the labels of the one are the labels of the other -/
theorem joinUf_ok {j : List Int} (U : UfP j) {x y : Int} (x0 : 0 ≤ x) (x1 : x < j.length) (y0 : 0 ≤ y) (y1 : y < j.length) :
    UfP (joinR j x y).1 ∧ (joinR j x y).1.length = j.length ∧ ((∀ z : Int, 0 ≤ z → z < j.length → repR (joinR j x y).1 z = if repR j z = repR j x then repR j y else repR j z) ∨ ∀ z : Int, 0 ≤ z → z < j.length → repR (joinR j x y).1 z = if repR j z = repR j y then repR j x else repR j z) := by
  obtain ⟨a1, a2, a3, a4⟩ := root_ok U x0 x1
  obtain ⟨b1, b2, b3, b4⟩ := root_ok a1 y0 (by omega)
  have hl : (rootR (rootR j x).1 y).1.length = j.length := by rw [b2, a2]
  have hr : ∀ z : Int, 0 ≤ z → z < j.length → repR (rootR (rootR j x).1 y).1 z = repR j z := fun z z0 z1 => by rw [b4 z z0 (by omega), a4 z z0 z1]
  have hx : (rootR j x).2 = repR (rootR (rootR j x).1 y).1 x := by rw [hr x x0 x1, a3]
  have hy : (rootR (rootR j x).1 y).2 = repR (rootR (rootR j x).1 y).1 y := by rw [hr y y0 y1, b3, a4 y y0 y1]
  have px := rep_p b1 x0 (by omega)
  have py := rep_p b1 y0 (by omega)
  rw [hr x x0 x1] at px
  rw [hr y y0 y1] at py
  unfold joinR linkR
  simp only
  rw [hx, hy, hr x x0 x1, hr y y0 y1]
  generalize (rootR (rootR j x).1 y).1 = k at *
  rcases mm_p (repR j x) (repR j y) with ⟨h1, h2, h3⟩ | ⟨h1, h2, h3⟩
  · rw [h1, h2]
    refine ⟨uf_set b1 px.1 (by omega) py.1 h3, by rw [List.length_set]; exact hl, .inl fun z z0 z1 => ?_⟩
    rw [rep_link b1 (by omega) py.1 h3 px.2.2 py.2.2 z0 (by omega), hr z z0 z1]
  · rw [h1, h2]
    refine ⟨uf_set b1 py.1 (by omega) px.1 h3, by rw [List.length_set]; exact hl, .inr fun z z0 z1 => ?_⟩
    rw [rep_link b1 (by omega) px.1 h3 py.2.2 px.2.2 z0 (by omega), hr z z0 z1]

def w0_impl_joiner_join : Wt := ⟨(.sl (.fz (.int .i64))), [(.int .i64), (.int .i64)], [false, false], fun x y => [UfP x, 0 ≤ y.1, y.1 < x.length, 0 ≤ y.2.1, y.2.1 < x.length], fun x y => (joinR x y.1 y.2.1).1, [(false, (.fz .bool))], fun x y => ((joinR x y.1 y.2.1).2, ())⟩
def c_impl_joiner_join : Ct := wtCt w0_impl_joiner_join
def W_impl_joiner_join (j : List Int) (x : Int) (y : Int) (K : (List Int) → (Bool × Unit) → Prop) : Prop := ((UfP j) ∧ (((0 : Int) ≤ x) ∧ ((x < (((List.length j) : Nat) : Int)) ∧ ((UfP (rootR j x).1) ∧ (((0 : Int) ≤ y) ∧ ((y < (((List.length (rootR j x).1) : Nat) : Int)) ∧ (((0 : Int) ≤ (mxR (rootR j x).2 (rootR (rootR j x).1 y).2)) ∧ (((mxR (rootR j x).2 (rootR (rootR j x).1 y).2) < (((List.length (rootR (rootR j x).1 y).1) : Nat) : Int)) ∧ (K (List.set (rootR (rootR j x).1 y).1 (Int.toNat (mxR (rootR j x).2 (rootR (rootR j x).1 y).2)) (mnR (rootR j x).2 (rootR (rootR j x).1 y).2)) (((rootR j x).2 != (rootR (rootR j x).1 y).2), ()))))))))))
theorem w_impl_joiner_join (x : w0_impl_joiner_join.o.strip.den) (y : denL w0_impl_joiner_join.as) (K : (List Int) → (Bool × Unit) → Prop) : evFw tab (lkp [(149, c_impl_joiner_root)]) (cutL []) Try.f123 (bodyOf Try.f123) .n w0_impl_joiner_join x y K = W_impl_joiner_join x y.1 y.2.1 K := by kernel_rfl
theorem k_impl_joiner_join : okC Try.f123.ntmps (cutL []) (bodyOf Try.f123) = true := by kernel_rfl
theorem m_impl_joiner_join (j : List Int) (x : Int) (y : Int) (hok : allP (w0_impl_joiner_join.o.strip.oks j)) (hok2 : allP (okL w0_impl_joiner_join.as (x, y, ()))) (hpre : allP (w0_impl_joiner_join.pre j (x, y, ()))) : W_impl_joiner_join j x y (fun z r => z = w0_impl_joiner_join.new j (x, y, ()) ∧ r = w0_impl_joiner_join.res j (x, y, ())) := by
  simp only [w0_impl_joiner_join, O.strip, okL, T.oks, T.ok, ap, allP, true_and, and_true, implies_true] at hok hok2 hpre
  try dsimp only [T.den] at hok
  try dsimp only [T.den] at hok2
  try dsimp only [T.den] at hpre
  unfold W_impl_joiner_join
  obtain ⟨U, x0, x1, y0, y1⟩ := hpre
  clear hok
  obtain ⟨a1, a2, a3, a4⟩ := root_ok U x0 x1
  obtain ⟨b1, b2, b3, b4⟩ := root_ok a1 y0 (by omega)
  have px := rep_p U x0 x1
  have py := rep_p U y0 y1
  rw [← a4 y y0 y1, ← b3] at py
  rw [← a3] at px
  have hm := mm_p (rootR j x).2 (rootR (rootR j x).1 y).2
  exact ⟨U, x0, x1, a1, y0, by omega, by omega, by omega, rfl, rfl⟩
theorem ct_impl_joiner_join : CtOk Try.prog 123 c_impl_joiner_join :=
  wt_of (Φ := lkp [(149, c_impl_joiner_root)]) (good_cons ct_impl_joiner_root good_nil) tab_ok (by kernel_rfl) (fn := Try.f123) (c := bodyOf Try.f123) (by kernel_rfl) (by kernel_rfl) (by kernel_rfl) w0_impl_joiner_join .n (cutL []) (by kernel_rfl) (by kernel_rfl) k_impl_joiner_join (by decide) (by kernel_rfl) (fun x y h1 h2 h3 => (w_impl_joiner_join x y _).mpr (m_impl_joiner_join x y.1 y.2.1 h1 h2 h3))
/-- where it stands first; -1: nowhere -/
def idxR {α : Type} [DecidableEq α] : List α → α → Int
  | [], _ => -1
  | a :: r, x => if a = x then 0 else (if idxR r x < 0 then -1 else idxR r x + 1)
def idxPR (s : List (Int × Int)) (v : Int × Int) : Int := idxR s v
theorem idx_p {α : Type} [DecidableEq α] (z : α) : ∀ {l : List α} {x : α}, (x ∈ l → 0 ≤ idxR l x ∧ idxR l x < l.length ∧ l.getD (idxR l x).toNat z = x ∧ ∀ i : Int, 0 ≤ i → i < idxR l x → l.getD i.toNat z ≠ x) ∧ (x ∉ l → idxR l x = -1)
  | [], x => by simp [idxR]
  | a :: r, x => by
    have ih := @idx_p α _ z r x
    rw [idxR]
    by_cases h : a = x
    · subst h
      simp only [if_true, List.mem_cons, true_or, not_true_eq_false, false_implies, and_true, true_implies]
      exact ⟨Int.le_refl _, by simp, rfl, fun i i0 i1 => by omega⟩
    · rw [if_neg h]
      simp only [List.mem_cons, not_or]
      refine ⟨fun hm => ?_, fun hm => ?_⟩
      · have hm : x ∈ r := hm.resolve_left fun e => h e.symm
        obtain ⟨h0, h1, h2, h3⟩ := ih.1 hm
        rw [if_neg (by omega)]
        have e : (idxR r x + 1).toNat = (idxR r x).toNat + 1 := by omega
        refine ⟨by omega, by simp only [List.length_cons]; omega, by rw [e, List.getD_cons_succ]; exact h2, fun i i0 i1 => ?_⟩
        by_cases hi : i = 0
        · rw [hi]; exact h
        · have e : i.toNat = (i - 1).toNat + 1 := by omega
          rw [e, List.getD_cons_succ]
          exact h3 (i - 1) (by omega) (by omega)
      · rw [ih.2 hm.2, if_pos (by omega)]
theorem idx_at {α : Type} [DecidableEq α] {z : α} {l : List α} {x : α} {i : Int} (i0 : 0 ≤ i) (i1 : i < l.length) (h : l.getD i.toNat z = x) (hn : ∀ k : Int, 0 ≤ k → k < i → l.getD k.toNat z ≠ x) : idxR l x = i := by
  have hm : x ∈ l := h ▸ getD_mem l z i0 i1
  obtain ⟨h0, h1, h2, h3⟩ := (idx_p z).1 hm
  rcases Int.lt_trichotomy (idxR l x) i with hl | hl | hl
  · exact absurd h2 (hn _ h0 hl)
  · exact hl
  · exact absurd h (h3 i i0 hl)
theorem idx_no {α : Type} [DecidableEq α] {z : α} {l : List α} {x : α} (hn : ∀ k : Int, 0 ≤ k → k < l.length → l.getD k.toNat z ≠ x) : idxR l x = -1 := by
  refine (idx_p z).2 fun hm => ?_
  obtain ⟨h0, h1, h2, _⟩ := (idx_p z).1 hm
  exact hn _ h0 h1 h2

def c_slices_Index_impl_pair_int64_impl_pair_int64 : Ct := ⟨[(.sl endsT), endsT], [false, true], fun x => [], [(false, (.fz (.int .i64)))], fun x => (idxPR x.1 x.2.1, ()), false, none⟩
def W_slices_Index_impl_pair_int64_impl_pair_int64 (s : List endsD) (v : endsD) (K : Int × Unit → Prop) : Prop := (loopW (S := ((Int × Unit) × Unit)) (fun s1 => (fun next => ((inK IntKind.i64 s1.1.1) → (cnd (decide (s1.1.1 < (((List.length s) : Nat) : Int))) (((0 : Int) ≤ s1.1.1) ∧ ((s1.1.1 < (((List.length s) : Nat) : Int)) ∧ (cnd ((v.1 == (List.getD s (Int.toNat s1.1.1) ((0 : Int), (0 : Int))).1) && (v.2 == (List.getD s (Int.toNat s1.1.1) ((0 : Int), (0 : Int))).2)) (K (s1.1.1, ())) ((inK IntKind.i64 (s1.1.1 + (1 : Int))) ∧ (next (((s1.1.1 + (1 : Int)), ()), ())))))) (K ((-(1 : Int)), ())))))) (((0 : Int), ()), ()))
theorem w_slices_Index_impl_pair_int64_impl_pair_int64 (x : denL c_slices_Index_impl_pair_int64_impl_pair_int64.args) (K : Int × Unit → Prop) : evF tab (lkp []) (cutL [(4, 5)]) Try.f150 (bodyOf Try.f150) (.s .n (.s (.s .n (.l [(8, (.d (.int .i64)))] [] [0, 3, 7] .n)) .n)) c_slices_Index_impl_pair_int64_impl_pair_int64 x K = W_slices_Index_impl_pair_int64_impl_pair_int64 x.1 x.2.1 K := by kernel_rfl
theorem k_slices_Index_impl_pair_int64_impl_pair_int64 : okC Try.f150.ntmps (cutL [(4, 5)]) (bodyOf Try.f150) = true := by kernel_rfl
theorem m_slices_Index_impl_pair_int64_impl_pair_int64 (s : List endsD) (v : endsD) (hok : allP (okL c_slices_Index_impl_pair_int64_impl_pair_int64.args (s, v, ()))) (hpre : allP (c_slices_Index_impl_pair_int64_impl_pair_int64.pre (s, v, ()))) : W_slices_Index_impl_pair_int64_impl_pair_int64 s v (fun r => r = c_slices_Index_impl_pair_int64_impl_pair_int64.res (s, v, ())) := by
  simp only [c_slices_Index_impl_pair_int64_impl_pair_int64, okL, T.oks, T.ok, ap, allP, true_and, and_true, implies_true] at hok hpre
  try dsimp only [T.den] at hok
  try dsimp only [T.den] at hpre
  unfold W_slices_Index_impl_pair_int64_impl_pair_int64
  have hl : s.length ≤ 140737488355328 := by simp only [nb_eq] at hok; omega
  clear hok
  refine loop_ix (n := s.length) (fun i => ∀ k : Int, 0 ≤ k → k < i → s.getD k.toNat (0, 0) ≠ v) (by omega) (by intro k h0 h1; omega) ?_ ?_
  · intro i next i0 i1 hP hn _
    try dsimp only
    refine cnd_d (fun _ => ⟨i0, i1, cnd_of (fun hx => ?_) (fun hx => ⟨by rw [inK64]; (try dsimp only); omega, hn fun k k0 k1 => ?_⟩)⟩) (fun h => absurd i1 h)
    · simp only [Bool.and_eq_true, beq_iff_eq] at hx
      have : idxPR s v = i := idx_at (z := (0, 0)) i0 i1 (Prod.ext hx.1.symm hx.2.symm) hP
      simp only [c_slices_Index_impl_pair_int64_impl_pair_int64, this]
    · by_cases hk : k = i
      · subst hk
        intro e
        rw [e] at hx
        simp at hx
      · exact hP k k0 (by omega)
  · intro next hP _
    refine cnd_d (fun h => absurd h (Int.lt_irrefl _)) (fun _ => ?_)
    have : idxPR s v = -1 := idx_no (z := (0, 0)) hP
    simp only [c_slices_Index_impl_pair_int64_impl_pair_int64, this]
theorem ct_slices_Index_impl_pair_int64_impl_pair_int64 : CtOk Try.prog 150 c_slices_Index_impl_pair_int64_impl_pair_int64 :=
  ct_by (Φ := lkp []) good_nil tab_ok (by kernel_rfl) (fn := Try.f150) (c := bodyOf Try.f150) (by kernel_rfl) (by kernel_rfl) (by kernel_rfl) c_slices_Index_impl_pair_int64_impl_pair_int64 rfl (.s .n (.s (.s .n (.l [(8, (.d (.int .i64)))] [] [0, 3, 7] .n)) .n)) (cutL [(4, 5)]) (by kernel_rfl) (by kernel_rfl) k_slices_Index_impl_pair_int64_impl_pair_int64 (by decide) (fun x K => W_slices_Index_impl_pair_int64_impl_pair_int64 x.1 x.2.1 K) w_slices_Index_impl_pair_int64_impl_pair_int64 (fun x h1 h2 => m_slices_Index_impl_pair_int64_impl_pair_int64 x.1 x.2.1 h1 h2)
/-- the labels in the order in which they come first -/
def dedSt (s : List Int) (k : Int) : List Int := if idxR s k < 0 then s ++ [k] else s
def dedR (l : List Int) : List Int := l.foldl dedSt []
def normR (l : List Int) : List Int := l.map (idxR (dedR l))
theorem idx_app {s : List Int} {k : Int} (r : List Int) (h : 0 ≤ idxR s k) : idxR (s ++ r) k = idxR s k := by
  have hm : k ∈ s := Decidable.byContradiction fun hn => by have := (idx_p (0 : Int)).2 hn; omega
  obtain ⟨h0, h1, h2, h3⟩ := (idx_p (0 : Int)).1 hm
  have hg : ∀ i : Int, 0 ≤ i → i < s.length → (s ++ r).getD i.toNat 0 = s.getD i.toNat 0 := fun i i0 i1 => by
    simp only [List.getD_eq_getElem?_getD]; rw [List.getElem?_append_left (by omega)]
  refine idx_at (z := (0 : Int)) h0 (by rw [List.length_append]; omega) (by rw [hg _ h0 h1]; exact h2) fun i i0 i1 => ?_
  rw [hg i i0 (by omega)]; exact h3 i i0 i1
theorem ded_pre : ∀ (l : List Int) (s : List Int), ∃ r, l.foldl dedSt s = s ++ r
  | [], s => ⟨[], by simp⟩
  | k :: l, s => by
    obtain ⟨r, hr⟩ := ded_pre l (dedSt s k)
    rw [List.foldl_cons, hr]
    unfold dedSt
    split
    · exact ⟨k :: r, by simp⟩
    · exact ⟨r, rfl⟩
theorem ded_len : ∀ (l : List Int) (s : List Int), (l.foldl dedSt s).length ≤ s.length + l.length
  | [], s => by simp
  | k :: l, s => by
    have := ded_len l (dedSt s k)
    rw [List.foldl_cons, List.length_cons]
    have h2 : (dedSt s k).length ≤ s.length + 1 := by unfold dedSt; split <;> simp
    omega
theorem ded_s {l : List Int} {i : Int} (i0 : 0 ≤ i) (i1 : i < l.length) : dedR (l.take (i + 1).toNat) = dedSt (dedR (l.take i.toNat)) (l.getD i.toNat 0) := by
  rw [take_c l 0 i0 i1]; unfold dedR; rw [List.foldl_append]; rfl
theorem ded_ext {l : List Int} {n : Nat} {k : Int} (h : 0 ≤ idxR (dedR (l.take n)) k) : idxR (dedR l) k = idxR (dedR (l.take n)) k := by
  obtain ⟨r, hr⟩ := ded_pre (l.drop n) (dedR (l.take n))
  have : dedR l = dedR (l.take n) ++ r := by
    rw [← hr]
    conv => lhs; rw [← List.take_append_drop n l]
    unfold dedR; rw [List.foldl_append]
  rw [this, idx_app r h]
theorem idx_new {s : List Int} {k : Int} (h : idxR s k < 0) : idxR (s ++ [k]) k = s.length := by
  have hm : k ∉ s := fun hm => by have := ((idx_p (0 : Int)).1 hm).1; omega
  refine idx_at (z := (0 : Int)) (by omega) (by simp only [List.length_append, List.length_cons, List.length_nil]; omega) (by simp [List.getD_eq_getElem?_getD]) fun i i0 i1 => ?_
  simp only [List.getD_eq_getElem?_getD]
  rw [List.getElem?_append_left (by omega)]
  intro e
  exact hm (e ▸ (by rw [← List.getD_eq_getElem?_getD]; exact getD_mem s 0 i0 i1))
/-- the numbers of the labels, in a map -/
structure NumM (m : List (Int × Int)) (s : List Int) : Prop where
  n : m.length = s.length
  f : ∀ k : Int, mfindR (.int .i64) (.int .i64) m k = if idxR s k < 0 then none else some (idxR s k)
theorem mfind_set {x y z : Int} : ∀ {l : List (Int × Int)}, mfindR (.int .i64) (.int .i64) (msetR (.int .i64) (.int .i64) l x z) y = if y = x then some z else mfindR (.int .i64) (.int .i64) l y
  | [] => by
    show mfindR (.int .i64) (.int .i64) [(x, z)] y = _
    rw [mfind_cons]
    by_cases h : y = x
    · rw [if_pos (eqR_iff.2 h), if_pos h]
    · rw [if_neg (fun e => h (eqR_iff.1 e)), if_neg h]
  | e :: r => by
    have ih := @mfind_set x y z r
    unfold msetR
    by_cases h : eqR (.int .i64) x e.1 = true
    · rw [if_pos h, mfind_cons, mfind_cons]
      have e1 := eqR_iff.1 h
      rw [← e1]
      by_cases h2 : y = x
      · rw [if_pos (eqR_iff.2 h2), if_pos h2]
      · rw [if_neg (fun e => h2 (eqR_iff.1 e)), if_neg h2, if_neg (fun e => h2 (eqR_iff.1 e))]
    · rw [if_neg h, mfind_cons, mfind_cons, ih]
      by_cases h2 : eqR (.int .i64) y e.1 = true
      · rw [if_pos h2, if_pos h2, if_neg]
        intro h3; exact h (eqR_iff.2 (h3 ▸ eqR_iff.1 h2))
      · rw [if_neg h2, if_neg h2]
theorem NumM.add {m : List (Int × Int)} {s : List Int} (h : NumM m s) {k : Int} (hk : idxR s k < 0) : NumM (msetR (.int .i64) (.int .i64) m k m.length) (s ++ [k]) := by
  have hno : k ∉ m.map (·.1) := fun hm => by
    have : ∀ {l : List (Int × Int)}, k ∈ l.map (·.1) → mfindR (.int .i64) (.int .i64) l k ≠ none := by
      intro l
      induction l with
      | nil => intro h; simp at h
      | cons e r ih =>
        intro hm
        rw [mfind_cons]
        split
        · simp
        · rename_i h1
          rcases List.mem_cons.1 hm with h2 | h2
          · exact absurd (eqR_iff.2 h2) h1
          · exact ih h2
    have := this hm
    rw [h.f, if_pos hk] at this
    exact this rfl
  refine ⟨?_, fun y => ?_⟩
  · have := @mset_out (.int .i64) (.int .i64) k m.length m hno
    rw [this, List.length_append, h.n]; rfl
  · rw [mfind_set]
    by_cases e : y = k
    · subst e
      rw [if_pos rfl, idx_new hk, if_neg (by omega), h.n]
    · rw [if_neg e, h.f]
      by_cases hy : idxR s y < 0
      · have hn : y ∉ s := fun hm => by have := ((idx_p (0 : Int)).1 hm).1; omega
        have : idxR (s ++ [k]) y = -1 := (idx_p (0 : Int)).2 (by simp [hn, e])
        rw [if_pos hy, this, if_pos (by omega)]
      · rw [idx_app _ (by omega)]

def c_impl_normal : Ct := ⟨[(.sl (.int .i64))], [false], fun x => [x.1.length ≤ 1099511627776], [(false, (.sl (.fz (.int .i64))))], fun x => (normR x.1, ()), false, none⟩
def W_impl_normal (labels : List Int) (K : (List Int) × Unit → Prop) : Prop := (((0 : Int) ≤ (((List.length labels) : Nat) : Int)) ∧ (((((List.length labels) : Nat) : Int) ≤ (((List.length labels) : Nat) : Int)) ∧ (((((List.length labels) : Nat) : Int) ≤ ((140737488355328 : Nat) : Int)) ∧ ((((((List.length labels) : Nat) : Int) * ((8 : Nat) : Int)) ≤ ((140737488355328 : Nat) : Int)) ∧ (loopW (S := ((Unit × (Unit × (Int × Unit))) × ((List (Int × Int)) × ((List Int) × Unit)))) (fun s => (fun next => ((inK IntKind.i64 s.1.2.2.1) → ((T.ok (T.mp (T.int IntKind.i64) (T.int IntKind.i64)) s.2.1) → ((T.ok (T.sl (T.int IntKind.i64)) s.2.2.1) → (cnd (decide (s.1.2.2.1 < (((List.length labels) : Nat) : Int))) (((0 : Int) ≤ s.1.2.2.1) ∧ ((s.1.2.2.1 < (((List.length labels) : Nat) : Int)) ∧ (joinW (S := ((Unit × (Unit × (Int × Unit))) × ((List (Int × Int)) × ((List Int) × Unit)))) (fun s1 => ((inK IntKind.i64 s1.1.2.2.1) → ((T.ok (T.mp (T.int IntKind.i64) (T.int IntKind.i64)) s1.2.1) → ((T.ok (T.sl (T.int IntKind.i64)) s1.2.2.1) → (((0 : Int) ≤ s.1.2.2.1) ∧ ((s.1.2.2.1 < (((List.length s1.2.2.1) : Nat) : Int)) ∧ ((inK IntKind.i64 (s.1.2.2.1 + (1 : Int))) ∧ (next (((), ((), ((s.1.2.2.1 + (1 : Int)), ()))), (s1.2.1, ((List.set s1.2.2.1 (Int.toNat s.1.2.2.1) s1.1.2.2.1), ()))))))))))) (fun k => (cnd (!(mhasR (T.int IntKind.i64) (T.int IntKind.i64) s.2.1 (List.getD labels (Int.toNat s.1.2.2.1) (0 : Int)))) ((room (List.length s.2.1) 1 1) ∧ (k (((), ((), ((((List.length s.2.1) : Nat) : Int), ()))), ((msetR (T.int IntKind.i64) (T.int IntKind.i64) s.2.1 (List.getD labels (Int.toNat s.1.2.2.1) (0 : Int)) (((List.length s.2.1) : Nat) : Int)), (s.2.2.1, ()))))) (k (((), ((), ((mgetR (T.int IntKind.i64) (T.int IntKind.i64) s.2.1 (List.getD labels (Int.toNat s.1.2.2.1) (0 : Int))), ()))), (s.2.1, (s.2.2.1, ()))))))))) (K (s.2.2.1, ())))))))) (((), ((), ((0 : Int), ()))), (([] : List (Int × Int)), ((List.replicate (Int.toNat (((List.length labels) : Nat) : Int)) (0 : Int)), ()))))))))
theorem w_impl_normal (x : denL c_impl_normal.args) (K : (List Int) × Unit → Prop) : evF tab (lkp []) (cutL []) Try.f151 (bodyOf Try.f151) (.s .n (.s .n (.s .n (.s (.s .n (.l [(3, (.ref 9 [])), (4, (.ref 12 [])), (15, (.d (.int .i64)))] [(9, (.mp (.int .i64) (.int .i64))), (12, (.sl (.fz (.int .i64))))] [13, 14] (.s .n (.s .n (.s (.s .n (.s .n (.s (.s .n (.j [(3, (.ref 9 [])), (4, (.ref 12 [])), (7, (.d (.int .i64)))] [(9, (.mp (.int .i64) (.int .i64))), (12, (.sl (.fz (.int .i64))))] [5, 13, 14, 15] .n)) .n))) .n))))) .n)))) c_impl_normal x K = W_impl_normal x.1 K := by kernel_rfl
theorem k_impl_normal : okC Try.f151.ntmps (cutL []) (bodyOf Try.f151) = true := by kernel_rfl
theorem m_impl_normal (labels : List Int) (hok : allP (okL c_impl_normal.args (labels, ()))) (hpre : allP (c_impl_normal.pre (labels, ()))) : W_impl_normal labels (fun r => r = c_impl_normal.res (labels, ())) := by
  simp only [c_impl_normal, okL, T.oks, T.ok, ap, allP, true_and, and_true, implies_true] at hok hpre
  try dsimp only [T.den] at hok
  try dsimp only [T.den] at hpre
  unfold W_impl_normal
  have hl : labels.length ≤ 1099511627776 := hpre
  clear hok
  refine ⟨by omega, Int.le_refl _, by omega, by omega, ?_⟩
  rw [Int.toNat_natCast, tab_rep]
  refine loop_of (fun (s : ((Unit × (Unit × (Int × Unit))) × ((List (Int × Int)) × ((List Int) × Unit)))) => 0 ≤ s.1.2.2.1 ∧ s.1.2.2.1 ≤ labels.length ∧ NumM s.2.1 (dedR (labels.take s.1.2.2.1.toNat)) ∧ s.2.2.1 = tabN labels.length fun k => if k < s.1.2.2.1 then idxR (dedR labels) (labels.getD k.toNat 0) else 0) (fun (s : ((Unit × (Unit × (Int × Unit))) × ((List (Int × Int)) × ((List Int) × Unit)))) => (labels.length - s.1.2.2.1).toNat) ?_ ⟨by simp, by simp, ⟨rfl, fun k => rfl⟩, tabN_congr fun k k0 _ => by dsimp only; rw [if_neg (by omega)]⟩
  rintro ⟨⟨_, _, i, _⟩, m, out, _⟩ next ⟨i0, i1, hM, ho⟩ hn _ _ _
  try dsimp only at i0 i1 hM ho hn ⊢
  refine cnd_d (fun hc => ?_) (fun hc => ?_)
  · have hs := @ded_s labels i i0 hc
    have hex := @ded_ext labels (i + 1).toNat (labels.getD i.toNat 0)
    have hml : m.length ≤ labels.length := by
      rw [hM.n]; have := ded_len (labels.take i.toNat) []; rw [List.length_take] at this; simp only [List.length_nil] at this; unfold dedR; omega
    have hout : ∀ v : Int, v = idxR (dedR labels) (labels.getD i.toNat 0) → out.set i.toNat v = tabN labels.length fun k => if k < i + 1 then idxR (dedR labels) (labels.getD k.toNat 0) else 0 := fun v hv => by
      rw [ho, tab_set i0 hc]
      refine tabN_congr fun k k0 k1 => ?_
      by_cases h : k = i
      · rw [if_pos h, if_pos (by omega), hv, h]
      · rw [if_neg h]
        by_cases h2 : k < i
        · rw [if_pos h2, if_pos (by omega)]
        · rw [if_neg h2, if_neg (by omega)]
    have hol : i < (out.length : Int) := by rw [ho, tabN_len]; exact hc
    rw [hs] at hex
    generalize labels.getD i.toNat 0 = k at *
    refine ⟨i0, hc, ?_⟩
    refine join_of (fun (s : ((Unit × (Unit × (Int × Unit))) × ((List (Int × Int)) × ((List Int) × Unit)))) => NumM s.2.1 (dedSt (dedR (labels.take i.toNat)) k) ∧ s.1.2.2.1 = idxR (dedR labels) k ∧ s.2.2.1 = out) (fun s ⟨s1, s2, s3⟩ _ _ _ => ⟨i0, by rw [s3]; exact hol, by rw [inK64]; (try dsimp only); omega, hn _ ⟨by dsimp only; omega, by dsimp only; omega, by dsimp only; rw [hs]; exact s1, by dsimp only; rw [s3]; exact hout _ s2⟩ (by dsimp only; omega)⟩) (fun kk hk => ?_)
    have hf := hM.f k
    refine cnd_of (fun hx => ?_) (fun hx => ?_)
    · have hneg : idxR (dedR (labels.take i.toNat)) k < 0 := by
        refine Decidable.byContradiction fun h => ?_
        rw [if_neg h] at hf
        simp [mhasR, hf] at hx
      have hd : dedSt (dedR (labels.take i.toNat)) k = dedR (labels.take i.toNat) ++ [k] := by unfold dedSt; rw [if_pos hneg]
      have hi := idx_new hneg
      rw [hd] at hex hk
      rw [hi] at hex
      refine ⟨by unfold room; rw [nb_eq]; omega, hk _ ⟨hM.add hneg, ?_, rfl⟩⟩
      try dsimp only
      rw [hex (by omega), hM.n]
    · have hpos : ¬ idxR (dedR (labels.take i.toNat)) k < 0 := fun h => by
        rw [if_pos h] at hf
        simp [mhasR, hf] at hx
      have hd : dedSt (dedR (labels.take i.toNat)) k = dedR (labels.take i.toNat) := by unfold dedSt; rw [if_neg hpos]
      rw [if_neg hpos] at hf
      rw [hd] at hex hk
      refine hk _ ⟨hM, ?_, rfl⟩
      try dsimp only
      rw [hex (by omega)]
      unfold mgetR; rw [hf]; rfl
  · have e : i = labels.length := by omega
    subst e
    simp only [c_impl_normal, normR]
    rw [ho]
    congr 1
    apply List.ext_getElem?
    intro k
    rw [List.getElem?_map]
    by_cases hk : k < labels.length
    · have h1 := @tabN_get Int (fun k => if k < (labels.length : Int) then idxR (dedR labels) (labels.getD k.toNat 0) else 0) 0 k labels.length (by omega) (by omega)
      rw [Int.toNat_natCast, if_pos (by omega), List.getD_eq_getElem?_getD, List.getElem?_eq_getElem (by rw [tabN_len]; exact hk)] at h1
      rw [List.getElem?_eq_getElem (by rw [tabN_len]; exact hk), List.getElem?_eq_getElem hk]
      simp only [Option.getD_some] at h1
      rw [h1, List.getD_eq_getElem?_getD, List.getElem?_eq_getElem hk]; rfl
    · rw [List.getElem?_eq_none (by rw [tabN_len]; omega), List.getElem?_eq_none (by omega)]; rfl
theorem ct_impl_normal : CtOk Try.prog 151 c_impl_normal :=
  ct_by (Φ := lkp []) good_nil tab_ok (by kernel_rfl) (fn := Try.f151) (c := bodyOf Try.f151) (by kernel_rfl) (by kernel_rfl) (by kernel_rfl) c_impl_normal rfl (.s .n (.s .n (.s .n (.s (.s .n (.l [(3, (.ref 9 [])), (4, (.ref 12 [])), (15, (.d (.int .i64)))] [(9, (.mp (.int .i64) (.int .i64))), (12, (.sl (.fz (.int .i64))))] [13, 14] (.s .n (.s .n (.s (.s .n (.s .n (.s (.s .n (.j [(3, (.ref 9 [])), (4, (.ref 12 [])), (7, (.d (.int .i64)))] [(9, (.mp (.int .i64) (.int .i64))), (12, (.sl (.fz (.int .i64))))] [5, 13, 14, 15] .n)) .n))) .n))))) .n)))) (cutL []) (by kernel_rfl) (by kernel_rfl) k_impl_normal (by decide) (fun x K => W_impl_normal x.1 K) w_impl_normal (fun x h1 h2 => m_impl_normal x.1 h1 h2)
def repsR (j : List Int) : List Int := tabN j.length (repR j)
def partFR (j : List Int) : Nat → List Int
  | 0 => j
  | n + 1 => (rootR (partFR j n) n).1
def partJR (j : List Int) : List Int := partFR j j.length

def w0_impl_joiner_partition : Wt := ⟨(.sl (.fz (.int .i64))), [], [], fun x y => [UfP x, x.length ≤ 1099511627776], fun x y => partJR x, [(false, (.sl (.fz (.int .i64))))], fun x y => (normR (repsR x), ())⟩
def c_impl_joiner_partition : Ct := wtCt w0_impl_joiner_partition
def W_impl_joiner_partition (j : List Int) (K : (List Int) → ((List Int) × Unit) → Prop) : Prop := (((0 : Int) ≤ (((List.length j) : Nat) : Int)) ∧ (((((List.length j) : Nat) : Int) ≤ (((List.length j) : Nat) : Int)) ∧ (((((List.length j) : Nat) : Int) ≤ ((140737488355328 : Nat) : Int)) ∧ ((((((List.length j) : Nat) : Int) * ((8 : Nat) : Int)) ≤ ((140737488355328 : Nat) : Int)) ∧ (loopW (S := ((Unit × (Unit × (Int × Unit))) × ((List Int) × ((List Int) × Unit)))) (fun s => (fun next => ((inK IntKind.i64 s.1.2.2.1) → ((T.ok (T.sl (T.int IntKind.i64)) s.2.1) → ((T.ok (T.sl (T.int IntKind.i64)) s.2.2.1) → (cnd (decide (s.1.2.2.1 < (((List.length j) : Nat) : Int))) ((UfP s.2.1) ∧ (((0 : Int) ≤ s.1.2.2.1) ∧ ((s.1.2.2.1 < (((List.length s.2.1) : Nat) : Int)) ∧ (((0 : Int) ≤ s.1.2.2.1) ∧ ((s.1.2.2.1 < (((List.length s.2.2.1) : Nat) : Int)) ∧ ((inK IntKind.i64 (s.1.2.2.1 + (1 : Int))) ∧ (next (((), ((), ((s.1.2.2.1 + (1 : Int)), ()))), ((rootR s.2.1 s.1.2.2.1).1, ((List.set s.2.2.1 (Int.toNat s.1.2.2.1) (rootR s.2.1 s.1.2.2.1).2), ())))))))))) (((List.length s.2.2.1) ≤ 1099511627776) ∧ (K s.2.1 ((normR s.2.2.1), ()))))))))) (((), ((), ((0 : Int), ()))), (j, ((List.replicate (Int.toNat (((List.length j) : Nat) : Int)) (0 : Int)), ()))))))))
theorem w_impl_joiner_partition (x : w0_impl_joiner_partition.o.strip.den) (y : denL w0_impl_joiner_partition.as) (K : (List Int) → ((List Int) × Unit) → Prop) : evFw tab (lkp [(149, c_impl_joiner_root), (151, c_impl_normal)]) (cutL []) Try.f125 (bodyOf Try.f125) (.s .n (.s .n (.s (.s .n (.l [(0, (.ref 1000000 [])), (3, (.ref 7 [])), (10, (.d (.int .i64)))] [(1000000, (.sl (.fz (.int .i64)))), (7, (.sl (.fz (.int .i64))))] [9] .n)) .n))) w0_impl_joiner_partition x y K = W_impl_joiner_partition x  K := by kernel_rfl
theorem k_impl_joiner_partition : okC Try.f125.ntmps (cutL []) (bodyOf Try.f125) = true := by kernel_rfl
theorem m_impl_joiner_partition (j : List Int) (hok : allP (w0_impl_joiner_partition.o.strip.oks j)) (hok2 : allP (okL w0_impl_joiner_partition.as (()))) (hpre : allP (w0_impl_joiner_partition.pre j (()))) : W_impl_joiner_partition j (fun z r => z = w0_impl_joiner_partition.new j (()) ∧ r = w0_impl_joiner_partition.res j (())) := by
  simp only [w0_impl_joiner_partition, O.strip, okL, T.oks, T.ok, ap, allP, true_and, and_true, implies_true] at hok hok2 hpre
  try dsimp only [T.den] at hok
  try dsimp only [T.den] at hok2
  try dsimp only [T.den] at hpre
  unfold W_impl_joiner_partition
  obtain ⟨U, hl⟩ := hpre
  clear hok
  refine ⟨by omega, Int.le_refl _, by omega, by omega, ?_⟩
  rw [Int.toNat_natCast, tab_rep]
  refine loop_of (fun (s : ((Unit × (Unit × (Int × Unit))) × ((List Int) × ((List Int) × Unit)))) => 0 ≤ s.1.2.2.1 ∧ s.1.2.2.1 ≤ j.length ∧ s.2.1 = partFR j s.1.2.2.1.toNat ∧ UfP s.2.1 ∧ s.2.1.length = j.length ∧ (∀ y : Int, 0 ≤ y → y < j.length → repR s.2.1 y = repR j y) ∧ s.2.2.1 = tabN j.length fun k => if k < s.1.2.2.1 then repR j k else 0) (fun (s : ((Unit × (Unit × (Int × Unit))) × ((List Int) × ((List Int) × Unit)))) => (j.length - s.1.2.2.1).toNat) ?_ ⟨by simp, by simp, rfl, U, rfl, fun _ _ _ => rfl, tabN_congr fun k k0 _ => by dsimp only; rw [if_neg (by omega)]⟩
  rintro ⟨⟨_, _, i, _⟩, l, out, _⟩ next ⟨i0, i1, hq, V, hll, hr, ho⟩ hn _ _ _
  try dsimp only at i0 i1 hq V hll hr ho hn ⊢
  refine cnd_d (fun hc => ?_) (fun hc => ?_)
  · obtain ⟨a1, a2, a3, a4⟩ := root_ok V i0 (by omega)
    refine ⟨V, i0, by omega, i0, by rw [ho, tabN_len]; exact hc, by rw [inK64]; (try dsimp only); omega, hn _ ⟨by dsimp only; omega, by dsimp only; omega, ?_, a1, by dsimp only; rw [a2]; exact hll, fun y y0 y1 => ?_, ?_⟩ (by dsimp only; omega)⟩
    · try dsimp only
      rw [show (i + 1).toNat = i.toNat + 1 from by omega, partFR, hq, show ((i.toNat : Nat) : Int) = i from by omega]
    · try dsimp only; rw [a4 y y0 (by omega), hr y y0 y1]
    · try dsimp only
      rw [ho, tab_set i0 hc]
      refine tabN_congr fun k k0 k1 => ?_
      by_cases h : k = i
      · rw [if_pos h, if_pos (by omega), a3, hr i i0 hc, h]
      · rw [if_neg h]
        by_cases h2 : k < i
        · rw [if_pos h2, if_pos (by omega)]
        · rw [if_neg h2, if_neg (by omega)]
  · have e : i = j.length := by omega
    subst e
    have hrep : out = repsR j := by rw [ho]; exact tabN_congr fun k _ k1 => by rw [if_pos k1]
    refine ⟨by rw [ho, tabN_len]; exact hl, ?_⟩
    rw [Int.toNat_natCast] at hq
    exact ⟨hq, by rw [hrep]; rfl⟩
theorem ct_impl_joiner_partition : CtOk Try.prog 125 c_impl_joiner_partition :=
  wt_of (Φ := lkp [(149, c_impl_joiner_root), (151, c_impl_normal)]) (good_cons ct_impl_joiner_root (good_cons ct_impl_normal good_nil)) tab_ok (by kernel_rfl) (fn := Try.f125) (c := bodyOf Try.f125) (by kernel_rfl) (by kernel_rfl) (by kernel_rfl) w0_impl_joiner_partition (.s .n (.s .n (.s (.s .n (.l [(0, (.ref 1000000 [])), (3, (.ref 7 [])), (10, (.d (.int .i64)))] [(1000000, (.sl (.fz (.int .i64)))), (7, (.sl (.fz (.int .i64))))] [9] .n)) .n))) (cutL []) (by kernel_rfl) (by kernel_rfl) k_impl_joiner_partition (by decide) (by kernel_rfl) (fun x y h1 h2 h3 => (w_impl_joiner_partition x y _).mpr (m_impl_joiner_partition x  h1 h2 h3))
def clsNR (p : List Int) : Int := p.foldl (fun n k => mxR n (k + 1)) 0
theorem cls_s {p : List Int} {i : Int} (i0 : 0 ≤ i) (i1 : i < p.length) : clsNR (p.take (i + 1).toNat) = mxR (clsNR (p.take i.toNat)) (p.getD i.toNat 0 + 1) := by
  rw [take_c p 0 i0 i1]; unfold clsNR; rw [List.foldl_append]; rfl

def c_impl_partition_classes : Ct := ⟨[(.sl (.int .i64))], [false], fun x => [x.1.length ≤ 1099511627776, withinR x.1 1099511627776 = true], [(false, (.fz (.int .i64)))], fun x => (clsNR x.1, ()), false, none⟩
def W_impl_partition_classes (p : List Int) (K : Int × Unit → Prop) : Prop := (loopW (S := ((Int × (Int × Unit)) × Unit)) (fun s => (fun next => ((inK IntKind.i64 s.1.1) → ((inK IntKind.i64 s.1.2.1) → (cnd (decide (s.1.2.1 < (((List.length p) : Nat) : Int))) (((0 : Int) ≤ s.1.2.1) ∧ ((s.1.2.1 < (((List.length p) : Nat) : Int)) ∧ ((inK IntKind.i64 ((List.getD p (Int.toNat s.1.2.1) (0 : Int)) + (1 : Int))) ∧ ((inK IntKind.i64 (s.1.2.1 + (1 : Int))) ∧ (next (((mxR s.1.1 ((List.getD p (Int.toNat s.1.2.1) (0 : Int)) + (1 : Int))), ((s.1.2.1 + (1 : Int)), ())), ())))))) (K (s.1.1, ()))))))) (((0 : Int), ((0 : Int), ())), ()))
theorem w_impl_partition_classes (x : denL c_impl_partition_classes.args) (K : Int × Unit → Prop) : evF tab (lkp []) (cutL []) Try.f126 (bodyOf Try.f126) (.s .n (.s .n (.s (.s .n (.l [(3, (.d (.int .i64))), (8, (.d (.int .i64)))] [] [6, 7] .n)) .n))) c_impl_partition_classes x K = W_impl_partition_classes x.1 K := by kernel_rfl
theorem k_impl_partition_classes : okC Try.f126.ntmps (cutL []) (bodyOf Try.f126) = true := by kernel_rfl
theorem m_impl_partition_classes (p : List Int) (hok : allP (okL c_impl_partition_classes.args (p, ()))) (hpre : allP (c_impl_partition_classes.pre (p, ()))) : W_impl_partition_classes p (fun r => r = c_impl_partition_classes.res (p, ())) := by
  simp only [c_impl_partition_classes, okL, T.oks, T.ok, ap, allP, true_and, and_true, implies_true] at hok hpre
  try dsimp only [T.den] at hok
  try dsimp only [T.den] at hpre
  unfold W_impl_partition_classes
  obtain ⟨hl, hw⟩ := hpre
  clear hok
  refine loop_of (fun (s : ((Int × (Int × Unit)) × Unit)) => 0 ≤ s.1.2.1 ∧ s.1.2.1 ≤ p.length ∧ s.1.1 = clsNR (p.take s.1.2.1.toNat)) (fun (s : ((Int × (Int × Unit)) × Unit)) => (p.length - s.1.2.1).toNat) ?_ ⟨by simp, by simp, rfl⟩
  rintro ⟨⟨n, i, _⟩, _⟩ next ⟨i0, i1, hq⟩ hn _ _
  try dsimp only at i0 i1 hq hn ⊢
  refine cnd_d (fun hc => ?_) (fun hc => ?_)
  · have hk := within_iff.1 hw i i0 hc
    refine ⟨i0, hc, by rw [inK64]; (try dsimp only); omega, by rw [inK64]; (try dsimp only); omega, hn _ ⟨by dsimp only; omega, by dsimp only; omega, ?_⟩ (by dsimp only; omega)⟩
    try dsimp only
    rw [cls_s i0 hc, hq]
  · simp only [c_impl_partition_classes]
    rw [hq, take_n _ (by omega)]
theorem ct_impl_partition_classes : CtOk Try.prog 126 c_impl_partition_classes :=
  ct_by (Φ := lkp []) good_nil tab_ok (by kernel_rfl) (fn := Try.f126) (c := bodyOf Try.f126) (by kernel_rfl) (by kernel_rfl) (by kernel_rfl) c_impl_partition_classes rfl (.s .n (.s .n (.s (.s .n (.l [(3, (.d (.int .i64))), (8, (.d (.int .i64)))] [] [6, 7] .n)) .n))) (cutL []) (by kernel_rfl) (by kernel_rfl) k_impl_partition_classes (by decide) (fun x K => W_impl_partition_classes x.1 K) w_impl_partition_classes (fun x h1 h2 => m_impl_partition_classes x.1 h1 h2)
def c_impl_index_impl_pair_int64 : Ct := ⟨[(.sl endsT), endsT], [false, true], fun x => [], [(false, (.fz (.int .i64)))], fun x => (idxPR x.1 x.2.1, ()), false, none⟩
def W_impl_index_impl_pair_int64 (list : List endsD) (x : endsD) (K : Int × Unit → Prop) : Prop := (K ((idxPR list x), ()))
theorem w_impl_index_impl_pair_int64 (x : denL c_impl_index_impl_pair_int64.args) (K : Int × Unit → Prop) : evF tab (lkp [(150, c_slices_Index_impl_pair_int64_impl_pair_int64)]) (cutL []) Try.f124 (bodyOf Try.f124) .n c_impl_index_impl_pair_int64 x K = W_impl_index_impl_pair_int64 x.1 x.2.1 K := by kernel_rfl
theorem k_impl_index_impl_pair_int64 : okC Try.f124.ntmps (cutL []) (bodyOf Try.f124) = true := by kernel_rfl
theorem m_impl_index_impl_pair_int64 (list : List endsD) (x : endsD) (hok : allP (okL c_impl_index_impl_pair_int64.args (list, x, ()))) (hpre : allP (c_impl_index_impl_pair_int64.pre (list, x, ()))) : W_impl_index_impl_pair_int64 list x (fun r => r = c_impl_index_impl_pair_int64.res (list, x, ())) := by
  simp only [c_impl_index_impl_pair_int64, okL, T.oks, T.ok, ap, allP, true_and, and_true, implies_true] at hok hpre
  try dsimp only [T.den] at hok
  try dsimp only [T.den] at hpre
  unfold W_impl_index_impl_pair_int64
  rfl
theorem ct_impl_index_impl_pair_int64 : CtOk Try.prog 124 c_impl_index_impl_pair_int64 :=
  ct_by (Φ := lkp [(150, c_slices_Index_impl_pair_int64_impl_pair_int64)]) (good_cons ct_slices_Index_impl_pair_int64_impl_pair_int64 good_nil) tab_ok (by kernel_rfl) (fn := Try.f124) (c := bodyOf Try.f124) (by kernel_rfl) (by kernel_rfl) (by kernel_rfl) c_impl_index_impl_pair_int64 rfl .n (cutL []) (by kernel_rfl) (by kernel_rfl) k_impl_index_impl_pair_int64 (by decide) (fun x K => W_impl_index_impl_pair_int64 x.1 x.2.1 K) w_impl_index_impl_pair_int64 (fun x h1 h2 => m_impl_index_impl_pair_int64 x.1 x.2.1 h1 h2)
def numR (n : Int) : List Int := tabN n.toNat fun i => i
theorem num_s {n : Nat} {i : Int} (i0 : 0 ≤ i) (i1 : i < n) : (tabN n fun k => if k < i then k else 0).set i.toNat i = tabN n fun k => if k < i + 1 then k else 0 := by
  rw [tab_set i0 i1]
  refine tabN_congr fun k k0 k1 => ?_
  by_cases h : k = i
  · rw [if_pos h, if_pos (by omega), h]
  · rw [if_neg h]
    by_cases h2 : k < i
    · rw [if_pos h2, if_pos (by omega)]
    · rw [if_neg h2, if_neg (by omega)]

def c_impl_numbers : Ct := ⟨[(.int .i64)], [false], fun x => [0 ≤ x.1, x.1 ≤ 1099511627776], [(false, (.sl (.fz (.int .i64))))], fun x => (numR x.1, ()), false, none⟩
def W_impl_numbers (n : Int) (K : (List Int) × Unit → Prop) : Prop := (((0 : Int) ≤ n) ∧ ((n ≤ n) ∧ ((n ≤ ((140737488355328 : Nat) : Int)) ∧ (((n * ((8 : Nat) : Int)) ≤ ((140737488355328 : Nat) : Int)) ∧ (loopW (S := ((Unit × (Int × Unit)) × ((List Int) × Unit))) (fun s => (fun next => ((inK IntKind.i64 s.1.2.1) → ((T.ok (T.sl (T.int IntKind.i64)) s.2.1) → (cnd (decide (s.1.2.1 < (((List.length (List.replicate (Int.toNat n) (0 : Int))) : Nat) : Int))) (((0 : Int) ≤ s.1.2.1) ∧ ((s.1.2.1 < (((List.length s.2.1) : Nat) : Int)) ∧ ((inK IntKind.i64 (s.1.2.1 + (1 : Int))) ∧ (next (((), ((s.1.2.1 + (1 : Int)), ())), ((List.set s.2.1 (Int.toNat s.1.2.1) s.1.2.1), ())))))) (K (s.2.1, ()))))))) (((), ((0 : Int), ())), ((List.replicate (Int.toNat n) (0 : Int)), ())))))))
theorem w_impl_numbers (x : denL c_impl_numbers.args) (K : (List Int) × Unit → Prop) : evF tab (lkp []) (cutL []) Try.f148 (bodyOf Try.f148) (.s .n (.s .n (.s (.s .n (.l [(3, (.ref 6 [])), (9, (.d (.int .i64)))] [(6, (.sl (.fz (.int .i64))))] [8] .n)) .n))) c_impl_numbers x K = W_impl_numbers x.1 K := by kernel_rfl
theorem k_impl_numbers : okC Try.f148.ntmps (cutL []) (bodyOf Try.f148) = true := by kernel_rfl
theorem m_impl_numbers (n : Int) (hok : allP (okL c_impl_numbers.args (n, ()))) (hpre : allP (c_impl_numbers.pre (n, ()))) : W_impl_numbers n (fun r => r = c_impl_numbers.res (n, ())) := by
  simp only [c_impl_numbers, okL, T.oks, T.ok, ap, allP, true_and, and_true, implies_true] at hok hpre
  try dsimp only [T.den] at hok
  try dsimp only [T.den] at hpre
  unfold W_impl_numbers
  obtain ⟨n0, n1⟩ := hpre
  refine ⟨n0, Int.le_refl _, by omega, by omega, ?_⟩
  rw [tab_rep, tabN_len]
  refine loop_ixa (n := (n.toNat : Int)) (fun i => tabN n.toNat fun k => if k < i then k else 0) (by omega) (tabN_congr fun k k0 _ => by rw [if_neg (by omega)]) ?_ ?_
  · intro i next i0 i1 hn _ _
    try dsimp only at hn ⊢
    rw [← num_s i0 i1] at hn
    exact cnd_d (fun _ => ⟨i0, by rw [tabN_len]; exact i1, by rw [inK64]; (try dsimp only); omega, hn⟩) (fun h => absurd i1 h)
  · intro next _ _
    refine cnd_d (fun h => absurd h (Int.lt_irrefl _)) (fun _ => ?_)
    simp only [c_impl_numbers, numR]
    exact congrArg (fun z => (z, ())) (tabN_congr fun k _ k1 => by rw [if_pos k1])
theorem ct_impl_numbers : CtOk Try.prog 148 c_impl_numbers :=
  ct_by (Φ := lkp []) good_nil tab_ok (by kernel_rfl) (fn := Try.f148) (c := bodyOf Try.f148) (by kernel_rfl) (by kernel_rfl) (by kernel_rfl) c_impl_numbers rfl (.s .n (.s .n (.s (.s .n (.l [(3, (.ref 6 [])), (9, (.d (.int .i64)))] [(6, (.sl (.fz (.int .i64))))] [8] .n)) .n))) (cutL []) (by kernel_rfl) (by kernel_rfl) k_impl_numbers (by decide) (fun x K => W_impl_numbers x.1 K) w_impl_numbers (fun x h1 h2 => m_impl_numbers x.1 h1 h2)
def c_impl_joinerOf : Ct := ⟨[(.int .i64)], [false], fun x => [0 ≤ x.1, x.1 ≤ 1099511627776], [(false, (.sl (.fz (.int .i64))))], fun x => (numR x.1, ()), false, none⟩
def W_impl_joinerOf (n : Int) (K : (List Int) × Unit → Prop) : Prop := (((0 : Int) ≤ n) ∧ ((n ≤ (1099511627776 : Int)) ∧ (K ((numR n), ()))))
theorem w_impl_joinerOf (x : denL c_impl_joinerOf.args) (K : (List Int) × Unit → Prop) : evF tab (lkp [(148, c_impl_numbers)]) (cutL []) Try.f122 (bodyOf Try.f122) .n c_impl_joinerOf x K = W_impl_joinerOf x.1 K := by kernel_rfl
theorem k_impl_joinerOf : okC Try.f122.ntmps (cutL []) (bodyOf Try.f122) = true := by kernel_rfl
theorem m_impl_joinerOf (n : Int) (hok : allP (okL c_impl_joinerOf.args (n, ()))) (hpre : allP (c_impl_joinerOf.pre (n, ()))) : W_impl_joinerOf n (fun r => r = c_impl_joinerOf.res (n, ())) := by
  simp only [c_impl_joinerOf, okL, T.oks, T.ok, ap, allP, true_and, and_true, implies_true] at hok hpre
  try dsimp only [T.den] at hok
  try dsimp only [T.den] at hpre
  unfold W_impl_joinerOf
  exact ⟨hpre.1, hpre.2, rfl⟩
theorem ct_impl_joinerOf : CtOk Try.prog 122 c_impl_joinerOf :=
  ct_by (Φ := lkp [(148, c_impl_numbers)]) (good_cons ct_impl_numbers good_nil) tab_ok (by kernel_rfl) (fn := Try.f122) (c := bodyOf Try.f122) (by kernel_rfl) (by kernel_rfl) (by kernel_rfl) c_impl_joinerOf rfl .n (cutL []) (by kernel_rfl) (by kernel_rfl) k_impl_joinerOf (by decide) (fun x K => W_impl_joinerOf x.1 K) w_impl_joinerOf (fun x h1 h2 => m_impl_joinerOf x.1 h1 h2)
def fobjR (f : FunctorD) (x : Int) : List (Int × Int) := (tabN f.2.2.1.length fun y => (homR f.2.1 x (f.2.2.1.getD y.toNat 0)).flatMap fun h => [(y, h)]).flatten
def fstepR (f : FunctorD) (x : Int) (p : Int × Int) (u : Int) : Int := idxPR (fobjR f x) (f.1.2.2.1.getD u.toNat 0, compR f.2.1 p.2 (f.2.2.2.getD u.toNat 0))
def fjR (f : FunctorD) (x i : Int) (p : Int × Int) (j : List Int) (l : List Int) : List Int := l.foldl (fun j u => (joinR j i (fstepR f x p u)).1) j
def fj2R (f : FunctorD) (x : Int) : Nat → List Int
  | 0 => numR ((fobjR f x).length : Nat)
  | n + 1 => fjR f x n ((fobjR f x).getD n (0, 0)) (fj2R f x n) (outR f.1 ((fobjR f x).getD n (0, 0)).1)
def fin1R (f : FunctorD) (x : Int) : Bool := clsNR (normR (repsR (fj2R f x (fobjR f x).length))) == 1
def finR (f : FunctorD) : Bool := allB f.2.1.1.toNat (fin1R f)
theorem hom_40 {c : CategoryD} (S : ShapeP c) {x y : Int} : (homR c x y).length ≤ 40 := by
  have := @sel_len (fun f => c.2.1.getD f.toNat 0 == x && c.2.2.1.getD f.toNat 0 == y) c.2.1.length
  have h := S.m
  unfold homR; omega
theorem out_mem {c : CategoryD} {x g : Int} : g ∈ outR c x ↔ 0 ≤ g ∧ g < c.2.1.length ∧ c.2.1.getD g.toNat 0 = x := by
  unfold outR; rw [sel_mem, beq_iff_eq]
theorem fobj_mem {f : FunctorD} {x : Int} {p : Int × Int} : p ∈ fobjR f x ↔ 0 ≤ p.1 ∧ p.1 < f.2.2.1.length ∧ p.2 ∈ homR f.2.1 x (f.2.2.1.getD p.1.toNat 0) := by
  unfold fobjR
  simp only [List.mem_flatten, tabN_mem]
  constructor
  · rintro ⟨_, ⟨y, y0, y1, rfl⟩, hr⟩
    simp only [List.mem_flatMap, List.mem_singleton] at hr
    obtain ⟨h, hh, rfl⟩ := hr
    exact ⟨y0, y1, hh⟩
  · rintro ⟨y0, y1, hh⟩
    refine ⟨_, ⟨p.1, y0, y1, rfl⟩, ?_⟩
    simp only [List.mem_flatMap, List.mem_singleton]
    exact ⟨p.2, hh, rfl⟩
theorem fobj_len {f : FunctorD} (F : FunP f) {x : Int} : (fobjR f x).length ≤ 320 := by
  have h2 := @flat_le _ 40 (tabN f.2.2.1.length fun y => (homR f.2.1 x (f.2.2.1.getD y.toNat 0)).flatMap fun h => [(y, h)]) fun l hl => by
    obtain ⟨y, _, _, rfl⟩ := tabN_mem.1 hl
    have h1 := @hom_40 _ F.tgt x (f.2.2.1.getD y.toNat 0)
    have h2 := @flatMap_le _ _ 1 (fun h : Int => [(y, h)]) (homR f.2.1 x (f.2.2.1.getD y.toNat 0)) fun _ _ => by simp
    omega
  rw [tabN_len] at h2
  have h := F.src.ob
  have h3 := F.fit.lo
  unfold fobjR; omega
theorem fstep_mem {f : FunctorD} (F : FunP f) {x : Int} {p : Int × Int} (hp : p ∈ fobjR f x) {u : Int} (hu : u ∈ outR f.1 p.1) : (f.1.2.2.1.getD u.toNat 0, compR f.2.1 p.2 (f.2.2.2.getD u.toNat 0)) ∈ fobjR f x := by
  obtain ⟨p0, p1, hh⟩ := fobj_mem.1 hp
  obtain ⟨h0, h1, h2, h3⟩ := hom_mem.1 hh
  obtain ⟨u0, u1, u2⟩ := out_mem.1 hu
  have hfr := F.src.frm u0 u1
  have hlo := F.fit.lo
  have hla := F.fit.la
  have hF := within_iff.1 F.fit.aw u u0 (by omega)
  have he := F.fit.ends u u0 u1
  rw [u2] at he
  obtain ⟨c0, c1, c2, c3⟩ := F.tgt.yes h0 h1 hF.1 hF.2 (h3.trans he.1.symm)
  refine fobj_mem.2 ⟨hfr.2.2.1, by dsimp only; omega, hom_mem.2 ⟨c0, c1, ?_, ?_⟩⟩
  · exact c2.trans h2
  · exact c3.trans he.2
theorem fstep_ok {f : FunctorD} (F : FunP f) {x : Int} {p : Int × Int} (hp : p ∈ fobjR f x) {u : Int} (hu : u ∈ outR f.1 p.1) : 0 ≤ fstepR f x p u ∧ fstepR f x p u < (fobjR f x).length ∧ (fobjR f x).getD (fstepR f x p u).toNat (0, 0) = (f.1.2.2.1.getD u.toNat 0, compR f.2.1 p.2 (f.2.2.2.getD u.toNat 0)) := by
  obtain ⟨h0, h1, h2, _⟩ := (idx_p ((0 : Int), (0 : Int))).1 (fstep_mem F hp hu)
  exact ⟨h0, h1, h2⟩
theorem num_uf {n : Nat} : UfP (numR n) := ⟨fun i i0 i1 => by
  unfold numR at i1 ⊢
  rw [tabN_len] at i1
  rw [tabN_get i0 i1]; exact ⟨i0, Int.le_refl _⟩⟩
theorem fj_s {f : FunctorD} {x i : Int} {p : Int × Int} {j l : List Int} {k : Int} (k0 : 0 ≤ k) (k1 : k < l.length) : fjR f x i p j (l.take (k + 1).toNat) = (joinR (fjR f x i p j (l.take k.toNat)) i (fstepR f x p (l.getD k.toNat 0))).1 := by
  rw [take_c l 0 k0 k1]; unfold fjR; rw [List.foldl_append]; rfl
theorem ded_in {v : Int} : ∀ (l s : List Int), v ∈ s ∨ v ∈ l → v ∈ l.foldl dedSt s
  | [], s, h => h.resolve_right (by simp)
  | k :: l, s, h => by
    rw [List.foldl_cons]
    refine ded_in l _ ?_
    by_cases hs : v ∈ s
    · left; unfold dedSt; split
      · exact List.mem_append_left _ hs
      · exact hs
    · rcases List.mem_cons.1 (h.resolve_left hs) with e | e
      · subst e
        left
        have := (idx_p (0 : Int)).2 hs
        unfold dedSt; rw [if_pos (by omega)]; simp
      · exact .inr e
theorem norm_in {l : List Int} : withinR (normR l) l.length = true := by
  refine within_iff.2 fun i i0 i1 => ?_
  have hm := getD_mem _ 0 i0 i1
  generalize (normR l).getD i.toNat 0 = v at *
  simp only [normR, List.mem_map] at hm
  obtain ⟨k, hk, rfl⟩ := hm
  obtain ⟨h0, h1, _⟩ := (idx_p (0 : Int)).1 (ded_in l [] (.inr hk))
  have := ded_len l []
  simp only [List.length_nil] at this
  refine ⟨h0, ?_⟩
  unfold dedR; omega
theorem norm_len {l : List Int} : (normR l).length = l.length := by unfold normR; rw [List.length_map]
theorem reps_len {l : List Int} : (repsR l).length = l.length := by unfold repsR; rw [tabN_len]

def c_impl_Functor_isFinal : Ct := ⟨[(.pt FunctorT)], [false], fun x => [FunP x.1], [(false, (.fz .bool))], fun x => (finR x.1, ()), false, none⟩
def W_impl_Functor_isFinal (f : FunctorD) (K : Bool × Unit → Prop) : Prop := (loopW (S := ((Int × Unit) × Unit)) (fun s => (fun next => ((inK IntKind.i64 s.1.1) → (cnd (decide (s.1.1 < f.2.1.1)) (loopW (S := ((Unit × (Int × Unit)) × ((List (Int × Int)) × Unit))) (fun s1 => (fun next1 => ((inK IntKind.i64 s1.1.2.1) → ((T.ok (T.sl endsT) s1.2.1) → (cnd (decide (s1.1.2.1 < (((List.length f.2.2.1) : Nat) : Int))) (((0 : Int) ≤ s1.1.2.1) ∧ ((s1.1.2.1 < (((List.length f.2.2.1) : Nat) : Int)) ∧ (((List.length f.2.1.2.1) ≤ 40) ∧ (((List.length f.2.1.2.2.1) = (List.length f.2.1.2.1)) ∧ (loopW (S := ((Unit × (Int × Unit)) × ((List (Int × Int)) × Unit))) (fun s2 => (fun next2 => ((inK IntKind.i64 s2.1.2.1) → ((T.ok (T.sl endsT) s2.2.1) → (cnd (decide (s2.1.2.1 < (((List.length (homR f.2.1 s.1.1 (List.getD f.2.2.1 (Int.toNat s1.1.2.1) (0 : Int)))) : Nat) : Int))) (((0 : Int) ≤ s2.1.2.1) ∧ ((s2.1.2.1 < (((List.length (homR f.2.1 s.1.1 (List.getD f.2.2.1 (Int.toNat s1.1.2.1) (0 : Int)))) : Nat) : Int)) ∧ ((room (List.length s2.2.1) (List.length ((s1.1.2.1, (List.getD (homR f.2.1 s.1.1 (List.getD f.2.2.1 (Int.toNat s1.1.2.1) (0 : Int))) (Int.toNat s2.1.2.1) (0 : Int))) :: ([] : List (Int × Int)))) 16) ∧ ((inK IntKind.i64 (s2.1.2.1 + (1 : Int))) ∧ (next2 (((), ((s2.1.2.1 + (1 : Int)), ())), ((s2.2.1 ++ ((s1.1.2.1, (List.getD (homR f.2.1 s.1.1 (List.getD f.2.2.1 (Int.toNat s1.1.2.1) (0 : Int))) (Int.toNat s2.1.2.1) (0 : Int))) :: ([] : List (Int × Int)))), ()))))))) ((inK IntKind.i64 (s1.1.2.1 + (1 : Int))) ∧ (next1 (((), ((s1.1.2.1 + (1 : Int)), ())), (s2.2.1, ()))))))))) (((), ((0 : Int), ())), (s1.2.1, ()))))))) (((0 : Int) ≤ (((List.length s1.2.1) : Nat) : Int)) ∧ (((((List.length s1.2.1) : Nat) : Int) ≤ (1099511627776 : Int)) ∧ (loopW (S := ((Unit × (Unit × (Int × (Unit × Unit)))) × ((List (Int × Int)) × ((List Int) × Unit)))) (fun s2 => (fun next2 => ((inK IntKind.i64 s2.1.2.2.1) → ((T.ok (T.sl endsT) s2.2.1) → ((T.ok (T.sl (T.int IntKind.i64)) s2.2.2.1) → (cnd (decide (s2.1.2.2.1 < (((List.length s1.2.1) : Nat) : Int))) (((0 : Int) ≤ s2.1.2.2.1) ∧ ((s2.1.2.2.1 < (((List.length s2.2.1) : Nat) : Int)) ∧ (((List.length f.1.2.1) ≤ 40) ∧ (loopW (S := ((Unit × (Unit × (Unit × (Int × (Unit × Unit))))) × ((List (Int × Int)) × ((List Int) × ((Int × Int) × Unit))))) (fun s3 => (fun next3 => ((inK IntKind.i64 s3.1.2.2.2.1) → ((T.ok (T.sl endsT) s3.2.1) → ((T.ok (T.sl (T.int IntKind.i64)) s3.2.2.1) → ((inK IntKind.i64 s3.2.2.2.1.1) → ((inK IntKind.i64 s3.2.2.2.1.2) → (cnd (decide (s3.1.2.2.2.1 < (((List.length (outR f.1 (List.getD s2.2.1 (Int.toNat s2.1.2.2.1) ((0 : Int), (0 : Int))).1)) : Nat) : Int))) (((0 : Int) ≤ s3.1.2.2.2.1) ∧ ((s3.1.2.2.2.1 < (((List.length (outR f.1 (List.getD s2.2.1 (Int.toNat s2.1.2.2.1) ((0 : Int), (0 : Int))).1)) : Nat) : Int)) ∧ (((0 : Int) ≤ (List.getD (outR f.1 (List.getD s2.2.1 (Int.toNat s2.1.2.2.1) ((0 : Int), (0 : Int))).1) (Int.toNat s3.1.2.2.2.1) (0 : Int))) ∧ (((List.getD (outR f.1 (List.getD s2.2.1 (Int.toNat s2.1.2.2.1) ((0 : Int), (0 : Int))).1) (Int.toNat s3.1.2.2.2.1) (0 : Int)) < (((List.length f.1.2.2.1) : Nat) : Int)) ∧ (((0 : Int) ≤ (List.getD (outR f.1 (List.getD s2.2.1 (Int.toNat s2.1.2.2.1) ((0 : Int), (0 : Int))).1) (Int.toNat s3.1.2.2.2.1) (0 : Int))) ∧ (((List.getD (outR f.1 (List.getD s2.2.1 (Int.toNat s2.1.2.2.1) ((0 : Int), (0 : Int))).1) (Int.toNat s3.1.2.2.2.1) (0 : Int)) < (((List.length f.2.2.2) : Nat) : Int)) ∧ (((0 : Int) ≤ s3.2.2.2.1.2) ∧ ((s3.2.2.2.1.2 < (((List.length f.2.1.2.2.2.2) : Nat) : Int)) ∧ (((0 : Int) ≤ (List.getD f.2.2.2 (Int.toNat (List.getD (outR f.1 (List.getD s2.2.1 (Int.toNat s2.1.2.2.1) ((0 : Int), (0 : Int))).1) (Int.toNat s3.1.2.2.2.1) (0 : Int))) (0 : Int))) ∧ (((List.getD f.2.2.2 (Int.toNat (List.getD (outR f.1 (List.getD s2.2.1 (Int.toNat s2.1.2.2.1) ((0 : Int), (0 : Int))).1) (Int.toNat s3.1.2.2.2.1) (0 : Int))) (0 : Int)) < (((List.length (List.getD f.2.1.2.2.2.2 (Int.toNat s3.2.2.2.1.2) ([] : List Int))) : Nat) : Int)) ∧ ((UfP s3.2.2.1) ∧ (((0 : Int) ≤ s2.1.2.2.1) ∧ ((s2.1.2.2.1 < (((List.length s3.2.2.1) : Nat) : Int)) ∧ (((0 : Int) ≤ (idxPR s3.2.1 ((List.getD f.1.2.2.1 (Int.toNat (List.getD (outR f.1 (List.getD s2.2.1 (Int.toNat s2.1.2.2.1) ((0 : Int), (0 : Int))).1) (Int.toNat s3.1.2.2.2.1) (0 : Int))) (0 : Int)), (compR f.2.1 s3.2.2.2.1.2 (List.getD f.2.2.2 (Int.toNat (List.getD (outR f.1 (List.getD s2.2.1 (Int.toNat s2.1.2.2.1) ((0 : Int), (0 : Int))).1) (Int.toNat s3.1.2.2.2.1) (0 : Int))) (0 : Int)))))) ∧ (((idxPR s3.2.1 ((List.getD f.1.2.2.1 (Int.toNat (List.getD (outR f.1 (List.getD s2.2.1 (Int.toNat s2.1.2.2.1) ((0 : Int), (0 : Int))).1) (Int.toNat s3.1.2.2.2.1) (0 : Int))) (0 : Int)), (compR f.2.1 s3.2.2.2.1.2 (List.getD f.2.2.2 (Int.toNat (List.getD (outR f.1 (List.getD s2.2.1 (Int.toNat s2.1.2.2.1) ((0 : Int), (0 : Int))).1) (Int.toNat s3.1.2.2.2.1) (0 : Int))) (0 : Int))))) < (((List.length s3.2.2.1) : Nat) : Int)) ∧ ((inK IntKind.i64 (s3.1.2.2.2.1 + (1 : Int))) ∧ (next3 (((), ((), ((), ((s3.1.2.2.2.1 + (1 : Int)), ((), ()))))), (s3.2.1, ((joinR s3.2.2.1 s2.1.2.2.1 (idxPR s3.2.1 ((List.getD f.1.2.2.1 (Int.toNat (List.getD (outR f.1 (List.getD s2.2.1 (Int.toNat s2.1.2.2.1) ((0 : Int), (0 : Int))).1) (Int.toNat s3.1.2.2.2.1) (0 : Int))) (0 : Int)), (compR f.2.1 s3.2.2.2.1.2 (List.getD f.2.2.2 (Int.toNat (List.getD (outR f.1 (List.getD s2.2.1 (Int.toNat s2.1.2.2.1) ((0 : Int), (0 : Int))).1) (Int.toNat s3.1.2.2.2.1) (0 : Int))) (0 : Int)))))).1, (s3.2.2.2.1, ()))))))))))))))))))))) ((inK IntKind.i64 (s2.1.2.2.1 + (1 : Int))) ∧ (next2 (((), ((), ((s2.1.2.2.1 + (1 : Int)), ((), ())))), (s3.2.1, (s3.2.2.1, ()))))))))))))) (((), ((), ((), ((0 : Int), ((), ()))))), (s2.2.1, (s2.2.2.1, ((List.getD s2.2.1 (Int.toNat s2.1.2.2.1) ((0 : Int), (0 : Int))), ())))))))) ((UfP s2.2.2.1) ∧ (((List.length s2.2.2.1) ≤ 1099511627776) ∧ (((List.length (normR (repsR s2.2.2.1))) ≤ 1099511627776) ∧ (((withinR (normR (repsR s2.2.2.1)) (1099511627776 : Int)) = Bool.true) ∧ (cnd ((clsNR (normR (repsR s2.2.2.1))) != (1 : Int)) (K (Bool.false, ())) ((inK IntKind.i64 (s.1.1 + (1 : Int))) ∧ (next (((s.1.1 + (1 : Int)), ()), ())))))))))))))) (((), ((), ((0 : Int), ((), ())))), (s1.2.1, ((numR (((List.length s1.2.1) : Nat) : Int)), ()))))))))))) (((), ((0 : Int), ())), (([] : List (Int × Int)), ()))) (K (Bool.true, ())))))) (((0 : Int), ()), ()))
theorem w_impl_Functor_isFinal (x : denL c_impl_Functor_isFinal.args) (K : Bool × Unit → Prop) : evF tab (lkp [(88, c_impl_Category_hom), (87, c_impl_Category_outOf), (89, c_impl_Category_then), (123, c_impl_joiner_join), (125, c_impl_joiner_partition), (126, c_impl_partition_classes), (124, c_impl_index_impl_pair_int64), (122, c_impl_joinerOf)]) (cutL [(1, 7), (22, 521)]) Try.f72 (bodyOf Try.f72) (.s .n (.s .n (.s (.s .n (.l [(5, (.d (.int .i64)))] [] [0, 3, 4] (.s .n (.s (.s .n (.s (.s .n (.l [(6, (.ref 800006 [])), (36, (.d (.int .i64)))] [(800006, (.sl (.fz (.p (.int .i64) (.int .i64)))))] [0, 3, 4, 5, 34, 35] (.s .n (.s .n (.s (.s .n (.s .n (.l [(6, (.ref 800006 [])), (46, (.d (.int .i64)))] [(800006, (.sl (.fz (.p (.int .i64) (.int .i64)))))] [0, 3, 4, 5, 7, 34, 35, 36, 44, 45] .n))) .n))))) (.s .n (.s (.s .n (.l [(6, (.ref 800006 [])), (11, (.ref 106000 [])), (63, (.d (.int .i64))), (61, (.ref 800006 []))] [(800006, (.sl (.fz (.p (.int .i64) (.int .i64))))), (106000, (.sl (.fz (.int .i64))))] [0, 3, 4, 5, 62] (.s .n (.s .n (.s (.s .n (.s .n (.l [(6, (.ref 800006 [])), (11, (.ref 106000 [])), (13, (.ad 13 [.de])), (73, (.d (.int .i64))), (61, (.ref 800006 []))] [(800006, (.sl (.fz (.p (.int .i64) (.int .i64))))), (106000, (.sl (.fz (.int .i64)))), (13, (.pt (.fz (.p (.int .i64) (.int .i64)))))] [0, 3, 4, 5, 12, 62, 63, 71, 72] .n))) .n))))) .n)))) .n)))) .n))) c_impl_Functor_isFinal x K = W_impl_Functor_isFinal x.1 K := by kernel_rfl
theorem k_impl_Functor_isFinal : okC Try.f72.ntmps (cutL [(1, 7), (22, 521)]) (bodyOf Try.f72) = true := by kernel_rfl
theorem m_impl_Functor_isFinal (f : FunctorD) (hok : allP (okL c_impl_Functor_isFinal.args (f, ()))) (hpre : allP (c_impl_Functor_isFinal.pre (f, ()))) : W_impl_Functor_isFinal f (fun r => r = c_impl_Functor_isFinal.res (f, ())) := by
  simp only [c_impl_Functor_isFinal, okL, T.oks, T.ok, ap, allP, true_and, and_true, implies_true] at hok hpre
  try dsimp only [T.den] at hok
  try dsimp only [T.den] at hpre
  unfold W_impl_Functor_isFinal
  have F : FunP f := hpre
  clear hok hpre
  have h1 := F.tgt.ob
  have ht1 := F.tgt.m
  have ht2 := F.tgt.lt
  have hs1 := F.src.m
  have hs2 := F.src.lt
  have hlo := F.fit.lo
  have hla := F.fit.la
  have hso := F.src.ob
  have hlc := F.tgt.lc
  refine loop_ix (n := f.2.1.1) (fun i => allB i.toNat (fin1R f) = true) h1.1 rfl ?_ ?_
  · intro x next x0 x1 hP hn _
    try dsimp only at hn ⊢
    have hbad : fin1R f x = false → finR f = false := fun h => by
      cases hb : finR f with
      | false => rfl
      | true => rw [finR, allB_iff] at hb; have := hb x x0 (by omega); rw [h] at this; cases this
    have hgood : fin1R f x = true → allB (x + 1).toNat (fin1R f) = true := fun h => by rw [allB_s x0, hP, h]; rfl
    have hol := @fobj_len f F x
    refine cnd_d (fun _ => ?_) (fun h => absurd x1 h)
    refine loop_catB f.2.2.1.length (by omega) (fun y => (homR f.2.1 x (f.2.2.1.getD y.toNat 0)).flatMap fun h => [(y, h)]) [] 40 (fun y _ _ => ?_) ?_ ?_
    · have h1 := @hom_40 _ F.tgt x (f.2.2.1.getD y.toNat 0)
      have h2 := @flatMap_le _ _ 1 (fun h : Int => [(y, h)]) (homR f.2.1 x (f.2.2.1.getD y.toNat 0)) fun _ _ => by simp
      omega
    · intro y out next2 y0 y1 hb hn2 _ _
      try dsimp only at hn2 ⊢
      have hb1 : out.length ≤ 320 := by simp only [List.length_nil] at hb; omega
      clear hb
      have hh := @hom_40 _ F.tgt x (f.2.2.1.getD y.toNat 0)
      refine cnd_d (fun _ => ⟨y0, y1, ht1, ht2, ?_⟩) (fun h => absurd y1 h)
      refine loop_cat (homR f.2.1 x (f.2.2.1.getD y.toNat 0)) 0 (fun h => [(y, h)]) out 1 (fun _ _ => by simp) ?_ ?_
      · intro i out3 next3 i0 i1 hb hn3 _ _
        try dsimp only at hn3 ⊢
        exact cnd_d (fun _ => ⟨i0, i1, room_of (by simp only [List.length_cons, List.length_nil]; omega), by rw [inK64]; (try dsimp only); omega, hn3⟩) (fun h => absurd i1 h)
      · intro next3 _ _
        exact cnd_d (fun h => absurd h (Int.lt_irrefl _)) (fun _ => ⟨by rw [inK64]; (try dsimp only); omega, hn2⟩)
    · intro next2 _ _
      refine cnd_d (fun h => absurd h (Int.lt_irrefl _)) (fun _ => ?_)
      have hobj : [] ++ (tabN ((f.2.2.1.length : Nat) : Int).toNat fun y => (homR f.2.1 x (f.2.2.1.getD y.toNat 0)).flatMap fun h => [(y, h)]).flatten = fobjR f x := by
        rw [List.nil_append, Int.toNat_natCast]; rfl
      simp only [hobj]
      have hfm : ∀ i : Int, 0 ≤ i → i < (fobjR f x).length → (fobjR f x).getD i.toNat (0, 0) ∈ fobjR f x := fun i i0 i1 => getD_mem _ _ i0 i1
      have hend : fin1R f x = (clsNR (normR (repsR (fj2R f x (fobjR f x).length))) == 1) := rfl
      have hfj : ∀ i : Int, 0 ≤ i → fj2R f x (i + 1).toNat = fjR f x i ((fobjR f x).getD i.toNat (0, 0)) (fj2R f x i.toNat) (outR f.1 ((fobjR f x).getD i.toNat (0, 0)).1) := fun i i0 => by
        rw [show (i + 1).toNat = i.toNat + 1 by omega]
        show fjR f x (i.toNat : Nat) _ _ _ = _
        rw [Int.toNat_of_nonneg i0]
      have hidx : ∀ (p : Int × Int) (u : Int), idxPR (fobjR f x) (f.1.2.2.1.getD u.toNat 0, compR f.2.1 p.2 (f.2.2.2.getD u.toNat 0)) = fstepR f x p u := fun _ _ => rfl
      have hstep := @fstep_ok f F x
      refine ⟨by omega, by omega, ?_⟩
      generalize hO : fobjR f x = O at *
      refine loop_of (fun (s : ((Unit × (Unit × (Int × (Unit × Unit)))) × ((List (Int × Int)) × ((List Int) × Unit)))) => 0 ≤ s.1.2.2.1 ∧ s.1.2.2.1 ≤ O.length ∧ s.2.1 = O ∧ UfP s.2.2.1 ∧ s.2.2.1.length = O.length ∧ s.2.2.1 = fj2R f x s.1.2.2.1.toNat) (fun (s : ((Unit × (Unit × (Int × (Unit × Unit)))) × ((List (Int × Int)) × ((List Int) × Unit)))) => (O.length - s.1.2.2.1).toNat) ?_ ⟨by simp, by simp, rfl, num_uf, by unfold numR; rw [tabN_len]; simp, ?_⟩
      · rintro ⟨⟨_, _, i, _⟩, O2, j, _⟩ next3 ⟨i0, i1, hO2, U, hjl, hj⟩ hn3 _ _ _
        try dsimp only at i0 i1 hO2 U hjl hj hn3 ⊢
        subst hO2
        refine cnd_d (fun hc => ⟨i0, hc, hs1, ?_⟩) (fun hc => ?_)
        · have hpm := hfm i i0 hc
          have hfji := hfj i i0
          rw [← hj] at hfji
          generalize O2.getD i.toNat (0, 0) = p at *
          have hul : (outR f.1 p.1).length ≤ 40 := by
            have := @sel_len (fun g => f.1.2.1.getD g.toNat 0 == p.1) f.1.2.1.length
            unfold outR; omega
          refine loop_of (fun (s : ((Unit × (Unit × (Unit × (Int × (Unit × Unit))))) × ((List (Int × Int)) × ((List Int) × ((Int × Int) × Unit))))) => 0 ≤ s.1.2.2.2.1 ∧ s.1.2.2.2.1 ≤ (outR f.1 p.1).length ∧ s.2.1 = O2 ∧ UfP s.2.2.1 ∧ s.2.2.1.length = O2.length ∧ s.2.2.1 = fjR f x i p j ((outR f.1 p.1).take s.1.2.2.2.1.toNat) ∧ s.2.2.2.1 = p) (fun (s : ((Unit × (Unit × (Unit × (Int × (Unit × Unit))))) × ((List (Int × Int)) × ((List Int) × ((Int × Int) × Unit))))) => ((outR f.1 p.1).length - s.1.2.2.2.1).toNat) ?_ ⟨by simp, by simp, rfl, U, hjl, rfl, rfl⟩
          rintro ⟨⟨_, _, _, k, _⟩, O3, j2, p2, _⟩ next4 ⟨k0, k1, hO3, U2, hjl2, hj2, hp2⟩ hn4 _ _ _ _ _
          try dsimp only at k0 k1 hO3 U2 hjl2 hj2 hp2 hn4 ⊢
          subst hO3 hp2
          refine cnd_d (fun hc2 => ?_) (fun hc2 => ?_)
          · have hum := getD_mem _ 0 k0 hc2
            have hst := hstep hpm hum
            have hjs := @fj_s f x i p2 j (outR f.1 p2.1) k k0 hc2
            rw [← hj2] at hjs
            generalize (outR f.1 p2.1).getD k.toNat 0 = u at *
            obtain ⟨u0, u1, u2⟩ := out_mem.1 hum
            rw [← hO] at hpm
            obtain ⟨q0, q1, hq⟩ := fobj_mem.1 hpm
            obtain ⟨g0, g1, g2, g3⟩ := hom_mem.1 hq
            have hw := within_iff.1 F.fit.aw u u0 (by omega)
            have hrow := F.tgt.row _ g0 g1
            have hji := joinUf_ok U2 i0 (show i < j2.length by omega) hst.1 (show fstepR f x p2 u < j2.length by omega)
            refine ⟨k0, hc2, u0, by omega, u0, by omega, g0, by omega, hw.1, by omega, U2, i0, by omega, ?_⟩
            rw [hidx]
            refine ⟨hst.1, by omega, by rw [inK64]; (try dsimp only); omega, hn4 _ ⟨by dsimp only; omega, by dsimp only; omega, rfl, hji.1, by dsimp only; rw [hji.2.1, hjl2], hjs.symm, rfl⟩ (by dsimp only; omega)⟩
          · have e : k = (outR f.1 p2.1).length := by omega
            subst e
            rw [take_n _ (Int.le_refl _), ← hfji] at hj2
            exact ⟨by rw [inK64]; (try dsimp only); omega, hn3 _ ⟨by dsimp only; omega, by dsimp only; omega, rfl, U2, hjl2, hj2⟩ (by dsimp only; omega)⟩
        · have e : i = O2.length := by omega
          subst e
          rw [Int.toNat_natCast] at hj
          rw [← hj] at hend
          have hw := @norm_in (repsR j)
          rw [reps_len, hjl] at hw
          refine ⟨U, by omega, by rw [norm_len, reps_len]; omega, ?_, cnd_of (fun hx => ?_) (fun hx => ⟨by rw [inK64]; (try dsimp only); omega, hn (hgood ?_)⟩)⟩
          · exact within_iff.2 fun i i0 i1 => by have := within_iff.1 hw i i0 i1; omega
          · have : fin1R f x = false := by rw [hend]; simpa using hx
            simp only [c_impl_Functor_isFinal, hbad this]
          · rw [hend]; simpa using hx
      · show numR _ = numR _
        rw [hO]
  · intro next hP _
    refine cnd_d (fun h => absurd h (Int.lt_irrefl _)) (fun _ => ?_)
    simp only [c_impl_Functor_isFinal, finR, hP]
theorem ct_impl_Functor_isFinal : CtOk Try.prog 72 c_impl_Functor_isFinal :=
  ct_by (Φ := lkp [(88, c_impl_Category_hom), (87, c_impl_Category_outOf), (89, c_impl_Category_then), (123, c_impl_joiner_join), (125, c_impl_joiner_partition), (126, c_impl_partition_classes), (124, c_impl_index_impl_pair_int64), (122, c_impl_joinerOf)]) (good_cons ct_impl_Category_hom (good_cons ct_impl_Category_outOf (good_cons ct_impl_Category_then (good_cons ct_impl_joiner_join (good_cons ct_impl_joiner_partition (good_cons ct_impl_partition_classes (good_cons ct_impl_index_impl_pair_int64 (good_cons ct_impl_joinerOf good_nil)))))))) tab_ok (by kernel_rfl) (fn := Try.f72) (c := bodyOf Try.f72) (by kernel_rfl) (by kernel_rfl) (by kernel_rfl) c_impl_Functor_isFinal rfl (.s .n (.s .n (.s (.s .n (.l [(5, (.d (.int .i64)))] [] [0, 3, 4] (.s .n (.s (.s .n (.s (.s .n (.l [(6, (.ref 800006 [])), (36, (.d (.int .i64)))] [(800006, (.sl (.fz (.p (.int .i64) (.int .i64)))))] [0, 3, 4, 5, 34, 35] (.s .n (.s .n (.s (.s .n (.s .n (.l [(6, (.ref 800006 [])), (46, (.d (.int .i64)))] [(800006, (.sl (.fz (.p (.int .i64) (.int .i64)))))] [0, 3, 4, 5, 7, 34, 35, 36, 44, 45] .n))) .n))))) (.s .n (.s (.s .n (.l [(6, (.ref 800006 [])), (11, (.ref 106000 [])), (63, (.d (.int .i64))), (61, (.ref 800006 []))] [(800006, (.sl (.fz (.p (.int .i64) (.int .i64))))), (106000, (.sl (.fz (.int .i64))))] [0, 3, 4, 5, 62] (.s .n (.s .n (.s (.s .n (.s .n (.l [(6, (.ref 800006 [])), (11, (.ref 106000 [])), (13, (.ad 13 [.de])), (73, (.d (.int .i64))), (61, (.ref 800006 []))] [(800006, (.sl (.fz (.p (.int .i64) (.int .i64))))), (106000, (.sl (.fz (.int .i64)))), (13, (.pt (.fz (.p (.int .i64) (.int .i64)))))] [0, 3, 4, 5, 12, 62, 63, 71, 72] .n))) .n))))) .n)))) .n)))) .n))) (cutL [(1, 7), (22, 521)]) (by kernel_rfl) (by kernel_rfl) k_impl_Functor_isFinal (by decide) (fun x K => W_impl_Functor_isFinal x.1 K) w_impl_Functor_isFinal (fun x h1 h2 => m_impl_Functor_isFinal x.1 h1 h2)
def c_spec_l01Map : Ct := ⟨[(.int .i64), (.sl (.int .i64))], [false, false], fun x => [], [(false, (.fz .bool))], fun x => (withinR x.2.1 x.1, ()), false, none⟩
def W_spec_l01Map (n : Int) (f : List Int) (K : Bool × Unit → Prop) : Prop := (loopW (S := ((Int × Unit) × Unit)) (fun s => (fun next => ((inK IntKind.i64 s.1.1) → (cnd (decide (s.1.1 < (((List.length f) : Nat) : Int))) (((0 : Int) ≤ s.1.1) ∧ ((s.1.1 < (((List.length f) : Nat) : Int)) ∧ ((((decide ((List.getD f (Int.toNat s.1.1) (0 : Int)) < (0 : Int))) = Bool.false) → ((s.1.1 < (((List.length f) : Nat) : Int)) ∧ ((0 : Int) ≤ s.1.1))) ∧ (cnd ((decide ((List.getD f (Int.toNat s.1.1) (0 : Int)) < (0 : Int))) || (decide (n ≤ (List.getD f (Int.toNat s.1.1) (0 : Int))))) (K (Bool.false, ())) ((inK IntKind.i64 (s.1.1 + (1 : Int))) ∧ (next (((s.1.1 + (1 : Int)), ()), ()))))))) (K (Bool.true, ())))))) (((0 : Int), ()), ()))
theorem w_spec_l01Map (x : denL c_spec_l01Map.args) (K : Bool × Unit → Prop) : evF tab (lkp []) (cutL []) Try.f81 (bodyOf Try.f81) (.s .n (.s (.s .n (.l [(5, (.d (.int .i64)))] [] [0, 1] .n)) .n)) c_spec_l01Map x K = W_spec_l01Map x.1 x.2.1 K := by kernel_rfl
theorem k_spec_l01Map : okC Try.f81.ntmps (cutL []) (bodyOf Try.f81) = true := by kernel_rfl
theorem m_spec_l01Map (n : Int) (f : List Int) (hok : allP (okL c_spec_l01Map.args (n, f, ()))) (hpre : allP (c_spec_l01Map.pre (n, f, ()))) : W_spec_l01Map n f (fun r => r = c_spec_l01Map.res (n, f, ())) := by
  simp only [c_spec_l01Map, okL, T.oks, T.ok, ap, allP, true_and, and_true, implies_true] at hok hpre
  try dsimp only [T.den] at hok
  try dsimp only [T.den] at hpre
  unfold W_spec_l01Map
  refine loop_of (fun (s : ((Int × Unit) × Unit)) => 0 ≤ s.1.1 ∧ s.1.1 ≤ f.length ∧ withinR f n = withinR (f.drop s.1.1.toNat) n) (fun (s : ((Int × Unit) × Unit)) => (f.length - s.1.1).toNat) ?_ (by simp)
  rintro ⟨⟨i, _⟩, _⟩ next ⟨h0, h1, h2⟩ hn hin
  simp only at h0 h1 h2 hn ⊢
  refine cnd_d (fun hc => ?_) (fun hc => ?_)
  · rw [drop_c f 0 h0 hc] at h2
    simp only [withinR, List.all_cons] at h2
    grind [cnd, nb_eq, inK64, c_spec_l01Map, withinR, inR]
  · rw [drop_n f (by omega)] at h2
    grind [cnd, nb_eq, inK64, c_spec_l01Map, withinR]
theorem ct_spec_l01Map : CtOk Try.prog 81 c_spec_l01Map :=
  ct_by (Φ := lkp []) good_nil tab_ok (by kernel_rfl) (fn := Try.f81) (c := bodyOf Try.f81) (by kernel_rfl) (by kernel_rfl) (by kernel_rfl) c_spec_l01Map rfl (.s .n (.s (.s .n (.l [(5, (.d (.int .i64)))] [] [0, 1] .n)) .n)) (cutL []) (by kernel_rfl) (by kernel_rfl) k_spec_l01Map (by decide) (fun x K => W_spec_l01Map x.1 x.2.1 K) w_spec_l01Map (fun x h1 h2 => m_spec_l01Map x.1 x.2.1 h1 h2)
def c_spec_l01In : Ct := ⟨[(.int .i64), (.int .i64), (.int .i64)], [false, false, false], fun x => [], [(false, (.fz .bool))], fun x => (inR x.1 x.2.1 x.2.2.1, ()), false, none⟩
def W_spec_l01In (n : Int) (low : Int) (high : Int) (K : Bool × Unit → Prop) : Prop := (K (((decide (low ≤ n)) && (decide (n ≤ high))), ()))
theorem w_spec_l01In (x : denL c_spec_l01In.args) (K : Bool × Unit → Prop) : evF tab (lkp []) (cutL []) Try.f127 (bodyOf Try.f127) .n c_spec_l01In x K = W_spec_l01In x.1 x.2.1 x.2.2.1 K := by kernel_rfl
theorem k_spec_l01In : okC Try.f127.ntmps (cutL []) (bodyOf Try.f127) = true := by kernel_rfl
theorem m_spec_l01In (n : Int) (low : Int) (high : Int) (hok : allP (okL c_spec_l01In.args (n, low, high, ()))) (hpre : allP (c_spec_l01In.pre (n, low, high, ()))) : W_spec_l01In n low high (fun r => r = c_spec_l01In.res (n, low, high, ())) := by
  simp only [c_spec_l01In, okL, T.oks, T.ok, ap, allP, true_and, and_true, implies_true] at hok hpre
  try dsimp only [T.den] at hok
  try dsimp only [T.den] at hpre
  unfold W_spec_l01In
  grind [cnd, nb_eq, inK64, c_spec_l01In, inR]
theorem ct_spec_l01In : CtOk Try.prog 127 c_spec_l01In :=
  ct_by (Φ := lkp []) good_nil tab_ok (by kernel_rfl) (fn := Try.f127) (c := bodyOf Try.f127) (by kernel_rfl) (by kernel_rfl) (by kernel_rfl) c_spec_l01In rfl .n (cutL []) (by kernel_rfl) (by kernel_rfl) k_spec_l01In (by decide) (fun x K => W_spec_l01In x.1 x.2.1 x.2.2.1 K) w_spec_l01In (fun x h1 h2 => m_spec_l01In x.1 x.2.1 x.2.2.1 h1 h2)
def c_spec_l02Ends : Ct := ⟨[(.sl (.int .i64)), (.int .i64), (.int .i64)], [false, false, false], fun x => [], [(false, (.fz .bool))], fun x => ((decide ((x.1.length : Int) = x.2.1) && withinR x.1 x.2.2.1), ()), false, none⟩
def W_spec_l02Ends (list : List Int) (length : Int) (objects : Int) (K : Bool × Unit → Prop) : Prop := (K ((((((List.length list) : Nat) : Int) == length) && (withinR list objects)), ()))
theorem w_spec_l02Ends (x : denL c_spec_l02Ends.args) (K : Bool × Unit → Prop) : evF tab (lkp [(81, c_spec_l01Map)]) (cutL []) Try.f135 (bodyOf Try.f135) .n c_spec_l02Ends x K = W_spec_l02Ends x.1 x.2.1 x.2.2.1 K := by kernel_rfl
theorem k_spec_l02Ends : okC Try.f135.ntmps (cutL []) (bodyOf Try.f135) = true := by kernel_rfl
theorem m_spec_l02Ends (list : List Int) (length : Int) (objects : Int) (hok : allP (okL c_spec_l02Ends.args (list, length, objects, ()))) (hpre : allP (c_spec_l02Ends.pre (list, length, objects, ()))) : W_spec_l02Ends list length objects (fun r => r = c_spec_l02Ends.res (list, length, objects, ())) := by
  simp only [c_spec_l02Ends, okL, T.oks, T.ok, ap, allP, true_and, and_true, implies_true] at hok hpre
  try dsimp only [T.den] at hok
  try dsimp only [T.den] at hpre
  unfold W_spec_l02Ends
  have : ((list.length : Int) == length) = decide ((list.length : Int) = length) := rfl
  simp only [c_spec_l02Ends, this]
theorem ct_spec_l02Ends : CtOk Try.prog 135 c_spec_l02Ends :=
  ct_by (Φ := lkp [(81, c_spec_l01Map)]) (good_cons ct_spec_l01Map good_nil) tab_ok (by kernel_rfl) (fn := Try.f135) (c := bodyOf Try.f135) (by kernel_rfl) (by kernel_rfl) (by kernel_rfl) c_spec_l02Ends rfl .n (cutL []) (by kernel_rfl) (by kernel_rfl) k_spec_l02Ends (by decide) (fun x K => W_spec_l02Ends x.1 x.2.1 x.2.2.1 K) w_spec_l02Ends (fun x h1 h2 => m_spec_l02Ends x.1 x.2.1 x.2.2.1 h1 h2)
def c_spec_IsShape : Ct := ⟨[CategoryT], [true], fun x => [], [(false, (.fz .bool))], fun x => (shapeR x.1, ()), false, none⟩
def W_spec_IsShape (c : CategoryD) (K : Bool × Unit → Prop) : Prop := (cnd (((((!(inR c.1 (0 : Int) (8 : Int))) || (decide ((40 : Int) < (((List.length c.2.1) : Nat) : Int)))) || (!((decide ((((List.length c.2.1) : Nat) : Int) = (((List.length c.2.1) : Nat) : Int))) && (withinR c.2.1 c.1)))) || (!((decide ((((List.length c.2.2.1) : Nat) : Int) = (((List.length c.2.1) : Nat) : Int))) && (withinR c.2.2.1 c.1)))) || ((((List.length c.2.2.2.2) : Nat) : Int) != (((List.length c.2.1) : Nat) : Int))) (K (Bool.false, ())) (cnd (((((List.length c.2.2.2.1) : Nat) : Int) != c.1) || (!(withinR c.2.2.2.1 (((List.length c.2.1) : Nat) : Int)))) (K (Bool.false, ())) (loopW (S := ((Int × Unit) × Unit)) (fun s => (fun next => ((inK IntKind.i64 s.1.1) → (cnd (decide (s.1.1 < c.1)) (((0 : Int) ≤ s.1.1) ∧ ((s.1.1 < (((List.length c.2.2.2.1) : Nat) : Int)) ∧ (((0 : Int) ≤ (List.getD c.2.2.2.1 (Int.toNat s.1.1) (0 : Int))) ∧ (((List.getD c.2.2.2.1 (Int.toNat s.1.1) (0 : Int)) < (((List.length c.2.1) : Nat) : Int)) ∧ (((((List.getD c.2.1 (Int.toNat (List.getD c.2.2.2.1 (Int.toNat s.1.1) (0 : Int))) (0 : Int)) != s.1.1) = Bool.false) → ((s.1.1 < (((List.length c.2.2.2.1) : Nat) : Int)) ∧ ((0 : Int) ≤ s.1.1))) ∧ (((((List.getD c.2.1 (Int.toNat (List.getD c.2.2.2.1 (Int.toNat s.1.1) (0 : Int))) (0 : Int)) != s.1.1) = Bool.false) → (((List.getD c.2.2.2.1 (Int.toNat s.1.1) (0 : Int)) < (((List.length c.2.2.1) : Nat) : Int)) ∧ ((0 : Int) ≤ (List.getD c.2.2.2.1 (Int.toNat s.1.1) (0 : Int))))) ∧ (cnd (((List.getD c.2.1 (Int.toNat (List.getD c.2.2.2.1 (Int.toNat s.1.1) (0 : Int))) (0 : Int)) != s.1.1) || ((List.getD c.2.2.1 (Int.toNat (List.getD c.2.2.2.1 (Int.toNat s.1.1) (0 : Int))) (0 : Int)) != s.1.1)) (K (Bool.false, ())) ((inK IntKind.i64 (s.1.1 + (1 : Int))) ∧ (next (((s.1.1 + (1 : Int)), ()), ())))))))))) (loopW (S := ((Int × Unit) × Unit)) (fun s1 => (fun next1 => ((inK IntKind.i64 s1.1.1) → (cnd (decide (s1.1.1 < (((List.length c.2.1) : Nat) : Int))) (((0 : Int) ≤ s1.1.1) ∧ ((s1.1.1 < (((List.length c.2.2.2.2) : Nat) : Int)) ∧ (cnd ((((List.length (List.getD c.2.2.2.2 (Int.toNat s1.1.1) ([] : List Int))) : Nat) : Int) != (((List.length c.2.1) : Nat) : Int)) (K (Bool.false, ())) (loopW (S := ((Int × Unit) × Unit)) (fun s2 => (fun next2 => ((inK IntKind.i64 s2.1.1) → (cnd (decide (s2.1.1 < (((List.length c.2.1) : Nat) : Int))) (joinW (S := (Unit × Unit)) (fun s3 => ((inK IntKind.i64 (s2.1.1 + (1 : Int))) ∧ (next2 (((s2.1.1 + (1 : Int)), ()), ())))) (fun k => (((0 : Int) ≤ s1.1.1) ∧ ((s1.1.1 < (((List.length c.2.2.2.2) : Nat) : Int)) ∧ (((0 : Int) ≤ s2.1.1) ∧ ((s2.1.1 < (((List.length (List.getD c.2.2.2.2 (Int.toNat s1.1.1) ([] : List Int))) : Nat) : Int)) ∧ (((0 : Int) ≤ s1.1.1) ∧ ((s1.1.1 < (((List.length c.2.2.1) : Nat) : Int)) ∧ (((0 : Int) ≤ s2.1.1) ∧ ((s2.1.1 < (((List.length c.2.1) : Nat) : Int)) ∧ (cnd ((List.getD c.2.2.1 (Int.toNat s1.1.1) (0 : Int)) != (List.getD c.2.1 (Int.toNat s2.1.1) (0 : Int))) (cnd ((List.getD (List.getD c.2.2.2.2 (Int.toNat s1.1.1) ([] : List Int)) (Int.toNat s2.1.1) (0 : Int)) != (-(1 : Int))) (K (Bool.false, ())) (k ((), ()))) (((((decide ((List.getD (List.getD c.2.2.2.2 (Int.toNat s1.1.1) ([] : List Int)) (Int.toNat s2.1.1) (0 : Int)) < (0 : Int))) || (decide ((((List.length c.2.1) : Nat) : Int) ≤ (List.getD (List.getD c.2.2.2.2 (Int.toNat s1.1.1) ([] : List Int)) (Int.toNat s2.1.1) (0 : Int))))) = Bool.false) → (((List.getD (List.getD c.2.2.2.2 (Int.toNat s1.1.1) ([] : List Int)) (Int.toNat s2.1.1) (0 : Int)) < (((List.length c.2.1) : Nat) : Int)) ∧ ((0 : Int) ≤ (List.getD (List.getD c.2.2.2.2 (Int.toNat s1.1.1) ([] : List Int)) (Int.toNat s2.1.1) (0 : Int))))) ∧ (((((decide ((List.getD (List.getD c.2.2.2.2 (Int.toNat s1.1.1) ([] : List Int)) (Int.toNat s2.1.1) (0 : Int)) < (0 : Int))) || (decide ((((List.length c.2.1) : Nat) : Int) ≤ (List.getD (List.getD c.2.2.2.2 (Int.toNat s1.1.1) ([] : List Int)) (Int.toNat s2.1.1) (0 : Int))))) = Bool.false) → ((s1.1.1 < (((List.length c.2.1) : Nat) : Int)) ∧ ((0 : Int) ≤ s1.1.1))) ∧ ((((((decide ((List.getD (List.getD c.2.2.2.2 (Int.toNat s1.1.1) ([] : List Int)) (Int.toNat s2.1.1) (0 : Int)) < (0 : Int))) || (decide ((((List.length c.2.1) : Nat) : Int) ≤ (List.getD (List.getD c.2.2.2.2 (Int.toNat s1.1.1) ([] : List Int)) (Int.toNat s2.1.1) (0 : Int))))) || ((List.getD c.2.1 (Int.toNat (List.getD (List.getD c.2.2.2.2 (Int.toNat s1.1.1) ([] : List Int)) (Int.toNat s2.1.1) (0 : Int))) (0 : Int)) != (List.getD c.2.1 (Int.toNat s1.1.1) (0 : Int)))) = Bool.false) → (((List.getD (List.getD c.2.2.2.2 (Int.toNat s1.1.1) ([] : List Int)) (Int.toNat s2.1.1) (0 : Int)) < (((List.length c.2.2.1) : Nat) : Int)) ∧ ((0 : Int) ≤ (List.getD (List.getD c.2.2.2.2 (Int.toNat s1.1.1) ([] : List Int)) (Int.toNat s2.1.1) (0 : Int))))) ∧ ((((((decide ((List.getD (List.getD c.2.2.2.2 (Int.toNat s1.1.1) ([] : List Int)) (Int.toNat s2.1.1) (0 : Int)) < (0 : Int))) || (decide ((((List.length c.2.1) : Nat) : Int) ≤ (List.getD (List.getD c.2.2.2.2 (Int.toNat s1.1.1) ([] : List Int)) (Int.toNat s2.1.1) (0 : Int))))) || ((List.getD c.2.1 (Int.toNat (List.getD (List.getD c.2.2.2.2 (Int.toNat s1.1.1) ([] : List Int)) (Int.toNat s2.1.1) (0 : Int))) (0 : Int)) != (List.getD c.2.1 (Int.toNat s1.1.1) (0 : Int)))) = Bool.false) → ((s2.1.1 < (((List.length c.2.2.1) : Nat) : Int)) ∧ ((0 : Int) ≤ s2.1.1))) ∧ (cnd ((((decide ((List.getD (List.getD c.2.2.2.2 (Int.toNat s1.1.1) ([] : List Int)) (Int.toNat s2.1.1) (0 : Int)) < (0 : Int))) || (decide ((((List.length c.2.1) : Nat) : Int) ≤ (List.getD (List.getD c.2.2.2.2 (Int.toNat s1.1.1) ([] : List Int)) (Int.toNat s2.1.1) (0 : Int))))) || ((List.getD c.2.1 (Int.toNat (List.getD (List.getD c.2.2.2.2 (Int.toNat s1.1.1) ([] : List Int)) (Int.toNat s2.1.1) (0 : Int))) (0 : Int)) != (List.getD c.2.1 (Int.toNat s1.1.1) (0 : Int)))) || ((List.getD c.2.2.1 (Int.toNat (List.getD (List.getD c.2.2.2.2 (Int.toNat s1.1.1) ([] : List Int)) (Int.toNat s2.1.1) (0 : Int))) (0 : Int)) != (List.getD c.2.2.1 (Int.toNat s2.1.1) (0 : Int)))) (K (Bool.false, ())) (k ((), ())))))))))))))))))) ((inK IntKind.i64 (s1.1.1 + (1 : Int))) ∧ (next1 (((s1.1.1 + (1 : Int)), ()), ()))))))) (((0 : Int), ()), ()))))) (K (Bool.true, ())))))) (((0 : Int), ()), ())))))) (((0 : Int), ()), ()))))
theorem w_spec_IsShape (x : denL c_spec_IsShape.args) (K : Bool × Unit → Prop) : evF tab (lkp [(127, c_spec_l01In), (81, c_spec_l01Map), (135, c_spec_l02Ends)]) (cutL [(20, 11), (23, 33), (9, 24)]) Try.f96 (bodyOf Try.f96) (.s .n (.s .n (.s .n (.s .n (.s (.s .n (.l [(4, (.d (.int .i64)))] [] [1, 3] .n)) (.s (.s .n (.l [(5, (.d (.int .i64)))] [] [1, 3] (.s .n (.s (.s .n (.s .n (.l [(6, (.d (.int .i64)))] [] [1, 3, 5] (.s .n (.s (.j [] [] [1, 3, 5, 6] .n) .n))))) .n)))) .n)))))) c_spec_IsShape x K = W_spec_IsShape x.1 K := by kernel_rfl
theorem k_spec_IsShape : okC Try.f96.ntmps (cutL [(20, 11), (23, 33), (9, 24)]) (bodyOf Try.f96) = true := by kernel_rfl
theorem m_spec_IsShape (c : CategoryD) (hok : allP (okL c_spec_IsShape.args (c, ()))) (hpre : allP (c_spec_IsShape.pre (c, ()))) : W_spec_IsShape c (fun r => r = c_spec_IsShape.res (c, ())) := by
  simp only [c_spec_IsShape, okL, T.oks, T.ok, ap, allP, true_and, and_true, implies_true] at hok hpre
  try dsimp only [T.den] at hok
  try dsimp only [T.den] at hpre
  unfold W_spec_IsShape
  have bad : ¬ ShapeP c → (false, ()) = c_spec_IsShape.res (c, ()) := fun h => by simp only [c_spec_IsShape]; rw [shape_f h]
  refine cnd_of (fun hc => bad fun h => ?_) (fun hc => cnd_of (fun hd => bad fun h => ?_) (fun hd => ?_))
  · have h1 := h.ob; have h2 := h.m; have h3 := h.lt; have h4 := h.fr; have h5 := h.to; have h6 := h.lc; simp only [inR] at hc; grind [cnd, nb_eq, inK64]
  · have h1 := h.li; have h2 := h.ids; grind [cnd, nb_eq, inK64]
  simp only [inR, Bool.or_eq_false_iff, Bool.not_eq_false', Bool.and_eq_true, decide_eq_true_eq, decide_eq_false_iff_not, bne_eq_false_iff_eq] at hc hd
  obtain ⟨⟨⟨⟨hob, hm⟩, _, hfr⟩, hlt, hto⟩, hlc⟩ := hc
  obtain ⟨hli, hids⟩ := hd
  refine loop_ix (n := c.1) (fun x => ∀ y : Int, 0 ≤ y → y < x → c.2.1.getD (c.2.2.2.1.getD y.toNat 0).toNat 0 = y ∧ c.2.2.1.getD (c.2.2.2.1.getD y.toNat 0).toNat 0 = y) (by omega) (by intro y h0 h1; omega) ?_ ?_
  · intro x next h0 h1 hP hn hin
    have hb := within_iff.1 hids x h0 (by omega)
    try dsimp only
    refine cnd_d (fun _ => ⟨h0, by omega, hb.1, hb.2, fun _ => by omega, fun _ => by omega, cnd_of (fun hx => bad fun h => ?_) (fun hx => ?_)⟩) (fun h => absurd h1 h)
    · have := h.idt x h0 (by omega)
      rw [this.1, this.2] at hx
      simp at hx
    · simp only [Bool.or_eq_false_iff, bne_eq_false_iff_eq] at hx
      refine ⟨by rw [inK64]; (try dsimp only); omega, hn fun y y0 y1 => ?_⟩
      by_cases e : y = x
      · rw [e]; exact hx
      · exact hP y y0 (by omega)
  intro next hidt hin
  refine cnd_d (fun h => absurd h (by dsimp only; omega)) (fun _ => ?_)
  refine loop_ix (n := c.2.1.length) (fun f => ∀ f' : Int, 0 ≤ f' → f' < f → (c.2.2.2.2.getD f'.toNat []).length = c.2.1.length ∧ ∀ g : Int, 0 ≤ g → g < c.2.1.length → cellR c f' g = true) (by omega) (by intro y h0 h1; omega) ?_ ?_
  · intro f next h0 h1 hP hn hin
    try dsimp only
    refine cnd_d (fun _ => ⟨h0, by omega, cnd_of (fun hx => bad fun h => ?_) (fun hx => ?_)⟩) (fun h => absurd h1 h)
    · have := h.row f h0 (by omega)
      rw [this] at hx
      simp at hx
    simp only [bne_eq_false_iff_eq] at hx
    refine loop_ix (n := c.2.1.length) (fun g => ∀ g' : Int, 0 ≤ g' → g' < g → cellR c f g' = true) (by omega) (by intro y h0 h1; omega) ?_ ?_
    · intro g next3 g0 g1 hP3 hn3 hin3
      try dsimp only
      refine cnd_d (fun _ => ?_) (fun h => absurd g1 h)
      refine join_of (fun _ => cellR c f g = true) (fun _ hcell => ⟨by rw [inK64]; (try dsimp only); omega, hn3 fun g' y0 y1 => ?_⟩) (fun k hk => ?_)
      · by_cases e : g' = g
        · rw [e]; exact hcell
        · exact hP3 g' y0 (by omega)
      have hcell : ∀ b, cellR c f g = b → b = false → ¬ ShapeP c := fun b h1 h2 h => by
        have := h.cell f g h0 (by omega) g0 (by omega)
        rw [h1, h2] at this; cases this
      have hk' := hk ((), ())
      obtain ⟨v, hv⟩ : ∃ v, (c.2.2.2.2.getD f.toNat []).getD g.toNat 0 = v := ⟨_, rfl⟩
      have hR : cellR c f g = cellQ c f g v := by unfold cellR compR; rw [hv]
      rw [hR] at hk'
      rw [hR] at hcell
      rw [hv]
      clear hP3 hn3 hP hn hk hR hv hidt hok
      refine ⟨h0, by omega, g0, by omega, h0, by omega, g0, by omega, cnd_of (fun ha => cnd_of (fun hb => bad ?_) (fun hb => hk' ?_)) (fun ha => ⟨fun hv => ?_, fun _ => ⟨by omega, h0⟩, fun hv => ?_, fun _ => ⟨by omega, g0⟩, cnd_of (fun hb => bad ?_) (fun hb => hk' ?_)⟩)⟩
      · exact hcell _ rfl (by grind [cnd, nb_eq, inK64, cellQ])
      · grind [cnd, nb_eq, inK64, cellQ]
      · simp only [Bool.or_eq_false_iff, decide_eq_false_iff_not] at hv; omega
      · simp only [Bool.or_eq_false_iff, decide_eq_false_iff_not] at hv; omega
      · exact hcell _ rfl (by grind [cnd, nb_eq, inK64, cellQ])
      · grind [cnd, nb_eq, inK64, cellQ]
    · intro next3 hP3 hin3
      refine cnd_d (fun h => absurd h (by dsimp only; omega)) (fun _ => ⟨by rw [inK64]; (try dsimp only); omega, hn fun f' y0 y1 => ?_⟩)
      by_cases e : f' = f
      · rw [e]; exact ⟨by omega, fun g g0 g1 => hP3 g g0 (by omega)⟩
      · exact hP f' y0 (by omega)
  · intro next2 hP2 hin2
    refine cnd_d (fun h => absurd h (by dsimp only; omega)) (fun _ => ?_)
    simp only [c_spec_IsShape]
    rw [shape_t ⟨hob, by omega, by omega, hfr, hto, by omega, hids, by omega, fun x a b => hidt x a (by omega), fun f a b => (hP2 f a (by omega)).1, fun f g a b d e => (hP2 f a (by omega)).2 g d e⟩]
theorem ct_spec_IsShape : CtOk Try.prog 96 c_spec_IsShape :=
  ct_by (Φ := lkp [(127, c_spec_l01In), (81, c_spec_l01Map), (135, c_spec_l02Ends)]) (good_cons ct_spec_l01In (good_cons ct_spec_l01Map (good_cons ct_spec_l02Ends good_nil))) tab_ok (by kernel_rfl) (fn := Try.f96) (c := bodyOf Try.f96) (by kernel_rfl) (by kernel_rfl) (by kernel_rfl) c_spec_IsShape rfl (.s .n (.s .n (.s .n (.s .n (.s (.s .n (.l [(4, (.d (.int .i64)))] [] [1, 3] .n)) (.s (.s .n (.l [(5, (.d (.int .i64)))] [] [1, 3] (.s .n (.s (.s .n (.s .n (.l [(6, (.d (.int .i64)))] [] [1, 3, 5] (.s .n (.s (.j [] [] [1, 3, 5, 6] .n) .n))))) .n)))) .n)))))) (cutL [(20, 11), (23, 33), (9, 24)]) (by kernel_rfl) (by kernel_rfl) k_spec_IsShape (by decide) (fun x K => W_spec_IsShape x.1 K) w_spec_IsShape (fun x h1 h2 => m_spec_IsShape x.1 h1 h2)
def c_spec_l02Fault : Ct := ⟨[CategoryT], [true], fun x => [ShapeP x.1], [(false, (.fz (.int .i64))), (false, (.fz (.int .i64))), (false, (.fz (.int .i64))), (false, (.fz (.int .i64)))], fun x => ((faultR x.1).1, (faultR x.1).2.1, (faultR x.1).2.2.1, (faultR x.1).2.2.2, ()), false, none⟩
def W_spec_l02Fault (c : CategoryD) (K : Int × Int × Int × Int × Unit → Prop) : Prop := (loopW (S := ((Int × Unit) × Unit)) (fun s => (fun next => ((inK IntKind.i64 s.1.1) → (cnd (decide (s.1.1 < (((List.length c.2.1) : Nat) : Int))) (((0 : Int) ≤ s.1.1) ∧ ((s.1.1 < (((List.length c.2.1) : Nat) : Int)) ∧ (((0 : Int) ≤ (List.getD c.2.1 (Int.toNat s.1.1) (0 : Int))) ∧ (((List.getD c.2.1 (Int.toNat s.1.1) (0 : Int)) < (((List.length c.2.2.2.1) : Nat) : Int)) ∧ (((0 : Int) ≤ (List.getD c.2.2.2.1 (Int.toNat (List.getD c.2.1 (Int.toNat s.1.1) (0 : Int))) (0 : Int))) ∧ (((List.getD c.2.2.2.1 (Int.toNat (List.getD c.2.1 (Int.toNat s.1.1) (0 : Int))) (0 : Int)) < (((List.length c.2.2.2.2) : Nat) : Int)) ∧ (((0 : Int) ≤ s.1.1) ∧ ((s.1.1 < (((List.length (List.getD c.2.2.2.2 (Int.toNat (List.getD c.2.2.2.1 (Int.toNat (List.getD c.2.1 (Int.toNat s.1.1) (0 : Int))) (0 : Int))) ([] : List Int))) : Nat) : Int)) ∧ (((((List.getD (List.getD c.2.2.2.2 (Int.toNat (List.getD c.2.2.2.1 (Int.toNat (List.getD c.2.1 (Int.toNat s.1.1) (0 : Int))) (0 : Int))) ([] : List Int)) (Int.toNat s.1.1) (0 : Int)) != s.1.1) = Bool.false) → ((s.1.1 < (((List.length c.2.2.2.2) : Nat) : Int)) ∧ ((0 : Int) ≤ s.1.1))) ∧ (((((List.getD (List.getD c.2.2.2.2 (Int.toNat (List.getD c.2.2.2.1 (Int.toNat (List.getD c.2.1 (Int.toNat s.1.1) (0 : Int))) (0 : Int))) ([] : List Int)) (Int.toNat s.1.1) (0 : Int)) != s.1.1) = Bool.false) → ((s.1.1 < (((List.length c.2.2.1) : Nat) : Int)) ∧ ((0 : Int) ≤ s.1.1))) ∧ (((((List.getD (List.getD c.2.2.2.2 (Int.toNat (List.getD c.2.2.2.1 (Int.toNat (List.getD c.2.1 (Int.toNat s.1.1) (0 : Int))) (0 : Int))) ([] : List Int)) (Int.toNat s.1.1) (0 : Int)) != s.1.1) = Bool.false) → (((List.getD c.2.2.1 (Int.toNat s.1.1) (0 : Int)) < (((List.length c.2.2.2.1) : Nat) : Int)) ∧ ((0 : Int) ≤ (List.getD c.2.2.1 (Int.toNat s.1.1) (0 : Int))))) ∧ (((((List.getD (List.getD c.2.2.2.2 (Int.toNat (List.getD c.2.2.2.1 (Int.toNat (List.getD c.2.1 (Int.toNat s.1.1) (0 : Int))) (0 : Int))) ([] : List Int)) (Int.toNat s.1.1) (0 : Int)) != s.1.1) = Bool.false) → (((List.getD c.2.2.2.1 (Int.toNat (List.getD c.2.2.1 (Int.toNat s.1.1) (0 : Int))) (0 : Int)) < (((List.length (List.getD c.2.2.2.2 (Int.toNat s.1.1) ([] : List Int))) : Nat) : Int)) ∧ ((0 : Int) ≤ (List.getD c.2.2.2.1 (Int.toNat (List.getD c.2.2.1 (Int.toNat s.1.1) (0 : Int))) (0 : Int))))) ∧ (cnd (((List.getD (List.getD c.2.2.2.2 (Int.toNat (List.getD c.2.2.2.1 (Int.toNat (List.getD c.2.1 (Int.toNat s.1.1) (0 : Int))) (0 : Int))) ([] : List Int)) (Int.toNat s.1.1) (0 : Int)) != s.1.1) || ((List.getD (List.getD c.2.2.2.2 (Int.toNat s.1.1) ([] : List Int)) (Int.toNat (List.getD c.2.2.2.1 (Int.toNat (List.getD c.2.2.1 (Int.toNat s.1.1) (0 : Int))) (0 : Int))) (0 : Int)) != s.1.1)) (K ((1 : Int), (s.1.1, ((0 : Int), ((0 : Int), ()))))) ((inK IntKind.i64 (s.1.1 + (1 : Int))) ∧ (next (((s.1.1 + (1 : Int)), ()), ())))))))))))))))) (loopW (S := ((Int × Unit) × Unit)) (fun s1 => (fun next1 => ((inK IntKind.i64 s1.1.1) → (cnd (decide (s1.1.1 < (((List.length c.2.1) : Nat) : Int))) (loopW (S := ((Int × Unit) × Unit)) (fun s2 => (fun next2 => ((inK IntKind.i64 s2.1.1) → (cnd (decide (s2.1.1 < (((List.length c.2.1) : Nat) : Int))) (joinW (S := (Unit × Unit)) (fun s3 => ((inK IntKind.i64 (s2.1.1 + (1 : Int))) ∧ (next2 (((s2.1.1 + (1 : Int)), ()), ())))) (fun k => (((0 : Int) ≤ s1.1.1) ∧ ((s1.1.1 < (((List.length c.2.2.1) : Nat) : Int)) ∧ (((0 : Int) ≤ s2.1.1) ∧ ((s2.1.1 < (((List.length c.2.1) : Nat) : Int)) ∧ (cnd ((List.getD c.2.2.1 (Int.toNat s1.1.1) (0 : Int)) != (List.getD c.2.1 (Int.toNat s2.1.1) (0 : Int))) (k ((), ())) (loopW (S := ((Int × Unit) × Unit)) (fun s3 => (fun next3 => ((inK IntKind.i64 s3.1.1) → (cnd (decide (s3.1.1 < (((List.length c.2.1) : Nat) : Int))) (((0 : Int) ≤ s2.1.1) ∧ ((s2.1.1 < (((List.length c.2.2.1) : Nat) : Int)) ∧ (((0 : Int) ≤ s3.1.1) ∧ ((s3.1.1 < (((List.length c.2.1) : Nat) : Int)) ∧ (((((List.getD c.2.2.1 (Int.toNat s2.1.1) (0 : Int)) == (List.getD c.2.1 (Int.toNat s3.1.1) (0 : Int))) = Bool.true) → ((s1.1.1 < (((List.length c.2.2.2.2) : Nat) : Int)) ∧ ((0 : Int) ≤ s1.1.1))) ∧ (((((List.getD c.2.2.1 (Int.toNat s2.1.1) (0 : Int)) == (List.getD c.2.1 (Int.toNat s3.1.1) (0 : Int))) = Bool.true) → ((s2.1.1 < (((List.length (List.getD c.2.2.2.2 (Int.toNat s1.1.1) ([] : List Int))) : Nat) : Int)) ∧ ((0 : Int) ≤ s2.1.1))) ∧ (((((List.getD c.2.2.1 (Int.toNat s2.1.1) (0 : Int)) == (List.getD c.2.1 (Int.toNat s3.1.1) (0 : Int))) = Bool.true) → (((List.getD (List.getD c.2.2.2.2 (Int.toNat s1.1.1) ([] : List Int)) (Int.toNat s2.1.1) (0 : Int)) < (((List.length c.2.2.2.2) : Nat) : Int)) ∧ ((0 : Int) ≤ (List.getD (List.getD c.2.2.2.2 (Int.toNat s1.1.1) ([] : List Int)) (Int.toNat s2.1.1) (0 : Int))))) ∧ (((((List.getD c.2.2.1 (Int.toNat s2.1.1) (0 : Int)) == (List.getD c.2.1 (Int.toNat s3.1.1) (0 : Int))) = Bool.true) → ((s3.1.1 < (((List.length (List.getD c.2.2.2.2 (Int.toNat (List.getD (List.getD c.2.2.2.2 (Int.toNat s1.1.1) ([] : List Int)) (Int.toNat s2.1.1) (0 : Int))) ([] : List Int))) : Nat) : Int)) ∧ ((0 : Int) ≤ s3.1.1))) ∧ (((((List.getD c.2.2.1 (Int.toNat s2.1.1) (0 : Int)) == (List.getD c.2.1 (Int.toNat s3.1.1) (0 : Int))) = Bool.true) → ((s1.1.1 < (((List.length c.2.2.2.2) : Nat) : Int)) ∧ ((0 : Int) ≤ s1.1.1))) ∧ (((((List.getD c.2.2.1 (Int.toNat s2.1.1) (0 : Int)) == (List.getD c.2.1 (Int.toNat s3.1.1) (0 : Int))) = Bool.true) → ((s2.1.1 < (((List.length c.2.2.2.2) : Nat) : Int)) ∧ ((0 : Int) ≤ s2.1.1))) ∧ (((((List.getD c.2.2.1 (Int.toNat s2.1.1) (0 : Int)) == (List.getD c.2.1 (Int.toNat s3.1.1) (0 : Int))) = Bool.true) → ((s3.1.1 < (((List.length (List.getD c.2.2.2.2 (Int.toNat s2.1.1) ([] : List Int))) : Nat) : Int)) ∧ ((0 : Int) ≤ s3.1.1))) ∧ (((((List.getD c.2.2.1 (Int.toNat s2.1.1) (0 : Int)) == (List.getD c.2.1 (Int.toNat s3.1.1) (0 : Int))) = Bool.true) → (((List.getD (List.getD c.2.2.2.2 (Int.toNat s2.1.1) ([] : List Int)) (Int.toNat s3.1.1) (0 : Int)) < (((List.length (List.getD c.2.2.2.2 (Int.toNat s1.1.1) ([] : List Int))) : Nat) : Int)) ∧ ((0 : Int) ≤ (List.getD (List.getD c.2.2.2.2 (Int.toNat s2.1.1) ([] : List Int)) (Int.toNat s3.1.1) (0 : Int))))) ∧ (cnd (((List.getD c.2.2.1 (Int.toNat s2.1.1) (0 : Int)) == (List.getD c.2.1 (Int.toNat s3.1.1) (0 : Int))) && ((List.getD (List.getD c.2.2.2.2 (Int.toNat (List.getD (List.getD c.2.2.2.2 (Int.toNat s1.1.1) ([] : List Int)) (Int.toNat s2.1.1) (0 : Int))) ([] : List Int)) (Int.toNat s3.1.1) (0 : Int)) != (List.getD (List.getD c.2.2.2.2 (Int.toNat s1.1.1) ([] : List Int)) (Int.toNat (List.getD (List.getD c.2.2.2.2 (Int.toNat s2.1.1) ([] : List Int)) (Int.toNat s3.1.1) (0 : Int))) (0 : Int)))) (K ((2 : Int), (s1.1.1, (s2.1.1, (s3.1.1, ()))))) ((inK IntKind.i64 (s3.1.1 + (1 : Int))) ∧ (next3 (((s3.1.1 + (1 : Int)), ()), ())))))))))))))))) (k ((), ())))))) (((0 : Int), ()), ()))))))))) ((inK IntKind.i64 (s1.1.1 + (1 : Int))) ∧ (next1 (((s1.1.1 + (1 : Int)), ()), ()))))))) (((0 : Int), ()), ())) (K ((0 : Int), ((0 : Int), ((0 : Int), ((0 : Int), ()))))))))) (((0 : Int), ()), ())))))) (((0 : Int), ()), ()))
theorem w_spec_l02Fault (x : denL c_spec_l02Fault.args) (K : Int × Int × Int × Int × Unit → Prop) : evF tab (lkp []) (cutL [(17, 44), (5, 38), (13, 11)]) Try.f97 (bodyOf Try.f97) (.s .n (.s .n (.s (.s .n (.l [(7, (.d (.int .i64)))] [] [1, 6] .n)) (.s (.s .n (.l [(8, (.d (.int .i64)))] [] [1, 6] (.s .n (.s (.s .n (.l [(9, (.d (.int .i64)))] [] [1, 6, 8] (.s .n (.s (.j [] [] [1, 6, 8, 9] (.s .n (.s .n (.l [(10, (.d (.int .i64)))] [] [1, 6, 8, 9] .n)))) .n)))) .n)))) .n)))) c_spec_l02Fault x K = W_spec_l02Fault x.1 K := by kernel_rfl
theorem k_spec_l02Fault : okC Try.f97.ntmps (cutL [(17, 44), (5, 38), (13, 11)]) (bodyOf Try.f97) = true := by kernel_rfl
theorem m_spec_l02Fault (c : CategoryD) (hok : allP (okL c_spec_l02Fault.args (c, ()))) (hpre : allP (c_spec_l02Fault.pre (c, ()))) : W_spec_l02Fault c (fun r => r = c_spec_l02Fault.res (c, ())) := by
  simp only [c_spec_l02Fault, okL, T.oks, T.ok, ap, allP, true_and, and_true, implies_true] at hok hpre
  try dsimp only [T.den] at hok
  try dsimp only [T.den] at hpre
  unfold W_spec_l02Fault
  have S : ShapeP c := hpre
  have hlt := S.lt
  have hli := S.li
  have hlc := S.lc
  have hmm := S.m
  have resq : ∀ a b d e, faultR c = (a, b, d, e) → (a, b, d, e, ()) = c_spec_l02Fault.res (c, ()) := fun a b d e h => by simp only [c_spec_l02Fault, h]
  have hcr : ∀ f g : Int, (c.2.2.2.2.getD f.toNat []).getD g.toNat 0 = compR c f g := fun _ _ => rfl
  simp only [hcr]
  refine loop_ix (n := c.2.1.length) (fun f => scanR (faultI c) c.2.1.length 0 = scanR (faultI c) ((c.2.1.length : Int) - f).toNat f) (by omega) scan_0 ?_ ?_
  · intro f next h0 h1 hP hn hin
    try dsimp only
    obtain ⟨a1, a2, a3, a4⟩ := S.frm h0 h1
    obtain ⟨b1, b2, _, _⟩ := S.idn a1 a2
    obtain ⟨d1, d2, _, _⟩ := S.idn a3 a4
    have r1 := S.row _ b1 b2
    have r2 := S.row f h0 h1
    refine cnd_d (fun _ => ⟨h0, h1, by omega, by omega, by omega, by omega, h0, by omega, fun _ => by omega, fun _ => by omega, fun _ => by omega, fun _ => by omega, cnd_of (fun hx => resq _ _ _ _ ?_) (fun hx => ⟨by rw [inK64]; (try dsimp only); omega, hn ?_⟩)⟩) (fun h => absurd h1 h)
    · have : faultI c f = some (1, f, 0, 0) := by unfold faultI; rw [if_pos]; simpa using hx
      unfold faultR; rw [hP, scan_s h1 this]; rfl
    · have : faultI c f = none := by unfold faultI; rw [if_neg]; simpa using hx
      rw [hP, scan_c h1 this]
  intro next hI hin
  rw [scan_n] at hI
  refine cnd_d (fun h => absurd h (by dsimp only; omega)) (fun _ => ?_)
  have hF : faultR c = orR (scanR (faultF c) c.2.1.length 0) (0, 0, 0, 0) := by unfold faultR; rw [hI]; rfl
  refine loop_ix (n := c.2.1.length) (fun f => scanR (faultF c) c.2.1.length 0 = scanR (faultF c) ((c.2.1.length : Int) - f).toNat f) (by omega) scan_0 ?_ ?_
  · intro f next h0 h1 hP hn hin
    try dsimp only
    refine cnd_d (fun _ => ?_) (fun h => absurd h1 h)
    have r1 := S.row f h0 h1
    refine loop_ix (n := c.2.1.length) (fun g => faultF c f = scanR (faultG c f) ((c.2.1.length : Int) - g).toNat g) (by omega) scan_0 ?_ ?_
    · intro g next3 g0 g1 hP3 hn3 hin3
      try dsimp only
      refine cnd_d (fun _ => ?_) (fun h => absurd g1 h)
      have r2 := S.row g g0 g1
      refine join_of (fun _ => faultG c f g = none) (fun _ hG => ⟨by rw [inK64]; (try dsimp only); omega, hn3 (by rw [hP3, scan_c g1 hG])⟩) (fun k hk => ?_)
      have hk' := hk ((), ())
      refine ⟨by omega, by omega, by omega, by omega, cnd_of (fun hx => hk' ?_) (fun hx => ?_)⟩
      · unfold faultG; rw [if_neg]; simpa using hx
      have hfg : c.2.2.1.getD f.toNat 0 = c.2.1.getD g.toNat 0 := by rw [bne_eq_false_iff_eq] at hx; exact hx
      obtain ⟨y1, y2, _, _⟩ := S.yes h0 h1 g0 g1 hfg
      refine loop_ix (n := c.2.1.length) (fun h => faultG c f g = scanR (faultH c f g) ((c.2.1.length : Int) - h).toNat h) (by omega) (by unfold faultG; rw [if_pos hfg]; exact scan_0) ?_ ?_
      · intro h next4 i0 i1 hP4 hn4 hin4
        try dsimp only
        refine cnd_d (fun _ => ?_) (fun h => absurd i1 h)
        have r3 := S.row _ y1 y2
        have cgh := S.comp g0 g1 i0 i1
        have ygh := @ShapeP.yes c S g h g0 g1 i0 i1
        refine ⟨by omega, by omega, by omega, by omega, fun _ => by omega, fun _ => by omega, fun _ => by omega, fun _ => by omega, fun _ => by omega, fun _ => by omega, fun _ => by omega, fun he => ?_, cnd_of (fun hx => resq _ _ _ _ ?_) (fun hx => ⟨by rw [inK64]; (try dsimp only); omega, hn4 ?_⟩)⟩
        · have := ygh (by simpa only [beq_iff_eq] using he); omega
        · have : faultH c f g h = some (2, f, g, h) := by unfold faultH; rw [if_pos]; simpa using hx
          have e1 : faultG c f g = some (2, f, g, h) := by rw [hP4, scan_s i1 this]
          have e2 : faultF c f = some (2, f, g, h) := by rw [hP3, scan_s g1 e1]
          rw [hF, hP, scan_s h1 e2]; rfl
        · have : faultH c f g h = none := by unfold faultH; rw [if_neg]; simpa using hx
          rw [hP4, scan_c i1 this]
      · intro next4 hP4 hin4
        rw [scan_n] at hP4
        exact cnd_d (fun h => absurd h (by dsimp only; omega)) (fun _ => hk' hP4)
    · intro next3 hP3 hin3
      rw [scan_n] at hP3
      exact cnd_d (fun h => absurd h (by dsimp only; omega)) (fun _ => ⟨by rw [inK64]; (try dsimp only); omega, hn (by rw [hP, scan_c h1 hP3])⟩)
  · intro next2 hP2 hin2
    rw [scan_n] at hP2
    refine cnd_d (fun h => absurd h (by dsimp only; omega)) (fun _ => resq _ _ _ _ ?_)
    rw [hF, hP2]; rfl
theorem ct_spec_l02Fault : CtOk Try.prog 97 c_spec_l02Fault :=
  ct_by (Φ := lkp []) good_nil tab_ok (by kernel_rfl) (fn := Try.f97) (c := bodyOf Try.f97) (by kernel_rfl) (by kernel_rfl) (by kernel_rfl) c_spec_l02Fault rfl (.s .n (.s .n (.s (.s .n (.l [(7, (.d (.int .i64)))] [] [1, 6] .n)) (.s (.s .n (.l [(8, (.d (.int .i64)))] [] [1, 6] (.s .n (.s (.s .n (.l [(9, (.d (.int .i64)))] [] [1, 6, 8] (.s .n (.s (.j [] [] [1, 6, 8, 9] (.s .n (.s .n (.l [(10, (.d (.int .i64)))] [] [1, 6, 8, 9] .n)))) .n)))) .n)))) .n)))) (cutL [(17, 44), (5, 38), (13, 11)]) (by kernel_rfl) (by kernel_rfl) k_spec_l02Fault (by decide) (fun x K => W_spec_l02Fault x.1 K) w_spec_l02Fault (fun x h1 h2 => m_spec_l02Fault x.1 h1 h2)
def c_spec_l02Is : Ct := ⟨[CategoryT], [true], fun x => [], [(false, (.fz .bool))], fun x => (catR x.1, ()), false, none⟩
def W_spec_l02Is (c : CategoryD) (K : Bool × Unit → Prop) : Prop := (cnd (!(shapeR c)) (K (Bool.false, ())) ((ShapeP c) ∧ (K (((faultR c).1 == (0 : Int)), ()))))
theorem w_spec_l02Is (x : denL c_spec_l02Is.args) (K : Bool × Unit → Prop) : evF tab (lkp [(96, c_spec_IsShape), (97, c_spec_l02Fault)]) (cutL []) Try.f57 (bodyOf Try.f57) .n c_spec_l02Is x K = W_spec_l02Is x.1 K := by kernel_rfl
theorem k_spec_l02Is : okC Try.f57.ntmps (cutL []) (bodyOf Try.f57) = true := by kernel_rfl
theorem m_spec_l02Is (c : CategoryD) (hok : allP (okL c_spec_l02Is.args (c, ()))) (hpre : allP (c_spec_l02Is.pre (c, ()))) : W_spec_l02Is c (fun r => r = c_spec_l02Is.res (c, ())) := by
  simp only [c_spec_l02Is, okL, T.oks, T.ok, ap, allP, true_and, and_true, implies_true] at hok hpre
  try dsimp only [T.den] at hok
  try dsimp only [T.den] at hpre
  unfold W_spec_l02Is
  simp only [c_spec_l02Is, catR]
  have := @shape_iff c
  grind [cnd, nb_eq, inK64]
theorem ct_spec_l02Is : CtOk Try.prog 57 c_spec_l02Is :=
  ct_by (Φ := lkp [(96, c_spec_IsShape), (97, c_spec_l02Fault)]) (good_cons ct_spec_IsShape (good_cons ct_spec_l02Fault good_nil)) tab_ok (by kernel_rfl) (fn := Try.f57) (c := bodyOf Try.f57) (by kernel_rfl) (by kernel_rfl) (by kernel_rfl) c_spec_l02Is rfl .n (cutL []) (by kernel_rfl) (by kernel_rfl) k_spec_l02Is (by decide) (fun x K => W_spec_l02Is x.1 K) w_spec_l02Is (fun x h1 h2 => m_spec_l02Is x.1 h1 h2)
def c_spec_l06Is : Ct := ⟨[FunctorT], [true], fun x => [], [(false, (.fz .bool))], fun x => (funR x.1, ()), false, none⟩
def W_spec_l06Is (f : FunctorD) (K : Bool × Unit → Prop) : Prop := (cnd ((((!(catR f.1)) || (!(catR f.2.1))) || ((((List.length f.2.2.1) : Nat) : Int) != f.1.1)) || ((((List.length f.2.2.2) : Nat) : Int) != (((List.length f.1.2.1) : Nat) : Int))) (K (Bool.false, ())) (cnd ((!(withinR f.2.2.1 f.2.1.1)) || (!(withinR f.2.2.2 (((List.length f.2.1.2.1) : Nat) : Int)))) (K (Bool.false, ())) (loopW (S := ((Int × Unit) × Unit)) (fun s => (fun next => ((inK IntKind.i64 s.1.1) → (cnd (decide (s.1.1 < (((List.length f.1.2.1) : Nat) : Int))) (((0 : Int) ≤ s.1.1) ∧ ((s.1.1 < (((List.length f.2.2.2) : Nat) : Int)) ∧ (((0 : Int) ≤ (List.getD f.2.2.2 (Int.toNat s.1.1) (0 : Int))) ∧ (((List.getD f.2.2.2 (Int.toNat s.1.1) (0 : Int)) < (((List.length f.2.1.2.1) : Nat) : Int)) ∧ (((0 : Int) ≤ s.1.1) ∧ ((s.1.1 < (((List.length f.1.2.1) : Nat) : Int)) ∧ (((0 : Int) ≤ (List.getD f.1.2.1 (Int.toNat s.1.1) (0 : Int))) ∧ (((List.getD f.1.2.1 (Int.toNat s.1.1) (0 : Int)) < (((List.length f.2.2.1) : Nat) : Int)) ∧ (((((List.getD f.2.1.2.1 (Int.toNat (List.getD f.2.2.2 (Int.toNat s.1.1) (0 : Int))) (0 : Int)) != (List.getD f.2.2.1 (Int.toNat (List.getD f.1.2.1 (Int.toNat s.1.1) (0 : Int))) (0 : Int))) = Bool.false) → ((s.1.1 < (((List.length f.2.2.2) : Nat) : Int)) ∧ ((0 : Int) ≤ s.1.1))) ∧ (((((List.getD f.2.1.2.1 (Int.toNat (List.getD f.2.2.2 (Int.toNat s.1.1) (0 : Int))) (0 : Int)) != (List.getD f.2.2.1 (Int.toNat (List.getD f.1.2.1 (Int.toNat s.1.1) (0 : Int))) (0 : Int))) = Bool.false) → (((List.getD f.2.2.2 (Int.toNat s.1.1) (0 : Int)) < (((List.length f.2.1.2.2.1) : Nat) : Int)) ∧ ((0 : Int) ≤ (List.getD f.2.2.2 (Int.toNat s.1.1) (0 : Int))))) ∧ (((((List.getD f.2.1.2.1 (Int.toNat (List.getD f.2.2.2 (Int.toNat s.1.1) (0 : Int))) (0 : Int)) != (List.getD f.2.2.1 (Int.toNat (List.getD f.1.2.1 (Int.toNat s.1.1) (0 : Int))) (0 : Int))) = Bool.false) → ((s.1.1 < (((List.length f.1.2.2.1) : Nat) : Int)) ∧ ((0 : Int) ≤ s.1.1))) ∧ (((((List.getD f.2.1.2.1 (Int.toNat (List.getD f.2.2.2 (Int.toNat s.1.1) (0 : Int))) (0 : Int)) != (List.getD f.2.2.1 (Int.toNat (List.getD f.1.2.1 (Int.toNat s.1.1) (0 : Int))) (0 : Int))) = Bool.false) → (((List.getD f.1.2.2.1 (Int.toNat s.1.1) (0 : Int)) < (((List.length f.2.2.1) : Nat) : Int)) ∧ ((0 : Int) ≤ (List.getD f.1.2.2.1 (Int.toNat s.1.1) (0 : Int))))) ∧ (cnd (((List.getD f.2.1.2.1 (Int.toNat (List.getD f.2.2.2 (Int.toNat s.1.1) (0 : Int))) (0 : Int)) != (List.getD f.2.2.1 (Int.toNat (List.getD f.1.2.1 (Int.toNat s.1.1) (0 : Int))) (0 : Int))) || ((List.getD f.2.1.2.2.1 (Int.toNat (List.getD f.2.2.2 (Int.toNat s.1.1) (0 : Int))) (0 : Int)) != (List.getD f.2.2.1 (Int.toNat (List.getD f.1.2.2.1 (Int.toNat s.1.1) (0 : Int))) (0 : Int)))) (K (Bool.false, ())) ((inK IntKind.i64 (s.1.1 + (1 : Int))) ∧ (next (((s.1.1 + (1 : Int)), ()), ())))))))))))))))) (loopW (S := ((Int × Unit) × Unit)) (fun s1 => (fun next1 => ((inK IntKind.i64 s1.1.1) → (cnd (decide (s1.1.1 < f.1.1)) (((0 : Int) ≤ s1.1.1) ∧ ((s1.1.1 < (((List.length f.1.2.2.2.1) : Nat) : Int)) ∧ (((0 : Int) ≤ (List.getD f.1.2.2.2.1 (Int.toNat s1.1.1) (0 : Int))) ∧ (((List.getD f.1.2.2.2.1 (Int.toNat s1.1.1) (0 : Int)) < (((List.length f.2.2.2) : Nat) : Int)) ∧ (((0 : Int) ≤ s1.1.1) ∧ ((s1.1.1 < (((List.length f.2.2.1) : Nat) : Int)) ∧ (((0 : Int) ≤ (List.getD f.2.2.1 (Int.toNat s1.1.1) (0 : Int))) ∧ (((List.getD f.2.2.1 (Int.toNat s1.1.1) (0 : Int)) < (((List.length f.2.1.2.2.2.1) : Nat) : Int)) ∧ (cnd ((List.getD f.2.2.2 (Int.toNat (List.getD f.1.2.2.2.1 (Int.toNat s1.1.1) (0 : Int))) (0 : Int)) != (List.getD f.2.1.2.2.2.1 (Int.toNat (List.getD f.2.2.1 (Int.toNat s1.1.1) (0 : Int))) (0 : Int))) (K (Bool.false, ())) ((inK IntKind.i64 (s1.1.1 + (1 : Int))) ∧ (next1 (((s1.1.1 + (1 : Int)), ()), ())))))))))))) (loopW (S := ((Int × Unit) × Unit)) (fun s2 => (fun next2 => ((inK IntKind.i64 s2.1.1) → (cnd (decide (s2.1.1 < (((List.length f.1.2.1) : Nat) : Int))) (loopW (S := ((Int × Unit) × Unit)) (fun s3 => (fun next3 => ((inK IntKind.i64 s3.1.1) → (cnd (decide (s3.1.1 < (((List.length f.1.2.1) : Nat) : Int))) (((0 : Int) ≤ s2.1.1) ∧ ((s2.1.1 < (((List.length f.1.2.2.1) : Nat) : Int)) ∧ (((0 : Int) ≤ s3.1.1) ∧ ((s3.1.1 < (((List.length f.1.2.1) : Nat) : Int)) ∧ (((((List.getD f.1.2.2.1 (Int.toNat s2.1.1) (0 : Int)) == (List.getD f.1.2.1 (Int.toNat s3.1.1) (0 : Int))) = Bool.true) → ((s2.1.1 < (((List.length f.1.2.2.2.2) : Nat) : Int)) ∧ ((0 : Int) ≤ s2.1.1))) ∧ (((((List.getD f.1.2.2.1 (Int.toNat s2.1.1) (0 : Int)) == (List.getD f.1.2.1 (Int.toNat s3.1.1) (0 : Int))) = Bool.true) → ((s3.1.1 < (((List.length (List.getD f.1.2.2.2.2 (Int.toNat s2.1.1) ([] : List Int))) : Nat) : Int)) ∧ ((0 : Int) ≤ s3.1.1))) ∧ (((((List.getD f.1.2.2.1 (Int.toNat s2.1.1) (0 : Int)) == (List.getD f.1.2.1 (Int.toNat s3.1.1) (0 : Int))) = Bool.true) → (((List.getD (List.getD f.1.2.2.2.2 (Int.toNat s2.1.1) ([] : List Int)) (Int.toNat s3.1.1) (0 : Int)) < (((List.length f.2.2.2) : Nat) : Int)) ∧ ((0 : Int) ≤ (List.getD (List.getD f.1.2.2.2.2 (Int.toNat s2.1.1) ([] : List Int)) (Int.toNat s3.1.1) (0 : Int))))) ∧ (((((List.getD f.1.2.2.1 (Int.toNat s2.1.1) (0 : Int)) == (List.getD f.1.2.1 (Int.toNat s3.1.1) (0 : Int))) = Bool.true) → ((s2.1.1 < (((List.length f.2.2.2) : Nat) : Int)) ∧ ((0 : Int) ≤ s2.1.1))) ∧ (((((List.getD f.1.2.2.1 (Int.toNat s2.1.1) (0 : Int)) == (List.getD f.1.2.1 (Int.toNat s3.1.1) (0 : Int))) = Bool.true) → (((List.getD f.2.2.2 (Int.toNat s2.1.1) (0 : Int)) < (((List.length f.2.1.2.2.2.2) : Nat) : Int)) ∧ ((0 : Int) ≤ (List.getD f.2.2.2 (Int.toNat s2.1.1) (0 : Int))))) ∧ (((((List.getD f.1.2.2.1 (Int.toNat s2.1.1) (0 : Int)) == (List.getD f.1.2.1 (Int.toNat s3.1.1) (0 : Int))) = Bool.true) → ((s3.1.1 < (((List.length f.2.2.2) : Nat) : Int)) ∧ ((0 : Int) ≤ s3.1.1))) ∧ (((((List.getD f.1.2.2.1 (Int.toNat s2.1.1) (0 : Int)) == (List.getD f.1.2.1 (Int.toNat s3.1.1) (0 : Int))) = Bool.true) → (((List.getD f.2.2.2 (Int.toNat s3.1.1) (0 : Int)) < (((List.length (List.getD f.2.1.2.2.2.2 (Int.toNat (List.getD f.2.2.2 (Int.toNat s2.1.1) (0 : Int))) ([] : List Int))) : Nat) : Int)) ∧ ((0 : Int) ≤ (List.getD f.2.2.2 (Int.toNat s3.1.1) (0 : Int))))) ∧ (cnd (((List.getD f.1.2.2.1 (Int.toNat s2.1.1) (0 : Int)) == (List.getD f.1.2.1 (Int.toNat s3.1.1) (0 : Int))) && ((List.getD f.2.2.2 (Int.toNat (List.getD (List.getD f.1.2.2.2.2 (Int.toNat s2.1.1) ([] : List Int)) (Int.toNat s3.1.1) (0 : Int))) (0 : Int)) != (List.getD (List.getD f.2.1.2.2.2.2 (Int.toNat (List.getD f.2.2.2 (Int.toNat s2.1.1) (0 : Int))) ([] : List Int)) (Int.toNat (List.getD f.2.2.2 (Int.toNat s3.1.1) (0 : Int))) (0 : Int)))) (K (Bool.false, ())) ((inK IntKind.i64 (s3.1.1 + (1 : Int))) ∧ (next3 (((s3.1.1 + (1 : Int)), ()), ()))))))))))))))) ((inK IntKind.i64 (s2.1.1 + (1 : Int))) ∧ (next2 (((s2.1.1 + (1 : Int)), ()), ()))))))) (((0 : Int), ()), ())) (K (Bool.true, ())))))) (((0 : Int), ()), ())))))) (((0 : Int), ()), ())))))) (((0 : Int), ()), ()))))
theorem w_spec_l06Is (x : denL c_spec_l06Is.args) (K : Bool × Unit → Prop) : evF tab (lkp [(81, c_spec_l01Map), (57, c_spec_l02Is)]) (cutL [(1, 999999), (22, 42), (9, 40), (14, 19)]) Try.f69 (bodyOf Try.f69) (.s .n (.s .n (.s .n (.s .n (.s (.s .n (.l [(5, (.d (.int .i64)))] [] [1, 3, 4] .n)) (.s (.s .n (.l [(6, (.d (.int .i64)))] [] [1, 3, 4] .n)) (.s (.s .n (.l [(7, (.d (.int .i64)))] [] [1, 3, 4] (.s .n (.s (.s .n (.l [(8, (.d (.int .i64)))] [] [1, 3, 4, 7] .n)) .n)))) .n))))))) c_spec_l06Is x K = W_spec_l06Is x.1 K := by kernel_rfl
theorem k_spec_l06Is : okC Try.f69.ntmps (cutL [(1, 999999), (22, 42), (9, 40), (14, 19)]) (bodyOf Try.f69) = true := by kernel_rfl
theorem m_spec_l06Is (f : FunctorD) (hok : allP (okL c_spec_l06Is.args (f, ()))) (hpre : allP (c_spec_l06Is.pre (f, ()))) : W_spec_l06Is f (fun r => r = c_spec_l06Is.res (f, ())) := by
  simp only [c_spec_l06Is, okL, T.oks, T.ok, ap, allP, true_and, and_true, implies_true] at hok hpre
  try dsimp only [T.den] at hok
  try dsimp only [T.den] at hpre
  unfold W_spec_l06Is
  have hfs : ∀ h : funR f = true, FitP f := fun h => by
    simp only [funR, Bool.and_eq_true] at h
    exact (fits_iff (cat_shape h.1.1)).1 h.2
  have bad0 : ¬ (catR f.1 = true ∧ catR f.2.1 = true ∧ FitP f) → (false, ()) = c_spec_l06Is.res (f, ()) := fun h => by
    simp only [c_spec_l06Is]
    cases hs : funR f with
    | false => rfl
    | true =>
      refine absurd ⟨?_, ?_, hfs hs⟩ h
      · simp only [funR, Bool.and_eq_true] at hs; exact hs.1.1
      · simp only [funR, Bool.and_eq_true] at hs; exact hs.1.2
  refine cnd_of (fun hc => bad0 fun h => ?_) (fun hc => cnd_of (fun hd => bad0 fun h => ?_) (fun hd => ?_))
  · have h1 := h.1; have h2 := h.2.1; have h3 := h.2.2.lo; have h4 := h.2.2.la; grind [cnd, nb_eq, inK64]
  · have h1 := h.2.2.ow; have h2 := h.2.2.aw; grind [cnd, nb_eq, inK64]
  simp only [Bool.or_eq_false_iff, Bool.not_eq_false', bne_eq_false_iff_eq] at hc hd
  obtain ⟨⟨⟨hc1, hc2⟩, hlo⟩, hla⟩ := hc
  obtain ⟨how, haw⟩ := hd
  have S := cat_shape hc1
  have S2 := cat_shape hc2
  have at1 : ∀ i j : Int, (f.1.2.2.2.2.getD i.toNat []).getD j.toNat 0 = compR f.1 i j := fun _ _ => rfl
  have at2 : ∀ i j : Int, (f.2.1.2.2.2.2.getD i.toNat []).getD j.toNat 0 = compR f.2.1 i j := fun _ _ => rfl
  have hob := S.ob
  have hlt := S.lt
  have hli := S.li
  have hlc := S.lc
  have hmm := S.m
  have tob := S2.ob
  have tlt := S2.lt
  have tli := S2.li
  have tlc := S2.lc
  have bad : ¬ FitP f → (false, ()) = c_spec_l06Is.res (f, ()) := fun h => by
    simp only [c_spec_l06Is]
    cases hs : funR f with
    | false => rfl
    | true => exact absurd (hfs hs) h
  refine loop_ix (n := f.1.2.1.length) (fun a => ∀ a' : Int, 0 ≤ a' → a' < a → f.2.1.2.1.getD (f.2.2.2.getD a'.toNat 0).toNat 0 = f.2.2.1.getD (f.1.2.1.getD a'.toNat 0).toNat 0 ∧ f.2.1.2.2.1.getD (f.2.2.2.getD a'.toNat 0).toNat 0 = f.2.2.1.getD (f.1.2.2.1.getD a'.toNat 0).toNat 0) (by omega) (by intro y h0 h1; omega) ?_ ?_
  · intro a next a0 a1 hP hn hin
    try dsimp only
    have sa := S.frm a0 (by omega)
    have fa := within_iff.1 haw a a0 (by omega)
    refine cnd_d (fun _ => ⟨a0, by omega, fa.1, by omega, a0, by omega, sa.1, by omega, fun _ => by omega, fun _ => by omega, fun _ => by omega, fun _ => by omega, cnd_of (fun hx => bad fun h => ?_) (fun hx => ⟨by rw [inK64]; (try dsimp only); omega, hn fun a' b0 b1 => ?_⟩)⟩) (fun h => absurd a1 h)
    · have := h.ends a a0 (by omega)
      rw [this.1, this.2] at hx; simp at hx
    · by_cases e : a' = a
      · rw [e]; simpa only [Bool.or_eq_false_iff, bne_eq_false_iff_eq] using hx
      · exact hP a' b0 (by omega)
  intro next hE hin
  refine cnd_d (fun h => absurd h (by dsimp only; omega)) (fun _ => ?_)
  clear next
  refine loop_ix (n := f.1.1) (fun x => ∀ x' : Int, 0 ≤ x' → x' < x → f.2.2.2.getD (f.1.2.2.2.1.getD x'.toNat 0).toNat 0 = f.2.1.2.2.2.1.getD (f.2.2.1.getD x'.toNat 0).toNat 0) (by omega) (by intro y h0 h1; omega) ?_ ?_
  · intro x next x0 x1 hP hn hin
    try dsimp only
    have ix := S.idn x0 x1
    have ox := within_iff.1 how x x0 (by omega)
    refine cnd_d (fun _ => ⟨x0, by omega, ix.1, by omega, x0, by omega, ox.1, by omega, cnd_of (fun hx => bad fun h => ?_) (fun hx => ⟨by rw [inK64]; (try dsimp only); omega, hn fun x' b0 b1 => ?_⟩)⟩) (fun h => absurd x1 h)
    · rw [h.ids x x0 x1] at hx; simp at hx
    · by_cases e : x' = x
      · rw [e]; simpa only [bne_eq_false_iff_eq] using hx
      · exact hP x' b0 (by omega)
  intro next hI hin
  refine cnd_d (fun h => absurd h (by dsimp only; omega)) (fun _ => ?_)
  clear next
  refine loop_ix (n := f.1.2.1.length) (fun a => ∀ a' : Int, 0 ≤ a' → a' < a → ∀ b : Int, 0 ≤ b → b < f.1.2.1.length → f.1.2.2.1.getD a'.toNat 0 = f.1.2.1.getD b.toNat 0 → f.2.2.2.getD (compR f.1 a' b).toNat 0 = compR f.2.1 (f.2.2.2.getD a'.toNat 0) (f.2.2.2.getD b.toNat 0)) (by omega) (by intro y h0 h1; omega) ?_ ?_
  · intro a next a0 a1 hP hn hin
    try dsimp only
    have ra := S.row a a0 a1
    have fa := within_iff.1 haw a a0 (by omega)
    have rfa := S2.row _ fa.1 fa.2
    refine cnd_d (fun _ => ?_) (fun h => absurd a1 h)
    refine loop_ix (n := f.1.2.1.length) (fun b => ∀ b' : Int, 0 ≤ b' → b' < b → f.1.2.2.1.getD a.toNat 0 = f.1.2.1.getD b'.toNat 0 → f.2.2.2.getD (compR f.1 a b').toNat 0 = compR f.2.1 (f.2.2.2.getD a.toNat 0) (f.2.2.2.getD b'.toNat 0)) (by omega) (by intro y h0 h1; omega) ?_ ?_
    · intro b next2 b0 b1 hP2 hn2 hin2
      try dsimp only
      simp only [at1, at2]
      have fb := within_iff.1 haw b b0 (by omega)
      have cab := S.comp a0 a1 b0 b1
      have yab := @ShapeP.yes f.1 S a b a0 a1 b0 b1
      refine cnd_d (fun _ => ⟨a0, by omega, b0, b1, fun _ => by omega, fun _ => by omega, fun hq => ?_, fun _ => by omega, fun _ => by omega, fun _ => by omega, fun _ => by omega, cnd_of (fun hx => bad fun h => ?_) (fun hx => ⟨by rw [inK64]; (try dsimp only); omega, hn2 fun b' c0 c1 => ?_⟩)⟩) (fun h => absurd b1 h)
      · have := yab (by simpa using hq); omega
      · simp only [Bool.and_eq_true, beq_iff_eq, bne_iff_ne] at hx
        exact hx.2 (h.comp a a0 a1 b b0 b1 ( hx.1))
      · by_cases e : b' = b
        · rw [e]
          intro eab
          simp only [Bool.and_eq_false_iff, beq_eq_false_iff_ne, bne_eq_false_iff_eq] at hx
          rcases hx with hx | hx
          · exact absurd eab hx
          · exact hx
        · exact hP2 b' c0 (by omega)
    · intro next2 hP2 hin2
      refine cnd_d (fun h => absurd h (by dsimp only; omega)) (fun _ => ⟨by rw [inK64]; (try dsimp only); omega, hn fun a' b0 b1 => ?_⟩)
      by_cases e : a' = a
      · rw [e]; exact hP2
      · exact hP a' b0 (by omega)
  · intro next hP hin
    refine cnd_d (fun h => absurd h (by dsimp only; omega)) (fun _ => ?_)
    have key : FitP f := ⟨by omega, by omega, how, haw, fun a a0 a1 => hE a a0 (by omega), hI, hP⟩
    simp only [c_spec_l06Is, funR]
    rw [hc1, hc2, (fits_iff S).2 key]; rfl
theorem ct_spec_l06Is : CtOk Try.prog 69 c_spec_l06Is :=
  ct_by (Φ := lkp [(81, c_spec_l01Map), (57, c_spec_l02Is)]) (good_cons ct_spec_l01Map (good_cons ct_spec_l02Is good_nil)) tab_ok (by kernel_rfl) (fn := Try.f69) (c := bodyOf Try.f69) (by kernel_rfl) (by kernel_rfl) (by kernel_rfl) c_spec_l06Is rfl (.s .n (.s .n (.s .n (.s .n (.s (.s .n (.l [(5, (.d (.int .i64)))] [] [1, 3, 4] .n)) (.s (.s .n (.l [(6, (.d (.int .i64)))] [] [1, 3, 4] .n)) (.s (.s .n (.l [(7, (.d (.int .i64)))] [] [1, 3, 4] (.s .n (.s (.s .n (.l [(8, (.d (.int .i64)))] [] [1, 3, 4, 7] .n)) .n)))) .n))))))) (cutL [(1, 999999), (22, 42), (9, 40), (14, 19)]) (by kernel_rfl) (by kernel_rfl) k_spec_l06Is (by decide) (fun x K => W_spec_l06Is x.1 K) w_spec_l06Is (fun x h1 h2 => m_spec_l06Is x.1 h1 h2)
def c_impl_asked_fin : Ct := ⟨[(.pt FunctorT), (.fn 72 .u)], [false, false], fun x => [], [(false, (.fz .bool)), (false, (.fz (.int .i64)))], fun x => ((funR x.1 && finR x.1), funCodeR x.1, ()), false, none⟩
def W_impl_asked_fin (f : FunctorD) (question : Unit) (K : Bool × Int × Unit → Prop) : Prop := (cnd (!(funR f)) (K (Bool.false, ((1 : Int), ()))) ((FunP f) ∧ (K ((finR f), ((0 : Int), ())))))
theorem w_impl_asked_fin (x : denL c_impl_asked_fin.args) (K : Bool × Int × Unit → Prop) : evF tab (lkp [(121, c_impl_Functor_isFunctor), (72, c_impl_Functor_isFinal)]) (cutL []) Try.f71 (bodyOf Try.f71) .n c_impl_asked_fin x K = W_impl_asked_fin x.1 x.2.1 K := by kernel_rfl
theorem k_impl_asked_fin : okC Try.f71.ntmps (cutL []) (bodyOf Try.f71) = true := by kernel_rfl
theorem m_impl_asked_fin (f : FunctorD) (question : Unit) (hok : allP (okL c_impl_asked_fin.args (f, question, ()))) (hpre : allP (c_impl_asked_fin.pre (f, question, ()))) : W_impl_asked_fin f question (fun r => r = c_impl_asked_fin.res (f, question, ())) := by
  simp only [c_impl_asked_fin, okL, T.oks, T.ok, ap, allP, true_and, and_true, implies_true] at hok hpre
  try dsimp only [T.den] at hok
  try dsimp only [T.den] at hpre
  unfold W_impl_asked_fin
  have h1 := @fun_of f
  simp only [c_impl_asked_fin, funCodeR]
  grind [cnd, nb_eq, inK64]
theorem ct_impl_asked_fin : CtOk Try.prog 71 c_impl_asked_fin :=
  ct_by (Φ := lkp [(121, c_impl_Functor_isFunctor), (72, c_impl_Functor_isFinal)]) (good_cons ct_impl_Functor_isFunctor (good_cons ct_impl_Functor_isFinal good_nil)) tab_ok (by kernel_rfl) (fn := Try.f71) (c := bodyOf Try.f71) (by kernel_rfl) (by kernel_rfl) (by kernel_rfl) c_impl_asked_fin rfl .n (cutL []) (by kernel_rfl) (by kernel_rfl) k_impl_asked_fin (by decide) (fun x K => W_impl_asked_fin x.1 x.2.1 K) w_impl_asked_fin (fun x h1 h2 => m_impl_asked_fin x.1 x.2.1 h1 h2)
def c_impl_IsFinal : Ct := ⟨[FunctorT], [true], fun x => [], [(false, (.fz .bool)), (false, (.fz (.int .i64)))], fun x => ((funR x.1 && finR x.1), funCodeR x.1, ()), false, none⟩
def W_impl_IsFinal (f : FunctorD) (K : Bool × Int × Unit → Prop) : Prop := (K (((funR f) && (finR f)), ((funCodeR f), ())))
theorem w_impl_IsFinal (x : denL c_impl_IsFinal.args) (K : Bool × Int × Unit → Prop) : evF tab (lkp [(71, c_impl_asked_fin)]) (cutL []) Try.f39 (bodyOf Try.f39) .n c_impl_IsFinal x K = W_impl_IsFinal x.1 K := by kernel_rfl
theorem k_impl_IsFinal : okC Try.f39.ntmps (cutL []) (bodyOf Try.f39) = true := by kernel_rfl
theorem m_impl_IsFinal (f : FunctorD) (hok : allP (okL c_impl_IsFinal.args (f, ()))) (hpre : allP (c_impl_IsFinal.pre (f, ()))) : W_impl_IsFinal f (fun r => r = c_impl_IsFinal.res (f, ())) := by
  simp only [c_impl_IsFinal, okL, T.oks, T.ok, ap, allP, true_and, and_true, implies_true] at hok hpre
  try dsimp only [T.den] at hok
  try dsimp only [T.den] at hpre
  unfold W_impl_IsFinal
  rfl
theorem ct_impl_IsFinal : CtOk Try.prog 39 c_impl_IsFinal :=
  ct_by (Φ := lkp [(71, c_impl_asked_fin)]) (good_cons ct_impl_asked_fin good_nil) tab_ok (by kernel_rfl) (fn := Try.f39) (c := bodyOf Try.f39) (by kernel_rfl) (by kernel_rfl) (by kernel_rfl) c_impl_IsFinal rfl .n (cutL []) (by kernel_rfl) (by kernel_rfl) k_impl_IsFinal (by decide) (fun x K => W_impl_IsFinal x.1 K) w_impl_IsFinal (fun x h1 h2 => m_impl_IsFinal x.1 h1 h2)
def c_laws_eqInt64S : Ct := ⟨[(.sl (.int .i64)), (.sl (.int .i64))], [false, false], fun x => [], [(false, (.fz .bool))], fun x => (eqR (.sl (.int .i64)) x.1 x.2.1, ()), false, none⟩
def W_laws_eqInt64S (a : List Int) (b : List Int) (K : Bool × Unit → Prop) : Prop := (cnd ((((List.length a) : Nat) : Int) != (((List.length b) : Nat) : Int)) (K (Bool.false, ())) (loopW (S := ((Int × Unit) × Unit)) (fun s => (fun next => ((inK IntKind.i64 s.1.1) → (cnd (decide (s.1.1 < (((List.length a) : Nat) : Int))) (((0 : Int) ≤ s.1.1) ∧ ((s.1.1 < (((List.length a) : Nat) : Int)) ∧ (((0 : Int) ≤ s.1.1) ∧ ((s.1.1 < (((List.length b) : Nat) : Int)) ∧ (cnd ((List.getD a (Int.toNat s.1.1) (0 : Int)) != (List.getD b (Int.toNat s.1.1) (0 : Int))) (K (Bool.false, ())) ((inK IntKind.i64 (s.1.1 + (1 : Int))) ∧ (next (((s.1.1 + (1 : Int)), ()), ())))))))) (K (Bool.true, ())))))) (((0 : Int), ()), ())))
theorem w_laws_eqInt64S (x : denL c_laws_eqInt64S.args) (K : Bool × Unit → Prop) : evF tab (lkp []) (cutL [(6, 9)]) Try.f31 (bodyOf Try.f31) (.s .n (.s .n (.s (.s .n (.l [(5, (.d (.int .i64)))] [] [0, 1] .n)) .n))) c_laws_eqInt64S x K = W_laws_eqInt64S x.1 x.2.1 K := by kernel_rfl
theorem k_laws_eqInt64S : okC Try.f31.ntmps (cutL [(6, 9)]) (bodyOf Try.f31) = true := by kernel_rfl
theorem m_laws_eqInt64S (a : List Int) (b : List Int) (hok : allP (okL c_laws_eqInt64S.args (a, b, ()))) (hpre : allP (c_laws_eqInt64S.pre (a, b, ()))) : W_laws_eqInt64S a b (fun r => r = c_laws_eqInt64S.res (a, b, ())) := by
  simp only [c_laws_eqInt64S, okL, T.oks, T.ok, ap, allP, true_and, and_true, implies_true] at hok hpre
  try dsimp only [T.den] at hok
  try dsimp only [T.den] at hpre
  unfold W_laws_eqInt64S
  refine cnd_of (fun hc => ?_) (fun hc => ?_)
  · simp only [c_laws_eqInt64S, Prod.mk.injEq, and_true]; rw [eqR_f]; rintro rfl; simp at hc
  have hl : a.length = b.length := by simp at hc; omega
  refine loop_of (fun (s : ((Int × Unit) × Unit)) => 0 ≤ s.1.1 ∧ s.1.1 ≤ a.length ∧ a.take s.1.1.toNat = b.take s.1.1.toNat) (fun (s : ((Int × Unit) × Unit)) => (a.length - s.1.1).toNat) ?_ (by simp)
  rintro ⟨⟨i, _⟩, _⟩ next ⟨h0, h1, h2⟩ hn hin
  simp only at h0 h1 h2 hn ⊢
  refine cnd_d (fun hc => ?_) (fun hc => ?_)
  · have ha := take_c a (0 : Int) h0 hc
    have hb := take_c b (0 : Int) h0 (by omega)
    refine ⟨by omega, by omega, by omega, by omega, cnd_of (fun hd => ?_) (fun hd => ?_)⟩
    · simp only [c_laws_eqInt64S, Prod.mk.injEq, and_true]; rw [eqR_f]; rintro rfl; simp at hd
    · refine ⟨by grind [cnd, nb_eq, inK64], hn _ ⟨(by first | omega | (dsimp only; omega)), (by first | omega | (dsimp only; omega)), ?_⟩ (by first | omega | (dsimp only; omega))⟩
      simp only [Bool.not_eq_false', eqR_iff, bne_eq_false_iff_eq] at hd
      simp only [ha, hb, h2, hd]
  · rw [take_n a (by omega), take_n b (by omega)] at h2
    simp [h2, c_laws_eqInt64S]
theorem ct_laws_eqInt64S : CtOk Try.prog 31 c_laws_eqInt64S :=
  ct_by (Φ := lkp []) good_nil tab_ok (by kernel_rfl) (fn := Try.f31) (c := bodyOf Try.f31) (by kernel_rfl) (by kernel_rfl) (by kernel_rfl) c_laws_eqInt64S rfl (.s .n (.s .n (.s (.s .n (.l [(5, (.d (.int .i64)))] [] [0, 1] .n)) .n))) (cutL [(6, 9)]) (by kernel_rfl) (by kernel_rfl) k_laws_eqInt64S (by decide) (fun x K => W_laws_eqInt64S x.1 x.2.1 K) w_laws_eqInt64S (fun x h1 h2 => m_laws_eqInt64S x.1 x.2.1 h1 h2)
def c_laws_eqInt64SS : Ct := ⟨[(.sl (.sl (.int .i64))), (.sl (.sl (.int .i64)))], [false, false], fun x => [], [(false, (.fz .bool))], fun x => (eqR (.sl (.sl (.int .i64))) x.1 x.2.1, ()), false, none⟩
def W_laws_eqInt64SS (a : List (List Int)) (b : List (List Int)) (K : Bool × Unit → Prop) : Prop := (cnd ((((List.length a) : Nat) : Int) != (((List.length b) : Nat) : Int)) (K (Bool.false, ())) (loopW (S := ((Int × Unit) × Unit)) (fun s => (fun next => ((inK IntKind.i64 s.1.1) → (cnd (decide (s.1.1 < (((List.length a) : Nat) : Int))) (((0 : Int) ≤ s.1.1) ∧ ((s.1.1 < (((List.length a) : Nat) : Int)) ∧ (((0 : Int) ≤ s.1.1) ∧ ((s.1.1 < (((List.length b) : Nat) : Int)) ∧ (cnd (!(eqR (T.sl (T.int IntKind.i64)) (List.getD a (Int.toNat s.1.1) ([] : List Int)) (List.getD b (Int.toNat s.1.1) ([] : List Int)))) (K (Bool.false, ())) ((inK IntKind.i64 (s.1.1 + (1 : Int))) ∧ (next (((s.1.1 + (1 : Int)), ()), ())))))))) (K (Bool.true, ())))))) (((0 : Int), ()), ())))
theorem w_laws_eqInt64SS (x : denL c_laws_eqInt64SS.args) (K : Bool × Unit → Prop) : evF tab (lkp [(31, c_laws_eqInt64S)]) (cutL [(6, 10)]) Try.f14 (bodyOf Try.f14) (.s .n (.s .n (.s (.s .n (.l [(5, (.d (.int .i64)))] [] [0, 1] .n)) .n))) c_laws_eqInt64SS x K = W_laws_eqInt64SS x.1 x.2.1 K := by kernel_rfl
theorem k_laws_eqInt64SS : okC Try.f14.ntmps (cutL [(6, 10)]) (bodyOf Try.f14) = true := by kernel_rfl
theorem m_laws_eqInt64SS (a : List (List Int)) (b : List (List Int)) (hok : allP (okL c_laws_eqInt64SS.args (a, b, ()))) (hpre : allP (c_laws_eqInt64SS.pre (a, b, ()))) : W_laws_eqInt64SS a b (fun r => r = c_laws_eqInt64SS.res (a, b, ())) := by
  simp only [c_laws_eqInt64SS, okL, T.oks, T.ok, ap, allP, true_and, and_true, implies_true] at hok hpre
  try dsimp only [T.den] at hok
  try dsimp only [T.den] at hpre
  unfold W_laws_eqInt64SS
  refine cnd_of (fun hc => ?_) (fun hc => ?_)
  · simp only [c_laws_eqInt64SS, Prod.mk.injEq, and_true]; rw [eqR_f]; rintro rfl; simp at hc
  have hl : a.length = b.length := by simp at hc; omega
  refine loop_of (fun (s : ((Int × Unit) × Unit)) => 0 ≤ s.1.1 ∧ s.1.1 ≤ a.length ∧ a.take s.1.1.toNat = b.take s.1.1.toNat) (fun (s : ((Int × Unit) × Unit)) => (a.length - s.1.1).toNat) ?_ (by simp)
  rintro ⟨⟨i, _⟩, _⟩ next ⟨h0, h1, h2⟩ hn hin
  simp only at h0 h1 h2 hn ⊢
  refine cnd_d (fun hc => ?_) (fun hc => ?_)
  · have ha := take_c a ([] : List Int) h0 hc
    have hb := take_c b ([] : List Int) h0 (by omega)
    refine ⟨by omega, by omega, by omega, by omega, cnd_of (fun hd => ?_) (fun hd => ?_)⟩
    · simp only [c_laws_eqInt64SS, Prod.mk.injEq, and_true]; rw [eqR_f]; rintro rfl; simp at hd
    · refine ⟨by grind [cnd, nb_eq, inK64], hn _ ⟨(by first | omega | (dsimp only; omega)), (by first | omega | (dsimp only; omega)), ?_⟩ (by first | omega | (dsimp only; omega))⟩
      simp only [Bool.not_eq_false', eqR_iff, bne_eq_false_iff_eq] at hd
      simp only [ha, hb, h2, hd]
  · rw [take_n a (by omega), take_n b (by omega)] at h2
    simp [h2, c_laws_eqInt64SS]
theorem ct_laws_eqInt64SS : CtOk Try.prog 14 c_laws_eqInt64SS :=
  ct_by (Φ := lkp [(31, c_laws_eqInt64S)]) (good_cons ct_laws_eqInt64S good_nil) tab_ok (by kernel_rfl) (fn := Try.f14) (c := bodyOf Try.f14) (by kernel_rfl) (by kernel_rfl) (by kernel_rfl) c_laws_eqInt64SS rfl (.s .n (.s .n (.s (.s .n (.l [(5, (.d (.int .i64)))] [] [0, 1] .n)) .n))) (cutL [(6, 10)]) (by kernel_rfl) (by kernel_rfl) k_laws_eqInt64SS (by decide) (fun x K => W_laws_eqInt64SS x.1 x.2.1 K) w_laws_eqInt64SS (fun x h1 h2 => m_laws_eqInt64SS x.1 x.2.1 h1 h2)
def c_laws_eqCategory : Ct := ⟨[CategoryT, CategoryT], [true, true], fun x => [], [(false, (.fz .bool))], fun x => (eqR CategoryT x.1 x.2.1, ()), false, none⟩
def W_laws_eqCategory (a : CategoryD) (b : CategoryD) (K : Bool × Unit → Prop) : Prop := (cnd (a.1 != b.1) (K (Bool.false, ())) (cnd (!(eqR (T.sl (T.int IntKind.i64)) a.2.1 b.2.1)) (K (Bool.false, ())) (cnd (!(eqR (T.sl (T.int IntKind.i64)) a.2.2.1 b.2.2.1)) (K (Bool.false, ())) (cnd (!(eqR (T.sl (T.int IntKind.i64)) a.2.2.2.1 b.2.2.2.1)) (K (Bool.false, ())) (cnd (!(eqR (T.sl (T.sl (T.int IntKind.i64))) a.2.2.2.2 b.2.2.2.2)) (K (Bool.false, ())) (K (Bool.true, ())))))))
theorem w_laws_eqCategory (x : denL c_laws_eqCategory.args) (K : Bool × Unit → Prop) : evF tab (lkp [(31, c_laws_eqInt64S), (14, c_laws_eqInt64SS)]) (cutL []) Try.f23 (bodyOf Try.f23) .n c_laws_eqCategory x K = W_laws_eqCategory x.1 x.2.1 K := by kernel_rfl
theorem k_laws_eqCategory : okC Try.f23.ntmps (cutL []) (bodyOf Try.f23) = true := by kernel_rfl
theorem m_laws_eqCategory (a : CategoryD) (b : CategoryD) (hok : allP (okL c_laws_eqCategory.args (a, b, ()))) (hpre : allP (c_laws_eqCategory.pre (a, b, ()))) : W_laws_eqCategory a b (fun r => r = c_laws_eqCategory.res (a, b, ())) := by
  simp only [c_laws_eqCategory, okL, T.oks, T.ok, ap, allP, true_and, and_true, implies_true] at hok hpre
  try dsimp only [T.den] at hok
  try dsimp only [T.den] at hpre
  unfold W_laws_eqCategory
  simp only [c_laws_eqCategory, eqR_p, eqR_int, eqR_bool]
  grind [cnd, nb_eq, inK64]
theorem ct_laws_eqCategory : CtOk Try.prog 23 c_laws_eqCategory :=
  ct_by (Φ := lkp [(31, c_laws_eqInt64S), (14, c_laws_eqInt64SS)]) (good_cons ct_laws_eqInt64S (good_cons ct_laws_eqInt64SS good_nil)) tab_ok (by kernel_rfl) (fn := Try.f23) (c := bodyOf Try.f23) (by kernel_rfl) (by kernel_rfl) (by kernel_rfl) c_laws_eqCategory rfl .n (cutL []) (by kernel_rfl) (by kernel_rfl) k_laws_eqCategory (by decide) (fun x K => W_laws_eqCategory x.1 x.2.1 K) w_laws_eqCategory (fun x h1 h2 => m_laws_eqCategory x.1 x.2.1 h1 h2)
def c_laws_eqFunctor : Ct := ⟨[FunctorT, FunctorT], [true, true], fun x => [], [(false, (.fz .bool))], fun x => (eqR FunctorT x.1 x.2.1, ()), false, none⟩
def W_laws_eqFunctor (a : FunctorD) (b : FunctorD) (K : Bool × Unit → Prop) : Prop := (cnd (!(eqR CategoryT a.1 b.1)) (K (Bool.false, ())) (cnd (!(eqR CategoryT a.2.1 b.2.1)) (K (Bool.false, ())) (cnd (!(eqR (T.sl (T.int IntKind.i64)) a.2.2.1 b.2.2.1)) (K (Bool.false, ())) (cnd (!(eqR (T.sl (T.int IntKind.i64)) a.2.2.2 b.2.2.2)) (K (Bool.false, ())) (K (Bool.true, ()))))))
theorem w_laws_eqFunctor (x : denL c_laws_eqFunctor.args) (K : Bool × Unit → Prop) : evF tab (lkp [(23, c_laws_eqCategory), (31, c_laws_eqInt64S)]) (cutL []) Try.f40 (bodyOf Try.f40) .n c_laws_eqFunctor x K = W_laws_eqFunctor x.1 x.2.1 K := by kernel_rfl
theorem k_laws_eqFunctor : okC Try.f40.ntmps (cutL []) (bodyOf Try.f40) = true := by kernel_rfl
theorem m_laws_eqFunctor (a : FunctorD) (b : FunctorD) (hok : allP (okL c_laws_eqFunctor.args (a, b, ()))) (hpre : allP (c_laws_eqFunctor.pre (a, b, ()))) : W_laws_eqFunctor a b (fun r => r = c_laws_eqFunctor.res (a, b, ())) := by
  simp only [c_laws_eqFunctor, okL, T.oks, T.ok, ap, allP, true_and, and_true, implies_true] at hok hpre
  try dsimp only [T.den] at hok
  try dsimp only [T.den] at hpre
  unfold W_laws_eqFunctor
  simp only [c_laws_eqFunctor, eqR_p, eqR_int, eqR_bool]
  grind [cnd, nb_eq, inK64]
theorem ct_laws_eqFunctor : CtOk Try.prog 40 c_laws_eqFunctor :=
  ct_by (Φ := lkp [(23, c_laws_eqCategory), (31, c_laws_eqInt64S)]) (good_cons ct_laws_eqCategory (good_cons ct_laws_eqInt64S good_nil)) tab_ok (by kernel_rfl) (fn := Try.f40) (c := bodyOf Try.f40) (by kernel_rfl) (by kernel_rfl) (by kernel_rfl) c_laws_eqFunctor rfl .n (cutL []) (by kernel_rfl) (by kernel_rfl) k_laws_eqFunctor (by decide) (fun x K => W_laws_eqFunctor x.1 x.2.1 K) w_laws_eqFunctor (fun x h1 h2 => m_laws_eqFunctor x.1 x.2.1 h1 h2)
def c_laws_szInt64S : Ct := ⟨[(.sl (.int .i64)), (.int .i64)], [false, false], fun x => [-4611545280939032576 ≤ x.2.1], [(false, (.fz (.int .i64)))], fun x => (szR (wR (.sl (.int .i64)) x.1) x.2.1, ()), false, none⟩
def W_laws_szInt64S (a : List Int) (left : Int) (K : Int × Unit → Prop) : Prop := ((inK IntKind.i64 (left - (((List.length a) : Nat) : Int))) ∧ (cnd (decide ((left - (((List.length a) : Nat) : Int)) < (0 : Int))) (K ((-(1 : Int)), ())) (K ((left - (((List.length a) : Nat) : Int)), ()))))
theorem w_laws_szInt64S (x : denL c_laws_szInt64S.args) (K : Int × Unit → Prop) : evF tab (lkp []) (cutL []) Try.f41 (bodyOf Try.f41) .n c_laws_szInt64S x K = W_laws_szInt64S x.1 x.2.1 K := by kernel_rfl
theorem k_laws_szInt64S : okC Try.f41.ntmps (cutL []) (bodyOf Try.f41) = true := by kernel_rfl
theorem m_laws_szInt64S (a : List Int) (left : Int) (hok : allP (okL c_laws_szInt64S.args (a, left, ()))) (hpre : allP (c_laws_szInt64S.pre (a, left, ()))) : W_laws_szInt64S a left (fun r => r = c_laws_szInt64S.res (a, left, ())) := by
  simp only [c_laws_szInt64S, okL, T.oks, T.ok, ap, allP, true_and, and_true, implies_true] at hok hpre
  try dsimp only [T.den] at hok
  try dsimp only [T.den] at hpre
  unfold W_laws_szInt64S
  simp only [c_laws_szInt64S, wR_ints]
  grind [cnd, nb_eq, inK64, szR]
theorem ct_laws_szInt64S : CtOk Try.prog 41 c_laws_szInt64S :=
  ct_by (Φ := lkp []) good_nil tab_ok (by kernel_rfl) (fn := Try.f41) (c := bodyOf Try.f41) (by kernel_rfl) (by kernel_rfl) (by kernel_rfl) c_laws_szInt64S rfl .n (cutL []) (by kernel_rfl) (by kernel_rfl) k_laws_szInt64S (by decide) (fun x K => W_laws_szInt64S x.1 x.2.1 K) w_laws_szInt64S (fun x h1 h2 => m_laws_szInt64S x.1 x.2.1 h1 h2)
def c_laws_szInt64SS : Ct := ⟨[(.sl (.sl (.int .i64))), (.int .i64)], [false, false], fun x => [-4611404543450677248 ≤ x.2.1], [(false, (.fz (.int .i64)))], fun x => (szR (wR (.sl (.sl (.int .i64))) x.1) x.2.1, ()), false, none⟩
def W_laws_szInt64SS (a : List (List Int)) (left : Int) (K : Int × Unit → Prop) : Prop := ((inK IntKind.i64 (left - (((List.length a) : Nat) : Int))) ∧ (cnd (decide ((left - (((List.length a) : Nat) : Int)) < (0 : Int))) (K ((-(1 : Int)), ())) (loopW (S := ((Int × (Int × Unit)) × Unit)) (fun s => (fun next => ((inK IntKind.i64 s.1.1) → ((inK IntKind.i64 s.1.2.1) → (cnd (decide (s.1.2.1 < (((List.length a) : Nat) : Int))) (((0 : Int) ≤ s.1.2.1) ∧ ((s.1.2.1 < (((List.length a) : Nat) : Int)) ∧ (((-(4611545280939032576 : Int)) ≤ s.1.1) ∧ (cnd (decide ((szR (wR (T.sl (T.int IntKind.i64)) (List.getD a (Int.toNat s.1.2.1) ([] : List Int))) s.1.1) < (0 : Int))) (K ((-(1 : Int)), ())) ((inK IntKind.i64 (s.1.2.1 + (1 : Int))) ∧ (next (((szR (wR (T.sl (T.int IntKind.i64)) (List.getD a (Int.toNat s.1.2.1) ([] : List Int))) s.1.1), ((s.1.2.1 + (1 : Int)), ())), ()))))))) (K (s.1.1, ()))))))) (((left - (((List.length a) : Nat) : Int)), ((0 : Int), ())), ()))))
theorem w_laws_szInt64SS (x : denL c_laws_szInt64SS.args) (K : Int × Unit → Prop) : evF tab (lkp [(41, c_laws_szInt64S)]) (cutL []) Try.f42 (bodyOf Try.f42) (.s .n (.s .n (.s .n (.s (.s .n (.l [(1, (.d (.int .i64))), (5, (.d (.int .i64)))] [] [0] .n)) .n)))) c_laws_szInt64SS x K = W_laws_szInt64SS x.1 x.2.1 K := by kernel_rfl
theorem k_laws_szInt64SS : okC Try.f42.ntmps (cutL []) (bodyOf Try.f42) = true := by kernel_rfl
theorem m_laws_szInt64SS (a : List (List Int)) (left : Int) (hok : allP (okL c_laws_szInt64SS.args (a, left, ()))) (hpre : allP (c_laws_szInt64SS.pre (a, left, ()))) : W_laws_szInt64SS a left (fun r => r = c_laws_szInt64SS.res (a, left, ())) := by
  simp only [c_laws_szInt64SS, okL, T.oks, T.ok, ap, allP, true_and, and_true, implies_true] at hok hpre
  try dsimp only [T.den] at hok
  try dsimp only [T.den] at hpre
  unfold W_laws_szInt64SS
  have hr := szR_ge (x := a.length) (r := (a.map (wR (.sl (.int .i64)))).sum) (l := left)
  refine ⟨by grind [cnd, nb_eq, inK64], cnd_d (fun hc => ?_) (fun hc => ?_)⟩
  · simp only [c_laws_szInt64SS]; rw [wR_sl, szR_lt (x := a.length) (by omega)]
  replace hr := hr (by omega)
  rw [szR_val (x := a.length) (by omega)] at hr
  refine loop_of (fun (s : ((Int × (Int × Unit)) × Unit)) => 0 ≤ s.1.1 ∧ 0 ≤ s.1.2.1 ∧ s.1.2.1 ≤ a.length ∧ szR (wR (.sl (.sl (.int .i64))) a) left = szR ((a.drop s.1.2.1.toNat).map (wR (.sl (.int .i64)))).sum s.1.1) (fun (s : ((Int × (Int × Unit)) × Unit)) => (a.length - s.1.2.1).toNat) ?_ ⟨(by first | omega | (dsimp only; omega)), by simp, by simp, by rw [wR_sl]; simpa using hr⟩
  rintro ⟨⟨l, i, _⟩, _⟩ next ⟨h0, h1, h2, h3⟩ hn hin hl
  simp only at h0 h1 h2 h3 hn ⊢
  refine cnd_d (fun hc => ?_) (fun hc => ?_)
  · rw [drop_c a ([] : List Int) h1 hc, List.map_cons, List.sum_cons] at h3
    refine ⟨by omega, by omega, by omega, cnd_d (fun hd => ?_) (fun hd => ?_)⟩
    · rw [szR_neg] at hd
      rw [szR_lt hd] at h3
      simp only [c_laws_szInt64SS]; rw [h3]
    · rw [szR_neg] at hd
      rw [szR_ge hd] at h3
      exact ⟨by grind [cnd, nb_eq, inK64], hn _ ⟨by simp only; rw [szR_val hd]; omega, (by first | omega | (dsimp only; omega)), (by first | omega | (dsimp only; omega)), h3⟩ (by first | omega | (dsimp only; omega))⟩
  · rw [drop_n a (by omega)] at h3
    simp only [List.map_nil, List.sum_nil] at h3
    rw [szR_zero h0] at h3
    simp only [c_laws_szInt64SS]; rw [h3]
theorem ct_laws_szInt64SS : CtOk Try.prog 42 c_laws_szInt64SS :=
  ct_by (Φ := lkp [(41, c_laws_szInt64S)]) (good_cons ct_laws_szInt64S good_nil) tab_ok (by kernel_rfl) (fn := Try.f42) (c := bodyOf Try.f42) (by kernel_rfl) (by kernel_rfl) (by kernel_rfl) c_laws_szInt64SS rfl (.s .n (.s .n (.s .n (.s (.s .n (.l [(1, (.d (.int .i64))), (5, (.d (.int .i64)))] [] [0] .n)) .n)))) (cutL []) (by kernel_rfl) (by kernel_rfl) k_laws_szInt64SS (by decide) (fun x K => W_laws_szInt64SS x.1 x.2.1 K) w_laws_szInt64SS (fun x h1 h2 => m_laws_szInt64SS x.1 x.2.1 h1 h2)
def c_laws_szCategory : Ct := ⟨[CategoryT, (.int .i64)], [true, false], fun x => [-4611404543450677248 ≤ x.2.1], [(false, (.fz (.int .i64)))], fun x => (szR (wR CategoryT x.1) x.2.1, ()), false, none⟩
def W_laws_szCategory (a : CategoryD) (left : Int) (K : Int × Unit → Prop) : Prop := (((-(4611545280939032576 : Int)) ≤ left) ∧ (cnd (decide ((szR (wR (T.sl (T.int IntKind.i64)) a.2.1) left) < (0 : Int))) (K ((-(1 : Int)), ())) (((-(4611545280939032576 : Int)) ≤ (szR (wR (T.sl (T.int IntKind.i64)) a.2.1) left)) ∧ (cnd (decide ((szR (wR (T.sl (T.int IntKind.i64)) a.2.2.1) (szR (wR (T.sl (T.int IntKind.i64)) a.2.1) left)) < (0 : Int))) (K ((-(1 : Int)), ())) (((-(4611545280939032576 : Int)) ≤ (szR (wR (T.sl (T.int IntKind.i64)) a.2.2.1) (szR (wR (T.sl (T.int IntKind.i64)) a.2.1) left))) ∧ (cnd (decide ((szR (wR (T.sl (T.int IntKind.i64)) a.2.2.2.1) (szR (wR (T.sl (T.int IntKind.i64)) a.2.2.1) (szR (wR (T.sl (T.int IntKind.i64)) a.2.1) left))) < (0 : Int))) (K ((-(1 : Int)), ())) (((-(4611404543450677248 : Int)) ≤ (szR (wR (T.sl (T.int IntKind.i64)) a.2.2.2.1) (szR (wR (T.sl (T.int IntKind.i64)) a.2.2.1) (szR (wR (T.sl (T.int IntKind.i64)) a.2.1) left)))) ∧ (cnd (decide ((szR (wR (T.sl (T.sl (T.int IntKind.i64))) a.2.2.2.2) (szR (wR (T.sl (T.int IntKind.i64)) a.2.2.2.1) (szR (wR (T.sl (T.int IntKind.i64)) a.2.2.1) (szR (wR (T.sl (T.int IntKind.i64)) a.2.1) left)))) < (0 : Int))) (K ((-(1 : Int)), ())) (K ((szR (wR (T.sl (T.sl (T.int IntKind.i64))) a.2.2.2.2) (szR (wR (T.sl (T.int IntKind.i64)) a.2.2.2.1) (szR (wR (T.sl (T.int IntKind.i64)) a.2.2.1) (szR (wR (T.sl (T.int IntKind.i64)) a.2.1) left)))), ()))))))))))
theorem w_laws_szCategory (x : denL c_laws_szCategory.args) (K : Int × Unit → Prop) : evF tab (lkp [(41, c_laws_szInt64S), (42, c_laws_szInt64SS)]) (cutL []) Try.f19 (bodyOf Try.f19) .n c_laws_szCategory x K = W_laws_szCategory x.1 x.2.1 K := by kernel_rfl
theorem k_laws_szCategory : okC Try.f19.ntmps (cutL []) (bodyOf Try.f19) = true := by kernel_rfl
theorem m_laws_szCategory (a : CategoryD) (left : Int) (hok : allP (okL c_laws_szCategory.args (a, left, ()))) (hpre : allP (c_laws_szCategory.pre (a, left, ()))) : W_laws_szCategory a left (fun r => r = c_laws_szCategory.res (a, left, ())) := by
  simp only [c_laws_szCategory, okL, T.oks, T.ok, ap, allP, true_and, and_true, implies_true] at hok hpre
  try dsimp only [T.den] at hok
  try dsimp only [T.den] at hpre
  unfold W_laws_szCategory
  simp only [c_laws_szCategory, wR_p, wR_int, wR_bool, Nat.zero_add, Nat.add_zero]
  grind [cnd, nb_eq, inK64, szR]
theorem ct_laws_szCategory : CtOk Try.prog 19 c_laws_szCategory :=
  ct_by (Φ := lkp [(41, c_laws_szInt64S), (42, c_laws_szInt64SS)]) (good_cons ct_laws_szInt64S (good_cons ct_laws_szInt64SS good_nil)) tab_ok (by kernel_rfl) (fn := Try.f19) (c := bodyOf Try.f19) (by kernel_rfl) (by kernel_rfl) (by kernel_rfl) c_laws_szCategory rfl .n (cutL []) (by kernel_rfl) (by kernel_rfl) k_laws_szCategory (by decide) (fun x K => W_laws_szCategory x.1 x.2.1 K) w_laws_szCategory (fun x h1 h2 => m_laws_szCategory x.1 x.2.1 h1 h2)
def c_laws_szFunctor : Ct := ⟨[FunctorT, (.int .i64)], [true, false], fun x => [-4611404543450677248 ≤ x.2.1], [(false, (.fz (.int .i64)))], fun x => (szR (wR FunctorT x.1) x.2.1, ()), false, none⟩
def W_laws_szFunctor (a : FunctorD) (left : Int) (K : Int × Unit → Prop) : Prop := (((-(4611404543450677248 : Int)) ≤ left) ∧ (cnd (decide ((szR (wR CategoryT a.1) left) < (0 : Int))) (K ((-(1 : Int)), ())) (((-(4611404543450677248 : Int)) ≤ (szR (wR CategoryT a.1) left)) ∧ (cnd (decide ((szR (wR CategoryT a.2.1) (szR (wR CategoryT a.1) left)) < (0 : Int))) (K ((-(1 : Int)), ())) (((-(4611545280939032576 : Int)) ≤ (szR (wR CategoryT a.2.1) (szR (wR CategoryT a.1) left))) ∧ (cnd (decide ((szR (wR (T.sl (T.int IntKind.i64)) a.2.2.1) (szR (wR CategoryT a.2.1) (szR (wR CategoryT a.1) left))) < (0 : Int))) (K ((-(1 : Int)), ())) (((-(4611545280939032576 : Int)) ≤ (szR (wR (T.sl (T.int IntKind.i64)) a.2.2.1) (szR (wR CategoryT a.2.1) (szR (wR CategoryT a.1) left)))) ∧ (cnd (decide ((szR (wR (T.sl (T.int IntKind.i64)) a.2.2.2) (szR (wR (T.sl (T.int IntKind.i64)) a.2.2.1) (szR (wR CategoryT a.2.1) (szR (wR CategoryT a.1) left)))) < (0 : Int))) (K ((-(1 : Int)), ())) (K ((szR (wR (T.sl (T.int IntKind.i64)) a.2.2.2) (szR (wR (T.sl (T.int IntKind.i64)) a.2.2.1) (szR (wR CategoryT a.2.1) (szR (wR CategoryT a.1) left)))), ()))))))))))
theorem w_laws_szFunctor (x : denL c_laws_szFunctor.args) (K : Int × Unit → Prop) : evF tab (lkp [(19, c_laws_szCategory), (41, c_laws_szInt64S)]) (cutL []) Try.f36 (bodyOf Try.f36) .n c_laws_szFunctor x K = W_laws_szFunctor x.1 x.2.1 K := by kernel_rfl
theorem k_laws_szFunctor : okC Try.f36.ntmps (cutL []) (bodyOf Try.f36) = true := by kernel_rfl
theorem m_laws_szFunctor (a : FunctorD) (left : Int) (hok : allP (okL c_laws_szFunctor.args (a, left, ()))) (hpre : allP (c_laws_szFunctor.pre (a, left, ()))) : W_laws_szFunctor a left (fun r => r = c_laws_szFunctor.res (a, left, ())) := by
  simp only [c_laws_szFunctor, okL, T.oks, T.ok, ap, allP, true_and, and_true, implies_true] at hok hpre
  try dsimp only [T.den] at hok
  try dsimp only [T.den] at hpre
  unfold W_laws_szFunctor
  simp only [c_laws_szFunctor, wR_p, wR_int, wR_bool, Nat.zero_add, Nat.add_zero]
  grind [cnd, nb_eq, inK64, szR]
theorem ct_laws_szFunctor : CtOk Try.prog 36 c_laws_szFunctor :=
  ct_by (Φ := lkp [(19, c_laws_szCategory), (41, c_laws_szInt64S)]) (good_cons ct_laws_szCategory (good_cons ct_laws_szInt64S good_nil)) tab_ok (by kernel_rfl) (fn := Try.f36) (c := bodyOf Try.f36) (by kernel_rfl) (by kernel_rfl) (by kernel_rfl) c_laws_szFunctor rfl .n (cutL []) (by kernel_rfl) (by kernel_rfl) k_laws_szFunctor (by decide) (fun x K => W_laws_szFunctor x.1 x.2.1 K) w_laws_szFunctor (fun x h1 h2 => m_laws_szFunctor x.1 x.2.1 h1 h2)
def c_laws_toInt64S : Ct := ⟨[(.sl (.int .i64))], [false], fun x => [wR (.sl (.int .i64)) x.1 ≤ 1099511627776], [(false, (.sl (.fz (.int .i64))))], fun x => (x.1, ()), false, none⟩
def W_laws_toInt64S (a : List Int) (K : (List Int) × Unit → Prop) : Prop := (((0 : Int) ≤ (((List.length a) : Nat) : Int)) ∧ (((((List.length a) : Nat) : Int) ≤ (((List.length a) : Nat) : Int)) ∧ (((((List.length a) : Nat) : Int) ≤ ((140737488355328 : Nat) : Int)) ∧ ((((((List.length a) : Nat) : Int) * ((8 : Nat) : Int)) ≤ ((140737488355328 : Nat) : Int)) ∧ (loopW (S := ((Unit × (Int × Unit)) × ((List Int) × Unit))) (fun s => (fun next => ((inK IntKind.i64 s.1.2.1) → ((T.ok (T.sl (T.int IntKind.i64)) s.2.1) → (cnd (decide (s.1.2.1 < (((List.length a) : Nat) : Int))) (((0 : Int) ≤ s.1.2.1) ∧ ((s.1.2.1 < (((List.length a) : Nat) : Int)) ∧ (((0 : Int) ≤ s.1.2.1) ∧ ((s.1.2.1 < (((List.length s.2.1) : Nat) : Int)) ∧ ((inK IntKind.i64 (s.1.2.1 + (1 : Int))) ∧ (next (((), ((s.1.2.1 + (1 : Int)), ())), ((List.set s.2.1 (Int.toNat s.1.2.1) (List.getD a (Int.toNat s.1.2.1) (0 : Int))), ())))))))) (K (s.2.1, ()))))))) (((), ((0 : Int), ())), ((List.replicate (Int.toNat (((List.length a) : Nat) : Int)) (0 : Int)), ())))))))
theorem w_laws_toInt64S (x : denL c_laws_toInt64S.args) (K : (List Int) × Unit → Prop) : evF tab (lkp []) (cutL []) Try.f29 (bodyOf Try.f29) (.s .n (.s .n (.s (.s .n (.l [(3, (.ref 7 [])), (4, (.d (.int .i64)))] [(7, (.sl (.fz (.int .i64))))] [0] .n)) .n))) c_laws_toInt64S x K = W_laws_toInt64S x.1 K := by kernel_rfl
theorem k_laws_toInt64S : okC Try.f29.ntmps (cutL []) (bodyOf Try.f29) = true := by kernel_rfl
theorem m_laws_toInt64S (a : List Int) (hok : allP (okL c_laws_toInt64S.args (a, ()))) (hpre : allP (c_laws_toInt64S.pre (a, ()))) : W_laws_toInt64S a (fun r => r = c_laws_toInt64S.res (a, ())) := by
  simp only [c_laws_toInt64S, okL, T.oks, T.ok, ap, allP, true_and, and_true, implies_true] at hok hpre
  try dsimp only [T.den] at hok
  try dsimp only [T.den] at hpre
  unfold W_laws_toInt64S
  rw [wR_sl] at hpre
  refine ⟨by omega, by omega, by first | omega | (rw [nb_eq]; omega), by first | omega | (rw [nb_eq]; omega), ?_⟩
  refine loop_of (fun (s : ((Unit × (Int × Unit)) × ((List Int) × Unit))) => 0 ≤ s.1.2.1 ∧ s.1.2.1 ≤ a.length ∧ s.2.1.length = a.length ∧ s.2.1.take s.1.2.1.toNat = a.take s.1.2.1.toNat) (fun (s : ((Unit × (Int × Unit)) × ((List Int) × Unit))) => (a.length - s.1.2.1).toNat) ?_ (by simp)
  rintro ⟨⟨_, i, _⟩, l, _⟩ next ⟨h0, h1, h2, h3⟩ hn hin hl
  simp only at h0 h1 h2 h3 hn ⊢
  refine cnd_d (fun hc => ?_) (fun hc => ?_)
  · refine ⟨by omega, by omega, by omega, by omega, by grind [cnd, nb_eq, inK64], hn _ ⟨(by first | omega | (dsimp only; omega)), (by first | omega | (dsimp only; omega)), by simp [h2], ?_⟩ (by first | omega | (dsimp only; omega))⟩
    simp only
    rw [take_c a (0 : Int) h0 hc, ← h3]
    exact take_set l h0 (by omega) _
  · rw [take_n a (by omega), take_n l (by omega)] at h3
    simp [h3, c_laws_toInt64S]
theorem ct_laws_toInt64S : CtOk Try.prog 29 c_laws_toInt64S :=
  ct_by (Φ := lkp []) good_nil tab_ok (by kernel_rfl) (fn := Try.f29) (c := bodyOf Try.f29) (by kernel_rfl) (by kernel_rfl) (by kernel_rfl) c_laws_toInt64S rfl (.s .n (.s .n (.s (.s .n (.l [(3, (.ref 7 [])), (4, (.d (.int .i64)))] [(7, (.sl (.fz (.int .i64))))] [0] .n)) .n))) (cutL []) (by kernel_rfl) (by kernel_rfl) k_laws_toInt64S (by decide) (fun x K => W_laws_toInt64S x.1 K) w_laws_toInt64S (fun x h1 h2 => m_laws_toInt64S x.1 h1 h2)
def c_laws_toInt64SS : Ct := ⟨[(.sl (.sl (.int .i64)))], [false], fun x => [wR (.sl (.sl (.int .i64))) x.1 ≤ 1099511627776], [(false, (.sl (.sl (.fz (.int .i64)))))], fun x => (x.1, ()), false, none⟩
def W_laws_toInt64SS (a : List (List Int)) (K : (List (List Int)) × Unit → Prop) : Prop := (((0 : Int) ≤ (((List.length a) : Nat) : Int)) ∧ (((((List.length a) : Nat) : Int) ≤ (((List.length a) : Nat) : Int)) ∧ (((((List.length a) : Nat) : Int) ≤ ((140737488355328 : Nat) : Int)) ∧ ((((((List.length a) : Nat) : Int) * ((24 : Nat) : Int)) ≤ ((140737488355328 : Nat) : Int)) ∧ (loopW (S := ((Unit × (Int × Unit)) × ((List (List Int)) × Unit))) (fun s => (fun next => ((inK IntKind.i64 s.1.2.1) → ((T.ok (T.sl (T.sl (T.int IntKind.i64))) s.2.1) → (cnd (decide (s.1.2.1 < (((List.length a) : Nat) : Int))) (((0 : Int) ≤ s.1.2.1) ∧ ((s.1.2.1 < (((List.length a) : Nat) : Int)) ∧ (((wR (T.sl (T.int IntKind.i64)) (List.getD a (Int.toNat s.1.2.1) ([] : List Int))) ≤ 1099511627776) ∧ (((0 : Int) ≤ s.1.2.1) ∧ ((s.1.2.1 < (((List.length s.2.1) : Nat) : Int)) ∧ ((inK IntKind.i64 (s.1.2.1 + (1 : Int))) ∧ (next (((), ((s.1.2.1 + (1 : Int)), ())), ((List.set s.2.1 (Int.toNat s.1.2.1) (List.getD a (Int.toNat s.1.2.1) ([] : List Int))), ()))))))))) (K (s.2.1, ()))))))) (((), ((0 : Int), ())), ((List.replicate (Int.toNat (((List.length a) : Nat) : Int)) ([] : List Int)), ())))))))
theorem w_laws_toInt64SS (x : denL c_laws_toInt64SS.args) (K : (List (List Int)) × Unit → Prop) : evF tab (lkp [(29, c_laws_toInt64S)]) (cutL []) Try.f45 (bodyOf Try.f45) (.s .n (.s .n (.s (.s .n (.l [(3, (.ref 7 [])), (4, (.d (.int .i64)))] [(7, (.sl (.sl (.fz (.int .i64)))))] [0] .n)) .n))) c_laws_toInt64SS x K = W_laws_toInt64SS x.1 K := by kernel_rfl
theorem k_laws_toInt64SS : okC Try.f45.ntmps (cutL []) (bodyOf Try.f45) = true := by kernel_rfl
theorem m_laws_toInt64SS (a : List (List Int)) (hok : allP (okL c_laws_toInt64SS.args (a, ()))) (hpre : allP (c_laws_toInt64SS.pre (a, ()))) : W_laws_toInt64SS a (fun r => r = c_laws_toInt64SS.res (a, ())) := by
  simp only [c_laws_toInt64SS, okL, T.oks, T.ok, ap, allP, true_and, and_true, implies_true] at hok hpre
  try dsimp only [T.den] at hok
  try dsimp only [T.den] at hpre
  unfold W_laws_toInt64SS
  rw [wR_sl] at hpre
  refine ⟨by omega, by omega, by first | omega | (rw [nb_eq]; omega), by first | omega | (rw [nb_eq]; omega), ?_⟩
  refine loop_of (fun (s : ((Unit × (Int × Unit)) × ((List (List Int)) × Unit))) => 0 ≤ s.1.2.1 ∧ s.1.2.1 ≤ a.length ∧ s.2.1.length = a.length ∧ s.2.1.take s.1.2.1.toNat = a.take s.1.2.1.toNat) (fun (s : ((Unit × (Int × Unit)) × ((List (List Int)) × Unit))) => (a.length - s.1.2.1).toNat) ?_ (by simp)
  rintro ⟨⟨_, i, _⟩, l, _⟩ next ⟨h0, h1, h2, h3⟩ hn hin hl
  simp only at h0 h1 h2 h3 hn ⊢
  refine cnd_d (fun hc => ?_) (fun hc => ?_)
  · have hm := wR_mem (e := (.sl (.int .i64))) (getD_mem a ([] : List Int) h0 hc)
    refine ⟨by omega, by omega, by omega, by omega, by omega, by grind [cnd, nb_eq, inK64], hn _ ⟨(by first | omega | (dsimp only; omega)), (by first | omega | (dsimp only; omega)), by simp [h2], ?_⟩ (by first | omega | (dsimp only; omega))⟩
    simp only
    rw [take_c a ([] : List Int) h0 hc, ← h3]
    exact take_set l h0 (by omega) _
  · rw [take_n a (by omega), take_n l (by omega)] at h3
    simp [h3, c_laws_toInt64SS]
theorem ct_laws_toInt64SS : CtOk Try.prog 45 c_laws_toInt64SS :=
  ct_by (Φ := lkp [(29, c_laws_toInt64S)]) (good_cons ct_laws_toInt64S good_nil) tab_ok (by kernel_rfl) (fn := Try.f45) (c := bodyOf Try.f45) (by kernel_rfl) (by kernel_rfl) (by kernel_rfl) c_laws_toInt64SS rfl (.s .n (.s .n (.s (.s .n (.l [(3, (.ref 7 [])), (4, (.d (.int .i64)))] [(7, (.sl (.sl (.fz (.int .i64)))))] [0] .n)) .n))) (cutL []) (by kernel_rfl) (by kernel_rfl) k_laws_toInt64SS (by decide) (fun x K => W_laws_toInt64SS x.1 K) w_laws_toInt64SS (fun x h1 h2 => m_laws_toInt64SS x.1 h1 h2)
def c_laws_toCategory : Ct := ⟨[CategoryT], [true], fun x => [wR CategoryT x.1 ≤ 1099511627776], [(true, CategoryO)], fun x => (x.1, ()), false, none⟩
def W_laws_toCategory (a : CategoryD) (K : CategoryD × Unit → Prop) : Prop := (((wR (T.sl (T.int IntKind.i64)) a.2.1) ≤ 1099511627776) ∧ (((wR (T.sl (T.int IntKind.i64)) a.2.2.1) ≤ 1099511627776) ∧ (((wR (T.sl (T.int IntKind.i64)) a.2.2.2.1) ≤ 1099511627776) ∧ (((wR (T.sl (T.sl (T.int IntKind.i64))) a.2.2.2.2) ≤ 1099511627776) ∧ (K (a, ()))))))
theorem w_laws_toCategory (x : denL c_laws_toCategory.args) (K : CategoryD × Unit → Prop) : evF tab (lkp [(29, c_laws_toInt64S), (45, c_laws_toInt64SS)]) (cutL []) Try.f21 (bodyOf Try.f21) .n c_laws_toCategory x K = W_laws_toCategory x.1 K := by kernel_rfl
theorem k_laws_toCategory : okC Try.f21.ntmps (cutL []) (bodyOf Try.f21) = true := by kernel_rfl
theorem m_laws_toCategory (a : CategoryD) (hok : allP (okL c_laws_toCategory.args (a, ()))) (hpre : allP (c_laws_toCategory.pre (a, ()))) : W_laws_toCategory a (fun r => r = c_laws_toCategory.res (a, ())) := by
  simp only [c_laws_toCategory, okL, T.oks, T.ok, ap, allP, true_and, and_true, implies_true] at hok hpre
  try dsimp only [T.den] at hok
  try dsimp only [T.den] at hpre
  unfold W_laws_toCategory
  simp only [wR_p, wR_int, wR_bool] at hpre
  repeat' apply And.intro
  all_goals first | rfl | ((try simp only [wR_p, wR_int, wR_bool]); omega)
theorem ct_laws_toCategory : CtOk Try.prog 21 c_laws_toCategory :=
  ct_by (Φ := lkp [(29, c_laws_toInt64S), (45, c_laws_toInt64SS)]) (good_cons ct_laws_toInt64S (good_cons ct_laws_toInt64SS good_nil)) tab_ok (by kernel_rfl) (fn := Try.f21) (c := bodyOf Try.f21) (by kernel_rfl) (by kernel_rfl) (by kernel_rfl) c_laws_toCategory rfl .n (cutL []) (by kernel_rfl) (by kernel_rfl) k_laws_toCategory (by decide) (fun x K => W_laws_toCategory x.1 K) w_laws_toCategory (fun x h1 h2 => m_laws_toCategory x.1 h1 h2)
def c_laws_toFunctor : Ct := ⟨[FunctorT], [true], fun x => [wR FunctorT x.1 ≤ 1099511627776], [(true, FunctorO)], fun x => (x.1, ()), false, none⟩
def W_laws_toFunctor (a : FunctorD) (K : FunctorD × Unit → Prop) : Prop := (((wR CategoryT a.1) ≤ 1099511627776) ∧ (((wR CategoryT a.2.1) ≤ 1099511627776) ∧ (((wR (T.sl (T.int IntKind.i64)) a.2.2.1) ≤ 1099511627776) ∧ (((wR (T.sl (T.int IntKind.i64)) a.2.2.2) ≤ 1099511627776) ∧ (K (a, ()))))))
theorem w_laws_toFunctor (x : denL c_laws_toFunctor.args) (K : FunctorD × Unit → Prop) : evF tab (lkp [(21, c_laws_toCategory), (29, c_laws_toInt64S)]) (cutL []) Try.f38 (bodyOf Try.f38) .n c_laws_toFunctor x K = W_laws_toFunctor x.1 K := by kernel_rfl
theorem k_laws_toFunctor : okC Try.f38.ntmps (cutL []) (bodyOf Try.f38) = true := by kernel_rfl
theorem m_laws_toFunctor (a : FunctorD) (hok : allP (okL c_laws_toFunctor.args (a, ()))) (hpre : allP (c_laws_toFunctor.pre (a, ()))) : W_laws_toFunctor a (fun r => r = c_laws_toFunctor.res (a, ())) := by
  simp only [c_laws_toFunctor, okL, T.oks, T.ok, ap, allP, true_and, and_true, implies_true] at hok hpre
  try dsimp only [T.den] at hok
  try dsimp only [T.den] at hpre
  unfold W_laws_toFunctor
  simp only [wR_p, wR_int, wR_bool] at hpre
  repeat' apply And.intro
  all_goals first | rfl | ((try simp only [wR_p, wR_int, wR_bool]); omega)
theorem ct_laws_toFunctor : CtOk Try.prog 38 c_laws_toFunctor :=
  ct_by (Φ := lkp [(21, c_laws_toCategory), (29, c_laws_toInt64S)]) (good_cons ct_laws_toCategory (good_cons ct_laws_toInt64S good_nil)) tab_ok (by kernel_rfl) (fn := Try.f38) (c := bodyOf Try.f38) (by kernel_rfl) (by kernel_rfl) (by kernel_rfl) c_laws_toFunctor rfl .n (cutL []) (by kernel_rfl) (by kernel_rfl) k_laws_toFunctor (by decide) (fun x K => W_laws_toFunctor x.1 K) w_laws_toFunctor (fun x h1 h2 => m_laws_toFunctor x.1 h1 h2)
def c_spec_l01Index : Ct := ⟨[(.sl (.int .i64)), (.int .i64)], [false, false], fun x => [], [(false, (.fz (.int .i64)))], fun x => (idxR x.1 x.2.1, ()), false, none⟩
def W_spec_l01Index (list : List Int) (n : Int) (K : Int × Unit → Prop) : Prop := (loopW (S := ((Int × Unit) × Unit)) (fun s => (fun next => ((inK IntKind.i64 s.1.1) → (cnd (decide (s.1.1 < (((List.length list) : Nat) : Int))) (((0 : Int) ≤ s.1.1) ∧ ((s.1.1 < (((List.length list) : Nat) : Int)) ∧ (cnd ((List.getD list (Int.toNat s.1.1) (0 : Int)) == n) (K (s.1.1, ())) ((inK IntKind.i64 (s.1.1 + (1 : Int))) ∧ (next (((s.1.1 + (1 : Int)), ()), ())))))) (K ((-(1 : Int)), ())))))) (((0 : Int), ()), ()))
theorem w_spec_l01Index (x : denL c_spec_l01Index.args) (K : Int × Unit → Prop) : evF tab (lkp []) (cutL []) Try.f156 (bodyOf Try.f156) (.s .n (.s (.s .n (.l [(5, (.d (.int .i64)))] [] [0, 1] .n)) .n)) c_spec_l01Index x K = W_spec_l01Index x.1 x.2.1 K := by kernel_rfl
theorem k_spec_l01Index : okC Try.f156.ntmps (cutL []) (bodyOf Try.f156) = true := by kernel_rfl
theorem m_spec_l01Index (list : List Int) (n : Int) (hok : allP (okL c_spec_l01Index.args (list, n, ()))) (hpre : allP (c_spec_l01Index.pre (list, n, ()))) : W_spec_l01Index list n (fun r => r = c_spec_l01Index.res (list, n, ())) := by
  simp only [c_spec_l01Index, okL, T.oks, T.ok, ap, allP, true_and, and_true, implies_true] at hok hpre
  try dsimp only [T.den] at hok
  try dsimp only [T.den] at hpre
  unfold W_spec_l01Index
  have hl : list.length ≤ 140737488355328 := by simp only [nb_eq] at hok; omega
  clear hok
  refine loop_ix (n := list.length) (fun i => ∀ k : Int, 0 ≤ k → k < i → list.getD k.toNat 0 ≠ n) (by omega) (by intro k h0 h1; omega) ?_ ?_
  · intro i next i0 i1 hP hn _
    try dsimp only
    refine cnd_d (fun _ => ⟨i0, i1, cnd_of (fun hx => ?_) (fun hx => ⟨by rw [inK64]; (try dsimp only); omega, hn fun k k0 k1 => ?_⟩)⟩) (fun h => absurd i1 h)
    · have : idxR list n = i := idx_at (z := (0 : Int)) i0 i1 (by simpa using hx) hP
      simp only [c_spec_l01Index, this]
    · by_cases hk : k = i
      · subst hk
        simpa using hx
      · exact hP k k0 (by omega)
  · intro next hP _
    refine cnd_d (fun h => absurd h (Int.lt_irrefl _)) (fun _ => ?_)
    have : idxR list n = -1 := idx_no (z := (0 : Int)) hP
    simp only [c_spec_l01Index, this]
theorem ct_spec_l01Index : CtOk Try.prog 156 c_spec_l01Index :=
  ct_by (Φ := lkp []) good_nil tab_ok (by kernel_rfl) (fn := Try.f156) (c := bodyOf Try.f156) (by kernel_rfl) (by kernel_rfl) (by kernel_rfl) c_spec_l01Index rfl (.s .n (.s (.s .n (.l [(5, (.d (.int .i64)))] [] [0, 1] .n)) .n)) (cutL []) (by kernel_rfl) (by kernel_rfl) k_spec_l01Index (by decide) (fun x K => W_spec_l01Index x.1 x.2.1 K) w_spec_l01Index (fun x h1 h2 => m_spec_l01Index x.1 x.2.1 h1 h2)
def c_spec_l01Classes : Ct := ⟨[(.sl (.int .i64))], [false], fun x => [x.1.length ≤ 1099511627776], [(false, (.sl (.fz (.int .i64))))], fun x => (normR x.1, ()), false, none⟩
def W_spec_l01Classes (labels : List Int) (K : (List Int) × Unit → Prop) : Prop := (loopW (S := ((Unit × (Unit × (Int × Unit))) × ((List Int) × ((List Int) × Unit)))) (fun s => (fun next => ((inK IntKind.i64 s.1.2.2.1) → ((T.ok (T.sl (T.int IntKind.i64)) s.2.1) → ((T.ok (T.sl (T.int IntKind.i64)) s.2.2.1) → (cnd (decide (s.1.2.2.1 < (((List.length labels) : Nat) : Int))) (((0 : Int) ≤ s.1.2.2.1) ∧ ((s.1.2.2.1 < (((List.length labels) : Nat) : Int)) ∧ (joinW (S := ((Unit × (Unit × (Int × Unit))) × ((List Int) × ((List Int) × Unit)))) (fun s1 => ((inK IntKind.i64 s1.1.2.2.1) → ((T.ok (T.sl (T.int IntKind.i64)) s1.2.1) → ((T.ok (T.sl (T.int IntKind.i64)) s1.2.2.1) → ((room (List.length s1.2.1) (List.length (s1.1.2.2.1 :: ([] : List Int))) 8) ∧ ((inK IntKind.i64 (s.1.2.2.1 + (1 : Int))) ∧ (next (((), ((), ((s.1.2.2.1 + (1 : Int)), ()))), ((s1.2.1 ++ (s1.1.2.2.1 :: ([] : List Int))), (s1.2.2.1, ())))))))))) (fun k => (cnd (decide ((idxR s.2.2.1 (List.getD labels (Int.toNat s.1.2.2.1) (0 : Int))) < (0 : Int))) (((0 : Int) ≤ s.1.2.2.1) ∧ ((s.1.2.2.1 < (((List.length labels) : Nat) : Int)) ∧ ((room (List.length s.2.2.1) (List.length ((List.getD labels (Int.toNat s.1.2.2.1) (0 : Int)) :: ([] : List Int))) 8) ∧ (k (((), ((), ((((List.length s.2.2.1) : Nat) : Int), ()))), (s.2.1, ((s.2.2.1 ++ ((List.getD labels (Int.toNat s.1.2.2.1) (0 : Int)) :: ([] : List Int))), ()))))))) (k (((), ((), ((idxR s.2.2.1 (List.getD labels (Int.toNat s.1.2.2.1) (0 : Int))), ()))), (s.2.1, (s.2.2.1, ()))))))))) (K (s.2.1, ())))))))) (((), ((), ((0 : Int), ()))), (([] : List Int), (([] : List Int), ()))))
theorem w_spec_l01Classes (x : denL c_spec_l01Classes.args) (K : (List Int) × Unit → Prop) : evF tab (lkp [(156, c_spec_l01Index)]) (cutL []) Try.f145 (bodyOf Try.f145) (.s .n (.s .n (.s (.s .n (.l [(3, (.ref 800003 [])), (4, (.ref 800004 [])), (5, (.d (.int .i64)))] [(800003, (.sl (.fz (.int .i64)))), (800004, (.sl (.fz (.int .i64))))] [0] (.s .n (.s (.s .n (.s (.s .n (.j [(3, (.ref 800003 [])), (4, (.ref 800004 [])), (6, (.d (.int .i64)))] [(800003, (.sl (.fz (.int .i64)))), (800004, (.sl (.fz (.int .i64))))] [0, 5] .n)) .n)) .n)))) .n))) c_spec_l01Classes x K = W_spec_l01Classes x.1 K := by kernel_rfl
theorem k_spec_l01Classes : okC Try.f145.ntmps (cutL []) (bodyOf Try.f145) = true := by kernel_rfl
theorem m_spec_l01Classes (labels : List Int) (hok : allP (okL c_spec_l01Classes.args (labels, ()))) (hpre : allP (c_spec_l01Classes.pre (labels, ()))) : W_spec_l01Classes labels (fun r => r = c_spec_l01Classes.res (labels, ())) := by
  simp only [c_spec_l01Classes, okL, T.oks, T.ok, ap, allP, true_and, and_true, implies_true] at hok hpre
  try dsimp only [T.den] at hok
  try dsimp only [T.den] at hpre
  unfold W_spec_l01Classes
  have hl : labels.length ≤ 1099511627776 := hpre
  clear hok
  refine loop_of (fun (s : ((Unit × (Unit × (Int × Unit))) × ((List Int) × ((List Int) × Unit)))) => 0 ≤ s.1.2.2.1 ∧ s.1.2.2.1 ≤ labels.length ∧ s.2.2.1 = dedR (labels.take s.1.2.2.1.toNat) ∧ s.2.1 = (labels.take s.1.2.2.1.toNat).map (idxR (dedR labels))) (fun (s : ((Unit × (Unit × (Int × Unit))) × ((List Int) × ((List Int) × Unit)))) => (labels.length - s.1.2.2.1).toNat) ?_ ⟨by simp, by simp, rfl, rfl⟩
  rintro ⟨⟨_, _, i, _⟩, out, seen, _⟩ next ⟨i0, i1, hM, ho⟩ hn _ _ _
  try dsimp only at i0 i1 hM ho hn ⊢
  refine cnd_d (fun hc => ?_) (fun hc => ?_)
  · have hs := @ded_s labels i i0 hc
    have hex := @ded_ext labels (i + 1).toNat (labels.getD i.toNat 0)
    have hml : seen.length ≤ labels.length := by
      rw [hM]; have := ded_len (labels.take i.toNat) []; rw [List.length_take] at this; simp only [List.length_nil] at this; unfold dedR; omega
    have hol : out.length ≤ labels.length := by rw [ho, List.length_map, List.length_take]; omega
    have hout : (labels.take (i + 1).toNat).map (idxR (dedR labels)) = out ++ [idxR (dedR labels) (labels.getD i.toNat 0)] := by
      rw [take_c labels 0 i0 hc, List.map_append, ← ho]; rfl
    rw [hs, ← hM] at hex
    rw [← hM] at hs
    generalize labels.getD i.toNat 0 = k at *
    refine ⟨i0, hc, ?_⟩
    refine join_of (fun (s : ((Unit × (Unit × (Int × Unit))) × ((List Int) × ((List Int) × Unit)))) => s.2.2.1 = dedSt seen k ∧ s.1.2.2.1 = idxR (dedR labels) k ∧ s.2.1 = out) (fun s ⟨s1, s2, s3⟩ _ _ _ => ?_) (fun kk hk => ?_)
    · rw [s3, s2]
      refine ⟨room_of (by simp only [List.length_cons, List.length_nil]; omega), by rw [inK64]; (try dsimp only); omega, hn _ ⟨by dsimp only; omega, by dsimp only; omega, by dsimp only; rw [hs]; exact s1, by dsimp only; rw [hout]⟩ (by dsimp only; omega)⟩
    refine cnd_d (fun hx => ?_) (fun hx => ?_)
    · have hd : dedSt seen k = seen ++ [k] := by unfold dedSt; rw [if_pos hx]
      have hi := idx_new hx
      rw [hd] at hex hk
      rw [hi] at hex
      exact ⟨i0, hc, room_of (by simp only [List.length_cons, List.length_nil]; omega), hk _ ⟨rfl, (hex (by omega)).symm, rfl⟩⟩
    · have hd : dedSt seen k = seen := by unfold dedSt; rw [if_neg hx]
      rw [hd] at hex hk
      exact hk _ ⟨rfl, (hex (by omega)).symm, rfl⟩
  · have e : i = labels.length := by omega
    subst e
    simp only [c_spec_l01Classes, normR]
    rw [ho, take_n _ (Int.le_refl _)]
theorem ct_spec_l01Classes : CtOk Try.prog 145 c_spec_l01Classes :=
  ct_by (Φ := lkp [(156, c_spec_l01Index)]) (good_cons ct_spec_l01Index good_nil) tab_ok (by kernel_rfl) (fn := Try.f145) (c := bodyOf Try.f145) (by kernel_rfl) (by kernel_rfl) (by kernel_rfl) c_spec_l01Classes rfl (.s .n (.s .n (.s (.s .n (.l [(3, (.ref 800003 [])), (4, (.ref 800004 [])), (5, (.d (.int .i64)))] [(800003, (.sl (.fz (.int .i64)))), (800004, (.sl (.fz (.int .i64))))] [0] (.s .n (.s (.s .n (.s (.s .n (.j [(3, (.ref 800003 [])), (4, (.ref 800004 [])), (6, (.d (.int .i64)))] [(800003, (.sl (.fz (.int .i64)))), (800004, (.sl (.fz (.int .i64))))] [0, 5] .n)) .n)) .n)))) .n))) (cutL []) (by kernel_rfl) (by kernel_rfl) k_spec_l01Classes (by decide) (fun x K => W_spec_l01Classes x.1 K) w_spec_l01Classes (fun x h1 h2 => m_spec_l01Classes x.1 h1 h2)
structure PrsP (n : Int) (l : List (List Int)) : Prop where
  len : l.length ≤ 1099511627776
  e : ∀ k : Int, 0 ≤ k → k < l.length → 2 ≤ (l.getD k.toNat []).length ∧ (0 ≤ (l.getD k.toNat []).getD 0 0 ∧ (l.getD k.toNat []).getD 0 0 < n) ∧ (0 ≤ (l.getD k.toNat []).getD 1 0 ∧ (l.getD k.toNat []).getD 1 0 < n)
def mrgR (l : List Int) (a b : Int) : List Int := tabN l.length fun z => if l.getD z.toNat 0 = b then a else l.getD z.toNat 0
def mrgSt (l : List Int) (p : List Int) : List Int := mrgR l (l.getD (p.getD 0 0).toNat 0) (l.getD (p.getD 1 0).toNat 0)
def labJR (n : Int) (pairs : List (List Int)) : List Int := pairs.foldl mrgSt (numR n)
theorem tab_id {l : List Int} : (tabN l.length fun z => l.getD z.toNat 0) = l := by
  apply List.ext_getElem?
  intro k
  by_cases hk : k < l.length
  · have h1 := @tabN_get Int (fun z => l.getD z.toNat 0) 0 k l.length (by omega) (by omega)
    rw [Int.toNat_natCast, List.getD_eq_getElem?_getD, List.getElem?_eq_getElem (by rw [tabN_len]; exact hk)] at h1
    rw [List.getElem?_eq_getElem (by rw [tabN_len]; exact hk), List.getElem?_eq_getElem hk]
    simp only [Option.getD_some] at h1
    rw [h1, List.getD_eq_getElem?_getD, List.getElem?_eq_getElem hk]; rfl
  · rw [List.getElem?_eq_none (by rw [tabN_len]; omega), List.getElem?_eq_none (by omega)]
theorem mrg_eq {l : List Int} {a : Int} : mrgR l a a = l := by
  unfold mrgR
  conv => rhs; rw [← @tab_id l]
  refine tabN_congr fun z _ _ => ?_
  split
  · rename_i h; exact h.symm
  · rfl
theorem mrg_len {l : List Int} {a b : Int} : (mrgR l a b).length = l.length := by unfold mrgR; rw [tabN_len]
theorem lab_len {n : Int} : ∀ (p : List (List Int)) (l : List Int), l.length = n.toNat → (p.foldl mrgSt l).length = n.toNat
  | [], l, h => h
  | e :: r, l, h => by rw [List.foldl_cons]; exact lab_len r _ (by unfold mrgSt; rw [mrg_len]; exact h)
theorem lab_s {n : Int} {p : List (List Int)} {i : Int} (i0 : 0 ≤ i) (i1 : i < p.length) : labJR n (p.take (i + 1).toNat) = mrgSt (labJR n (p.take i.toNat)) (p.getD i.toNat []) := by
  unfold labJR; rw [take_c p [] i0 i1, List.foldl_append]; rfl

def c_spec_l01Join : Ct := ⟨[(.int .i64), (.sl (.sl (.int .i64)))], [false, false], fun x => [0 ≤ x.1, x.1 ≤ 1099511627776, PrsP x.1 x.2.1], [(false, (.sl (.fz (.int .i64))))], fun x => (normR (labJR x.1 x.2.1), ()), false, none⟩
def W_spec_l01Join (n : Int) (pairs : List (List Int)) (K : (List Int) × Unit → Prop) : Prop := (loopW (S := ((Unit × (Int × Unit)) × ((List Int) × Unit))) (fun s => (fun next => ((inK IntKind.i64 s.1.2.1) → ((T.ok (T.sl (T.int IntKind.i64)) s.2.1) → (cnd (decide (s.1.2.1 < n)) ((room (List.length s.2.1) (List.length (s.1.2.1 :: ([] : List Int))) 8) ∧ ((inK IntKind.i64 (s.1.2.1 + (1 : Int))) ∧ (next (((), ((s.1.2.1 + (1 : Int)), ())), ((s.2.1 ++ (s.1.2.1 :: ([] : List Int))), ()))))) (loopW (S := ((Unit × (Int × Unit)) × ((List Int) × Unit))) (fun s1 => (fun next1 => ((inK IntKind.i64 s1.1.2.1) → ((T.ok (T.sl (T.int IntKind.i64)) s1.2.1) → (cnd (decide (s1.1.2.1 < (((List.length pairs) : Nat) : Int))) (((0 : Int) ≤ s1.1.2.1) ∧ ((s1.1.2.1 < (((List.length pairs) : Nat) : Int)) ∧ (((0 : Int) ≤ (0 : Int)) ∧ (((0 : Int) < (((List.length (List.getD pairs (Int.toNat s1.1.2.1) ([] : List Int))) : Nat) : Int)) ∧ (((0 : Int) ≤ (List.getD (List.getD pairs (Int.toNat s1.1.2.1) ([] : List Int)) (Int.toNat (0 : Int)) (0 : Int))) ∧ (((List.getD (List.getD pairs (Int.toNat s1.1.2.1) ([] : List Int)) (Int.toNat (0 : Int)) (0 : Int)) < (((List.length s1.2.1) : Nat) : Int)) ∧ (((0 : Int) ≤ s1.1.2.1) ∧ ((s1.1.2.1 < (((List.length pairs) : Nat) : Int)) ∧ (((0 : Int) ≤ (1 : Int)) ∧ (((1 : Int) < (((List.length (List.getD pairs (Int.toNat s1.1.2.1) ([] : List Int))) : Nat) : Int)) ∧ (((0 : Int) ≤ (List.getD (List.getD pairs (Int.toNat s1.1.2.1) ([] : List Int)) (Int.toNat (1 : Int)) (0 : Int))) ∧ (((List.getD (List.getD pairs (Int.toNat s1.1.2.1) ([] : List Int)) (Int.toNat (1 : Int)) (0 : Int)) < (((List.length s1.2.1) : Nat) : Int)) ∧ (loopW (S := ((Unit × (Int × Unit)) × ((List Int) × Unit))) (fun s2 => (fun next2 => ((inK IntKind.i64 s2.1.2.1) → ((T.ok (T.sl (T.int IntKind.i64)) s2.2.1) → (cnd ((decide (s2.1.2.1 < (((List.length s2.2.1) : Nat) : Int))) && ((List.getD s1.2.1 (Int.toNat (List.getD (List.getD pairs (Int.toNat s1.1.2.1) ([] : List Int)) (Int.toNat (0 : Int)) (0 : Int))) (0 : Int)) != (List.getD s1.2.1 (Int.toNat (List.getD (List.getD pairs (Int.toNat s1.1.2.1) ([] : List Int)) (Int.toNat (1 : Int)) (0 : Int))) (0 : Int)))) (((0 : Int) ≤ s2.1.2.1) ∧ ((s2.1.2.1 < (((List.length s2.2.1) : Nat) : Int)) ∧ (joinW (S := ((Unit × Unit) × ((List Int) × Unit))) (fun s3 => ((T.ok (T.sl (T.int IntKind.i64)) s3.2.1) → ((inK IntKind.i64 (s2.1.2.1 + (1 : Int))) ∧ (next2 (((), ((s2.1.2.1 + (1 : Int)), ())), (s3.2.1, ())))))) (fun k => (cnd ((List.getD s2.2.1 (Int.toNat s2.1.2.1) (0 : Int)) == (List.getD s1.2.1 (Int.toNat (List.getD (List.getD pairs (Int.toNat s1.1.2.1) ([] : List Int)) (Int.toNat (1 : Int)) (0 : Int))) (0 : Int))) (((0 : Int) ≤ s2.1.2.1) ∧ ((s2.1.2.1 < (((List.length s2.2.1) : Nat) : Int)) ∧ (k (((), ()), ((List.set s2.2.1 (Int.toNat s2.1.2.1) (List.getD s1.2.1 (Int.toNat (List.getD (List.getD pairs (Int.toNat s1.1.2.1) ([] : List Int)) (Int.toNat (0 : Int)) (0 : Int))) (0 : Int))), ()))))) (k (((), ()), (s2.2.1, ())))))))) ((inK IntKind.i64 (s1.1.2.1 + (1 : Int))) ∧ (next1 (((), ((s1.1.2.1 + (1 : Int)), ())), (s2.2.1, ()))))))))) (((), ((0 : Int), ())), (s1.2.1, ()))))))))))))))) (((List.length s1.2.1) ≤ 1099511627776) ∧ (K ((normR s1.2.1), ())))))))) (((), ((0 : Int), ())), (s.2.1, ())))))))) (((), ((0 : Int), ())), (([] : List Int), ())))
theorem w_spec_l01Join (x : denL c_spec_l01Join.args) (K : (List Int) × Unit → Prop) : evF tab (lkp [(145, c_spec_l01Classes)]) (cutL [(9, 19)]) Try.f120 (bodyOf Try.f120) (.s .n (.s .n (.s (.s .n (.l [(5, (.ref 800005 [])), (6, (.d (.int .i64)))] [(800005, (.sl (.fz (.int .i64))))] [0, 1] .n)) (.s (.s .n (.l [(5, (.ref 800005 [])), (7, (.d (.int .i64)))] [(800005, (.sl (.fz (.int .i64))))] [1] (.s .n (.s (.s .n (.s .n (.l [(5, (.ref 800005 [])), (10, (.d (.int .i64)))] [(800005, (.sl (.fz (.int .i64))))] [1, 7, 8, 9] (.s .n (.s (.s .n (.j [(5, (.ref 800005 []))] [(800005, (.sl (.fz (.int .i64))))] [1, 7, 8, 9, 10] .n)) .n))))) .n)))) .n)))) c_spec_l01Join x K = W_spec_l01Join x.1 x.2.1 K := by kernel_rfl
theorem k_spec_l01Join : okC Try.f120.ntmps (cutL [(9, 19)]) (bodyOf Try.f120) = true := by kernel_rfl
theorem m_spec_l01Join (n : Int) (pairs : List (List Int)) (hok : allP (okL c_spec_l01Join.args (n, pairs, ()))) (hpre : allP (c_spec_l01Join.pre (n, pairs, ()))) : W_spec_l01Join n pairs (fun r => r = c_spec_l01Join.res (n, pairs, ())) := by
  simp only [c_spec_l01Join, okL, T.oks, T.ok, ap, allP, true_and, and_true, implies_true] at hok hpre
  try dsimp only [T.den] at hok
  try dsimp only [T.den] at hpre
  unfold W_spec_l01Join
  obtain ⟨n0, n1, hp⟩ := hpre
  have hpn := hp.len
  have hpe := hp.e
  clear hok
  refine loop_ixa (fun i => tabN i.toNat fun k => k) (n := n) n0 rfl ?_ ?_
  · intro i next i0 i1 hn _ _
    try dsimp only at hn ⊢
    rw [tabN_s i0] at hn
    exact cnd_d (fun _ => ⟨room_of (by rw [tabN_len]; simp only [List.length_cons, List.length_nil]; omega), by rw [inK64]; (try dsimp only); omega, hn⟩) (fun h => absurd i1 h)
  · intro next _ _
    refine cnd_d (fun h => absurd h (Int.lt_irrefl _)) (fun _ => ?_)
    refine loop_ixa (fun i => labJR n (pairs.take i.toNat)) (n := pairs.length) (by omega) rfl ?_ ?_
    · intro i next i0 i1 hn _ _
      try dsimp only at hn ⊢
      obtain ⟨e0, ⟨e1, e2⟩, e3, e4⟩ := hpe i i0 i1
      have hl : (labJR n (pairs.take i.toNat)).length = n.toNat := lab_len _ _ (by unfold numR; rw [tabN_len])
      rw [lab_s i0 i1] at hn
      unfold mrgSt at hn
      generalize labJR n (pairs.take i.toNat) = l at *
      have hz : (0 : Int).toNat = 0 := rfl
      have hz1 : (1 : Int).toNat = 1 := rfl
      simp only [hz, hz1]
      refine cnd_d (fun _ => ⟨i0, i1, by decide, by omega, e1, by omega, i0, i1, by decide, by omega, e3, by omega, ?_⟩) (fun h => absurd i1 h)
      generalize l.getD ((pairs.getD i.toNat []).getD 0 0).toNat 0 = a at *
      generalize l.getD ((pairs.getD i.toNat []).getD 1 0).toNat 0 = b at *
      by_cases hab : a = b
      · subst hab
        rw [mrg_eq] at hn
        refine loop_of (fun (s : ((Unit × (Int × Unit)) × ((List Int) × Unit))) => s.2.1 = l) (fun _ => 0) ?_ rfl
        rintro ⟨⟨_, j, _⟩, l2, _⟩ next2 hl2 _ _ _
        try dsimp only at hl2 ⊢
        subst hl2
        refine cnd_of (fun h => ?_) (fun _ => ⟨by rw [inK64]; (try dsimp only); omega, hn⟩)
        simp at h
      · refine loop_ixa (fun j => tabN l.length fun z => if z < j then (if l.getD z.toNat 0 = b then a else l.getD z.toNat 0) else l.getD z.toNat 0) (n := l.length) (by omega) ?_ ?_ ?_
        · conv => lhs; rw [← @tab_id l]
          exact tabN_congr fun z z0 _ => (if_neg (by omega)).symm
        · intro j next2 j0 j1 hn2 _ _
          try dsimp only at hn2 ⊢
          have hg : (tabN l.length fun z => if z < j then (if l.getD z.toNat 0 = b then a else l.getD z.toNat 0) else l.getD z.toNat 0).getD j.toNat 0 = l.getD j.toNat 0 := by
            rw [tabN_get j0 j1, if_neg (by omega)]
          refine cnd_of (fun _ => ⟨j0, by rw [tabN_len]; exact j1, ?_⟩) (fun h => ?_)
          · refine join_add (tabN l.length fun z => if z < j + 1 then (if l.getD z.toNat 0 = b then a else l.getD z.toNat 0) else l.getD z.toNat 0) (fun s hs _ => ⟨by rw [inK64]; (try dsimp only); omega, by rw [hs]; exact hn2⟩) (fun k hk => ?_)
            rw [hg]
            refine cnd_of (fun hx => ⟨j0, by rw [tabN_len]; exact j1, hk _ ?_⟩) (fun hx => hk _ ?_)
            · rw [tab_set j0 j1]
              refine tabN_congr fun z z0 z1 => ?_
              by_cases h : z = j
              · subst h
                rw [if_pos rfl, if_pos (show z < z + 1 by omega), if_pos (by simpa using hx)]
              · rw [if_neg h]
                by_cases h2 : z < j
                · rw [if_pos h2, if_pos (show z < j + 1 by omega)]
                · rw [if_neg h2, if_neg (show ¬ z < j + 1 by omega)]
            · refine tabN_congr fun z z0 z1 => ?_
              by_cases h : z = j
              · subst h
                rw [if_neg (show ¬ z < z by omega), if_pos (show z < z + 1 by omega), if_neg (by simpa using hx)]
              · by_cases h2 : z < j
                · rw [if_pos h2, if_pos (show z < j + 1 by omega)]
                · rw [if_neg h2, if_neg (show ¬ z < j + 1 by omega)]
          · rw [tabN_len] at h
            simp [hab, j1] at h
        · intro next2 _ _
          try dsimp only
          refine cnd_of (fun h => ?_) (fun _ => ⟨by rw [inK64]; (try dsimp only); omega, ?_⟩)
          · rw [tabN_len] at h
            simp at h
          · have : mrgR l a b = tabN l.length fun z => if z < (l.length : Int) then (if l.getD z.toNat 0 = b then a else l.getD z.toNat 0) else l.getD z.toNat 0 := tabN_congr fun z _ z1 => by rw [if_pos z1]
            rw [this] at hn
            exact hn
    · intro next _ _
      refine cnd_d (fun h => absurd h (Int.lt_irrefl _)) (fun _ => ?_)
      rw [take_n _ (Int.le_refl _)]
      have hl : (labJR n pairs).length = n.toNat := lab_len _ _ (by unfold numR; rw [tabN_len])
      refine ⟨by rw [hl]; omega, ?_⟩
      simp only [c_spec_l01Join]
theorem ct_spec_l01Join : CtOk Try.prog 120 c_spec_l01Join :=
  ct_by (Φ := lkp [(145, c_spec_l01Classes)]) (good_cons ct_spec_l01Classes good_nil) tab_ok (by kernel_rfl) (fn := Try.f120) (c := bodyOf Try.f120) (by kernel_rfl) (by kernel_rfl) (by kernel_rfl) c_spec_l01Join rfl (.s .n (.s .n (.s (.s .n (.l [(5, (.ref 800005 [])), (6, (.d (.int .i64)))] [(800005, (.sl (.fz (.int .i64))))] [0, 1] .n)) (.s (.s .n (.l [(5, (.ref 800005 [])), (7, (.d (.int .i64)))] [(800005, (.sl (.fz (.int .i64))))] [1] (.s .n (.s (.s .n (.s .n (.l [(5, (.ref 800005 [])), (10, (.d (.int .i64)))] [(800005, (.sl (.fz (.int .i64))))] [1, 7, 8, 9] (.s .n (.s (.s .n (.j [(5, (.ref 800005 []))] [(800005, (.sl (.fz (.int .i64))))] [1, 7, 8, 9, 10] .n)) .n))))) .n)))) .n)))) (cutL [(9, 19)]) (by kernel_rfl) (by kernel_rfl) k_spec_l01Join (by decide) (fun x K => W_spec_l01Join x.1 x.2.1 K) w_spec_l01Join (fun x h1 h2 => m_spec_l01Join x.1 x.2.1 h1 h2)
def c_spec_l02Hom : Ct := ⟨[CategoryT, (.int .i64), (.int .i64)], [true, false, false], fun x => [x.1.2.1.length ≤ 40, x.1.2.2.1.length = x.1.2.1.length], [(false, (.sl (.fz (.int .i64))))], fun x => (homR x.1 x.2.1 x.2.2.1, ()), false, none⟩
def W_spec_l02Hom (c : CategoryD) (x : Int) (y : Int) (K : (List Int) × Unit → Prop) : Prop := (loopW (S := ((Unit × (Int × Unit)) × ((List Int) × Unit))) (fun s => (fun next => ((inK IntKind.i64 s.1.2.1) → ((T.ok (T.sl (T.int IntKind.i64)) s.2.1) → (cnd (decide (s.1.2.1 < (((List.length c.2.1) : Nat) : Int))) (((0 : Int) ≤ s.1.2.1) ∧ ((s.1.2.1 < (((List.length c.2.1) : Nat) : Int)) ∧ (((((List.getD c.2.1 (Int.toNat s.1.2.1) (0 : Int)) == x) = Bool.true) → ((s.1.2.1 < (((List.length c.2.2.1) : Nat) : Int)) ∧ ((0 : Int) ≤ s.1.2.1))) ∧ (joinW (S := ((Unit × Unit) × ((List Int) × Unit))) (fun s1 => ((T.ok (T.sl (T.int IntKind.i64)) s1.2.1) → ((inK IntKind.i64 (s.1.2.1 + (1 : Int))) ∧ (next (((), ((s.1.2.1 + (1 : Int)), ())), (s1.2.1, ())))))) (fun k => (cnd (((List.getD c.2.1 (Int.toNat s.1.2.1) (0 : Int)) == x) && ((List.getD c.2.2.1 (Int.toNat s.1.2.1) (0 : Int)) == y)) ((room (List.length s.2.1) (List.length (s.1.2.1 :: ([] : List Int))) 8) ∧ (k (((), ()), ((s.2.1 ++ (s.1.2.1 :: ([] : List Int))), ())))) (k (((), ()), (s.2.1, ()))))))))) (K (s.2.1, ()))))))) (((), ((0 : Int), ())), (([] : List Int), ())))
theorem w_spec_l02Hom (x : denL c_spec_l02Hom.args) (K : (List Int) × Unit → Prop) : evF tab (lkp []) (cutL []) Try.f128 (bodyOf Try.f128) (.s .n (.s .n (.s (.s .n (.l [(7, (.ref 800007 [])), (8, (.d (.int .i64)))] [(800007, (.sl (.fz (.int .i64))))] [1, 2, 3] (.s .n (.s (.s .n (.j [(7, (.ref 800007 []))] [(800007, (.sl (.fz (.int .i64))))] [1, 2, 3, 8] .n)) .n)))) .n))) c_spec_l02Hom x K = W_spec_l02Hom x.1 x.2.1 x.2.2.1 K := by kernel_rfl
theorem k_spec_l02Hom : okC Try.f128.ntmps (cutL []) (bodyOf Try.f128) = true := by kernel_rfl
theorem m_spec_l02Hom (c : CategoryD) (x : Int) (y : Int) (hok : allP (okL c_spec_l02Hom.args (c, x, y, ()))) (hpre : allP (c_spec_l02Hom.pre (c, x, y, ()))) : W_spec_l02Hom c x y (fun r => r = c_spec_l02Hom.res (c, x, y, ())) := by
  simp only [c_spec_l02Hom, okL, T.oks, T.ok, ap, allP, true_and, and_true, implies_true] at hok hpre
  try dsimp only [T.den] at hok
  try dsimp only [T.den] at hpre
  unfold W_spec_l02Hom
  have hm : c.2.1.length ≤ 40 := hpre.1
  have hlt : c.2.2.1.length = c.2.1.length := hpre.2
  refine loop_of (fun (s : ((Unit × (Int × Unit)) × ((List Int) × Unit))) => 0 ≤ s.1.2.1 ∧ s.1.2.1 ≤ c.2.1.length ∧ s.2.1 = selR s.1.2.1.toNat fun f => c.2.1.getD f.toNat 0 == x && c.2.2.1.getD f.toNat 0 == y) (fun (s : ((Unit × (Int × Unit)) × ((List Int) × Unit))) => (c.2.1.length - s.1.2.1).toNat) ?_ ⟨by simp, by simp, rfl⟩
  rintro ⟨⟨_, i, _⟩, l, _⟩ next ⟨h0, h1, h2⟩ hn hin hl
  try dsimp only at h0 h1 h2 hn ⊢
  subst h2
  refine cnd_d (fun hc => ⟨h0, hc, fun _ => by omega, join_of (fun s1 => s1.2.1 = selR (i + 1).toNat fun f => c.2.1.getD f.toNat 0 == x && c.2.2.1.getD f.toNat 0 == y) (fun s1 hs _ => ⟨by rw [inK64]; (try dsimp only); omega, hn _ ⟨(by first | omega | (dsimp only; omega)), (by first | omega | (dsimp only; omega)), hs⟩ (by first | omega | (dsimp only; omega))⟩) (fun k hk => cnd_of (fun hx => ⟨?_, hk _ ?_⟩) (fun hx => hk _ ?_))⟩) (fun hc => ?_)
  · have := sel_len (p := fun f => c.2.1.getD f.toNat 0 == x && c.2.2.1.getD f.toNat 0 == y) i.toNat
    unfold room
    rw [nb_eq]
    have h3 : (i :: ([] : List Int)).length = 1 := rfl
    rw [h3]
    omega
  · exact (sel_t h0 hx).symm
  · exact (sel_f h0 hx).symm
  · have e1 : i.toNat = c.2.1.length := by omega
    simp only [c_spec_l02Hom, homR]
    rw [e1]
theorem ct_spec_l02Hom : CtOk Try.prog 128 c_spec_l02Hom :=
  ct_by (Φ := lkp []) good_nil tab_ok (by kernel_rfl) (fn := Try.f128) (c := bodyOf Try.f128) (by kernel_rfl) (by kernel_rfl) (by kernel_rfl) c_spec_l02Hom rfl (.s .n (.s .n (.s (.s .n (.l [(7, (.ref 800007 [])), (8, (.d (.int .i64)))] [(800007, (.sl (.fz (.int .i64))))] [1, 2, 3] (.s .n (.s (.s .n (.j [(7, (.ref 800007 []))] [(800007, (.sl (.fz (.int .i64))))] [1, 2, 3, 8] .n)) .n)))) .n))) (cutL []) (by kernel_rfl) (by kernel_rfl) k_spec_l02Hom (by decide) (fun x K => W_spec_l02Hom x.1 x.2.1 x.2.2.1 K) w_spec_l02Hom (fun x h1 h2 => m_spec_l02Hom x.1 x.2.1 x.2.2.1 h1 h2)
def c_spec_l02Then : Ct := ⟨[CategoryT, (.int .i64), (.int .i64)], [true, false, false], fun x => [0 ≤ x.2.1, x.2.1 < x.1.2.2.2.2.length, 0 ≤ x.2.2.1, x.2.2.1 < (x.1.2.2.2.2.getD x.2.1.toNat []).length], [(false, (.fz (.int .i64)))], fun x => (compR x.1 x.2.1 x.2.2.1, ()), false, none⟩
def W_spec_l02Then (c : CategoryD) (f : Int) (g : Int) (K : Int × Unit → Prop) : Prop := (((0 : Int) ≤ f) ∧ ((f < (((List.length c.2.2.2.2) : Nat) : Int)) ∧ (((0 : Int) ≤ g) ∧ ((g < (((List.length (List.getD c.2.2.2.2 (Int.toNat f) ([] : List Int))) : Nat) : Int)) ∧ (K ((List.getD (List.getD c.2.2.2.2 (Int.toNat f) ([] : List Int)) (Int.toNat g) (0 : Int)), ()))))))
theorem w_spec_l02Then (x : denL c_spec_l02Then.args) (K : Int × Unit → Prop) : evF tab (lkp []) (cutL []) Try.f82 (bodyOf Try.f82) .n c_spec_l02Then x K = W_spec_l02Then x.1 x.2.1 x.2.2.1 K := by kernel_rfl
theorem k_spec_l02Then : okC Try.f82.ntmps (cutL []) (bodyOf Try.f82) = true := by kernel_rfl
theorem m_spec_l02Then (c : CategoryD) (f : Int) (g : Int) (hok : allP (okL c_spec_l02Then.args (c, f, g, ()))) (hpre : allP (c_spec_l02Then.pre (c, f, g, ()))) : W_spec_l02Then c f g (fun r => r = c_spec_l02Then.res (c, f, g, ())) := by
  simp only [c_spec_l02Then, okL, T.oks, T.ok, ap, allP, true_and, and_true, implies_true] at hok hpre
  try dsimp only [T.den] at hok
  try dsimp only [T.den] at hpre
  unfold W_spec_l02Then
  exact ⟨hpre.1, hpre.2.1, hpre.2.2.1, hpre.2.2.2, rfl⟩
theorem ct_spec_l02Then : CtOk Try.prog 82 c_spec_l02Then :=
  ct_by (Φ := lkp []) good_nil tab_ok (by kernel_rfl) (fn := Try.f82) (c := bodyOf Try.f82) (by kernel_rfl) (by kernel_rfl) (by kernel_rfl) c_spec_l02Then rfl .n (cutL []) (by kernel_rfl) (by kernel_rfl) k_spec_l02Then (by decide) (fun x K => W_spec_l02Then x.1 x.2.1 x.2.2.1 K) w_spec_l02Then (fun x h1 h2 => m_spec_l02Then x.1 x.2.1 x.2.2.1 h1 h2)
structure FitP2 (f : FunctorD) : Prop where
  src : ShapeP f.1
  tgt : ShapeP f.2.1
  lo : (f.2.2.1.length : Int) = f.1.1
  la : f.2.2.2.length = f.1.2.1.length
  aw : withinR f.2.2.2 f.2.1.2.1.length = true
def objRowR (f g : FunctorD) (a b : Int) : List (List Int) := (homR f.2.1 (f.2.2.1.getD a.toNat 0) (g.2.2.1.getD b.toNat 0)).flatMap fun h => [[a, b, h]]
def objColR (f g : FunctorD) (a : Int) : List (List Int) := (tabN g.1.1.toNat (objRowR f g a)).flatten
def objsR (f g : FunctorD) : List (List Int) := (tabN f.1.1.toNat (objColR f g)).flatten
theorem hom_len {c : CategoryD} (S : ShapeP c) {x y : Int} : (homR c x y).length ≤ 40 := by
  have := @sel_len (fun f => c.2.1.getD f.toNat 0 == x && c.2.2.1.getD f.toNat 0 == y) c.2.1.length
  have h := S.m
  unfold homR; omega
theorem row_len {f g : FunctorD} (F : FitP2 f) {a b : Int} : (objRowR f g a b).length ≤ 40 := by
  have h1 := @hom_len _ F.tgt (f.2.2.1.getD a.toNat 0) (g.2.2.1.getD b.toNat 0)
  have h2 := @flatMap_le _ _ 1 (fun h : Int => [[a, b, h]]) (homR f.2.1 (f.2.2.1.getD a.toNat 0) (g.2.2.1.getD b.toNat 0)) fun _ _ => by simp
  unfold objRowR; omega
theorem col_len {f g : FunctorD} (F : FitP2 f) (G : FitP2 g) {a : Int} : (objColR f g a).length ≤ 320 := by
  have h2 := @flat_le _ 40 (tabN g.1.1.toNat (objRowR f g a)) fun l hl => by
    obtain ⟨j, _, _, rfl⟩ := tabN_mem.1 hl; exact row_len F
  rw [tabN_len] at h2
  have h := G.src.ob
  have h3 := Nat.mul_le_mul_right 40 (show g.1.1.toNat ≤ 8 by omega)
  unfold objColR; omega
theorem objs_len {f g : FunctorD} (F : FitP2 f) (G : FitP2 g) : (objsR f g).length ≤ 2560 := by
  have h2 := @flat_le _ 320 (tabN f.1.1.toNat (objColR f g)) fun l hl => by
    obtain ⟨j, _, _, rfl⟩ := tabN_mem.1 hl; exact col_len F G
  rw [tabN_len] at h2
  have h := F.src.ob
  have h3 := Nat.mul_le_mul_right 320 (show f.1.1.toNat ≤ 8 by omega)
  unfold objsR; omega

def c_spec_l09Objects : Ct := ⟨[FunctorT, FunctorT], [true, true], fun x => [FitP2 x.1, FitP2 x.2.1], [(false, (.sl (.sl (.fz (.int .i64)))))], fun x => (objsR x.1 x.2.1, ()), false, none⟩
def W_spec_l09Objects (f : FunctorD) (g : FunctorD) (K : (List (List Int)) × Unit → Prop) : Prop := (loopW (S := ((Unit × (Int × Unit)) × ((List (List Int)) × Unit))) (fun s => (fun next => ((inK IntKind.i64 s.1.2.1) → ((T.ok (T.sl (T.sl (T.int IntKind.i64))) s.2.1) → (cnd (decide (s.1.2.1 < f.1.1)) (loopW (S := ((Unit × (Int × Unit)) × ((List (List Int)) × Unit))) (fun s1 => (fun next1 => ((inK IntKind.i64 s1.1.2.1) → ((T.ok (T.sl (T.sl (T.int IntKind.i64))) s1.2.1) → (cnd (decide (s1.1.2.1 < g.1.1)) (((0 : Int) ≤ s.1.2.1) ∧ ((s.1.2.1 < (((List.length f.2.2.1) : Nat) : Int)) ∧ (((0 : Int) ≤ s1.1.2.1) ∧ ((s1.1.2.1 < (((List.length g.2.2.1) : Nat) : Int)) ∧ (((List.length f.2.1.2.1) ≤ 40) ∧ (((List.length f.2.1.2.2.1) = (List.length f.2.1.2.1)) ∧ (loopW (S := ((Unit × (Int × Unit)) × ((List (List Int)) × Unit))) (fun s2 => (fun next2 => ((inK IntKind.i64 s2.1.2.1) → ((T.ok (T.sl (T.sl (T.int IntKind.i64))) s2.2.1) → (cnd (decide (s2.1.2.1 < (((List.length (homR f.2.1 (List.getD f.2.2.1 (Int.toNat s.1.2.1) (0 : Int)) (List.getD g.2.2.1 (Int.toNat s1.1.2.1) (0 : Int)))) : Nat) : Int))) (((0 : Int) ≤ s2.1.2.1) ∧ ((s2.1.2.1 < (((List.length (homR f.2.1 (List.getD f.2.2.1 (Int.toNat s.1.2.1) (0 : Int)) (List.getD g.2.2.1 (Int.toNat s1.1.2.1) (0 : Int)))) : Nat) : Int)) ∧ ((room (List.length s2.2.1) (List.length ((s.1.2.1 :: (s1.1.2.1 :: ((List.getD (homR f.2.1 (List.getD f.2.2.1 (Int.toNat s.1.2.1) (0 : Int)) (List.getD g.2.2.1 (Int.toNat s1.1.2.1) (0 : Int))) (Int.toNat s2.1.2.1) (0 : Int)) :: ([] : List Int)))) :: ([] : List (List Int)))) 24) ∧ ((inK IntKind.i64 (s2.1.2.1 + (1 : Int))) ∧ (next2 (((), ((s2.1.2.1 + (1 : Int)), ())), ((s2.2.1 ++ ((s.1.2.1 :: (s1.1.2.1 :: ((List.getD (homR f.2.1 (List.getD f.2.2.1 (Int.toNat s.1.2.1) (0 : Int)) (List.getD g.2.2.1 (Int.toNat s1.1.2.1) (0 : Int))) (Int.toNat s2.1.2.1) (0 : Int)) :: ([] : List Int)))) :: ([] : List (List Int)))), ()))))))) ((inK IntKind.i64 (s1.1.2.1 + (1 : Int))) ∧ (next1 (((), ((s1.1.2.1 + (1 : Int)), ())), (s2.2.1, ()))))))))) (((), ((0 : Int), ())), (s1.2.1, ()))))))))) ((inK IntKind.i64 (s.1.2.1 + (1 : Int))) ∧ (next (((), ((s.1.2.1 + (1 : Int)), ())), (s1.2.1, ()))))))))) (((), ((0 : Int), ())), (s.2.1, ()))) (K (s.2.1, ()))))))) (((), ((0 : Int), ())), (([] : List (List Int)), ())))
theorem w_spec_l09Objects (x : denL c_spec_l09Objects.args) (K : (List (List Int)) × Unit → Prop) : evF tab (lkp [(128, c_spec_l02Hom)]) (cutL [(8, 12)]) Try.f118 (bodyOf Try.f118) (.s .n (.s .n (.s (.s .n (.l [(5, (.ref 800005 [])), (6, (.d (.int .i64)))] [(800005, (.sl (.sl (.fz (.int .i64)))))] [2, 3] (.s .n (.s (.s .n (.l [(5, (.ref 800005 [])), (7, (.d (.int .i64)))] [(800005, (.sl (.sl (.fz (.int .i64)))))] [2, 3, 6] (.s .n (.s (.s .n (.s .n (.l [(5, (.ref 800005 [])), (9, (.d (.int .i64)))] [(800005, (.sl (.sl (.fz (.int .i64)))))] [2, 3, 6, 7, 8] .n))) .n)))) .n)))) .n))) c_spec_l09Objects x K = W_spec_l09Objects x.1 x.2.1 K := by kernel_rfl
theorem k_spec_l09Objects : okC Try.f118.ntmps (cutL [(8, 12)]) (bodyOf Try.f118) = true := by kernel_rfl
theorem m_spec_l09Objects (f : FunctorD) (g : FunctorD) (hok : allP (okL c_spec_l09Objects.args (f, g, ()))) (hpre : allP (c_spec_l09Objects.pre (f, g, ()))) : W_spec_l09Objects f g (fun r => r = c_spec_l09Objects.res (f, g, ())) := by
  simp only [c_spec_l09Objects, okL, T.oks, T.ok, ap, allP, true_and, and_true, implies_true] at hok hpre
  try dsimp only [T.den] at hok
  try dsimp only [T.den] at hpre
  unfold W_spec_l09Objects
  obtain ⟨F, G⟩ := hpre
  clear hok
  have h1 := F.src.ob
  have h2 := G.src.ob
  have h3 := F.lo
  have h4 := G.lo
  have h5 := F.tgt.m
  have h6 := F.tgt.lt
  refine loop_catB f.1.1 h1.1 (objColR f g) [] 320 (fun a _ _ => col_len F G) ?_ ?_
  · intro a out next a0 a1 hb hn _ _
    try dsimp only at hn ⊢
    refine cnd_d (fun _ => ?_) (fun h => absurd a1 h)
    simp only [List.length_nil] at hb
    have hb1 : out.length ≤ 2560 := by omega
    clear hb
    refine loop_catB g.1.1 h2.1 (objRowR f g a) out 40 (fun b _ _ => row_len F) ?_ ?_
    · intro b out2 next2 b0 b1 hb hn2 _ _
      try dsimp only at hn2 ⊢
      refine cnd_d (fun _ => ⟨a0, by omega, b0, by omega, h5, h6, ?_⟩) (fun h => absurd b1 h)
      have hb2 : out2.length ≤ 2880 := by omega
      clear hb
      have hh := @hom_len _ F.tgt (f.2.2.1.getD a.toNat 0) (g.2.2.1.getD b.toNat 0)
      refine loop_cat (homR f.2.1 (f.2.2.1.getD a.toNat 0) (g.2.2.1.getD b.toNat 0)) 0 (fun h => [[a, b, h]]) out2 1 (fun _ _ => by simp) ?_ ?_
      · intro i out3 next3 i0 i1 hb hn3 _ _
        try dsimp only at hn3 ⊢
        simp only [List.length_cons, List.length_nil] at hb
        exact cnd_d (fun _ => ⟨i0, i1, room_of (by simp only [List.length_cons, List.length_nil]; omega), by rw [inK64]; (try dsimp only); omega, hn3⟩) (fun h => absurd i1 h)
      · intro next3 _ _
        exact cnd_d (fun h => absurd h (Int.lt_irrefl _)) (fun _ => ⟨by rw [inK64]; (try dsimp only); omega, hn2⟩)
    · intro next2 _ _
      exact cnd_d (fun h => absurd h (Int.lt_irrefl _)) (fun _ => ⟨by rw [inK64]; (try dsimp only); omega, hn⟩)
  · intro next _ _
    refine cnd_d (fun h => absurd h (Int.lt_irrefl _)) (fun _ => ?_)
    simp only [c_spec_l09Objects, objsR, List.nil_append]
theorem ct_spec_l09Objects : CtOk Try.prog 118 c_spec_l09Objects :=
  ct_by (Φ := lkp [(128, c_spec_l02Hom)]) (good_cons ct_spec_l02Hom good_nil) tab_ok (by kernel_rfl) (fn := Try.f118) (c := bodyOf Try.f118) (by kernel_rfl) (by kernel_rfl) (by kernel_rfl) c_spec_l09Objects rfl (.s .n (.s .n (.s (.s .n (.l [(5, (.ref 800005 [])), (6, (.d (.int .i64)))] [(800005, (.sl (.sl (.fz (.int .i64)))))] [2, 3] (.s .n (.s (.s .n (.l [(5, (.ref 800005 [])), (7, (.d (.int .i64)))] [(800005, (.sl (.sl (.fz (.int .i64)))))] [2, 3, 6] (.s .n (.s (.s .n (.s .n (.l [(5, (.ref 800005 [])), (9, (.d (.int .i64)))] [(800005, (.sl (.sl (.fz (.int .i64)))))] [2, 3, 6, 7, 8] .n))) .n)))) .n)))) .n))) (cutL [(8, 12)]) (by kernel_rfl) (by kernel_rfl) k_spec_l09Objects (by decide) (fun x K => W_spec_l09Objects x.1 x.2.1 K) w_spec_l09Objects (fun x h1 h2 => m_spec_l09Objects x.1 x.2.1 h1 h2)
end Go.Bm
