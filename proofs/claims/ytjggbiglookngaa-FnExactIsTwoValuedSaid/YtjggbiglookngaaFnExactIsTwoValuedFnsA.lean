/- What the functions that FnExactIsTwoValued reaches give: for each its contract, what it asks, and the proof. No condition. -/
import Derived.Test.YtjggbiglookngaaTab
namespace Go.Bm
open Go.Proofs
set_option maxRecDepth 100000
set_option maxHeartbeats 1000000
set_option linter.unusedVariables false
set_option linter.unusedSimpArgs false
def c_impl_Category_arrows : Ct := ⟨[(.pt CategoryT)], [false], fun x => [], [(false, (.fz (.int .i64)))], fun x => ((x.1.2.1.length : Int), ()), false, none⟩
def W_impl_Category_arrows (c : CategoryD) (K : Int × Unit → Prop) : Prop := (K ((((List.length c.2.1) : Nat) : Int), ()))
theorem w_impl_Category_arrows (x : denL c_impl_Category_arrows.args) (K : Int × Unit → Prop) : evF tab (lkp []) (cutL []) Try.f86 (bodyOf Try.f86) .n c_impl_Category_arrows x K = W_impl_Category_arrows x.1 K := by kernel_rfl
theorem k_impl_Category_arrows : okC Try.f86.ntmps (cutL []) (bodyOf Try.f86) = true := by kernel_rfl
theorem m_impl_Category_arrows (c : CategoryD) (hok : allP (okL c_impl_Category_arrows.args (c, ()))) (hpre : allP (c_impl_Category_arrows.pre (c, ()))) : W_impl_Category_arrows c (fun r => r = c_impl_Category_arrows.res (c, ())) := by
  simp only [c_impl_Category_arrows, okL, T.oks, T.ok, ap, allP, true_and, and_true, implies_true] at hok hpre
  try dsimp only [T.den] at hok
  try dsimp only [T.den] at hpre
  unfold W_impl_Category_arrows
  rfl
theorem ct_impl_Category_arrows : CtOk Try.prog 86 c_impl_Category_arrows :=
  ct_by (Φ := lkp []) good_nil tab_ok (by kernel_rfl) (fn := Try.f86) (c := bodyOf Try.f86) (by kernel_rfl) (by kernel_rfl) (by kernel_rfl) c_impl_Category_arrows rfl .n (cutL []) (by kernel_rfl) (by kernel_rfl) k_impl_Category_arrows (by decide) (fun x K => W_impl_Category_arrows x.1 K) w_impl_Category_arrows (fun x h1 h2 => m_impl_Category_arrows x.1 h1 h2)
def compR (c : CategoryD) (f g : Int) : Int := (c.2.2.2.2.getD f.toNat []).getD g.toNat 0

def c_impl_Category_then : Ct := ⟨[(.pt CategoryT), (.int .i64), (.int .i64)], [false, false, false], fun x => [0 ≤ x.2.1, x.2.1 < x.1.2.2.2.2.length, 0 ≤ x.2.2.1, x.2.2.1 < (x.1.2.2.2.2.getD x.2.1.toNat []).length], [(false, (.fz (.int .i64)))], fun x => (compR x.1 x.2.1 x.2.2.1, ()), false, none⟩
def W_impl_Category_then (c : CategoryD) (f : Int) (g : Int) (K : Int × Unit → Prop) : Prop := (((0 : Int) ≤ f) ∧ ((f < (((List.length c.2.2.2.2) : Nat) : Int)) ∧ (((0 : Int) ≤ g) ∧ ((g < (((List.length (List.getD c.2.2.2.2 (Int.toNat f) ([] : List Int))) : Nat) : Int)) ∧ (K ((List.getD (List.getD c.2.2.2.2 (Int.toNat f) ([] : List Int)) (Int.toNat g) (0 : Int)), ()))))))
theorem w_impl_Category_then (x : denL c_impl_Category_then.args) (K : Int × Unit → Prop) : evF tab (lkp []) (cutL []) Try.f89 (bodyOf Try.f89) .n c_impl_Category_then x K = W_impl_Category_then x.1 x.2.1 x.2.2.1 K := by kernel_rfl
theorem k_impl_Category_then : okC Try.f89.ntmps (cutL []) (bodyOf Try.f89) = true := by kernel_rfl
theorem m_impl_Category_then (c : CategoryD) (f : Int) (g : Int) (hok : allP (okL c_impl_Category_then.args (c, f, g, ()))) (hpre : allP (c_impl_Category_then.pre (c, f, g, ()))) : W_impl_Category_then c f g (fun r => r = c_impl_Category_then.res (c, f, g, ())) := by
  simp only [c_impl_Category_then, okL, T.oks, T.ok, ap, allP, true_and, and_true, implies_true] at hok hpre
  try dsimp only [T.den] at hok
  try dsimp only [T.den] at hpre
  unfold W_impl_Category_then
  exact ⟨hpre.1, hpre.2.1, hpre.2.2.1, hpre.2.2.2, rfl⟩
theorem ct_impl_Category_then : CtOk Try.prog 89 c_impl_Category_then :=
  ct_by (Φ := lkp []) good_nil tab_ok (by kernel_rfl) (fn := Try.f89) (c := bodyOf Try.f89) (by kernel_rfl) (by kernel_rfl) (by kernel_rfl) c_impl_Category_then rfl .n (cutL []) (by kernel_rfl) (by kernel_rfl) k_impl_Category_then (by decide) (fun x K => W_impl_Category_then x.1 x.2.1 x.2.2.1 K) w_impl_Category_then (fun x h1 h2 => m_impl_Category_then x.1 x.2.1 x.2.2.1 h1 h2)
def c_impl_Category_ends : Ct := ⟨[(.pt CategoryT), (.int .i64)], [false, false], fun x => [0 ≤ x.2.1, x.2.1 < x.1.2.1.length, x.2.1 < x.1.2.2.1.length], [(true, (.fz endsT))], fun x => (((x.1.2.1.getD x.2.1.toNat 0, x.1.2.2.1.getD x.2.1.toNat 0) : Int × Int), ()), false, none⟩
def W_impl_Category_ends (c : CategoryD) (f : Int) (K : endsD × Unit → Prop) : Prop := (((0 : Int) ≤ f) ∧ ((f < (((List.length c.2.1) : Nat) : Int)) ∧ (((0 : Int) ≤ f) ∧ ((f < (((List.length c.2.2.1) : Nat) : Int)) ∧ (K (((List.getD c.2.1 (Int.toNat f) (0 : Int)), (List.getD c.2.2.1 (Int.toNat f) (0 : Int))), ()))))))
theorem w_impl_Category_ends (x : denL c_impl_Category_ends.args) (K : endsD × Unit → Prop) : evF tab (lkp []) (cutL [(1, 15)]) Try.f110 (bodyOf Try.f110) .n c_impl_Category_ends x K = W_impl_Category_ends x.1 x.2.1 K := by kernel_rfl
theorem k_impl_Category_ends : okC Try.f110.ntmps (cutL [(1, 15)]) (bodyOf Try.f110) = true := by kernel_rfl
theorem m_impl_Category_ends (c : CategoryD) (f : Int) (hok : allP (okL c_impl_Category_ends.args (c, f, ()))) (hpre : allP (c_impl_Category_ends.pre (c, f, ()))) : W_impl_Category_ends c f (fun r => r = c_impl_Category_ends.res (c, f, ())) := by
  simp only [c_impl_Category_ends, okL, T.oks, T.ok, ap, allP, true_and, and_true, implies_true] at hok hpre
  try dsimp only [T.den] at hok
  try dsimp only [T.den] at hpre
  unfold W_impl_Category_ends
  exact ⟨hpre.1, hpre.2.1, hpre.1, hpre.2.2, rfl⟩
theorem ct_impl_Category_ends : CtOk Try.prog 110 c_impl_Category_ends :=
  ct_by (Φ := lkp []) good_nil tab_ok (by kernel_rfl) (fn := Try.f110) (c := bodyOf Try.f110) (by kernel_rfl) (by kernel_rfl) (by kernel_rfl) c_impl_Category_ends rfl .n (cutL [(1, 15)]) (by kernel_rfl) (by kernel_rfl) k_impl_Category_ends (by decide) (fun x K => W_impl_Category_ends x.1 x.2.1 K) w_impl_Category_ends (fun x h1 h2 => m_impl_Category_ends x.1 x.2.1 h1 h2)
def c_impl_inRange : Ct := ⟨[(.int .i64), (.int .i64), (.int .i64)], [false, false, false], fun x => [], [(false, (.fz .bool))], fun x => (inR x.1 x.2.1 x.2.2.1, ()), false, none⟩
def W_impl_inRange (n : Int) (low : Int) (high : Int) (K : Bool × Unit → Prop) : Prop := (K (((decide (low ≤ n)) && (decide (n ≤ high))), ()))
theorem w_impl_inRange (x : denL c_impl_inRange.args) (K : Bool × Unit → Prop) : evF tab (lkp []) (cutL []) Try.f132 (bodyOf Try.f132) .n c_impl_inRange x K = W_impl_inRange x.1 x.2.1 x.2.2.1 K := by kernel_rfl
theorem k_impl_inRange : okC Try.f132.ntmps (cutL []) (bodyOf Try.f132) = true := by kernel_rfl
theorem m_impl_inRange (n : Int) (low : Int) (high : Int) (hok : allP (okL c_impl_inRange.args (n, low, high, ()))) (hpre : allP (c_impl_inRange.pre (n, low, high, ()))) : W_impl_inRange n low high (fun r => r = c_impl_inRange.res (n, low, high, ())) := by
  simp only [c_impl_inRange, okL, T.oks, T.ok, ap, allP, true_and, and_true, implies_true] at hok hpre
  try dsimp only [T.den] at hok
  try dsimp only [T.den] at hpre
  unfold W_impl_inRange
  grind [cnd, nb_eq, inK64, c_impl_inRange, inR]
theorem ct_impl_inRange : CtOk Try.prog 132 c_impl_inRange :=
  ct_by (Φ := lkp []) good_nil tab_ok (by kernel_rfl) (fn := Try.f132) (c := bodyOf Try.f132) (by kernel_rfl) (by kernel_rfl) (by kernel_rfl) c_impl_inRange rfl .n (cutL []) (by kernel_rfl) (by kernel_rfl) k_impl_inRange (by decide) (fun x K => W_impl_inRange x.1 x.2.1 x.2.2.1 K) w_impl_inRange (fun x h1 h2 => m_impl_inRange x.1 x.2.1 x.2.2.1 h1 h2)
def c_impl_within : Ct := ⟨[(.sl (.int .i64)), (.int .i64)], [false, false], fun x => [inK .i64 (x.2.1 - 1)], [(false, (.fz .bool))], fun x => (withinR x.1 x.2.1, ()), false, none⟩
def W_impl_within (list : List Int) (n : Int) (K : Bool × Unit → Prop) : Prop := (loopW (S := ((Int × Unit) × Unit)) (fun s => (fun next => ((inK IntKind.i64 s.1.1) → (cnd (decide (s.1.1 < (((List.length list) : Nat) : Int))) (((0 : Int) ≤ s.1.1) ∧ ((s.1.1 < (((List.length list) : Nat) : Int)) ∧ ((inK IntKind.i64 (n - (1 : Int))) ∧ (cnd (!(inR (List.getD list (Int.toNat s.1.1) (0 : Int)) (0 : Int) (n - (1 : Int)))) (K (Bool.false, ())) ((inK IntKind.i64 (s.1.1 + (1 : Int))) ∧ (next (((s.1.1 + (1 : Int)), ()), ()))))))) (K (Bool.true, ())))))) (((0 : Int), ()), ()))
theorem w_impl_within (x : denL c_impl_within.args) (K : Bool × Unit → Prop) : evF tab (lkp [(132, c_impl_inRange)]) (cutL []) Try.f85 (bodyOf Try.f85) (.s .n (.s (.s .n (.l [(9, (.d (.int .i64)))] [] [1, 7, 8] .n)) .n)) c_impl_within x K = W_impl_within x.1 x.2.1 K := by kernel_rfl
theorem k_impl_within : okC Try.f85.ntmps (cutL []) (bodyOf Try.f85) = true := by kernel_rfl
theorem m_impl_within (list : List Int) (n : Int) (hok : allP (okL c_impl_within.args (list, n, ()))) (hpre : allP (c_impl_within.pre (list, n, ()))) : W_impl_within list n (fun r => r = c_impl_within.res (list, n, ())) := by
  simp only [c_impl_within, okL, T.oks, T.ok, ap, allP, true_and, and_true, implies_true] at hok hpre
  try dsimp only [T.den] at hok
  try dsimp only [T.den] at hpre
  unfold W_impl_within
  refine loop_of (fun (s : ((Int × Unit) × Unit)) => 0 ≤ s.1.1 ∧ s.1.1 ≤ list.length ∧ withinR list n = withinR (list.drop s.1.1.toNat) n) (fun (s : ((Int × Unit) × Unit)) => (list.length - s.1.1).toNat) ?_ (by simp)
  rintro ⟨⟨i, _⟩, _⟩ next ⟨h0, h1, h2⟩ hn hin
  simp only at h0 h1 h2 hn ⊢
  refine cnd_d (fun hc => ?_) (fun hc => ?_)
  · rw [drop_c list 0 h0 hc] at h2
    simp only [withinR, List.all_cons] at h2
    grind [cnd, nb_eq, inK64, c_impl_within, withinR]
  · rw [drop_n list (by omega)] at h2
    grind [cnd, nb_eq, inK64, c_impl_within, withinR]
theorem ct_impl_within : CtOk Try.prog 85 c_impl_within :=
  ct_by (Φ := lkp [(132, c_impl_inRange)]) (good_cons ct_impl_inRange good_nil) tab_ok (by kernel_rfl) (fn := Try.f85) (c := bodyOf Try.f85) (by kernel_rfl) (by kernel_rfl) (by kernel_rfl) c_impl_within rfl (.s .n (.s (.s .n (.l [(9, (.d (.int .i64)))] [] [1, 7, 8] .n)) .n)) (cutL []) (by kernel_rfl) (by kernel_rfl) k_impl_within (by decide) (fun x K => W_impl_within x.1 x.2.1 K) w_impl_within (fun x h1 h2 => m_impl_within x.1 x.2.1 h1 h2)
/-- what a cell of the table must be -/
def cellQ (c : CategoryD) (f g v : Int) : Bool :=
  if c.2.2.1.getD f.toNat 0 = c.2.1.getD g.toNat 0 then decide (0 ≤ v ∧ v < c.2.1.length ∧ c.2.1.getD v.toNat 0 = c.2.1.getD f.toNat 0 ∧ c.2.2.1.getD v.toNat 0 = c.2.2.1.getD g.toNat 0)
  else decide (v = -1)
def cellR (c : CategoryD) (f g : Int) : Bool := cellQ c f g (compR c f g)
structure ShapeP (c : CategoryD) : Prop where
  ob : 0 ≤ c.1 ∧ c.1 ≤ 8
  m : c.2.1.length ≤ 40
  lt : c.2.2.1.length = c.2.1.length
  fr : withinR c.2.1 c.1 = true
  to : withinR c.2.2.1 c.1 = true
  li : (c.2.2.2.1.length : Int) = c.1
  ids : withinR c.2.2.2.1 c.2.1.length = true
  lc : c.2.2.2.2.length = c.2.1.length
  idt : ∀ x : Int, 0 ≤ x → x < c.1 → c.2.1.getD (c.2.2.2.1.getD x.toNat 0).toNat 0 = x ∧ c.2.2.1.getD (c.2.2.2.1.getD x.toNat 0).toNat 0 = x
  row : ∀ f : Int, 0 ≤ f → f < c.2.1.length → (c.2.2.2.2.getD f.toNat []).length = c.2.1.length
  cell : ∀ f g : Int, 0 ≤ f → f < c.2.1.length → 0 ≤ g → g < c.2.1.length → cellR c f g = true
def shapeR (c : CategoryD) : Bool := inR c.1 0 8 && decide (c.2.1.length ≤ 40) && decide (c.2.2.1.length = c.2.1.length) && withinR c.2.1 c.1 && withinR c.2.2.1 c.1 && decide ((c.2.2.2.1.length : Int) = c.1) && withinR c.2.2.2.1 c.2.1.length &&
  decide (c.2.2.2.2.length = c.2.1.length) && allB c.1.toNat (fun x => decide (c.2.1.getD (c.2.2.2.1.getD x.toNat 0).toNat 0 = x ∧ c.2.2.1.getD (c.2.2.2.1.getD x.toNat 0).toNat 0 = x)) &&
  allB c.2.1.length (fun f => decide ((c.2.2.2.2.getD f.toNat []).length = c.2.1.length)) && allB c.2.1.length (fun f => allB c.2.1.length fun g => cellR c f g)
theorem shape_iff {c : CategoryD} : shapeR c = true ↔ ShapeP c := by
  simp only [shapeR, Bool.and_eq_true, decide_eq_true_eq, inR, allB_iff]
  constructor
  · rintro ⟨⟨⟨⟨⟨⟨⟨⟨⟨⟨h0, h1⟩, h2⟩, h3⟩, h4⟩, h5⟩, h6⟩, h7⟩, h8⟩, h9⟩, h10⟩
    exact ⟨h0, h1, h2, h3, h4, h5, h6, h7, fun x a b => h8 x a (by omega), h9, fun f g a b d e => h10 f a b g d e⟩
  · intro h
    exact ⟨⟨⟨⟨⟨⟨⟨⟨⟨⟨h.ob, h.m⟩, h.lt⟩, h.fr⟩, h.to⟩, h.li⟩, h.ids⟩, h.lc⟩, fun x a b => h.idt x a (by have := h.ob; omega)⟩, h.row⟩, fun f a b g d e => h.cell f g a b d e⟩
theorem shape_f {c : CategoryD} (h : ¬ ShapeP c) : shapeR c = false := by
  cases hs : shapeR c with
  | false => rfl
  | true => exact absurd (shape_iff.1 hs) h
theorem shape_t {c : CategoryD} (h : ShapeP c) : shapeR c = true := shape_iff.2 h

def c_impl_Category_isShape : Ct := ⟨[(.pt CategoryT)], [false], fun x => [], [(false, (.fz .bool))], fun x => (shapeR x.1, ()), false, none⟩
def W_impl_Category_isShape (c : CategoryD) (K : Bool × Unit → Prop) : Prop := ((((((!(inR c.1 (0 : Int) (8 : Int))) || (decide ((40 : Int) < (((List.length c.2.1) : Nat) : Int)))) || ((((List.length c.2.2.1) : Nat) : Int) != (((List.length c.2.1) : Nat) : Int))) = Bool.false) → (inK IntKind.i64 (c.1 - (1 : Int)))) ∧ (((((((!(inR c.1 (0 : Int) (8 : Int))) || (decide ((40 : Int) < (((List.length c.2.1) : Nat) : Int)))) || ((((List.length c.2.2.1) : Nat) : Int) != (((List.length c.2.1) : Nat) : Int))) || (!(withinR c.2.1 c.1))) = Bool.false) → (inK IntKind.i64 (c.1 - (1 : Int)))) ∧ (cnd (((((!(inR c.1 (0 : Int) (8 : Int))) || (decide ((40 : Int) < (((List.length c.2.1) : Nat) : Int)))) || ((((List.length c.2.2.1) : Nat) : Int) != (((List.length c.2.1) : Nat) : Int))) || (!(withinR c.2.1 c.1))) || (!(withinR c.2.2.1 c.1))) (K (Bool.false, ())) (((((((List.length c.2.2.2.1) : Nat) : Int) != c.1) = Bool.false) → (inK IntKind.i64 ((((List.length c.2.1) : Nat) : Int) - (1 : Int)))) ∧ (cnd ((((((List.length c.2.2.2.1) : Nat) : Int) != c.1) || (!(withinR c.2.2.2.1 (((List.length c.2.1) : Nat) : Int)))) || ((((List.length c.2.2.2.2) : Nat) : Int) != (((List.length c.2.1) : Nat) : Int))) (K (Bool.false, ())) (loopW (S := ((Int × Unit) × Unit)) (fun s => (fun next => ((inK IntKind.i64 s.1.1) → (cnd (decide (s.1.1 < (((List.length c.2.2.2.1) : Nat) : Int))) (((0 : Int) ≤ s.1.1) ∧ ((s.1.1 < (((List.length c.2.2.2.1) : Nat) : Int)) ∧ (((0 : Int) ≤ (List.getD c.2.2.2.1 (Int.toNat s.1.1) (0 : Int))) ∧ (((List.getD c.2.2.2.1 (Int.toNat s.1.1) (0 : Int)) < (((List.length c.2.1) : Nat) : Int)) ∧ (((List.getD c.2.2.2.1 (Int.toNat s.1.1) (0 : Int)) < (((List.length c.2.2.1) : Nat) : Int)) ∧ (cnd (!(((List.getD c.2.1 (Int.toNat (List.getD c.2.2.2.1 (Int.toNat s.1.1) (0 : Int))) (0 : Int)) == s.1.1) && ((List.getD c.2.2.1 (Int.toNat (List.getD c.2.2.2.1 (Int.toNat s.1.1) (0 : Int))) (0 : Int)) == s.1.1))) (K (Bool.false, ())) ((inK IntKind.i64 (s.1.1 + (1 : Int))) ∧ (next (((s.1.1 + (1 : Int)), ()), ()))))))))) (loopW (S := ((Int × Unit) × Unit)) (fun s1 => (fun next1 => ((inK IntKind.i64 s1.1.1) → (cnd (decide (s1.1.1 < (((List.length c.2.2.2.2) : Nat) : Int))) (((0 : Int) ≤ s1.1.1) ∧ ((s1.1.1 < (((List.length c.2.2.2.2) : Nat) : Int)) ∧ (cnd ((((List.length (List.getD c.2.2.2.2 (Int.toNat s1.1.1) ([] : List Int))) : Nat) : Int) != (((List.length c.2.1) : Nat) : Int)) (K (Bool.false, ())) (loopW (S := ((Int × Unit) × Unit)) (fun s2 => (fun next2 => ((inK IntKind.i64 s2.1.1) → (cnd (decide (s2.1.1 < (((List.length (List.getD c.2.2.2.2 (Int.toNat s1.1.1) ([] : List Int))) : Nat) : Int))) (joinW (S := (Unit × Unit)) (fun s3 => ((inK IntKind.i64 (s2.1.1 + (1 : Int))) ∧ (next2 (((s2.1.1 + (1 : Int)), ()), ())))) (fun k => (((0 : Int) ≤ s2.1.1) ∧ ((s2.1.1 < (((List.length (List.getD c.2.2.2.2 (Int.toNat s1.1.1) ([] : List Int))) : Nat) : Int)) ∧ (((0 : Int) ≤ s1.1.1) ∧ ((s1.1.1 < (((List.length c.2.2.1) : Nat) : Int)) ∧ (((0 : Int) ≤ s2.1.1) ∧ ((s2.1.1 < (((List.length c.2.1) : Nat) : Int)) ∧ (cnd ((List.getD c.2.2.1 (Int.toNat s1.1.1) (0 : Int)) != (List.getD c.2.1 (Int.toNat s2.1.1) (0 : Int))) (cnd ((List.getD (List.getD c.2.2.2.2 (Int.toNat s1.1.1) ([] : List Int)) (Int.toNat s2.1.1) (0 : Int)) != (-(1 : Int))) (K (Bool.false, ())) (k ((), ()))) ((inK IntKind.i64 ((((List.length c.2.1) : Nat) : Int) - (1 : Int))) ∧ ((((!(inR (List.getD (List.getD c.2.2.2.2 (Int.toNat s1.1.1) ([] : List Int)) (Int.toNat s2.1.1) (0 : Int)) (0 : Int) ((((List.length c.2.1) : Nat) : Int) - (1 : Int)))) = Bool.false) → (((List.getD (List.getD c.2.2.2.2 (Int.toNat s1.1.1) ([] : List Int)) (Int.toNat s2.1.1) (0 : Int)) < (((List.length c.2.1) : Nat) : Int)) ∧ (((List.getD (List.getD c.2.2.2.2 (Int.toNat s1.1.1) ([] : List Int)) (Int.toNat s2.1.1) (0 : Int)) < (((List.length c.2.2.1) : Nat) : Int)) ∧ ((0 : Int) ≤ (List.getD (List.getD c.2.2.2.2 (Int.toNat s1.1.1) ([] : List Int)) (Int.toNat s2.1.1) (0 : Int)))))) ∧ ((((!(inR (List.getD (List.getD c.2.2.2.2 (Int.toNat s1.1.1) ([] : List Int)) (Int.toNat s2.1.1) (0 : Int)) (0 : Int) ((((List.length c.2.1) : Nat) : Int) - (1 : Int)))) = Bool.false) → ((s1.1.1 < (((List.length c.2.1) : Nat) : Int)) ∧ ((0 : Int) ≤ s1.1.1))) ∧ ((((!(inR (List.getD (List.getD c.2.2.2.2 (Int.toNat s1.1.1) ([] : List Int)) (Int.toNat s2.1.1) (0 : Int)) (0 : Int) ((((List.length c.2.1) : Nat) : Int) - (1 : Int)))) = Bool.false) → ((s2.1.1 < (((List.length c.2.2.1) : Nat) : Int)) ∧ ((0 : Int) ≤ s2.1.1))) ∧ (cnd ((!(inR (List.getD (List.getD c.2.2.2.2 (Int.toNat s1.1.1) ([] : List Int)) (Int.toNat s2.1.1) (0 : Int)) (0 : Int) ((((List.length c.2.1) : Nat) : Int) - (1 : Int)))) || (!(((List.getD c.2.1 (Int.toNat (List.getD (List.getD c.2.2.2.2 (Int.toNat s1.1.1) ([] : List Int)) (Int.toNat s2.1.1) (0 : Int))) (0 : Int)) == (List.getD c.2.1 (Int.toNat s1.1.1) (0 : Int))) && ((List.getD c.2.2.1 (Int.toNat (List.getD (List.getD c.2.2.2.2 (Int.toNat s1.1.1) ([] : List Int)) (Int.toNat s2.1.1) (0 : Int))) (0 : Int)) == (List.getD c.2.2.1 (Int.toNat s2.1.1) (0 : Int)))))) (K (Bool.false, ())) (k ((), ())))))))))))))))) ((inK IntKind.i64 (s1.1.1 + (1 : Int))) ∧ (next1 (((s1.1.1 + (1 : Int)), ()), ()))))))) (((0 : Int), ()), ()))))) (K (Bool.true, ())))))) (((0 : Int), ()), ())))))) (((0 : Int), ()), ())))))))
theorem w_impl_Category_isShape (x : denL c_impl_Category_isShape.args) (K : Bool × Unit → Prop) : evF tab (lkp [(86, c_impl_Category_arrows), (110, c_impl_Category_ends), (132, c_impl_inRange), (85, c_impl_within)]) (cutL [(2, 43), (20, 15), (4, 28), (23, 26)]) Try.f98 (bodyOf Try.f98) (.s .n (.s .n (.s .n (.s .n (.s (.s .n (.l [(88, (.d (.int .i64)))] [] [0, 3, 86, 87] .n)) (.s (.s .n (.l [(106, (.d (.int .i64)))] [] [0, 3, 104, 105] (.s .n (.s .n (.s (.s .n (.s .n (.s .n (.l [(117, (.d (.int .i64)))] [] [0, 3, 6, 104, 105, 106, 115, 116] (.s .n (.s .n (.s (.j [] [] [0, 3, 6, 104, 105, 106, 115, 116, 117] .n) .n))))))) .n))))) .n)))))) c_impl_Category_isShape x K = W_impl_Category_isShape x.1 K := by kernel_rfl
theorem k_impl_Category_isShape : okC Try.f98.ntmps (cutL [(2, 43), (20, 15), (4, 28), (23, 26)]) (bodyOf Try.f98) = true := by kernel_rfl
theorem m_impl_Category_isShape (c : CategoryD) (hok : allP (okL c_impl_Category_isShape.args (c, ()))) (hpre : allP (c_impl_Category_isShape.pre (c, ()))) : W_impl_Category_isShape c (fun r => r = c_impl_Category_isShape.res (c, ())) := by
  simp only [c_impl_Category_isShape, okL, T.oks, T.ok, ap, allP, true_and, and_true, implies_true] at hok hpre
  try dsimp only [T.den] at hok
  try dsimp only [T.den] at hpre
  unfold W_impl_Category_isShape
  refine ⟨by grind [cnd, nb_eq, inK64, inR], by grind [cnd, nb_eq, inK64, inR], cnd_of (fun hc => ?_) (fun hc => ⟨by rw [inK64]; have := hok.2.1.1; grind [cnd, nb_eq, inK64], cnd_of (fun hd => ?_) (fun hd => ?_)⟩)⟩
  · simp only [c_impl_Category_isShape]; rw [shape_f]; intro h; have h1 := h.ob; have h2 := h.m; have h3 := h.lt; have h4 := h.fr; have h5 := h.to; simp only [inR] at hc; grind [cnd, nb_eq, inK64]
  · simp only [c_impl_Category_isShape]; rw [shape_f]; intro h; have h1 := h.li; have h2 := h.ids; have h3 := h.lc; grind [cnd, nb_eq, inK64]
  simp only [inR, Bool.or_eq_false_iff, Bool.not_eq_false', Bool.and_eq_true, decide_eq_true_eq, decide_eq_false_iff_not, bne_eq_false_iff_eq] at hc hd
  obtain ⟨⟨⟨⟨hob, hm⟩, hlt⟩, hfr⟩, hto⟩ := hc
  obtain ⟨⟨hli, hids⟩, hlc⟩ := hd
  have bad : ¬ ShapeP c → (false, ()) = c_impl_Category_isShape.res (c, ()) := fun h => by simp only [c_impl_Category_isShape]; rw [shape_f h]
  refine loop_ix (n := c.2.2.2.1.length) (fun x => ∀ y : Int, 0 ≤ y → y < x → c.2.1.getD (c.2.2.2.1.getD y.toNat 0).toNat 0 = y ∧ c.2.2.1.getD (c.2.2.2.1.getD y.toNat 0).toNat 0 = y) (by omega) (by intro y h0 h1; omega) ?_ ?_
  · intro x next h0 h1 hP hn hin
    have hb := within_iff.1 hids x h0 h1
    try dsimp only
    refine cnd_d (fun _ => ⟨h0, h1, hb.1, hb.2, by omega, cnd_of (fun hx => bad fun h => ?_) (fun hx => ?_)⟩) (fun h => absurd h1 h)
    · have := h.idt x h0 (by omega)
      rw [this.1, this.2] at hx
      simp at hx
    · simp only [Bool.not_eq_false', Bool.and_eq_true, beq_iff_eq] at hx
      refine ⟨by rw [inK64]; (try dsimp only); omega, hn fun y y0 y1 => ?_⟩
      by_cases e : y = x
      · rw [e]; exact hx
      · exact hP y y0 (by omega)
  intro next hidt hin
  refine cnd_d (fun h => absurd h (by dsimp only; omega)) (fun _ => ?_)
  refine loop_ix (n := c.2.2.2.2.length) (fun f => ∀ f' : Int, 0 ≤ f' → f' < f → (c.2.2.2.2.getD f'.toNat []).length = c.2.1.length ∧ ∀ g : Int, 0 ≤ g → g < c.2.1.length → cellR c f' g = true) (by omega) (by intro y h0 h1; omega) ?_ ?_
  · intro f next h0 h1 hP hn hin
    try dsimp only
    refine cnd_d (fun _ => ⟨h0, h1, cnd_of (fun hx => bad fun h => ?_) (fun hx => ?_)⟩) (fun h => absurd h1 h)
    · have := h.row f h0 (by omega)
      rw [this] at hx
      simp at hx
    simp only [bne_eq_false_iff_eq] at hx
    refine loop_ix (n := (c.2.2.2.2.getD f.toNat []).length) (fun g => ∀ g' : Int, 0 ≤ g' → g' < g → cellR c f g' = true) (by omega) (by intro y h0 h1; omega) ?_ ?_
    · intro g next3 g0 g1 hP3 hn3 hin3
      try dsimp only
      refine cnd_d (fun _ => ?_) (fun h => absurd g1 h)
      refine join_of (fun _ => cellR c f g = true) (fun _ hcell => ⟨by rw [inK64]; (try dsimp only); omega, hn3 fun g' y0 y1 => ?_⟩) (fun k hk => ?_)
      · by_cases e : g' = g
        · rw [e]; exact hcell
        · exact hP3 g' y0 (by omega)
      have hcell : ∀ b, cellR c f g = b → b = false → ¬ ShapeP c := fun b h1 h2 h => by
        have := h.cell f g h0 (by omega) g0 (by omega)
        rw [h1, h2] at this; cases this
      have hk' := hk ((), ())
      obtain ⟨v, hv⟩ : ∃ v, (c.2.2.2.2.getD f.toNat []).getD g.toNat 0 = v := ⟨_, rfl⟩
      have hR : cellR c f g = cellQ c f g v := by unfold cellR compR; rw [hv]
      rw [hR] at hk'
      rw [hR] at hcell
      rw [hv]
      clear hP3 hn3 hP hn hk hR hv hidt hok
      refine ⟨g0, g1, h0, by omega, g0, by omega, cnd_of (fun ha => cnd_of (fun hb => bad ?_) (fun hb => hk' ?_)) (fun ha => ⟨by rw [inK64]; (try dsimp only); omega, fun hv => ?_, fun _ => ⟨by omega, h0⟩, fun _ => ⟨by omega, g0⟩, cnd_of (fun hb => bad ?_) (fun hb => hk' ?_)⟩)⟩
      · exact hcell _ rfl (by grind [cnd, nb_eq, inK64, cellQ])
      · grind [cnd, nb_eq, inK64, cellQ]
      · simp only [inR, Bool.not_eq_false', Bool.and_eq_true, decide_eq_true_eq] at hv; omega
      · exact hcell _ rfl (by simp only [inR] at hb; grind [cnd, nb_eq, inK64, cellQ])
      · simp only [inR] at hb; grind [cnd, nb_eq, inK64, cellQ]
    · intro next3 hP3 hin3
      refine cnd_d (fun h => absurd h (by dsimp only; omega)) (fun _ => ⟨by rw [inK64]; (try dsimp only); omega, hn fun f' y0 y1 => ?_⟩)
      by_cases e : f' = f
      · rw [e]; exact ⟨by omega, fun g g0 g1 => hP3 g g0 (by omega)⟩
      · exact hP f' y0 (by omega)
  · intro next2 hP2 hin2
    refine cnd_d (fun h => absurd h (by dsimp only; omega)) (fun _ => ?_)
    simp only [c_impl_Category_isShape]
    rw [shape_t ⟨hob, by omega, by omega, hfr, hto, by omega, hids, by omega, fun x a b => hidt x a (by omega), fun f a b => (hP2 f a (by omega)).1, fun f g a b d e => (hP2 f a (by omega)).2 g d e⟩]
theorem ct_impl_Category_isShape : CtOk Try.prog 98 c_impl_Category_isShape :=
  ct_by (Φ := lkp [(86, c_impl_Category_arrows), (110, c_impl_Category_ends), (132, c_impl_inRange), (85, c_impl_within)]) (good_cons ct_impl_Category_arrows (good_cons ct_impl_Category_ends (good_cons ct_impl_inRange (good_cons ct_impl_within good_nil)))) tab_ok (by kernel_rfl) (fn := Try.f98) (c := bodyOf Try.f98) (by kernel_rfl) (by kernel_rfl) (by kernel_rfl) c_impl_Category_isShape rfl (.s .n (.s .n (.s .n (.s .n (.s (.s .n (.l [(88, (.d (.int .i64)))] [] [0, 3, 86, 87] .n)) (.s (.s .n (.l [(106, (.d (.int .i64)))] [] [0, 3, 104, 105] (.s .n (.s .n (.s (.s .n (.s .n (.s .n (.l [(117, (.d (.int .i64)))] [] [0, 3, 6, 104, 105, 106, 115, 116] (.s .n (.s .n (.s (.j [] [] [0, 3, 6, 104, 105, 106, 115, 116, 117] .n) .n))))))) .n))))) .n)))))) (cutL [(2, 43), (20, 15), (4, 28), (23, 26)]) (by kernel_rfl) (by kernel_rfl) k_impl_Category_isShape (by decide) (fun x K => W_impl_Category_isShape x.1 K) w_impl_Category_isShape (fun x h1 h2 => m_impl_Category_isShape x.1 h1 h2)
theorem ShapeP.frm {c : CategoryD} (h : ShapeP c) {f : Int} (h0 : 0 ≤ f) (h1 : f < c.2.1.length) : 0 ≤ c.2.1.getD f.toNat 0 ∧ c.2.1.getD f.toNat 0 < c.1 ∧ 0 ≤ c.2.2.1.getD f.toNat 0 ∧ c.2.2.1.getD f.toNat 0 < c.1 := by
  have a := within_iff.1 h.fr f h0 h1
  have b := within_iff.1 h.to f h0 (by have := h.lt; omega)
  exact ⟨a.1, a.2, b.1, b.2⟩
theorem ShapeP.idn {c : CategoryD} (h : ShapeP c) {x : Int} (h0 : 0 ≤ x) (h1 : x < c.1) : 0 ≤ c.2.2.2.1.getD x.toNat 0 ∧ c.2.2.2.1.getD x.toNat 0 < c.2.1.length ∧ c.2.1.getD (c.2.2.2.1.getD x.toNat 0).toNat 0 = x ∧ c.2.2.1.getD (c.2.2.2.1.getD x.toNat 0).toNat 0 = x := by
  have a := within_iff.1 h.ids x h0 (by have := h.li; omega)
  have b := h.idt x h0 h1
  exact ⟨a.1, a.2, b.1, b.2⟩
theorem ShapeP.yes {c : CategoryD} (h : ShapeP c) {f g : Int} (h0 : 0 ≤ f) (h1 : f < c.2.1.length) (g0 : 0 ≤ g) (g1 : g < c.2.1.length) (e : c.2.2.1.getD f.toNat 0 = c.2.1.getD g.toNat 0) :
    0 ≤ compR c f g ∧ compR c f g < c.2.1.length ∧ c.2.1.getD (compR c f g).toNat 0 = c.2.1.getD f.toNat 0 ∧ c.2.2.1.getD (compR c f g).toNat 0 = c.2.2.1.getD g.toNat 0 := by
  have := h.cell f g h0 h1 g0 g1
  unfold cellR cellQ at this
  rw [if_pos e] at this
  simpa using this
theorem ShapeP.no {c : CategoryD} (h : ShapeP c) {f g : Int} (h0 : 0 ≤ f) (h1 : f < c.2.1.length) (g0 : 0 ≤ g) (g1 : g < c.2.1.length) (e : c.2.2.1.getD f.toNat 0 ≠ c.2.1.getD g.toNat 0) : compR c f g = -1 := by
  have := h.cell f g h0 h1 g0 g1
  unfold cellR cellQ at this
  rw [if_neg e] at this
  simpa using this
theorem ShapeP.comp {c : CategoryD} (h : ShapeP c) {f g : Int} (h0 : 0 ≤ f) (h1 : f < c.2.1.length) (g0 : 0 ≤ g) (g1 : g < c.2.1.length) : 0 ≤ compR c f g ↔ c.2.2.1.getD f.toNat 0 = c.2.1.getD g.toNat 0 := by
  constructor
  · intro h2
    by_cases e : c.2.2.1.getD f.toNat 0 = c.2.1.getD g.toNat 0
    · exact e
    · have := h.no h0 h1 g0 g1 e; omega
  · intro e; exact (h.yes h0 h1 g0 g1 e).1
def faultI (c : CategoryD) (f : Int) : Option (Int × Int × Int × Int) :=
  if compR c (c.2.2.2.1.getD (c.2.1.getD f.toNat 0).toNat 0) f ≠ f ∨ compR c f (c.2.2.2.1.getD (c.2.2.1.getD f.toNat 0).toNat 0) ≠ f then some (1, f, 0, 0) else none
def faultH (c : CategoryD) (f g h : Int) : Option (Int × Int × Int × Int) :=
  if c.2.2.1.getD g.toNat 0 = c.2.1.getD h.toNat 0 ∧ compR c (compR c f g) h ≠ compR c f (compR c g h) then some (2, f, g, h) else none
def faultG (c : CategoryD) (f g : Int) : Option (Int × Int × Int × Int) :=
  if c.2.2.1.getD f.toNat 0 = c.2.1.getD g.toNat 0 then scanR (faultH c f g) c.2.1.length 0 else none
def faultF (c : CategoryD) (f : Int) : Option (Int × Int × Int × Int) := scanR (faultG c f) c.2.1.length 0
def faultR (c : CategoryD) : Int × Int × Int × Int :=
  orR (scanR (faultI c) c.2.1.length 0) (orR (scanR (faultF c) c.2.1.length 0) (0, 0, 0, 0))

def c_impl_Category_fault : Ct := ⟨[(.pt CategoryT)], [false], fun x => [ShapeP x.1], [(false, (.fz (.int .i64))), (false, (.fz (.int .i64))), (false, (.fz (.int .i64))), (false, (.fz (.int .i64)))], fun x => ((faultR x.1).1, (faultR x.1).2.1, (faultR x.1).2.2.1, (faultR x.1).2.2.2, ()), false, none⟩
def W_impl_Category_fault (c : CategoryD) (K : Int × Int × Int × Int × Unit → Prop) : Prop := (loopW (S := ((Int × Unit) × Unit)) (fun s => (fun next => ((inK IntKind.i64 s.1.1) → (cnd (decide (s.1.1 < (((List.length c.2.1) : Nat) : Int))) (((0 : Int) ≤ s.1.1) ∧ ((s.1.1 < (((List.length c.2.1) : Nat) : Int)) ∧ (((0 : Int) ≤ (List.getD c.2.1 (Int.toNat s.1.1) (0 : Int))) ∧ (((List.getD c.2.1 (Int.toNat s.1.1) (0 : Int)) < (((List.length c.2.2.2.1) : Nat) : Int)) ∧ (((0 : Int) ≤ (List.getD c.2.2.2.1 (Int.toNat (List.getD c.2.1 (Int.toNat s.1.1) (0 : Int))) (0 : Int))) ∧ (((List.getD c.2.2.2.1 (Int.toNat (List.getD c.2.1 (Int.toNat s.1.1) (0 : Int))) (0 : Int)) < (((List.length c.2.2.2.2) : Nat) : Int)) ∧ (((0 : Int) ≤ s.1.1) ∧ ((s.1.1 < (((List.length (List.getD c.2.2.2.2 (Int.toNat (List.getD c.2.2.2.1 (Int.toNat (List.getD c.2.1 (Int.toNat s.1.1) (0 : Int))) (0 : Int))) ([] : List Int))) : Nat) : Int)) ∧ (((((compR c (List.getD c.2.2.2.1 (Int.toNat (List.getD c.2.1 (Int.toNat s.1.1) (0 : Int))) (0 : Int)) s.1.1) != s.1.1) = Bool.false) → ((s.1.1 < (((List.length c.2.2.1) : Nat) : Int)) ∧ ((0 : Int) ≤ s.1.1))) ∧ (((((compR c (List.getD c.2.2.2.1 (Int.toNat (List.getD c.2.1 (Int.toNat s.1.1) (0 : Int))) (0 : Int)) s.1.1) != s.1.1) = Bool.false) → (((List.getD c.2.2.1 (Int.toNat s.1.1) (0 : Int)) < (((List.length c.2.2.2.1) : Nat) : Int)) ∧ ((0 : Int) ≤ (List.getD c.2.2.1 (Int.toNat s.1.1) (0 : Int))))) ∧ (((((compR c (List.getD c.2.2.2.1 (Int.toNat (List.getD c.2.1 (Int.toNat s.1.1) (0 : Int))) (0 : Int)) s.1.1) != s.1.1) = Bool.false) → ((s.1.1 < (((List.length c.2.2.2.2) : Nat) : Int)) ∧ (((0 : Int) ≤ (List.getD c.2.2.2.1 (Int.toNat (List.getD c.2.2.1 (Int.toNat s.1.1) (0 : Int))) (0 : Int))) ∧ (((List.getD c.2.2.2.1 (Int.toNat (List.getD c.2.2.1 (Int.toNat s.1.1) (0 : Int))) (0 : Int)) < (((List.length (List.getD c.2.2.2.2 (Int.toNat s.1.1) ([] : List Int))) : Nat) : Int)) ∧ ((0 : Int) ≤ s.1.1))))) ∧ (cnd (((compR c (List.getD c.2.2.2.1 (Int.toNat (List.getD c.2.1 (Int.toNat s.1.1) (0 : Int))) (0 : Int)) s.1.1) != s.1.1) || ((compR c s.1.1 (List.getD c.2.2.2.1 (Int.toNat (List.getD c.2.2.1 (Int.toNat s.1.1) (0 : Int))) (0 : Int))) != s.1.1)) (K ((1 : Int), (s.1.1, ((0 : Int), ((0 : Int), ()))))) ((inK IntKind.i64 (s.1.1 + (1 : Int))) ∧ (next (((s.1.1 + (1 : Int)), ()), ()))))))))))))))) (loopW (S := ((Int × Unit) × Unit)) (fun s1 => (fun next1 => ((inK IntKind.i64 s1.1.1) → (cnd (decide (s1.1.1 < (((List.length c.2.1) : Nat) : Int))) (loopW (S := ((Int × Unit) × Unit)) (fun s2 => (fun next2 => ((inK IntKind.i64 s2.1.1) → (cnd (decide (s2.1.1 < (((List.length c.2.1) : Nat) : Int))) (joinW (S := (Unit × Unit)) (fun s3 => ((inK IntKind.i64 (s2.1.1 + (1 : Int))) ∧ (next2 (((s2.1.1 + (1 : Int)), ()), ())))) (fun k => (((0 : Int) ≤ s1.1.1) ∧ ((s1.1.1 < (((List.length c.2.2.2.2) : Nat) : Int)) ∧ (((0 : Int) ≤ s2.1.1) ∧ ((s2.1.1 < (((List.length (List.getD c.2.2.2.2 (Int.toNat s1.1.1) ([] : List Int))) : Nat) : Int)) ∧ (cnd (decide ((compR c s1.1.1 s2.1.1) < (0 : Int))) (k ((), ())) (loopW (S := ((Int × Unit) × Unit)) (fun s3 => (fun next3 => ((inK IntKind.i64 s3.1.1) → (cnd (decide (s3.1.1 < (((List.length c.2.1) : Nat) : Int))) (((0 : Int) ≤ s2.1.1) ∧ ((s2.1.1 < (((List.length c.2.2.2.2) : Nat) : Int)) ∧ (((0 : Int) ≤ s3.1.1) ∧ ((s3.1.1 < (((List.length (List.getD c.2.2.2.2 (Int.toNat s2.1.1) ([] : List Int))) : Nat) : Int)) ∧ ((((decide ((0 : Int) ≤ (compR c s2.1.1 s3.1.1))) = Bool.true) → ((s1.1.1 < (((List.length c.2.2.2.2) : Nat) : Int)) ∧ (((0 : Int) ≤ s2.1.1) ∧ ((s2.1.1 < (((List.length (List.getD c.2.2.2.2 (Int.toNat s1.1.1) ([] : List Int))) : Nat) : Int)) ∧ ((0 : Int) ≤ s1.1.1))))) ∧ ((((decide ((0 : Int) ≤ (compR c s2.1.1 s3.1.1))) = Bool.true) → (((compR c s1.1.1 s2.1.1) < (((List.length c.2.2.2.2) : Nat) : Int)) ∧ (((0 : Int) ≤ s3.1.1) ∧ ((s3.1.1 < (((List.length (List.getD c.2.2.2.2 (Int.toNat (compR c s1.1.1 s2.1.1)) ([] : List Int))) : Nat) : Int)) ∧ ((0 : Int) ≤ (compR c s1.1.1 s2.1.1)))))) ∧ ((((decide ((0 : Int) ≤ (compR c s2.1.1 s3.1.1))) = Bool.true) → ((s2.1.1 < (((List.length c.2.2.2.2) : Nat) : Int)) ∧ (((0 : Int) ≤ s3.1.1) ∧ ((s3.1.1 < (((List.length (List.getD c.2.2.2.2 (Int.toNat s2.1.1) ([] : List Int))) : Nat) : Int)) ∧ ((0 : Int) ≤ s2.1.1))))) ∧ ((((decide ((0 : Int) ≤ (compR c s2.1.1 s3.1.1))) = Bool.true) → ((s1.1.1 < (((List.length c.2.2.2.2) : Nat) : Int)) ∧ (((0 : Int) ≤ (compR c s2.1.1 s3.1.1)) ∧ (((compR c s2.1.1 s3.1.1) < (((List.length (List.getD c.2.2.2.2 (Int.toNat s1.1.1) ([] : List Int))) : Nat) : Int)) ∧ ((0 : Int) ≤ s1.1.1))))) ∧ (cnd ((decide ((0 : Int) ≤ (compR c s2.1.1 s3.1.1))) && ((compR c (compR c s1.1.1 s2.1.1) s3.1.1) != (compR c s1.1.1 (compR c s2.1.1 s3.1.1)))) (K ((2 : Int), (s1.1.1, (s2.1.1, (s3.1.1, ()))))) ((inK IntKind.i64 (s3.1.1 + (1 : Int))) ∧ (next3 (((s3.1.1 + (1 : Int)), ()), ())))))))))))) (k ((), ())))))) (((0 : Int), ()), ()))))))))) ((inK IntKind.i64 (s1.1.1 + (1 : Int))) ∧ (next1 (((s1.1.1 + (1 : Int)), ()), ()))))))) (((0 : Int), ()), ())) (K ((0 : Int), ((0 : Int), ((0 : Int), ((0 : Int), ()))))))))) (((0 : Int), ()), ())))))) (((0 : Int), ()), ()))
theorem w_impl_Category_fault (x : denL c_impl_Category_fault.args) (K : Int × Int × Int × Int × Unit → Prop) : evF tab (lkp [(86, c_impl_Category_arrows), (89, c_impl_Category_then)]) (cutL [(5, 38)]) Try.f99 (bodyOf Try.f99) (.s .n (.s .n (.s (.s .n (.l [(7, (.d (.int .i64)))] [] [0, 6] .n)) (.s (.s .n (.l [(8, (.d (.int .i64)))] [] [0, 6] (.s .n (.s (.s .n (.l [(9, (.d (.int .i64)))] [] [0, 6, 8] (.s .n (.s (.j [] [] [0, 6, 8, 9] (.s .n (.s .n (.l [(10, (.d (.int .i64)))] [] [0, 6, 8, 9] .n)))) .n)))) .n)))) .n)))) c_impl_Category_fault x K = W_impl_Category_fault x.1 K := by kernel_rfl
theorem k_impl_Category_fault : okC Try.f99.ntmps (cutL [(5, 38)]) (bodyOf Try.f99) = true := by kernel_rfl
theorem m_impl_Category_fault (c : CategoryD) (hok : allP (okL c_impl_Category_fault.args (c, ()))) (hpre : allP (c_impl_Category_fault.pre (c, ()))) : W_impl_Category_fault c (fun r => r = c_impl_Category_fault.res (c, ())) := by
  simp only [c_impl_Category_fault, okL, T.oks, T.ok, ap, allP, true_and, and_true, implies_true] at hok hpre
  try dsimp only [T.den] at hok
  try dsimp only [T.den] at hpre
  unfold W_impl_Category_fault
  have S : ShapeP c := hpre
  have hlt := S.lt
  have hli := S.li
  have hlc := S.lc
  have hmm := S.m
  have resq : ∀ a b d e, faultR c = (a, b, d, e) → (a, b, d, e, ()) = c_impl_Category_fault.res (c, ()) := fun a b d e h => by simp only [c_impl_Category_fault, h]
  refine loop_ix (n := c.2.1.length) (fun f => scanR (faultI c) c.2.1.length 0 = scanR (faultI c) ((c.2.1.length : Int) - f).toNat f) (by omega) scan_0 ?_ ?_
  · intro f next h0 h1 hP hn hin
    try dsimp only
    obtain ⟨a1, a2, a3, a4⟩ := S.frm h0 h1
    obtain ⟨b1, b2, _, _⟩ := S.idn a1 a2
    obtain ⟨d1, d2, _, _⟩ := S.idn a3 a4
    have r1 := S.row _ b1 b2
    have r2 := S.row f h0 h1
    refine cnd_d (fun _ => ⟨h0, h1, by omega, by omega, by omega, by omega, h0, by omega, fun _ => by omega, fun _ => by omega, fun _ => by omega, cnd_of (fun hx => resq _ _ _ _ ?_) (fun hx => ⟨by rw [inK64]; (try dsimp only); omega, hn ?_⟩)⟩) (fun h => absurd h1 h)
    · have : faultI c f = some (1, f, 0, 0) := by unfold faultI; rw [if_pos]; simpa using hx
      unfold faultR; rw [hP, scan_s h1 this]; rfl
    · have : faultI c f = none := by unfold faultI; rw [if_neg]; simpa using hx
      rw [hP, scan_c h1 this]
  intro next hI hin
  rw [scan_n] at hI
  refine cnd_d (fun h => absurd h (by dsimp only; omega)) (fun _ => ?_)
  have hF : faultR c = orR (scanR (faultF c) c.2.1.length 0) (0, 0, 0, 0) := by unfold faultR; rw [hI]; rfl
  refine loop_ix (n := c.2.1.length) (fun f => scanR (faultF c) c.2.1.length 0 = scanR (faultF c) ((c.2.1.length : Int) - f).toNat f) (by omega) scan_0 ?_ ?_
  · intro f next h0 h1 hP hn hin
    try dsimp only
    refine cnd_d (fun _ => ?_) (fun h => absurd h1 h)
    have r1 := S.row f h0 h1
    refine loop_ix (n := c.2.1.length) (fun g => faultF c f = scanR (faultG c f) ((c.2.1.length : Int) - g).toNat g) (by omega) scan_0 ?_ ?_
    · intro g next3 g0 g1 hP3 hn3 hin3
      try dsimp only
      refine cnd_d (fun _ => ?_) (fun h => absurd g1 h)
      have r2 := S.row g g0 g1
      refine join_of (fun _ => faultG c f g = none) (fun _ hG => ⟨by rw [inK64]; (try dsimp only); omega, hn3 (by rw [hP3, scan_c g1 hG])⟩) (fun k hk => ?_)
      have hk' := hk ((), ())
      refine ⟨by omega, by omega, by omega, by omega, cnd_d (fun hx => hk' ?_) (fun hx => ?_)⟩
      · unfold faultG; rw [if_neg]; intro e; have := (S.comp h0 h1 g0 g1).2 e; omega
      have hfg := (S.comp h0 h1 g0 g1).1 (by omega)
      obtain ⟨y1, y2, _, _⟩ := S.yes h0 h1 g0 g1 hfg
      refine loop_ix (n := c.2.1.length) (fun h => faultG c f g = scanR (faultH c f g) ((c.2.1.length : Int) - h).toNat h) (by omega) (by unfold faultG; rw [if_pos hfg]; exact scan_0) ?_ ?_
      · intro h next4 i0 i1 hP4 hn4 hin4
        try dsimp only
        refine cnd_d (fun _ => ?_) (fun h => absurd i1 h)
        have r3 := S.row _ y1 y2
        have cgh := S.comp g0 g1 i0 i1
        have ygh := @ShapeP.yes c S g h g0 g1 i0 i1
        refine ⟨by omega, by omega, by omega, by omega, fun _ => by omega, fun _ => by omega, fun _ => by omega, fun he => ?_, cnd_of (fun hx => resq _ _ _ _ ?_) (fun hx => ⟨by rw [inK64]; (try dsimp only); omega, hn4 ?_⟩)⟩
        · have := ygh (cgh.1 (by simpa using he)); omega
        · have : faultH c f g h = some (2, f, g, h) := by unfold faultH; rw [if_pos]; rw [← cgh]; simpa using hx
          have e1 : faultG c f g = some (2, f, g, h) := by rw [hP4, scan_s i1 this]
          have e2 : faultF c f = some (2, f, g, h) := by rw [hP3, scan_s g1 e1]
          rw [hF, hP, scan_s h1 e2]; rfl
        · have : faultH c f g h = none := by unfold faultH; rw [if_neg]; rw [← cgh]; simpa using hx
          rw [hP4, scan_c i1 this]
      · intro next4 hP4 hin4
        rw [scan_n] at hP4
        exact cnd_d (fun h => absurd h (by dsimp only; omega)) (fun _ => hk' hP4)
    · intro next3 hP3 hin3
      rw [scan_n] at hP3
      exact cnd_d (fun h => absurd h (by dsimp only; omega)) (fun _ => ⟨by rw [inK64]; (try dsimp only); omega, hn (by rw [hP, scan_c h1 hP3])⟩)
  · intro next2 hP2 hin2
    rw [scan_n] at hP2
    refine cnd_d (fun h => absurd h (by dsimp only; omega)) (fun _ => resq _ _ _ _ ?_)
    rw [hF, hP2]; rfl
theorem ct_impl_Category_fault : CtOk Try.prog 99 c_impl_Category_fault :=
  ct_by (Φ := lkp [(86, c_impl_Category_arrows), (89, c_impl_Category_then)]) (good_cons ct_impl_Category_arrows (good_cons ct_impl_Category_then good_nil)) tab_ok (by kernel_rfl) (fn := Try.f99) (c := bodyOf Try.f99) (by kernel_rfl) (by kernel_rfl) (by kernel_rfl) c_impl_Category_fault rfl (.s .n (.s .n (.s (.s .n (.l [(7, (.d (.int .i64)))] [] [0, 6] .n)) (.s (.s .n (.l [(8, (.d (.int .i64)))] [] [0, 6] (.s .n (.s (.s .n (.l [(9, (.d (.int .i64)))] [] [0, 6, 8] (.s .n (.s (.j [] [] [0, 6, 8, 9] (.s .n (.s .n (.l [(10, (.d (.int .i64)))] [] [0, 6, 8, 9] .n)))) .n)))) .n)))) .n)))) (cutL [(5, 38)]) (by kernel_rfl) (by kernel_rfl) k_impl_Category_fault (by decide) (fun x K => W_impl_Category_fault x.1 K) w_impl_Category_fault (fun x h1 h2 => m_impl_Category_fault x.1 h1 h2)
def catR (c : CategoryD) : Bool := shapeR c && (faultR c).1 == 0

def c_impl_Category_isCategory : Ct := ⟨[(.pt CategoryT)], [false], fun x => [], [(false, (.fz .bool))], fun x => (catR x.1, ()), false, none⟩
def W_impl_Category_isCategory (c : CategoryD) (K : Bool × Unit → Prop) : Prop := (cnd (!(shapeR c)) (K (Bool.false, ())) ((ShapeP c) ∧ (K (((faultR c).1 == (0 : Int)), ()))))
theorem w_impl_Category_isCategory (x : denL c_impl_Category_isCategory.args) (K : Bool × Unit → Prop) : evF tab (lkp [(99, c_impl_Category_fault), (98, c_impl_Category_isShape)]) (cutL []) Try.f60 (bodyOf Try.f60) .n c_impl_Category_isCategory x K = W_impl_Category_isCategory x.1 K := by kernel_rfl
theorem k_impl_Category_isCategory : okC Try.f60.ntmps (cutL []) (bodyOf Try.f60) = true := by kernel_rfl
theorem m_impl_Category_isCategory (c : CategoryD) (hok : allP (okL c_impl_Category_isCategory.args (c, ()))) (hpre : allP (c_impl_Category_isCategory.pre (c, ()))) : W_impl_Category_isCategory c (fun r => r = c_impl_Category_isCategory.res (c, ())) := by
  simp only [c_impl_Category_isCategory, okL, T.oks, T.ok, ap, allP, true_and, and_true, implies_true] at hok hpre
  try dsimp only [T.den] at hok
  try dsimp only [T.den] at hpre
  unfold W_impl_Category_isCategory
  simp only [c_impl_Category_isCategory, catR]
  have := @shape_iff c
  grind [cnd, nb_eq, inK64]
theorem ct_impl_Category_isCategory : CtOk Try.prog 60 c_impl_Category_isCategory :=
  ct_by (Φ := lkp [(99, c_impl_Category_fault), (98, c_impl_Category_isShape)]) (good_cons ct_impl_Category_fault (good_cons ct_impl_Category_isShape good_nil)) tab_ok (by kernel_rfl) (fn := Try.f60) (c := bodyOf Try.f60) (by kernel_rfl) (by kernel_rfl) (by kernel_rfl) c_impl_Category_isCategory rfl .n (cutL []) (by kernel_rfl) (by kernel_rfl) k_impl_Category_isCategory (by decide) (fun x K => W_impl_Category_isCategory x.1 K) w_impl_Category_isCategory (fun x h1 h2 => m_impl_Category_isCategory x.1 h1 h2)
def objCodeR (c : CategoryD) (l : List Int) : Int := if catR c = true then (if withinR l c.1 = true then 0 else 2) else 1
theorem cat_shape {c : CategoryD} (h : catR c = true) : ShapeP c := by
  simp only [catR, Bool.and_eq_true] at h; exact shape_iff.1 h.1
theorem scan_none {α : Type} {p : Int → Option α} : ∀ {n : Nat} {i : Int}, scanR p n i = none → ∀ j : Int, i ≤ j → j < i + n → p j = none
  | 0, i, _, j, h0, h1 => by omega
  | n + 1, i, h, j, h0, h1 => by
    unfold scanR at h
    cases hp : p i with
    | some v => rw [hp] at h; cases h
    | none =>
      rw [hp] at h
      by_cases e : j = i
      · rw [e, hp]
      · exact scan_none (n := n) (i := i + 1) h j (by omega) (by omega)
theorem scan_some {α : Type} {p : Int → Option α} {v : α} : ∀ {n : Nat} {i : Int}, scanR p n i = some v → ∃ j : Int, p j = some v
  | 0, i, h => by cases h
  | n + 1, i, h => by
    unfold scanR at h
    cases hp : p i with
    | some w => rw [hp] at h; exact ⟨i, hp.trans h⟩
    | none => rw [hp] at h; exact scan_some (n := n) (i := i + 1) h
theorem cat_assoc {c : CategoryD} (hc : catR c = true) {f g h : Int} (f0 : 0 ≤ f) (f1 : f < c.2.1.length) (g0 : 0 ≤ g) (g1 : g < c.2.1.length) (h0 : 0 ≤ h) (h1 : h < c.2.1.length)
    (hfg : c.2.2.1.getD f.toNat 0 = c.2.1.getD g.toNat 0) (hgh : c.2.2.1.getD g.toNat 0 = c.2.1.getD h.toNat 0) : compR c (compR c f g) h = compR c f (compR c g h) := by
  simp only [catR, Bool.and_eq_true, beq_iff_eq] at hc
  have h2 := hc.2
  unfold faultR at h2
  cases h3 : scanR (faultI c) c.2.1.length 0 with
  | some v =>
    obtain ⟨j, hj⟩ := scan_some h3
    unfold faultI at hj
    split at hj
    · cases hj; rw [h3] at h2; simp [orR] at h2
    · cases hj
  | none =>
    rw [h3] at h2
    cases h4 : scanR (faultF c) c.2.1.length 0 with
    | some v =>
      obtain ⟨j, hj⟩ := scan_some h4
      unfold faultF at hj
      obtain ⟨k, hk⟩ := scan_some hj
      unfold faultG at hk
      split at hk
      · obtain ⟨l, hl⟩ := scan_some hk
        unfold faultH at hl
        split at hl
        · cases hl; rw [h4] at h2; simp [orR] at h2
        · cases hl
      · cases hk
    | none =>
      have a1 := scan_none h4 f f0 (by omega)
      unfold faultF at a1
      have a2 := scan_none a1 g g0 (by omega)
      unfold faultG at a2
      rw [if_pos hfg] at a2
      have a3 := scan_none a2 h h0 (by omega)
      unfold faultH at a3
      split at a3
      · cases a3
      · rename_i hn
        exact Decidable.byContradiction fun hne => hn ⟨hgh, hne⟩

/-- the arrows out of x -/
def outR (c : CategoryD) (x : Int) : List Int := selR c.2.1.length fun f => c.2.1.getD f.toNat 0 == x

def c_impl_Category_outOf : Ct := ⟨[(.pt CategoryT), (.int .i64)], [false, false], fun x => [x.1.2.1.length ≤ 40], [(false, (.sl (.fz (.int .i64))))], fun x => (outR x.1 x.2.1, ()), false, none⟩
def W_impl_Category_outOf (c : CategoryD) (x : Int) (K : (List Int) × Unit → Prop) : Prop := (loopW (S := ((Unit × (Int × Unit)) × ((List Int) × Unit))) (fun s => (fun next => ((inK IntKind.i64 s.1.2.1) → ((T.ok (T.sl (T.int IntKind.i64)) s.2.1) → (cnd (decide (s.1.2.1 < (((List.length c.2.1) : Nat) : Int))) (((0 : Int) ≤ s.1.2.1) ∧ ((s.1.2.1 < (((List.length c.2.1) : Nat) : Int)) ∧ (joinW (S := ((Unit × Unit) × ((List Int) × Unit))) (fun s1 => ((T.ok (T.sl (T.int IntKind.i64)) s1.2.1) → ((inK IntKind.i64 (s.1.2.1 + (1 : Int))) ∧ (next (((), ((s.1.2.1 + (1 : Int)), ())), (s1.2.1, ())))))) (fun k => (cnd ((List.getD c.2.1 (Int.toNat s.1.2.1) (0 : Int)) == x) ((room (List.length s.2.1) (List.length (s.1.2.1 :: ([] : List Int))) 8) ∧ (k (((), ()), ((s.2.1 ++ (s.1.2.1 :: ([] : List Int))), ())))) (k (((), ()), (s.2.1, ())))))))) (K (s.2.1, ()))))))) (((), ((0 : Int), ())), (([] : List Int), ())))
theorem w_impl_Category_outOf (x : denL c_impl_Category_outOf.args) (K : (List Int) × Unit → Prop) : evF tab (lkp []) (cutL []) Try.f87 (bodyOf Try.f87) (.s .n (.s .n (.s (.s .n (.l [(5, (.ref 800005 [])), (14, (.d (.int .i64)))] [(800005, (.sl (.fz (.int .i64))))] [1, 12, 13] (.s .n (.s .n (.s (.s .n (.s .n (.j [(5, (.ref 800005 []))] [(800005, (.sl (.fz (.int .i64))))] [1, 12, 13, 14] .n))) .n))))) .n))) c_impl_Category_outOf x K = W_impl_Category_outOf x.1 x.2.1 K := by kernel_rfl
theorem k_impl_Category_outOf : okC Try.f87.ntmps (cutL []) (bodyOf Try.f87) = true := by kernel_rfl
theorem m_impl_Category_outOf (c : CategoryD) (x : Int) (hok : allP (okL c_impl_Category_outOf.args (c, x, ()))) (hpre : allP (c_impl_Category_outOf.pre (c, x, ()))) : W_impl_Category_outOf c x (fun r => r = c_impl_Category_outOf.res (c, x, ())) := by
  simp only [c_impl_Category_outOf, okL, T.oks, T.ok, ap, allP, true_and, and_true, implies_true] at hok hpre
  try dsimp only [T.den] at hok
  try dsimp only [T.den] at hpre
  unfold W_impl_Category_outOf
  have hm : c.2.1.length ≤ 40 := hpre
  refine loop_of (fun (s : ((Unit × (Int × Unit)) × ((List Int) × Unit))) => 0 ≤ s.1.2.1 ∧ s.1.2.1 ≤ c.2.1.length ∧ s.2.1 = selR s.1.2.1.toNat fun f => c.2.1.getD f.toNat 0 == x) (fun (s : ((Unit × (Int × Unit)) × ((List Int) × Unit))) => (c.2.1.length - s.1.2.1).toNat) ?_ ⟨by simp, by simp, rfl⟩
  rintro ⟨⟨_, i, _⟩, l, _⟩ next ⟨h0, h1, h2⟩ hn hin hl
  try dsimp only at h0 h1 h2 hn ⊢
  subst h2
  refine cnd_d (fun hc => ⟨h0, hc, join_of (fun s1 => s1.2.1 = selR (i + 1).toNat fun f => c.2.1.getD f.toNat 0 == x) (fun s1 hs _ => ⟨by rw [inK64]; (try dsimp only); omega, hn _ ⟨(by first | omega | (dsimp only; omega)), (by first | omega | (dsimp only; omega)), hs⟩ (by first | omega | (dsimp only; omega))⟩) (fun k hk => cnd_of (fun hx => ⟨?_, hk _ ?_⟩) (fun hx => hk _ ?_))⟩) (fun hc => ?_)
  · have := sel_len (p := fun f => c.2.1.getD f.toNat 0 == x) i.toNat
    unfold room
    rw [nb_eq]
    have h3 : (i :: ([] : List Int)).length = 1 := rfl
    rw [h3]
    omega
  · exact (sel_t h0 hx).symm
  · exact (sel_f h0 hx).symm
  · have e : i.toNat = c.2.1.length := by omega
    simp only [c_impl_Category_outOf, outR]
    rw [e]
theorem ct_impl_Category_outOf : CtOk Try.prog 87 c_impl_Category_outOf :=
  ct_by (Φ := lkp []) good_nil tab_ok (by kernel_rfl) (fn := Try.f87) (c := bodyOf Try.f87) (by kernel_rfl) (by kernel_rfl) (by kernel_rfl) c_impl_Category_outOf rfl (.s .n (.s .n (.s (.s .n (.l [(5, (.ref 800005 [])), (14, (.d (.int .i64)))] [(800005, (.sl (.fz (.int .i64))))] [1, 12, 13] (.s .n (.s .n (.s (.s .n (.s .n (.j [(5, (.ref 800005 []))] [(800005, (.sl (.fz (.int .i64))))] [1, 12, 13, 14] .n))) .n))))) .n))) (cutL []) (by kernel_rfl) (by kernel_rfl) k_impl_Category_outOf (by decide) (fun x K => W_impl_Category_outOf x.1 x.2.1 K) w_impl_Category_outOf (fun x h1 h2 => m_impl_Category_outOf x.1 x.2.1 h1 h2)
def c_impl_marked : Ct := ⟨[(.sl .bool)], [false], fun x => [x.1.length ≤ 1099511627776], [(false, (.sl (.fz (.int .i64))))], fun x => (selR x.1.length (fun i => x.1.getD i.toNat false), ()), false, none⟩
def W_impl_marked (there : List Bool) (K : (List Int) × Unit → Prop) : Prop := (loopW (S := ((Unit × (Int × Unit)) × ((List Int) × Unit))) (fun s => (fun next => ((inK IntKind.i64 s.1.2.1) → ((T.ok (T.sl (T.int IntKind.i64)) s.2.1) → (cnd (decide (s.1.2.1 < (((List.length there) : Nat) : Int))) (((0 : Int) ≤ s.1.2.1) ∧ ((s.1.2.1 < (((List.length there) : Nat) : Int)) ∧ (joinW (S := ((Unit × Unit) × ((List Int) × Unit))) (fun s1 => ((T.ok (T.sl (T.int IntKind.i64)) s1.2.1) → ((inK IntKind.i64 (s.1.2.1 + (1 : Int))) ∧ (next (((), ((s.1.2.1 + (1 : Int)), ())), (s1.2.1, ())))))) (fun k => (cnd (List.getD there (Int.toNat s.1.2.1) Bool.false) ((room (List.length s.2.1) (List.length (s.1.2.1 :: ([] : List Int))) 8) ∧ (k (((), ()), ((s.2.1 ++ (s.1.2.1 :: ([] : List Int))), ())))) (k (((), ()), (s.2.1, ())))))))) (K (s.2.1, ()))))))) (((), ((0 : Int), ())), (([] : List Int), ())))
theorem w_impl_marked (x : denL c_impl_marked.args) (K : (List Int) × Unit → Prop) : evF tab (lkp []) (cutL []) Try.f100 (bodyOf Try.f100) (.s .n (.s .n (.s (.s .n (.l [(3, (.ref 800003 [])), (9, (.d (.int .i64)))] [(800003, (.sl (.fz (.int .i64))))] [7, 8] (.s .n (.s .n (.s (.s .n (.s .n (.j [(3, (.ref 800003 []))] [(800003, (.sl (.fz (.int .i64))))] [7, 8, 9] .n))) .n))))) .n))) c_impl_marked x K = W_impl_marked x.1 K := by kernel_rfl
theorem k_impl_marked : okC Try.f100.ntmps (cutL []) (bodyOf Try.f100) = true := by kernel_rfl
theorem m_impl_marked (there : List Bool) (hok : allP (okL c_impl_marked.args (there, ()))) (hpre : allP (c_impl_marked.pre (there, ()))) : W_impl_marked there (fun r => r = c_impl_marked.res (there, ())) := by
  simp only [c_impl_marked, okL, T.oks, T.ok, ap, allP, true_and, and_true, implies_true] at hok hpre
  try dsimp only [T.den] at hok
  try dsimp only [T.den] at hpre
  unfold W_impl_marked
  have hm : there.length ≤ 1099511627776 := hpre
  refine loop_of (fun (s : ((Unit × (Int × Unit)) × ((List Int) × Unit))) => 0 ≤ s.1.2.1 ∧ s.1.2.1 ≤ there.length ∧ s.2.1 = selR s.1.2.1.toNat fun i => there.getD i.toNat false) (fun (s : ((Unit × (Int × Unit)) × ((List Int) × Unit))) => (there.length - s.1.2.1).toNat) ?_ ⟨by simp, by simp, rfl⟩
  rintro ⟨⟨_, i, _⟩, l, _⟩ next ⟨h0, h1, h2⟩ hn hin hl
  try dsimp only at h0 h1 h2 hn ⊢
  subst h2
  refine cnd_d (fun hc => ⟨h0, hc, join_of (fun s1 => s1.2.1 = selR (i + 1).toNat fun i => there.getD i.toNat false) (fun s1 hs _ => ⟨by rw [inK64]; (try dsimp only); omega, hn _ ⟨(by first | omega | (dsimp only; omega)), (by first | omega | (dsimp only; omega)), hs⟩ (by first | omega | (dsimp only; omega))⟩) (fun k hk => cnd_of (fun hx => ⟨?_, hk _ ?_⟩) (fun hx => hk _ ?_))⟩) (fun hc => ?_)
  · have := sel_len (p := fun i => there.getD i.toNat false) i.toNat
    unfold room
    rw [nb_eq]
    have h3 : (i :: ([] : List Int)).length = 1 := rfl
    rw [h3]
    omega
  · exact (sel_t h0 hx).symm
  · exact (sel_f h0 hx).symm
  · have e1 : i.toNat = there.length := by omega
    simp only [c_impl_marked]
    rw [e1]
theorem ct_impl_marked : CtOk Try.prog 100 c_impl_marked :=
  ct_by (Φ := lkp []) good_nil tab_ok (by kernel_rfl) (fn := Try.f100) (c := bodyOf Try.f100) (by kernel_rfl) (by kernel_rfl) (by kernel_rfl) c_impl_marked rfl (.s .n (.s .n (.s (.s .n (.l [(3, (.ref 800003 [])), (9, (.d (.int .i64)))] [(800003, (.sl (.fz (.int .i64))))] [7, 8] (.s .n (.s .n (.s (.s .n (.s .n (.j [(3, (.ref 800003 []))] [(800003, (.sl (.fz (.int .i64))))] [7, 8, 9] .n))) .n))))) .n))) (cutL []) (by kernel_rfl) (by kernel_rfl) k_impl_marked (by decide) (fun x K => W_impl_marked x.1 K) w_impl_marked (fun x h1 h2 => m_impl_marked x.1 h1 h2)
def squareR (t : List (List Int)) (b : Int) : Bool := allB t.length fun i => decide ((t.getD i.toNat []).length = t.length) && withinR (t.getD i.toNat []) b
def tabR (t : List (List Int)) (n : Int) : Bool := decide ((t.length : Int) = n) && squareR t n
def atR (t : List (List Int)) (i j : Int) : Int := (t.getD i.toNat []).getD j.toNat 0
theorem square_iff {t : List (List Int)} {b : Int} : squareR t b = true ↔ ∀ i : Int, 0 ≤ i → i < t.length → (t.getD i.toNat []).length = t.length ∧ withinR (t.getD i.toNat []) b = true := by
  simp only [squareR, allB_iff, Bool.and_eq_true, decide_eq_true_eq]
theorem tab_at {t : List (List Int)} {n : Int} (h : tabR t n = true) : (t.length : Int) = n ∧ (∀ i : Int, 0 ≤ i → i < n → ((t.getD i.toNat []).length : Int) = n) ∧ ∀ i j : Int, 0 ≤ i → i < n → 0 ≤ j → j < n → 0 ≤ atR t i j ∧ atR t i j < n := by
  simp only [tabR, Bool.and_eq_true, decide_eq_true_eq, square_iff] at h
  refine ⟨h.1, fun i h0 h1 => ?_, fun i j h0 h1 g0 g1 => ?_⟩
  · have := (h.2 i h0 (by omega)).1; omega
  · obtain ⟨a, b⟩ := h.2 i h0 (by omega)
    exact within_iff.1 b j g0 (by omega)

def endsR (m : MonoidalD) : Bool := allB m.1.2.1.length fun f => allB m.1.2.1.length fun g =>
  decide (m.1.2.1.getD (atR m.2.2.2 f g).toNat 0 = atR m.2.2.1 (m.1.2.1.getD f.toNat 0) (m.1.2.1.getD g.toNat 0)) && decide (m.1.2.2.1.getD (atR m.2.2.2 f g).toNat 0 = atR m.2.2.1 (m.1.2.2.1.getD f.toNat 0) (m.1.2.2.1.getD g.toNat 0))
theorem ends_iff {m : MonoidalD} : endsR m = true ↔ ∀ f : Int, 0 ≤ f → f < m.1.2.1.length → ∀ g : Int, 0 ≤ g → g < m.1.2.1.length →
    m.1.2.1.getD (atR m.2.2.2 f g).toNat 0 = atR m.2.2.1 (m.1.2.1.getD f.toNat 0) (m.1.2.1.getD g.toNat 0) ∧ m.1.2.2.1.getD (atR m.2.2.2 f g).toNat 0 = atR m.2.2.1 (m.1.2.2.1.getD f.toNat 0) (m.1.2.2.1.getD g.toNat 0) := by
  simp only [endsR, allB_iff, Bool.and_eq_true, decide_eq_true_eq]

def interR (m : MonoidalD) : Bool := allB m.1.2.1.length fun f => allB m.1.2.1.length fun h => decide (m.1.2.2.1.getD f.toNat 0 ≠ m.1.2.1.getD h.toNat 0) || allB m.1.2.1.length fun g => allB m.1.2.1.length fun k =>
  decide (m.1.2.2.1.getD g.toNat 0 ≠ m.1.2.1.getD k.toNat 0) || decide (atR m.2.2.2 (compR m.1 f h) (compR m.1 g k) = compR m.1 (atR m.2.2.2 f g) (atR m.2.2.2 h k))
theorem inter_iff {m : MonoidalD} : interR m = true ↔ ∀ f : Int, 0 ≤ f → f < m.1.2.1.length → ∀ h : Int, 0 ≤ h → h < m.1.2.1.length → m.1.2.2.1.getD f.toNat 0 = m.1.2.1.getD h.toNat 0 → ∀ g : Int, 0 ≤ g → g < m.1.2.1.length → ∀ k : Int, 0 ≤ k → k < m.1.2.1.length → m.1.2.2.1.getD g.toNat 0 = m.1.2.1.getD k.toNat 0 →
    atR m.2.2.2 (compR m.1 f h) (compR m.1 g k) = compR m.1 (atR m.2.2.2 f g) (atR m.2.2.2 h k) := by
  simp only [interR, allB_iff, Bool.or_eq_true, decide_eq_true_eq]
  constructor
  · intro q f f0 f1 h h0 h1 e g g0 g1 k k0 k1 e2
    rcases q f f0 f1 h h0 h1 with a | a
    · exact absurd e a
    rcases a g g0 g1 k k0 k1 with b | b
    · exact absurd e2 b
    · exact b
  · intro q f f0 f1 h h0 h1
    by_cases e : m.1.2.2.1.getD f.toNat 0 = m.1.2.1.getD h.toNat 0
    · refine .inr fun g g0 g1 k k0 k1 => ?_
      by_cases e2 : m.1.2.2.1.getD g.toNat 0 = m.1.2.1.getD k.toNat 0
      · exact .inr (q f f0 f1 h h0 h1 e g g0 g1 k k0 k1 e2)
      · exact .inl e2
    · exact .inl e
theorem out_at {c : CategoryD} {x i : Int} (h0 : 0 ≤ i) (h1 : i < (outR c x).length) : 0 ≤ (outR c x).getD i.toNat 0 ∧ (outR c x).getD i.toNat 0 < c.2.1.length ∧ c.2.1.getD ((outR c x).getD i.toNat 0).toNat 0 = x := by
  have := getD_mem (outR c x) 0 h0 h1
  generalize (outR c x).getD i.toNat 0 = y at *
  unfold outR at this
  rw [sel_mem, beq_iff_eq] at this
  exact this
theorem out_all {c : CategoryD} {x : Int} {p : Int → Prop} (h : ∀ i : Int, 0 ≤ i → i < (outR c x).length → p ((outR c x).getD i.toNat 0)) {y : Int} (y0 : 0 ≤ y) (y1 : y < c.2.1.length) (e : c.2.1.getD y.toNat 0 = x) : p y :=
  (all_ix (d := (0 : Int))).2 h y (by unfold outR; rw [sel_mem, beq_iff_eq]; exact ⟨y0, y1, e⟩)
theorem out_len {c : CategoryD} (S : ShapeP c) (x : Int) : (outR c x).length ≤ 40 := Nat.le_trans (sel_len _) S.m

/-- the arrows that these arrows lead to -/
def closeR (c : CategoryD) (l : List Int) : List Int := selR c.2.1.length fun y => l.any fun a => (outR c (c.2.2.1.getD a.toNat 0)).any fun b => compR c a b == y

def c_impl_Category_sieveOf : Ct := ⟨[(.pt CategoryT), (.sl (.int .i64))], [false, false], fun x => [ShapeP x.1, withinR x.2.1 x.1.2.1.length = true], [(false, (.sl (.fz (.int .i64))))], fun x => (closeR x.1 x.2.1, ()), false, none⟩
def W_impl_Category_sieveOf (c : CategoryD) (arrows : List Int) (K : (List Int) × Unit → Prop) : Prop := (((0 : Int) ≤ (((List.length c.2.1) : Nat) : Int)) ∧ (((((List.length c.2.1) : Nat) : Int) ≤ (((List.length c.2.1) : Nat) : Int)) ∧ (((((List.length c.2.1) : Nat) : Int) ≤ ((140737488355328 : Nat) : Int)) ∧ ((((((List.length c.2.1) : Nat) : Int) * ((1 : Nat) : Int)) ≤ ((140737488355328 : Nat) : Int)) ∧ (loopW (S := ((Unit × (Int × Unit)) × ((List Bool) × Unit))) (fun s => (fun next => ((inK IntKind.i64 s.1.2.1) → ((T.ok (T.sl T.bool) s.2.1) → (cnd (decide (s.1.2.1 < (((List.length arrows) : Nat) : Int))) (((0 : Int) ≤ s.1.2.1) ∧ ((s.1.2.1 < (((List.length arrows) : Nat) : Int)) ∧ (((0 : Int) ≤ (List.getD arrows (Int.toNat s.1.2.1) (0 : Int))) ∧ (((List.getD arrows (Int.toNat s.1.2.1) (0 : Int)) < (((List.length c.2.2.1) : Nat) : Int)) ∧ (((List.length c.2.1) ≤ 40) ∧ (loopW (S := ((Unit × (Int × Unit)) × ((List Bool) × Unit))) (fun s1 => (fun next1 => ((inK IntKind.i64 s1.1.2.1) → ((T.ok (T.sl T.bool) s1.2.1) → (cnd (decide (s1.1.2.1 < (((List.length (outR c (List.getD c.2.2.1 (Int.toNat (List.getD arrows (Int.toNat s.1.2.1) (0 : Int))) (0 : Int)))) : Nat) : Int))) (((0 : Int) ≤ s1.1.2.1) ∧ ((s1.1.2.1 < (((List.length (outR c (List.getD c.2.2.1 (Int.toNat (List.getD arrows (Int.toNat s.1.2.1) (0 : Int))) (0 : Int)))) : Nat) : Int)) ∧ (((0 : Int) ≤ (List.getD arrows (Int.toNat s.1.2.1) (0 : Int))) ∧ (((List.getD arrows (Int.toNat s.1.2.1) (0 : Int)) < (((List.length c.2.2.2.2) : Nat) : Int)) ∧ (((0 : Int) ≤ (List.getD (outR c (List.getD c.2.2.1 (Int.toNat (List.getD arrows (Int.toNat s.1.2.1) (0 : Int))) (0 : Int))) (Int.toNat s1.1.2.1) (0 : Int))) ∧ (((List.getD (outR c (List.getD c.2.2.1 (Int.toNat (List.getD arrows (Int.toNat s.1.2.1) (0 : Int))) (0 : Int))) (Int.toNat s1.1.2.1) (0 : Int)) < (((List.length (List.getD c.2.2.2.2 (Int.toNat (List.getD arrows (Int.toNat s.1.2.1) (0 : Int))) ([] : List Int))) : Nat) : Int)) ∧ (((0 : Int) ≤ (compR c (List.getD arrows (Int.toNat s.1.2.1) (0 : Int)) (List.getD (outR c (List.getD c.2.2.1 (Int.toNat (List.getD arrows (Int.toNat s.1.2.1) (0 : Int))) (0 : Int))) (Int.toNat s1.1.2.1) (0 : Int)))) ∧ (((compR c (List.getD arrows (Int.toNat s.1.2.1) (0 : Int)) (List.getD (outR c (List.getD c.2.2.1 (Int.toNat (List.getD arrows (Int.toNat s.1.2.1) (0 : Int))) (0 : Int))) (Int.toNat s1.1.2.1) (0 : Int))) < (((List.length s1.2.1) : Nat) : Int)) ∧ ((inK IntKind.i64 (s1.1.2.1 + (1 : Int))) ∧ (next1 (((), ((s1.1.2.1 + (1 : Int)), ())), ((List.set s1.2.1 (Int.toNat (compR c (List.getD arrows (Int.toNat s.1.2.1) (0 : Int)) (List.getD (outR c (List.getD c.2.2.1 (Int.toNat (List.getD arrows (Int.toNat s.1.2.1) (0 : Int))) (0 : Int))) (Int.toNat s1.1.2.1) (0 : Int)))) Bool.true), ())))))))))))) ((inK IntKind.i64 (s.1.2.1 + (1 : Int))) ∧ (next (((), ((s.1.2.1 + (1 : Int)), ())), (s1.2.1, ()))))))))) (((), ((0 : Int), ())), (s.2.1, ())))))))) (((List.length s.2.1) ≤ 1099511627776) ∧ (K ((selR (List.length s.2.1) (fun i => (List.getD s.2.1 (Int.toNat i) Bool.false))), ())))))))) (((), ((0 : Int), ())), ((List.replicate (Int.toNat (((List.length c.2.1) : Nat) : Int)) Bool.false), ())))))))
theorem w_impl_Category_sieveOf (x : denL c_impl_Category_sieveOf.args) (K : (List Int) × Unit → Prop) : evF tab (lkp [(86, c_impl_Category_arrows), (87, c_impl_Category_outOf), (89, c_impl_Category_then), (100, c_impl_marked)]) (cutL []) Try.f62 (bodyOf Try.f62) (.s .n (.s .n (.s (.s .n (.l [(5, (.ref 12 [])), (15, (.d (.int .i64)))] [(12, (.sl (.fz .bool)))] [0, 13, 14] (.s .n (.s .n (.s (.s .n (.s .n (.l [(5, (.ref 12 [])), (29, (.d (.int .i64)))] [(12, (.sl (.fz .bool)))] [0, 7, 13, 14, 15, 27, 28] .n))) .n))))) .n))) c_impl_Category_sieveOf x K = W_impl_Category_sieveOf x.1 x.2.1 K := by kernel_rfl
theorem k_impl_Category_sieveOf : okC Try.f62.ntmps (cutL []) (bodyOf Try.f62) = true := by kernel_rfl
theorem m_impl_Category_sieveOf (c : CategoryD) (arrows : List Int) (hok : allP (okL c_impl_Category_sieveOf.args (c, arrows, ()))) (hpre : allP (c_impl_Category_sieveOf.pre (c, arrows, ()))) : W_impl_Category_sieveOf c arrows (fun r => r = c_impl_Category_sieveOf.res (c, arrows, ())) := by
  simp only [c_impl_Category_sieveOf, okL, T.oks, T.ok, ap, allP, true_and, and_true, implies_true] at hok hpre
  try dsimp only [T.den] at hok
  try dsimp only [T.den] at hpre
  unfold W_impl_Category_sieveOf
  obtain ⟨S, hw⟩ := hpre
  have hlt := S.lt
  have hlc := S.lc
  have hmm := S.m
  have hal : arrows.length ≤ 140737488355328 := by simp only [nb_eq] at hok; omega
  rw [within_iff] at hw
  refine ⟨by omega, by omega, by omega, by omega, ?_⟩
  rw [tab_rep, Int.toNat_natCast]
  refine loop_ixa (fun i => tabN c.2.1.length fun y => (arrows.take i.toNat).any fun a => (outR c (c.2.2.1.getD a.toNat 0)).any fun b => compR c a b == y) (n := arrows.length) (by omega) (tabN_congr fun _ _ _ => rfl) ?_ ?_
  · intro i next i0 i1 hn _ _
    try dsimp only
    refine cnd_d (fun _ => ?_) (fun h => absurd i1 h)
    obtain ⟨a0, a1⟩ := hw i i0 i1
    have hrow := S.row _ a0 a1
    have hol := out_len S (c.2.2.1.getD (arrows.getD i.toNat 0).toNat 0)
    have hoa := @out_at c (c.2.2.1.getD (arrows.getD i.toNat 0).toNat 0)
    refine ⟨i0, i1, a0, by omega, hmm, ?_⟩
    refine loop_ixa (fun j => tabN c.2.1.length fun y => (arrows.take i.toNat).any (fun a => (outR c (c.2.2.1.getD a.toNat 0)).any fun b => compR c a b == y) || ((outR c (c.2.2.1.getD (arrows.getD i.toNat 0).toNat 0)).take j.toNat).any fun b => compR c (arrows.getD i.toNat 0) b == y) (n := (outR c (c.2.2.1.getD (arrows.getD i.toNat 0).toNat 0)).length) (by omega) (tabN_congr fun _ _ _ => by simp) ?_ ?_
    · intro j next2 j0 j1 hn2 _ _
      try dsimp only
      refine cnd_d (fun _ => ?_) (fun h => absurd j1 h)
      obtain ⟨b0, b1, b2⟩ := hoa j0 j1
      obtain ⟨y0, y1, _, _⟩ := S.yes a0 a1 b0 b1 b2.symm
      rw [tabN_len]
      refine ⟨j0, j1, a0, by omega, b0, by omega, y0, y1, by rw [inK64]; (try dsimp only); omega, ?_⟩
      rw [tab_mark y0 y1]
      refine (congrArg (fun z => next2 (((), (j + 1, ())), (z, ()))) (tabN_congr fun y _ _ => ?_)).mp hn2
      rw [any_take _ 0 j0 j1, Bool.or_assoc]
    · intro next2 _ _
      refine cnd_d (fun h => absurd h (by dsimp only; omega)) (fun _ => ⟨by rw [inK64]; (try dsimp only); omega, ?_⟩)
      refine (congrArg (fun z => next (((), (i + 1, ())), (z, ()))) (tabN_congr fun y _ _ => ?_)).mp hn
      rw [any_take _ 0 i0 i1, take_n _ (Int.le_refl _)]
  · intro next _ _
    refine cnd_d (fun h => absurd h (by dsimp only; omega)) (fun _ => ⟨by dsimp only; rw [tabN_len]; omega, ?_⟩)
    simp only [c_impl_Category_sieveOf, closeR]
    rw [sel_tab, take_n _ (Int.le_refl _)]
theorem ct_impl_Category_sieveOf : CtOk Try.prog 62 c_impl_Category_sieveOf :=
  ct_by (Φ := lkp [(86, c_impl_Category_arrows), (87, c_impl_Category_outOf), (89, c_impl_Category_then), (100, c_impl_marked)]) (good_cons ct_impl_Category_arrows (good_cons ct_impl_Category_outOf (good_cons ct_impl_Category_then (good_cons ct_impl_marked good_nil)))) tab_ok (by kernel_rfl) (fn := Try.f62) (c := bodyOf Try.f62) (by kernel_rfl) (by kernel_rfl) (by kernel_rfl) c_impl_Category_sieveOf rfl (.s .n (.s .n (.s (.s .n (.l [(5, (.ref 12 [])), (15, (.d (.int .i64)))] [(12, (.sl (.fz .bool)))] [0, 13, 14] (.s .n (.s .n (.s (.s .n (.s .n (.l [(5, (.ref 12 [])), (29, (.d (.int .i64)))] [(12, (.sl (.fz .bool)))] [0, 7, 13, 14, 15, 27, 28] .n))) .n))))) .n))) (cutL []) (by kernel_rfl) (by kernel_rfl) k_impl_Category_sieveOf (by decide) (fun x K => W_impl_Category_sieveOf x.1 x.2.1 K) w_impl_Category_sieveOf (fun x h1 h2 => m_impl_Category_sieveOf x.1 x.2.1 h1 h2)
def hasR (l : List Int) (n : Int) : Bool := l.any fun x => x == n

def c_impl_has : Ct := ⟨[(.sl (.int .i64)), (.int .i64)], [false, false], fun x => [], [(false, (.fz .bool))], fun x => (hasR x.1 x.2.1, ()), false, none⟩
def W_impl_has (list : List Int) (n : Int) (K : Bool × Unit → Prop) : Prop := (loopW (S := ((Int × Unit) × Unit)) (fun s => (fun next => ((inK IntKind.i64 s.1.1) → (cnd (decide (s.1.1 < (((List.length list) : Nat) : Int))) (((0 : Int) ≤ s.1.1) ∧ ((s.1.1 < (((List.length list) : Nat) : Int)) ∧ (cnd ((List.getD list (Int.toNat s.1.1) (0 : Int)) == n) (K (Bool.true, ())) ((inK IntKind.i64 (s.1.1 + (1 : Int))) ∧ (next (((s.1.1 + (1 : Int)), ()), ())))))) (K (Bool.false, ())))))) (((0 : Int), ()), ()))
theorem w_impl_has (x : denL c_impl_has.args) (K : Bool × Unit → Prop) : evF tab (lkp []) (cutL []) Try.f175 (bodyOf Try.f175) (.s .n (.s (.s .n (.l [(9, (.d (.int .i64)))] [] [1, 7, 8] .n)) .n)) c_impl_has x K = W_impl_has x.1 x.2.1 K := by kernel_rfl
theorem k_impl_has : okC Try.f175.ntmps (cutL []) (bodyOf Try.f175) = true := by kernel_rfl
theorem m_impl_has (list : List Int) (n : Int) (hok : allP (okL c_impl_has.args (list, n, ()))) (hpre : allP (c_impl_has.pre (list, n, ()))) : W_impl_has list n (fun r => r = c_impl_has.res (list, n, ())) := by
  simp only [c_impl_has, okL, T.oks, T.ok, ap, allP, true_and, and_true, implies_true] at hok hpre
  try dsimp only [T.den] at hok
  try dsimp only [T.den] at hpre
  unfold W_impl_has
  refine loop_of (fun (s : ((Int × Unit) × Unit)) => 0 ≤ s.1.1 ∧ s.1.1 ≤ list.length ∧ hasR list n = hasR (list.drop s.1.1.toNat) n) (fun (s : ((Int × Unit) × Unit)) => (list.length - s.1.1).toNat) ?_ (by simp)
  rintro ⟨⟨i, _⟩, _⟩ next ⟨h0, h1, h2⟩ hn hin
  simp only at h0 h1 h2 hn ⊢
  refine cnd_d (fun hc => ?_) (fun hc => ?_)
  · rw [drop_c list 0 h0 hc] at h2
    simp only [hasR, List.any_cons] at h2
    grind [cnd, nb_eq, inK64, c_impl_has, hasR]
  · rw [drop_n list (by omega)] at h2
    grind [cnd, nb_eq, inK64, c_impl_has, hasR]
theorem ct_impl_has : CtOk Try.prog 175 c_impl_has :=
  ct_by (Φ := lkp []) good_nil tab_ok (by kernel_rfl) (fn := Try.f175) (c := bodyOf Try.f175) (by kernel_rfl) (by kernel_rfl) (by kernel_rfl) c_impl_has rfl (.s .n (.s (.s .n (.l [(9, (.d (.int .i64)))] [] [1, 7, 8] .n)) .n)) (cutL []) (by kernel_rfl) (by kernel_rfl) k_impl_has (by decide) (fun x K => W_impl_has x.1 x.2.1 K) w_impl_has (fun x h1 h2 => m_impl_has x.1 x.2.1 h1 h2)
def c_impl_sieve_isGreatest : Ct := ⟨[(.sl (.int .i64)), (.pt CategoryT), (.int .i64)], [false, false, false], fun x => [0 ≤ x.2.2.1, x.2.2.1 < x.2.1.2.2.2.1.length], [(false, (.fz .bool))], fun x => (hasR x.1 (x.2.1.2.2.2.1.getD x.2.2.1.toNat 0), ()), false, none⟩
def W_impl_sieve_isGreatest (s : List Int) (c : CategoryD) (x : Int) (K : Bool × Unit → Prop) : Prop := (((0 : Int) ≤ x) ∧ ((x < (((List.length c.2.2.2.1) : Nat) : Int)) ∧ (K ((hasR s (List.getD c.2.2.2.1 (Int.toNat x) (0 : Int))), ()))))
theorem w_impl_sieve_isGreatest (x : denL c_impl_sieve_isGreatest.args) (K : Bool × Unit → Prop) : evF tab (lkp [(175, c_impl_has)]) (cutL []) Try.f174 (bodyOf Try.f174) .n c_impl_sieve_isGreatest x K = W_impl_sieve_isGreatest x.1 x.2.1 x.2.2.1 K := by kernel_rfl
theorem k_impl_sieve_isGreatest : okC Try.f174.ntmps (cutL []) (bodyOf Try.f174) = true := by kernel_rfl
theorem m_impl_sieve_isGreatest (s : List Int) (c : CategoryD) (x : Int) (hok : allP (okL c_impl_sieve_isGreatest.args (s, c, x, ()))) (hpre : allP (c_impl_sieve_isGreatest.pre (s, c, x, ()))) : W_impl_sieve_isGreatest s c x (fun r => r = c_impl_sieve_isGreatest.res (s, c, x, ())) := by
  simp only [c_impl_sieve_isGreatest, okL, T.oks, T.ok, ap, allP, true_and, and_true, implies_true] at hok hpre
  try dsimp only [T.den] at hok
  try dsimp only [T.den] at hpre
  unfold W_impl_sieve_isGreatest
  exact ⟨hpre.1, hpre.2, rfl⟩
theorem ct_impl_sieve_isGreatest : CtOk Try.prog 174 c_impl_sieve_isGreatest :=
  ct_by (Φ := lkp [(175, c_impl_has)]) (good_cons ct_impl_has good_nil) tab_ok (by kernel_rfl) (fn := Try.f174) (c := bodyOf Try.f174) (by kernel_rfl) (by kernel_rfl) (by kernel_rfl) c_impl_sieve_isGreatest rfl .n (cutL []) (by kernel_rfl) (by kernel_rfl) k_impl_sieve_isGreatest (by decide) (fun x K => W_impl_sieve_isGreatest x.1 x.2.1 x.2.2.1 K) w_impl_sieve_isGreatest (fun x h1 h2 => m_impl_sieve_isGreatest x.1 x.2.1 x.2.2.1 h1 h2)
def c_impl_all_sieve : Ct := ⟨[(.pt CategoryT), (.int .i64), (.ifc 83 (.sl (.int .i64)))], [false, false, false], fun x => [0 ≤ x.2.1, x.2.1 < x.1.2.2.2.1.length], [(false, (.fz .bool))], fun x => (hasR x.2.2.1 (x.1.2.2.2.1.getD x.2.1.toNat 0), ()), false, none⟩
def W_impl_all_sieve (c : CategoryD) (x : Int) (s : List Int) (K : Bool × Unit → Prop) : Prop := (((Bool.true = Bool.true) → ((x < (((List.length c.2.2.2.1) : Nat) : Int)) ∧ ((0 : Int) ≤ x))) ∧ (K ((Bool.true && (hasR s (List.getD c.2.2.2.1 (Int.toNat x) (0 : Int)))), ())))
theorem w_impl_all_sieve (x : denL c_impl_all_sieve.args) (K : Bool × Unit → Prop) : evF tab (lkp [(174, c_impl_sieve_isGreatest)]) (cutL []) Try.f61 (bodyOf Try.f61) .n c_impl_all_sieve x K = W_impl_all_sieve x.1 x.2.1 x.2.2.1 K := by kernel_rfl
theorem k_impl_all_sieve : okC Try.f61.ntmps (cutL []) (bodyOf Try.f61) = true := by kernel_rfl
theorem m_impl_all_sieve (c : CategoryD) (x : Int) (s : List Int) (hok : allP (okL c_impl_all_sieve.args (c, x, s, ()))) (hpre : allP (c_impl_all_sieve.pre (c, x, s, ()))) : W_impl_all_sieve c x s (fun r => r = c_impl_all_sieve.res (c, x, s, ())) := by
  simp only [c_impl_all_sieve, okL, T.oks, T.ok, ap, allP, true_and, and_true, implies_true] at hok hpre
  try dsimp only [T.den] at hok
  try dsimp only [T.den] at hpre
  unfold W_impl_all_sieve
  have h1 := hpre.1
  have h2 := hpre.2
  simp only [c_impl_all_sieve]
  grind [cnd, nb_eq, inK64]
theorem ct_impl_all_sieve : CtOk Try.prog 61 c_impl_all_sieve :=
  ct_by (Φ := lkp [(174, c_impl_sieve_isGreatest)]) (good_cons ct_impl_sieve_isGreatest good_nil) tab_ok (by kernel_rfl) (fn := Try.f61) (c := bodyOf Try.f61) (by kernel_rfl) (by kernel_rfl) (by kernel_rfl) c_impl_all_sieve rfl .n (cutL []) (by kernel_rfl) (by kernel_rfl) k_impl_all_sieve (by decide) (fun x K => W_impl_all_sieve x.1 x.2.1 x.2.2.1 K) w_impl_all_sieve (fun x h1 h2 => m_impl_all_sieve x.1 x.2.1 x.2.2.1 h1 h2)
def two1R (c : CategoryD) (a : Int) : Bool := hasR (closeR c [a]) (c.2.2.2.1.getD (c.2.1.getD a.toNat 0).toNat 0)
def twoCodeR (c : CategoryD) : Int := if catR c = true then 0 else 1
def twoR (c : CategoryD) : Bool := allB c.2.1.length (two1R c)
theorem with_1 {a n : Int} (a0 : 0 ≤ a) (a1 : a < n) : withinR [a] n = true := by
  refine within_iff.2 fun i i0 i1 => ?_
  have : i = 0 := by simp only [List.length_cons, List.length_nil] at i1; omega
  subst this
  exact ⟨a0, a1⟩

def c_impl_IsTwoValued : Ct := ⟨[CategoryT], [true], fun x => [], [(false, (.fz .bool)), (false, (.fz (.int .i64)))], fun x => ((catR x.1 && twoR x.1), twoCodeR x.1, ()), false, none⟩
def W_impl_IsTwoValued (c : CategoryD) (K : Bool × Int × Unit → Prop) : Prop := (cnd (!(catR c)) (K (Bool.false, ((1 : Int), ()))) (loopW (S := ((Int × Unit) × Unit)) (fun s => (fun next => ((inK IntKind.i64 s.1.1) → (cnd (decide (s.1.1 < (((List.length c.2.1) : Nat) : Int))) (((0 : Int) ≤ s.1.1) ∧ ((s.1.1 < (((List.length c.2.1) : Nat) : Int)) ∧ ((ShapeP c) ∧ (((withinR (s.1.1 :: ([] : List Int)) (((List.length c.2.1) : Nat) : Int)) = Bool.true) ∧ (((0 : Int) ≤ (List.getD c.2.1 (Int.toNat s.1.1) (0 : Int))) ∧ (((List.getD c.2.1 (Int.toNat s.1.1) (0 : Int)) < (((List.length c.2.2.2.1) : Nat) : Int)) ∧ (cnd (!(hasR (closeR c (s.1.1 :: ([] : List Int))) (List.getD c.2.2.2.1 (Int.toNat (List.getD c.2.1 (Int.toNat s.1.1) (0 : Int))) (0 : Int)))) (K (Bool.false, ((0 : Int), ()))) ((inK IntKind.i64 (s.1.1 + (1 : Int))) ∧ (next (((s.1.1 + (1 : Int)), ()), ())))))))))) (K (Bool.true, ((0 : Int), ()))))))) (((0 : Int), ()), ())))
theorem w_impl_IsTwoValued (x : denL c_impl_IsTwoValued.args) (K : Bool × Int × Unit → Prop) : evF tab (lkp [(60, c_impl_Category_isCategory), (62, c_impl_Category_sieveOf), (61, c_impl_all_sieve)]) (cutL [(6, 9)]) Try.f27 (bodyOf Try.f27) (.s .n (.s .n (.s (.s .n (.l [(10, (.d (.int .i64)))] [] [1, 9] .n)) .n))) c_impl_IsTwoValued x K = W_impl_IsTwoValued x.1 K := by kernel_rfl
theorem k_impl_IsTwoValued : okC Try.f27.ntmps (cutL [(6, 9)]) (bodyOf Try.f27) = true := by kernel_rfl
theorem m_impl_IsTwoValued (c : CategoryD) (hok : allP (okL c_impl_IsTwoValued.args (c, ()))) (hpre : allP (c_impl_IsTwoValued.pre (c, ()))) : W_impl_IsTwoValued c (fun r => r = c_impl_IsTwoValued.res (c, ())) := by
  simp only [c_impl_IsTwoValued, okL, T.oks, T.ok, ap, allP, true_and, and_true, implies_true] at hok hpre
  try dsimp only [T.den] at hok
  try dsimp only [T.den] at hpre
  unfold W_impl_IsTwoValued
  refine cnd_of (fun hx => ?_) (fun hx => ?_)
  · have h : catR c = false := by simpa using hx
    simp only [c_impl_IsTwoValued, twoCodeR, h, Bool.false_and, Bool.false_eq_true, if_false]
  · have h : catR c = true := by simpa using hx
    have S := cat_shape h
    have hm := S.m
    have hli := S.li
    refine loop_ix (n := c.2.1.length) (fun i => allB i.toNat (two1R c) = true) (by omega) rfl ?_ ?_
    · intro a next a0 a1 hP hn _
      try dsimp only at hn ⊢
      have hfr := S.frm a0 a1
      have hgood : two1R c a = true → allB (a + 1).toNat (two1R c) = true := fun h => by rw [allB_s a0, hP, h]; rfl
      refine cnd_d (fun _ => ⟨a0, a1, S, with_1 a0 a1, hfr.1, by omega, cnd_of (fun hb => ?_) (fun hb => ⟨by rw [inK64]; (try dsimp only); omega, hn (hgood (by unfold two1R; simpa using hb))⟩)⟩) (fun h => absurd a1 h)
      have hb2 : two1R c a = false := by unfold two1R; simpa using hb
      have : twoR c = false := by
        cases hq : twoR c with
        | false => rfl
        | true => rw [twoR, allB_iff] at hq; have := hq a a0 (by omega); rw [hb2] at this; cases this
      simp only [c_impl_IsTwoValued, twoCodeR, h, this, Bool.and_false, if_true]
    · intro next hP _
      refine cnd_d (fun h => absurd h (Int.lt_irrefl _)) (fun _ => ?_)
      have : twoR c = true := hP
      simp only [c_impl_IsTwoValued, twoCodeR, h, this, Bool.and_self, if_true]
theorem ct_impl_IsTwoValued : CtOk Try.prog 27 c_impl_IsTwoValued :=
  ct_by (Φ := lkp [(60, c_impl_Category_isCategory), (62, c_impl_Category_sieveOf), (61, c_impl_all_sieve)]) (good_cons ct_impl_Category_isCategory (good_cons ct_impl_Category_sieveOf (good_cons ct_impl_all_sieve good_nil))) tab_ok (by kernel_rfl) (fn := Try.f27) (c := bodyOf Try.f27) (by kernel_rfl) (by kernel_rfl) (by kernel_rfl) c_impl_IsTwoValued rfl (.s .n (.s .n (.s (.s .n (.l [(10, (.d (.int .i64)))] [] [1, 9] .n)) .n))) (cutL [(6, 9)]) (by kernel_rfl) (by kernel_rfl) k_impl_IsTwoValued (by decide) (fun x K => W_impl_IsTwoValued x.1 K) w_impl_IsTwoValued (fun x h1 h2 => m_impl_IsTwoValued x.1 h1 h2)
def c_laws_eqInt64S : Ct := ⟨[(.sl (.int .i64)), (.sl (.int .i64))], [false, false], fun x => [], [(false, (.fz .bool))], fun x => (eqR (.sl (.int .i64)) x.1 x.2.1, ()), false, none⟩
def W_laws_eqInt64S (a : List Int) (b : List Int) (K : Bool × Unit → Prop) : Prop := (cnd ((((List.length a) : Nat) : Int) != (((List.length b) : Nat) : Int)) (K (Bool.false, ())) (loopW (S := ((Int × Unit) × Unit)) (fun s => (fun next => ((inK IntKind.i64 s.1.1) → (cnd (decide (s.1.1 < (((List.length a) : Nat) : Int))) (((0 : Int) ≤ s.1.1) ∧ ((s.1.1 < (((List.length a) : Nat) : Int)) ∧ (((0 : Int) ≤ s.1.1) ∧ ((s.1.1 < (((List.length b) : Nat) : Int)) ∧ (cnd ((List.getD a (Int.toNat s.1.1) (0 : Int)) != (List.getD b (Int.toNat s.1.1) (0 : Int))) (K (Bool.false, ())) ((inK IntKind.i64 (s.1.1 + (1 : Int))) ∧ (next (((s.1.1 + (1 : Int)), ()), ())))))))) (K (Bool.true, ())))))) (((0 : Int), ()), ())))
theorem w_laws_eqInt64S (x : denL c_laws_eqInt64S.args) (K : Bool × Unit → Prop) : evF tab (lkp []) (cutL [(6, 9)]) Try.f31 (bodyOf Try.f31) (.s .n (.s .n (.s (.s .n (.l [(5, (.d (.int .i64)))] [] [0, 1] .n)) .n))) c_laws_eqInt64S x K = W_laws_eqInt64S x.1 x.2.1 K := by kernel_rfl
theorem k_laws_eqInt64S : okC Try.f31.ntmps (cutL [(6, 9)]) (bodyOf Try.f31) = true := by kernel_rfl
theorem m_laws_eqInt64S (a : List Int) (b : List Int) (hok : allP (okL c_laws_eqInt64S.args (a, b, ()))) (hpre : allP (c_laws_eqInt64S.pre (a, b, ()))) : W_laws_eqInt64S a b (fun r => r = c_laws_eqInt64S.res (a, b, ())) := by
  simp only [c_laws_eqInt64S, okL, T.oks, T.ok, ap, allP, true_and, and_true, implies_true] at hok hpre
  try dsimp only [T.den] at hok
  try dsimp only [T.den] at hpre
  unfold W_laws_eqInt64S
  refine cnd_of (fun hc => ?_) (fun hc => ?_)
  · simp only [c_laws_eqInt64S, Prod.mk.injEq, and_true]; rw [eqR_f]; rintro rfl; simp at hc
  have hl : a.length = b.length := by simp at hc; omega
  refine loop_of (fun (s : ((Int × Unit) × Unit)) => 0 ≤ s.1.1 ∧ s.1.1 ≤ a.length ∧ a.take s.1.1.toNat = b.take s.1.1.toNat) (fun (s : ((Int × Unit) × Unit)) => (a.length - s.1.1).toNat) ?_ (by simp)
  rintro ⟨⟨i, _⟩, _⟩ next ⟨h0, h1, h2⟩ hn hin
  simp only at h0 h1 h2 hn ⊢
  refine cnd_d (fun hc => ?_) (fun hc => ?_)
  · have ha := take_c a (0 : Int) h0 hc
    have hb := take_c b (0 : Int) h0 (by omega)
    refine ⟨by omega, by omega, by omega, by omega, cnd_of (fun hd => ?_) (fun hd => ?_)⟩
    · simp only [c_laws_eqInt64S, Prod.mk.injEq, and_true]; rw [eqR_f]; rintro rfl; simp at hd
    · refine ⟨by grind [cnd, nb_eq, inK64], hn _ ⟨(by first | omega | (dsimp only; omega)), (by first | omega | (dsimp only; omega)), ?_⟩ (by first | omega | (dsimp only; omega))⟩
      simp only [Bool.not_eq_false', eqR_iff, bne_eq_false_iff_eq] at hd
      simp only [ha, hb, h2, hd]
  · rw [take_n a (by omega), take_n b (by omega)] at h2
    simp [h2, c_laws_eqInt64S]
theorem ct_laws_eqInt64S : CtOk Try.prog 31 c_laws_eqInt64S :=
  ct_by (Φ := lkp []) good_nil tab_ok (by kernel_rfl) (fn := Try.f31) (c := bodyOf Try.f31) (by kernel_rfl) (by kernel_rfl) (by kernel_rfl) c_laws_eqInt64S rfl (.s .n (.s .n (.s (.s .n (.l [(5, (.d (.int .i64)))] [] [0, 1] .n)) .n))) (cutL [(6, 9)]) (by kernel_rfl) (by kernel_rfl) k_laws_eqInt64S (by decide) (fun x K => W_laws_eqInt64S x.1 x.2.1 K) w_laws_eqInt64S (fun x h1 h2 => m_laws_eqInt64S x.1 x.2.1 h1 h2)
def c_laws_eqInt64SS : Ct := ⟨[(.sl (.sl (.int .i64))), (.sl (.sl (.int .i64)))], [false, false], fun x => [], [(false, (.fz .bool))], fun x => (eqR (.sl (.sl (.int .i64))) x.1 x.2.1, ()), false, none⟩
def W_laws_eqInt64SS (a : List (List Int)) (b : List (List Int)) (K : Bool × Unit → Prop) : Prop := (cnd ((((List.length a) : Nat) : Int) != (((List.length b) : Nat) : Int)) (K (Bool.false, ())) (loopW (S := ((Int × Unit) × Unit)) (fun s => (fun next => ((inK IntKind.i64 s.1.1) → (cnd (decide (s.1.1 < (((List.length a) : Nat) : Int))) (((0 : Int) ≤ s.1.1) ∧ ((s.1.1 < (((List.length a) : Nat) : Int)) ∧ (((0 : Int) ≤ s.1.1) ∧ ((s.1.1 < (((List.length b) : Nat) : Int)) ∧ (cnd (!(eqR (T.sl (T.int IntKind.i64)) (List.getD a (Int.toNat s.1.1) ([] : List Int)) (List.getD b (Int.toNat s.1.1) ([] : List Int)))) (K (Bool.false, ())) ((inK IntKind.i64 (s.1.1 + (1 : Int))) ∧ (next (((s.1.1 + (1 : Int)), ()), ())))))))) (K (Bool.true, ())))))) (((0 : Int), ()), ())))
theorem w_laws_eqInt64SS (x : denL c_laws_eqInt64SS.args) (K : Bool × Unit → Prop) : evF tab (lkp [(31, c_laws_eqInt64S)]) (cutL [(6, 10)]) Try.f14 (bodyOf Try.f14) (.s .n (.s .n (.s (.s .n (.l [(5, (.d (.int .i64)))] [] [0, 1] .n)) .n))) c_laws_eqInt64SS x K = W_laws_eqInt64SS x.1 x.2.1 K := by kernel_rfl
theorem k_laws_eqInt64SS : okC Try.f14.ntmps (cutL [(6, 10)]) (bodyOf Try.f14) = true := by kernel_rfl
theorem m_laws_eqInt64SS (a : List (List Int)) (b : List (List Int)) (hok : allP (okL c_laws_eqInt64SS.args (a, b, ()))) (hpre : allP (c_laws_eqInt64SS.pre (a, b, ()))) : W_laws_eqInt64SS a b (fun r => r = c_laws_eqInt64SS.res (a, b, ())) := by
  simp only [c_laws_eqInt64SS, okL, T.oks, T.ok, ap, allP, true_and, and_true, implies_true] at hok hpre
  try dsimp only [T.den] at hok
  try dsimp only [T.den] at hpre
  unfold W_laws_eqInt64SS
  refine cnd_of (fun hc => ?_) (fun hc => ?_)
  · simp only [c_laws_eqInt64SS, Prod.mk.injEq, and_true]; rw [eqR_f]; rintro rfl; simp at hc
  have hl : a.length = b.length := by simp at hc; omega
  refine loop_of (fun (s : ((Int × Unit) × Unit)) => 0 ≤ s.1.1 ∧ s.1.1 ≤ a.length ∧ a.take s.1.1.toNat = b.take s.1.1.toNat) (fun (s : ((Int × Unit) × Unit)) => (a.length - s.1.1).toNat) ?_ (by simp)
  rintro ⟨⟨i, _⟩, _⟩ next ⟨h0, h1, h2⟩ hn hin
  simp only at h0 h1 h2 hn ⊢
  refine cnd_d (fun hc => ?_) (fun hc => ?_)
  · have ha := take_c a ([] : List Int) h0 hc
    have hb := take_c b ([] : List Int) h0 (by omega)
    refine ⟨by omega, by omega, by omega, by omega, cnd_of (fun hd => ?_) (fun hd => ?_)⟩
    · simp only [c_laws_eqInt64SS, Prod.mk.injEq, and_true]; rw [eqR_f]; rintro rfl; simp at hd
    · refine ⟨by grind [cnd, nb_eq, inK64], hn _ ⟨(by first | omega | (dsimp only; omega)), (by first | omega | (dsimp only; omega)), ?_⟩ (by first | omega | (dsimp only; omega))⟩
      simp only [Bool.not_eq_false', eqR_iff, bne_eq_false_iff_eq] at hd
      simp only [ha, hb, h2, hd]
  · rw [take_n a (by omega), take_n b (by omega)] at h2
    simp [h2, c_laws_eqInt64SS]
theorem ct_laws_eqInt64SS : CtOk Try.prog 14 c_laws_eqInt64SS :=
  ct_by (Φ := lkp [(31, c_laws_eqInt64S)]) (good_cons ct_laws_eqInt64S good_nil) tab_ok (by kernel_rfl) (fn := Try.f14) (c := bodyOf Try.f14) (by kernel_rfl) (by kernel_rfl) (by kernel_rfl) c_laws_eqInt64SS rfl (.s .n (.s .n (.s (.s .n (.l [(5, (.d (.int .i64)))] [] [0, 1] .n)) .n))) (cutL [(6, 10)]) (by kernel_rfl) (by kernel_rfl) k_laws_eqInt64SS (by decide) (fun x K => W_laws_eqInt64SS x.1 x.2.1 K) w_laws_eqInt64SS (fun x h1 h2 => m_laws_eqInt64SS x.1 x.2.1 h1 h2)
def c_laws_eqCategory : Ct := ⟨[CategoryT, CategoryT], [true, true], fun x => [], [(false, (.fz .bool))], fun x => (eqR CategoryT x.1 x.2.1, ()), false, none⟩
def W_laws_eqCategory (a : CategoryD) (b : CategoryD) (K : Bool × Unit → Prop) : Prop := (cnd (a.1 != b.1) (K (Bool.false, ())) (cnd (!(eqR (T.sl (T.int IntKind.i64)) a.2.1 b.2.1)) (K (Bool.false, ())) (cnd (!(eqR (T.sl (T.int IntKind.i64)) a.2.2.1 b.2.2.1)) (K (Bool.false, ())) (cnd (!(eqR (T.sl (T.int IntKind.i64)) a.2.2.2.1 b.2.2.2.1)) (K (Bool.false, ())) (cnd (!(eqR (T.sl (T.sl (T.int IntKind.i64))) a.2.2.2.2 b.2.2.2.2)) (K (Bool.false, ())) (K (Bool.true, ())))))))
theorem w_laws_eqCategory (x : denL c_laws_eqCategory.args) (K : Bool × Unit → Prop) : evF tab (lkp [(31, c_laws_eqInt64S), (14, c_laws_eqInt64SS)]) (cutL []) Try.f23 (bodyOf Try.f23) .n c_laws_eqCategory x K = W_laws_eqCategory x.1 x.2.1 K := by kernel_rfl
theorem k_laws_eqCategory : okC Try.f23.ntmps (cutL []) (bodyOf Try.f23) = true := by kernel_rfl
theorem m_laws_eqCategory (a : CategoryD) (b : CategoryD) (hok : allP (okL c_laws_eqCategory.args (a, b, ()))) (hpre : allP (c_laws_eqCategory.pre (a, b, ()))) : W_laws_eqCategory a b (fun r => r = c_laws_eqCategory.res (a, b, ())) := by
  simp only [c_laws_eqCategory, okL, T.oks, T.ok, ap, allP, true_and, and_true, implies_true] at hok hpre
  try dsimp only [T.den] at hok
  try dsimp only [T.den] at hpre
  unfold W_laws_eqCategory
  simp only [c_laws_eqCategory, eqR_p, eqR_int, eqR_bool]
  grind [cnd, nb_eq, inK64]
theorem ct_laws_eqCategory : CtOk Try.prog 23 c_laws_eqCategory :=
  ct_by (Φ := lkp [(31, c_laws_eqInt64S), (14, c_laws_eqInt64SS)]) (good_cons ct_laws_eqInt64S (good_cons ct_laws_eqInt64SS good_nil)) tab_ok (by kernel_rfl) (fn := Try.f23) (c := bodyOf Try.f23) (by kernel_rfl) (by kernel_rfl) (by kernel_rfl) c_laws_eqCategory rfl .n (cutL []) (by kernel_rfl) (by kernel_rfl) k_laws_eqCategory (by decide) (fun x K => W_laws_eqCategory x.1 x.2.1 K) w_laws_eqCategory (fun x h1 h2 => m_laws_eqCategory x.1 x.2.1 h1 h2)
def c_laws_szInt64S : Ct := ⟨[(.sl (.int .i64)), (.int .i64)], [false, false], fun x => [-4611545280939032576 ≤ x.2.1], [(false, (.fz (.int .i64)))], fun x => (szR (wR (.sl (.int .i64)) x.1) x.2.1, ()), false, none⟩
def W_laws_szInt64S (a : List Int) (left : Int) (K : Int × Unit → Prop) : Prop := ((inK IntKind.i64 (left - (((List.length a) : Nat) : Int))) ∧ (cnd (decide ((left - (((List.length a) : Nat) : Int)) < (0 : Int))) (K ((-(1 : Int)), ())) (K ((left - (((List.length a) : Nat) : Int)), ()))))
theorem w_laws_szInt64S (x : denL c_laws_szInt64S.args) (K : Int × Unit → Prop) : evF tab (lkp []) (cutL []) Try.f41 (bodyOf Try.f41) .n c_laws_szInt64S x K = W_laws_szInt64S x.1 x.2.1 K := by kernel_rfl
theorem k_laws_szInt64S : okC Try.f41.ntmps (cutL []) (bodyOf Try.f41) = true := by kernel_rfl
theorem m_laws_szInt64S (a : List Int) (left : Int) (hok : allP (okL c_laws_szInt64S.args (a, left, ()))) (hpre : allP (c_laws_szInt64S.pre (a, left, ()))) : W_laws_szInt64S a left (fun r => r = c_laws_szInt64S.res (a, left, ())) := by
  simp only [c_laws_szInt64S, okL, T.oks, T.ok, ap, allP, true_and, and_true, implies_true] at hok hpre
  try dsimp only [T.den] at hok
  try dsimp only [T.den] at hpre
  unfold W_laws_szInt64S
  simp only [c_laws_szInt64S, wR_ints]
  grind [cnd, nb_eq, inK64, szR]
theorem ct_laws_szInt64S : CtOk Try.prog 41 c_laws_szInt64S :=
  ct_by (Φ := lkp []) good_nil tab_ok (by kernel_rfl) (fn := Try.f41) (c := bodyOf Try.f41) (by kernel_rfl) (by kernel_rfl) (by kernel_rfl) c_laws_szInt64S rfl .n (cutL []) (by kernel_rfl) (by kernel_rfl) k_laws_szInt64S (by decide) (fun x K => W_laws_szInt64S x.1 x.2.1 K) w_laws_szInt64S (fun x h1 h2 => m_laws_szInt64S x.1 x.2.1 h1 h2)
def c_laws_szInt64SS : Ct := ⟨[(.sl (.sl (.int .i64))), (.int .i64)], [false, false], fun x => [-4611404543450677248 ≤ x.2.1], [(false, (.fz (.int .i64)))], fun x => (szR (wR (.sl (.sl (.int .i64))) x.1) x.2.1, ()), false, none⟩
def W_laws_szInt64SS (a : List (List Int)) (left : Int) (K : Int × Unit → Prop) : Prop := ((inK IntKind.i64 (left - (((List.length a) : Nat) : Int))) ∧ (cnd (decide ((left - (((List.length a) : Nat) : Int)) < (0 : Int))) (K ((-(1 : Int)), ())) (loopW (S := ((Int × (Int × Unit)) × Unit)) (fun s => (fun next => ((inK IntKind.i64 s.1.1) → ((inK IntKind.i64 s.1.2.1) → (cnd (decide (s.1.2.1 < (((List.length a) : Nat) : Int))) (((0 : Int) ≤ s.1.2.1) ∧ ((s.1.2.1 < (((List.length a) : Nat) : Int)) ∧ (((-(4611545280939032576 : Int)) ≤ s.1.1) ∧ (cnd (decide ((szR (wR (T.sl (T.int IntKind.i64)) (List.getD a (Int.toNat s.1.2.1) ([] : List Int))) s.1.1) < (0 : Int))) (K ((-(1 : Int)), ())) ((inK IntKind.i64 (s.1.2.1 + (1 : Int))) ∧ (next (((szR (wR (T.sl (T.int IntKind.i64)) (List.getD a (Int.toNat s.1.2.1) ([] : List Int))) s.1.1), ((s.1.2.1 + (1 : Int)), ())), ()))))))) (K (s.1.1, ()))))))) (((left - (((List.length a) : Nat) : Int)), ((0 : Int), ())), ()))))
theorem w_laws_szInt64SS (x : denL c_laws_szInt64SS.args) (K : Int × Unit → Prop) : evF tab (lkp [(41, c_laws_szInt64S)]) (cutL []) Try.f42 (bodyOf Try.f42) (.s .n (.s .n (.s .n (.s (.s .n (.l [(1, (.d (.int .i64))), (5, (.d (.int .i64)))] [] [0] .n)) .n)))) c_laws_szInt64SS x K = W_laws_szInt64SS x.1 x.2.1 K := by kernel_rfl
theorem k_laws_szInt64SS : okC Try.f42.ntmps (cutL []) (bodyOf Try.f42) = true := by kernel_rfl
theorem m_laws_szInt64SS (a : List (List Int)) (left : Int) (hok : allP (okL c_laws_szInt64SS.args (a, left, ()))) (hpre : allP (c_laws_szInt64SS.pre (a, left, ()))) : W_laws_szInt64SS a left (fun r => r = c_laws_szInt64SS.res (a, left, ())) := by
  simp only [c_laws_szInt64SS, okL, T.oks, T.ok, ap, allP, true_and, and_true, implies_true] at hok hpre
  try dsimp only [T.den] at hok
  try dsimp only [T.den] at hpre
  unfold W_laws_szInt64SS
  have hr := szR_ge (x := a.length) (r := (a.map (wR (.sl (.int .i64)))).sum) (l := left)
  refine ⟨by grind [cnd, nb_eq, inK64], cnd_d (fun hc => ?_) (fun hc => ?_)⟩
  · simp only [c_laws_szInt64SS]; rw [wR_sl, szR_lt (x := a.length) (by omega)]
  replace hr := hr (by omega)
  rw [szR_val (x := a.length) (by omega)] at hr
  refine loop_of (fun (s : ((Int × (Int × Unit)) × Unit)) => 0 ≤ s.1.1 ∧ 0 ≤ s.1.2.1 ∧ s.1.2.1 ≤ a.length ∧ szR (wR (.sl (.sl (.int .i64))) a) left = szR ((a.drop s.1.2.1.toNat).map (wR (.sl (.int .i64)))).sum s.1.1) (fun (s : ((Int × (Int × Unit)) × Unit)) => (a.length - s.1.2.1).toNat) ?_ ⟨(by first | omega | (dsimp only; omega)), by simp, by simp, by rw [wR_sl]; simpa using hr⟩
  rintro ⟨⟨l, i, _⟩, _⟩ next ⟨h0, h1, h2, h3⟩ hn hin hl
  simp only at h0 h1 h2 h3 hn ⊢
  refine cnd_d (fun hc => ?_) (fun hc => ?_)
  · rw [drop_c a ([] : List Int) h1 hc, List.map_cons, List.sum_cons] at h3
    refine ⟨by omega, by omega, by omega, cnd_d (fun hd => ?_) (fun hd => ?_)⟩
    · rw [szR_neg] at hd
      rw [szR_lt hd] at h3
      simp only [c_laws_szInt64SS]; rw [h3]
    · rw [szR_neg] at hd
      rw [szR_ge hd] at h3
      exact ⟨by grind [cnd, nb_eq, inK64], hn _ ⟨by simp only; rw [szR_val hd]; omega, (by first | omega | (dsimp only; omega)), (by first | omega | (dsimp only; omega)), h3⟩ (by first | omega | (dsimp only; omega))⟩
  · rw [drop_n a (by omega)] at h3
    simp only [List.map_nil, List.sum_nil] at h3
    rw [szR_zero h0] at h3
    simp only [c_laws_szInt64SS]; rw [h3]
theorem ct_laws_szInt64SS : CtOk Try.prog 42 c_laws_szInt64SS :=
  ct_by (Φ := lkp [(41, c_laws_szInt64S)]) (good_cons ct_laws_szInt64S good_nil) tab_ok (by kernel_rfl) (fn := Try.f42) (c := bodyOf Try.f42) (by kernel_rfl) (by kernel_rfl) (by kernel_rfl) c_laws_szInt64SS rfl (.s .n (.s .n (.s .n (.s (.s .n (.l [(1, (.d (.int .i64))), (5, (.d (.int .i64)))] [] [0] .n)) .n)))) (cutL []) (by kernel_rfl) (by kernel_rfl) k_laws_szInt64SS (by decide) (fun x K => W_laws_szInt64SS x.1 x.2.1 K) w_laws_szInt64SS (fun x h1 h2 => m_laws_szInt64SS x.1 x.2.1 h1 h2)
def c_laws_szCategory : Ct := ⟨[CategoryT, (.int .i64)], [true, false], fun x => [-4611404543450677248 ≤ x.2.1], [(false, (.fz (.int .i64)))], fun x => (szR (wR CategoryT x.1) x.2.1, ()), false, none⟩
def W_laws_szCategory (a : CategoryD) (left : Int) (K : Int × Unit → Prop) : Prop := (((-(4611545280939032576 : Int)) ≤ left) ∧ (cnd (decide ((szR (wR (T.sl (T.int IntKind.i64)) a.2.1) left) < (0 : Int))) (K ((-(1 : Int)), ())) (((-(4611545280939032576 : Int)) ≤ (szR (wR (T.sl (T.int IntKind.i64)) a.2.1) left)) ∧ (cnd (decide ((szR (wR (T.sl (T.int IntKind.i64)) a.2.2.1) (szR (wR (T.sl (T.int IntKind.i64)) a.2.1) left)) < (0 : Int))) (K ((-(1 : Int)), ())) (((-(4611545280939032576 : Int)) ≤ (szR (wR (T.sl (T.int IntKind.i64)) a.2.2.1) (szR (wR (T.sl (T.int IntKind.i64)) a.2.1) left))) ∧ (cnd (decide ((szR (wR (T.sl (T.int IntKind.i64)) a.2.2.2.1) (szR (wR (T.sl (T.int IntKind.i64)) a.2.2.1) (szR (wR (T.sl (T.int IntKind.i64)) a.2.1) left))) < (0 : Int))) (K ((-(1 : Int)), ())) (((-(4611404543450677248 : Int)) ≤ (szR (wR (T.sl (T.int IntKind.i64)) a.2.2.2.1) (szR (wR (T.sl (T.int IntKind.i64)) a.2.2.1) (szR (wR (T.sl (T.int IntKind.i64)) a.2.1) left)))) ∧ (cnd (decide ((szR (wR (T.sl (T.sl (T.int IntKind.i64))) a.2.2.2.2) (szR (wR (T.sl (T.int IntKind.i64)) a.2.2.2.1) (szR (wR (T.sl (T.int IntKind.i64)) a.2.2.1) (szR (wR (T.sl (T.int IntKind.i64)) a.2.1) left)))) < (0 : Int))) (K ((-(1 : Int)), ())) (K ((szR (wR (T.sl (T.sl (T.int IntKind.i64))) a.2.2.2.2) (szR (wR (T.sl (T.int IntKind.i64)) a.2.2.2.1) (szR (wR (T.sl (T.int IntKind.i64)) a.2.2.1) (szR (wR (T.sl (T.int IntKind.i64)) a.2.1) left)))), ()))))))))))
theorem w_laws_szCategory (x : denL c_laws_szCategory.args) (K : Int × Unit → Prop) : evF tab (lkp [(41, c_laws_szInt64S), (42, c_laws_szInt64SS)]) (cutL []) Try.f19 (bodyOf Try.f19) .n c_laws_szCategory x K = W_laws_szCategory x.1 x.2.1 K := by kernel_rfl
theorem k_laws_szCategory : okC Try.f19.ntmps (cutL []) (bodyOf Try.f19) = true := by kernel_rfl
theorem m_laws_szCategory (a : CategoryD) (left : Int) (hok : allP (okL c_laws_szCategory.args (a, left, ()))) (hpre : allP (c_laws_szCategory.pre (a, left, ()))) : W_laws_szCategory a left (fun r => r = c_laws_szCategory.res (a, left, ())) := by
  simp only [c_laws_szCategory, okL, T.oks, T.ok, ap, allP, true_and, and_true, implies_true] at hok hpre
  try dsimp only [T.den] at hok
  try dsimp only [T.den] at hpre
  unfold W_laws_szCategory
  simp only [c_laws_szCategory, wR_p, wR_int, wR_bool, Nat.zero_add, Nat.add_zero]
  grind [cnd, nb_eq, inK64, szR]
theorem ct_laws_szCategory : CtOk Try.prog 19 c_laws_szCategory :=
  ct_by (Φ := lkp [(41, c_laws_szInt64S), (42, c_laws_szInt64SS)]) (good_cons ct_laws_szInt64S (good_cons ct_laws_szInt64SS good_nil)) tab_ok (by kernel_rfl) (fn := Try.f19) (c := bodyOf Try.f19) (by kernel_rfl) (by kernel_rfl) (by kernel_rfl) c_laws_szCategory rfl .n (cutL []) (by kernel_rfl) (by kernel_rfl) k_laws_szCategory (by decide) (fun x K => W_laws_szCategory x.1 x.2.1 K) w_laws_szCategory (fun x h1 h2 => m_laws_szCategory x.1 x.2.1 h1 h2)
def c_laws_toInt64S : Ct := ⟨[(.sl (.int .i64))], [false], fun x => [wR (.sl (.int .i64)) x.1 ≤ 1099511627776], [(false, (.sl (.fz (.int .i64))))], fun x => (x.1, ()), false, none⟩
def W_laws_toInt64S (a : List Int) (K : (List Int) × Unit → Prop) : Prop := (((0 : Int) ≤ (((List.length a) : Nat) : Int)) ∧ (((((List.length a) : Nat) : Int) ≤ (((List.length a) : Nat) : Int)) ∧ (((((List.length a) : Nat) : Int) ≤ ((140737488355328 : Nat) : Int)) ∧ ((((((List.length a) : Nat) : Int) * ((8 : Nat) : Int)) ≤ ((140737488355328 : Nat) : Int)) ∧ (loopW (S := ((Unit × (Int × Unit)) × ((List Int) × Unit))) (fun s => (fun next => ((inK IntKind.i64 s.1.2.1) → ((T.ok (T.sl (T.int IntKind.i64)) s.2.1) → (cnd (decide (s.1.2.1 < (((List.length a) : Nat) : Int))) (((0 : Int) ≤ s.1.2.1) ∧ ((s.1.2.1 < (((List.length a) : Nat) : Int)) ∧ (((0 : Int) ≤ s.1.2.1) ∧ ((s.1.2.1 < (((List.length s.2.1) : Nat) : Int)) ∧ ((inK IntKind.i64 (s.1.2.1 + (1 : Int))) ∧ (next (((), ((s.1.2.1 + (1 : Int)), ())), ((List.set s.2.1 (Int.toNat s.1.2.1) (List.getD a (Int.toNat s.1.2.1) (0 : Int))), ())))))))) (K (s.2.1, ()))))))) (((), ((0 : Int), ())), ((List.replicate (Int.toNat (((List.length a) : Nat) : Int)) (0 : Int)), ())))))))
theorem w_laws_toInt64S (x : denL c_laws_toInt64S.args) (K : (List Int) × Unit → Prop) : evF tab (lkp []) (cutL []) Try.f29 (bodyOf Try.f29) (.s .n (.s .n (.s (.s .n (.l [(3, (.ref 7 [])), (4, (.d (.int .i64)))] [(7, (.sl (.fz (.int .i64))))] [0] .n)) .n))) c_laws_toInt64S x K = W_laws_toInt64S x.1 K := by kernel_rfl
theorem k_laws_toInt64S : okC Try.f29.ntmps (cutL []) (bodyOf Try.f29) = true := by kernel_rfl
theorem m_laws_toInt64S (a : List Int) (hok : allP (okL c_laws_toInt64S.args (a, ()))) (hpre : allP (c_laws_toInt64S.pre (a, ()))) : W_laws_toInt64S a (fun r => r = c_laws_toInt64S.res (a, ())) := by
  simp only [c_laws_toInt64S, okL, T.oks, T.ok, ap, allP, true_and, and_true, implies_true] at hok hpre
  try dsimp only [T.den] at hok
  try dsimp only [T.den] at hpre
  unfold W_laws_toInt64S
  rw [wR_sl] at hpre
  refine ⟨by omega, by omega, by first | omega | (rw [nb_eq]; omega), by first | omega | (rw [nb_eq]; omega), ?_⟩
  refine loop_of (fun (s : ((Unit × (Int × Unit)) × ((List Int) × Unit))) => 0 ≤ s.1.2.1 ∧ s.1.2.1 ≤ a.length ∧ s.2.1.length = a.length ∧ s.2.1.take s.1.2.1.toNat = a.take s.1.2.1.toNat) (fun (s : ((Unit × (Int × Unit)) × ((List Int) × Unit))) => (a.length - s.1.2.1).toNat) ?_ (by simp)
  rintro ⟨⟨_, i, _⟩, l, _⟩ next ⟨h0, h1, h2, h3⟩ hn hin hl
  simp only at h0 h1 h2 h3 hn ⊢
  refine cnd_d (fun hc => ?_) (fun hc => ?_)
  · refine ⟨by omega, by omega, by omega, by omega, by grind [cnd, nb_eq, inK64], hn _ ⟨(by first | omega | (dsimp only; omega)), (by first | omega | (dsimp only; omega)), by simp [h2], ?_⟩ (by first | omega | (dsimp only; omega))⟩
    simp only
    rw [take_c a (0 : Int) h0 hc, ← h3]
    exact take_set l h0 (by omega) _
  · rw [take_n a (by omega), take_n l (by omega)] at h3
    simp [h3, c_laws_toInt64S]
theorem ct_laws_toInt64S : CtOk Try.prog 29 c_laws_toInt64S :=
  ct_by (Φ := lkp []) good_nil tab_ok (by kernel_rfl) (fn := Try.f29) (c := bodyOf Try.f29) (by kernel_rfl) (by kernel_rfl) (by kernel_rfl) c_laws_toInt64S rfl (.s .n (.s .n (.s (.s .n (.l [(3, (.ref 7 [])), (4, (.d (.int .i64)))] [(7, (.sl (.fz (.int .i64))))] [0] .n)) .n))) (cutL []) (by kernel_rfl) (by kernel_rfl) k_laws_toInt64S (by decide) (fun x K => W_laws_toInt64S x.1 K) w_laws_toInt64S (fun x h1 h2 => m_laws_toInt64S x.1 h1 h2)
def c_laws_toInt64SS : Ct := ⟨[(.sl (.sl (.int .i64)))], [false], fun x => [wR (.sl (.sl (.int .i64))) x.1 ≤ 1099511627776], [(false, (.sl (.sl (.fz (.int .i64)))))], fun x => (x.1, ()), false, none⟩
def W_laws_toInt64SS (a : List (List Int)) (K : (List (List Int)) × Unit → Prop) : Prop := (((0 : Int) ≤ (((List.length a) : Nat) : Int)) ∧ (((((List.length a) : Nat) : Int) ≤ (((List.length a) : Nat) : Int)) ∧ (((((List.length a) : Nat) : Int) ≤ ((140737488355328 : Nat) : Int)) ∧ ((((((List.length a) : Nat) : Int) * ((24 : Nat) : Int)) ≤ ((140737488355328 : Nat) : Int)) ∧ (loopW (S := ((Unit × (Int × Unit)) × ((List (List Int)) × Unit))) (fun s => (fun next => ((inK IntKind.i64 s.1.2.1) → ((T.ok (T.sl (T.sl (T.int IntKind.i64))) s.2.1) → (cnd (decide (s.1.2.1 < (((List.length a) : Nat) : Int))) (((0 : Int) ≤ s.1.2.1) ∧ ((s.1.2.1 < (((List.length a) : Nat) : Int)) ∧ (((wR (T.sl (T.int IntKind.i64)) (List.getD a (Int.toNat s.1.2.1) ([] : List Int))) ≤ 1099511627776) ∧ (((0 : Int) ≤ s.1.2.1) ∧ ((s.1.2.1 < (((List.length s.2.1) : Nat) : Int)) ∧ ((inK IntKind.i64 (s.1.2.1 + (1 : Int))) ∧ (next (((), ((s.1.2.1 + (1 : Int)), ())), ((List.set s.2.1 (Int.toNat s.1.2.1) (List.getD a (Int.toNat s.1.2.1) ([] : List Int))), ()))))))))) (K (s.2.1, ()))))))) (((), ((0 : Int), ())), ((List.replicate (Int.toNat (((List.length a) : Nat) : Int)) ([] : List Int)), ())))))))
theorem w_laws_toInt64SS (x : denL c_laws_toInt64SS.args) (K : (List (List Int)) × Unit → Prop) : evF tab (lkp [(29, c_laws_toInt64S)]) (cutL []) Try.f45 (bodyOf Try.f45) (.s .n (.s .n (.s (.s .n (.l [(3, (.ref 7 [])), (4, (.d (.int .i64)))] [(7, (.sl (.sl (.fz (.int .i64)))))] [0] .n)) .n))) c_laws_toInt64SS x K = W_laws_toInt64SS x.1 K := by kernel_rfl
theorem k_laws_toInt64SS : okC Try.f45.ntmps (cutL []) (bodyOf Try.f45) = true := by kernel_rfl
theorem m_laws_toInt64SS (a : List (List Int)) (hok : allP (okL c_laws_toInt64SS.args (a, ()))) (hpre : allP (c_laws_toInt64SS.pre (a, ()))) : W_laws_toInt64SS a (fun r => r = c_laws_toInt64SS.res (a, ())) := by
  simp only [c_laws_toInt64SS, okL, T.oks, T.ok, ap, allP, true_and, and_true, implies_true] at hok hpre
  try dsimp only [T.den] at hok
  try dsimp only [T.den] at hpre
  unfold W_laws_toInt64SS
  rw [wR_sl] at hpre
  refine ⟨by omega, by omega, by first | omega | (rw [nb_eq]; omega), by first | omega | (rw [nb_eq]; omega), ?_⟩
  refine loop_of (fun (s : ((Unit × (Int × Unit)) × ((List (List Int)) × Unit))) => 0 ≤ s.1.2.1 ∧ s.1.2.1 ≤ a.length ∧ s.2.1.length = a.length ∧ s.2.1.take s.1.2.1.toNat = a.take s.1.2.1.toNat) (fun (s : ((Unit × (Int × Unit)) × ((List (List Int)) × Unit))) => (a.length - s.1.2.1).toNat) ?_ (by simp)
  rintro ⟨⟨_, i, _⟩, l, _⟩ next ⟨h0, h1, h2, h3⟩ hn hin hl
  simp only at h0 h1 h2 h3 hn ⊢
  refine cnd_d (fun hc => ?_) (fun hc => ?_)
  · have hm := wR_mem (e := (.sl (.int .i64))) (getD_mem a ([] : List Int) h0 hc)
    refine ⟨by omega, by omega, by omega, by omega, by omega, by grind [cnd, nb_eq, inK64], hn _ ⟨(by first | omega | (dsimp only; omega)), (by first | omega | (dsimp only; omega)), by simp [h2], ?_⟩ (by first | omega | (dsimp only; omega))⟩
    simp only
    rw [take_c a ([] : List Int) h0 hc, ← h3]
    exact take_set l h0 (by omega) _
  · rw [take_n a (by omega), take_n l (by omega)] at h3
    simp [h3, c_laws_toInt64SS]
theorem ct_laws_toInt64SS : CtOk Try.prog 45 c_laws_toInt64SS :=
  ct_by (Φ := lkp [(29, c_laws_toInt64S)]) (good_cons ct_laws_toInt64S good_nil) tab_ok (by kernel_rfl) (fn := Try.f45) (c := bodyOf Try.f45) (by kernel_rfl) (by kernel_rfl) (by kernel_rfl) c_laws_toInt64SS rfl (.s .n (.s .n (.s (.s .n (.l [(3, (.ref 7 [])), (4, (.d (.int .i64)))] [(7, (.sl (.sl (.fz (.int .i64)))))] [0] .n)) .n))) (cutL []) (by kernel_rfl) (by kernel_rfl) k_laws_toInt64SS (by decide) (fun x K => W_laws_toInt64SS x.1 K) w_laws_toInt64SS (fun x h1 h2 => m_laws_toInt64SS x.1 h1 h2)
def c_laws_toCategory : Ct := ⟨[CategoryT], [true], fun x => [wR CategoryT x.1 ≤ 1099511627776], [(true, CategoryO)], fun x => (x.1, ()), false, none⟩
def W_laws_toCategory (a : CategoryD) (K : CategoryD × Unit → Prop) : Prop := (((wR (T.sl (T.int IntKind.i64)) a.2.1) ≤ 1099511627776) ∧ (((wR (T.sl (T.int IntKind.i64)) a.2.2.1) ≤ 1099511627776) ∧ (((wR (T.sl (T.int IntKind.i64)) a.2.2.2.1) ≤ 1099511627776) ∧ (((wR (T.sl (T.sl (T.int IntKind.i64))) a.2.2.2.2) ≤ 1099511627776) ∧ (K (a, ()))))))
theorem w_laws_toCategory (x : denL c_laws_toCategory.args) (K : CategoryD × Unit → Prop) : evF tab (lkp [(29, c_laws_toInt64S), (45, c_laws_toInt64SS)]) (cutL []) Try.f21 (bodyOf Try.f21) .n c_laws_toCategory x K = W_laws_toCategory x.1 K := by kernel_rfl
theorem k_laws_toCategory : okC Try.f21.ntmps (cutL []) (bodyOf Try.f21) = true := by kernel_rfl
theorem m_laws_toCategory (a : CategoryD) (hok : allP (okL c_laws_toCategory.args (a, ()))) (hpre : allP (c_laws_toCategory.pre (a, ()))) : W_laws_toCategory a (fun r => r = c_laws_toCategory.res (a, ())) := by
  simp only [c_laws_toCategory, okL, T.oks, T.ok, ap, allP, true_and, and_true, implies_true] at hok hpre
  try dsimp only [T.den] at hok
  try dsimp only [T.den] at hpre
  unfold W_laws_toCategory
  simp only [wR_p, wR_int, wR_bool] at hpre
  repeat' apply And.intro
  all_goals first | rfl | ((try simp only [wR_p, wR_int, wR_bool]); omega)
theorem ct_laws_toCategory : CtOk Try.prog 21 c_laws_toCategory :=
  ct_by (Φ := lkp [(29, c_laws_toInt64S), (45, c_laws_toInt64SS)]) (good_cons ct_laws_toInt64S (good_cons ct_laws_toInt64SS good_nil)) tab_ok (by kernel_rfl) (fn := Try.f21) (c := bodyOf Try.f21) (by kernel_rfl) (by kernel_rfl) (by kernel_rfl) c_laws_toCategory rfl .n (cutL []) (by kernel_rfl) (by kernel_rfl) k_laws_toCategory (by decide) (fun x K => W_laws_toCategory x.1 K) w_laws_toCategory (fun x h1 h2 => m_laws_toCategory x.1 h1 h2)
def c_spec_l01In : Ct := ⟨[(.int .i64), (.int .i64), (.int .i64)], [false, false, false], fun x => [], [(false, (.fz .bool))], fun x => (inR x.1 x.2.1 x.2.2.1, ()), false, none⟩
def W_spec_l01In (n : Int) (low : Int) (high : Int) (K : Bool × Unit → Prop) : Prop := (K (((decide (low ≤ n)) && (decide (n ≤ high))), ()))
theorem w_spec_l01In (x : denL c_spec_l01In.args) (K : Bool × Unit → Prop) : evF tab (lkp []) (cutL []) Try.f127 (bodyOf Try.f127) .n c_spec_l01In x K = W_spec_l01In x.1 x.2.1 x.2.2.1 K := by kernel_rfl
theorem k_spec_l01In : okC Try.f127.ntmps (cutL []) (bodyOf Try.f127) = true := by kernel_rfl
theorem m_spec_l01In (n : Int) (low : Int) (high : Int) (hok : allP (okL c_spec_l01In.args (n, low, high, ()))) (hpre : allP (c_spec_l01In.pre (n, low, high, ()))) : W_spec_l01In n low high (fun r => r = c_spec_l01In.res (n, low, high, ())) := by
  simp only [c_spec_l01In, okL, T.oks, T.ok, ap, allP, true_and, and_true, implies_true] at hok hpre
  try dsimp only [T.den] at hok
  try dsimp only [T.den] at hpre
  unfold W_spec_l01In
  grind [cnd, nb_eq, inK64, c_spec_l01In, inR]
theorem ct_spec_l01In : CtOk Try.prog 127 c_spec_l01In :=
  ct_by (Φ := lkp []) good_nil tab_ok (by kernel_rfl) (fn := Try.f127) (c := bodyOf Try.f127) (by kernel_rfl) (by kernel_rfl) (by kernel_rfl) c_spec_l01In rfl .n (cutL []) (by kernel_rfl) (by kernel_rfl) k_spec_l01In (by decide) (fun x K => W_spec_l01In x.1 x.2.1 x.2.2.1 K) w_spec_l01In (fun x h1 h2 => m_spec_l01In x.1 x.2.1 x.2.2.1 h1 h2)
def c_spec_l01Map : Ct := ⟨[(.int .i64), (.sl (.int .i64))], [false, false], fun x => [], [(false, (.fz .bool))], fun x => (withinR x.2.1 x.1, ()), false, none⟩
def W_spec_l01Map (n : Int) (f : List Int) (K : Bool × Unit → Prop) : Prop := (loopW (S := ((Int × Unit) × Unit)) (fun s => (fun next => ((inK IntKind.i64 s.1.1) → (cnd (decide (s.1.1 < (((List.length f) : Nat) : Int))) (((0 : Int) ≤ s.1.1) ∧ ((s.1.1 < (((List.length f) : Nat) : Int)) ∧ ((((decide ((List.getD f (Int.toNat s.1.1) (0 : Int)) < (0 : Int))) = Bool.false) → ((s.1.1 < (((List.length f) : Nat) : Int)) ∧ ((0 : Int) ≤ s.1.1))) ∧ (cnd ((decide ((List.getD f (Int.toNat s.1.1) (0 : Int)) < (0 : Int))) || (decide (n ≤ (List.getD f (Int.toNat s.1.1) (0 : Int))))) (K (Bool.false, ())) ((inK IntKind.i64 (s.1.1 + (1 : Int))) ∧ (next (((s.1.1 + (1 : Int)), ()), ()))))))) (K (Bool.true, ())))))) (((0 : Int), ()), ()))
theorem w_spec_l01Map (x : denL c_spec_l01Map.args) (K : Bool × Unit → Prop) : evF tab (lkp []) (cutL []) Try.f81 (bodyOf Try.f81) (.s .n (.s (.s .n (.l [(5, (.d (.int .i64)))] [] [0, 1] .n)) .n)) c_spec_l01Map x K = W_spec_l01Map x.1 x.2.1 K := by kernel_rfl
theorem k_spec_l01Map : okC Try.f81.ntmps (cutL []) (bodyOf Try.f81) = true := by kernel_rfl
theorem m_spec_l01Map (n : Int) (f : List Int) (hok : allP (okL c_spec_l01Map.args (n, f, ()))) (hpre : allP (c_spec_l01Map.pre (n, f, ()))) : W_spec_l01Map n f (fun r => r = c_spec_l01Map.res (n, f, ())) := by
  simp only [c_spec_l01Map, okL, T.oks, T.ok, ap, allP, true_and, and_true, implies_true] at hok hpre
  try dsimp only [T.den] at hok
  try dsimp only [T.den] at hpre
  unfold W_spec_l01Map
  refine loop_of (fun (s : ((Int × Unit) × Unit)) => 0 ≤ s.1.1 ∧ s.1.1 ≤ f.length ∧ withinR f n = withinR (f.drop s.1.1.toNat) n) (fun (s : ((Int × Unit) × Unit)) => (f.length - s.1.1).toNat) ?_ (by simp)
  rintro ⟨⟨i, _⟩, _⟩ next ⟨h0, h1, h2⟩ hn hin
  simp only at h0 h1 h2 hn ⊢
  refine cnd_d (fun hc => ?_) (fun hc => ?_)
  · rw [drop_c f 0 h0 hc] at h2
    simp only [withinR, List.all_cons] at h2
    grind [cnd, nb_eq, inK64, c_spec_l01Map, withinR, inR]
  · rw [drop_n f (by omega)] at h2
    grind [cnd, nb_eq, inK64, c_spec_l01Map, withinR]
theorem ct_spec_l01Map : CtOk Try.prog 81 c_spec_l01Map :=
  ct_by (Φ := lkp []) good_nil tab_ok (by kernel_rfl) (fn := Try.f81) (c := bodyOf Try.f81) (by kernel_rfl) (by kernel_rfl) (by kernel_rfl) c_spec_l01Map rfl (.s .n (.s (.s .n (.l [(5, (.d (.int .i64)))] [] [0, 1] .n)) .n)) (cutL []) (by kernel_rfl) (by kernel_rfl) k_spec_l01Map (by decide) (fun x K => W_spec_l01Map x.1 x.2.1 K) w_spec_l01Map (fun x h1 h2 => m_spec_l01Map x.1 x.2.1 h1 h2)
def c_spec_l02Ends : Ct := ⟨[(.sl (.int .i64)), (.int .i64), (.int .i64)], [false, false, false], fun x => [], [(false, (.fz .bool))], fun x => ((decide ((x.1.length : Int) = x.2.1) && withinR x.1 x.2.2.1), ()), false, none⟩
def W_spec_l02Ends (list : List Int) (length : Int) (objects : Int) (K : Bool × Unit → Prop) : Prop := (K ((((((List.length list) : Nat) : Int) == length) && (withinR list objects)), ()))
theorem w_spec_l02Ends (x : denL c_spec_l02Ends.args) (K : Bool × Unit → Prop) : evF tab (lkp [(81, c_spec_l01Map)]) (cutL []) Try.f135 (bodyOf Try.f135) .n c_spec_l02Ends x K = W_spec_l02Ends x.1 x.2.1 x.2.2.1 K := by kernel_rfl
theorem k_spec_l02Ends : okC Try.f135.ntmps (cutL []) (bodyOf Try.f135) = true := by kernel_rfl
theorem m_spec_l02Ends (list : List Int) (length : Int) (objects : Int) (hok : allP (okL c_spec_l02Ends.args (list, length, objects, ()))) (hpre : allP (c_spec_l02Ends.pre (list, length, objects, ()))) : W_spec_l02Ends list length objects (fun r => r = c_spec_l02Ends.res (list, length, objects, ())) := by
  simp only [c_spec_l02Ends, okL, T.oks, T.ok, ap, allP, true_and, and_true, implies_true] at hok hpre
  try dsimp only [T.den] at hok
  try dsimp only [T.den] at hpre
  unfold W_spec_l02Ends
  have : ((list.length : Int) == length) = decide ((list.length : Int) = length) := rfl
  simp only [c_spec_l02Ends, this]
theorem ct_spec_l02Ends : CtOk Try.prog 135 c_spec_l02Ends :=
  ct_by (Φ := lkp [(81, c_spec_l01Map)]) (good_cons ct_spec_l01Map good_nil) tab_ok (by kernel_rfl) (fn := Try.f135) (c := bodyOf Try.f135) (by kernel_rfl) (by kernel_rfl) (by kernel_rfl) c_spec_l02Ends rfl .n (cutL []) (by kernel_rfl) (by kernel_rfl) k_spec_l02Ends (by decide) (fun x K => W_spec_l02Ends x.1 x.2.1 x.2.2.1 K) w_spec_l02Ends (fun x h1 h2 => m_spec_l02Ends x.1 x.2.1 x.2.2.1 h1 h2)
def c_spec_IsShape : Ct := ⟨[CategoryT], [true], fun x => [], [(false, (.fz .bool))], fun x => (shapeR x.1, ()), false, none⟩
def W_spec_IsShape (c : CategoryD) (K : Bool × Unit → Prop) : Prop := (cnd (((((!(inR c.1 (0 : Int) (8 : Int))) || (decide ((40 : Int) < (((List.length c.2.1) : Nat) : Int)))) || (!((decide ((((List.length c.2.1) : Nat) : Int) = (((List.length c.2.1) : Nat) : Int))) && (withinR c.2.1 c.1)))) || (!((decide ((((List.length c.2.2.1) : Nat) : Int) = (((List.length c.2.1) : Nat) : Int))) && (withinR c.2.2.1 c.1)))) || ((((List.length c.2.2.2.2) : Nat) : Int) != (((List.length c.2.1) : Nat) : Int))) (K (Bool.false, ())) (cnd (((((List.length c.2.2.2.1) : Nat) : Int) != c.1) || (!(withinR c.2.2.2.1 (((List.length c.2.1) : Nat) : Int)))) (K (Bool.false, ())) (loopW (S := ((Int × Unit) × Unit)) (fun s => (fun next => ((inK IntKind.i64 s.1.1) → (cnd (decide (s.1.1 < c.1)) (((0 : Int) ≤ s.1.1) ∧ ((s.1.1 < (((List.length c.2.2.2.1) : Nat) : Int)) ∧ (((0 : Int) ≤ (List.getD c.2.2.2.1 (Int.toNat s.1.1) (0 : Int))) ∧ (((List.getD c.2.2.2.1 (Int.toNat s.1.1) (0 : Int)) < (((List.length c.2.1) : Nat) : Int)) ∧ (((((List.getD c.2.1 (Int.toNat (List.getD c.2.2.2.1 (Int.toNat s.1.1) (0 : Int))) (0 : Int)) != s.1.1) = Bool.false) → ((s.1.1 < (((List.length c.2.2.2.1) : Nat) : Int)) ∧ ((0 : Int) ≤ s.1.1))) ∧ (((((List.getD c.2.1 (Int.toNat (List.getD c.2.2.2.1 (Int.toNat s.1.1) (0 : Int))) (0 : Int)) != s.1.1) = Bool.false) → (((List.getD c.2.2.2.1 (Int.toNat s.1.1) (0 : Int)) < (((List.length c.2.2.1) : Nat) : Int)) ∧ ((0 : Int) ≤ (List.getD c.2.2.2.1 (Int.toNat s.1.1) (0 : Int))))) ∧ (cnd (((List.getD c.2.1 (Int.toNat (List.getD c.2.2.2.1 (Int.toNat s.1.1) (0 : Int))) (0 : Int)) != s.1.1) || ((List.getD c.2.2.1 (Int.toNat (List.getD c.2.2.2.1 (Int.toNat s.1.1) (0 : Int))) (0 : Int)) != s.1.1)) (K (Bool.false, ())) ((inK IntKind.i64 (s.1.1 + (1 : Int))) ∧ (next (((s.1.1 + (1 : Int)), ()), ())))))))))) (loopW (S := ((Int × Unit) × Unit)) (fun s1 => (fun next1 => ((inK IntKind.i64 s1.1.1) → (cnd (decide (s1.1.1 < (((List.length c.2.1) : Nat) : Int))) (((0 : Int) ≤ s1.1.1) ∧ ((s1.1.1 < (((List.length c.2.2.2.2) : Nat) : Int)) ∧ (cnd ((((List.length (List.getD c.2.2.2.2 (Int.toNat s1.1.1) ([] : List Int))) : Nat) : Int) != (((List.length c.2.1) : Nat) : Int)) (K (Bool.false, ())) (loopW (S := ((Int × Unit) × Unit)) (fun s2 => (fun next2 => ((inK IntKind.i64 s2.1.1) → (cnd (decide (s2.1.1 < (((List.length c.2.1) : Nat) : Int))) (joinW (S := (Unit × Unit)) (fun s3 => ((inK IntKind.i64 (s2.1.1 + (1 : Int))) ∧ (next2 (((s2.1.1 + (1 : Int)), ()), ())))) (fun k => (((0 : Int) ≤ s1.1.1) ∧ ((s1.1.1 < (((List.length c.2.2.2.2) : Nat) : Int)) ∧ (((0 : Int) ≤ s2.1.1) ∧ ((s2.1.1 < (((List.length (List.getD c.2.2.2.2 (Int.toNat s1.1.1) ([] : List Int))) : Nat) : Int)) ∧ (((0 : Int) ≤ s1.1.1) ∧ ((s1.1.1 < (((List.length c.2.2.1) : Nat) : Int)) ∧ (((0 : Int) ≤ s2.1.1) ∧ ((s2.1.1 < (((List.length c.2.1) : Nat) : Int)) ∧ (cnd ((List.getD c.2.2.1 (Int.toNat s1.1.1) (0 : Int)) != (List.getD c.2.1 (Int.toNat s2.1.1) (0 : Int))) (cnd ((List.getD (List.getD c.2.2.2.2 (Int.toNat s1.1.1) ([] : List Int)) (Int.toNat s2.1.1) (0 : Int)) != (-(1 : Int))) (K (Bool.false, ())) (k ((), ()))) (((((decide ((List.getD (List.getD c.2.2.2.2 (Int.toNat s1.1.1) ([] : List Int)) (Int.toNat s2.1.1) (0 : Int)) < (0 : Int))) || (decide ((((List.length c.2.1) : Nat) : Int) ≤ (List.getD (List.getD c.2.2.2.2 (Int.toNat s1.1.1) ([] : List Int)) (Int.toNat s2.1.1) (0 : Int))))) = Bool.false) → (((List.getD (List.getD c.2.2.2.2 (Int.toNat s1.1.1) ([] : List Int)) (Int.toNat s2.1.1) (0 : Int)) < (((List.length c.2.1) : Nat) : Int)) ∧ ((0 : Int) ≤ (List.getD (List.getD c.2.2.2.2 (Int.toNat s1.1.1) ([] : List Int)) (Int.toNat s2.1.1) (0 : Int))))) ∧ (((((decide ((List.getD (List.getD c.2.2.2.2 (Int.toNat s1.1.1) ([] : List Int)) (Int.toNat s2.1.1) (0 : Int)) < (0 : Int))) || (decide ((((List.length c.2.1) : Nat) : Int) ≤ (List.getD (List.getD c.2.2.2.2 (Int.toNat s1.1.1) ([] : List Int)) (Int.toNat s2.1.1) (0 : Int))))) = Bool.false) → ((s1.1.1 < (((List.length c.2.1) : Nat) : Int)) ∧ ((0 : Int) ≤ s1.1.1))) ∧ ((((((decide ((List.getD (List.getD c.2.2.2.2 (Int.toNat s1.1.1) ([] : List Int)) (Int.toNat s2.1.1) (0 : Int)) < (0 : Int))) || (decide ((((List.length c.2.1) : Nat) : Int) ≤ (List.getD (List.getD c.2.2.2.2 (Int.toNat s1.1.1) ([] : List Int)) (Int.toNat s2.1.1) (0 : Int))))) || ((List.getD c.2.1 (Int.toNat (List.getD (List.getD c.2.2.2.2 (Int.toNat s1.1.1) ([] : List Int)) (Int.toNat s2.1.1) (0 : Int))) (0 : Int)) != (List.getD c.2.1 (Int.toNat s1.1.1) (0 : Int)))) = Bool.false) → (((List.getD (List.getD c.2.2.2.2 (Int.toNat s1.1.1) ([] : List Int)) (Int.toNat s2.1.1) (0 : Int)) < (((List.length c.2.2.1) : Nat) : Int)) ∧ ((0 : Int) ≤ (List.getD (List.getD c.2.2.2.2 (Int.toNat s1.1.1) ([] : List Int)) (Int.toNat s2.1.1) (0 : Int))))) ∧ ((((((decide ((List.getD (List.getD c.2.2.2.2 (Int.toNat s1.1.1) ([] : List Int)) (Int.toNat s2.1.1) (0 : Int)) < (0 : Int))) || (decide ((((List.length c.2.1) : Nat) : Int) ≤ (List.getD (List.getD c.2.2.2.2 (Int.toNat s1.1.1) ([] : List Int)) (Int.toNat s2.1.1) (0 : Int))))) || ((List.getD c.2.1 (Int.toNat (List.getD (List.getD c.2.2.2.2 (Int.toNat s1.1.1) ([] : List Int)) (Int.toNat s2.1.1) (0 : Int))) (0 : Int)) != (List.getD c.2.1 (Int.toNat s1.1.1) (0 : Int)))) = Bool.false) → ((s2.1.1 < (((List.length c.2.2.1) : Nat) : Int)) ∧ ((0 : Int) ≤ s2.1.1))) ∧ (cnd ((((decide ((List.getD (List.getD c.2.2.2.2 (Int.toNat s1.1.1) ([] : List Int)) (Int.toNat s2.1.1) (0 : Int)) < (0 : Int))) || (decide ((((List.length c.2.1) : Nat) : Int) ≤ (List.getD (List.getD c.2.2.2.2 (Int.toNat s1.1.1) ([] : List Int)) (Int.toNat s2.1.1) (0 : Int))))) || ((List.getD c.2.1 (Int.toNat (List.getD (List.getD c.2.2.2.2 (Int.toNat s1.1.1) ([] : List Int)) (Int.toNat s2.1.1) (0 : Int))) (0 : Int)) != (List.getD c.2.1 (Int.toNat s1.1.1) (0 : Int)))) || ((List.getD c.2.2.1 (Int.toNat (List.getD (List.getD c.2.2.2.2 (Int.toNat s1.1.1) ([] : List Int)) (Int.toNat s2.1.1) (0 : Int))) (0 : Int)) != (List.getD c.2.2.1 (Int.toNat s2.1.1) (0 : Int)))) (K (Bool.false, ())) (k ((), ())))))))))))))))))) ((inK IntKind.i64 (s1.1.1 + (1 : Int))) ∧ (next1 (((s1.1.1 + (1 : Int)), ()), ()))))))) (((0 : Int), ()), ()))))) (K (Bool.true, ())))))) (((0 : Int), ()), ())))))) (((0 : Int), ()), ()))))
theorem w_spec_IsShape (x : denL c_spec_IsShape.args) (K : Bool × Unit → Prop) : evF tab (lkp [(127, c_spec_l01In), (81, c_spec_l01Map), (135, c_spec_l02Ends)]) (cutL [(20, 11), (23, 33), (9, 24)]) Try.f96 (bodyOf Try.f96) (.s .n (.s .n (.s .n (.s .n (.s (.s .n (.l [(4, (.d (.int .i64)))] [] [1, 3] .n)) (.s (.s .n (.l [(5, (.d (.int .i64)))] [] [1, 3] (.s .n (.s (.s .n (.s .n (.l [(6, (.d (.int .i64)))] [] [1, 3, 5] (.s .n (.s (.j [] [] [1, 3, 5, 6] .n) .n))))) .n)))) .n)))))) c_spec_IsShape x K = W_spec_IsShape x.1 K := by kernel_rfl
theorem k_spec_IsShape : okC Try.f96.ntmps (cutL [(20, 11), (23, 33), (9, 24)]) (bodyOf Try.f96) = true := by kernel_rfl
theorem m_spec_IsShape (c : CategoryD) (hok : allP (okL c_spec_IsShape.args (c, ()))) (hpre : allP (c_spec_IsShape.pre (c, ()))) : W_spec_IsShape c (fun r => r = c_spec_IsShape.res (c, ())) := by
  simp only [c_spec_IsShape, okL, T.oks, T.ok, ap, allP, true_and, and_true, implies_true] at hok hpre
  try dsimp only [T.den] at hok
  try dsimp only [T.den] at hpre
  unfold W_spec_IsShape
  have bad : ¬ ShapeP c → (false, ()) = c_spec_IsShape.res (c, ()) := fun h => by simp only [c_spec_IsShape]; rw [shape_f h]
  refine cnd_of (fun hc => bad fun h => ?_) (fun hc => cnd_of (fun hd => bad fun h => ?_) (fun hd => ?_))
  · have h1 := h.ob; have h2 := h.m; have h3 := h.lt; have h4 := h.fr; have h5 := h.to; have h6 := h.lc; simp only [inR] at hc; grind [cnd, nb_eq, inK64]
  · have h1 := h.li; have h2 := h.ids; grind [cnd, nb_eq, inK64]
  simp only [inR, Bool.or_eq_false_iff, Bool.not_eq_false', Bool.and_eq_true, decide_eq_true_eq, decide_eq_false_iff_not, bne_eq_false_iff_eq] at hc hd
  obtain ⟨⟨⟨⟨hob, hm⟩, _, hfr⟩, hlt, hto⟩, hlc⟩ := hc
  obtain ⟨hli, hids⟩ := hd
  refine loop_ix (n := c.1) (fun x => ∀ y : Int, 0 ≤ y → y < x → c.2.1.getD (c.2.2.2.1.getD y.toNat 0).toNat 0 = y ∧ c.2.2.1.getD (c.2.2.2.1.getD y.toNat 0).toNat 0 = y) (by omega) (by intro y h0 h1; omega) ?_ ?_
  · intro x next h0 h1 hP hn hin
    have hb := within_iff.1 hids x h0 (by omega)
    try dsimp only
    refine cnd_d (fun _ => ⟨h0, by omega, hb.1, hb.2, fun _ => by omega, fun _ => by omega, cnd_of (fun hx => bad fun h => ?_) (fun hx => ?_)⟩) (fun h => absurd h1 h)
    · have := h.idt x h0 (by omega)
      rw [this.1, this.2] at hx
      simp at hx
    · simp only [Bool.or_eq_false_iff, bne_eq_false_iff_eq] at hx
      refine ⟨by rw [inK64]; (try dsimp only); omega, hn fun y y0 y1 => ?_⟩
      by_cases e : y = x
      · rw [e]; exact hx
      · exact hP y y0 (by omega)
  intro next hidt hin
  refine cnd_d (fun h => absurd h (by dsimp only; omega)) (fun _ => ?_)
  refine loop_ix (n := c.2.1.length) (fun f => ∀ f' : Int, 0 ≤ f' → f' < f → (c.2.2.2.2.getD f'.toNat []).length = c.2.1.length ∧ ∀ g : Int, 0 ≤ g → g < c.2.1.length → cellR c f' g = true) (by omega) (by intro y h0 h1; omega) ?_ ?_
  · intro f next h0 h1 hP hn hin
    try dsimp only
    refine cnd_d (fun _ => ⟨h0, by omega, cnd_of (fun hx => bad fun h => ?_) (fun hx => ?_)⟩) (fun h => absurd h1 h)
    · have := h.row f h0 (by omega)
      rw [this] at hx
      simp at hx
    simp only [bne_eq_false_iff_eq] at hx
    refine loop_ix (n := c.2.1.length) (fun g => ∀ g' : Int, 0 ≤ g' → g' < g → cellR c f g' = true) (by omega) (by intro y h0 h1; omega) ?_ ?_
    · intro g next3 g0 g1 hP3 hn3 hin3
      try dsimp only
      refine cnd_d (fun _ => ?_) (fun h => absurd g1 h)
      refine join_of (fun _ => cellR c f g = true) (fun _ hcell => ⟨by rw [inK64]; (try dsimp only); omega, hn3 fun g' y0 y1 => ?_⟩) (fun k hk => ?_)
      · by_cases e : g' = g
        · rw [e]; exact hcell
        · exact hP3 g' y0 (by omega)
      have hcell : ∀ b, cellR c f g = b → b = false → ¬ ShapeP c := fun b h1 h2 h => by
        have := h.cell f g h0 (by omega) g0 (by omega)
        rw [h1, h2] at this; cases this
      have hk' := hk ((), ())
      obtain ⟨v, hv⟩ : ∃ v, (c.2.2.2.2.getD f.toNat []).getD g.toNat 0 = v := ⟨_, rfl⟩
      have hR : cellR c f g = cellQ c f g v := by unfold cellR compR; rw [hv]
      rw [hR] at hk'
      rw [hR] at hcell
      rw [hv]
      clear hP3 hn3 hP hn hk hR hv hidt hok
      refine ⟨h0, by omega, g0, by omega, h0, by omega, g0, by omega, cnd_of (fun ha => cnd_of (fun hb => bad ?_) (fun hb => hk' ?_)) (fun ha => ⟨fun hv => ?_, fun _ => ⟨by omega, h0⟩, fun hv => ?_, fun _ => ⟨by omega, g0⟩, cnd_of (fun hb => bad ?_) (fun hb => hk' ?_)⟩)⟩
      · exact hcell _ rfl (by grind [cnd, nb_eq, inK64, cellQ])
      · grind [cnd, nb_eq, inK64, cellQ]
      · simp only [Bool.or_eq_false_iff, decide_eq_false_iff_not] at hv; omega
      · simp only [Bool.or_eq_false_iff, decide_eq_false_iff_not] at hv; omega
      · exact hcell _ rfl (by grind [cnd, nb_eq, inK64, cellQ])
      · grind [cnd, nb_eq, inK64, cellQ]
    · intro next3 hP3 hin3
      refine cnd_d (fun h => absurd h (by dsimp only; omega)) (fun _ => ⟨by rw [inK64]; (try dsimp only); omega, hn fun f' y0 y1 => ?_⟩)
      by_cases e : f' = f
      · rw [e]; exact ⟨by omega, fun g g0 g1 => hP3 g g0 (by omega)⟩
      · exact hP f' y0 (by omega)
  · intro next2 hP2 hin2
    refine cnd_d (fun h => absurd h (by dsimp only; omega)) (fun _ => ?_)
    simp only [c_spec_IsShape]
    rw [shape_t ⟨hob, by omega, by omega, hfr, hto, by omega, hids, by omega, fun x a b => hidt x a (by omega), fun f a b => (hP2 f a (by omega)).1, fun f g a b d e => (hP2 f a (by omega)).2 g d e⟩]
theorem ct_spec_IsShape : CtOk Try.prog 96 c_spec_IsShape :=
  ct_by (Φ := lkp [(127, c_spec_l01In), (81, c_spec_l01Map), (135, c_spec_l02Ends)]) (good_cons ct_spec_l01In (good_cons ct_spec_l01Map (good_cons ct_spec_l02Ends good_nil))) tab_ok (by kernel_rfl) (fn := Try.f96) (c := bodyOf Try.f96) (by kernel_rfl) (by kernel_rfl) (by kernel_rfl) c_spec_IsShape rfl (.s .n (.s .n (.s .n (.s .n (.s (.s .n (.l [(4, (.d (.int .i64)))] [] [1, 3] .n)) (.s (.s .n (.l [(5, (.d (.int .i64)))] [] [1, 3] (.s .n (.s (.s .n (.s .n (.l [(6, (.d (.int .i64)))] [] [1, 3, 5] (.s .n (.s (.j [] [] [1, 3, 5, 6] .n) .n))))) .n)))) .n)))))) (cutL [(20, 11), (23, 33), (9, 24)]) (by kernel_rfl) (by kernel_rfl) k_spec_IsShape (by decide) (fun x K => W_spec_IsShape x.1 K) w_spec_IsShape (fun x h1 h2 => m_spec_IsShape x.1 h1 h2)
def c_spec_l02Fault : Ct := ⟨[CategoryT], [true], fun x => [ShapeP x.1], [(false, (.fz (.int .i64))), (false, (.fz (.int .i64))), (false, (.fz (.int .i64))), (false, (.fz (.int .i64)))], fun x => ((faultR x.1).1, (faultR x.1).2.1, (faultR x.1).2.2.1, (faultR x.1).2.2.2, ()), false, none⟩
def W_spec_l02Fault (c : CategoryD) (K : Int × Int × Int × Int × Unit → Prop) : Prop := (loopW (S := ((Int × Unit) × Unit)) (fun s => (fun next => ((inK IntKind.i64 s.1.1) → (cnd (decide (s.1.1 < (((List.length c.2.1) : Nat) : Int))) (((0 : Int) ≤ s.1.1) ∧ ((s.1.1 < (((List.length c.2.1) : Nat) : Int)) ∧ (((0 : Int) ≤ (List.getD c.2.1 (Int.toNat s.1.1) (0 : Int))) ∧ (((List.getD c.2.1 (Int.toNat s.1.1) (0 : Int)) < (((List.length c.2.2.2.1) : Nat) : Int)) ∧ (((0 : Int) ≤ (List.getD c.2.2.2.1 (Int.toNat (List.getD c.2.1 (Int.toNat s.1.1) (0 : Int))) (0 : Int))) ∧ (((List.getD c.2.2.2.1 (Int.toNat (List.getD c.2.1 (Int.toNat s.1.1) (0 : Int))) (0 : Int)) < (((List.length c.2.2.2.2) : Nat) : Int)) ∧ (((0 : Int) ≤ s.1.1) ∧ ((s.1.1 < (((List.length (List.getD c.2.2.2.2 (Int.toNat (List.getD c.2.2.2.1 (Int.toNat (List.getD c.2.1 (Int.toNat s.1.1) (0 : Int))) (0 : Int))) ([] : List Int))) : Nat) : Int)) ∧ (((((List.getD (List.getD c.2.2.2.2 (Int.toNat (List.getD c.2.2.2.1 (Int.toNat (List.getD c.2.1 (Int.toNat s.1.1) (0 : Int))) (0 : Int))) ([] : List Int)) (Int.toNat s.1.1) (0 : Int)) != s.1.1) = Bool.false) → ((s.1.1 < (((List.length c.2.2.2.2) : Nat) : Int)) ∧ ((0 : Int) ≤ s.1.1))) ∧ (((((List.getD (List.getD c.2.2.2.2 (Int.toNat (List.getD c.2.2.2.1 (Int.toNat (List.getD c.2.1 (Int.toNat s.1.1) (0 : Int))) (0 : Int))) ([] : List Int)) (Int.toNat s.1.1) (0 : Int)) != s.1.1) = Bool.false) → ((s.1.1 < (((List.length c.2.2.1) : Nat) : Int)) ∧ ((0 : Int) ≤ s.1.1))) ∧ (((((List.getD (List.getD c.2.2.2.2 (Int.toNat (List.getD c.2.2.2.1 (Int.toNat (List.getD c.2.1 (Int.toNat s.1.1) (0 : Int))) (0 : Int))) ([] : List Int)) (Int.toNat s.1.1) (0 : Int)) != s.1.1) = Bool.false) → (((List.getD c.2.2.1 (Int.toNat s.1.1) (0 : Int)) < (((List.length c.2.2.2.1) : Nat) : Int)) ∧ ((0 : Int) ≤ (List.getD c.2.2.1 (Int.toNat s.1.1) (0 : Int))))) ∧ (((((List.getD (List.getD c.2.2.2.2 (Int.toNat (List.getD c.2.2.2.1 (Int.toNat (List.getD c.2.1 (Int.toNat s.1.1) (0 : Int))) (0 : Int))) ([] : List Int)) (Int.toNat s.1.1) (0 : Int)) != s.1.1) = Bool.false) → (((List.getD c.2.2.2.1 (Int.toNat (List.getD c.2.2.1 (Int.toNat s.1.1) (0 : Int))) (0 : Int)) < (((List.length (List.getD c.2.2.2.2 (Int.toNat s.1.1) ([] : List Int))) : Nat) : Int)) ∧ ((0 : Int) ≤ (List.getD c.2.2.2.1 (Int.toNat (List.getD c.2.2.1 (Int.toNat s.1.1) (0 : Int))) (0 : Int))))) ∧ (cnd (((List.getD (List.getD c.2.2.2.2 (Int.toNat (List.getD c.2.2.2.1 (Int.toNat (List.getD c.2.1 (Int.toNat s.1.1) (0 : Int))) (0 : Int))) ([] : List Int)) (Int.toNat s.1.1) (0 : Int)) != s.1.1) || ((List.getD (List.getD c.2.2.2.2 (Int.toNat s.1.1) ([] : List Int)) (Int.toNat (List.getD c.2.2.2.1 (Int.toNat (List.getD c.2.2.1 (Int.toNat s.1.1) (0 : Int))) (0 : Int))) (0 : Int)) != s.1.1)) (K ((1 : Int), (s.1.1, ((0 : Int), ((0 : Int), ()))))) ((inK IntKind.i64 (s.1.1 + (1 : Int))) ∧ (next (((s.1.1 + (1 : Int)), ()), ())))))))))))))))) (loopW (S := ((Int × Unit) × Unit)) (fun s1 => (fun next1 => ((inK IntKind.i64 s1.1.1) → (cnd (decide (s1.1.1 < (((List.length c.2.1) : Nat) : Int))) (loopW (S := ((Int × Unit) × Unit)) (fun s2 => (fun next2 => ((inK IntKind.i64 s2.1.1) → (cnd (decide (s2.1.1 < (((List.length c.2.1) : Nat) : Int))) (joinW (S := (Unit × Unit)) (fun s3 => ((inK IntKind.i64 (s2.1.1 + (1 : Int))) ∧ (next2 (((s2.1.1 + (1 : Int)), ()), ())))) (fun k => (((0 : Int) ≤ s1.1.1) ∧ ((s1.1.1 < (((List.length c.2.2.1) : Nat) : Int)) ∧ (((0 : Int) ≤ s2.1.1) ∧ ((s2.1.1 < (((List.length c.2.1) : Nat) : Int)) ∧ (cnd ((List.getD c.2.2.1 (Int.toNat s1.1.1) (0 : Int)) != (List.getD c.2.1 (Int.toNat s2.1.1) (0 : Int))) (k ((), ())) (loopW (S := ((Int × Unit) × Unit)) (fun s3 => (fun next3 => ((inK IntKind.i64 s3.1.1) → (cnd (decide (s3.1.1 < (((List.length c.2.1) : Nat) : Int))) (((0 : Int) ≤ s2.1.1) ∧ ((s2.1.1 < (((List.length c.2.2.1) : Nat) : Int)) ∧ (((0 : Int) ≤ s3.1.1) ∧ ((s3.1.1 < (((List.length c.2.1) : Nat) : Int)) ∧ (((((List.getD c.2.2.1 (Int.toNat s2.1.1) (0 : Int)) == (List.getD c.2.1 (Int.toNat s3.1.1) (0 : Int))) = Bool.true) → ((s1.1.1 < (((List.length c.2.2.2.2) : Nat) : Int)) ∧ ((0 : Int) ≤ s1.1.1))) ∧ (((((List.getD c.2.2.1 (Int.toNat s2.1.1) (0 : Int)) == (List.getD c.2.1 (Int.toNat s3.1.1) (0 : Int))) = Bool.true) → ((s2.1.1 < (((List.length (List.getD c.2.2.2.2 (Int.toNat s1.1.1) ([] : List Int))) : Nat) : Int)) ∧ ((0 : Int) ≤ s2.1.1))) ∧ (((((List.getD c.2.2.1 (Int.toNat s2.1.1) (0 : Int)) == (List.getD c.2.1 (Int.toNat s3.1.1) (0 : Int))) = Bool.true) → (((List.getD (List.getD c.2.2.2.2 (Int.toNat s1.1.1) ([] : List Int)) (Int.toNat s2.1.1) (0 : Int)) < (((List.length c.2.2.2.2) : Nat) : Int)) ∧ ((0 : Int) ≤ (List.getD (List.getD c.2.2.2.2 (Int.toNat s1.1.1) ([] : List Int)) (Int.toNat s2.1.1) (0 : Int))))) ∧ (((((List.getD c.2.2.1 (Int.toNat s2.1.1) (0 : Int)) == (List.getD c.2.1 (Int.toNat s3.1.1) (0 : Int))) = Bool.true) → ((s3.1.1 < (((List.length (List.getD c.2.2.2.2 (Int.toNat (List.getD (List.getD c.2.2.2.2 (Int.toNat s1.1.1) ([] : List Int)) (Int.toNat s2.1.1) (0 : Int))) ([] : List Int))) : Nat) : Int)) ∧ ((0 : Int) ≤ s3.1.1))) ∧ (((((List.getD c.2.2.1 (Int.toNat s2.1.1) (0 : Int)) == (List.getD c.2.1 (Int.toNat s3.1.1) (0 : Int))) = Bool.true) → ((s1.1.1 < (((List.length c.2.2.2.2) : Nat) : Int)) ∧ ((0 : Int) ≤ s1.1.1))) ∧ (((((List.getD c.2.2.1 (Int.toNat s2.1.1) (0 : Int)) == (List.getD c.2.1 (Int.toNat s3.1.1) (0 : Int))) = Bool.true) → ((s2.1.1 < (((List.length c.2.2.2.2) : Nat) : Int)) ∧ ((0 : Int) ≤ s2.1.1))) ∧ (((((List.getD c.2.2.1 (Int.toNat s2.1.1) (0 : Int)) == (List.getD c.2.1 (Int.toNat s3.1.1) (0 : Int))) = Bool.true) → ((s3.1.1 < (((List.length (List.getD c.2.2.2.2 (Int.toNat s2.1.1) ([] : List Int))) : Nat) : Int)) ∧ ((0 : Int) ≤ s3.1.1))) ∧ (((((List.getD c.2.2.1 (Int.toNat s2.1.1) (0 : Int)) == (List.getD c.2.1 (Int.toNat s3.1.1) (0 : Int))) = Bool.true) → (((List.getD (List.getD c.2.2.2.2 (Int.toNat s2.1.1) ([] : List Int)) (Int.toNat s3.1.1) (0 : Int)) < (((List.length (List.getD c.2.2.2.2 (Int.toNat s1.1.1) ([] : List Int))) : Nat) : Int)) ∧ ((0 : Int) ≤ (List.getD (List.getD c.2.2.2.2 (Int.toNat s2.1.1) ([] : List Int)) (Int.toNat s3.1.1) (0 : Int))))) ∧ (cnd (((List.getD c.2.2.1 (Int.toNat s2.1.1) (0 : Int)) == (List.getD c.2.1 (Int.toNat s3.1.1) (0 : Int))) && ((List.getD (List.getD c.2.2.2.2 (Int.toNat (List.getD (List.getD c.2.2.2.2 (Int.toNat s1.1.1) ([] : List Int)) (Int.toNat s2.1.1) (0 : Int))) ([] : List Int)) (Int.toNat s3.1.1) (0 : Int)) != (List.getD (List.getD c.2.2.2.2 (Int.toNat s1.1.1) ([] : List Int)) (Int.toNat (List.getD (List.getD c.2.2.2.2 (Int.toNat s2.1.1) ([] : List Int)) (Int.toNat s3.1.1) (0 : Int))) (0 : Int)))) (K ((2 : Int), (s1.1.1, (s2.1.1, (s3.1.1, ()))))) ((inK IntKind.i64 (s3.1.1 + (1 : Int))) ∧ (next3 (((s3.1.1 + (1 : Int)), ()), ())))))))))))))))) (k ((), ())))))) (((0 : Int), ()), ()))))))))) ((inK IntKind.i64 (s1.1.1 + (1 : Int))) ∧ (next1 (((s1.1.1 + (1 : Int)), ()), ()))))))) (((0 : Int), ()), ())) (K ((0 : Int), ((0 : Int), ((0 : Int), ((0 : Int), ()))))))))) (((0 : Int), ()), ())))))) (((0 : Int), ()), ()))
theorem w_spec_l02Fault (x : denL c_spec_l02Fault.args) (K : Int × Int × Int × Int × Unit → Prop) : evF tab (lkp []) (cutL [(17, 44), (5, 38), (13, 11)]) Try.f97 (bodyOf Try.f97) (.s .n (.s .n (.s (.s .n (.l [(7, (.d (.int .i64)))] [] [1, 6] .n)) (.s (.s .n (.l [(8, (.d (.int .i64)))] [] [1, 6] (.s .n (.s (.s .n (.l [(9, (.d (.int .i64)))] [] [1, 6, 8] (.s .n (.s (.j [] [] [1, 6, 8, 9] (.s .n (.s .n (.l [(10, (.d (.int .i64)))] [] [1, 6, 8, 9] .n)))) .n)))) .n)))) .n)))) c_spec_l02Fault x K = W_spec_l02Fault x.1 K := by kernel_rfl
theorem k_spec_l02Fault : okC Try.f97.ntmps (cutL [(17, 44), (5, 38), (13, 11)]) (bodyOf Try.f97) = true := by kernel_rfl
theorem m_spec_l02Fault (c : CategoryD) (hok : allP (okL c_spec_l02Fault.args (c, ()))) (hpre : allP (c_spec_l02Fault.pre (c, ()))) : W_spec_l02Fault c (fun r => r = c_spec_l02Fault.res (c, ())) := by
  simp only [c_spec_l02Fault, okL, T.oks, T.ok, ap, allP, true_and, and_true, implies_true] at hok hpre
  try dsimp only [T.den] at hok
  try dsimp only [T.den] at hpre
  unfold W_spec_l02Fault
  have S : ShapeP c := hpre
  have hlt := S.lt
  have hli := S.li
  have hlc := S.lc
  have hmm := S.m
  have resq : ∀ a b d e, faultR c = (a, b, d, e) → (a, b, d, e, ()) = c_spec_l02Fault.res (c, ()) := fun a b d e h => by simp only [c_spec_l02Fault, h]
  have hcr : ∀ f g : Int, (c.2.2.2.2.getD f.toNat []).getD g.toNat 0 = compR c f g := fun _ _ => rfl
  simp only [hcr]
  refine loop_ix (n := c.2.1.length) (fun f => scanR (faultI c) c.2.1.length 0 = scanR (faultI c) ((c.2.1.length : Int) - f).toNat f) (by omega) scan_0 ?_ ?_
  · intro f next h0 h1 hP hn hin
    try dsimp only
    obtain ⟨a1, a2, a3, a4⟩ := S.frm h0 h1
    obtain ⟨b1, b2, _, _⟩ := S.idn a1 a2
    obtain ⟨d1, d2, _, _⟩ := S.idn a3 a4
    have r1 := S.row _ b1 b2
    have r2 := S.row f h0 h1
    refine cnd_d (fun _ => ⟨h0, h1, by omega, by omega, by omega, by omega, h0, by omega, fun _ => by omega, fun _ => by omega, fun _ => by omega, fun _ => by omega, cnd_of (fun hx => resq _ _ _ _ ?_) (fun hx => ⟨by rw [inK64]; (try dsimp only); omega, hn ?_⟩)⟩) (fun h => absurd h1 h)
    · have : faultI c f = some (1, f, 0, 0) := by unfold faultI; rw [if_pos]; simpa using hx
      unfold faultR; rw [hP, scan_s h1 this]; rfl
    · have : faultI c f = none := by unfold faultI; rw [if_neg]; simpa using hx
      rw [hP, scan_c h1 this]
  intro next hI hin
  rw [scan_n] at hI
  refine cnd_d (fun h => absurd h (by dsimp only; omega)) (fun _ => ?_)
  have hF : faultR c = orR (scanR (faultF c) c.2.1.length 0) (0, 0, 0, 0) := by unfold faultR; rw [hI]; rfl
  refine loop_ix (n := c.2.1.length) (fun f => scanR (faultF c) c.2.1.length 0 = scanR (faultF c) ((c.2.1.length : Int) - f).toNat f) (by omega) scan_0 ?_ ?_
  · intro f next h0 h1 hP hn hin
    try dsimp only
    refine cnd_d (fun _ => ?_) (fun h => absurd h1 h)
    have r1 := S.row f h0 h1
    refine loop_ix (n := c.2.1.length) (fun g => faultF c f = scanR (faultG c f) ((c.2.1.length : Int) - g).toNat g) (by omega) scan_0 ?_ ?_
    · intro g next3 g0 g1 hP3 hn3 hin3
      try dsimp only
      refine cnd_d (fun _ => ?_) (fun h => absurd g1 h)
      have r2 := S.row g g0 g1
      refine join_of (fun _ => faultG c f g = none) (fun _ hG => ⟨by rw [inK64]; (try dsimp only); omega, hn3 (by rw [hP3, scan_c g1 hG])⟩) (fun k hk => ?_)
      have hk' := hk ((), ())
      refine ⟨by omega, by omega, by omega, by omega, cnd_of (fun hx => hk' ?_) (fun hx => ?_)⟩
      · unfold faultG; rw [if_neg]; simpa using hx
      have hfg : c.2.2.1.getD f.toNat 0 = c.2.1.getD g.toNat 0 := by rw [bne_eq_false_iff_eq] at hx; exact hx
      obtain ⟨y1, y2, _, _⟩ := S.yes h0 h1 g0 g1 hfg
      refine loop_ix (n := c.2.1.length) (fun h => faultG c f g = scanR (faultH c f g) ((c.2.1.length : Int) - h).toNat h) (by omega) (by unfold faultG; rw [if_pos hfg]; exact scan_0) ?_ ?_
      · intro h next4 i0 i1 hP4 hn4 hin4
        try dsimp only
        refine cnd_d (fun _ => ?_) (fun h => absurd i1 h)
        have r3 := S.row _ y1 y2
        have cgh := S.comp g0 g1 i0 i1
        have ygh := @ShapeP.yes c S g h g0 g1 i0 i1
        refine ⟨by omega, by omega, by omega, by omega, fun _ => by omega, fun _ => by omega, fun _ => by omega, fun _ => by omega, fun _ => by omega, fun _ => by omega, fun _ => by omega, fun he => ?_, cnd_of (fun hx => resq _ _ _ _ ?_) (fun hx => ⟨by rw [inK64]; (try dsimp only); omega, hn4 ?_⟩)⟩
        · have := ygh (by simpa only [beq_iff_eq] using he); omega
        · have : faultH c f g h = some (2, f, g, h) := by unfold faultH; rw [if_pos]; simpa using hx
          have e1 : faultG c f g = some (2, f, g, h) := by rw [hP4, scan_s i1 this]
          have e2 : faultF c f = some (2, f, g, h) := by rw [hP3, scan_s g1 e1]
          rw [hF, hP, scan_s h1 e2]; rfl
        · have : faultH c f g h = none := by unfold faultH; rw [if_neg]; simpa using hx
          rw [hP4, scan_c i1 this]
      · intro next4 hP4 hin4
        rw [scan_n] at hP4
        exact cnd_d (fun h => absurd h (by dsimp only; omega)) (fun _ => hk' hP4)
    · intro next3 hP3 hin3
      rw [scan_n] at hP3
      exact cnd_d (fun h => absurd h (by dsimp only; omega)) (fun _ => ⟨by rw [inK64]; (try dsimp only); omega, hn (by rw [hP, scan_c h1 hP3])⟩)
  · intro next2 hP2 hin2
    rw [scan_n] at hP2
    refine cnd_d (fun h => absurd h (by dsimp only; omega)) (fun _ => resq _ _ _ _ ?_)
    rw [hF, hP2]; rfl
theorem ct_spec_l02Fault : CtOk Try.prog 97 c_spec_l02Fault :=
  ct_by (Φ := lkp []) good_nil tab_ok (by kernel_rfl) (fn := Try.f97) (c := bodyOf Try.f97) (by kernel_rfl) (by kernel_rfl) (by kernel_rfl) c_spec_l02Fault rfl (.s .n (.s .n (.s (.s .n (.l [(7, (.d (.int .i64)))] [] [1, 6] .n)) (.s (.s .n (.l [(8, (.d (.int .i64)))] [] [1, 6] (.s .n (.s (.s .n (.l [(9, (.d (.int .i64)))] [] [1, 6, 8] (.s .n (.s (.j [] [] [1, 6, 8, 9] (.s .n (.s .n (.l [(10, (.d (.int .i64)))] [] [1, 6, 8, 9] .n)))) .n)))) .n)))) .n)))) (cutL [(17, 44), (5, 38), (13, 11)]) (by kernel_rfl) (by kernel_rfl) k_spec_l02Fault (by decide) (fun x K => W_spec_l02Fault x.1 K) w_spec_l02Fault (fun x h1 h2 => m_spec_l02Fault x.1 h1 h2)
def c_spec_l02Is : Ct := ⟨[CategoryT], [true], fun x => [], [(false, (.fz .bool))], fun x => (catR x.1, ()), false, none⟩
def W_spec_l02Is (c : CategoryD) (K : Bool × Unit → Prop) : Prop := (cnd (!(shapeR c)) (K (Bool.false, ())) ((ShapeP c) ∧ (K (((faultR c).1 == (0 : Int)), ()))))
theorem w_spec_l02Is (x : denL c_spec_l02Is.args) (K : Bool × Unit → Prop) : evF tab (lkp [(96, c_spec_IsShape), (97, c_spec_l02Fault)]) (cutL []) Try.f57 (bodyOf Try.f57) .n c_spec_l02Is x K = W_spec_l02Is x.1 K := by kernel_rfl
theorem k_spec_l02Is : okC Try.f57.ntmps (cutL []) (bodyOf Try.f57) = true := by kernel_rfl
theorem m_spec_l02Is (c : CategoryD) (hok : allP (okL c_spec_l02Is.args (c, ()))) (hpre : allP (c_spec_l02Is.pre (c, ()))) : W_spec_l02Is c (fun r => r = c_spec_l02Is.res (c, ())) := by
  simp only [c_spec_l02Is, okL, T.oks, T.ok, ap, allP, true_and, and_true, implies_true] at hok hpre
  try dsimp only [T.den] at hok
  try dsimp only [T.den] at hpre
  unfold W_spec_l02Is
  simp only [c_spec_l02Is, catR]
  have := @shape_iff c
  grind [cnd, nb_eq, inK64]
theorem ct_spec_l02Is : CtOk Try.prog 57 c_spec_l02Is :=
  ct_by (Φ := lkp [(96, c_spec_IsShape), (97, c_spec_l02Fault)]) (good_cons ct_spec_IsShape (good_cons ct_spec_l02Fault good_nil)) tab_ok (by kernel_rfl) (fn := Try.f57) (c := bodyOf Try.f57) (by kernel_rfl) (by kernel_rfl) (by kernel_rfl) c_spec_l02Is rfl .n (cutL []) (by kernel_rfl) (by kernel_rfl) k_spec_l02Is (by decide) (fun x K => W_spec_l02Is x.1 K) w_spec_l02Is (fun x h1 h2 => m_spec_l02Is x.1 h1 h2)
def c_spec_l02Then : Ct := ⟨[CategoryT, (.int .i64), (.int .i64)], [true, false, false], fun x => [0 ≤ x.2.1, x.2.1 < x.1.2.2.2.2.length, 0 ≤ x.2.2.1, x.2.2.1 < (x.1.2.2.2.2.getD x.2.1.toNat []).length], [(false, (.fz (.int .i64)))], fun x => (compR x.1 x.2.1 x.2.2.1, ()), false, none⟩
def W_spec_l02Then (c : CategoryD) (f : Int) (g : Int) (K : Int × Unit → Prop) : Prop := (((0 : Int) ≤ f) ∧ ((f < (((List.length c.2.2.2.2) : Nat) : Int)) ∧ (((0 : Int) ≤ g) ∧ ((g < (((List.length (List.getD c.2.2.2.2 (Int.toNat f) ([] : List Int))) : Nat) : Int)) ∧ (K ((List.getD (List.getD c.2.2.2.2 (Int.toNat f) ([] : List Int)) (Int.toNat g) (0 : Int)), ()))))))
theorem w_spec_l02Then (x : denL c_spec_l02Then.args) (K : Int × Unit → Prop) : evF tab (lkp []) (cutL []) Try.f82 (bodyOf Try.f82) .n c_spec_l02Then x K = W_spec_l02Then x.1 x.2.1 x.2.2.1 K := by kernel_rfl
theorem k_spec_l02Then : okC Try.f82.ntmps (cutL []) (bodyOf Try.f82) = true := by kernel_rfl
theorem m_spec_l02Then (c : CategoryD) (f : Int) (g : Int) (hok : allP (okL c_spec_l02Then.args (c, f, g, ()))) (hpre : allP (c_spec_l02Then.pre (c, f, g, ()))) : W_spec_l02Then c f g (fun r => r = c_spec_l02Then.res (c, f, g, ())) := by
  simp only [c_spec_l02Then, okL, T.oks, T.ok, ap, allP, true_and, and_true, implies_true] at hok hpre
  try dsimp only [T.den] at hok
  try dsimp only [T.den] at hpre
  unfold W_spec_l02Then
  exact ⟨hpre.1, hpre.2.1, hpre.2.2.1, hpre.2.2.2, rfl⟩
theorem ct_spec_l02Then : CtOk Try.prog 82 c_spec_l02Then :=
  ct_by (Φ := lkp []) good_nil tab_ok (by kernel_rfl) (fn := Try.f82) (c := bodyOf Try.f82) (by kernel_rfl) (by kernel_rfl) (by kernel_rfl) c_spec_l02Then rfl .n (cutL []) (by kernel_rfl) (by kernel_rfl) k_spec_l02Then (by decide) (fun x K => W_spec_l02Then x.1 x.2.1 x.2.2.1 K) w_spec_l02Then (fun x h1 h2 => m_spec_l02Then x.1 x.2.1 x.2.2.1 h1 h2)
def c_spec_l25Close : Ct := ⟨[CategoryT, (.sl (.int .i64))], [true, false], fun x => [ShapeP x.1, withinR x.2.1 x.1.2.1.length = true], [(false, (.sl (.fz (.int .i64))))], fun x => (closeR x.1 x.2.1, ()), false, none⟩
def W_spec_l25Close (c : CategoryD) (arrows : List Int) (K : (List Int) × Unit → Prop) : Prop := (((0 : Int) ≤ (((List.length c.2.1) : Nat) : Int)) ∧ (((((List.length c.2.1) : Nat) : Int) ≤ (((List.length c.2.1) : Nat) : Int)) ∧ (((((List.length c.2.1) : Nat) : Int) ≤ ((140737488355328 : Nat) : Int)) ∧ ((((((List.length c.2.1) : Nat) : Int) * ((1 : Nat) : Int)) ≤ ((140737488355328 : Nat) : Int)) ∧ (loopW (S := ((Unit × (Int × Unit)) × ((List Bool) × Unit))) (fun s => (fun next => ((inK IntKind.i64 s.1.2.1) → ((T.ok (T.sl T.bool) s.2.1) → (cnd (decide (s.1.2.1 < (((List.length arrows) : Nat) : Int))) (loopW (S := ((Unit × (Int × Unit)) × ((List Bool) × Unit))) (fun s1 => (fun next1 => ((inK IntKind.i64 s1.1.2.1) → ((T.ok (T.sl T.bool) s1.2.1) → (cnd (decide (s1.1.2.1 < (((List.length c.2.1) : Nat) : Int))) (((0 : Int) ≤ s.1.2.1) ∧ ((s.1.2.1 < (((List.length arrows) : Nat) : Int)) ∧ (((0 : Int) ≤ (List.getD arrows (Int.toNat s.1.2.1) (0 : Int))) ∧ (((List.getD arrows (Int.toNat s.1.2.1) (0 : Int)) < (((List.length c.2.2.1) : Nat) : Int)) ∧ (((0 : Int) ≤ s1.1.2.1) ∧ ((s1.1.2.1 < (((List.length c.2.1) : Nat) : Int)) ∧ (joinW (S := ((Unit × Unit) × ((List Bool) × Unit))) (fun s2 => ((T.ok (T.sl T.bool) s2.2.1) → ((inK IntKind.i64 (s1.1.2.1 + (1 : Int))) ∧ (next1 (((), ((s1.1.2.1 + (1 : Int)), ())), (s2.2.1, ())))))) (fun k => (cnd ((List.getD c.2.2.1 (Int.toNat (List.getD arrows (Int.toNat s.1.2.1) (0 : Int))) (0 : Int)) == (List.getD c.2.1 (Int.toNat s1.1.2.1) (0 : Int))) (((0 : Int) ≤ s.1.2.1) ∧ ((s.1.2.1 < (((List.length arrows) : Nat) : Int)) ∧ (((0 : Int) ≤ (List.getD arrows (Int.toNat s.1.2.1) (0 : Int))) ∧ (((List.getD arrows (Int.toNat s.1.2.1) (0 : Int)) < (((List.length c.2.2.2.2) : Nat) : Int)) ∧ (((0 : Int) ≤ s1.1.2.1) ∧ ((s1.1.2.1 < (((List.length (List.getD c.2.2.2.2 (Int.toNat (List.getD arrows (Int.toNat s.1.2.1) (0 : Int))) ([] : List Int))) : Nat) : Int)) ∧ (((0 : Int) ≤ (compR c (List.getD arrows (Int.toNat s.1.2.1) (0 : Int)) s1.1.2.1)) ∧ (((compR c (List.getD arrows (Int.toNat s.1.2.1) (0 : Int)) s1.1.2.1) < (((List.length s1.2.1) : Nat) : Int)) ∧ (k (((), ()), ((List.set s1.2.1 (Int.toNat (compR c (List.getD arrows (Int.toNat s.1.2.1) (0 : Int)) s1.1.2.1)) Bool.true), ()))))))))))) (k (((), ()), (s1.2.1, ())))))))))))) ((inK IntKind.i64 (s.1.2.1 + (1 : Int))) ∧ (next (((), ((s.1.2.1 + (1 : Int)), ())), (s1.2.1, ()))))))))) (((), ((0 : Int), ())), (s.2.1, ()))) (loopW (S := ((Unit × (Int × Unit)) × ((List Int) × Unit))) (fun s1 => (fun next1 => ((inK IntKind.i64 s1.1.2.1) → ((T.ok (T.sl (T.int IntKind.i64)) s1.2.1) → (cnd (decide (s1.1.2.1 < (((List.length s.2.1) : Nat) : Int))) (((0 : Int) ≤ s1.1.2.1) ∧ ((s1.1.2.1 < (((List.length s.2.1) : Nat) : Int)) ∧ (joinW (S := ((Unit × Unit) × ((List Int) × Unit))) (fun s2 => ((T.ok (T.sl (T.int IntKind.i64)) s2.2.1) → ((inK IntKind.i64 (s1.1.2.1 + (1 : Int))) ∧ (next1 (((), ((s1.1.2.1 + (1 : Int)), ())), (s2.2.1, ())))))) (fun k => (cnd (List.getD s.2.1 (Int.toNat s1.1.2.1) Bool.false) ((room (List.length s1.2.1) (List.length (s1.1.2.1 :: ([] : List Int))) 8) ∧ (k (((), ()), ((s1.2.1 ++ (s1.1.2.1 :: ([] : List Int))), ())))) (k (((), ()), (s1.2.1, ())))))))) (K (s1.2.1, ()))))))) (((), ((0 : Int), ())), (([] : List Int), ())))))))) (((), ((0 : Int), ())), ((List.replicate (Int.toNat (((List.length c.2.1) : Nat) : Int)) Bool.false), ())))))))
theorem w_spec_l25Close (x : denL c_spec_l25Close.args) (K : (List Int) × Unit → Prop) : evF tab (lkp [(82, c_spec_l02Then)]) (cutL [(8, 14), (9, 9)]) Try.f58 (bodyOf Try.f58) (.s .n (.s .n (.s (.s .n (.l [(5, (.ref 13 [])), (6, (.d (.int .i64)))] [(13, (.sl (.fz .bool)))] [1, 2] (.s .n (.s (.s .n (.l [(5, (.ref 13 [])), (7, (.d (.int .i64)))] [(13, (.sl (.fz .bool)))] [1, 2, 6] (.s .n (.s (.s .n (.j [(5, (.ref 13 []))] [(13, (.sl (.fz .bool)))] [1, 2, 6, 7] .n)) .n)))) .n)))) (.s .n (.s (.s .n (.l [(8, (.ref 800008 [])), (9, (.d (.int .i64)))] [(800008, (.sl (.fz (.int .i64))))] [5] (.s .n (.s (.s .n (.j [(8, (.ref 800008 []))] [(800008, (.sl (.fz (.int .i64))))] [5, 9] .n)) .n)))) .n))))) c_spec_l25Close x K = W_spec_l25Close x.1 x.2.1 K := by kernel_rfl
theorem k_spec_l25Close : okC Try.f58.ntmps (cutL [(8, 14), (9, 9)]) (bodyOf Try.f58) = true := by kernel_rfl
theorem m_spec_l25Close (c : CategoryD) (arrows : List Int) (hok : allP (okL c_spec_l25Close.args (c, arrows, ()))) (hpre : allP (c_spec_l25Close.pre (c, arrows, ()))) : W_spec_l25Close c arrows (fun r => r = c_spec_l25Close.res (c, arrows, ())) := by
  simp only [c_spec_l25Close, okL, T.oks, T.ok, ap, allP, true_and, and_true, implies_true] at hok hpre
  try dsimp only [T.den] at hok
  try dsimp only [T.den] at hpre
  unfold W_spec_l25Close
  obtain ⟨S, hw⟩ := hpre
  have hlt := S.lt
  have hlc := S.lc
  have hmm := S.m
  have hal : arrows.length ≤ 140737488355328 := by simp only [nb_eq] at hok; omega
  rw [within_iff] at hw
  have hcr : ∀ a b : Int, (c.2.2.2.2.getD a.toNat []).getD b.toNat 0 = compR c a b := fun _ _ => rfl
  simp only [hcr]
  have hq : ∀ a y : Int, ((outR c (c.2.2.1.getD a.toNat 0)).any fun b => compR c a b == y) = anyB c.2.1.length fun b => c.2.1.getD b.toNat 0 == c.2.2.1.getD a.toNat 0 && compR c a b == y := fun a y => by unfold outR; exact any_sel
  refine ⟨by omega, by omega, by omega, by omega, ?_⟩
  rw [tab_rep, Int.toNat_natCast]
  refine loop_ixa (fun i => tabN c.2.1.length fun y => (arrows.take i.toNat).any fun a => anyB c.2.1.length fun b => c.2.1.getD b.toNat 0 == c.2.2.1.getD a.toNat 0 && compR c a b == y) (n := arrows.length) (by omega) (tabN_congr fun _ _ _ => rfl) ?_ ?_
  · intro i next i0 i1 hn _ _
    try dsimp only
    refine cnd_d (fun _ => ?_) (fun h => absurd i1 h)
    obtain ⟨a0, a1⟩ := hw i i0 i1
    have hrow := S.row _ a0 a1
    have hat := fun p => @any_take Int p arrows 0 i i0 i1
    simp only [hat] at hn
    generalize arrows.getD i.toNat 0 = a at *
    refine loop_ixa (fun j => tabN c.2.1.length fun y => (arrows.take i.toNat).any (fun a => anyB c.2.1.length fun b => c.2.1.getD b.toNat 0 == c.2.2.1.getD a.toNat 0 && compR c a b == y) || anyB j.toNat fun b => c.2.1.getD b.toNat 0 == c.2.2.1.getD a.toNat 0 && compR c a b == y) (n := c.2.1.length) (by omega) (tabN_congr fun _ _ _ => by simp [anyB]) ?_ ?_
    · intro j next2 j0 j1 hn2 _ _
      try dsimp only
      simp only [anyB_s j0] at hn2
      refine cnd_d (fun _ => ⟨i0, i1, a0, by omega, j0, j1, join_of (fun s => s.2.1 = tabN c.2.1.length fun y => (arrows.take i.toNat).any (fun a => anyB c.2.1.length fun b => c.2.1.getD b.toNat 0 == c.2.2.1.getD a.toNat 0 && compR c a b == y) || (anyB j.toNat (fun b => c.2.1.getD b.toNat 0 == c.2.2.1.getD a.toNat 0 && compR c a b == y) || (c.2.1.getD j.toNat 0 == c.2.2.1.getD a.toNat 0 && compR c a j == y))) (fun s hs _ => ⟨by rw [inK64]; (try dsimp only); omega, by rw [hs]; exact hn2⟩) (fun k hk => cnd_of (fun he => ?_) (fun he => hk _ ?_))⟩) (fun h => absurd j1 h)
      · rw [beq_iff_eq] at he
        obtain ⟨y0, y1, _, _⟩ := S.yes a0 a1 j0 j1 he
        rw [tabN_len]
        refine ⟨i0, i1, a0, by omega, j0, by omega, y0, y1, hk _ ?_⟩
        try dsimp only
        rw [tab_mark y0 y1]
        refine tabN_congr fun y _ _ => ?_
        rw [he, beq_self_eq_true, Bool.true_and, Bool.or_assoc]
      · refine tabN_congr fun y _ _ => ?_
        have : (c.2.1.getD j.toNat 0 == c.2.2.1.getD a.toNat 0) = false := by rw [beq_eq_false_iff_ne] at he ⊢; exact Ne.symm he
        rw [this, Bool.false_and, Bool.or_false]
    · intro next2 _ _
      refine cnd_d (fun h => absurd h (by dsimp only; omega)) (fun _ => ⟨by rw [inK64]; (try dsimp only); omega, ?_⟩)
      simpa only [Int.toNat_natCast] using hn
  · intro next _ _
    refine cnd_d (fun h => absurd h (by dsimp only; omega)) (fun _ => ?_)
    simp only [take_n _ (Int.le_refl (arrows.length : Int))]
    generalize hf : (fun y => arrows.any fun a => anyB c.2.1.length fun b => c.2.1.getD b.toNat 0 == c.2.2.1.getD a.toNat 0 && compR c a b == y) = f
    have hres : selR c.2.1.length f = closeR c arrows := by unfold closeR; simp only [hq, hf]
    refine loop_ixa (fun i => selR i.toNat f) (n := c.2.1.length) (by omega) rfl ?_ ?_
    · intro i next2 i0 i1 hn2 _ _
      have hsl := sel_len (p := f) i.toNat
      try dsimp only
      rw [tabN_len, tabN_get i0 i1]
      refine cnd_d (fun _ => ⟨i0, i1, join_of (fun s => s.2.1 = selR (i + 1).toNat f) (fun s hs _ => ⟨by rw [inK64]; (try dsimp only); omega, by rw [hs]; exact hn2⟩) (fun k hk => cnd_of (fun he => ⟨room_of (by simp only [List.length_cons, List.length_nil]; omega), hk _ (sel_t i0 he).symm⟩) (fun he => hk _ (sel_f i0 he).symm))⟩) (fun h => absurd i1 h)
    · intro next2 _ _
      rw [tabN_len]
      refine cnd_d (fun h => absurd h (by dsimp only; omega)) (fun _ => ?_)
      simp only [c_spec_l25Close, Int.toNat_natCast, hres]
theorem ct_spec_l25Close : CtOk Try.prog 58 c_spec_l25Close :=
  ct_by (Φ := lkp [(82, c_spec_l02Then)]) (good_cons ct_spec_l02Then good_nil) tab_ok (by kernel_rfl) (fn := Try.f58) (c := bodyOf Try.f58) (by kernel_rfl) (by kernel_rfl) (by kernel_rfl) c_spec_l25Close rfl (.s .n (.s .n (.s (.s .n (.l [(5, (.ref 13 [])), (6, (.d (.int .i64)))] [(13, (.sl (.fz .bool)))] [1, 2] (.s .n (.s (.s .n (.l [(5, (.ref 13 [])), (7, (.d (.int .i64)))] [(13, (.sl (.fz .bool)))] [1, 2, 6] (.s .n (.s (.s .n (.j [(5, (.ref 13 []))] [(13, (.sl (.fz .bool)))] [1, 2, 6, 7] .n)) .n)))) .n)))) (.s .n (.s (.s .n (.l [(8, (.ref 800008 [])), (9, (.d (.int .i64)))] [(800008, (.sl (.fz (.int .i64))))] [5] (.s .n (.s (.s .n (.j [(8, (.ref 800008 []))] [(800008, (.sl (.fz (.int .i64))))] [5, 9] .n)) .n)))) .n))))) (cutL [(8, 14), (9, 9)]) (by kernel_rfl) (by kernel_rfl) k_spec_l25Close (by decide) (fun x K => W_spec_l25Close x.1 x.2.1 K) w_spec_l25Close (fun x h1 h2 => m_spec_l25Close x.1 x.2.1 h1 h2)
def c_spec_l25Out : Ct := ⟨[CategoryT, (.int .i64)], [true, false], fun x => [x.1.2.1.length ≤ 40], [(false, (.sl (.fz (.int .i64))))], fun x => (outR x.1 x.2.1, ()), false, none⟩
def W_spec_l25Out (c : CategoryD) (x : Int) (K : (List Int) × Unit → Prop) : Prop := (loopW (S := ((Unit × (Int × Unit)) × ((List Int) × Unit))) (fun s => (fun next => ((inK IntKind.i64 s.1.2.1) → ((T.ok (T.sl (T.int IntKind.i64)) s.2.1) → (cnd (decide (s.1.2.1 < (((List.length c.2.1) : Nat) : Int))) (((0 : Int) ≤ s.1.2.1) ∧ ((s.1.2.1 < (((List.length c.2.1) : Nat) : Int)) ∧ (joinW (S := ((Unit × Unit) × ((List Int) × Unit))) (fun s1 => ((T.ok (T.sl (T.int IntKind.i64)) s1.2.1) → ((inK IntKind.i64 (s.1.2.1 + (1 : Int))) ∧ (next (((), ((s.1.2.1 + (1 : Int)), ())), (s1.2.1, ())))))) (fun k => (cnd ((List.getD c.2.1 (Int.toNat s.1.2.1) (0 : Int)) == x) ((room (List.length s.2.1) (List.length (s.1.2.1 :: ([] : List Int))) 8) ∧ (k (((), ()), ((s.2.1 ++ (s.1.2.1 :: ([] : List Int))), ())))) (k (((), ()), (s.2.1, ())))))))) (K (s.2.1, ()))))))) (((), ((0 : Int), ())), (([] : List Int), ())))
theorem w_spec_l25Out (x : denL c_spec_l25Out.args) (K : (List Int) × Unit → Prop) : evF tab (lkp []) (cutL []) Try.f59 (bodyOf Try.f59) (.s .n (.s .n (.s (.s .n (.l [(5, (.ref 800005 [])), (6, (.d (.int .i64)))] [(800005, (.sl (.fz (.int .i64))))] [1, 2] (.s .n (.s (.s .n (.j [(5, (.ref 800005 []))] [(800005, (.sl (.fz (.int .i64))))] [1, 2, 6] .n)) .n)))) .n))) c_spec_l25Out x K = W_spec_l25Out x.1 x.2.1 K := by kernel_rfl
theorem k_spec_l25Out : okC Try.f59.ntmps (cutL []) (bodyOf Try.f59) = true := by kernel_rfl
theorem m_spec_l25Out (c : CategoryD) (x : Int) (hok : allP (okL c_spec_l25Out.args (c, x, ()))) (hpre : allP (c_spec_l25Out.pre (c, x, ()))) : W_spec_l25Out c x (fun r => r = c_spec_l25Out.res (c, x, ())) := by
  simp only [c_spec_l25Out, okL, T.oks, T.ok, ap, allP, true_and, and_true, implies_true] at hok hpre
  try dsimp only [T.den] at hok
  try dsimp only [T.den] at hpre
  unfold W_spec_l25Out
  have hm : c.2.1.length ≤ 40 := hpre
  refine loop_sel c.2.1.length (fun f => c.2.1.getD f.toNat 0 == x) ?_ ?_
  · intro i out next i0 i1 hn hl _ _
    try dsimp only at hn ⊢
    refine cnd_d (fun _ => ⟨i0, i1, join_add (if (c.2.1.getD i.toNat 0 == x) = true then out ++ [i] else out) (fun s hs _ => ⟨by rw [inK64]; (try dsimp only); omega, hn _ hs⟩) (fun k hk => cnd_of (fun hx => ⟨room_of (by simp only [List.length_cons, List.length_nil]; omega), hk _ (by rw [if_pos hx])⟩) (fun hx => hk _ (by rw [if_neg (by rw [hx]; simp)])))⟩) (fun h => absurd i1 h)
  · intro next _ _
    refine cnd_d (fun h => absurd h (Int.lt_irrefl _)) (fun _ => ?_)
    simp only [c_spec_l25Out, outR]
theorem ct_spec_l25Out : CtOk Try.prog 59 c_spec_l25Out :=
  ct_by (Φ := lkp []) good_nil tab_ok (by kernel_rfl) (fn := Try.f59) (c := bodyOf Try.f59) (by kernel_rfl) (by kernel_rfl) (by kernel_rfl) c_spec_l25Out rfl (.s .n (.s .n (.s (.s .n (.l [(5, (.ref 800005 [])), (6, (.d (.int .i64)))] [(800005, (.sl (.fz (.int .i64))))] [1, 2] (.s .n (.s (.s .n (.j [(5, (.ref 800005 []))] [(800005, (.sl (.fz (.int .i64))))] [1, 2, 6] .n)) .n)))) .n))) (cutL []) (by kernel_rfl) (by kernel_rfl) k_spec_l25Out (by decide) (fun x K => W_spec_l25Out x.1 x.2.1 K) w_spec_l25Out (fun x h1 h2 => m_spec_l25Out x.1 x.2.1 h1 h2)
theorem cat_idl2 {c : CategoryD} (hc : catR c = true) {h : Int} (h0 : 0 ≤ h) (h1 : h < c.2.1.length) : compR c (c.2.2.2.1.getD (c.2.1.getD h.toNat 0).toNat 0) h = h := by
  simp only [catR, Bool.and_eq_true, beq_iff_eq] at hc
  have h2 := hc.2
  unfold faultR at h2
  cases h3 : scanR (faultI c) c.2.1.length 0 with
  | some v =>
    obtain ⟨j, hj⟩ := scan_some h3
    unfold faultI at hj
    split at hj
    · cases hj; rw [h3] at h2; simp [orR] at h2
    · cases hj
  | none =>
    have a1 := scan_none h3 h h0 (by omega)
    unfold faultI at a1
    split at a1
    · cases a1
    · rename_i h4
      exact Decidable.byContradiction fun e => h4 (.inl e)
theorem sel_le {p q : Int → Bool} : ∀ {n : Nat}, (∀ i : Int, 0 ≤ i → i < n → p i = true → q i = true) → (selR n p).length ≤ (selR n q).length ∧ ((selR n p).length = (selR n q).length → ∀ i : Int, 0 ≤ i → i < n → q i = true → p i = true)
  | 0, _ => ⟨Nat.le_refl _, fun _ i i0 i1 => by omega⟩
  | n + 1, h => by
    obtain ⟨h1, h2⟩ := @sel_le p q n fun i i0 i1 => h i i0 (by omega)
    have hn := h n (by omega) (by omega)
    unfold selR
    cases hp : p n with
    | true =>
      rw [hp] at hn
      rw [hn rfl]
      simp only [if_true, List.length_append, List.length_cons, List.length_nil]
      refine ⟨by omega, fun e i i0 i1 hq => ?_⟩
      by_cases hi : i = n
      · rw [hi]; exact hp
      · exact h2 (by omega) i i0 (by omega) hq
    | false =>
      cases hq : q n with
      | true =>
        simp only [if_true, Bool.false_eq_true, if_false, List.length_append, List.length_cons, List.length_nil]
        exact ⟨by omega, fun e => by omega⟩
      | false =>
        simp only [Bool.false_eq_true, if_false]
        refine ⟨h1, fun e i i0 i1 hq2 => ?_⟩
        by_cases hi : i = n
        · rw [hi, hq] at hq2; cases hq2
        · exact h2 e i i0 (by omega) hq2
theorem close_iff {c : CategoryD} {a y : Int} : ([a].any fun a => (outR c (c.2.2.1.getD a.toNat 0)).any fun b => compR c a b == y) = true ↔ ∃ b ∈ outR c (c.2.2.1.getD a.toNat 0), compR c a b = y := by
  simp only [List.any_cons, List.any_nil, Bool.or_false, List.any_eq_true, beq_iff_eq]
theorem outm_2 {c : CategoryD} {x g : Int} : g ∈ outR c x ↔ 0 ≤ g ∧ g < c.2.1.length ∧ c.2.1.getD g.toNat 0 = x := by
  unfold outR; rw [sel_mem, beq_iff_eq]
/-- as many arrows as there are: all, if the identity is one -/
theorem two_eq {c : CategoryD} (hc : catR c = true) {a : Int} (a0 : 0 ≤ a) (a1 : a < c.2.1.length) : two1R c a = true ↔ (closeR c [a]).length = (outR c (c.2.1.getD a.toNat 0)).length := by
  have S := cat_shape hc
  have hfr := S.frm a0 a1
  obtain ⟨i0, i1, i2, _⟩ := S.idn hfr.1 hfr.2.1
  have key := @sel_le (fun y => [a].any fun a => (outR c (c.2.2.1.getD a.toNat 0)).any fun b => compR c a b == y) (fun f => c.2.1.getD f.toNat 0 == c.2.1.getD a.toNat 0) c.2.1.length fun y _ _ hy => by
    obtain ⟨b, hb, rfl⟩ := close_iff.1 hy
    obtain ⟨b0, b1, b2⟩ := outm_2.1 hb
    have := S.yes a0 a1 b0 b1 b2.symm
    rw [beq_iff_eq]; exact this.2.2.1
  have hid : two1R c a = true ↔ ∃ b ∈ outR c (c.2.2.1.getD a.toNat 0), compR c a b = c.2.2.2.1.getD (c.2.1.getD a.toNat 0).toNat 0 := by
    unfold two1R hasR
    rw [List.any_eq_true]
    constructor
    · rintro ⟨x, hx, e⟩
      rw [beq_iff_eq] at e
      subst e
      unfold closeR at hx
      exact close_iff.1 (sel_mem.1 hx).2.2
    · intro h
      exact ⟨_, sel_mem.2 ⟨i0, i1, close_iff.2 h⟩, by simp⟩
  rw [hid]
  constructor
  · rintro ⟨b, hb, e⟩
    obtain ⟨b0, b1, b2⟩ := outm_2.1 hb
    have hcl : closeR c [a] = outR c (c.2.1.getD a.toNat 0) := by
      unfold closeR
      refine sel_congr (q := fun f => c.2.1.getD f.toNat 0 == c.2.1.getD a.toNat 0) fun y y0 y1 => ?_
      rw [Bool.eq_iff_iff, close_iff, beq_iff_eq]
      constructor
      · rintro ⟨d, hd, rfl⟩
        obtain ⟨d0, d1, d2⟩ := outm_2.1 hd
        exact (S.yes a0 a1 d0 d1 d2.symm).2.2.1
      · intro hy
        have hi := cat_idl2 hc y0 y1
        rw [hy, ← e] at hi
        have hab := S.yes a0 a1 b0 b1 b2.symm
        have hbt : c.2.2.1.getD b.toNat 0 = c.2.1.getD y.toNat 0 := by
          rw [← hab.2.2.2, e, hy]; exact (S.idn hfr.1 hfr.2.1).2.2.2
        have hby := S.yes b0 b1 y0 y1 hbt
        refine ⟨compR c b y, outm_2.2 ⟨hby.1, hby.2.1, hby.2.2.1.trans b2⟩, ?_⟩
        rw [← cat_assoc hc a0 a1 b0 b1 y0 y1 b2.symm hbt]
        exact hi
    rw [hcl]
  · intro h
    exact close_iff.1 (key.2 h _ i0 i1 (by rw [beq_iff_eq]; exact i2))

def c_spec_IsTwoValued : Ct := ⟨[CategoryT], [true], fun x => [], [(false, (.fz .bool)), (false, (.fz (.int .i64)))], fun x => ((catR x.1 && twoR x.1), twoCodeR x.1, ()), false, none⟩
def W_spec_IsTwoValued (c : CategoryD) (K : Bool × Int × Unit → Prop) : Prop := (cnd (!(catR c)) (K (Bool.false, ((1 : Int), ()))) (loopW (S := ((Int × Unit) × Unit)) (fun s => (fun next => ((inK IntKind.i64 s.1.1) → (cnd (decide (s.1.1 < (((List.length c.2.1) : Nat) : Int))) ((ShapeP c) ∧ (((withinR (s.1.1 :: ([] : List Int)) (((List.length c.2.1) : Nat) : Int)) = Bool.true) ∧ (((0 : Int) ≤ s.1.1) ∧ ((s.1.1 < (((List.length c.2.1) : Nat) : Int)) ∧ (((List.length c.2.1) ≤ 40) ∧ (cnd ((((List.length (closeR c (s.1.1 :: ([] : List Int)))) : Nat) : Int) != (((List.length (outR c (List.getD c.2.1 (Int.toNat s.1.1) (0 : Int)))) : Nat) : Int)) (K (Bool.false, ((0 : Int), ()))) ((inK IntKind.i64 (s.1.1 + (1 : Int))) ∧ (next (((s.1.1 + (1 : Int)), ()), ()))))))))) (K (Bool.true, ((0 : Int), ()))))))) (((0 : Int), ()), ())))
theorem w_spec_IsTwoValued (x : denL c_spec_IsTwoValued.args) (K : Bool × Int × Unit → Prop) : evF tab (lkp [(57, c_spec_l02Is), (58, c_spec_l25Close), (59, c_spec_l25Out)]) (cutL [(6, 13)]) Try.f26 (bodyOf Try.f26) (.s .n (.s .n (.s (.s .n (.l [(4, (.d (.int .i64)))] [] [1] .n)) .n))) c_spec_IsTwoValued x K = W_spec_IsTwoValued x.1 K := by kernel_rfl
theorem k_spec_IsTwoValued : okC Try.f26.ntmps (cutL [(6, 13)]) (bodyOf Try.f26) = true := by kernel_rfl
theorem m_spec_IsTwoValued (c : CategoryD) (hok : allP (okL c_spec_IsTwoValued.args (c, ()))) (hpre : allP (c_spec_IsTwoValued.pre (c, ()))) : W_spec_IsTwoValued c (fun r => r = c_spec_IsTwoValued.res (c, ())) := by
  simp only [c_spec_IsTwoValued, okL, T.oks, T.ok, ap, allP, true_and, and_true, implies_true] at hok hpre
  try dsimp only [T.den] at hok
  try dsimp only [T.den] at hpre
  unfold W_spec_IsTwoValued
  refine cnd_of (fun hx => ?_) (fun hx => ?_)
  · have h : catR c = false := by simpa using hx
    simp only [c_spec_IsTwoValued, twoCodeR, h, Bool.false_and, Bool.false_eq_true, if_false]
  · have h : catR c = true := by simpa using hx
    have S := cat_shape h
    have hm := S.m
    have hli := S.li
    refine loop_ix (n := c.2.1.length) (fun i => allB i.toNat (two1R c) = true) (by omega) rfl ?_ ?_
    · intro a next a0 a1 hP hn _
      try dsimp only at hn ⊢
      have hfr := S.frm a0 a1
      have hgood : two1R c a = true → allB (a + 1).toNat (two1R c) = true := fun h => by rw [allB_s a0, hP, h]; rfl
      have ht := two_eq h a0 a1
      refine cnd_d (fun _ => ⟨S, with_1 a0 a1, a0, a1, hm, cnd_of (fun hb => ?_) (fun hb => ⟨by rw [inK64]; (try dsimp only); omega, hn (hgood (ht.2 ?_))⟩)⟩) (fun h => absurd a1 h)
      · have hb2 : two1R c a = false := by
          rw [Bool.eq_false_iff, Ne, ht]
          intro e
          rw [e] at hb
          simp at hb
        have : twoR c = false := by
          cases hq : twoR c with
          | false => rfl
          | true => rw [twoR, allB_iff] at hq; have := hq a a0 (by omega); rw [hb2] at this; cases this
        simp only [c_spec_IsTwoValued, twoCodeR, h, this, Bool.and_false, if_true]
      · have hb : ((closeR c [a]).length : Int) = (outR c (c.2.1.getD a.toNat 0)).length := by simpa using hb
        omega
    · intro next hP _
      refine cnd_d (fun h => absurd h (Int.lt_irrefl _)) (fun _ => ?_)
      have : twoR c = true := hP
      simp only [c_spec_IsTwoValued, twoCodeR, h, this, Bool.and_self, if_true]
theorem ct_spec_IsTwoValued : CtOk Try.prog 26 c_spec_IsTwoValued :=
  ct_by (Φ := lkp [(57, c_spec_l02Is), (58, c_spec_l25Close), (59, c_spec_l25Out)]) (good_cons ct_spec_l02Is (good_cons ct_spec_l25Close (good_cons ct_spec_l25Out good_nil))) tab_ok (by kernel_rfl) (fn := Try.f26) (c := bodyOf Try.f26) (by kernel_rfl) (by kernel_rfl) (by kernel_rfl) c_spec_IsTwoValued rfl (.s .n (.s .n (.s (.s .n (.l [(4, (.d (.int .i64)))] [] [1] .n)) .n))) (cutL [(6, 13)]) (by kernel_rfl) (by kernel_rfl) k_spec_IsTwoValued (by decide) (fun x K => W_spec_IsTwoValued x.1 K) w_spec_IsTwoValued (fun x h1 h2 => m_spec_IsTwoValued x.1 h1 h2)
def c_laws_FnExactIsTwoValued : Ct := ⟨[CategoryT], [true], fun x => [], [(false, (.fz .bool))], fun x => (true, ()), false, none⟩
def W_laws_FnExactIsTwoValued (aC : CategoryD) (K : Bool × Unit → Prop) : Prop := (((-(4611404543450677248 : Int)) ≤ (1048576 : Int)) ∧ (cnd (decide ((szR (wR CategoryT aC) (1048576 : Int)) < (0 : Int))) (K (Bool.true, ())) (((wR CategoryT aC) ≤ 1099511627776) ∧ (((wR CategoryT aC) ≤ 1099511627776) ∧ (cnd ((((catR aC) && (twoR aC)) != ((catR aC) && (twoR aC))) || ((twoCodeR aC) != (twoCodeR aC))) (K (Bool.false, ())) (((wR CategoryT aC) ≤ 1099511627776) ∧ (cnd (!(eqR CategoryT aC aC)) (K (Bool.false, ())) (K (Bool.true, ())))))))))
theorem w_laws_FnExactIsTwoValued (x : denL c_laws_FnExactIsTwoValued.args) (K : Bool × Unit → Prop) : evF tab (lkp [(27, c_impl_IsTwoValued), (23, c_laws_eqCategory), (19, c_laws_szCategory), (21, c_laws_toCategory), (26, c_spec_IsTwoValued)]) (cutL [(10, 503)]) Try.f6 (bodyOf Try.f6) .n c_laws_FnExactIsTwoValued x K = W_laws_FnExactIsTwoValued x.1 K := by kernel_rfl
theorem k_laws_FnExactIsTwoValued : okC Try.f6.ntmps (cutL [(10, 503)]) (bodyOf Try.f6) = true := by kernel_rfl
theorem m_laws_FnExactIsTwoValued (aC : CategoryD) (hok : allP (okL c_laws_FnExactIsTwoValued.args (aC, ()))) (hpre : allP (c_laws_FnExactIsTwoValued.pre (aC, ()))) : W_laws_FnExactIsTwoValued aC (fun r => r = c_laws_FnExactIsTwoValued.res (aC, ())) := by
  simp only [c_laws_FnExactIsTwoValued, okL, T.oks, T.ok, ap, allP, true_and, and_true, implies_true] at hok hpre
  try dsimp only [T.den] at hok
  try dsimp only [T.den] at hpre
  unfold W_laws_FnExactIsTwoValued
  generalize wR CategoryT aC = n1
  simp only [eqR_self]
  clear hok
  grind [cnd, nb_eq, inK64, szR, c_laws_FnExactIsTwoValued]
theorem ct_laws_FnExactIsTwoValued : CtOk Try.prog 6 c_laws_FnExactIsTwoValued :=
  ct_by (Φ := lkp [(27, c_impl_IsTwoValued), (23, c_laws_eqCategory), (19, c_laws_szCategory), (21, c_laws_toCategory), (26, c_spec_IsTwoValued)]) (good_cons ct_impl_IsTwoValued (good_cons ct_laws_eqCategory (good_cons ct_laws_szCategory (good_cons ct_laws_toCategory (good_cons ct_spec_IsTwoValued good_nil))))) tab_ok (by kernel_rfl) (fn := Try.f6) (c := bodyOf Try.f6) (by kernel_rfl) (by kernel_rfl) (by kernel_rfl) c_laws_FnExactIsTwoValued rfl .n (cutL [(10, 503)]) (by kernel_rfl) (by kernel_rfl) k_laws_FnExactIsTwoValued (by decide) (fun x K => W_laws_FnExactIsTwoValued x.1 K) w_laws_FnExactIsTwoValued (fun x h1 h2 => m_laws_FnExactIsTwoValued x.1 h1 h2)
end Go.Bm
