/- What the functions that FnExactIsSurjectiveMap reaches give: for each its contract, what it asks, and the proof. No condition. -/
import Derived.Test.YtigkajkcdaoojaaTab
namespace Go.Bm
open Go.Proofs
set_option maxRecDepth 100000
set_option maxHeartbeats 1000000
set_option linter.unusedVariables false
set_option linter.unusedSimpArgs false
def c_impl_inRange : Ct := ⟨[(.int .i64), (.int .i64), (.int .i64)], [false, false, false], fun x => [], [(false, (.fz .bool))], fun x => (inR x.1 x.2.1 x.2.2.1, ()), false, none⟩
def W_impl_inRange (n : Int) (low : Int) (high : Int) (K : Bool × Unit → Prop) : Prop := (K (((decide (low ≤ n)) && (decide (n ≤ high))), ()))
theorem w_impl_inRange (x : denL c_impl_inRange.args) (K : Bool × Unit → Prop) : evF tab (lkp []) (cutL []) Try.f144 (bodyOf Try.f144) .n c_impl_inRange x K = W_impl_inRange x.1 x.2.1 x.2.2.1 K := by kernel_rfl
theorem k_impl_inRange : okC Try.f144.ntmps (cutL []) (bodyOf Try.f144) = true := by kernel_rfl
theorem m_impl_inRange (n : Int) (low : Int) (high : Int) (hok : allP (okL c_impl_inRange.args (n, low, high, ()))) (hpre : allP (c_impl_inRange.pre (n, low, high, ()))) : W_impl_inRange n low high (fun r => r = c_impl_inRange.res (n, low, high, ())) := by
  simp only [c_impl_inRange, okL, T.oks, T.ok, ap, allP, true_and, and_true, implies_true] at hok hpre
  try dsimp only [T.den] at hok
  try dsimp only [T.den] at hpre
  unfold W_impl_inRange
  grind [cnd, nb_eq, inK64, c_impl_inRange, inR]
theorem ct_impl_inRange : CtOk Try.prog 144 c_impl_inRange :=
  ct_by (Φ := lkp []) good_nil tab_ok (by kernel_rfl) (fn := Try.f144) (c := bodyOf Try.f144) (by kernel_rfl) (by kernel_rfl) (by kernel_rfl) c_impl_inRange rfl .n (cutL []) (by kernel_rfl) (by kernel_rfl) k_impl_inRange (by decide) (fun x K => W_impl_inRange x.1 x.2.1 x.2.2.1 K) w_impl_inRange (fun x h1 h2 => m_impl_inRange x.1 x.2.1 x.2.2.1 h1 h2)
def c_impl_within : Ct := ⟨[(.sl (.int .i64)), (.int .i64)], [false, false], fun x => [inK .i64 (x.2.1 - 1)], [(false, (.fz .bool))], fun x => (withinR x.1 x.2.1, ()), false, none⟩
def W_impl_within (list : List Int) (n : Int) (K : Bool × Unit → Prop) : Prop := (loopW (S := ((Int × Unit) × Unit)) (fun s => (fun next => ((inK IntKind.i64 s.1.1) → (cnd (decide (s.1.1 < (((List.length list) : Nat) : Int))) (((0 : Int) ≤ s.1.1) ∧ ((s.1.1 < (((List.length list) : Nat) : Int)) ∧ ((inK IntKind.i64 (n - (1 : Int))) ∧ (cnd (!(inR (List.getD list (Int.toNat s.1.1) (0 : Int)) (0 : Int) (n - (1 : Int)))) (K (Bool.false, ())) ((inK IntKind.i64 (s.1.1 + (1 : Int))) ∧ (next (((s.1.1 + (1 : Int)), ()), ()))))))) (K (Bool.true, ())))))) (((0 : Int), ()), ()))
theorem w_impl_within (x : denL c_impl_within.args) (K : Bool × Unit → Prop) : evF tab (lkp [(144, c_impl_inRange)]) (cutL []) Try.f158 (bodyOf Try.f158) (.s .n (.s (.s .n (.l [(9, (.d (.int .i64)))] [] [1, 7, 8] .n)) .n)) c_impl_within x K = W_impl_within x.1 x.2.1 K := by kernel_rfl
theorem k_impl_within : okC Try.f158.ntmps (cutL []) (bodyOf Try.f158) = true := by kernel_rfl
theorem m_impl_within (list : List Int) (n : Int) (hok : allP (okL c_impl_within.args (list, n, ()))) (hpre : allP (c_impl_within.pre (list, n, ()))) : W_impl_within list n (fun r => r = c_impl_within.res (list, n, ())) := by
  simp only [c_impl_within, okL, T.oks, T.ok, ap, allP, true_and, and_true, implies_true] at hok hpre
  try dsimp only [T.den] at hok
  try dsimp only [T.den] at hpre
  unfold W_impl_within
  refine loop_of (fun (s : ((Int × Unit) × Unit)) => 0 ≤ s.1.1 ∧ s.1.1 ≤ list.length ∧ withinR list n = withinR (list.drop s.1.1.toNat) n) (fun (s : ((Int × Unit) × Unit)) => (list.length - s.1.1).toNat) ?_ (by simp)
  rintro ⟨⟨i, _⟩, _⟩ next ⟨h0, h1, h2⟩ hn hin
  simp only at h0 h1 h2 hn ⊢
  refine cnd_d (fun hc => ?_) (fun hc => ?_)
  · rw [drop_c list 0 h0 hc] at h2
    simp only [withinR, List.all_cons] at h2
    grind [cnd, nb_eq, inK64, c_impl_within, withinR]
  · rw [drop_n list (by omega)] at h2
    grind [cnd, nb_eq, inK64, c_impl_within, withinR]
theorem ct_impl_within : CtOk Try.prog 158 c_impl_within :=
  ct_by (Φ := lkp [(144, c_impl_inRange)]) (good_cons ct_impl_inRange good_nil) tab_ok (by kernel_rfl) (fn := Try.f158) (c := bodyOf Try.f158) (by kernel_rfl) (by kernel_rfl) (by kernel_rfl) c_impl_within rfl (.s .n (.s (.s .n (.l [(9, (.d (.int .i64)))] [] [1, 7, 8] .n)) .n)) (cutL []) (by kernel_rfl) (by kernel_rfl) k_impl_within (by decide) (fun x K => W_impl_within x.1 x.2.1 K) w_impl_within (fun x h1 h2 => m_impl_within x.1 x.2.1 h1 h2)
def c_impl_isMapOf : Ct := ⟨[(.sl (.int .i64)), (.int .i64), (.int .i64)], [false, false, false], fun x => [inK .i64 (x.2.2.1 - 1)], [(false, (.fz .bool))], fun x => ((decide ((x.1.length : Int) = x.2.1) && withinR x.1 x.2.2.1), ()), false, none⟩
def W_impl_isMapOf (f : List Int) (m : Int) (n : Int) (K : Bool × Unit → Prop) : Prop := (((((((List.length f) : Nat) : Int) == m) = Bool.true) → (inK IntKind.i64 (n - (1 : Int)))) ∧ (K ((((((List.length f) : Nat) : Int) == m) && (withinR f n)), ())))
theorem w_impl_isMapOf (x : denL c_impl_isMapOf.args) (K : Bool × Unit → Prop) : evF tab (lkp [(158, c_impl_within)]) (cutL []) Try.f166 (bodyOf Try.f166) .n c_impl_isMapOf x K = W_impl_isMapOf x.1 x.2.1 x.2.2.1 K := by kernel_rfl
theorem k_impl_isMapOf : okC Try.f166.ntmps (cutL []) (bodyOf Try.f166) = true := by kernel_rfl
theorem m_impl_isMapOf (f : List Int) (m : Int) (n : Int) (hok : allP (okL c_impl_isMapOf.args (f, m, n, ()))) (hpre : allP (c_impl_isMapOf.pre (f, m, n, ()))) : W_impl_isMapOf f m n (fun r => r = c_impl_isMapOf.res (f, m, n, ())) := by
  simp only [c_impl_isMapOf, okL, T.oks, T.ok, ap, allP, true_and, and_true, implies_true] at hok hpre
  try dsimp only [T.den] at hok
  try dsimp only [T.den] at hpre
  unfold W_impl_isMapOf
  simp only [c_impl_isMapOf]
  grind [cnd, nb_eq, inK64]
theorem ct_impl_isMapOf : CtOk Try.prog 166 c_impl_isMapOf :=
  ct_by (Φ := lkp [(158, c_impl_within)]) (good_cons ct_impl_within good_nil) tab_ok (by kernel_rfl) (fn := Try.f166) (c := bodyOf Try.f166) (by kernel_rfl) (by kernel_rfl) (by kernel_rfl) c_impl_isMapOf rfl .n (cutL []) (by kernel_rfl) (by kernel_rfl) k_impl_isMapOf (by decide) (fun x K => W_impl_isMapOf x.1 x.2.1 x.2.2.1 K) w_impl_isMapOf (fun x h1 h2 => m_impl_isMapOf x.1 x.2.1 x.2.2.1 h1 h2)
def c_impl_Category_arrows : Ct := ⟨[(.pt CategoryT)], [false], fun x => [], [(false, (.fz (.int .i64)))], fun x => ((x.1.2.1.length : Int), ()), false, none⟩
def W_impl_Category_arrows (c : CategoryD) (K : Int × Unit → Prop) : Prop := (K ((((List.length c.2.1) : Nat) : Int), ()))
theorem w_impl_Category_arrows (x : denL c_impl_Category_arrows.args) (K : Int × Unit → Prop) : evF tab (lkp []) (cutL []) Try.f146 (bodyOf Try.f146) .n c_impl_Category_arrows x K = W_impl_Category_arrows x.1 K := by kernel_rfl
theorem k_impl_Category_arrows : okC Try.f146.ntmps (cutL []) (bodyOf Try.f146) = true := by kernel_rfl
theorem m_impl_Category_arrows (c : CategoryD) (hok : allP (okL c_impl_Category_arrows.args (c, ()))) (hpre : allP (c_impl_Category_arrows.pre (c, ()))) : W_impl_Category_arrows c (fun r => r = c_impl_Category_arrows.res (c, ())) := by
  simp only [c_impl_Category_arrows, okL, T.oks, T.ok, ap, allP, true_and, and_true, implies_true] at hok hpre
  try dsimp only [T.den] at hok
  try dsimp only [T.den] at hpre
  unfold W_impl_Category_arrows
  rfl
theorem ct_impl_Category_arrows : CtOk Try.prog 146 c_impl_Category_arrows :=
  ct_by (Φ := lkp []) good_nil tab_ok (by kernel_rfl) (fn := Try.f146) (c := bodyOf Try.f146) (by kernel_rfl) (by kernel_rfl) (by kernel_rfl) c_impl_Category_arrows rfl .n (cutL []) (by kernel_rfl) (by kernel_rfl) k_impl_Category_arrows (by decide) (fun x K => W_impl_Category_arrows x.1 K) w_impl_Category_arrows (fun x h1 h2 => m_impl_Category_arrows x.1 h1 h2)
def compR (c : CategoryD) (f g : Int) : Int := (c.2.2.2.2.getD f.toNat []).getD g.toNat 0

def c_impl_Category_then : Ct := ⟨[(.pt CategoryT), (.int .i64), (.int .i64)], [false, false, false], fun x => [0 ≤ x.2.1, x.2.1 < x.1.2.2.2.2.length, 0 ≤ x.2.2.1, x.2.2.1 < (x.1.2.2.2.2.getD x.2.1.toNat []).length], [(false, (.fz (.int .i64)))], fun x => (compR x.1 x.2.1 x.2.2.1, ()), false, none⟩
def W_impl_Category_then (c : CategoryD) (f : Int) (g : Int) (K : Int × Unit → Prop) : Prop := (((0 : Int) ≤ f) ∧ ((f < (((List.length c.2.2.2.2) : Nat) : Int)) ∧ (((0 : Int) ≤ g) ∧ ((g < (((List.length (List.getD c.2.2.2.2 (Int.toNat f) ([] : List Int))) : Nat) : Int)) ∧ (K ((List.getD (List.getD c.2.2.2.2 (Int.toNat f) ([] : List Int)) (Int.toNat g) (0 : Int)), ()))))))
theorem w_impl_Category_then (x : denL c_impl_Category_then.args) (K : Int × Unit → Prop) : evF tab (lkp []) (cutL []) Try.f132 (bodyOf Try.f132) .n c_impl_Category_then x K = W_impl_Category_then x.1 x.2.1 x.2.2.1 K := by kernel_rfl
theorem k_impl_Category_then : okC Try.f132.ntmps (cutL []) (bodyOf Try.f132) = true := by kernel_rfl
theorem m_impl_Category_then (c : CategoryD) (f : Int) (g : Int) (hok : allP (okL c_impl_Category_then.args (c, f, g, ()))) (hpre : allP (c_impl_Category_then.pre (c, f, g, ()))) : W_impl_Category_then c f g (fun r => r = c_impl_Category_then.res (c, f, g, ())) := by
  simp only [c_impl_Category_then, okL, T.oks, T.ok, ap, allP, true_and, and_true, implies_true] at hok hpre
  try dsimp only [T.den] at hok
  try dsimp only [T.den] at hpre
  unfold W_impl_Category_then
  exact ⟨hpre.1, hpre.2.1, hpre.2.2.1, hpre.2.2.2, rfl⟩
theorem ct_impl_Category_then : CtOk Try.prog 132 c_impl_Category_then :=
  ct_by (Φ := lkp []) good_nil tab_ok (by kernel_rfl) (fn := Try.f132) (c := bodyOf Try.f132) (by kernel_rfl) (by kernel_rfl) (by kernel_rfl) c_impl_Category_then rfl .n (cutL []) (by kernel_rfl) (by kernel_rfl) k_impl_Category_then (by decide) (fun x K => W_impl_Category_then x.1 x.2.1 x.2.2.1 K) w_impl_Category_then (fun x h1 h2 => m_impl_Category_then x.1 x.2.1 x.2.2.1 h1 h2)
def c_impl_Category_ends : Ct := ⟨[(.pt CategoryT), (.int .i64)], [false, false], fun x => [0 ≤ x.2.1, x.2.1 < x.1.2.1.length, x.2.1 < x.1.2.2.1.length], [(true, (.fz endsT))], fun x => (((x.1.2.1.getD x.2.1.toNat 0, x.1.2.2.1.getD x.2.1.toNat 0) : Int × Int), ()), false, none⟩
def W_impl_Category_ends (c : CategoryD) (f : Int) (K : endsD × Unit → Prop) : Prop := (((0 : Int) ≤ f) ∧ ((f < (((List.length c.2.1) : Nat) : Int)) ∧ (((0 : Int) ≤ f) ∧ ((f < (((List.length c.2.2.1) : Nat) : Int)) ∧ (K (((List.getD c.2.1 (Int.toNat f) (0 : Int)), (List.getD c.2.2.1 (Int.toNat f) (0 : Int))), ()))))))
theorem w_impl_Category_ends (x : denL c_impl_Category_ends.args) (K : endsD × Unit → Prop) : evF tab (lkp []) (cutL [(1, 15)]) Try.f147 (bodyOf Try.f147) .n c_impl_Category_ends x K = W_impl_Category_ends x.1 x.2.1 K := by kernel_rfl
theorem k_impl_Category_ends : okC Try.f147.ntmps (cutL [(1, 15)]) (bodyOf Try.f147) = true := by kernel_rfl
theorem m_impl_Category_ends (c : CategoryD) (f : Int) (hok : allP (okL c_impl_Category_ends.args (c, f, ()))) (hpre : allP (c_impl_Category_ends.pre (c, f, ()))) : W_impl_Category_ends c f (fun r => r = c_impl_Category_ends.res (c, f, ())) := by
  simp only [c_impl_Category_ends, okL, T.oks, T.ok, ap, allP, true_and, and_true, implies_true] at hok hpre
  try dsimp only [T.den] at hok
  try dsimp only [T.den] at hpre
  unfold W_impl_Category_ends
  exact ⟨hpre.1, hpre.2.1, hpre.1, hpre.2.2, rfl⟩
theorem ct_impl_Category_ends : CtOk Try.prog 147 c_impl_Category_ends :=
  ct_by (Φ := lkp []) good_nil tab_ok (by kernel_rfl) (fn := Try.f147) (c := bodyOf Try.f147) (by kernel_rfl) (by kernel_rfl) (by kernel_rfl) c_impl_Category_ends rfl .n (cutL [(1, 15)]) (by kernel_rfl) (by kernel_rfl) k_impl_Category_ends (by decide) (fun x K => W_impl_Category_ends x.1 x.2.1 K) w_impl_Category_ends (fun x h1 h2 => m_impl_Category_ends x.1 x.2.1 h1 h2)
/-- what a cell of the table must be -/
def cellQ (c : CategoryD) (f g v : Int) : Bool :=
  if c.2.2.1.getD f.toNat 0 = c.2.1.getD g.toNat 0 then decide (0 ≤ v ∧ v < c.2.1.length ∧ c.2.1.getD v.toNat 0 = c.2.1.getD f.toNat 0 ∧ c.2.2.1.getD v.toNat 0 = c.2.2.1.getD g.toNat 0)
  else decide (v = -1)
def cellR (c : CategoryD) (f g : Int) : Bool := cellQ c f g (compR c f g)
structure ShapeP (c : CategoryD) : Prop where
  ob : 0 ≤ c.1 ∧ c.1 ≤ 8
  m : c.2.1.length ≤ 40
  lt : c.2.2.1.length = c.2.1.length
  fr : withinR c.2.1 c.1 = true
  to : withinR c.2.2.1 c.1 = true
  li : (c.2.2.2.1.length : Int) = c.1
  ids : withinR c.2.2.2.1 c.2.1.length = true
  lc : c.2.2.2.2.length = c.2.1.length
  idt : ∀ x : Int, 0 ≤ x → x < c.1 → c.2.1.getD (c.2.2.2.1.getD x.toNat 0).toNat 0 = x ∧ c.2.2.1.getD (c.2.2.2.1.getD x.toNat 0).toNat 0 = x
  row : ∀ f : Int, 0 ≤ f → f < c.2.1.length → (c.2.2.2.2.getD f.toNat []).length = c.2.1.length
  cell : ∀ f g : Int, 0 ≤ f → f < c.2.1.length → 0 ≤ g → g < c.2.1.length → cellR c f g = true
def shapeR (c : CategoryD) : Bool := inR c.1 0 8 && decide (c.2.1.length ≤ 40) && decide (c.2.2.1.length = c.2.1.length) && withinR c.2.1 c.1 && withinR c.2.2.1 c.1 && decide ((c.2.2.2.1.length : Int) = c.1) && withinR c.2.2.2.1 c.2.1.length &&
  decide (c.2.2.2.2.length = c.2.1.length) && allB c.1.toNat (fun x => decide (c.2.1.getD (c.2.2.2.1.getD x.toNat 0).toNat 0 = x ∧ c.2.2.1.getD (c.2.2.2.1.getD x.toNat 0).toNat 0 = x)) &&
  allB c.2.1.length (fun f => decide ((c.2.2.2.2.getD f.toNat []).length = c.2.1.length)) && allB c.2.1.length (fun f => allB c.2.1.length fun g => cellR c f g)
theorem shape_iff {c : CategoryD} : shapeR c = true ↔ ShapeP c := by
  simp only [shapeR, Bool.and_eq_true, decide_eq_true_eq, inR, allB_iff]
  constructor
  · rintro ⟨⟨⟨⟨⟨⟨⟨⟨⟨⟨h0, h1⟩, h2⟩, h3⟩, h4⟩, h5⟩, h6⟩, h7⟩, h8⟩, h9⟩, h10⟩
    exact ⟨h0, h1, h2, h3, h4, h5, h6, h7, fun x a b => h8 x a (by omega), h9, fun f g a b d e => h10 f a b g d e⟩
  · intro h
    exact ⟨⟨⟨⟨⟨⟨⟨⟨⟨⟨h.ob, h.m⟩, h.lt⟩, h.fr⟩, h.to⟩, h.li⟩, h.ids⟩, h.lc⟩, fun x a b => h.idt x a (by have := h.ob; omega)⟩, h.row⟩, fun f a b g d e => h.cell f g a b d e⟩
theorem shape_f {c : CategoryD} (h : ¬ ShapeP c) : shapeR c = false := by
  cases hs : shapeR c with
  | false => rfl
  | true => exact absurd (shape_iff.1 hs) h
theorem shape_t {c : CategoryD} (h : ShapeP c) : shapeR c = true := shape_iff.2 h

def c_impl_Category_isShape : Ct := ⟨[(.pt CategoryT)], [false], fun x => [], [(false, (.fz .bool))], fun x => (shapeR x.1, ()), false, none⟩
def W_impl_Category_isShape (c : CategoryD) (K : Bool × Unit → Prop) : Prop := ((((((!(inR c.1 (0 : Int) (8 : Int))) || (decide ((40 : Int) < (((List.length c.2.1) : Nat) : Int)))) || ((((List.length c.2.2.1) : Nat) : Int) != (((List.length c.2.1) : Nat) : Int))) = Bool.false) → (inK IntKind.i64 (c.1 - (1 : Int)))) ∧ (((((((!(inR c.1 (0 : Int) (8 : Int))) || (decide ((40 : Int) < (((List.length c.2.1) : Nat) : Int)))) || ((((List.length c.2.2.1) : Nat) : Int) != (((List.length c.2.1) : Nat) : Int))) || (!(withinR c.2.1 c.1))) = Bool.false) → (inK IntKind.i64 (c.1 - (1 : Int)))) ∧ (cnd (((((!(inR c.1 (0 : Int) (8 : Int))) || (decide ((40 : Int) < (((List.length c.2.1) : Nat) : Int)))) || ((((List.length c.2.2.1) : Nat) : Int) != (((List.length c.2.1) : Nat) : Int))) || (!(withinR c.2.1 c.1))) || (!(withinR c.2.2.1 c.1))) (K (Bool.false, ())) (((((((List.length c.2.2.2.1) : Nat) : Int) != c.1) = Bool.false) → (inK IntKind.i64 ((((List.length c.2.1) : Nat) : Int) - (1 : Int)))) ∧ (cnd ((((((List.length c.2.2.2.1) : Nat) : Int) != c.1) || (!(withinR c.2.2.2.1 (((List.length c.2.1) : Nat) : Int)))) || ((((List.length c.2.2.2.2) : Nat) : Int) != (((List.length c.2.1) : Nat) : Int))) (K (Bool.false, ())) (loopW (S := ((Int × Unit) × Unit)) (fun s => (fun next => ((inK IntKind.i64 s.1.1) → (cnd (decide (s.1.1 < (((List.length c.2.2.2.1) : Nat) : Int))) (((0 : Int) ≤ s.1.1) ∧ ((s.1.1 < (((List.length c.2.2.2.1) : Nat) : Int)) ∧ (((0 : Int) ≤ (List.getD c.2.2.2.1 (Int.toNat s.1.1) (0 : Int))) ∧ (((List.getD c.2.2.2.1 (Int.toNat s.1.1) (0 : Int)) < (((List.length c.2.1) : Nat) : Int)) ∧ (((List.getD c.2.2.2.1 (Int.toNat s.1.1) (0 : Int)) < (((List.length c.2.2.1) : Nat) : Int)) ∧ (cnd (!(((List.getD c.2.1 (Int.toNat (List.getD c.2.2.2.1 (Int.toNat s.1.1) (0 : Int))) (0 : Int)) == s.1.1) && ((List.getD c.2.2.1 (Int.toNat (List.getD c.2.2.2.1 (Int.toNat s.1.1) (0 : Int))) (0 : Int)) == s.1.1))) (K (Bool.false, ())) ((inK IntKind.i64 (s.1.1 + (1 : Int))) ∧ (next (((s.1.1 + (1 : Int)), ()), ()))))))))) (loopW (S := ((Int × Unit) × Unit)) (fun s1 => (fun next1 => ((inK IntKind.i64 s1.1.1) → (cnd (decide (s1.1.1 < (((List.length c.2.2.2.2) : Nat) : Int))) (((0 : Int) ≤ s1.1.1) ∧ ((s1.1.1 < (((List.length c.2.2.2.2) : Nat) : Int)) ∧ (cnd ((((List.length (List.getD c.2.2.2.2 (Int.toNat s1.1.1) ([] : List Int))) : Nat) : Int) != (((List.length c.2.1) : Nat) : Int)) (K (Bool.false, ())) (loopW (S := ((Int × Unit) × Unit)) (fun s2 => (fun next2 => ((inK IntKind.i64 s2.1.1) → (cnd (decide (s2.1.1 < (((List.length (List.getD c.2.2.2.2 (Int.toNat s1.1.1) ([] : List Int))) : Nat) : Int))) (joinW (S := (Unit × Unit)) (fun s3 => ((inK IntKind.i64 (s2.1.1 + (1 : Int))) ∧ (next2 (((s2.1.1 + (1 : Int)), ()), ())))) (fun k => (((0 : Int) ≤ s2.1.1) ∧ ((s2.1.1 < (((List.length (List.getD c.2.2.2.2 (Int.toNat s1.1.1) ([] : List Int))) : Nat) : Int)) ∧ (((0 : Int) ≤ s1.1.1) ∧ ((s1.1.1 < (((List.length c.2.2.1) : Nat) : Int)) ∧ (((0 : Int) ≤ s2.1.1) ∧ ((s2.1.1 < (((List.length c.2.1) : Nat) : Int)) ∧ (cnd ((List.getD c.2.2.1 (Int.toNat s1.1.1) (0 : Int)) != (List.getD c.2.1 (Int.toNat s2.1.1) (0 : Int))) (cnd ((List.getD (List.getD c.2.2.2.2 (Int.toNat s1.1.1) ([] : List Int)) (Int.toNat s2.1.1) (0 : Int)) != (-(1 : Int))) (K (Bool.false, ())) (k ((), ()))) ((inK IntKind.i64 ((((List.length c.2.1) : Nat) : Int) - (1 : Int))) ∧ ((((!(inR (List.getD (List.getD c.2.2.2.2 (Int.toNat s1.1.1) ([] : List Int)) (Int.toNat s2.1.1) (0 : Int)) (0 : Int) ((((List.length c.2.1) : Nat) : Int) - (1 : Int)))) = Bool.false) → (((List.getD (List.getD c.2.2.2.2 (Int.toNat s1.1.1) ([] : List Int)) (Int.toNat s2.1.1) (0 : Int)) < (((List.length c.2.1) : Nat) : Int)) ∧ (((List.getD (List.getD c.2.2.2.2 (Int.toNat s1.1.1) ([] : List Int)) (Int.toNat s2.1.1) (0 : Int)) < (((List.length c.2.2.1) : Nat) : Int)) ∧ ((0 : Int) ≤ (List.getD (List.getD c.2.2.2.2 (Int.toNat s1.1.1) ([] : List Int)) (Int.toNat s2.1.1) (0 : Int)))))) ∧ ((((!(inR (List.getD (List.getD c.2.2.2.2 (Int.toNat s1.1.1) ([] : List Int)) (Int.toNat s2.1.1) (0 : Int)) (0 : Int) ((((List.length c.2.1) : Nat) : Int) - (1 : Int)))) = Bool.false) → ((s1.1.1 < (((List.length c.2.1) : Nat) : Int)) ∧ ((0 : Int) ≤ s1.1.1))) ∧ ((((!(inR (List.getD (List.getD c.2.2.2.2 (Int.toNat s1.1.1) ([] : List Int)) (Int.toNat s2.1.1) (0 : Int)) (0 : Int) ((((List.length c.2.1) : Nat) : Int) - (1 : Int)))) = Bool.false) → ((s2.1.1 < (((List.length c.2.2.1) : Nat) : Int)) ∧ ((0 : Int) ≤ s2.1.1))) ∧ (cnd ((!(inR (List.getD (List.getD c.2.2.2.2 (Int.toNat s1.1.1) ([] : List Int)) (Int.toNat s2.1.1) (0 : Int)) (0 : Int) ((((List.length c.2.1) : Nat) : Int) - (1 : Int)))) || (!(((List.getD c.2.1 (Int.toNat (List.getD (List.getD c.2.2.2.2 (Int.toNat s1.1.1) ([] : List Int)) (Int.toNat s2.1.1) (0 : Int))) (0 : Int)) == (List.getD c.2.1 (Int.toNat s1.1.1) (0 : Int))) && ((List.getD c.2.2.1 (Int.toNat (List.getD (List.getD c.2.2.2.2 (Int.toNat s1.1.1) ([] : List Int)) (Int.toNat s2.1.1) (0 : Int))) (0 : Int)) == (List.getD c.2.2.1 (Int.toNat s2.1.1) (0 : Int)))))) (K (Bool.false, ())) (k ((), ())))))))))))))))) ((inK IntKind.i64 (s1.1.1 + (1 : Int))) ∧ (next1 (((s1.1.1 + (1 : Int)), ()), ()))))))) (((0 : Int), ()), ()))))) (K (Bool.true, ())))))) (((0 : Int), ()), ())))))) (((0 : Int), ()), ())))))))
theorem w_impl_Category_isShape (x : denL c_impl_Category_isShape.args) (K : Bool × Unit → Prop) : evF tab (lkp [(146, c_impl_Category_arrows), (147, c_impl_Category_ends), (144, c_impl_inRange), (158, c_impl_within)]) (cutL [(2, 43), (20, 15), (4, 28), (23, 26)]) Try.f168 (bodyOf Try.f168) (.s .n (.s .n (.s .n (.s .n (.s (.s .n (.l [(88, (.d (.int .i64)))] [] [0, 3, 86, 87] .n)) (.s (.s .n (.l [(106, (.d (.int .i64)))] [] [0, 3, 104, 105] (.s .n (.s .n (.s (.s .n (.s .n (.s .n (.l [(117, (.d (.int .i64)))] [] [0, 3, 6, 104, 105, 106, 115, 116] (.s .n (.s .n (.s (.j [] [] [0, 3, 6, 104, 105, 106, 115, 116, 117] .n) .n))))))) .n))))) .n)))))) c_impl_Category_isShape x K = W_impl_Category_isShape x.1 K := by kernel_rfl
theorem k_impl_Category_isShape : okC Try.f168.ntmps (cutL [(2, 43), (20, 15), (4, 28), (23, 26)]) (bodyOf Try.f168) = true := by kernel_rfl
theorem m_impl_Category_isShape (c : CategoryD) (hok : allP (okL c_impl_Category_isShape.args (c, ()))) (hpre : allP (c_impl_Category_isShape.pre (c, ()))) : W_impl_Category_isShape c (fun r => r = c_impl_Category_isShape.res (c, ())) := by
  simp only [c_impl_Category_isShape, okL, T.oks, T.ok, ap, allP, true_and, and_true, implies_true] at hok hpre
  try dsimp only [T.den] at hok
  try dsimp only [T.den] at hpre
  unfold W_impl_Category_isShape
  refine ⟨by grind [cnd, nb_eq, inK64, inR], by grind [cnd, nb_eq, inK64, inR], cnd_of (fun hc => ?_) (fun hc => ⟨by rw [inK64]; have := hok.2.1.1; grind [cnd, nb_eq, inK64], cnd_of (fun hd => ?_) (fun hd => ?_)⟩)⟩
  · simp only [c_impl_Category_isShape]; rw [shape_f]; intro h; have h1 := h.ob; have h2 := h.m; have h3 := h.lt; have h4 := h.fr; have h5 := h.to; simp only [inR] at hc; grind [cnd, nb_eq, inK64]
  · simp only [c_impl_Category_isShape]; rw [shape_f]; intro h; have h1 := h.li; have h2 := h.ids; have h3 := h.lc; grind [cnd, nb_eq, inK64]
  simp only [inR, Bool.or_eq_false_iff, Bool.not_eq_false', Bool.and_eq_true, decide_eq_true_eq, decide_eq_false_iff_not, bne_eq_false_iff_eq] at hc hd
  obtain ⟨⟨⟨⟨hob, hm⟩, hlt⟩, hfr⟩, hto⟩ := hc
  obtain ⟨⟨hli, hids⟩, hlc⟩ := hd
  have bad : ¬ ShapeP c → (false, ()) = c_impl_Category_isShape.res (c, ()) := fun h => by simp only [c_impl_Category_isShape]; rw [shape_f h]
  refine loop_ix (n := c.2.2.2.1.length) (fun x => ∀ y : Int, 0 ≤ y → y < x → c.2.1.getD (c.2.2.2.1.getD y.toNat 0).toNat 0 = y ∧ c.2.2.1.getD (c.2.2.2.1.getD y.toNat 0).toNat 0 = y) (by omega) (by intro y h0 h1; omega) ?_ ?_
  · intro x next h0 h1 hP hn hin
    have hb := within_iff.1 hids x h0 h1
    try dsimp only
    refine cnd_d (fun _ => ⟨h0, h1, hb.1, hb.2, by omega, cnd_of (fun hx => bad fun h => ?_) (fun hx => ?_)⟩) (fun h => absurd h1 h)
    · have := h.idt x h0 (by omega)
      rw [this.1, this.2] at hx
      simp at hx
    · simp only [Bool.not_eq_false', Bool.and_eq_true, beq_iff_eq] at hx
      refine ⟨by rw [inK64]; (try dsimp only); omega, hn fun y y0 y1 => ?_⟩
      by_cases e : y = x
      · rw [e]; exact hx
      · exact hP y y0 (by omega)
  intro next hidt hin
  refine cnd_d (fun h => absurd h (by dsimp only; omega)) (fun _ => ?_)
  refine loop_ix (n := c.2.2.2.2.length) (fun f => ∀ f' : Int, 0 ≤ f' → f' < f → (c.2.2.2.2.getD f'.toNat []).length = c.2.1.length ∧ ∀ g : Int, 0 ≤ g → g < c.2.1.length → cellR c f' g = true) (by omega) (by intro y h0 h1; omega) ?_ ?_
  · intro f next h0 h1 hP hn hin
    try dsimp only
    refine cnd_d (fun _ => ⟨h0, h1, cnd_of (fun hx => bad fun h => ?_) (fun hx => ?_)⟩) (fun h => absurd h1 h)
    · have := h.row f h0 (by omega)
      rw [this] at hx
      simp at hx
    simp only [bne_eq_false_iff_eq] at hx
    refine loop_ix (n := (c.2.2.2.2.getD f.toNat []).length) (fun g => ∀ g' : Int, 0 ≤ g' → g' < g → cellR c f g' = true) (by omega) (by intro y h0 h1; omega) ?_ ?_
    · intro g next3 g0 g1 hP3 hn3 hin3
      try dsimp only
      refine cnd_d (fun _ => ?_) (fun h => absurd g1 h)
      refine join_of (fun _ => cellR c f g = true) (fun _ hcell => ⟨by rw [inK64]; (try dsimp only); omega, hn3 fun g' y0 y1 => ?_⟩) (fun k hk => ?_)
      · by_cases e : g' = g
        · rw [e]; exact hcell
        · exact hP3 g' y0 (by omega)
      have hcell : ∀ b, cellR c f g = b → b = false → ¬ ShapeP c := fun b h1 h2 h => by
        have := h.cell f g h0 (by omega) g0 (by omega)
        rw [h1, h2] at this; cases this
      have hk' := hk ((), ())
      obtain ⟨v, hv⟩ : ∃ v, (c.2.2.2.2.getD f.toNat []).getD g.toNat 0 = v := ⟨_, rfl⟩
      have hR : cellR c f g = cellQ c f g v := by unfold cellR compR; rw [hv]
      rw [hR] at hk'
      rw [hR] at hcell
      rw [hv]
      clear hP3 hn3 hP hn hk hR hv hidt hok
      refine ⟨g0, g1, h0, by omega, g0, by omega, cnd_of (fun ha => cnd_of (fun hb => bad ?_) (fun hb => hk' ?_)) (fun ha => ⟨by rw [inK64]; (try dsimp only); omega, fun hv => ?_, fun _ => ⟨by omega, h0⟩, fun _ => ⟨by omega, g0⟩, cnd_of (fun hb => bad ?_) (fun hb => hk' ?_)⟩)⟩
      · exact hcell _ rfl (by grind [cnd, nb_eq, inK64, cellQ])
      · grind [cnd, nb_eq, inK64, cellQ]
      · simp only [inR, Bool.not_eq_false', Bool.and_eq_true, decide_eq_true_eq] at hv; omega
      · exact hcell _ rfl (by simp only [inR] at hb; grind [cnd, nb_eq, inK64, cellQ])
      · simp only [inR] at hb; grind [cnd, nb_eq, inK64, cellQ]
    · intro next3 hP3 hin3
      refine cnd_d (fun h => absurd h (by dsimp only; omega)) (fun _ => ⟨by rw [inK64]; (try dsimp only); omega, hn fun f' y0 y1 => ?_⟩)
      by_cases e : f' = f
      · rw [e]; exact ⟨by omega, fun g g0 g1 => hP3 g g0 (by omega)⟩
      · exact hP f' y0 (by omega)
  · intro next2 hP2 hin2
    refine cnd_d (fun h => absurd h (by dsimp only; omega)) (fun _ => ?_)
    simp only [c_impl_Category_isShape]
    rw [shape_t ⟨hob, by omega, by omega, hfr, hto, by omega, hids, by omega, fun x a b => hidt x a (by omega), fun f a b => (hP2 f a (by omega)).1, fun f g a b d e => (hP2 f a (by omega)).2 g d e⟩]
theorem ct_impl_Category_isShape : CtOk Try.prog 168 c_impl_Category_isShape :=
  ct_by (Φ := lkp [(146, c_impl_Category_arrows), (147, c_impl_Category_ends), (144, c_impl_inRange), (158, c_impl_within)]) (good_cons ct_impl_Category_arrows (good_cons ct_impl_Category_ends (good_cons ct_impl_inRange (good_cons ct_impl_within good_nil)))) tab_ok (by kernel_rfl) (fn := Try.f168) (c := bodyOf Try.f168) (by kernel_rfl) (by kernel_rfl) (by kernel_rfl) c_impl_Category_isShape rfl (.s .n (.s .n (.s .n (.s .n (.s (.s .n (.l [(88, (.d (.int .i64)))] [] [0, 3, 86, 87] .n)) (.s (.s .n (.l [(106, (.d (.int .i64)))] [] [0, 3, 104, 105] (.s .n (.s .n (.s (.s .n (.s .n (.s .n (.l [(117, (.d (.int .i64)))] [] [0, 3, 6, 104, 105, 106, 115, 116] (.s .n (.s .n (.s (.j [] [] [0, 3, 6, 104, 105, 106, 115, 116, 117] .n) .n))))))) .n))))) .n)))))) (cutL [(2, 43), (20, 15), (4, 28), (23, 26)]) (by kernel_rfl) (by kernel_rfl) k_impl_Category_isShape (by decide) (fun x K => W_impl_Category_isShape x.1 K) w_impl_Category_isShape (fun x h1 h2 => m_impl_Category_isShape x.1 h1 h2)
theorem ShapeP.frm {c : CategoryD} (h : ShapeP c) {f : Int} (h0 : 0 ≤ f) (h1 : f < c.2.1.length) : 0 ≤ c.2.1.getD f.toNat 0 ∧ c.2.1.getD f.toNat 0 < c.1 ∧ 0 ≤ c.2.2.1.getD f.toNat 0 ∧ c.2.2.1.getD f.toNat 0 < c.1 := by
  have a := within_iff.1 h.fr f h0 h1
  have b := within_iff.1 h.to f h0 (by have := h.lt; omega)
  exact ⟨a.1, a.2, b.1, b.2⟩
theorem ShapeP.idn {c : CategoryD} (h : ShapeP c) {x : Int} (h0 : 0 ≤ x) (h1 : x < c.1) : 0 ≤ c.2.2.2.1.getD x.toNat 0 ∧ c.2.2.2.1.getD x.toNat 0 < c.2.1.length ∧ c.2.1.getD (c.2.2.2.1.getD x.toNat 0).toNat 0 = x ∧ c.2.2.1.getD (c.2.2.2.1.getD x.toNat 0).toNat 0 = x := by
  have a := within_iff.1 h.ids x h0 (by have := h.li; omega)
  have b := h.idt x h0 h1
  exact ⟨a.1, a.2, b.1, b.2⟩
theorem ShapeP.yes {c : CategoryD} (h : ShapeP c) {f g : Int} (h0 : 0 ≤ f) (h1 : f < c.2.1.length) (g0 : 0 ≤ g) (g1 : g < c.2.1.length) (e : c.2.2.1.getD f.toNat 0 = c.2.1.getD g.toNat 0) :
    0 ≤ compR c f g ∧ compR c f g < c.2.1.length ∧ c.2.1.getD (compR c f g).toNat 0 = c.2.1.getD f.toNat 0 ∧ c.2.2.1.getD (compR c f g).toNat 0 = c.2.2.1.getD g.toNat 0 := by
  have := h.cell f g h0 h1 g0 g1
  unfold cellR cellQ at this
  rw [if_pos e] at this
  simpa using this
theorem ShapeP.no {c : CategoryD} (h : ShapeP c) {f g : Int} (h0 : 0 ≤ f) (h1 : f < c.2.1.length) (g0 : 0 ≤ g) (g1 : g < c.2.1.length) (e : c.2.2.1.getD f.toNat 0 ≠ c.2.1.getD g.toNat 0) : compR c f g = -1 := by
  have := h.cell f g h0 h1 g0 g1
  unfold cellR cellQ at this
  rw [if_neg e] at this
  simpa using this
theorem ShapeP.comp {c : CategoryD} (h : ShapeP c) {f g : Int} (h0 : 0 ≤ f) (h1 : f < c.2.1.length) (g0 : 0 ≤ g) (g1 : g < c.2.1.length) : 0 ≤ compR c f g ↔ c.2.2.1.getD f.toNat 0 = c.2.1.getD g.toNat 0 := by
  constructor
  · intro h2
    by_cases e : c.2.2.1.getD f.toNat 0 = c.2.1.getD g.toNat 0
    · exact e
    · have := h.no h0 h1 g0 g1 e; omega
  · intro e; exact (h.yes h0 h1 g0 g1 e).1
def faultI (c : CategoryD) (f : Int) : Option (Int × Int × Int × Int) :=
  if compR c (c.2.2.2.1.getD (c.2.1.getD f.toNat 0).toNat 0) f ≠ f ∨ compR c f (c.2.2.2.1.getD (c.2.2.1.getD f.toNat 0).toNat 0) ≠ f then some (1, f, 0, 0) else none
def faultH (c : CategoryD) (f g h : Int) : Option (Int × Int × Int × Int) :=
  if c.2.2.1.getD g.toNat 0 = c.2.1.getD h.toNat 0 ∧ compR c (compR c f g) h ≠ compR c f (compR c g h) then some (2, f, g, h) else none
def faultG (c : CategoryD) (f g : Int) : Option (Int × Int × Int × Int) :=
  if c.2.2.1.getD f.toNat 0 = c.2.1.getD g.toNat 0 then scanR (faultH c f g) c.2.1.length 0 else none
def faultF (c : CategoryD) (f : Int) : Option (Int × Int × Int × Int) := scanR (faultG c f) c.2.1.length 0
def faultR (c : CategoryD) : Int × Int × Int × Int :=
  orR (scanR (faultI c) c.2.1.length 0) (orR (scanR (faultF c) c.2.1.length 0) (0, 0, 0, 0))

def c_impl_Category_fault : Ct := ⟨[(.pt CategoryT)], [false], fun x => [ShapeP x.1], [(false, (.fz (.int .i64))), (false, (.fz (.int .i64))), (false, (.fz (.int .i64))), (false, (.fz (.int .i64)))], fun x => ((faultR x.1).1, (faultR x.1).2.1, (faultR x.1).2.2.1, (faultR x.1).2.2.2, ()), false, none⟩
def W_impl_Category_fault (c : CategoryD) (K : Int × Int × Int × Int × Unit → Prop) : Prop := (loopW (S := ((Int × Unit) × Unit)) (fun s => (fun next => ((inK IntKind.i64 s.1.1) → (cnd (decide (s.1.1 < (((List.length c.2.1) : Nat) : Int))) (((0 : Int) ≤ s.1.1) ∧ ((s.1.1 < (((List.length c.2.1) : Nat) : Int)) ∧ (((0 : Int) ≤ (List.getD c.2.1 (Int.toNat s.1.1) (0 : Int))) ∧ (((List.getD c.2.1 (Int.toNat s.1.1) (0 : Int)) < (((List.length c.2.2.2.1) : Nat) : Int)) ∧ (((0 : Int) ≤ (List.getD c.2.2.2.1 (Int.toNat (List.getD c.2.1 (Int.toNat s.1.1) (0 : Int))) (0 : Int))) ∧ (((List.getD c.2.2.2.1 (Int.toNat (List.getD c.2.1 (Int.toNat s.1.1) (0 : Int))) (0 : Int)) < (((List.length c.2.2.2.2) : Nat) : Int)) ∧ (((0 : Int) ≤ s.1.1) ∧ ((s.1.1 < (((List.length (List.getD c.2.2.2.2 (Int.toNat (List.getD c.2.2.2.1 (Int.toNat (List.getD c.2.1 (Int.toNat s.1.1) (0 : Int))) (0 : Int))) ([] : List Int))) : Nat) : Int)) ∧ (((((compR c (List.getD c.2.2.2.1 (Int.toNat (List.getD c.2.1 (Int.toNat s.1.1) (0 : Int))) (0 : Int)) s.1.1) != s.1.1) = Bool.false) → ((s.1.1 < (((List.length c.2.2.1) : Nat) : Int)) ∧ ((0 : Int) ≤ s.1.1))) ∧ (((((compR c (List.getD c.2.2.2.1 (Int.toNat (List.getD c.2.1 (Int.toNat s.1.1) (0 : Int))) (0 : Int)) s.1.1) != s.1.1) = Bool.false) → (((List.getD c.2.2.1 (Int.toNat s.1.1) (0 : Int)) < (((List.length c.2.2.2.1) : Nat) : Int)) ∧ ((0 : Int) ≤ (List.getD c.2.2.1 (Int.toNat s.1.1) (0 : Int))))) ∧ (((((compR c (List.getD c.2.2.2.1 (Int.toNat (List.getD c.2.1 (Int.toNat s.1.1) (0 : Int))) (0 : Int)) s.1.1) != s.1.1) = Bool.false) → ((s.1.1 < (((List.length c.2.2.2.2) : Nat) : Int)) ∧ (((0 : Int) ≤ (List.getD c.2.2.2.1 (Int.toNat (List.getD c.2.2.1 (Int.toNat s.1.1) (0 : Int))) (0 : Int))) ∧ (((List.getD c.2.2.2.1 (Int.toNat (List.getD c.2.2.1 (Int.toNat s.1.1) (0 : Int))) (0 : Int)) < (((List.length (List.getD c.2.2.2.2 (Int.toNat s.1.1) ([] : List Int))) : Nat) : Int)) ∧ ((0 : Int) ≤ s.1.1))))) ∧ (cnd (((compR c (List.getD c.2.2.2.1 (Int.toNat (List.getD c.2.1 (Int.toNat s.1.1) (0 : Int))) (0 : Int)) s.1.1) != s.1.1) || ((compR c s.1.1 (List.getD c.2.2.2.1 (Int.toNat (List.getD c.2.2.1 (Int.toNat s.1.1) (0 : Int))) (0 : Int))) != s.1.1)) (K ((1 : Int), (s.1.1, ((0 : Int), ((0 : Int), ()))))) ((inK IntKind.i64 (s.1.1 + (1 : Int))) ∧ (next (((s.1.1 + (1 : Int)), ()), ()))))))))))))))) (loopW (S := ((Int × Unit) × Unit)) (fun s1 => (fun next1 => ((inK IntKind.i64 s1.1.1) → (cnd (decide (s1.1.1 < (((List.length c.2.1) : Nat) : Int))) (loopW (S := ((Int × Unit) × Unit)) (fun s2 => (fun next2 => ((inK IntKind.i64 s2.1.1) → (cnd (decide (s2.1.1 < (((List.length c.2.1) : Nat) : Int))) (joinW (S := (Unit × Unit)) (fun s3 => ((inK IntKind.i64 (s2.1.1 + (1 : Int))) ∧ (next2 (((s2.1.1 + (1 : Int)), ()), ())))) (fun k => (((0 : Int) ≤ s1.1.1) ∧ ((s1.1.1 < (((List.length c.2.2.2.2) : Nat) : Int)) ∧ (((0 : Int) ≤ s2.1.1) ∧ ((s2.1.1 < (((List.length (List.getD c.2.2.2.2 (Int.toNat s1.1.1) ([] : List Int))) : Nat) : Int)) ∧ (cnd (decide ((compR c s1.1.1 s2.1.1) < (0 : Int))) (k ((), ())) (loopW (S := ((Int × Unit) × Unit)) (fun s3 => (fun next3 => ((inK IntKind.i64 s3.1.1) → (cnd (decide (s3.1.1 < (((List.length c.2.1) : Nat) : Int))) (((0 : Int) ≤ s2.1.1) ∧ ((s2.1.1 < (((List.length c.2.2.2.2) : Nat) : Int)) ∧ (((0 : Int) ≤ s3.1.1) ∧ ((s3.1.1 < (((List.length (List.getD c.2.2.2.2 (Int.toNat s2.1.1) ([] : List Int))) : Nat) : Int)) ∧ ((((decide ((0 : Int) ≤ (compR c s2.1.1 s3.1.1))) = Bool.true) → ((s1.1.1 < (((List.length c.2.2.2.2) : Nat) : Int)) ∧ (((0 : Int) ≤ s2.1.1) ∧ ((s2.1.1 < (((List.length (List.getD c.2.2.2.2 (Int.toNat s1.1.1) ([] : List Int))) : Nat) : Int)) ∧ ((0 : Int) ≤ s1.1.1))))) ∧ ((((decide ((0 : Int) ≤ (compR c s2.1.1 s3.1.1))) = Bool.true) → (((compR c s1.1.1 s2.1.1) < (((List.length c.2.2.2.2) : Nat) : Int)) ∧ (((0 : Int) ≤ s3.1.1) ∧ ((s3.1.1 < (((List.length (List.getD c.2.2.2.2 (Int.toNat (compR c s1.1.1 s2.1.1)) ([] : List Int))) : Nat) : Int)) ∧ ((0 : Int) ≤ (compR c s1.1.1 s2.1.1)))))) ∧ ((((decide ((0 : Int) ≤ (compR c s2.1.1 s3.1.1))) = Bool.true) → ((s2.1.1 < (((List.length c.2.2.2.2) : Nat) : Int)) ∧ (((0 : Int) ≤ s3.1.1) ∧ ((s3.1.1 < (((List.length (List.getD c.2.2.2.2 (Int.toNat s2.1.1) ([] : List Int))) : Nat) : Int)) ∧ ((0 : Int) ≤ s2.1.1))))) ∧ ((((decide ((0 : Int) ≤ (compR c s2.1.1 s3.1.1))) = Bool.true) → ((s1.1.1 < (((List.length c.2.2.2.2) : Nat) : Int)) ∧ (((0 : Int) ≤ (compR c s2.1.1 s3.1.1)) ∧ (((compR c s2.1.1 s3.1.1) < (((List.length (List.getD c.2.2.2.2 (Int.toNat s1.1.1) ([] : List Int))) : Nat) : Int)) ∧ ((0 : Int) ≤ s1.1.1))))) ∧ (cnd ((decide ((0 : Int) ≤ (compR c s2.1.1 s3.1.1))) && ((compR c (compR c s1.1.1 s2.1.1) s3.1.1) != (compR c s1.1.1 (compR c s2.1.1 s3.1.1)))) (K ((2 : Int), (s1.1.1, (s2.1.1, (s3.1.1, ()))))) ((inK IntKind.i64 (s3.1.1 + (1 : Int))) ∧ (next3 (((s3.1.1 + (1 : Int)), ()), ())))))))))))) (k ((), ())))))) (((0 : Int), ()), ()))))))))) ((inK IntKind.i64 (s1.1.1 + (1 : Int))) ∧ (next1 (((s1.1.1 + (1 : Int)), ()), ()))))))) (((0 : Int), ()), ())) (K ((0 : Int), ((0 : Int), ((0 : Int), ((0 : Int), ()))))))))) (((0 : Int), ()), ())))))) (((0 : Int), ()), ()))
theorem w_impl_Category_fault (x : denL c_impl_Category_fault.args) (K : Int × Int × Int × Int × Unit → Prop) : evF tab (lkp [(146, c_impl_Category_arrows), (132, c_impl_Category_then)]) (cutL [(5, 38)]) Try.f169 (bodyOf Try.f169) (.s .n (.s .n (.s (.s .n (.l [(7, (.d (.int .i64)))] [] [0, 6] .n)) (.s (.s .n (.l [(8, (.d (.int .i64)))] [] [0, 6] (.s .n (.s (.s .n (.l [(9, (.d (.int .i64)))] [] [0, 6, 8] (.s .n (.s (.j [] [] [0, 6, 8, 9] (.s .n (.s .n (.l [(10, (.d (.int .i64)))] [] [0, 6, 8, 9] .n)))) .n)))) .n)))) .n)))) c_impl_Category_fault x K = W_impl_Category_fault x.1 K := by kernel_rfl
theorem k_impl_Category_fault : okC Try.f169.ntmps (cutL [(5, 38)]) (bodyOf Try.f169) = true := by kernel_rfl
theorem m_impl_Category_fault (c : CategoryD) (hok : allP (okL c_impl_Category_fault.args (c, ()))) (hpre : allP (c_impl_Category_fault.pre (c, ()))) : W_impl_Category_fault c (fun r => r = c_impl_Category_fault.res (c, ())) := by
  simp only [c_impl_Category_fault, okL, T.oks, T.ok, ap, allP, true_and, and_true, implies_true] at hok hpre
  try dsimp only [T.den] at hok
  try dsimp only [T.den] at hpre
  unfold W_impl_Category_fault
  have S : ShapeP c := hpre
  have hlt := S.lt
  have hli := S.li
  have hlc := S.lc
  have hmm := S.m
  have resq : ∀ a b d e, faultR c = (a, b, d, e) → (a, b, d, e, ()) = c_impl_Category_fault.res (c, ()) := fun a b d e h => by simp only [c_impl_Category_fault, h]
  refine loop_ix (n := c.2.1.length) (fun f => scanR (faultI c) c.2.1.length 0 = scanR (faultI c) ((c.2.1.length : Int) - f).toNat f) (by omega) scan_0 ?_ ?_
  · intro f next h0 h1 hP hn hin
    try dsimp only
    obtain ⟨a1, a2, a3, a4⟩ := S.frm h0 h1
    obtain ⟨b1, b2, _, _⟩ := S.idn a1 a2
    obtain ⟨d1, d2, _, _⟩ := S.idn a3 a4
    have r1 := S.row _ b1 b2
    have r2 := S.row f h0 h1
    refine cnd_d (fun _ => ⟨h0, h1, by omega, by omega, by omega, by omega, h0, by omega, fun _ => by omega, fun _ => by omega, fun _ => by omega, cnd_of (fun hx => resq _ _ _ _ ?_) (fun hx => ⟨by rw [inK64]; (try dsimp only); omega, hn ?_⟩)⟩) (fun h => absurd h1 h)
    · have : faultI c f = some (1, f, 0, 0) := by unfold faultI; rw [if_pos]; simpa using hx
      unfold faultR; rw [hP, scan_s h1 this]; rfl
    · have : faultI c f = none := by unfold faultI; rw [if_neg]; simpa using hx
      rw [hP, scan_c h1 this]
  intro next hI hin
  rw [scan_n] at hI
  refine cnd_d (fun h => absurd h (by dsimp only; omega)) (fun _ => ?_)
  have hF : faultR c = orR (scanR (faultF c) c.2.1.length 0) (0, 0, 0, 0) := by unfold faultR; rw [hI]; rfl
  refine loop_ix (n := c.2.1.length) (fun f => scanR (faultF c) c.2.1.length 0 = scanR (faultF c) ((c.2.1.length : Int) - f).toNat f) (by omega) scan_0 ?_ ?_
  · intro f next h0 h1 hP hn hin
    try dsimp only
    refine cnd_d (fun _ => ?_) (fun h => absurd h1 h)
    have r1 := S.row f h0 h1
    refine loop_ix (n := c.2.1.length) (fun g => faultF c f = scanR (faultG c f) ((c.2.1.length : Int) - g).toNat g) (by omega) scan_0 ?_ ?_
    · intro g next3 g0 g1 hP3 hn3 hin3
      try dsimp only
      refine cnd_d (fun _ => ?_) (fun h => absurd g1 h)
      have r2 := S.row g g0 g1
      refine join_of (fun _ => faultG c f g = none) (fun _ hG => ⟨by rw [inK64]; (try dsimp only); omega, hn3 (by rw [hP3, scan_c g1 hG])⟩) (fun k hk => ?_)
      have hk' := hk ((), ())
      refine ⟨by omega, by omega, by omega, by omega, cnd_d (fun hx => hk' ?_) (fun hx => ?_)⟩
      · unfold faultG; rw [if_neg]; intro e; have := (S.comp h0 h1 g0 g1).2 e; omega
      have hfg := (S.comp h0 h1 g0 g1).1 (by omega)
      obtain ⟨y1, y2, _, _⟩ := S.yes h0 h1 g0 g1 hfg
      refine loop_ix (n := c.2.1.length) (fun h => faultG c f g = scanR (faultH c f g) ((c.2.1.length : Int) - h).toNat h) (by omega) (by unfold faultG; rw [if_pos hfg]; exact scan_0) ?_ ?_
      · intro h next4 i0 i1 hP4 hn4 hin4
        try dsimp only
        refine cnd_d (fun _ => ?_) (fun h => absurd i1 h)
        have r3 := S.row _ y1 y2
        have cgh := S.comp g0 g1 i0 i1
        have ygh := @ShapeP.yes c S g h g0 g1 i0 i1
        refine ⟨by omega, by omega, by omega, by omega, fun _ => by omega, fun _ => by omega, fun _ => by omega, fun he => ?_, cnd_of (fun hx => resq _ _ _ _ ?_) (fun hx => ⟨by rw [inK64]; (try dsimp only); omega, hn4 ?_⟩)⟩
        · have := ygh (cgh.1 (by simpa using he)); omega
        · have : faultH c f g h = some (2, f, g, h) := by unfold faultH; rw [if_pos]; rw [← cgh]; simpa using hx
          have e1 : faultG c f g = some (2, f, g, h) := by rw [hP4, scan_s i1 this]
          have e2 : faultF c f = some (2, f, g, h) := by rw [hP3, scan_s g1 e1]
          rw [hF, hP, scan_s h1 e2]; rfl
        · have : faultH c f g h = none := by unfold faultH; rw [if_neg]; rw [← cgh]; simpa using hx
          rw [hP4, scan_c i1 this]
      · intro next4 hP4 hin4
        rw [scan_n] at hP4
        exact cnd_d (fun h => absurd h (by dsimp only; omega)) (fun _ => hk' hP4)
    · intro next3 hP3 hin3
      rw [scan_n] at hP3
      exact cnd_d (fun h => absurd h (by dsimp only; omega)) (fun _ => ⟨by rw [inK64]; (try dsimp only); omega, hn (by rw [hP, scan_c h1 hP3])⟩)
  · intro next2 hP2 hin2
    rw [scan_n] at hP2
    refine cnd_d (fun h => absurd h (by dsimp only; omega)) (fun _ => resq _ _ _ _ ?_)
    rw [hF, hP2]; rfl
theorem ct_impl_Category_fault : CtOk Try.prog 169 c_impl_Category_fault :=
  ct_by (Φ := lkp [(146, c_impl_Category_arrows), (132, c_impl_Category_then)]) (good_cons ct_impl_Category_arrows (good_cons ct_impl_Category_then good_nil)) tab_ok (by kernel_rfl) (fn := Try.f169) (c := bodyOf Try.f169) (by kernel_rfl) (by kernel_rfl) (by kernel_rfl) c_impl_Category_fault rfl (.s .n (.s .n (.s (.s .n (.l [(7, (.d (.int .i64)))] [] [0, 6] .n)) (.s (.s .n (.l [(8, (.d (.int .i64)))] [] [0, 6] (.s .n (.s (.s .n (.l [(9, (.d (.int .i64)))] [] [0, 6, 8] (.s .n (.s (.j [] [] [0, 6, 8, 9] (.s .n (.s .n (.l [(10, (.d (.int .i64)))] [] [0, 6, 8, 9] .n)))) .n)))) .n)))) .n)))) (cutL [(5, 38)]) (by kernel_rfl) (by kernel_rfl) k_impl_Category_fault (by decide) (fun x K => W_impl_Category_fault x.1 K) w_impl_Category_fault (fun x h1 h2 => m_impl_Category_fault x.1 h1 h2)
def catR (c : CategoryD) : Bool := shapeR c && (faultR c).1 == 0

def c_impl_Category_isCategory : Ct := ⟨[(.pt CategoryT)], [false], fun x => [], [(false, (.fz .bool))], fun x => (catR x.1, ()), false, none⟩
def W_impl_Category_isCategory (c : CategoryD) (K : Bool × Unit → Prop) : Prop := (cnd (!(shapeR c)) (K (Bool.false, ())) ((ShapeP c) ∧ (K (((faultR c).1 == (0 : Int)), ()))))
theorem w_impl_Category_isCategory (x : denL c_impl_Category_isCategory.args) (K : Bool × Unit → Prop) : evF tab (lkp [(169, c_impl_Category_fault), (168, c_impl_Category_isShape)]) (cutL []) Try.f143 (bodyOf Try.f143) .n c_impl_Category_isCategory x K = W_impl_Category_isCategory x.1 K := by kernel_rfl
theorem k_impl_Category_isCategory : okC Try.f143.ntmps (cutL []) (bodyOf Try.f143) = true := by kernel_rfl
theorem m_impl_Category_isCategory (c : CategoryD) (hok : allP (okL c_impl_Category_isCategory.args (c, ()))) (hpre : allP (c_impl_Category_isCategory.pre (c, ()))) : W_impl_Category_isCategory c (fun r => r = c_impl_Category_isCategory.res (c, ())) := by
  simp only [c_impl_Category_isCategory, okL, T.oks, T.ok, ap, allP, true_and, and_true, implies_true] at hok hpre
  try dsimp only [T.den] at hok
  try dsimp only [T.den] at hpre
  unfold W_impl_Category_isCategory
  simp only [c_impl_Category_isCategory, catR]
  have := @shape_iff c
  grind [cnd, nb_eq, inK64]
theorem ct_impl_Category_isCategory : CtOk Try.prog 143 c_impl_Category_isCategory :=
  ct_by (Φ := lkp [(169, c_impl_Category_fault), (168, c_impl_Category_isShape)]) (good_cons ct_impl_Category_fault (good_cons ct_impl_Category_isShape good_nil)) tab_ok (by kernel_rfl) (fn := Try.f143) (c := bodyOf Try.f143) (by kernel_rfl) (by kernel_rfl) (by kernel_rfl) c_impl_Category_isCategory rfl .n (cutL []) (by kernel_rfl) (by kernel_rfl) k_impl_Category_isCategory (by decide) (fun x K => W_impl_Category_isCategory x.1 K) w_impl_Category_isCategory (fun x h1 h2 => m_impl_Category_isCategory x.1 h1 h2)
def objCodeR (c : CategoryD) (l : List Int) : Int := if catR c = true then (if withinR l c.1 = true then 0 else 2) else 1
theorem cat_shape {c : CategoryD} (h : catR c = true) : ShapeP c := by
  simp only [catR, Bool.and_eq_true] at h; exact shape_iff.1 h.1

def sfActR (f : SetFunctorD) (a : Int) : Bool := decide (((f.2.2.getD a.toNat []).length : Int) = f.2.1.getD (f.1.2.1.getD a.toNat 0).toNat 0) && withinR (f.2.2.getD a.toNat []) (f.2.1.getD (f.1.2.2.1.getD a.toNat 0).toNat 0)
def sfShapeR (f : SetFunctorD) : Bool := catR f.1 && decide ((f.2.1.length : Int) = f.1.1) && withinR f.2.1 17 && decide (f.2.2.length = f.1.2.1.length) && allB f.2.2.length (sfActR f)
structure SfP (f : SetFunctorD) : Prop where
  cat : catR f.1 = true
  lz : (f.2.1.length : Int) = f.1.1
  wz : withinR f.2.1 17 = true
  la : f.2.2.length = f.1.2.1.length
  act : ∀ a : Int, 0 ≤ a → a < f.1.2.1.length → ((f.2.2.getD a.toNat []).length : Int) = f.2.1.getD (f.1.2.1.getD a.toNat 0).toNat 0 ∧ withinR (f.2.2.getD a.toNat []) (f.2.1.getD (f.1.2.2.1.getD a.toNat 0).toNat 0) = true
theorem sf_iff {f : SetFunctorD} : sfShapeR f = true ↔ SfP f := by
  simp only [sfShapeR, sfActR, Bool.and_eq_true, decide_eq_true_eq, allB_iff]
  constructor
  · rintro ⟨⟨⟨⟨h1, h2⟩, h3⟩, h4⟩, h5⟩
    exact ⟨h1, h2, h3, h4, fun a a0 a1 => h5 a a0 (by omega)⟩
  · rintro ⟨h1, h2, h3, h4, h5⟩
    exact ⟨⟨⟨⟨h1, h2⟩, h3⟩, h4⟩, fun a a0 a1 => h5 a a0 (by omega)⟩
theorem SfP.size {f : SetFunctorD} (S : SfP f) {x : Int} (h0 : 0 ≤ x) (h1 : x < f.1.1) : 0 ≤ f.2.1.getD x.toNat 0 ∧ f.2.1.getD x.toNat 0 ≤ 16 := by
  have := within_iff.1 S.wz x h0 (by have := S.lz; omega)
  exact ⟨this.1, by omega⟩
/-- what an arrow does to an element -/
def actR (f : SetFunctorD) (a e : Int) : Int := (f.2.2.getD a.toNat []).getD e.toNat 0
theorem SfP.at_ {f : SetFunctorD} (S : SfP f) {a e : Int} (h0 : 0 ≤ a) (h1 : a < f.1.2.1.length) (e0 : 0 ≤ e) (e1 : e < f.2.1.getD (f.1.2.1.getD a.toNat 0).toNat 0) :
    e < (f.2.2.getD a.toNat []).length ∧ 0 ≤ actR f a e ∧ actR f a e < f.2.1.getD (f.1.2.2.1.getD a.toNat 0).toNat 0 := by
  obtain ⟨k1, k2⟩ := S.act a h0 h1
  have := within_iff.1 k2 e e0 (by omega)
  exact ⟨by omega, this.1, this.2⟩

def c_impl_SetFunctor_isShape : Ct := ⟨[(.pt SetFunctorT)], [false], fun x => [], [(false, (.fz .bool))], fun x => (sfShapeR x.1, ()), false, none⟩
def W_impl_SetFunctor_isShape (f : SetFunctorD) (K : Bool × Unit → Prop) : Prop := (((((!(catR f.1)) || ((((List.length f.2.1) : Nat) : Int) != f.1.1)) = Bool.false) → (inK IntKind.i64 ((17 : Int) - (1 : Int)))) ∧ (cnd ((((!(catR f.1)) || ((((List.length f.2.1) : Nat) : Int) != f.1.1)) || (!(withinR f.2.1 (17 : Int)))) || ((((List.length f.2.2) : Nat) : Int) != (((List.length f.1.2.1) : Nat) : Int))) (K (Bool.false, ())) (loopW (S := ((Int × Unit) × Unit)) (fun s => (fun next => ((inK IntKind.i64 s.1.1) → (cnd (decide (s.1.1 < (((List.length f.2.2) : Nat) : Int))) (((0 : Int) ≤ s.1.1) ∧ ((s.1.1 < (((List.length f.2.2) : Nat) : Int)) ∧ (((0 : Int) ≤ s.1.1) ∧ ((s.1.1 < (((List.length f.1.2.1) : Nat) : Int)) ∧ (((0 : Int) ≤ (List.getD f.1.2.1 (Int.toNat s.1.1) (0 : Int))) ∧ (((List.getD f.1.2.1 (Int.toNat s.1.1) (0 : Int)) < (((List.length f.2.1) : Nat) : Int)) ∧ (((0 : Int) ≤ s.1.1) ∧ ((s.1.1 < (((List.length f.1.2.2.1) : Nat) : Int)) ∧ (((0 : Int) ≤ (List.getD f.1.2.2.1 (Int.toNat s.1.1) (0 : Int))) ∧ (((List.getD f.1.2.2.1 (Int.toNat s.1.1) (0 : Int)) < (((List.length f.2.1) : Nat) : Int)) ∧ ((inK IntKind.i64 ((List.getD f.2.1 (Int.toNat (List.getD f.1.2.2.1 (Int.toNat s.1.1) (0 : Int))) (0 : Int)) - (1 : Int))) ∧ (cnd (!((decide ((((List.length (List.getD f.2.2 (Int.toNat s.1.1) ([] : List Int))) : Nat) : Int) = (List.getD f.2.1 (Int.toNat (List.getD f.1.2.1 (Int.toNat s.1.1) (0 : Int))) (0 : Int)))) && (withinR (List.getD f.2.2 (Int.toNat s.1.1) ([] : List Int)) (List.getD f.2.1 (Int.toNat (List.getD f.1.2.2.1 (Int.toNat s.1.1) (0 : Int))) (0 : Int))))) (K (Bool.false, ())) ((inK IntKind.i64 (s.1.1 + (1 : Int))) ∧ (next (((s.1.1 + (1 : Int)), ()), ()))))))))))))))) (K (Bool.true, ())))))) (((0 : Int), ()), ()))))
theorem w_impl_SetFunctor_isShape (x : denL c_impl_SetFunctor_isShape.args) (K : Bool × Unit → Prop) : evF tab (lkp [(146, c_impl_Category_arrows), (143, c_impl_Category_isCategory), (166, c_impl_isMapOf), (158, c_impl_within)]) (cutL [(2, 33), (7, 29)]) Try.f155 (bodyOf Try.f155) (.s .n (.s .n (.s .n (.s (.s .n (.l [(47, (.d (.int .i64)))] [] [0, 3, 45, 46] .n)) .n)))) c_impl_SetFunctor_isShape x K = W_impl_SetFunctor_isShape x.1 K := by kernel_rfl
theorem k_impl_SetFunctor_isShape : okC Try.f155.ntmps (cutL [(2, 33), (7, 29)]) (bodyOf Try.f155) = true := by kernel_rfl
theorem m_impl_SetFunctor_isShape (f : SetFunctorD) (hok : allP (okL c_impl_SetFunctor_isShape.args (f, ()))) (hpre : allP (c_impl_SetFunctor_isShape.pre (f, ()))) : W_impl_SetFunctor_isShape f (fun r => r = c_impl_SetFunctor_isShape.res (f, ())) := by
  simp only [c_impl_SetFunctor_isShape, okL, T.oks, T.ok, ap, allP, true_and, and_true, implies_true] at hok hpre
  try dsimp only [T.den] at hok
  try dsimp only [T.den] at hpre
  unfold W_impl_SetFunctor_isShape
  have hv : sfShapeR f = (catR f.1 && decide ((f.2.1.length : Int) = f.1.1) && withinR f.2.1 17 && decide (f.2.2.length = f.1.2.1.length) && allB f.2.2.length (sfActR f)) := rfl
  have res : ∀ b, sfShapeR f = b → (b, ()) = c_impl_SetFunctor_isShape.res (f, ()) := fun b h => by simp only [c_impl_SetFunctor_isShape, h]
  refine ⟨fun _ => by rw [inK64]; (try dsimp only); omega, cnd_of (fun hc => res _ ?_) (fun hc => ?_)⟩
  · rw [hv]; revert hc
    cases catR f.1 <;> cases withinR f.2.1 17 <;> simp
    omega
  simp only [Bool.or_eq_false_iff, Bool.not_eq_false', bne_eq_false_iff_eq] at hc
  obtain ⟨⟨⟨h1, h2⟩, h3⟩, h4⟩ := hc
  have h4' : f.2.2.length = f.1.2.1.length := by omega
  rw [h1, decide_eq_true h2, h3, decide_eq_true h4'] at hv
  simp only [Bool.true_and] at hv
  have S := cat_shape h1
  have hlt := S.lt
  have hm := S.m
  refine loop_allB f.2.2.length (sfActR f) ?_ ?_
  · intro a next a0 a1 hno hyes _
    try dsimp only
    obtain ⟨k1, k2, k3, k4⟩ := S.frm a0 (by omega)
    have hz := within_iff.1 h3 _ k3 (by omega)
    refine cnd_d (fun _ => ⟨a0, a1, a0, by omega, k1, by omega, a0, by omega, k3, by omega, by rw [inK64]; (try dsimp only); omega, cnd_of (fun hx => res _ ?_) (fun hx => ⟨by rw [inK64]; (try dsimp only); omega, hyes ?_⟩)⟩) (fun h => absurd a1 h)
    · rw [hv]; refine hno ?_; unfold sfActR; revert hx; cases withinR (f.2.2.getD a.toNat []) (f.2.1.getD (f.1.2.2.1.getD a.toNat 0).toNat 0) <;> simp
    · unfold sfActR; simpa using hx
  · intro next h _
    exact cnd_d (fun h => absurd h (Int.lt_irrefl _)) (fun _ => res _ (by rw [hv, h]))
theorem ct_impl_SetFunctor_isShape : CtOk Try.prog 155 c_impl_SetFunctor_isShape :=
  ct_by (Φ := lkp [(146, c_impl_Category_arrows), (143, c_impl_Category_isCategory), (166, c_impl_isMapOf), (158, c_impl_within)]) (good_cons ct_impl_Category_arrows (good_cons ct_impl_Category_isCategory (good_cons ct_impl_isMapOf (good_cons ct_impl_within good_nil)))) tab_ok (by kernel_rfl) (fn := Try.f155) (c := bodyOf Try.f155) (by kernel_rfl) (by kernel_rfl) (by kernel_rfl) c_impl_SetFunctor_isShape rfl (.s .n (.s .n (.s .n (.s (.s .n (.l [(47, (.d (.int .i64)))] [] [0, 3, 45, 46] .n)) .n)))) (cutL [(2, 33), (7, 29)]) (by kernel_rfl) (by kernel_rfl) k_impl_SetFunctor_isShape (by decide) (fun x K => W_impl_SetFunctor_isShape x.1 K) w_impl_SetFunctor_isShape (fun x h1 h2 => m_impl_SetFunctor_isShape x.1 h1 h2)
def sfI (f : SetFunctorD) (x e : Int) : Option (Int × Int × Int × Int) := if actR f (f.1.2.2.2.1.getD x.toNat 0) e ≠ e then some (1, x, e, 0) else none
def sfIx (f : SetFunctorD) (x : Int) : Option (Int × Int × Int × Int) := scanR (sfI f x) (f.2.1.getD x.toNat 0).toNat 0
def sfC (f : SetFunctorD) (a b e : Int) : Option (Int × Int × Int × Int) := if actR f (compR f.1 a b) e ≠ actR f b (actR f a e) then some (2, a, b, e) else none
def sfCb (f : SetFunctorD) (a b : Int) : Option (Int × Int × Int × Int) := if f.1.2.2.1.getD a.toNat 0 = f.1.2.1.getD b.toNat 0 then scanR (sfC f a b) (f.2.1.getD (f.1.2.1.getD a.toNat 0).toNat 0).toNat 0 else none
def sfCa (f : SetFunctorD) (a : Int) : Option (Int × Int × Int × Int) := scanR (sfCb f a) f.1.2.1.length 0
def sfFaultR (f : SetFunctorD) : Int × Int × Int × Int := orR (scanR (sfIx f) f.1.1.toNat 0) (orR (scanR (sfCa f) f.1.2.1.length 0) (0, 0, 0, 0))

def c_impl_SetFunctor_fault : Ct := ⟨[(.pt SetFunctorT)], [false], fun x => [SfP x.1], [(false, (.fz (.int .i64))), (false, (.fz (.int .i64))), (false, (.fz (.int .i64))), (false, (.fz (.int .i64)))], fun x => ((sfFaultR x.1).1, (sfFaultR x.1).2.1, (sfFaultR x.1).2.2.1, (sfFaultR x.1).2.2.2, ()), false, none⟩
def W_impl_SetFunctor_fault (f : SetFunctorD) (K : Int × Int × Int × Int × Unit → Prop) : Prop := (loopW (S := ((Int × Unit) × Unit)) (fun s => (fun next => ((inK IntKind.i64 s.1.1) → (cnd (decide (s.1.1 < (((List.length f.1.2.2.2.1) : Nat) : Int))) (((0 : Int) ≤ s.1.1) ∧ ((s.1.1 < (((List.length f.1.2.2.2.1) : Nat) : Int)) ∧ (((0 : Int) ≤ (List.getD f.1.2.2.2.1 (Int.toNat s.1.1) (0 : Int))) ∧ (((List.getD f.1.2.2.2.1 (Int.toNat s.1.1) (0 : Int)) < (((List.length f.2.2) : Nat) : Int)) ∧ (loopW (S := ((Int × Unit) × Unit)) (fun s1 => (fun next1 => ((inK IntKind.i64 s1.1.1) → (cnd (decide (s1.1.1 < (((List.length (List.getD f.2.2 (Int.toNat (List.getD f.1.2.2.2.1 (Int.toNat s.1.1) (0 : Int))) ([] : List Int))) : Nat) : Int))) (((0 : Int) ≤ s1.1.1) ∧ ((s1.1.1 < (((List.length (List.getD f.2.2 (Int.toNat (List.getD f.1.2.2.2.1 (Int.toNat s.1.1) (0 : Int))) ([] : List Int))) : Nat) : Int)) ∧ (cnd ((List.getD (List.getD f.2.2 (Int.toNat (List.getD f.1.2.2.2.1 (Int.toNat s.1.1) (0 : Int))) ([] : List Int)) (Int.toNat s1.1.1) (0 : Int)) != s1.1.1) (K ((1 : Int), (s.1.1, (s1.1.1, ((0 : Int), ()))))) ((inK IntKind.i64 (s1.1.1 + (1 : Int))) ∧ (next1 (((s1.1.1 + (1 : Int)), ()), ())))))) ((inK IntKind.i64 (s.1.1 + (1 : Int))) ∧ (next (((s.1.1 + (1 : Int)), ()), ()))))))) (((0 : Int), ()), ())))))) (loopW (S := ((Int × Unit) × Unit)) (fun s1 => (fun next1 => ((inK IntKind.i64 s1.1.1) → (cnd (decide (s1.1.1 < (((List.length f.1.2.2.2.2) : Nat) : Int))) (((0 : Int) ≤ s1.1.1) ∧ ((s1.1.1 < (((List.length f.1.2.2.2.2) : Nat) : Int)) ∧ (loopW (S := ((Int × Unit) × Unit)) (fun s2 => (fun next2 => ((inK IntKind.i64 s2.1.1) → (cnd (decide (s2.1.1 < (((List.length (List.getD f.1.2.2.2.2 (Int.toNat s1.1.1) ([] : List Int))) : Nat) : Int))) (joinW (S := (Unit × Unit)) (fun s3 => ((inK IntKind.i64 (s2.1.1 + (1 : Int))) ∧ (next2 (((s2.1.1 + (1 : Int)), ()), ())))) (fun k => (((0 : Int) ≤ s2.1.1) ∧ ((s2.1.1 < (((List.length (List.getD f.1.2.2.2.2 (Int.toNat s1.1.1) ([] : List Int))) : Nat) : Int)) ∧ (cnd (decide ((List.getD (List.getD f.1.2.2.2.2 (Int.toNat s1.1.1) ([] : List Int)) (Int.toNat s2.1.1) (0 : Int)) < (0 : Int))) (k ((), ())) (((0 : Int) ≤ s1.1.1) ∧ ((s1.1.1 < (((List.length f.2.2) : Nat) : Int)) ∧ (loopW (S := ((Int × Unit) × Unit)) (fun s3 => (fun next3 => ((inK IntKind.i64 s3.1.1) → (cnd (decide (s3.1.1 < (((List.length (List.getD f.2.2 (Int.toNat s1.1.1) ([] : List Int))) : Nat) : Int))) (((0 : Int) ≤ s3.1.1) ∧ ((s3.1.1 < (((List.length (List.getD f.2.2 (Int.toNat s1.1.1) ([] : List Int))) : Nat) : Int)) ∧ (((0 : Int) ≤ (List.getD (List.getD f.1.2.2.2.2 (Int.toNat s1.1.1) ([] : List Int)) (Int.toNat s2.1.1) (0 : Int))) ∧ (((List.getD (List.getD f.1.2.2.2.2 (Int.toNat s1.1.1) ([] : List Int)) (Int.toNat s2.1.1) (0 : Int)) < (((List.length f.2.2) : Nat) : Int)) ∧ (((0 : Int) ≤ s3.1.1) ∧ ((s3.1.1 < (((List.length (List.getD f.2.2 (Int.toNat (List.getD (List.getD f.1.2.2.2.2 (Int.toNat s1.1.1) ([] : List Int)) (Int.toNat s2.1.1) (0 : Int))) ([] : List Int))) : Nat) : Int)) ∧ (((0 : Int) ≤ s2.1.1) ∧ ((s2.1.1 < (((List.length f.2.2) : Nat) : Int)) ∧ (((0 : Int) ≤ (List.getD (List.getD f.2.2 (Int.toNat s1.1.1) ([] : List Int)) (Int.toNat s3.1.1) (0 : Int))) ∧ (((List.getD (List.getD f.2.2 (Int.toNat s1.1.1) ([] : List Int)) (Int.toNat s3.1.1) (0 : Int)) < (((List.length (List.getD f.2.2 (Int.toNat s2.1.1) ([] : List Int))) : Nat) : Int)) ∧ (cnd ((List.getD (List.getD f.2.2 (Int.toNat (List.getD (List.getD f.1.2.2.2.2 (Int.toNat s1.1.1) ([] : List Int)) (Int.toNat s2.1.1) (0 : Int))) ([] : List Int)) (Int.toNat s3.1.1) (0 : Int)) != (List.getD (List.getD f.2.2 (Int.toNat s2.1.1) ([] : List Int)) (Int.toNat (List.getD (List.getD f.2.2 (Int.toNat s1.1.1) ([] : List Int)) (Int.toNat s3.1.1) (0 : Int))) (0 : Int))) (K ((2 : Int), (s1.1.1, (s2.1.1, (s3.1.1, ()))))) ((inK IntKind.i64 (s3.1.1 + (1 : Int))) ∧ (next3 (((s3.1.1 + (1 : Int)), ()), ())))))))))))))) (k ((), ())))))) (((0 : Int), ()), ()))))))))) ((inK IntKind.i64 (s1.1.1 + (1 : Int))) ∧ (next1 (((s1.1.1 + (1 : Int)), ()), ()))))))) (((0 : Int), ()), ())))) (K ((0 : Int), ((0 : Int), ((0 : Int), ((0 : Int), ()))))))))) (((0 : Int), ()), ())))))) (((0 : Int), ()), ()))
theorem w_impl_SetFunctor_fault (x : denL c_impl_SetFunctor_fault.args) (K : Int × Int × Int × Int × Unit → Prop) : evF tab (lkp []) (cutL [(22, 21)]) Try.f156 (bodyOf Try.f156) (.s .n (.s .n (.s (.s .n (.l [(25, (.d (.int .i64)))] [] [0, 6, 23, 24] (.s .n (.s .n (.s (.s .n (.s .n (.l [(38, (.d (.int .i64)))] [] [0, 6, 7, 23, 24, 25, 36, 37] .n))) .n))))) (.s (.s .n (.l [(55, (.d (.int .i64)))] [] [0, 53, 54] (.s .n (.s .n (.s (.s .n (.s .n (.l [(62, (.d (.int .i64)))] [] [0, 11, 53, 54, 55, 60, 61] (.s .n (.s .n (.s (.j [] [] [0, 11, 53, 54, 55, 60, 61, 62] (.s .n (.s .n (.s .n (.l [(77, (.d (.int .i64)))] [] [0, 11, 13, 14, 53, 54, 55, 60, 61, 62, 75, 76] .n))))) .n)))))) .n))))) .n)))) c_impl_SetFunctor_fault x K = W_impl_SetFunctor_fault x.1 K := by kernel_rfl
theorem k_impl_SetFunctor_fault : okC Try.f156.ntmps (cutL [(22, 21)]) (bodyOf Try.f156) = true := by kernel_rfl
theorem m_impl_SetFunctor_fault (f : SetFunctorD) (hok : allP (okL c_impl_SetFunctor_fault.args (f, ()))) (hpre : allP (c_impl_SetFunctor_fault.pre (f, ()))) : W_impl_SetFunctor_fault f (fun r => r = c_impl_SetFunctor_fault.res (f, ())) := by
  simp only [c_impl_SetFunctor_fault, okL, T.oks, T.ok, ap, allP, true_and, and_true, implies_true] at hok hpre
  try dsimp only [T.den] at hok
  try dsimp only [T.den] at hpre
  unfold W_impl_SetFunctor_fault
  have P : SfP f := hpre
  have S := cat_shape P.cat
  have hlt := S.lt
  have hli := S.li
  have hlc := S.lc
  have hmm := S.m
  have hob := S.ob
  have hlz := P.lz
  have hla := P.la
  have resq : ∀ a b d e, sfFaultR f = (a, b, d, e) → (a, b, d, e, ()) = c_impl_SetFunctor_fault.res (f, ()) := fun a b d e h => by simp only [c_impl_SetFunctor_fault, h]
  have hac : ∀ a e : Int, (f.2.2.getD a.toNat []).getD e.toNat 0 = actR f a e := fun _ _ => rfl
  have hcr : ∀ a b : Int, (f.1.2.2.2.2.getD a.toNat []).getD b.toNat 0 = compR f.1 a b := fun _ _ => rfl
  simp only [hac, hcr]
  refine loop_ix (n := f.1.1) (fun x => scanR (sfIx f) f.1.1.toNat 0 = scanR (sfIx f) (f.1.1 - x).toNat x) (by omega) (by rw [Int.sub_zero]) ?_ ?_
  · intro x next x0 x1 hP hn hin
    try dsimp only
    obtain ⟨b1, b2, b3, b4⟩ := S.idn x0 x1
    obtain ⟨z1, z2⟩ := P.size x0 x1
    obtain ⟨q1, q2⟩ := P.act _ b1 b2
    rw [b3] at q1
    refine cnd_d (fun _ => ⟨x0, by omega, b1, by omega, ?_⟩) (fun h => absurd h (by omega))
    refine loop_ix (n := f.2.1.getD x.toNat 0) (fun e => sfIx f x = scanR (sfI f x) (f.2.1.getD x.toNat 0 - e).toNat e) z1 (by unfold sfIx; rw [Int.sub_zero]) ?_ ?_
    · intro e next2 e0 e1 hP2 hn2 hin2
      try dsimp only
      refine cnd_d (fun _ => ⟨e0, by omega, cnd_of (fun hx => resq _ _ _ _ ?_) (fun hx => ⟨by rw [inK64]; (try dsimp only); omega, hn2 ?_⟩)⟩) (fun h => absurd h (by omega))
      · have k1 : sfI f x e = some (1, x, e, 0) := by unfold sfI; rw [if_pos]; simpa using hx
        have k2 : sfIx f x = some (1, x, e, 0) := by rw [hP2, scan_s e1 k1]
        unfold sfFaultR; rw [hP, scan_s x1 k2]; rfl
      · have k1 : sfI f x e = none := by unfold sfI; rw [if_neg]; simpa using hx
        rw [hP2, scan_c e1 k1]
    · intro next2 hP2 hin2
      try dsimp only
      rw [scan_n] at hP2
      exact cnd_d (fun h => absurd h (by omega)) (fun _ => ⟨by rw [inK64]; (try dsimp only); omega, hn (by rw [hP, scan_c x1 hP2])⟩)
  intro next hI hin
  rw [scan_n] at hI
  refine cnd_d (fun h => absurd h (by dsimp only; omega)) (fun _ => ?_)
  have hF : sfFaultR f = orR (scanR (sfCa f) f.1.2.1.length 0) (0, 0, 0, 0) := by unfold sfFaultR; rw [hI]; rfl
  refine loop_ix (n := f.1.2.1.length) (fun a => scanR (sfCa f) f.1.2.1.length 0 = scanR (sfCa f) ((f.1.2.1.length : Int) - a).toNat a) (by omega) scan_0 ?_ ?_
  · intro a next a0 a1 hP hn hin
    try dsimp only
    have r1 := S.row a a0 a1
    obtain ⟨q1, q2⟩ := P.act _ a0 a1
    obtain ⟨fa1, fa2, ta1, ta2⟩ := S.frm a0 a1
    obtain ⟨z1, z2⟩ := P.size fa1 fa2
    refine cnd_d (fun _ => ⟨a0, by omega, ?_⟩) (fun h => absurd h (by omega))
    refine loop_ix (n := f.1.2.1.length) (fun b => sfCa f a = scanR (sfCb f a) ((f.1.2.1.length : Int) - b).toNat b) (by omega) scan_0 ?_ ?_
    · intro b next2 b0 b1 hP2 hn2 hin2
      try dsimp only
      refine cnd_d (fun _ => ?_) (fun h => absurd h (by omega))
      refine join_of (fun _ => sfCb f a b = none) (fun _ hG => ⟨by rw [inK64]; (try dsimp only); omega, hn2 (by rw [hP2, scan_c b1 hG])⟩) (fun k hk => ?_)
      have hk' := hk ((), ())
      refine ⟨b0, by omega, cnd_d (fun hx => hk' ?_) (fun hx => ?_)⟩
      · unfold sfCb; rw [if_neg]; intro e; have := (S.comp a0 a1 b0 b1).2 e; omega
      have hab := (S.comp a0 a1 b0 b1).1 (by omega)
      obtain ⟨y1, y2, y3, y4⟩ := S.yes a0 a1 b0 b1 hab
      obtain ⟨p1, p2⟩ := P.act _ y1 y2
      rw [y3] at p1
      obtain ⟨p3, p4⟩ := P.act _ b0 b1
      rw [← hab] at p3
      refine ⟨a0, by omega, ?_⟩
      refine loop_ix (n := f.2.1.getD (f.1.2.1.getD a.toNat 0).toNat 0) (fun e => sfCb f a b = scanR (sfC f a b) (f.2.1.getD (f.1.2.1.getD a.toNat 0).toNat 0 - e).toNat e) z1 (by unfold sfCb; rw [if_pos hab, Int.sub_zero]) ?_ ?_
      · intro e next3 e0 e1 hP3 hn3 hin3
        try dsimp only
        obtain ⟨m1, m2, m3⟩ := P.at_ a0 a1 e0 e1
        refine cnd_d (fun _ => ⟨e0, by omega, y1, by omega, e0, by omega, b0, by omega, m2, by omega, cnd_of (fun hx => resq _ _ _ _ ?_) (fun hx => ⟨by rw [inK64]; (try dsimp only); omega, hn3 ?_⟩)⟩) (fun h => absurd h (by omega))
        · have k0 : sfC f a b e = some (2, a, b, e) := by unfold sfC; rw [if_pos]; simpa using hx
          have k1 : sfCb f a b = some (2, a, b, e) := by rw [hP3, scan_s e1 k0]
          have k2 : sfCa f a = some (2, a, b, e) := by rw [hP2, scan_s b1 k1]
          rw [hF, hP, scan_s a1 k2]; rfl
        · have k0 : sfC f a b e = none := by unfold sfC; rw [if_neg]; simpa using hx
          rw [hP3, scan_c e1 k0]
      · intro next3 hP3 hin3
        try dsimp only
        rw [scan_n] at hP3
        exact cnd_d (fun h => absurd h (by omega)) (fun _ => hk' hP3)
    · intro next2 hP2 hin2
      try dsimp only
      rw [scan_n] at hP2
      exact cnd_d (fun h => absurd h (by omega)) (fun _ => ⟨by rw [inK64]; (try dsimp only); omega, hn (by rw [hP, scan_c a1 hP2])⟩)
  · intro next2 hP2 hin2
    rw [scan_n] at hP2
    refine cnd_d (fun h => absurd h (by dsimp only; omega)) (fun _ => resq _ _ _ _ ?_)
    rw [hF, hP2]; rfl
theorem ct_impl_SetFunctor_fault : CtOk Try.prog 156 c_impl_SetFunctor_fault :=
  ct_by (Φ := lkp []) good_nil tab_ok (by kernel_rfl) (fn := Try.f156) (c := bodyOf Try.f156) (by kernel_rfl) (by kernel_rfl) (by kernel_rfl) c_impl_SetFunctor_fault rfl (.s .n (.s .n (.s (.s .n (.l [(25, (.d (.int .i64)))] [] [0, 6, 23, 24] (.s .n (.s .n (.s (.s .n (.s .n (.l [(38, (.d (.int .i64)))] [] [0, 6, 7, 23, 24, 25, 36, 37] .n))) .n))))) (.s (.s .n (.l [(55, (.d (.int .i64)))] [] [0, 53, 54] (.s .n (.s .n (.s (.s .n (.s .n (.l [(62, (.d (.int .i64)))] [] [0, 11, 53, 54, 55, 60, 61] (.s .n (.s .n (.s (.j [] [] [0, 11, 53, 54, 55, 60, 61, 62] (.s .n (.s .n (.s .n (.l [(77, (.d (.int .i64)))] [] [0, 11, 13, 14, 53, 54, 55, 60, 61, 62, 75, 76] .n))))) .n)))))) .n))))) .n)))) (cutL [(22, 21)]) (by kernel_rfl) (by kernel_rfl) k_impl_SetFunctor_fault (by decide) (fun x K => W_impl_SetFunctor_fault x.1 K) w_impl_SetFunctor_fault (fun x h1 h2 => m_impl_SetFunctor_fault x.1 h1 h2)
def setfR (f : SetFunctorD) : Bool := sfShapeR f && (sfFaultR f).1 == 0
theorem setf_sf {f : SetFunctorD} (h : setfR f = true) : SfP f := by
  simp only [setfR, Bool.and_eq_true] at h; exact sf_iff.1 h.1

def c_impl_SetFunctor_isSetFunctor : Ct := ⟨[(.pt SetFunctorT)], [false], fun x => [], [(false, (.fz .bool))], fun x => (setfR x.1, ()), false, none⟩
def W_impl_SetFunctor_isSetFunctor (f : SetFunctorD) (K : Bool × Unit → Prop) : Prop := (cnd (!(sfShapeR f)) (K (Bool.false, ())) ((SfP f) ∧ (K (((sfFaultR f).1 == (0 : Int)), ()))))
theorem w_impl_SetFunctor_isSetFunctor (x : denL c_impl_SetFunctor_isSetFunctor.args) (K : Bool × Unit → Prop) : evF tab (lkp [(156, c_impl_SetFunctor_fault), (155, c_impl_SetFunctor_isShape)]) (cutL []) Try.f115 (bodyOf Try.f115) .n c_impl_SetFunctor_isSetFunctor x K = W_impl_SetFunctor_isSetFunctor x.1 K := by kernel_rfl
theorem k_impl_SetFunctor_isSetFunctor : okC Try.f115.ntmps (cutL []) (bodyOf Try.f115) = true := by kernel_rfl
theorem m_impl_SetFunctor_isSetFunctor (f : SetFunctorD) (hok : allP (okL c_impl_SetFunctor_isSetFunctor.args (f, ()))) (hpre : allP (c_impl_SetFunctor_isSetFunctor.pre (f, ()))) : W_impl_SetFunctor_isSetFunctor f (fun r => r = c_impl_SetFunctor_isSetFunctor.res (f, ())) := by
  simp only [c_impl_SetFunctor_isSetFunctor, okL, T.oks, T.ok, ap, allP, true_and, and_true, implies_true] at hok hpre
  try dsimp only [T.den] at hok
  try dsimp only [T.den] at hpre
  unfold W_impl_SetFunctor_isSetFunctor
  have h1 := @sf_iff f
  simp only [c_impl_SetFunctor_isSetFunctor, setfR]
  grind [cnd, nb_eq, inK64]
theorem ct_impl_SetFunctor_isSetFunctor : CtOk Try.prog 115 c_impl_SetFunctor_isSetFunctor :=
  ct_by (Φ := lkp [(156, c_impl_SetFunctor_fault), (155, c_impl_SetFunctor_isShape)]) (good_cons ct_impl_SetFunctor_fault (good_cons ct_impl_SetFunctor_isShape good_nil)) tab_ok (by kernel_rfl) (fn := Try.f115) (c := bodyOf Try.f115) (by kernel_rfl) (by kernel_rfl) (by kernel_rfl) c_impl_SetFunctor_isSetFunctor rfl .n (cutL []) (by kernel_rfl) (by kernel_rfl) k_impl_SetFunctor_isSetFunctor (by decide) (fun x K => W_impl_SetFunctor_isSetFunctor x.1 K) w_impl_SetFunctor_isSetFunctor (fun x h1 h2 => m_impl_SetFunctor_isSetFunctor x.1 h1 h2)
def fitX (m : SetMapD) (x : Int) : Bool := decide (((m.2.2.getD x.toNat []).length : Int) = m.1.2.1.getD x.toNat 0) && withinR (m.2.2.getD x.toNat []) (m.2.1.2.1.getD x.toNat 0)
def fitMR (m : SetMapD) : Bool := decide (m.2.2.length = m.1.2.1.length) && allB m.2.2.length (fitX m)
structure MapP (m : SetMapD) : Prop where
  s : SfP m.1
  t : SfP m.2.1
  c : m.1.1 = m.2.1.1
  l : m.2.2.length = m.1.2.1.length
  p : ∀ x : Int, 0 ≤ x → x < m.2.2.length → ((m.2.2.getD x.toNat []).length : Int) = m.1.2.1.getD x.toNat 0 ∧ withinR (m.2.2.getD x.toNat []) (m.2.1.2.1.getD x.toNat 0) = true
theorem fitM_iff {m : SetMapD} (hs : SfP m.1) (ht : SfP m.2.1) (hc : m.1.1 = m.2.1.1) : fitMR m = true ↔ MapP m := by
  simp only [fitMR, fitX, Bool.and_eq_true, decide_eq_true_eq, allB_iff]
  constructor
  · rintro ⟨h1, h2⟩; exact ⟨hs, ht, hc, h1, h2⟩
  · rintro ⟨_, _, _, h1, h2⟩; exact ⟨h1, h2⟩

def c_impl_SetMap_fits : Ct := ⟨[(.pt SetMapT)], [false], fun x => [SfP x.1.1, SfP x.1.2.1, x.1.1.1 = x.1.2.1.1], [(false, (.fz .bool))], fun x => (fitMR x.1, ()), false, none⟩
def W_impl_SetMap_fits (m : SetMapD) (K : Bool × Unit → Prop) : Prop := (cnd ((((List.length m.2.2) : Nat) : Int) != (((List.length m.1.2.1) : Nat) : Int)) (K (Bool.false, ())) (loopW (S := ((Int × Unit) × Unit)) (fun s => (fun next => ((inK IntKind.i64 s.1.1) → (cnd (decide (s.1.1 < (((List.length m.2.2) : Nat) : Int))) (((0 : Int) ≤ s.1.1) ∧ ((s.1.1 < (((List.length m.2.2) : Nat) : Int)) ∧ (((0 : Int) ≤ s.1.1) ∧ ((s.1.1 < (((List.length m.1.2.1) : Nat) : Int)) ∧ (((0 : Int) ≤ s.1.1) ∧ ((s.1.1 < (((List.length m.2.1.2.1) : Nat) : Int)) ∧ ((inK IntKind.i64 ((List.getD m.2.1.2.1 (Int.toNat s.1.1) (0 : Int)) - (1 : Int))) ∧ (cnd (!((decide ((((List.length (List.getD m.2.2 (Int.toNat s.1.1) ([] : List Int))) : Nat) : Int) = (List.getD m.1.2.1 (Int.toNat s.1.1) (0 : Int)))) && (withinR (List.getD m.2.2 (Int.toNat s.1.1) ([] : List Int)) (List.getD m.2.1.2.1 (Int.toNat s.1.1) (0 : Int))))) (K (Bool.false, ())) ((inK IntKind.i64 (s.1.1 + (1 : Int))) ∧ (next (((s.1.1 + (1 : Int)), ()), ()))))))))))) (K (Bool.true, ())))))) (((0 : Int), ()), ())))
theorem w_impl_SetMap_fits (x : denL c_impl_SetMap_fits.args) (K : Bool × Unit → Prop) : evF tab (lkp [(166, c_impl_isMapOf)]) (cutL [(1, 12), (6, 19)]) Try.f137 (bodyOf Try.f137) (.s .n (.s .n (.s (.s .n (.l [(22, (.d (.int .i64)))] [] [0, 20, 21] .n)) .n))) c_impl_SetMap_fits x K = W_impl_SetMap_fits x.1 K := by kernel_rfl
theorem k_impl_SetMap_fits : okC Try.f137.ntmps (cutL [(1, 12), (6, 19)]) (bodyOf Try.f137) = true := by kernel_rfl
theorem m_impl_SetMap_fits (m : SetMapD) (hok : allP (okL c_impl_SetMap_fits.args (m, ()))) (hpre : allP (c_impl_SetMap_fits.pre (m, ()))) : W_impl_SetMap_fits m (fun r => r = c_impl_SetMap_fits.res (m, ())) := by
  simp only [c_impl_SetMap_fits, okL, T.oks, T.ok, ap, allP, true_and, and_true, implies_true] at hok hpre
  try dsimp only [T.den] at hok
  try dsimp only [T.den] at hpre
  unfold W_impl_SetMap_fits
  obtain ⟨P, Q, hc⟩ := hpre
  have hv : fitMR m = (decide (m.2.2.length = m.1.2.1.length) && allB m.2.2.length (fitX m)) := rfl
  have res : ∀ b, fitMR m = b → (b, ()) = c_impl_SetMap_fits.res (m, ()) := fun b h => by simp only [c_impl_SetMap_fits, h]
  have hl1 := P.lz
  have hl2 := Q.lz
  rw [← hc] at hl2
  have hob := (cat_shape P.cat).ob
  refine cnd_of (fun hx => res _ ?_) (fun hx => ?_)
  · rw [hv, decide_eq_false (by simp at hx; omega), Bool.false_and]
  have hl : m.2.2.length = m.1.2.1.length := by rw [bne_eq_false_iff_eq] at hx; omega
  rw [decide_eq_true hl, Bool.true_and] at hv
  refine loop_allB m.2.2.length (fitX m) ?_ ?_
  · intro x next x0 x1 hno hyes _
    try dsimp only
    have hz := Q.size x0 (by rw [← hc]; omega)
    have hb : fitX m x = (decide (((m.2.2.getD x.toNat []).length : Int) = m.1.2.1.getD x.toNat 0) && withinR (m.2.2.getD x.toNat []) (m.2.1.2.1.getD x.toNat 0)) := rfl
    refine cnd_d (fun _ => ⟨x0, x1, x0, by omega, x0, by omega, by rw [inK64]; (try dsimp only); omega, cnd_of (fun hx => res _ ?_) (fun hx => ⟨by rw [inK64]; (try dsimp only); omega, hyes ?_⟩)⟩) (fun h => absurd x1 h)
    · rw [hv]; refine hno ?_; rw [hb]; simpa only [Bool.not_eq_true'] using hx
    · rw [hb]; simpa only [Bool.not_eq_false'] using hx
  · intro next h _
    exact cnd_d (fun h => absurd h (Int.lt_irrefl _)) (fun _ => res _ (by rw [hv, h]))
theorem ct_impl_SetMap_fits : CtOk Try.prog 137 c_impl_SetMap_fits :=
  ct_by (Φ := lkp [(166, c_impl_isMapOf)]) (good_cons ct_impl_isMapOf good_nil) tab_ok (by kernel_rfl) (fn := Try.f137) (c := bodyOf Try.f137) (by kernel_rfl) (by kernel_rfl) (by kernel_rfl) c_impl_SetMap_fits rfl (.s .n (.s .n (.s (.s .n (.l [(22, (.d (.int .i64)))] [] [0, 20, 21] .n)) .n))) (cutL [(1, 12), (6, 19)]) (by kernel_rfl) (by kernel_rfl) k_impl_SetMap_fits (by decide) (fun x K => W_impl_SetMap_fits x.1 K) w_impl_SetMap_fits (fun x h1 h2 => m_impl_SetMap_fits x.1 h1 h2)
def c_impl_areSetFunctors : Ct := ⟨[(.sl (.pt SetFunctorT))], [false], fun x => [], [(false, (.fz .bool))], fun x => (x.1.all setfR, ()), false, none⟩
def W_impl_areSetFunctors (list : List SetFunctorD) (K : Bool × Unit → Prop) : Prop := (loopW (S := ((Int × Unit) × Unit)) (fun s => (fun next => ((inK IntKind.i64 s.1.1) → (cnd (decide (s.1.1 < (((List.length list) : Nat) : Int))) (((0 : Int) ≤ s.1.1) ∧ ((s.1.1 < (((List.length list) : Nat) : Int)) ∧ (cnd (!(setfR (List.getD list (Int.toNat s.1.1) (((0 : Int), (([] : List Int), (([] : List Int), (([] : List Int), ([] : List (List Int)))))), (([] : List Int), ([] : List (List Int))))))) (K (Bool.false, ())) ((inK IntKind.i64 (s.1.1 + (1 : Int))) ∧ (next (((s.1.1 + (1 : Int)), ()), ())))))) (K (Bool.true, ())))))) (((0 : Int), ()), ()))
theorem w_impl_areSetFunctors (x : denL c_impl_areSetFunctors.args) (K : Bool × Unit → Prop) : evF tab (lkp [(115, c_impl_SetFunctor_isSetFunctor)]) (cutL []) Try.f135 (bodyOf Try.f135) (.s .n (.s (.s .n (.l [(7, (.d (.int .i64)))] [] [5, 6] .n)) .n)) c_impl_areSetFunctors x K = W_impl_areSetFunctors x.1 K := by kernel_rfl
theorem k_impl_areSetFunctors : okC Try.f135.ntmps (cutL []) (bodyOf Try.f135) = true := by kernel_rfl
theorem m_impl_areSetFunctors (list : List SetFunctorD) (hok : allP (okL c_impl_areSetFunctors.args (list, ()))) (hpre : allP (c_impl_areSetFunctors.pre (list, ()))) : W_impl_areSetFunctors list (fun r => r = c_impl_areSetFunctors.res (list, ())) := by
  simp only [c_impl_areSetFunctors, okL, T.oks, T.ok, ap, allP, true_and, and_true, implies_true] at hok hpre
  try dsimp only [T.den] at hok
  try dsimp only [T.den] at hpre
  unfold W_impl_areSetFunctors
  have hl : list.length ≤ 140737488355328 := by simp only [nb_eq] at hok; omega
  refine loop_ix (n := list.length) (fun i => list.all setfR = (list.drop i.toNat).all setfR) (by omega) (by simp) ?_ ?_
  · intro i next h0 h1 hP hn hin
    try dsimp only
    rw [drop_c list (((0 : Int), (([] : List Int), (([] : List Int), (([] : List Int), ([] : List (List Int)))))), (([] : List Int), ([] : List (List Int)))) h0 h1, List.all_cons] at hP
    refine cnd_d (fun _ => ⟨h0, h1, cnd_of (fun hx => ?_) (fun hx => ⟨by rw [inK64]; (try dsimp only); omega, hn ?_⟩)⟩) (fun h => absurd h1 h)
    · simp only [Bool.not_eq_true'] at hx
      simp only [c_impl_areSetFunctors]; rw [hP, hx]; rfl
    · simp only [Bool.not_eq_false'] at hx
      rw [hP, hx, Bool.true_and]
  · intro next hP hin
    refine cnd_d (fun h => absurd h (by dsimp only; omega)) (fun _ => ?_)
    simp only [c_impl_areSetFunctors]
    rw [hP, drop_n list (by omega)]; rfl
theorem ct_impl_areSetFunctors : CtOk Try.prog 135 c_impl_areSetFunctors :=
  ct_by (Φ := lkp [(115, c_impl_SetFunctor_isSetFunctor)]) (good_cons ct_impl_SetFunctor_isSetFunctor good_nil) tab_ok (by kernel_rfl) (fn := Try.f135) (c := bodyOf Try.f135) (by kernel_rfl) (by kernel_rfl) (by kernel_rfl) c_impl_areSetFunctors rfl (.s .n (.s (.s .n (.l [(7, (.d (.int .i64)))] [] [5, 6] .n)) .n)) (cutL []) (by kernel_rfl) (by kernel_rfl) k_impl_areSetFunctors (by decide) (fun x K => W_impl_areSetFunctors x.1 K) w_impl_areSetFunctors (fun x h1 h2 => m_impl_areSetFunctors x.1 h1 h2)
def cmpLR : List Int → List Int → Int
  | [], [] => 0
  | [], _ :: _ => -1
  | _ :: _, [] => 1
  | x :: a, y :: b => if x = y then cmpLR a b else if x < y then -1 else 1
theorem cmpL_0 {a b : List Int} : cmpLR a b = 0 ↔ a = b := by
  induction a generalizing b with
  | nil => cases b <;> simp [cmpLR]
  | cons x a ih => cases b with
    | nil => simp [cmpLR]
    | cons y b =>
      simp only [cmpLR, List.cons.injEq]
      by_cases h : x = y
      · rw [if_pos h, ih]; simp [h]
      · rw [if_neg h]
        split <;> simp [h]

def c_impl_compare : Ct := ⟨[(.sl (.int .i64)), (.sl (.int .i64))], [false, false], fun x => [], [(false, (.fz (.int .i64)))], fun x => (cmpLR x.1 x.2.1, ()), false, none⟩
def W_impl_compare (a : List Int) (b : List Int) (K : Int × Unit → Prop) : Prop := (loopW (S := ((Int × Unit) × Unit)) (fun s => (fun next => ((inK IntKind.i64 s.1.1) → (cnd (decide (s.1.1 < (((List.length a) : Nat) : Int))) (cnd (s.1.1 == (((List.length b) : Nat) : Int)) (K ((1 : Int), ())) (((0 : Int) ≤ s.1.1) ∧ ((s.1.1 < (((List.length a) : Nat) : Int)) ∧ (((0 : Int) ≤ s.1.1) ∧ ((s.1.1 < (((List.length b) : Nat) : Int)) ∧ (cnd ((List.getD a (Int.toNat s.1.1) (0 : Int)) != (List.getD b (Int.toNat s.1.1) (0 : Int))) (((0 : Int) ≤ s.1.1) ∧ ((s.1.1 < (((List.length a) : Nat) : Int)) ∧ (((0 : Int) ≤ s.1.1) ∧ ((s.1.1 < (((List.length b) : Nat) : Int)) ∧ (cnd (decide ((List.getD a (Int.toNat s.1.1) (0 : Int)) < (List.getD b (Int.toNat s.1.1) (0 : Int)))) (K ((-(1 : Int)), ())) (K ((1 : Int), ()))))))) ((inK IntKind.i64 (s.1.1 + (1 : Int))) ∧ (next (((s.1.1 + (1 : Int)), ()), ()))))))))) (cnd (decide ((((List.length a) : Nat) : Int) < (((List.length b) : Nat) : Int))) (K ((-(1 : Int)), ())) (K ((0 : Int), ()))))))) (((0 : Int), ()), ()))
theorem w_impl_compare (x : denL c_impl_compare.args) (K : Int × Unit → Prop) : evF tab (lkp []) (cutL [(6, 9), (7, 9)]) Try.f170 (bodyOf Try.f170) (.s .n (.s (.s .n (.l [(8, (.d (.int .i64)))] [] [0, 1, 7] .n)) .n)) c_impl_compare x K = W_impl_compare x.1 x.2.1 K := by kernel_rfl
theorem k_impl_compare : okC Try.f170.ntmps (cutL [(6, 9), (7, 9)]) (bodyOf Try.f170) = true := by kernel_rfl
theorem m_impl_compare (a : List Int) (b : List Int) (hok : allP (okL c_impl_compare.args (a, b, ()))) (hpre : allP (c_impl_compare.pre (a, b, ()))) : W_impl_compare a b (fun r => r = c_impl_compare.res (a, b, ())) := by
  simp only [c_impl_compare, okL, T.oks, T.ok, ap, allP, true_and, and_true, implies_true] at hok hpre
  try dsimp only [T.den] at hok
  try dsimp only [T.den] at hpre
  unfold W_impl_compare
  have ha : a.length ≤ 140737488355328 := by simp only [nb_eq] at hok; omega
  clear hok
  refine loop_ix (n := a.length) (fun i => i ≤ b.length ∧ cmpLR a b = cmpLR (a.drop i.toNat) (b.drop i.toNat)) (by omega) ⟨by omega, by simp⟩ ?_ ?_
  · intro i next i0 i1 hP hn hin
    obtain ⟨hb, hP⟩ := hP
    rw [drop_c a 0 i0 i1] at hP
    refine cnd_d (fun _ => cnd_of (fun h => ?_) (fun h => ?_)) (fun h => absurd i1 h)
    · rw [beq_iff_eq] at h
      rw [drop_n b (by dsimp only at h; omega)] at hP
      simp only [c_impl_compare, hP, cmpLR]
    · rw [beq_eq_false_iff_ne] at h
      try dsimp only at h ⊢
      rw [drop_c b 0 i0 (by omega)] at hP
      simp only [cmpLR] at hP
      have hiK : inK .i64 (i + 1) := by rw [inK64]; (try dsimp only); omega
      refine ⟨i0, i1, i0, by omega, cnd_of (fun h1 => ?_) (fun h1 => ?_)⟩
      · rw [bne_iff_ne] at h1
        rw [if_neg h1] at hP
        refine ⟨i0, i1, i0, by omega, cnd_d (fun h2 => ?_) (fun h2 => ?_)⟩
        · rw [if_pos h2] at hP; simp only [c_impl_compare, hP]
        · rw [if_neg h2] at hP; simp only [c_impl_compare, hP]
      · rw [bne_eq_false_iff_eq] at h1
        rw [if_pos h1] at hP
        exact ⟨hiK, hn ⟨by omega, hP⟩⟩
  · intro next hP hin
    obtain ⟨hb, hP⟩ := hP
    rw [drop_n a (Int.le_refl _)] at hP
    refine cnd_d (fun h => absurd h (by dsimp only; omega)) (fun _ => cnd_d (fun h => ?_) (fun h => ?_))
    · rw [drop_c b 0 (by omega) h] at hP
      simp only [c_impl_compare, hP, cmpLR]
    · rw [drop_n b (by omega)] at hP
      simp only [c_impl_compare, hP, cmpLR]
theorem ct_impl_compare : CtOk Try.prog 170 c_impl_compare :=
  ct_by (Φ := lkp []) good_nil tab_ok (by kernel_rfl) (fn := Try.f170) (c := bodyOf Try.f170) (by kernel_rfl) (by kernel_rfl) (by kernel_rfl) c_impl_compare rfl (.s .n (.s (.s .n (.l [(8, (.d (.int .i64)))] [] [0, 1, 7] .n)) .n)) (cutL [(6, 9), (7, 9)]) (by kernel_rfl) (by kernel_rfl) k_impl_compare (by decide) (fun x K => W_impl_compare x.1 x.2.1 K) w_impl_compare (fun x h1 h2 => m_impl_compare x.1 x.2.1 h1 h2)
def c_impl_same : Ct := ⟨[(.sl (.int .i64)), (.sl (.int .i64))], [false, false], fun x => [], [(false, (.fz .bool))], fun x => (eqR (.sl (.int .i64)) x.1 x.2.1, ()), false, none⟩
def W_impl_same (a : List Int) (b : List Int) (K : Bool × Unit → Prop) : Prop := (K (((cmpLR a b) == (0 : Int)), ()))
theorem w_impl_same (x : denL c_impl_same.args) (K : Bool × Unit → Prop) : evF tab (lkp [(170, c_impl_compare)]) (cutL []) Try.f165 (bodyOf Try.f165) .n c_impl_same x K = W_impl_same x.1 x.2.1 K := by kernel_rfl
theorem k_impl_same : okC Try.f165.ntmps (cutL []) (bodyOf Try.f165) = true := by kernel_rfl
theorem m_impl_same (a : List Int) (b : List Int) (hok : allP (okL c_impl_same.args (a, b, ()))) (hpre : allP (c_impl_same.pre (a, b, ()))) : W_impl_same a b (fun r => r = c_impl_same.res (a, b, ())) := by
  simp only [c_impl_same, okL, T.oks, T.ok, ap, allP, true_and, and_true, implies_true] at hok hpre
  try dsimp only [T.den] at hok
  try dsimp only [T.den] at hpre
  unfold W_impl_same
  have h := @cmpL_0 a b
  have h2 : (cmpLR a b == 0) = eqR (.sl (.int .i64)) a b := by
    rw [Bool.eq_iff_iff, beq_iff_eq, h, eqR_iff]
  simp only [c_impl_same, h2]
theorem ct_impl_same : CtOk Try.prog 165 c_impl_same :=
  ct_by (Φ := lkp [(170, c_impl_compare)]) (good_cons ct_impl_compare good_nil) tab_ok (by kernel_rfl) (fn := Try.f165) (c := bodyOf Try.f165) (by kernel_rfl) (by kernel_rfl) (by kernel_rfl) c_impl_same rfl .n (cutL []) (by kernel_rfl) (by kernel_rfl) k_impl_same (by decide) (fun x K => W_impl_same x.1 x.2.1 K) w_impl_same (fun x h1 h2 => m_impl_same x.1 x.2.1 h1 h2)
def c_impl_sameCategory : Ct := ⟨[(.pt CategoryT), (.pt CategoryT)], [false, false], fun x => [], [(false, (.fz .bool))], fun x => (eqR CategoryT x.1 x.2.1, ()), false, none⟩
def W_impl_sameCategory (c : CategoryD) (d : CategoryD) (K : Bool × Unit → Prop) : Prop := (cnd (((((c.1 != d.1) || (!(eqR (T.sl (T.int IntKind.i64)) c.2.1 d.2.1))) || (!(eqR (T.sl (T.int IntKind.i64)) c.2.2.1 d.2.2.1))) || (!(eqR (T.sl (T.int IntKind.i64)) c.2.2.2.1 d.2.2.2.1))) || ((((List.length c.2.2.2.2) : Nat) : Int) != (((List.length d.2.2.2.2) : Nat) : Int))) (K (Bool.false, ())) (loopW (S := ((Int × Unit) × Unit)) (fun s => (fun next => ((inK IntKind.i64 s.1.1) → (cnd (decide (s.1.1 < (((List.length c.2.2.2.2) : Nat) : Int))) (((0 : Int) ≤ s.1.1) ∧ ((s.1.1 < (((List.length c.2.2.2.2) : Nat) : Int)) ∧ (((0 : Int) ≤ s.1.1) ∧ ((s.1.1 < (((List.length d.2.2.2.2) : Nat) : Int)) ∧ (cnd (!(eqR (T.sl (T.int IntKind.i64)) (List.getD c.2.2.2.2 (Int.toNat s.1.1) ([] : List Int)) (List.getD d.2.2.2.2 (Int.toNat s.1.1) ([] : List Int)))) (K (Bool.false, ())) ((inK IntKind.i64 (s.1.1 + (1 : Int))) ∧ (next (((s.1.1 + (1 : Int)), ()), ())))))))) (K (Bool.true, ())))))) (((0 : Int), ()), ())))
theorem w_impl_sameCategory (x : denL c_impl_sameCategory.args) (K : Bool × Unit → Prop) : evF tab (lkp [(165, c_impl_same)]) (cutL [(1, 58), (6, 16)]) Try.f136 (bodyOf Try.f136) (.s .n (.s .n (.s (.s .n (.l [(69, (.d (.int .i64)))] [] [0, 1, 68] .n)) .n))) c_impl_sameCategory x K = W_impl_sameCategory x.1 x.2.1 K := by kernel_rfl
theorem k_impl_sameCategory : okC Try.f136.ntmps (cutL [(1, 58), (6, 16)]) (bodyOf Try.f136) = true := by kernel_rfl
theorem m_impl_sameCategory (c : CategoryD) (d : CategoryD) (hok : allP (okL c_impl_sameCategory.args (c, d, ()))) (hpre : allP (c_impl_sameCategory.pre (c, d, ()))) : W_impl_sameCategory c d (fun r => r = c_impl_sameCategory.res (c, d, ())) := by
  simp only [c_impl_sameCategory, okL, T.oks, T.ok, ap, allP, true_and, and_true, implies_true] at hok hpre
  try dsimp only [T.den] at hok
  try dsimp only [T.den] at hpre
  unfold W_impl_sameCategory
  have res : ∀ b, eqR CategoryT c d = b → (b, ()) = c_impl_sameCategory.res (c, d, ()) := fun b h => by simp only [c_impl_sameCategory, h]
  have hl : c.2.2.2.2.length ≤ 140737488355328 := by simp only [nb_eq] at hok; omega
  refine cnd_of (fun hx => res _ ?_) (fun hx => ?_)
  · rw [eqR_f]; rintro rfl; simp [eqR_self] at hx
  simp only [Bool.or_eq_false_iff, Bool.not_eq_false', bne_eq_false_iff_eq, eqR_iff] at hx
  obtain ⟨⟨⟨⟨h1, h2⟩, h3⟩, h4⟩, h5⟩ := hx
  refine loop_ix (n := c.2.2.2.2.length) (fun i => c.2.2.2.2.take i.toNat = d.2.2.2.2.take i.toNat) (by omega) (by simp) ?_ ?_
  · intro i next i0 i1 hP hn hin
    try dsimp only
    have hta := take_c c.2.2.2.2 [] i0 i1
    have htb := take_c d.2.2.2.2 [] i0 (by omega)
    refine cnd_d (fun _ => ⟨i0, by omega, i0, by omega, cnd_of (fun h => res _ ?_) (fun h => ⟨by rw [inK64]; (try dsimp only); omega, hn ?_⟩)⟩) (fun h => absurd i1 h)
    · rw [eqR_f]; rintro rfl; simp [eqR_self] at h
    · simp only [Bool.not_eq_false', eqR_iff] at h
      rw [hta, htb, hP, h]
  · intro next hP hin
    rw [take_n _ (Int.le_refl _), take_n _ (by omega)] at hP
    refine cnd_d (fun h => absurd h (Int.lt_irrefl _)) (fun _ => res _ ?_)
    rw [eqR_iff]
    exact Prod.ext h1 (Prod.ext h2 (Prod.ext h3 (Prod.ext h4 hP)))
theorem ct_impl_sameCategory : CtOk Try.prog 136 c_impl_sameCategory :=
  ct_by (Φ := lkp [(165, c_impl_same)]) (good_cons ct_impl_same good_nil) tab_ok (by kernel_rfl) (fn := Try.f136) (c := bodyOf Try.f136) (by kernel_rfl) (by kernel_rfl) (by kernel_rfl) c_impl_sameCategory rfl (.s .n (.s .n (.s (.s .n (.l [(69, (.d (.int .i64)))] [] [0, 1, 68] .n)) .n))) (cutL [(1, 58), (6, 16)]) (by kernel_rfl) (by kernel_rfl) k_impl_sameCategory (by decide) (fun x K => W_impl_sameCategory x.1 x.2.1 K) w_impl_sameCategory (fun x h1 h2 => m_impl_sameCategory x.1 x.2.1 h1 h2)
def mshapeR (m : SetMapD) : Bool := setfR m.1 && setfR m.2.1 && eqR CategoryT m.1.1 m.2.1.1 && fitMR m
theorem mshape_iff {m : SetMapD} (h : mshapeR m = true) : MapP m := by
  simp only [mshapeR, Bool.and_eq_true, eqR_iff] at h
  obtain ⟨⟨⟨h1, h2⟩, h3⟩, h4⟩ := h
  exact (fitM_iff (setf_sf h1) (setf_sf h2) h3).1 h4

def c_impl_SetMap_isShape : Ct := ⟨[(.pt SetMapT)], [false], fun x => [], [(false, (.fz .bool))], fun x => (mshapeR x.1, ()), false, none⟩
def W_impl_SetMap_isShape (m : SetMapD) (K : Bool × Unit → Prop) : Prop := (((((List.all (m.1 :: (m.2.1 :: ([] : List ((Int × ((List Int) × ((List Int) × ((List Int) × (List (List Int)))))) × ((List Int) × (List (List Int))))))) setfR) && (eqR CategoryT m.1.1 m.2.1.1)) = Bool.true) → ((SfP m.2.1) ∧ ((m.1.1 = m.2.1.1) ∧ (SfP m.1)))) ∧ (K ((((List.all (m.1 :: (m.2.1 :: ([] : List ((Int × ((List Int) × ((List Int) × ((List Int) × (List (List Int)))))) × ((List Int) × (List (List Int))))))) setfR) && (eqR CategoryT m.1.1 m.2.1.1)) && (fitMR m)), ())))
theorem w_impl_SetMap_isShape (x : denL c_impl_SetMap_isShape.args) (K : Bool × Unit → Prop) : evF tab (lkp [(137, c_impl_SetMap_fits), (135, c_impl_areSetFunctors), (136, c_impl_sameCategory)]) (cutL [(1, 24)]) Try.f100 (bodyOf Try.f100) .n c_impl_SetMap_isShape x K = W_impl_SetMap_isShape x.1 K := by kernel_rfl
theorem k_impl_SetMap_isShape : okC Try.f100.ntmps (cutL [(1, 24)]) (bodyOf Try.f100) = true := by kernel_rfl
theorem m_impl_SetMap_isShape (m : SetMapD) (hok : allP (okL c_impl_SetMap_isShape.args (m, ()))) (hpre : allP (c_impl_SetMap_isShape.pre (m, ()))) : W_impl_SetMap_isShape m (fun r => r = c_impl_SetMap_isShape.res (m, ())) := by
  simp only [c_impl_SetMap_isShape, okL, T.oks, T.ok, ap, allP, true_and, and_true, implies_true] at hok hpre
  try dsimp only [T.den] at hok
  try dsimp only [T.den] at hpre
  unfold W_impl_SetMap_isShape
  have h1 := @setf_sf m.1
  have h2 := @setf_sf m.2.1
  have h3 := @eqR_iff CategoryT m.1.1 m.2.1.1
  simp only [c_impl_SetMap_isShape, mshapeR, List.all_cons, List.all_nil, Bool.and_true]
  refine ⟨fun h => ?_, trivial⟩
  simp only [Bool.and_eq_true] at h
  exact ⟨h2 h.1.2, h3.1 h.2, h1 h.1.1⟩
theorem ct_impl_SetMap_isShape : CtOk Try.prog 100 c_impl_SetMap_isShape :=
  ct_by (Φ := lkp [(137, c_impl_SetMap_fits), (135, c_impl_areSetFunctors), (136, c_impl_sameCategory)]) (good_cons ct_impl_SetMap_fits (good_cons ct_impl_areSetFunctors (good_cons ct_impl_sameCategory good_nil))) tab_ok (by kernel_rfl) (fn := Try.f100) (c := bodyOf Try.f100) (by kernel_rfl) (by kernel_rfl) (by kernel_rfl) c_impl_SetMap_isShape rfl .n (cutL [(1, 24)]) (by kernel_rfl) (by kernel_rfl) k_impl_SetMap_isShape (by decide) (fun x K => W_impl_SetMap_isShape x.1 K) w_impl_SetMap_isShape (fun x h1 h2 => m_impl_SetMap_isShape x.1 h1 h2)
def partR (m : SetMapD) (x e : Int) : Int := (m.2.2.getD x.toNat []).getD e.toNat 0
def unnE (m : SetMapD) (a e : Int) : Option (Int × Int) := if partR m (m.1.1.2.2.1.getD a.toNat 0) (actR m.1 a e) ≠ actR m.2.1 a (partR m (m.1.1.2.1.getD a.toNat 0) e) then some (a, e) else none
def unnA (m : SetMapD) (a : Int) : Option (Int × Int) := scanR (unnE m a) (m.1.2.1.getD (m.1.1.2.1.getD a.toNat 0).toNat 0).toNat 0
def unnR (m : SetMapD) : Int × Int := orR (scanR (unnA m) m.1.1.2.1.length 0) (-1, 0)
theorem MapP.at_ {m : SetMapD} (M : MapP m) {x e : Int} (h0 : 0 ≤ x) (h1 : x < m.1.1.1) (e0 : 0 ≤ e) (e1 : e < m.1.2.1.getD x.toNat 0) :
    e < (m.2.2.getD x.toNat []).length ∧ 0 ≤ partR m x e ∧ partR m x e < m.2.1.2.1.getD x.toNat 0 := by
  have hl := M.l
  have hz := M.s.lz
  obtain ⟨k1, k2⟩ := M.p x h0 (by omega)
  have := within_iff.1 k2 e e0 (by omega)
  exact ⟨by omega, this.1, this.2⟩

def c_impl_SetMap_unnatural : Ct := ⟨[(.pt SetMapT)], [false], fun x => [MapP x.1], [(false, (.fz (.int .i64))), (false, (.fz (.int .i64)))], fun x => ((unnR x.1).1, (unnR x.1).2, ()), false, none⟩
def W_impl_SetMap_unnatural (m : SetMapD) (K : Int × Int × Unit → Prop) : Prop := (loopW (S := ((Int × Unit) × Unit)) (fun s => (fun next => ((inK IntKind.i64 s.1.1) → (cnd (decide (s.1.1 < (((List.length m.1.1.2.1) : Nat) : Int))) (((0 : Int) ≤ s.1.1) ∧ ((s.1.1 < (((List.length m.1.2.2) : Nat) : Int)) ∧ (loopW (S := ((Int × Unit) × Unit)) (fun s1 => (fun next1 => ((inK IntKind.i64 s1.1.1) → (cnd (decide (s1.1.1 < (((List.length (List.getD m.1.2.2 (Int.toNat s.1.1) ([] : List Int))) : Nat) : Int))) (((0 : Int) ≤ s1.1.1) ∧ ((s1.1.1 < (((List.length (List.getD m.1.2.2 (Int.toNat s.1.1) ([] : List Int))) : Nat) : Int)) ∧ (((0 : Int) ≤ s.1.1) ∧ ((s.1.1 < (((List.length m.1.1.2.2.1) : Nat) : Int)) ∧ (((0 : Int) ≤ (List.getD m.1.1.2.2.1 (Int.toNat s.1.1) (0 : Int))) ∧ (((List.getD m.1.1.2.2.1 (Int.toNat s.1.1) (0 : Int)) < (((List.length m.2.2) : Nat) : Int)) ∧ (((0 : Int) ≤ (List.getD (List.getD m.1.2.2 (Int.toNat s.1.1) ([] : List Int)) (Int.toNat s1.1.1) (0 : Int))) ∧ (((List.getD (List.getD m.1.2.2 (Int.toNat s.1.1) ([] : List Int)) (Int.toNat s1.1.1) (0 : Int)) < (((List.length (List.getD m.2.2 (Int.toNat (List.getD m.1.1.2.2.1 (Int.toNat s.1.1) (0 : Int))) ([] : List Int))) : Nat) : Int)) ∧ (((0 : Int) ≤ s.1.1) ∧ ((s.1.1 < (((List.length m.2.1.2.2) : Nat) : Int)) ∧ (((0 : Int) ≤ s.1.1) ∧ ((s.1.1 < (((List.length m.1.1.2.1) : Nat) : Int)) ∧ (((0 : Int) ≤ (List.getD m.1.1.2.1 (Int.toNat s.1.1) (0 : Int))) ∧ (((List.getD m.1.1.2.1 (Int.toNat s.1.1) (0 : Int)) < (((List.length m.2.2) : Nat) : Int)) ∧ (((0 : Int) ≤ s1.1.1) ∧ ((s1.1.1 < (((List.length (List.getD m.2.2 (Int.toNat (List.getD m.1.1.2.1 (Int.toNat s.1.1) (0 : Int))) ([] : List Int))) : Nat) : Int)) ∧ (((0 : Int) ≤ (List.getD (List.getD m.2.2 (Int.toNat (List.getD m.1.1.2.1 (Int.toNat s.1.1) (0 : Int))) ([] : List Int)) (Int.toNat s1.1.1) (0 : Int))) ∧ (((List.getD (List.getD m.2.2 (Int.toNat (List.getD m.1.1.2.1 (Int.toNat s.1.1) (0 : Int))) ([] : List Int)) (Int.toNat s1.1.1) (0 : Int)) < (((List.length (List.getD m.2.1.2.2 (Int.toNat s.1.1) ([] : List Int))) : Nat) : Int)) ∧ (cnd ((List.getD (List.getD m.2.2 (Int.toNat (List.getD m.1.1.2.2.1 (Int.toNat s.1.1) (0 : Int))) ([] : List Int)) (Int.toNat (List.getD (List.getD m.1.2.2 (Int.toNat s.1.1) ([] : List Int)) (Int.toNat s1.1.1) (0 : Int))) (0 : Int)) != (List.getD (List.getD m.2.1.2.2 (Int.toNat s.1.1) ([] : List Int)) (Int.toNat (List.getD (List.getD m.2.2 (Int.toNat (List.getD m.1.1.2.1 (Int.toNat s.1.1) (0 : Int))) ([] : List Int)) (Int.toNat s1.1.1) (0 : Int))) (0 : Int))) (K (s.1.1, (s1.1.1, ()))) ((inK IntKind.i64 (s1.1.1 + (1 : Int))) ∧ (next1 (((s1.1.1 + (1 : Int)), ()), ())))))))))))))))))))))) ((inK IntKind.i64 (s.1.1 + (1 : Int))) ∧ (next (((s.1.1 + (1 : Int)), ()), ()))))))) (((0 : Int), ()), ())))) (K ((-(1 : Int)), ((0 : Int), ()))))))) (((0 : Int), ()), ()))
theorem w_impl_SetMap_unnatural (x : denL c_impl_SetMap_unnatural.args) (K : Int × Int × Unit → Prop) : evF tab (lkp []) (cutL [(8, 43)]) Try.f101 (bodyOf Try.f101) (.s .n (.s .n (.s (.s .n (.l [(17, (.d (.int .i64)))] [] [0, 4, 16] (.s .n (.s .n (.s (.s .n (.s .n (.l [(29, (.d (.int .i64)))] [] [0, 4, 5, 16, 17, 27, 28] .n))) .n))))) .n))) c_impl_SetMap_unnatural x K = W_impl_SetMap_unnatural x.1 K := by kernel_rfl
theorem k_impl_SetMap_unnatural : okC Try.f101.ntmps (cutL [(8, 43)]) (bodyOf Try.f101) = true := by kernel_rfl
theorem m_impl_SetMap_unnatural (m : SetMapD) (hok : allP (okL c_impl_SetMap_unnatural.args (m, ()))) (hpre : allP (c_impl_SetMap_unnatural.pre (m, ()))) : W_impl_SetMap_unnatural m (fun r => r = c_impl_SetMap_unnatural.res (m, ())) := by
  simp only [c_impl_SetMap_unnatural, okL, T.oks, T.ok, ap, allP, true_and, and_true, implies_true] at hok hpre
  try dsimp only [T.den] at hok
  try dsimp only [T.den] at hpre
  unfold W_impl_SetMap_unnatural
  have M : MapP m := hpre
  have S := cat_shape M.s.cat
  have hc := M.c
  have hlt := S.lt
  have hmm := S.m
  have hob := S.ob
  have hlz := M.s.lz
  have hla := M.s.la
  have htz := M.t.lz
  have hta := M.t.la
  rw [← hc] at htz hta
  have hlp := M.l
  try dsimp only at hc hlt hmm hob hlz hla htz hta hlp
  have resq : ∀ a b, unnR m = (a, b) → (a, b, ()) = c_impl_SetMap_unnatural.res (m, ()) := fun a b h => by simp only [c_impl_SetMap_unnatural, h]
  refine loop_ix (n := m.1.1.2.1.length) (fun a => scanR (unnA m) m.1.1.2.1.length 0 = scanR (unnA m) ((m.1.1.2.1.length : Int) - a).toNat a) (by omega) scan_0 ?_ ?_
  · intro a next a0 a1 hP hn hin
    try dsimp only
    obtain ⟨fa1, fa2, ta1, ta2⟩ := S.frm a0 a1
    obtain ⟨q1, q2⟩ := M.s.act a a0 a1
    obtain ⟨q3, q4⟩ := M.t.act a a0 (by rw [← M.c]; exact a1)
    rw [← M.c] at q3 q4
    obtain ⟨z1, z2⟩ := M.s.size fa1 fa2
    try dsimp only at fa1 fa2 ta1 ta2 q1 q2 q3 q4 z1 z2
    refine cnd_d (fun _ => ⟨a0, by omega, ?_⟩) (fun h => absurd h (by omega))
    refine loop_ix (n := m.1.2.1.getD (m.1.1.2.1.getD a.toNat 0).toNat 0) (fun e => unnA m a = scanR (unnE m a) (m.1.2.1.getD (m.1.1.2.1.getD a.toNat 0).toNat 0 - e).toNat e) z1 (by unfold unnA; rw [Int.sub_zero]) ?_ ?_
    · intro e next2 e0 e1 hP2 hn2 hin2
      try dsimp only
      obtain ⟨m1, m2, m3⟩ := M.s.at_ a0 a1 e0 e1
      obtain ⟨n1, n2, n3⟩ := M.at_ fa1 fa2 e0 e1
      have o1 := M.at_ ta1 ta2 m2 m3
      have hac : ∀ a e : Int, (m.1.2.2.getD a.toNat []).getD e.toNat 0 = actR m.1 a e := fun _ _ => rfl
      have hag : ∀ a e : Int, (m.2.1.2.2.getD a.toNat []).getD e.toNat 0 = actR m.2.1 a e := fun _ _ => rfl
      have hap : ∀ a e : Int, (m.2.2.getD a.toNat []).getD e.toNat 0 = partR m a e := fun _ _ => rfl
      simp only [hac, hag, hap]
      try dsimp only at m1 m2 m3 n1 n2 n3 o1
      refine cnd_d (fun _ => ⟨e0, by omega, a0, by omega, ta1, by omega, m2, by omega, a0, by omega, a0, by omega, fa1, by omega, e0, by omega, n2, by omega, cnd_of (fun hx => resq _ _ ?_) (fun hx => ⟨by rw [inK64]; (try dsimp only); omega, hn2 ?_⟩)⟩) (fun h => absurd h (by omega))
      · have k1 : unnE m a e = some (a, e) := by unfold unnE; rw [if_pos]; simpa using hx
        have k2 : unnA m a = some (a, e) := by rw [hP2, scan_s e1 k1]
        unfold unnR; rw [hP, scan_s a1 k2]; rfl
      · have k1 : unnE m a e = none := by unfold unnE; rw [if_neg]; simpa using hx
        rw [hP2, scan_c e1 k1]
    · intro next2 hP2 hin2
      try dsimp only
      rw [scan_n] at hP2
      exact cnd_d (fun h => absurd h (by omega)) (fun _ => ⟨by rw [inK64]; (try dsimp only); omega, hn (by rw [hP, scan_c a1 hP2])⟩)
  · intro next hP hin
    rw [scan_n] at hP
    refine cnd_d (fun h => absurd h (by dsimp only; omega)) (fun _ => resq _ _ ?_)
    unfold unnR; rw [hP]; rfl
theorem ct_impl_SetMap_unnatural : CtOk Try.prog 101 c_impl_SetMap_unnatural :=
  ct_by (Φ := lkp []) good_nil tab_ok (by kernel_rfl) (fn := Try.f101) (c := bodyOf Try.f101) (by kernel_rfl) (by kernel_rfl) (by kernel_rfl) c_impl_SetMap_unnatural rfl (.s .n (.s .n (.s (.s .n (.l [(17, (.d (.int .i64)))] [] [0, 4, 16] (.s .n (.s .n (.s (.s .n (.s .n (.l [(29, (.d (.int .i64)))] [] [0, 4, 5, 16, 17, 27, 28] .n))) .n))))) .n))) (cutL [(8, 43)]) (by kernel_rfl) (by kernel_rfl) k_impl_SetMap_unnatural (by decide) (fun x K => W_impl_SetMap_unnatural x.1 K) w_impl_SetMap_unnatural (fun x h1 h2 => m_impl_SetMap_unnatural x.1 h1 h2)
def natMR (m : SetMapD) : Bool := mshapeR m && decide ((unnR m).1 < 0)
theorem natM_of {m : SetMapD} (h : natMR m = true) : MapP m := by
  simp only [natMR, Bool.and_eq_true] at h; exact mshape_iff h.1

def c_impl_SetMap_isNatural : Ct := ⟨[(.pt SetMapT)], [false], fun x => [], [(false, (.fz .bool))], fun x => (natMR x.1, ()), false, none⟩
def W_impl_SetMap_isNatural (m : SetMapD) (K : Bool × Unit → Prop) : Prop := (cnd (!(mshapeR m)) (K (Bool.false, ())) ((MapP m) ∧ (K ((decide ((unnR m).1 < (0 : Int))), ()))))
theorem w_impl_SetMap_isNatural (x : denL c_impl_SetMap_isNatural.args) (K : Bool × Unit → Prop) : evF tab (lkp [(100, c_impl_SetMap_isShape), (101, c_impl_SetMap_unnatural)]) (cutL []) Try.f64 (bodyOf Try.f64) .n c_impl_SetMap_isNatural x K = W_impl_SetMap_isNatural x.1 K := by kernel_rfl
theorem k_impl_SetMap_isNatural : okC Try.f64.ntmps (cutL []) (bodyOf Try.f64) = true := by kernel_rfl
theorem m_impl_SetMap_isNatural (m : SetMapD) (hok : allP (okL c_impl_SetMap_isNatural.args (m, ()))) (hpre : allP (c_impl_SetMap_isNatural.pre (m, ()))) : W_impl_SetMap_isNatural m (fun r => r = c_impl_SetMap_isNatural.res (m, ())) := by
  simp only [c_impl_SetMap_isNatural, okL, T.oks, T.ok, ap, allP, true_and, and_true, implies_true] at hok hpre
  try dsimp only [T.den] at hok
  try dsimp only [T.den] at hpre
  unfold W_impl_SetMap_isNatural
  have h1 := @mshape_iff m
  simp only [c_impl_SetMap_isNatural, natMR]
  grind [cnd, nb_eq, inK64]
theorem ct_impl_SetMap_isNatural : CtOk Try.prog 64 c_impl_SetMap_isNatural :=
  ct_by (Φ := lkp [(100, c_impl_SetMap_isShape), (101, c_impl_SetMap_unnatural)]) (good_cons ct_impl_SetMap_isShape (good_cons ct_impl_SetMap_unnatural good_nil)) tab_ok (by kernel_rfl) (fn := Try.f64) (c := bodyOf Try.f64) (by kernel_rfl) (by kernel_rfl) (by kernel_rfl) c_impl_SetMap_isNatural rfl .n (cutL []) (by kernel_rfl) (by kernel_rfl) k_impl_SetMap_isNatural (by decide) (fun x K => W_impl_SetMap_isNatural x.1 K) w_impl_SetMap_isNatural (fun x h1 h2 => m_impl_SetMap_isNatural x.1 h1 h2)
def c_impl_marked : Ct := ⟨[(.sl .bool)], [false], fun x => [x.1.length ≤ 1099511627776], [(false, (.sl (.fz (.int .i64))))], fun x => (selR x.1.length (fun i => x.1.getD i.toNat false), ()), false, none⟩
def W_impl_marked (there : List Bool) (K : (List Int) × Unit → Prop) : Prop := (loopW (S := ((Unit × (Int × Unit)) × ((List Int) × Unit))) (fun s => (fun next => ((inK IntKind.i64 s.1.2.1) → ((T.ok (T.sl (T.int IntKind.i64)) s.2.1) → (cnd (decide (s.1.2.1 < (((List.length there) : Nat) : Int))) (((0 : Int) ≤ s.1.2.1) ∧ ((s.1.2.1 < (((List.length there) : Nat) : Int)) ∧ (joinW (S := ((Unit × Unit) × ((List Int) × Unit))) (fun s1 => ((T.ok (T.sl (T.int IntKind.i64)) s1.2.1) → ((inK IntKind.i64 (s.1.2.1 + (1 : Int))) ∧ (next (((), ((s.1.2.1 + (1 : Int)), ())), (s1.2.1, ())))))) (fun k => (cnd (List.getD there (Int.toNat s.1.2.1) Bool.false) ((room (List.length s.2.1) (List.length (s.1.2.1 :: ([] : List Int))) 8) ∧ (k (((), ()), ((s.2.1 ++ (s.1.2.1 :: ([] : List Int))), ())))) (k (((), ()), (s.2.1, ())))))))) (K (s.2.1, ()))))))) (((), ((0 : Int), ())), (([] : List Int), ())))
theorem w_impl_marked (x : denL c_impl_marked.args) (K : (List Int) × Unit → Prop) : evF tab (lkp []) (cutL []) Try.f138 (bodyOf Try.f138) (.s .n (.s .n (.s (.s .n (.l [(3, (.ref 800003 [])), (9, (.d (.int .i64)))] [(800003, (.sl (.fz (.int .i64))))] [7, 8] (.s .n (.s .n (.s (.s .n (.s .n (.j [(3, (.ref 800003 []))] [(800003, (.sl (.fz (.int .i64))))] [7, 8, 9] .n))) .n))))) .n))) c_impl_marked x K = W_impl_marked x.1 K := by kernel_rfl
theorem k_impl_marked : okC Try.f138.ntmps (cutL []) (bodyOf Try.f138) = true := by kernel_rfl
theorem m_impl_marked (there : List Bool) (hok : allP (okL c_impl_marked.args (there, ()))) (hpre : allP (c_impl_marked.pre (there, ()))) : W_impl_marked there (fun r => r = c_impl_marked.res (there, ())) := by
  simp only [c_impl_marked, okL, T.oks, T.ok, ap, allP, true_and, and_true, implies_true] at hok hpre
  try dsimp only [T.den] at hok
  try dsimp only [T.den] at hpre
  unfold W_impl_marked
  have hm : there.length ≤ 1099511627776 := hpre
  refine loop_of (fun (s : ((Unit × (Int × Unit)) × ((List Int) × Unit))) => 0 ≤ s.1.2.1 ∧ s.1.2.1 ≤ there.length ∧ s.2.1 = selR s.1.2.1.toNat fun i => there.getD i.toNat false) (fun (s : ((Unit × (Int × Unit)) × ((List Int) × Unit))) => (there.length - s.1.2.1).toNat) ?_ ⟨by simp, by simp, rfl⟩
  rintro ⟨⟨_, i, _⟩, l, _⟩ next ⟨h0, h1, h2⟩ hn hin hl
  try dsimp only at h0 h1 h2 hn ⊢
  subst h2
  refine cnd_d (fun hc => ⟨h0, hc, join_of (fun s1 => s1.2.1 = selR (i + 1).toNat fun i => there.getD i.toNat false) (fun s1 hs _ => ⟨by rw [inK64]; (try dsimp only); omega, hn _ ⟨(by first | omega | (dsimp only; omega)), (by first | omega | (dsimp only; omega)), hs⟩ (by first | omega | (dsimp only; omega))⟩) (fun k hk => cnd_of (fun hx => ⟨?_, hk _ ?_⟩) (fun hx => hk _ ?_))⟩) (fun hc => ?_)
  · have := sel_len (p := fun i => there.getD i.toNat false) i.toNat
    unfold room
    rw [nb_eq]
    have h3 : (i :: ([] : List Int)).length = 1 := rfl
    rw [h3]
    omega
  · exact (sel_t h0 hx).symm
  · exact (sel_f h0 hx).symm
  · have e1 : i.toNat = there.length := by omega
    simp only [c_impl_marked]
    rw [e1]
theorem ct_impl_marked : CtOk Try.prog 138 c_impl_marked :=
  ct_by (Φ := lkp []) good_nil tab_ok (by kernel_rfl) (fn := Try.f138) (c := bodyOf Try.f138) (by kernel_rfl) (by kernel_rfl) (by kernel_rfl) c_impl_marked rfl (.s .n (.s .n (.s (.s .n (.l [(3, (.ref 800003 [])), (9, (.d (.int .i64)))] [(800003, (.sl (.fz (.int .i64))))] [7, 8] (.s .n (.s .n (.s (.s .n (.s .n (.j [(3, (.ref 800003 []))] [(800003, (.sl (.fz (.int .i64))))] [7, 8, 9] .n))) .n))))) .n))) (cutL []) (by kernel_rfl) (by kernel_rfl) k_impl_marked (by decide) (fun x K => W_impl_marked x.1 K) w_impl_marked (fun x h1 h2 => m_impl_marked x.1 h1 h2)
def hasR (l : List Int) (n : Int) : Bool := l.any fun x => x == n

def c_impl_has : Ct := ⟨[(.sl (.int .i64)), (.int .i64)], [false, false], fun x => [], [(false, (.fz .bool))], fun x => (hasR x.1 x.2.1, ()), false, none⟩
def W_impl_has (list : List Int) (n : Int) (K : Bool × Unit → Prop) : Prop := (loopW (S := ((Int × Unit) × Unit)) (fun s => (fun next => ((inK IntKind.i64 s.1.1) → (cnd (decide (s.1.1 < (((List.length list) : Nat) : Int))) (((0 : Int) ≤ s.1.1) ∧ ((s.1.1 < (((List.length list) : Nat) : Int)) ∧ (cnd ((List.getD list (Int.toNat s.1.1) (0 : Int)) == n) (K (Bool.true, ())) ((inK IntKind.i64 (s.1.1 + (1 : Int))) ∧ (next (((s.1.1 + (1 : Int)), ()), ())))))) (K (Bool.false, ())))))) (((0 : Int), ()), ()))
theorem w_impl_has (x : denL c_impl_has.args) (K : Bool × Unit → Prop) : evF tab (lkp []) (cutL []) Try.f159 (bodyOf Try.f159) (.s .n (.s (.s .n (.l [(9, (.d (.int .i64)))] [] [1, 7, 8] .n)) .n)) c_impl_has x K = W_impl_has x.1 x.2.1 K := by kernel_rfl
theorem k_impl_has : okC Try.f159.ntmps (cutL []) (bodyOf Try.f159) = true := by kernel_rfl
theorem m_impl_has (list : List Int) (n : Int) (hok : allP (okL c_impl_has.args (list, n, ()))) (hpre : allP (c_impl_has.pre (list, n, ()))) : W_impl_has list n (fun r => r = c_impl_has.res (list, n, ())) := by
  simp only [c_impl_has, okL, T.oks, T.ok, ap, allP, true_and, and_true, implies_true] at hok hpre
  try dsimp only [T.den] at hok
  try dsimp only [T.den] at hpre
  unfold W_impl_has
  refine loop_of (fun (s : ((Int × Unit) × Unit)) => 0 ≤ s.1.1 ∧ s.1.1 ≤ list.length ∧ hasR list n = hasR (list.drop s.1.1.toNat) n) (fun (s : ((Int × Unit) × Unit)) => (list.length - s.1.1).toNat) ?_ (by simp)
  rintro ⟨⟨i, _⟩, _⟩ next ⟨h0, h1, h2⟩ hn hin
  simp only at h0 h1 h2 hn ⊢
  refine cnd_d (fun hc => ?_) (fun hc => ?_)
  · rw [drop_c list 0 h0 hc] at h2
    simp only [hasR, List.any_cons] at h2
    grind [cnd, nb_eq, inK64, c_impl_has, hasR]
  · rw [drop_n list (by omega)] at h2
    grind [cnd, nb_eq, inK64, c_impl_has, hasR]
theorem ct_impl_has : CtOk Try.prog 159 c_impl_has :=
  ct_by (Φ := lkp []) good_nil tab_ok (by kernel_rfl) (fn := Try.f159) (c := bodyOf Try.f159) (by kernel_rfl) (by kernel_rfl) (by kernel_rfl) c_impl_has rfl (.s .n (.s (.s .n (.l [(9, (.d (.int .i64)))] [] [1, 7, 8] .n)) .n)) (cutL []) (by kernel_rfl) (by kernel_rfl) k_impl_has (by decide) (fun x K => W_impl_has x.1 x.2.1 K) w_impl_has (fun x h1 h2 => m_impl_has x.1 x.2.1 h1 h2)
def imageR (n : Int) (l : List Int) : List Int := selR n.toNat fun y => hasR l y
theorem has_app {l r : List Int} {y : Int} : hasR (l ++ r) y = (hasR l y || hasR r y) := by simp [hasR]

def c_impl_image : Ct := ⟨[(.int .i64), (.sl (.int .i64))], [false, false], fun x => [0 ≤ x.1, x.1 ≤ 256, withinR x.2.1 x.1 = true], [(false, (.sl (.fz (.int .i64))))], fun x => (imageR x.1 x.2.1, ()), false, none⟩
def W_impl_image (n : Int) (f : List Int) (K : (List Int) × Unit → Prop) : Prop := (((0 : Int) ≤ n) ∧ ((n ≤ n) ∧ ((n ≤ ((140737488355328 : Nat) : Int)) ∧ (((n * ((1 : Nat) : Int)) ≤ ((140737488355328 : Nat) : Int)) ∧ (loopW (S := ((Unit × (Int × Unit)) × ((List Bool) × Unit))) (fun s => (fun next => ((inK IntKind.i64 s.1.2.1) → ((T.ok (T.sl T.bool) s.2.1) → (cnd (decide (s.1.2.1 < (((List.length f) : Nat) : Int))) (((0 : Int) ≤ s.1.2.1) ∧ ((s.1.2.1 < (((List.length f) : Nat) : Int)) ∧ (((0 : Int) ≤ (List.getD f (Int.toNat s.1.2.1) (0 : Int))) ∧ (((List.getD f (Int.toNat s.1.2.1) (0 : Int)) < (((List.length s.2.1) : Nat) : Int)) ∧ ((inK IntKind.i64 (s.1.2.1 + (1 : Int))) ∧ (next (((), ((s.1.2.1 + (1 : Int)), ())), ((List.set s.2.1 (Int.toNat (List.getD f (Int.toNat s.1.2.1) (0 : Int))) Bool.true), ())))))))) (((List.length s.2.1) ≤ 1099511627776) ∧ (K ((selR (List.length s.2.1) (fun i => (List.getD s.2.1 (Int.toNat i) Bool.false))), ())))))))) (((), ((0 : Int), ())), ((List.replicate (Int.toNat n) Bool.false), ())))))))
theorem w_impl_image (x : denL c_impl_image.args) (K : (List Int) × Unit → Prop) : evF tab (lkp [(138, c_impl_marked)]) (cutL []) Try.f102 (bodyOf Try.f102) (.s .n (.s .n (.s (.s .n (.l [(5, (.ref 9 [])), (12, (.d (.int .i64)))] [(9, (.sl (.fz .bool)))] [10, 11] .n)) .n))) c_impl_image x K = W_impl_image x.1 x.2.1 K := by kernel_rfl
theorem k_impl_image : okC Try.f102.ntmps (cutL []) (bodyOf Try.f102) = true := by kernel_rfl
theorem m_impl_image (n : Int) (f : List Int) (hok : allP (okL c_impl_image.args (n, f, ()))) (hpre : allP (c_impl_image.pre (n, f, ()))) : W_impl_image n f (fun r => r = c_impl_image.res (n, f, ())) := by
  simp only [c_impl_image, okL, T.oks, T.ok, ap, allP, true_and, and_true, implies_true] at hok hpre
  try dsimp only [T.den] at hok
  try dsimp only [T.den] at hpre
  unfold W_impl_image
  have hn0 : 0 ≤ n := hpre.1
  have hn1 : n ≤ 256 := hpre.2.1
  have hw := within_iff.1 hpre.2.2
  have hl : f.length ≤ 140737488355328 := by simp only [nb_eq] at hok; omega
  refine ⟨hn0, Int.le_refl _, by omega, by omega, ?_⟩
  refine loop_of (fun (s : ((Unit × (Int × Unit)) × ((List Bool) × Unit))) => 0 ≤ s.1.2.1 ∧ s.1.2.1 ≤ f.length ∧ s.2.1.length = n.toNat ∧ ∀ y : Int, 0 ≤ y → y < n → s.2.1.getD y.toNat false = hasR (f.take s.1.2.1.toNat) y) (fun (s : ((Unit × (Int × Unit)) × ((List Bool) × Unit))) => (f.length - s.1.2.1).toNat) ?_ ⟨by simp, by simp, by simp, fun y y0 y1 => ?_⟩
  · rintro ⟨⟨_, i, _⟩, l, _⟩ next ⟨h0, h1, h2, h3⟩ hn hin hok2
    try dsimp only at h0 h1 h2 h3 hn ⊢
    refine cnd_d (fun hc => ?_) (fun hc => ?_)
    · have hf := hw i h0 hc
      refine ⟨h0, hc, hf.1, by omega, by rw [inK64]; (try dsimp only); omega, hn _ ⟨(by first | omega | (dsimp only; omega)), (by first | omega | (dsimp only; omega)), by simp [h2], fun y y0 y1 => ?_⟩ (by first | omega | (dsimp only; omega))⟩
      try dsimp only
      rw [set_getD _ _ _ _ _ (by omega), take_c f 0 h0 hc, has_app, ← h3 y y0 y1]
      by_cases e : f.getD i.toNat 0 = y
      · rw [if_pos (by rw [e])]; simp only [hasR, List.any_cons, List.any_nil, e, beq_self_eq_true, Bool.true_or, Bool.or_true]
      · rw [if_neg (by omega)]; simp only [hasR, List.any_cons, List.any_nil, beq_eq_false_iff_ne.2 e, Bool.or_false]
    · rw [take_n f (by omega)] at h3
      refine ⟨by omega, ?_⟩
      simp only [c_impl_image, imageR, h2]
      rw [sel_congr fun i i0 i1 => h3 i i0 (by omega)]
  · try dsimp only
    rw [List.getD_eq_getElem?_getD, List.getElem?_replicate]
    simp only [hasR]
    split <;> simp
theorem ct_impl_image : CtOk Try.prog 102 c_impl_image :=
  ct_by (Φ := lkp [(138, c_impl_marked)]) (good_cons ct_impl_marked good_nil) tab_ok (by kernel_rfl) (fn := Try.f102) (c := bodyOf Try.f102) (by kernel_rfl) (by kernel_rfl) (by kernel_rfl) c_impl_image rfl (.s .n (.s .n (.s (.s .n (.l [(5, (.ref 9 [])), (12, (.d (.int .i64)))] [(9, (.sl (.fz .bool)))] [10, 11] .n)) .n))) (cutL []) (by kernel_rfl) (by kernel_rfl) k_impl_image (by decide) (fun x K => W_impl_image x.1 x.2.1 K) w_impl_image (fun x h1 h2 => m_impl_image x.1 x.2.1 h1 h2)
def surX (m : SetMapD) (x : Int) : Bool := ((imageR (m.2.1.2.1.getD x.toNat 0) (m.2.2.getD x.toNat [])).length : Int) == m.2.1.2.1.getD x.toNat 0
def surMR (m : SetMapD) : Bool := allB m.2.2.length (surX m)

def c_impl_SetMap_isSurjective : Ct := ⟨[(.pt SetMapT)], [false], fun x => [MapP x.1], [(false, (.fz .bool))], fun x => (surMR x.1, ()), false, none⟩
def W_impl_SetMap_isSurjective (m : SetMapD) (K : Bool × Unit → Prop) : Prop := (loopW (S := ((Int × Unit) × Unit)) (fun s => (fun next => ((inK IntKind.i64 s.1.1) → (cnd (decide (s.1.1 < (((List.length m.2.2) : Nat) : Int))) (((0 : Int) ≤ s.1.1) ∧ ((s.1.1 < (((List.length m.2.2) : Nat) : Int)) ∧ (((0 : Int) ≤ s.1.1) ∧ ((s.1.1 < (((List.length m.2.1.2.1) : Nat) : Int)) ∧ (((0 : Int) ≤ (List.getD m.2.1.2.1 (Int.toNat s.1.1) (0 : Int))) ∧ (((List.getD m.2.1.2.1 (Int.toNat s.1.1) (0 : Int)) ≤ (256 : Int)) ∧ (((withinR (List.getD m.2.2 (Int.toNat s.1.1) ([] : List Int)) (List.getD m.2.1.2.1 (Int.toNat s.1.1) (0 : Int))) = Bool.true) ∧ (((0 : Int) ≤ s.1.1) ∧ ((s.1.1 < (((List.length m.2.1.2.1) : Nat) : Int)) ∧ (cnd ((((List.length (imageR (List.getD m.2.1.2.1 (Int.toNat s.1.1) (0 : Int)) (List.getD m.2.2 (Int.toNat s.1.1) ([] : List Int)))) : Nat) : Int) != (List.getD m.2.1.2.1 (Int.toNat s.1.1) (0 : Int))) (K (Bool.false, ())) ((inK IntKind.i64 (s.1.1 + (1 : Int))) ∧ (next (((s.1.1 + (1 : Int)), ()), ()))))))))))))) (K (Bool.true, ())))))) (((0 : Int), ()), ()))
theorem w_impl_SetMap_isSurjective (x : denL c_impl_SetMap_isSurjective.args) (K : Bool × Unit → Prop) : evF tab (lkp [(102, c_impl_image)]) (cutL [(4, 20)]) Try.f68 (bodyOf Try.f68) (.s .n (.s (.s .n (.l [(10, (.d (.int .i64)))] [] [0, 8, 9] .n)) .n)) c_impl_SetMap_isSurjective x K = W_impl_SetMap_isSurjective x.1 K := by kernel_rfl
theorem k_impl_SetMap_isSurjective : okC Try.f68.ntmps (cutL [(4, 20)]) (bodyOf Try.f68) = true := by kernel_rfl
theorem m_impl_SetMap_isSurjective (m : SetMapD) (hok : allP (okL c_impl_SetMap_isSurjective.args (m, ()))) (hpre : allP (c_impl_SetMap_isSurjective.pre (m, ()))) : W_impl_SetMap_isSurjective m (fun r => r = c_impl_SetMap_isSurjective.res (m, ())) := by
  simp only [c_impl_SetMap_isSurjective, okL, T.oks, T.ok, ap, allP, true_and, and_true, implies_true] at hok hpre
  try dsimp only [T.den] at hok
  try dsimp only [T.den] at hpre
  unfold W_impl_SetMap_isSurjective
  have res : ∀ b, surMR m = b → (b, ()) = c_impl_SetMap_isSurjective.res (m, ()) := fun b h => by simp only [c_impl_SetMap_isSurjective, h]
  have M : MapP m := hpre
  have hc := M.c
  have hlz := M.s.lz
  have htz := M.t.lz
  rw [← hc] at htz
  have hlp := M.l
  have hob := (cat_shape M.s.cat).ob
  refine loop_allB m.2.2.length (surX m) ?_ ?_
  · intro x next x0 x1 hno hyes _
    try dsimp only
    obtain ⟨p1, p2⟩ := M.p x x0 x1
    have hz := M.t.size x0 (by rw [← hc]; omega)
    refine cnd_d (fun _ => ⟨x0, x1, x0, by omega, by omega, by omega, p2, x0, by omega, cnd_of (fun hx => res _ ?_) (fun hx => ⟨by rw [inK64]; (try dsimp only); omega, hyes ?_⟩)⟩) (fun h => absurd x1 h)
    · refine hno ?_; unfold surX; simpa using hx
    · unfold surX; simpa using hx
  · intro next h _
    exact cnd_d (fun h => absurd h (Int.lt_irrefl _)) (fun _ => res _ h)
theorem ct_impl_SetMap_isSurjective : CtOk Try.prog 68 c_impl_SetMap_isSurjective :=
  ct_by (Φ := lkp [(102, c_impl_image)]) (good_cons ct_impl_image good_nil) tab_ok (by kernel_rfl) (fn := Try.f68) (c := bodyOf Try.f68) (by kernel_rfl) (by kernel_rfl) (by kernel_rfl) c_impl_SetMap_isSurjective rfl (.s .n (.s (.s .n (.l [(10, (.d (.int .i64)))] [] [0, 8, 9] .n)) .n)) (cutL [(4, 20)]) (by kernel_rfl) (by kernel_rfl) k_impl_SetMap_isSurjective (by decide) (fun x K => W_impl_SetMap_isSurjective x.1 K) w_impl_SetMap_isSurjective (fun x h1 h2 => m_impl_SetMap_isSurjective x.1 h1 h2)
def c_impl_IsSurjectiveMap : Ct := ⟨[SetMapT], [true], fun x => [], [(false, (.fz .bool)), (false, (.fz (.int .i64)))], fun x => ((natMR x.1 && surMR x.1), (if natMR x.1 = true then 0 else 1), ()), false, none⟩
def W_impl_IsSurjectiveMap (m : SetMapD) (K : Bool × Int × Unit → Prop) : Prop := (cnd (!(natMR m)) (K (Bool.false, ((1 : Int), ()))) ((MapP m) ∧ (K ((surMR m), ((0 : Int), ())))))
theorem w_impl_IsSurjectiveMap (x : denL c_impl_IsSurjectiveMap.args) (K : Bool × Int × Unit → Prop) : evF tab (lkp [(64, c_impl_SetMap_isNatural), (68, c_impl_SetMap_isSurjective)]) (cutL []) Try.f22 (bodyOf Try.f22) .n c_impl_IsSurjectiveMap x K = W_impl_IsSurjectiveMap x.1 K := by kernel_rfl
theorem k_impl_IsSurjectiveMap : okC Try.f22.ntmps (cutL []) (bodyOf Try.f22) = true := by kernel_rfl
theorem m_impl_IsSurjectiveMap (m : SetMapD) (hok : allP (okL c_impl_IsSurjectiveMap.args (m, ()))) (hpre : allP (c_impl_IsSurjectiveMap.pre (m, ()))) : W_impl_IsSurjectiveMap m (fun r => r = c_impl_IsSurjectiveMap.res (m, ())) := by
  simp only [c_impl_IsSurjectiveMap, okL, T.oks, T.ok, ap, allP, true_and, and_true, implies_true] at hok hpre
  try dsimp only [T.den] at hok
  try dsimp only [T.den] at hpre
  unfold W_impl_IsSurjectiveMap
  have h1 := @natM_of m
  simp only [c_impl_IsSurjectiveMap]
  grind [cnd, nb_eq, inK64]
theorem ct_impl_IsSurjectiveMap : CtOk Try.prog 22 c_impl_IsSurjectiveMap :=
  ct_by (Φ := lkp [(64, c_impl_SetMap_isNatural), (68, c_impl_SetMap_isSurjective)]) (good_cons ct_impl_SetMap_isNatural (good_cons ct_impl_SetMap_isSurjective good_nil)) tab_ok (by kernel_rfl) (fn := Try.f22) (c := bodyOf Try.f22) (by kernel_rfl) (by kernel_rfl) (by kernel_rfl) c_impl_IsSurjectiveMap rfl .n (cutL []) (by kernel_rfl) (by kernel_rfl) k_impl_IsSurjectiveMap (by decide) (fun x K => W_impl_IsSurjectiveMap x.1 K) w_impl_IsSurjectiveMap (fun x h1 h2 => m_impl_IsSurjectiveMap x.1 h1 h2)
def c_laws_eqInt64S : Ct := ⟨[(.sl (.int .i64)), (.sl (.int .i64))], [false, false], fun x => [], [(false, (.fz .bool))], fun x => (eqR (.sl (.int .i64)) x.1 x.2.1, ()), false, none⟩
def W_laws_eqInt64S (a : List Int) (b : List Int) (K : Bool × Unit → Prop) : Prop := (cnd ((((List.length a) : Nat) : Int) != (((List.length b) : Nat) : Int)) (K (Bool.false, ())) (loopW (S := ((Int × Unit) × Unit)) (fun s => (fun next => ((inK IntKind.i64 s.1.1) → (cnd (decide (s.1.1 < (((List.length a) : Nat) : Int))) (((0 : Int) ≤ s.1.1) ∧ ((s.1.1 < (((List.length a) : Nat) : Int)) ∧ (((0 : Int) ≤ s.1.1) ∧ ((s.1.1 < (((List.length b) : Nat) : Int)) ∧ (cnd ((List.getD a (Int.toNat s.1.1) (0 : Int)) != (List.getD b (Int.toNat s.1.1) (0 : Int))) (K (Bool.false, ())) ((inK IntKind.i64 (s.1.1 + (1 : Int))) ∧ (next (((s.1.1 + (1 : Int)), ()), ())))))))) (K (Bool.true, ())))))) (((0 : Int), ()), ())))
theorem w_laws_eqInt64S (x : denL c_laws_eqInt64S.args) (K : Bool × Unit → Prop) : evF tab (lkp []) (cutL [(6, 9)]) Try.f59 (bodyOf Try.f59) (.s .n (.s .n (.s (.s .n (.l [(5, (.d (.int .i64)))] [] [0, 1] .n)) .n))) c_laws_eqInt64S x K = W_laws_eqInt64S x.1 x.2.1 K := by kernel_rfl
theorem k_laws_eqInt64S : okC Try.f59.ntmps (cutL [(6, 9)]) (bodyOf Try.f59) = true := by kernel_rfl
theorem m_laws_eqInt64S (a : List Int) (b : List Int) (hok : allP (okL c_laws_eqInt64S.args (a, b, ()))) (hpre : allP (c_laws_eqInt64S.pre (a, b, ()))) : W_laws_eqInt64S a b (fun r => r = c_laws_eqInt64S.res (a, b, ())) := by
  simp only [c_laws_eqInt64S, okL, T.oks, T.ok, ap, allP, true_and, and_true, implies_true] at hok hpre
  try dsimp only [T.den] at hok
  try dsimp only [T.den] at hpre
  unfold W_laws_eqInt64S
  refine cnd_of (fun hc => ?_) (fun hc => ?_)
  · simp only [c_laws_eqInt64S, Prod.mk.injEq, and_true]; rw [eqR_f]; rintro rfl; simp at hc
  have hl : a.length = b.length := by simp at hc; omega
  refine loop_of (fun (s : ((Int × Unit) × Unit)) => 0 ≤ s.1.1 ∧ s.1.1 ≤ a.length ∧ a.take s.1.1.toNat = b.take s.1.1.toNat) (fun (s : ((Int × Unit) × Unit)) => (a.length - s.1.1).toNat) ?_ (by simp)
  rintro ⟨⟨i, _⟩, _⟩ next ⟨h0, h1, h2⟩ hn hin
  simp only at h0 h1 h2 hn ⊢
  refine cnd_d (fun hc => ?_) (fun hc => ?_)
  · have ha := take_c a (0 : Int) h0 hc
    have hb := take_c b (0 : Int) h0 (by omega)
    refine ⟨by omega, by omega, by omega, by omega, cnd_of (fun hd => ?_) (fun hd => ?_)⟩
    · simp only [c_laws_eqInt64S, Prod.mk.injEq, and_true]; rw [eqR_f]; rintro rfl; simp at hd
    · refine ⟨by grind [cnd, nb_eq, inK64], hn _ ⟨(by first | omega | (dsimp only; omega)), (by first | omega | (dsimp only; omega)), ?_⟩ (by first | omega | (dsimp only; omega))⟩
      simp only [Bool.not_eq_false', eqR_iff, bne_eq_false_iff_eq] at hd
      simp only [ha, hb, h2, hd]
  · rw [take_n a (by omega), take_n b (by omega)] at h2
    simp [h2, c_laws_eqInt64S]
theorem ct_laws_eqInt64S : CtOk Try.prog 59 c_laws_eqInt64S :=
  ct_by (Φ := lkp []) good_nil tab_ok (by kernel_rfl) (fn := Try.f59) (c := bodyOf Try.f59) (by kernel_rfl) (by kernel_rfl) (by kernel_rfl) c_laws_eqInt64S rfl (.s .n (.s .n (.s (.s .n (.l [(5, (.d (.int .i64)))] [] [0, 1] .n)) .n))) (cutL [(6, 9)]) (by kernel_rfl) (by kernel_rfl) k_laws_eqInt64S (by decide) (fun x K => W_laws_eqInt64S x.1 x.2.1 K) w_laws_eqInt64S (fun x h1 h2 => m_laws_eqInt64S x.1 x.2.1 h1 h2)
def c_laws_eqInt64SS : Ct := ⟨[(.sl (.sl (.int .i64))), (.sl (.sl (.int .i64)))], [false, false], fun x => [], [(false, (.fz .bool))], fun x => (eqR (.sl (.sl (.int .i64))) x.1 x.2.1, ()), false, none⟩
def W_laws_eqInt64SS (a : List (List Int)) (b : List (List Int)) (K : Bool × Unit → Prop) : Prop := (cnd ((((List.length a) : Nat) : Int) != (((List.length b) : Nat) : Int)) (K (Bool.false, ())) (loopW (S := ((Int × Unit) × Unit)) (fun s => (fun next => ((inK IntKind.i64 s.1.1) → (cnd (decide (s.1.1 < (((List.length a) : Nat) : Int))) (((0 : Int) ≤ s.1.1) ∧ ((s.1.1 < (((List.length a) : Nat) : Int)) ∧ (((0 : Int) ≤ s.1.1) ∧ ((s.1.1 < (((List.length b) : Nat) : Int)) ∧ (cnd (!(eqR (T.sl (T.int IntKind.i64)) (List.getD a (Int.toNat s.1.1) ([] : List Int)) (List.getD b (Int.toNat s.1.1) ([] : List Int)))) (K (Bool.false, ())) ((inK IntKind.i64 (s.1.1 + (1 : Int))) ∧ (next (((s.1.1 + (1 : Int)), ()), ())))))))) (K (Bool.true, ())))))) (((0 : Int), ()), ())))
theorem w_laws_eqInt64SS (x : denL c_laws_eqInt64SS.args) (K : Bool × Unit → Prop) : evF tab (lkp [(59, c_laws_eqInt64S)]) (cutL [(6, 10)]) Try.f66 (bodyOf Try.f66) (.s .n (.s .n (.s (.s .n (.l [(5, (.d (.int .i64)))] [] [0, 1] .n)) .n))) c_laws_eqInt64SS x K = W_laws_eqInt64SS x.1 x.2.1 K := by kernel_rfl
theorem k_laws_eqInt64SS : okC Try.f66.ntmps (cutL [(6, 10)]) (bodyOf Try.f66) = true := by kernel_rfl
theorem m_laws_eqInt64SS (a : List (List Int)) (b : List (List Int)) (hok : allP (okL c_laws_eqInt64SS.args (a, b, ()))) (hpre : allP (c_laws_eqInt64SS.pre (a, b, ()))) : W_laws_eqInt64SS a b (fun r => r = c_laws_eqInt64SS.res (a, b, ())) := by
  simp only [c_laws_eqInt64SS, okL, T.oks, T.ok, ap, allP, true_and, and_true, implies_true] at hok hpre
  try dsimp only [T.den] at hok
  try dsimp only [T.den] at hpre
  unfold W_laws_eqInt64SS
  refine cnd_of (fun hc => ?_) (fun hc => ?_)
  · simp only [c_laws_eqInt64SS, Prod.mk.injEq, and_true]; rw [eqR_f]; rintro rfl; simp at hc
  have hl : a.length = b.length := by simp at hc; omega
  refine loop_of (fun (s : ((Int × Unit) × Unit)) => 0 ≤ s.1.1 ∧ s.1.1 ≤ a.length ∧ a.take s.1.1.toNat = b.take s.1.1.toNat) (fun (s : ((Int × Unit) × Unit)) => (a.length - s.1.1).toNat) ?_ (by simp)
  rintro ⟨⟨i, _⟩, _⟩ next ⟨h0, h1, h2⟩ hn hin
  simp only at h0 h1 h2 hn ⊢
  refine cnd_d (fun hc => ?_) (fun hc => ?_)
  · have ha := take_c a ([] : List Int) h0 hc
    have hb := take_c b ([] : List Int) h0 (by omega)
    refine ⟨by omega, by omega, by omega, by omega, cnd_of (fun hd => ?_) (fun hd => ?_)⟩
    · simp only [c_laws_eqInt64SS, Prod.mk.injEq, and_true]; rw [eqR_f]; rintro rfl; simp at hd
    · refine ⟨by grind [cnd, nb_eq, inK64], hn _ ⟨(by first | omega | (dsimp only; omega)), (by first | omega | (dsimp only; omega)), ?_⟩ (by first | omega | (dsimp only; omega))⟩
      simp only [Bool.not_eq_false', eqR_iff, bne_eq_false_iff_eq] at hd
      simp only [ha, hb, h2, hd]
  · rw [take_n a (by omega), take_n b (by omega)] at h2
    simp [h2, c_laws_eqInt64SS]
theorem ct_laws_eqInt64SS : CtOk Try.prog 66 c_laws_eqInt64SS :=
  ct_by (Φ := lkp [(59, c_laws_eqInt64S)]) (good_cons ct_laws_eqInt64S good_nil) tab_ok (by kernel_rfl) (fn := Try.f66) (c := bodyOf Try.f66) (by kernel_rfl) (by kernel_rfl) (by kernel_rfl) c_laws_eqInt64SS rfl (.s .n (.s .n (.s (.s .n (.l [(5, (.d (.int .i64)))] [] [0, 1] .n)) .n))) (cutL [(6, 10)]) (by kernel_rfl) (by kernel_rfl) k_laws_eqInt64SS (by decide) (fun x K => W_laws_eqInt64SS x.1 x.2.1 K) w_laws_eqInt64SS (fun x h1 h2 => m_laws_eqInt64SS x.1 x.2.1 h1 h2)
def c_laws_eqCategory : Ct := ⟨[CategoryT, CategoryT], [true, true], fun x => [], [(false, (.fz .bool))], fun x => (eqR CategoryT x.1 x.2.1, ()), false, none⟩
def W_laws_eqCategory (a : CategoryD) (b : CategoryD) (K : Bool × Unit → Prop) : Prop := (cnd (a.1 != b.1) (K (Bool.false, ())) (cnd (!(eqR (T.sl (T.int IntKind.i64)) a.2.1 b.2.1)) (K (Bool.false, ())) (cnd (!(eqR (T.sl (T.int IntKind.i64)) a.2.2.1 b.2.2.1)) (K (Bool.false, ())) (cnd (!(eqR (T.sl (T.int IntKind.i64)) a.2.2.2.1 b.2.2.2.1)) (K (Bool.false, ())) (cnd (!(eqR (T.sl (T.sl (T.int IntKind.i64))) a.2.2.2.2 b.2.2.2.2)) (K (Bool.false, ())) (K (Bool.true, ())))))))
theorem w_laws_eqCategory (x : denL c_laws_eqCategory.args) (K : Bool × Unit → Prop) : evF tab (lkp [(59, c_laws_eqInt64S), (66, c_laws_eqInt64SS)]) (cutL []) Try.f58 (bodyOf Try.f58) .n c_laws_eqCategory x K = W_laws_eqCategory x.1 x.2.1 K := by kernel_rfl
theorem k_laws_eqCategory : okC Try.f58.ntmps (cutL []) (bodyOf Try.f58) = true := by kernel_rfl
theorem m_laws_eqCategory (a : CategoryD) (b : CategoryD) (hok : allP (okL c_laws_eqCategory.args (a, b, ()))) (hpre : allP (c_laws_eqCategory.pre (a, b, ()))) : W_laws_eqCategory a b (fun r => r = c_laws_eqCategory.res (a, b, ())) := by
  simp only [c_laws_eqCategory, okL, T.oks, T.ok, ap, allP, true_and, and_true, implies_true] at hok hpre
  try dsimp only [T.den] at hok
  try dsimp only [T.den] at hpre
  unfold W_laws_eqCategory
  simp only [c_laws_eqCategory, eqR_p, eqR_int, eqR_bool]
  grind [cnd, nb_eq, inK64]
theorem ct_laws_eqCategory : CtOk Try.prog 58 c_laws_eqCategory :=
  ct_by (Φ := lkp [(59, c_laws_eqInt64S), (66, c_laws_eqInt64SS)]) (good_cons ct_laws_eqInt64S (good_cons ct_laws_eqInt64SS good_nil)) tab_ok (by kernel_rfl) (fn := Try.f58) (c := bodyOf Try.f58) (by kernel_rfl) (by kernel_rfl) (by kernel_rfl) c_laws_eqCategory rfl .n (cutL []) (by kernel_rfl) (by kernel_rfl) k_laws_eqCategory (by decide) (fun x K => W_laws_eqCategory x.1 x.2.1 K) w_laws_eqCategory (fun x h1 h2 => m_laws_eqCategory x.1 x.2.1 h1 h2)
def c_laws_eqSetFunctor : Ct := ⟨[SetFunctorT, SetFunctorT], [true, true], fun x => [], [(false, (.fz .bool))], fun x => (eqR SetFunctorT x.1 x.2.1, ()), false, none⟩
def W_laws_eqSetFunctor (a : SetFunctorD) (b : SetFunctorD) (K : Bool × Unit → Prop) : Prop := (cnd (!(eqR CategoryT a.1 b.1)) (K (Bool.false, ())) (cnd (!(eqR (T.sl (T.int IntKind.i64)) a.2.1 b.2.1)) (K (Bool.false, ())) (cnd (!(eqR (T.sl (T.sl (T.int IntKind.i64))) a.2.2 b.2.2)) (K (Bool.false, ())) (K (Bool.true, ())))))
theorem w_laws_eqSetFunctor (x : denL c_laws_eqSetFunctor.args) (K : Bool × Unit → Prop) : evF tab (lkp [(58, c_laws_eqCategory), (59, c_laws_eqInt64S), (66, c_laws_eqInt64SS)]) (cutL []) Try.f37 (bodyOf Try.f37) .n c_laws_eqSetFunctor x K = W_laws_eqSetFunctor x.1 x.2.1 K := by kernel_rfl
theorem k_laws_eqSetFunctor : okC Try.f37.ntmps (cutL []) (bodyOf Try.f37) = true := by kernel_rfl
theorem m_laws_eqSetFunctor (a : SetFunctorD) (b : SetFunctorD) (hok : allP (okL c_laws_eqSetFunctor.args (a, b, ()))) (hpre : allP (c_laws_eqSetFunctor.pre (a, b, ()))) : W_laws_eqSetFunctor a b (fun r => r = c_laws_eqSetFunctor.res (a, b, ())) := by
  simp only [c_laws_eqSetFunctor, okL, T.oks, T.ok, ap, allP, true_and, and_true, implies_true] at hok hpre
  try dsimp only [T.den] at hok
  try dsimp only [T.den] at hpre
  unfold W_laws_eqSetFunctor
  simp only [c_laws_eqSetFunctor, eqR_p, eqR_int, eqR_bool]
  grind [cnd, nb_eq, inK64]
theorem ct_laws_eqSetFunctor : CtOk Try.prog 37 c_laws_eqSetFunctor :=
  ct_by (Φ := lkp [(58, c_laws_eqCategory), (59, c_laws_eqInt64S), (66, c_laws_eqInt64SS)]) (good_cons ct_laws_eqCategory (good_cons ct_laws_eqInt64S (good_cons ct_laws_eqInt64SS good_nil))) tab_ok (by kernel_rfl) (fn := Try.f37) (c := bodyOf Try.f37) (by kernel_rfl) (by kernel_rfl) (by kernel_rfl) c_laws_eqSetFunctor rfl .n (cutL []) (by kernel_rfl) (by kernel_rfl) k_laws_eqSetFunctor (by decide) (fun x K => W_laws_eqSetFunctor x.1 x.2.1 K) w_laws_eqSetFunctor (fun x h1 h2 => m_laws_eqSetFunctor x.1 x.2.1 h1 h2)
def c_laws_eqSetMap : Ct := ⟨[SetMapT, SetMapT], [true, true], fun x => [], [(false, (.fz .bool))], fun x => (eqR SetMapT x.1 x.2.1, ()), false, none⟩
def W_laws_eqSetMap (a : SetMapD) (b : SetMapD) (K : Bool × Unit → Prop) : Prop := (cnd (!(eqR SetFunctorT a.1 b.1)) (K (Bool.false, ())) (cnd (!(eqR SetFunctorT a.2.1 b.2.1)) (K (Bool.false, ())) (cnd (!(eqR (T.sl (T.sl (T.int IntKind.i64))) a.2.2 b.2.2)) (K (Bool.false, ())) (K (Bool.true, ())))))
theorem w_laws_eqSetMap (x : denL c_laws_eqSetMap.args) (K : Bool × Unit → Prop) : evF tab (lkp [(66, c_laws_eqInt64SS), (37, c_laws_eqSetFunctor)]) (cutL []) Try.f20 (bodyOf Try.f20) .n c_laws_eqSetMap x K = W_laws_eqSetMap x.1 x.2.1 K := by kernel_rfl
theorem k_laws_eqSetMap : okC Try.f20.ntmps (cutL []) (bodyOf Try.f20) = true := by kernel_rfl
theorem m_laws_eqSetMap (a : SetMapD) (b : SetMapD) (hok : allP (okL c_laws_eqSetMap.args (a, b, ()))) (hpre : allP (c_laws_eqSetMap.pre (a, b, ()))) : W_laws_eqSetMap a b (fun r => r = c_laws_eqSetMap.res (a, b, ())) := by
  simp only [c_laws_eqSetMap, okL, T.oks, T.ok, ap, allP, true_and, and_true, implies_true] at hok hpre
  try dsimp only [T.den] at hok
  try dsimp only [T.den] at hpre
  unfold W_laws_eqSetMap
  simp only [c_laws_eqSetMap, eqR_p, eqR_int, eqR_bool]
  grind [cnd, nb_eq, inK64]
theorem ct_laws_eqSetMap : CtOk Try.prog 20 c_laws_eqSetMap :=
  ct_by (Φ := lkp [(66, c_laws_eqInt64SS), (37, c_laws_eqSetFunctor)]) (good_cons ct_laws_eqInt64SS (good_cons ct_laws_eqSetFunctor good_nil)) tab_ok (by kernel_rfl) (fn := Try.f20) (c := bodyOf Try.f20) (by kernel_rfl) (by kernel_rfl) (by kernel_rfl) c_laws_eqSetMap rfl .n (cutL []) (by kernel_rfl) (by kernel_rfl) k_laws_eqSetMap (by decide) (fun x K => W_laws_eqSetMap x.1 x.2.1 K) w_laws_eqSetMap (fun x h1 h2 => m_laws_eqSetMap x.1 x.2.1 h1 h2)
def c_laws_szInt64S : Ct := ⟨[(.sl (.int .i64)), (.int .i64)], [false, false], fun x => [-4611545280939032576 ≤ x.2.1], [(false, (.fz (.int .i64)))], fun x => (szR (wR (.sl (.int .i64)) x.1) x.2.1, ()), false, none⟩
def W_laws_szInt64S (a : List Int) (left : Int) (K : Int × Unit → Prop) : Prop := ((inK IntKind.i64 (left - (((List.length a) : Nat) : Int))) ∧ (cnd (decide ((left - (((List.length a) : Nat) : Int)) < (0 : Int))) (K ((-(1 : Int)), ())) (K ((left - (((List.length a) : Nat) : Int)), ()))))
theorem w_laws_szInt64S (x : denL c_laws_szInt64S.args) (K : Int × Unit → Prop) : evF tab (lkp []) (cutL []) Try.f49 (bodyOf Try.f49) .n c_laws_szInt64S x K = W_laws_szInt64S x.1 x.2.1 K := by kernel_rfl
theorem k_laws_szInt64S : okC Try.f49.ntmps (cutL []) (bodyOf Try.f49) = true := by kernel_rfl
theorem m_laws_szInt64S (a : List Int) (left : Int) (hok : allP (okL c_laws_szInt64S.args (a, left, ()))) (hpre : allP (c_laws_szInt64S.pre (a, left, ()))) : W_laws_szInt64S a left (fun r => r = c_laws_szInt64S.res (a, left, ())) := by
  simp only [c_laws_szInt64S, okL, T.oks, T.ok, ap, allP, true_and, and_true, implies_true] at hok hpre
  try dsimp only [T.den] at hok
  try dsimp only [T.den] at hpre
  unfold W_laws_szInt64S
  simp only [c_laws_szInt64S, wR_ints]
  grind [cnd, nb_eq, inK64, szR]
theorem ct_laws_szInt64S : CtOk Try.prog 49 c_laws_szInt64S :=
  ct_by (Φ := lkp []) good_nil tab_ok (by kernel_rfl) (fn := Try.f49) (c := bodyOf Try.f49) (by kernel_rfl) (by kernel_rfl) (by kernel_rfl) c_laws_szInt64S rfl .n (cutL []) (by kernel_rfl) (by kernel_rfl) k_laws_szInt64S (by decide) (fun x K => W_laws_szInt64S x.1 x.2.1 K) w_laws_szInt64S (fun x h1 h2 => m_laws_szInt64S x.1 x.2.1 h1 h2)
def c_laws_szInt64SS : Ct := ⟨[(.sl (.sl (.int .i64))), (.int .i64)], [false, false], fun x => [-4611404543450677248 ≤ x.2.1], [(false, (.fz (.int .i64)))], fun x => (szR (wR (.sl (.sl (.int .i64))) x.1) x.2.1, ()), false, none⟩
def W_laws_szInt64SS (a : List (List Int)) (left : Int) (K : Int × Unit → Prop) : Prop := ((inK IntKind.i64 (left - (((List.length a) : Nat) : Int))) ∧ (cnd (decide ((left - (((List.length a) : Nat) : Int)) < (0 : Int))) (K ((-(1 : Int)), ())) (loopW (S := ((Int × (Int × Unit)) × Unit)) (fun s => (fun next => ((inK IntKind.i64 s.1.1) → ((inK IntKind.i64 s.1.2.1) → (cnd (decide (s.1.2.1 < (((List.length a) : Nat) : Int))) (((0 : Int) ≤ s.1.2.1) ∧ ((s.1.2.1 < (((List.length a) : Nat) : Int)) ∧ (((-(4611545280939032576 : Int)) ≤ s.1.1) ∧ (cnd (decide ((szR (wR (T.sl (T.int IntKind.i64)) (List.getD a (Int.toNat s.1.2.1) ([] : List Int))) s.1.1) < (0 : Int))) (K ((-(1 : Int)), ())) ((inK IntKind.i64 (s.1.2.1 + (1 : Int))) ∧ (next (((szR (wR (T.sl (T.int IntKind.i64)) (List.getD a (Int.toNat s.1.2.1) ([] : List Int))) s.1.1), ((s.1.2.1 + (1 : Int)), ())), ()))))))) (K (s.1.1, ()))))))) (((left - (((List.length a) : Nat) : Int)), ((0 : Int), ())), ()))))
theorem w_laws_szInt64SS (x : denL c_laws_szInt64SS.args) (K : Int × Unit → Prop) : evF tab (lkp [(49, c_laws_szInt64S)]) (cutL []) Try.f60 (bodyOf Try.f60) (.s .n (.s .n (.s .n (.s (.s .n (.l [(1, (.d (.int .i64))), (5, (.d (.int .i64)))] [] [0] .n)) .n)))) c_laws_szInt64SS x K = W_laws_szInt64SS x.1 x.2.1 K := by kernel_rfl
theorem k_laws_szInt64SS : okC Try.f60.ntmps (cutL []) (bodyOf Try.f60) = true := by kernel_rfl
theorem m_laws_szInt64SS (a : List (List Int)) (left : Int) (hok : allP (okL c_laws_szInt64SS.args (a, left, ()))) (hpre : allP (c_laws_szInt64SS.pre (a, left, ()))) : W_laws_szInt64SS a left (fun r => r = c_laws_szInt64SS.res (a, left, ())) := by
  simp only [c_laws_szInt64SS, okL, T.oks, T.ok, ap, allP, true_and, and_true, implies_true] at hok hpre
  try dsimp only [T.den] at hok
  try dsimp only [T.den] at hpre
  unfold W_laws_szInt64SS
  have hr := szR_ge (x := a.length) (r := (a.map (wR (.sl (.int .i64)))).sum) (l := left)
  refine ⟨by grind [cnd, nb_eq, inK64], cnd_d (fun hc => ?_) (fun hc => ?_)⟩
  · simp only [c_laws_szInt64SS]; rw [wR_sl, szR_lt (x := a.length) (by omega)]
  replace hr := hr (by omega)
  rw [szR_val (x := a.length) (by omega)] at hr
  refine loop_of (fun (s : ((Int × (Int × Unit)) × Unit)) => 0 ≤ s.1.1 ∧ 0 ≤ s.1.2.1 ∧ s.1.2.1 ≤ a.length ∧ szR (wR (.sl (.sl (.int .i64))) a) left = szR ((a.drop s.1.2.1.toNat).map (wR (.sl (.int .i64)))).sum s.1.1) (fun (s : ((Int × (Int × Unit)) × Unit)) => (a.length - s.1.2.1).toNat) ?_ ⟨(by first | omega | (dsimp only; omega)), by simp, by simp, by rw [wR_sl]; simpa using hr⟩
  rintro ⟨⟨l, i, _⟩, _⟩ next ⟨h0, h1, h2, h3⟩ hn hin hl
  simp only at h0 h1 h2 h3 hn ⊢
  refine cnd_d (fun hc => ?_) (fun hc => ?_)
  · rw [drop_c a ([] : List Int) h1 hc, List.map_cons, List.sum_cons] at h3
    refine ⟨by omega, by omega, by omega, cnd_d (fun hd => ?_) (fun hd => ?_)⟩
    · rw [szR_neg] at hd
      rw [szR_lt hd] at h3
      simp only [c_laws_szInt64SS]; rw [h3]
    · rw [szR_neg] at hd
      rw [szR_ge hd] at h3
      exact ⟨by grind [cnd, nb_eq, inK64], hn _ ⟨by simp only; rw [szR_val hd]; omega, (by first | omega | (dsimp only; omega)), (by first | omega | (dsimp only; omega)), h3⟩ (by first | omega | (dsimp only; omega))⟩
  · rw [drop_n a (by omega)] at h3
    simp only [List.map_nil, List.sum_nil] at h3
    rw [szR_zero h0] at h3
    simp only [c_laws_szInt64SS]; rw [h3]
theorem ct_laws_szInt64SS : CtOk Try.prog 60 c_laws_szInt64SS :=
  ct_by (Φ := lkp [(49, c_laws_szInt64S)]) (good_cons ct_laws_szInt64S good_nil) tab_ok (by kernel_rfl) (fn := Try.f60) (c := bodyOf Try.f60) (by kernel_rfl) (by kernel_rfl) (by kernel_rfl) c_laws_szInt64SS rfl (.s .n (.s .n (.s .n (.s (.s .n (.l [(1, (.d (.int .i64))), (5, (.d (.int .i64)))] [] [0] .n)) .n)))) (cutL []) (by kernel_rfl) (by kernel_rfl) k_laws_szInt64SS (by decide) (fun x K => W_laws_szInt64SS x.1 x.2.1 K) w_laws_szInt64SS (fun x h1 h2 => m_laws_szInt64SS x.1 x.2.1 h1 h2)
def c_laws_szCategory : Ct := ⟨[CategoryT, (.int .i64)], [true, false], fun x => [-4611404543450677248 ≤ x.2.1], [(false, (.fz (.int .i64)))], fun x => (szR (wR CategoryT x.1) x.2.1, ()), false, none⟩
def W_laws_szCategory (a : CategoryD) (left : Int) (K : Int × Unit → Prop) : Prop := (((-(4611545280939032576 : Int)) ≤ left) ∧ (cnd (decide ((szR (wR (T.sl (T.int IntKind.i64)) a.2.1) left) < (0 : Int))) (K ((-(1 : Int)), ())) (((-(4611545280939032576 : Int)) ≤ (szR (wR (T.sl (T.int IntKind.i64)) a.2.1) left)) ∧ (cnd (decide ((szR (wR (T.sl (T.int IntKind.i64)) a.2.2.1) (szR (wR (T.sl (T.int IntKind.i64)) a.2.1) left)) < (0 : Int))) (K ((-(1 : Int)), ())) (((-(4611545280939032576 : Int)) ≤ (szR (wR (T.sl (T.int IntKind.i64)) a.2.2.1) (szR (wR (T.sl (T.int IntKind.i64)) a.2.1) left))) ∧ (cnd (decide ((szR (wR (T.sl (T.int IntKind.i64)) a.2.2.2.1) (szR (wR (T.sl (T.int IntKind.i64)) a.2.2.1) (szR (wR (T.sl (T.int IntKind.i64)) a.2.1) left))) < (0 : Int))) (K ((-(1 : Int)), ())) (((-(4611404543450677248 : Int)) ≤ (szR (wR (T.sl (T.int IntKind.i64)) a.2.2.2.1) (szR (wR (T.sl (T.int IntKind.i64)) a.2.2.1) (szR (wR (T.sl (T.int IntKind.i64)) a.2.1) left)))) ∧ (cnd (decide ((szR (wR (T.sl (T.sl (T.int IntKind.i64))) a.2.2.2.2) (szR (wR (T.sl (T.int IntKind.i64)) a.2.2.2.1) (szR (wR (T.sl (T.int IntKind.i64)) a.2.2.1) (szR (wR (T.sl (T.int IntKind.i64)) a.2.1) left)))) < (0 : Int))) (K ((-(1 : Int)), ())) (K ((szR (wR (T.sl (T.sl (T.int IntKind.i64))) a.2.2.2.2) (szR (wR (T.sl (T.int IntKind.i64)) a.2.2.2.1) (szR (wR (T.sl (T.int IntKind.i64)) a.2.2.1) (szR (wR (T.sl (T.int IntKind.i64)) a.2.1) left)))), ()))))))))))
theorem w_laws_szCategory (x : denL c_laws_szCategory.args) (K : Int × Unit → Prop) : evF tab (lkp [(49, c_laws_szInt64S), (60, c_laws_szInt64SS)]) (cutL []) Try.f48 (bodyOf Try.f48) .n c_laws_szCategory x K = W_laws_szCategory x.1 x.2.1 K := by kernel_rfl
theorem k_laws_szCategory : okC Try.f48.ntmps (cutL []) (bodyOf Try.f48) = true := by kernel_rfl
theorem m_laws_szCategory (a : CategoryD) (left : Int) (hok : allP (okL c_laws_szCategory.args (a, left, ()))) (hpre : allP (c_laws_szCategory.pre (a, left, ()))) : W_laws_szCategory a left (fun r => r = c_laws_szCategory.res (a, left, ())) := by
  simp only [c_laws_szCategory, okL, T.oks, T.ok, ap, allP, true_and, and_true, implies_true] at hok hpre
  try dsimp only [T.den] at hok
  try dsimp only [T.den] at hpre
  unfold W_laws_szCategory
  simp only [c_laws_szCategory, wR_p, wR_int, wR_bool, Nat.zero_add, Nat.add_zero]
  grind [cnd, nb_eq, inK64, szR]
theorem ct_laws_szCategory : CtOk Try.prog 48 c_laws_szCategory :=
  ct_by (Φ := lkp [(49, c_laws_szInt64S), (60, c_laws_szInt64SS)]) (good_cons ct_laws_szInt64S (good_cons ct_laws_szInt64SS good_nil)) tab_ok (by kernel_rfl) (fn := Try.f48) (c := bodyOf Try.f48) (by kernel_rfl) (by kernel_rfl) (by kernel_rfl) c_laws_szCategory rfl .n (cutL []) (by kernel_rfl) (by kernel_rfl) k_laws_szCategory (by decide) (fun x K => W_laws_szCategory x.1 x.2.1 K) w_laws_szCategory (fun x h1 h2 => m_laws_szCategory x.1 x.2.1 h1 h2)
def c_laws_szSetFunctor : Ct := ⟨[SetFunctorT, (.int .i64)], [true, false], fun x => [-4611404543450677248 ≤ x.2.1], [(false, (.fz (.int .i64)))], fun x => (szR (wR SetFunctorT x.1) x.2.1, ()), false, none⟩
def W_laws_szSetFunctor (a : SetFunctorD) (left : Int) (K : Int × Unit → Prop) : Prop := (((-(4611404543450677248 : Int)) ≤ left) ∧ (cnd (decide ((szR (wR CategoryT a.1) left) < (0 : Int))) (K ((-(1 : Int)), ())) (((-(4611545280939032576 : Int)) ≤ (szR (wR CategoryT a.1) left)) ∧ (cnd (decide ((szR (wR (T.sl (T.int IntKind.i64)) a.2.1) (szR (wR CategoryT a.1) left)) < (0 : Int))) (K ((-(1 : Int)), ())) (((-(4611404543450677248 : Int)) ≤ (szR (wR (T.sl (T.int IntKind.i64)) a.2.1) (szR (wR CategoryT a.1) left))) ∧ (cnd (decide ((szR (wR (T.sl (T.sl (T.int IntKind.i64))) a.2.2) (szR (wR (T.sl (T.int IntKind.i64)) a.2.1) (szR (wR CategoryT a.1) left))) < (0 : Int))) (K ((-(1 : Int)), ())) (K ((szR (wR (T.sl (T.sl (T.int IntKind.i64))) a.2.2) (szR (wR (T.sl (T.int IntKind.i64)) a.2.1) (szR (wR CategoryT a.1) left))), ()))))))))
theorem w_laws_szSetFunctor (x : denL c_laws_szSetFunctor.args) (K : Int × Unit → Prop) : evF tab (lkp [(48, c_laws_szCategory), (49, c_laws_szInt64S), (60, c_laws_szInt64SS)]) (cutL []) Try.f31 (bodyOf Try.f31) .n c_laws_szSetFunctor x K = W_laws_szSetFunctor x.1 x.2.1 K := by kernel_rfl
theorem k_laws_szSetFunctor : okC Try.f31.ntmps (cutL []) (bodyOf Try.f31) = true := by kernel_rfl
theorem m_laws_szSetFunctor (a : SetFunctorD) (left : Int) (hok : allP (okL c_laws_szSetFunctor.args (a, left, ()))) (hpre : allP (c_laws_szSetFunctor.pre (a, left, ()))) : W_laws_szSetFunctor a left (fun r => r = c_laws_szSetFunctor.res (a, left, ())) := by
  simp only [c_laws_szSetFunctor, okL, T.oks, T.ok, ap, allP, true_and, and_true, implies_true] at hok hpre
  try dsimp only [T.den] at hok
  try dsimp only [T.den] at hpre
  unfold W_laws_szSetFunctor
  simp only [c_laws_szSetFunctor, wR_p, wR_int, wR_bool, Nat.zero_add, Nat.add_zero]
  grind [cnd, nb_eq, inK64, szR]
theorem ct_laws_szSetFunctor : CtOk Try.prog 31 c_laws_szSetFunctor :=
  ct_by (Φ := lkp [(48, c_laws_szCategory), (49, c_laws_szInt64S), (60, c_laws_szInt64SS)]) (good_cons ct_laws_szCategory (good_cons ct_laws_szInt64S (good_cons ct_laws_szInt64SS good_nil))) tab_ok (by kernel_rfl) (fn := Try.f31) (c := bodyOf Try.f31) (by kernel_rfl) (by kernel_rfl) (by kernel_rfl) c_laws_szSetFunctor rfl .n (cutL []) (by kernel_rfl) (by kernel_rfl) k_laws_szSetFunctor (by decide) (fun x K => W_laws_szSetFunctor x.1 x.2.1 K) w_laws_szSetFunctor (fun x h1 h2 => m_laws_szSetFunctor x.1 x.2.1 h1 h2)
def c_laws_szSetMap : Ct := ⟨[SetMapT, (.int .i64)], [true, false], fun x => [-4611404543450677248 ≤ x.2.1], [(false, (.fz (.int .i64)))], fun x => (szR (wR SetMapT x.1) x.2.1, ()), false, none⟩
def W_laws_szSetMap (a : SetMapD) (left : Int) (K : Int × Unit → Prop) : Prop := (((-(4611404543450677248 : Int)) ≤ left) ∧ (cnd (decide ((szR (wR SetFunctorT a.1) left) < (0 : Int))) (K ((-(1 : Int)), ())) (((-(4611404543450677248 : Int)) ≤ (szR (wR SetFunctorT a.1) left)) ∧ (cnd (decide ((szR (wR SetFunctorT a.2.1) (szR (wR SetFunctorT a.1) left)) < (0 : Int))) (K ((-(1 : Int)), ())) (((-(4611404543450677248 : Int)) ≤ (szR (wR SetFunctorT a.2.1) (szR (wR SetFunctorT a.1) left))) ∧ (cnd (decide ((szR (wR (T.sl (T.sl (T.int IntKind.i64))) a.2.2) (szR (wR SetFunctorT a.2.1) (szR (wR SetFunctorT a.1) left))) < (0 : Int))) (K ((-(1 : Int)), ())) (K ((szR (wR (T.sl (T.sl (T.int IntKind.i64))) a.2.2) (szR (wR SetFunctorT a.2.1) (szR (wR SetFunctorT a.1) left))), ()))))))))
theorem w_laws_szSetMap (x : denL c_laws_szSetMap.args) (K : Int × Unit → Prop) : evF tab (lkp [(60, c_laws_szInt64SS), (31, c_laws_szSetFunctor)]) (cutL []) Try.f16 (bodyOf Try.f16) .n c_laws_szSetMap x K = W_laws_szSetMap x.1 x.2.1 K := by kernel_rfl
theorem k_laws_szSetMap : okC Try.f16.ntmps (cutL []) (bodyOf Try.f16) = true := by kernel_rfl
theorem m_laws_szSetMap (a : SetMapD) (left : Int) (hok : allP (okL c_laws_szSetMap.args (a, left, ()))) (hpre : allP (c_laws_szSetMap.pre (a, left, ()))) : W_laws_szSetMap a left (fun r => r = c_laws_szSetMap.res (a, left, ())) := by
  simp only [c_laws_szSetMap, okL, T.oks, T.ok, ap, allP, true_and, and_true, implies_true] at hok hpre
  try dsimp only [T.den] at hok
  try dsimp only [T.den] at hpre
  unfold W_laws_szSetMap
  simp only [c_laws_szSetMap, wR_p, wR_int, wR_bool, Nat.zero_add, Nat.add_zero]
  grind [cnd, nb_eq, inK64, szR]
theorem ct_laws_szSetMap : CtOk Try.prog 16 c_laws_szSetMap :=
  ct_by (Φ := lkp [(60, c_laws_szInt64SS), (31, c_laws_szSetFunctor)]) (good_cons ct_laws_szInt64SS (good_cons ct_laws_szSetFunctor good_nil)) tab_ok (by kernel_rfl) (fn := Try.f16) (c := bodyOf Try.f16) (by kernel_rfl) (by kernel_rfl) (by kernel_rfl) c_laws_szSetMap rfl .n (cutL []) (by kernel_rfl) (by kernel_rfl) k_laws_szSetMap (by decide) (fun x K => W_laws_szSetMap x.1 x.2.1 K) w_laws_szSetMap (fun x h1 h2 => m_laws_szSetMap x.1 x.2.1 h1 h2)
def c_laws_toInt64S : Ct := ⟨[(.sl (.int .i64))], [false], fun x => [wR (.sl (.int .i64)) x.1 ≤ 1099511627776], [(false, (.sl (.fz (.int .i64))))], fun x => (x.1, ()), false, none⟩
def W_laws_toInt64S (a : List Int) (K : (List Int) × Unit → Prop) : Prop := (((0 : Int) ≤ (((List.length a) : Nat) : Int)) ∧ (((((List.length a) : Nat) : Int) ≤ (((List.length a) : Nat) : Int)) ∧ (((((List.length a) : Nat) : Int) ≤ ((140737488355328 : Nat) : Int)) ∧ ((((((List.length a) : Nat) : Int) * ((8 : Nat) : Int)) ≤ ((140737488355328 : Nat) : Int)) ∧ (loopW (S := ((Unit × (Int × Unit)) × ((List Int) × Unit))) (fun s => (fun next => ((inK IntKind.i64 s.1.2.1) → ((T.ok (T.sl (T.int IntKind.i64)) s.2.1) → (cnd (decide (s.1.2.1 < (((List.length a) : Nat) : Int))) (((0 : Int) ≤ s.1.2.1) ∧ ((s.1.2.1 < (((List.length a) : Nat) : Int)) ∧ (((0 : Int) ≤ s.1.2.1) ∧ ((s.1.2.1 < (((List.length s.2.1) : Nat) : Int)) ∧ ((inK IntKind.i64 (s.1.2.1 + (1 : Int))) ∧ (next (((), ((s.1.2.1 + (1 : Int)), ())), ((List.set s.2.1 (Int.toNat s.1.2.1) (List.getD a (Int.toNat s.1.2.1) (0 : Int))), ())))))))) (K (s.2.1, ()))))))) (((), ((0 : Int), ())), ((List.replicate (Int.toNat (((List.length a) : Nat) : Int)) (0 : Int)), ())))))))
theorem w_laws_toInt64S (x : denL c_laws_toInt64S.args) (K : (List Int) × Unit → Prop) : evF tab (lkp []) (cutL []) Try.f53 (bodyOf Try.f53) (.s .n (.s .n (.s (.s .n (.l [(3, (.ref 7 [])), (4, (.d (.int .i64)))] [(7, (.sl (.fz (.int .i64))))] [0] .n)) .n))) c_laws_toInt64S x K = W_laws_toInt64S x.1 K := by kernel_rfl
theorem k_laws_toInt64S : okC Try.f53.ntmps (cutL []) (bodyOf Try.f53) = true := by kernel_rfl
theorem m_laws_toInt64S (a : List Int) (hok : allP (okL c_laws_toInt64S.args (a, ()))) (hpre : allP (c_laws_toInt64S.pre (a, ()))) : W_laws_toInt64S a (fun r => r = c_laws_toInt64S.res (a, ())) := by
  simp only [c_laws_toInt64S, okL, T.oks, T.ok, ap, allP, true_and, and_true, implies_true] at hok hpre
  try dsimp only [T.den] at hok
  try dsimp only [T.den] at hpre
  unfold W_laws_toInt64S
  rw [wR_sl] at hpre
  refine ⟨by omega, by omega, by first | omega | (rw [nb_eq]; omega), by first | omega | (rw [nb_eq]; omega), ?_⟩
  refine loop_of (fun (s : ((Unit × (Int × Unit)) × ((List Int) × Unit))) => 0 ≤ s.1.2.1 ∧ s.1.2.1 ≤ a.length ∧ s.2.1.length = a.length ∧ s.2.1.take s.1.2.1.toNat = a.take s.1.2.1.toNat) (fun (s : ((Unit × (Int × Unit)) × ((List Int) × Unit))) => (a.length - s.1.2.1).toNat) ?_ (by simp)
  rintro ⟨⟨_, i, _⟩, l, _⟩ next ⟨h0, h1, h2, h3⟩ hn hin hl
  simp only at h0 h1 h2 h3 hn ⊢
  refine cnd_d (fun hc => ?_) (fun hc => ?_)
  · refine ⟨by omega, by omega, by omega, by omega, by grind [cnd, nb_eq, inK64], hn _ ⟨(by first | omega | (dsimp only; omega)), (by first | omega | (dsimp only; omega)), by simp [h2], ?_⟩ (by first | omega | (dsimp only; omega))⟩
    simp only
    rw [take_c a (0 : Int) h0 hc, ← h3]
    exact take_set l h0 (by omega) _
  · rw [take_n a (by omega), take_n l (by omega)] at h3
    simp [h3, c_laws_toInt64S]
theorem ct_laws_toInt64S : CtOk Try.prog 53 c_laws_toInt64S :=
  ct_by (Φ := lkp []) good_nil tab_ok (by kernel_rfl) (fn := Try.f53) (c := bodyOf Try.f53) (by kernel_rfl) (by kernel_rfl) (by kernel_rfl) c_laws_toInt64S rfl (.s .n (.s .n (.s (.s .n (.l [(3, (.ref 7 [])), (4, (.d (.int .i64)))] [(7, (.sl (.fz (.int .i64))))] [0] .n)) .n))) (cutL []) (by kernel_rfl) (by kernel_rfl) k_laws_toInt64S (by decide) (fun x K => W_laws_toInt64S x.1 K) w_laws_toInt64S (fun x h1 h2 => m_laws_toInt64S x.1 h1 h2)
def c_laws_toInt64SS : Ct := ⟨[(.sl (.sl (.int .i64)))], [false], fun x => [wR (.sl (.sl (.int .i64))) x.1 ≤ 1099511627776], [(false, (.sl (.sl (.fz (.int .i64)))))], fun x => (x.1, ()), false, none⟩
def W_laws_toInt64SS (a : List (List Int)) (K : (List (List Int)) × Unit → Prop) : Prop := (((0 : Int) ≤ (((List.length a) : Nat) : Int)) ∧ (((((List.length a) : Nat) : Int) ≤ (((List.length a) : Nat) : Int)) ∧ (((((List.length a) : Nat) : Int) ≤ ((140737488355328 : Nat) : Int)) ∧ ((((((List.length a) : Nat) : Int) * ((24 : Nat) : Int)) ≤ ((140737488355328 : Nat) : Int)) ∧ (loopW (S := ((Unit × (Int × Unit)) × ((List (List Int)) × Unit))) (fun s => (fun next => ((inK IntKind.i64 s.1.2.1) → ((T.ok (T.sl (T.sl (T.int IntKind.i64))) s.2.1) → (cnd (decide (s.1.2.1 < (((List.length a) : Nat) : Int))) (((0 : Int) ≤ s.1.2.1) ∧ ((s.1.2.1 < (((List.length a) : Nat) : Int)) ∧ (((wR (T.sl (T.int IntKind.i64)) (List.getD a (Int.toNat s.1.2.1) ([] : List Int))) ≤ 1099511627776) ∧ (((0 : Int) ≤ s.1.2.1) ∧ ((s.1.2.1 < (((List.length s.2.1) : Nat) : Int)) ∧ ((inK IntKind.i64 (s.1.2.1 + (1 : Int))) ∧ (next (((), ((s.1.2.1 + (1 : Int)), ())), ((List.set s.2.1 (Int.toNat s.1.2.1) (List.getD a (Int.toNat s.1.2.1) ([] : List Int))), ()))))))))) (K (s.2.1, ()))))))) (((), ((0 : Int), ())), ((List.replicate (Int.toNat (((List.length a) : Nat) : Int)) ([] : List Int)), ())))))))
theorem w_laws_toInt64SS (x : denL c_laws_toInt64SS.args) (K : (List (List Int)) × Unit → Prop) : evF tab (lkp [(53, c_laws_toInt64S)]) (cutL []) Try.f63 (bodyOf Try.f63) (.s .n (.s .n (.s (.s .n (.l [(3, (.ref 7 [])), (4, (.d (.int .i64)))] [(7, (.sl (.sl (.fz (.int .i64)))))] [0] .n)) .n))) c_laws_toInt64SS x K = W_laws_toInt64SS x.1 K := by kernel_rfl
theorem k_laws_toInt64SS : okC Try.f63.ntmps (cutL []) (bodyOf Try.f63) = true := by kernel_rfl
theorem m_laws_toInt64SS (a : List (List Int)) (hok : allP (okL c_laws_toInt64SS.args (a, ()))) (hpre : allP (c_laws_toInt64SS.pre (a, ()))) : W_laws_toInt64SS a (fun r => r = c_laws_toInt64SS.res (a, ())) := by
  simp only [c_laws_toInt64SS, okL, T.oks, T.ok, ap, allP, true_and, and_true, implies_true] at hok hpre
  try dsimp only [T.den] at hok
  try dsimp only [T.den] at hpre
  unfold W_laws_toInt64SS
  rw [wR_sl] at hpre
  refine ⟨by omega, by omega, by first | omega | (rw [nb_eq]; omega), by first | omega | (rw [nb_eq]; omega), ?_⟩
  refine loop_of (fun (s : ((Unit × (Int × Unit)) × ((List (List Int)) × Unit))) => 0 ≤ s.1.2.1 ∧ s.1.2.1 ≤ a.length ∧ s.2.1.length = a.length ∧ s.2.1.take s.1.2.1.toNat = a.take s.1.2.1.toNat) (fun (s : ((Unit × (Int × Unit)) × ((List (List Int)) × Unit))) => (a.length - s.1.2.1).toNat) ?_ (by simp)
  rintro ⟨⟨_, i, _⟩, l, _⟩ next ⟨h0, h1, h2, h3⟩ hn hin hl
  simp only at h0 h1 h2 h3 hn ⊢
  refine cnd_d (fun hc => ?_) (fun hc => ?_)
  · have hm := wR_mem (e := (.sl (.int .i64))) (getD_mem a ([] : List Int) h0 hc)
    refine ⟨by omega, by omega, by omega, by omega, by omega, by grind [cnd, nb_eq, inK64], hn _ ⟨(by first | omega | (dsimp only; omega)), (by first | omega | (dsimp only; omega)), by simp [h2], ?_⟩ (by first | omega | (dsimp only; omega))⟩
    simp only
    rw [take_c a ([] : List Int) h0 hc, ← h3]
    exact take_set l h0 (by omega) _
  · rw [take_n a (by omega), take_n l (by omega)] at h3
    simp [h3, c_laws_toInt64SS]
theorem ct_laws_toInt64SS : CtOk Try.prog 63 c_laws_toInt64SS :=
  ct_by (Φ := lkp [(53, c_laws_toInt64S)]) (good_cons ct_laws_toInt64S good_nil) tab_ok (by kernel_rfl) (fn := Try.f63) (c := bodyOf Try.f63) (by kernel_rfl) (by kernel_rfl) (by kernel_rfl) c_laws_toInt64SS rfl (.s .n (.s .n (.s (.s .n (.l [(3, (.ref 7 [])), (4, (.d (.int .i64)))] [(7, (.sl (.sl (.fz (.int .i64)))))] [0] .n)) .n))) (cutL []) (by kernel_rfl) (by kernel_rfl) k_laws_toInt64SS (by decide) (fun x K => W_laws_toInt64SS x.1 K) w_laws_toInt64SS (fun x h1 h2 => m_laws_toInt64SS x.1 h1 h2)
def c_laws_toCategory : Ct := ⟨[CategoryT], [true], fun x => [wR CategoryT x.1 ≤ 1099511627776], [(true, CategoryO)], fun x => (x.1, ()), false, none⟩
def W_laws_toCategory (a : CategoryD) (K : CategoryD × Unit → Prop) : Prop := (((wR (T.sl (T.int IntKind.i64)) a.2.1) ≤ 1099511627776) ∧ (((wR (T.sl (T.int IntKind.i64)) a.2.2.1) ≤ 1099511627776) ∧ (((wR (T.sl (T.int IntKind.i64)) a.2.2.2.1) ≤ 1099511627776) ∧ (((wR (T.sl (T.sl (T.int IntKind.i64))) a.2.2.2.2) ≤ 1099511627776) ∧ (K (a, ()))))))
theorem w_laws_toCategory (x : denL c_laws_toCategory.args) (K : CategoryD × Unit → Prop) : evF tab (lkp [(53, c_laws_toInt64S), (63, c_laws_toInt64SS)]) (cutL []) Try.f52 (bodyOf Try.f52) .n c_laws_toCategory x K = W_laws_toCategory x.1 K := by kernel_rfl
theorem k_laws_toCategory : okC Try.f52.ntmps (cutL []) (bodyOf Try.f52) = true := by kernel_rfl
theorem m_laws_toCategory (a : CategoryD) (hok : allP (okL c_laws_toCategory.args (a, ()))) (hpre : allP (c_laws_toCategory.pre (a, ()))) : W_laws_toCategory a (fun r => r = c_laws_toCategory.res (a, ())) := by
  simp only [c_laws_toCategory, okL, T.oks, T.ok, ap, allP, true_and, and_true, implies_true] at hok hpre
  try dsimp only [T.den] at hok
  try dsimp only [T.den] at hpre
  unfold W_laws_toCategory
  simp only [wR_p, wR_int, wR_bool] at hpre
  repeat' apply And.intro
  all_goals first | rfl | ((try simp only [wR_p, wR_int, wR_bool]); omega)
theorem ct_laws_toCategory : CtOk Try.prog 52 c_laws_toCategory :=
  ct_by (Φ := lkp [(53, c_laws_toInt64S), (63, c_laws_toInt64SS)]) (good_cons ct_laws_toInt64S (good_cons ct_laws_toInt64SS good_nil)) tab_ok (by kernel_rfl) (fn := Try.f52) (c := bodyOf Try.f52) (by kernel_rfl) (by kernel_rfl) (by kernel_rfl) c_laws_toCategory rfl .n (cutL []) (by kernel_rfl) (by kernel_rfl) k_laws_toCategory (by decide) (fun x K => W_laws_toCategory x.1 K) w_laws_toCategory (fun x h1 h2 => m_laws_toCategory x.1 h1 h2)
def c_laws_toSetFunctor : Ct := ⟨[SetFunctorT], [true], fun x => [wR SetFunctorT x.1 ≤ 1099511627776], [(true, SetFunctorO)], fun x => (x.1, ()), false, none⟩
def W_laws_toSetFunctor (a : SetFunctorD) (K : SetFunctorD × Unit → Prop) : Prop := (((wR CategoryT a.1) ≤ 1099511627776) ∧ (((wR (T.sl (T.int IntKind.i64)) a.2.1) ≤ 1099511627776) ∧ (((wR (T.sl (T.sl (T.int IntKind.i64))) a.2.2) ≤ 1099511627776) ∧ (K (a, ())))))
theorem w_laws_toSetFunctor (x : denL c_laws_toSetFunctor.args) (K : SetFunctorD × Unit → Prop) : evF tab (lkp [(52, c_laws_toCategory), (53, c_laws_toInt64S), (63, c_laws_toInt64SS)]) (cutL []) Try.f34 (bodyOf Try.f34) .n c_laws_toSetFunctor x K = W_laws_toSetFunctor x.1 K := by kernel_rfl
theorem k_laws_toSetFunctor : okC Try.f34.ntmps (cutL []) (bodyOf Try.f34) = true := by kernel_rfl
theorem m_laws_toSetFunctor (a : SetFunctorD) (hok : allP (okL c_laws_toSetFunctor.args (a, ()))) (hpre : allP (c_laws_toSetFunctor.pre (a, ()))) : W_laws_toSetFunctor a (fun r => r = c_laws_toSetFunctor.res (a, ())) := by
  simp only [c_laws_toSetFunctor, okL, T.oks, T.ok, ap, allP, true_and, and_true, implies_true] at hok hpre
  try dsimp only [T.den] at hok
  try dsimp only [T.den] at hpre
  unfold W_laws_toSetFunctor
  simp only [wR_p, wR_int, wR_bool] at hpre
  repeat' apply And.intro
  all_goals first | rfl | ((try simp only [wR_p, wR_int, wR_bool]); omega)
theorem ct_laws_toSetFunctor : CtOk Try.prog 34 c_laws_toSetFunctor :=
  ct_by (Φ := lkp [(52, c_laws_toCategory), (53, c_laws_toInt64S), (63, c_laws_toInt64SS)]) (good_cons ct_laws_toCategory (good_cons ct_laws_toInt64S (good_cons ct_laws_toInt64SS good_nil))) tab_ok (by kernel_rfl) (fn := Try.f34) (c := bodyOf Try.f34) (by kernel_rfl) (by kernel_rfl) (by kernel_rfl) c_laws_toSetFunctor rfl .n (cutL []) (by kernel_rfl) (by kernel_rfl) k_laws_toSetFunctor (by decide) (fun x K => W_laws_toSetFunctor x.1 K) w_laws_toSetFunctor (fun x h1 h2 => m_laws_toSetFunctor x.1 h1 h2)
def c_laws_toSetMap : Ct := ⟨[SetMapT], [true], fun x => [wR SetMapT x.1 ≤ 1099511627776], [(true, SetMapO)], fun x => (x.1, ()), false, none⟩
def W_laws_toSetMap (a : SetMapD) (K : SetMapD × Unit → Prop) : Prop := (((wR SetFunctorT a.1) ≤ 1099511627776) ∧ (((wR SetFunctorT a.2.1) ≤ 1099511627776) ∧ (((wR (T.sl (T.sl (T.int IntKind.i64))) a.2.2) ≤ 1099511627776) ∧ (K (a, ())))))
theorem w_laws_toSetMap (x : denL c_laws_toSetMap.args) (K : SetMapD × Unit → Prop) : evF tab (lkp [(63, c_laws_toInt64SS), (34, c_laws_toSetFunctor)]) (cutL []) Try.f18 (bodyOf Try.f18) .n c_laws_toSetMap x K = W_laws_toSetMap x.1 K := by kernel_rfl
theorem k_laws_toSetMap : okC Try.f18.ntmps (cutL []) (bodyOf Try.f18) = true := by kernel_rfl
theorem m_laws_toSetMap (a : SetMapD) (hok : allP (okL c_laws_toSetMap.args (a, ()))) (hpre : allP (c_laws_toSetMap.pre (a, ()))) : W_laws_toSetMap a (fun r => r = c_laws_toSetMap.res (a, ())) := by
  simp only [c_laws_toSetMap, okL, T.oks, T.ok, ap, allP, true_and, and_true, implies_true] at hok hpre
  try dsimp only [T.den] at hok
  try dsimp only [T.den] at hpre
  unfold W_laws_toSetMap
  simp only [wR_p, wR_int, wR_bool] at hpre
  repeat' apply And.intro
  all_goals first | rfl | ((try simp only [wR_p, wR_int, wR_bool]); omega)
theorem ct_laws_toSetMap : CtOk Try.prog 18 c_laws_toSetMap :=
  ct_by (Φ := lkp [(63, c_laws_toInt64SS), (34, c_laws_toSetFunctor)]) (good_cons ct_laws_toInt64SS (good_cons ct_laws_toSetFunctor good_nil)) tab_ok (by kernel_rfl) (fn := Try.f18) (c := bodyOf Try.f18) (by kernel_rfl) (by kernel_rfl) (by kernel_rfl) c_laws_toSetMap rfl .n (cutL []) (by kernel_rfl) (by kernel_rfl) k_laws_toSetMap (by decide) (fun x K => W_laws_toSetMap x.1 K) w_laws_toSetMap (fun x h1 h2 => m_laws_toSetMap x.1 h1 h2)
def c_spec_l01Has : Ct := ⟨[(.sl (.int .i64)), (.int .i64)], [false, false], fun x => [], [(false, (.fz .bool))], fun x => (hasR x.1 x.2.1, ()), false, none⟩
def W_spec_l01Has (list : List Int) (n : Int) (K : Bool × Unit → Prop) : Prop := (loopW (S := ((Int × Unit) × Unit)) (fun s => (fun next => ((inK IntKind.i64 s.1.1) → (cnd (decide (s.1.1 < (((List.length list) : Nat) : Int))) (((0 : Int) ≤ s.1.1) ∧ ((s.1.1 < (((List.length list) : Nat) : Int)) ∧ (cnd ((List.getD list (Int.toNat s.1.1) (0 : Int)) == n) (K (Bool.true, ())) ((inK IntKind.i64 (s.1.1 + (1 : Int))) ∧ (next (((s.1.1 + (1 : Int)), ()), ())))))) (K (Bool.false, ())))))) (((0 : Int), ()), ()))
theorem w_spec_l01Has (x : denL c_spec_l01Has.args) (K : Bool × Unit → Prop) : evF tab (lkp []) (cutL []) Try.f99 (bodyOf Try.f99) (.s .n (.s (.s .n (.l [(5, (.d (.int .i64)))] [] [0, 1] .n)) .n)) c_spec_l01Has x K = W_spec_l01Has x.1 x.2.1 K := by kernel_rfl
theorem k_spec_l01Has : okC Try.f99.ntmps (cutL []) (bodyOf Try.f99) = true := by kernel_rfl
theorem m_spec_l01Has (list : List Int) (n : Int) (hok : allP (okL c_spec_l01Has.args (list, n, ()))) (hpre : allP (c_spec_l01Has.pre (list, n, ()))) : W_spec_l01Has list n (fun r => r = c_spec_l01Has.res (list, n, ())) := by
  simp only [c_spec_l01Has, okL, T.oks, T.ok, ap, allP, true_and, and_true, implies_true] at hok hpre
  try dsimp only [T.den] at hok
  try dsimp only [T.den] at hpre
  unfold W_spec_l01Has
  refine loop_of (fun (s : ((Int × Unit) × Unit)) => 0 ≤ s.1.1 ∧ s.1.1 ≤ list.length ∧ hasR list n = hasR (list.drop s.1.1.toNat) n) (fun (s : ((Int × Unit) × Unit)) => (list.length - s.1.1).toNat) ?_ (by simp)
  rintro ⟨⟨i, _⟩, _⟩ next ⟨h0, h1, h2⟩ hn hin
  simp only at h0 h1 h2 hn ⊢
  refine cnd_d (fun hc => ?_) (fun hc => ?_)
  · rw [drop_c list 0 h0 hc] at h2
    simp only [hasR, List.any_cons] at h2
    grind [cnd, nb_eq, inK64, c_spec_l01Has, hasR]
  · rw [drop_n list (by omega)] at h2
    grind [cnd, nb_eq, inK64, c_spec_l01Has, hasR]
theorem ct_spec_l01Has : CtOk Try.prog 99 c_spec_l01Has :=
  ct_by (Φ := lkp []) good_nil tab_ok (by kernel_rfl) (fn := Try.f99) (c := bodyOf Try.f99) (by kernel_rfl) (by kernel_rfl) (by kernel_rfl) c_spec_l01Has rfl (.s .n (.s (.s .n (.l [(5, (.d (.int .i64)))] [] [0, 1] .n)) .n)) (cutL []) (by kernel_rfl) (by kernel_rfl) k_spec_l01Has (by decide) (fun x K => W_spec_l01Has x.1 x.2.1 K) w_spec_l01Has (fun x h1 h2 => m_spec_l01Has x.1 x.2.1 h1 h2)
def c_spec_l01Image : Ct := ⟨[(.int .i64), (.sl (.int .i64))], [false, false], fun x => [0 ≤ x.1, x.1 ≤ 256], [(false, (.sl (.fz (.int .i64))))], fun x => (imageR x.1 x.2.1, ()), false, none⟩
def W_spec_l01Image (n : Int) (f : List Int) (K : (List Int) × Unit → Prop) : Prop := (loopW (S := ((Unit × (Int × Unit)) × ((List Int) × Unit))) (fun s => (fun next => ((inK IntKind.i64 s.1.2.1) → ((T.ok (T.sl (T.int IntKind.i64)) s.2.1) → (cnd (decide (s.1.2.1 < n)) (joinW (S := ((Unit × Unit) × ((List Int) × Unit))) (fun s1 => ((T.ok (T.sl (T.int IntKind.i64)) s1.2.1) → ((inK IntKind.i64 (s.1.2.1 + (1 : Int))) ∧ (next (((), ((s.1.2.1 + (1 : Int)), ())), (s1.2.1, ())))))) (fun k => (cnd (hasR f s.1.2.1) ((room (List.length s.2.1) (List.length (s.1.2.1 :: ([] : List Int))) 8) ∧ (k (((), ()), ((s.2.1 ++ (s.1.2.1 :: ([] : List Int))), ())))) (k (((), ()), (s.2.1, ())))))) (K (s.2.1, ()))))))) (((), ((0 : Int), ())), (([] : List Int), ())))
theorem w_spec_l01Image (x : denL c_spec_l01Image.args) (K : (List Int) × Unit → Prop) : evF tab (lkp [(99, c_spec_l01Has)]) (cutL []) Try.f67 (bodyOf Try.f67) (.s .n (.s .n (.s (.s .n (.l [(5, (.ref 7 [])), (6, (.d (.int .i64)))] [(7, (.sl (.fz (.int .i64))))] [0, 1] (.s .n (.s (.s .n (.j [(5, (.ref 7 []))] [(7, (.sl (.fz (.int .i64))))] [0, 1, 6] .n)) .n)))) .n))) c_spec_l01Image x K = W_spec_l01Image x.1 x.2.1 K := by kernel_rfl
theorem k_spec_l01Image : okC Try.f67.ntmps (cutL []) (bodyOf Try.f67) = true := by kernel_rfl
theorem m_spec_l01Image (n : Int) (f : List Int) (hok : allP (okL c_spec_l01Image.args (n, f, ()))) (hpre : allP (c_spec_l01Image.pre (n, f, ()))) : W_spec_l01Image n f (fun r => r = c_spec_l01Image.res (n, f, ())) := by
  simp only [c_spec_l01Image, okL, T.oks, T.ok, ap, allP, true_and, and_true, implies_true] at hok hpre
  try dsimp only [T.den] at hok
  try dsimp only [T.den] at hpre
  unfold W_spec_l01Image
  have hn0 : 0 ≤ n := hpre.1
  have hn1 : n ≤ 256 := hpre.2
  refine loop_of (fun (s : ((Unit × (Int × Unit)) × ((List Int) × Unit))) => 0 ≤ s.1.2.1 ∧ s.1.2.1 ≤ n ∧ s.2.1 = selR s.1.2.1.toNat fun y => hasR f y) (fun (s : ((Unit × (Int × Unit)) × ((List Int) × Unit))) => (n - s.1.2.1).toNat) ?_ ⟨by simp, by simpa using hn0, rfl⟩
  rintro ⟨⟨_, i, _⟩, l, _⟩ next ⟨h0, h1, h2⟩ hn hin hl
  try dsimp only at h0 h1 h2 hn ⊢
  subst h2
  refine cnd_d (fun hc => join_of (fun s1 => s1.2.1 = selR (i + 1).toNat fun y => hasR f y) (fun s1 hs _ => ⟨by rw [inK64]; (try dsimp only); omega, hn _ ⟨(by first | omega | (dsimp only; omega)), (by first | omega | (dsimp only; omega)), hs⟩ (by first | omega | (dsimp only; omega))⟩) (fun k hk => cnd_of (fun hx => ⟨?_, hk _ ?_⟩) (fun hx => hk _ ?_))) (fun hc => ?_)
  · have := sel_len (p := fun y => hasR f y) i.toNat
    unfold room
    rw [nb_eq]
    have h3 : (i :: ([] : List Int)).length = 1 := rfl
    rw [h3]
    omega
  · exact (sel_t h0 hx).symm
  · exact (sel_f h0 hx).symm
  · have e1 : i = n := by omega
    simp only [c_spec_l01Image, imageR]
    rw [e1]
theorem ct_spec_l01Image : CtOk Try.prog 67 c_spec_l01Image :=
  ct_by (Φ := lkp [(99, c_spec_l01Has)]) (good_cons ct_spec_l01Has good_nil) tab_ok (by kernel_rfl) (fn := Try.f67) (c := bodyOf Try.f67) (by kernel_rfl) (by kernel_rfl) (by kernel_rfl) c_spec_l01Image rfl (.s .n (.s .n (.s (.s .n (.l [(5, (.ref 7 [])), (6, (.d (.int .i64)))] [(7, (.sl (.fz (.int .i64))))] [0, 1] (.s .n (.s (.s .n (.j [(5, (.ref 7 []))] [(7, (.sl (.fz (.int .i64))))] [0, 1, 6] .n)) .n)))) .n))) (cutL []) (by kernel_rfl) (by kernel_rfl) k_spec_l01Image (by decide) (fun x K => W_spec_l01Image x.1 x.2.1 K) w_spec_l01Image (fun x h1 h2 => m_spec_l01Image x.1 x.2.1 h1 h2)
def c_spec_l01Same : Ct := ⟨[(.sl (.int .i64)), (.sl (.int .i64))], [false, false], fun x => [], [(false, (.fz .bool))], fun x => (eqR (.sl (.int .i64)) x.1 x.2.1, ()), false, none⟩
def W_spec_l01Same (a : List Int) (b : List Int) (K : Bool × Unit → Prop) : Prop := (cnd ((((List.length a) : Nat) : Int) != (((List.length b) : Nat) : Int)) (K (Bool.false, ())) (loopW (S := ((Int × Unit) × Unit)) (fun s => (fun next => ((inK IntKind.i64 s.1.1) → (cnd (decide (s.1.1 < (((List.length a) : Nat) : Int))) (((0 : Int) ≤ s.1.1) ∧ ((s.1.1 < (((List.length a) : Nat) : Int)) ∧ (((0 : Int) ≤ s.1.1) ∧ ((s.1.1 < (((List.length b) : Nat) : Int)) ∧ (cnd ((List.getD a (Int.toNat s.1.1) (0 : Int)) != (List.getD b (Int.toNat s.1.1) (0 : Int))) (K (Bool.false, ())) ((inK IntKind.i64 (s.1.1 + (1 : Int))) ∧ (next (((s.1.1 + (1 : Int)), ()), ())))))))) (K (Bool.true, ())))))) (((0 : Int), ()), ())))
theorem w_spec_l01Same (x : denL c_spec_l01Same.args) (K : Bool × Unit → Prop) : evF tab (lkp []) (cutL [(6, 9)]) Try.f163 (bodyOf Try.f163) (.s .n (.s .n (.s (.s .n (.l [(5, (.d (.int .i64)))] [] [0, 1] .n)) .n))) c_spec_l01Same x K = W_spec_l01Same x.1 x.2.1 K := by kernel_rfl
theorem k_spec_l01Same : okC Try.f163.ntmps (cutL [(6, 9)]) (bodyOf Try.f163) = true := by kernel_rfl
theorem m_spec_l01Same (a : List Int) (b : List Int) (hok : allP (okL c_spec_l01Same.args (a, b, ()))) (hpre : allP (c_spec_l01Same.pre (a, b, ()))) : W_spec_l01Same a b (fun r => r = c_spec_l01Same.res (a, b, ())) := by
  simp only [c_spec_l01Same, okL, T.oks, T.ok, ap, allP, true_and, and_true, implies_true] at hok hpre
  try dsimp only [T.den] at hok
  try dsimp only [T.den] at hpre
  unfold W_spec_l01Same
  have ha : a.length ≤ 140737488355328 := by simp only [nb_eq] at hok; omega
  clear hok
  refine cnd_of (fun h => ?_) (fun h => ?_)
  · simp only [c_spec_l01Same]; rw [eqR_f]; rintro rfl; simp at h
  have hl : a.length = b.length := by rw [bne_eq_false_iff_eq] at h; omega
  refine loop_ix (n := a.length) (fun i => a.take i.toNat = b.take i.toNat) (by omega) (by simp) ?_ ?_
  · intro i next i0 i1 hP hn hin
    have hta := take_c a 0 i0 i1
    have htb := take_c b 0 i0 (by omega)
    refine cnd_d (fun _ => ⟨i0, i1, i0, by omega, cnd_of (fun h1 => ?_) (fun h1 => ⟨by rw [inK64]; (try dsimp only); omega, hn ?_⟩)⟩) (fun h => absurd i1 h)
    · simp only [c_spec_l01Same]; rw [eqR_f]; rintro rfl; simp at h1
    · rw [bne_eq_false_iff_eq] at h1
      rw [hta, htb, hP, h1]
  · intro next hP hin
    refine cnd_d (fun h => absurd h (by dsimp only; omega)) (fun _ => ?_)
    rw [take_n _ (Int.le_refl _), take_n _ (by omega)] at hP
    simp only [c_spec_l01Same, hP, eqR_self]
theorem ct_spec_l01Same : CtOk Try.prog 163 c_spec_l01Same :=
  ct_by (Φ := lkp []) good_nil tab_ok (by kernel_rfl) (fn := Try.f163) (c := bodyOf Try.f163) (by kernel_rfl) (by kernel_rfl) (by kernel_rfl) c_spec_l01Same rfl (.s .n (.s .n (.s (.s .n (.l [(5, (.d (.int .i64)))] [] [0, 1] .n)) .n))) (cutL [(6, 9)]) (by kernel_rfl) (by kernel_rfl) k_spec_l01Same (by decide) (fun x K => W_spec_l01Same x.1 x.2.1 K) w_spec_l01Same (fun x h1 h2 => m_spec_l01Same x.1 x.2.1 h1 h2)
def c_spec_l01Same2 : Ct := ⟨[(.sl (.sl (.int .i64))), (.sl (.sl (.int .i64)))], [false, false], fun x => [], [(false, (.fz .bool))], fun x => (eqR (.sl (.sl (.int .i64))) x.1 x.2.1, ()), false, none⟩
def W_spec_l01Same2 (a : List (List Int)) (b : List (List Int)) (K : Bool × Unit → Prop) : Prop := (cnd ((((List.length a) : Nat) : Int) != (((List.length b) : Nat) : Int)) (K (Bool.false, ())) (loopW (S := ((Int × Unit) × Unit)) (fun s => (fun next => ((inK IntKind.i64 s.1.1) → (cnd (decide (s.1.1 < (((List.length a) : Nat) : Int))) (((0 : Int) ≤ s.1.1) ∧ ((s.1.1 < (((List.length a) : Nat) : Int)) ∧ (((0 : Int) ≤ s.1.1) ∧ ((s.1.1 < (((List.length b) : Nat) : Int)) ∧ (cnd (!(eqR (T.sl (T.int IntKind.i64)) (List.getD a (Int.toNat s.1.1) ([] : List Int)) (List.getD b (Int.toNat s.1.1) ([] : List Int)))) (K (Bool.false, ())) ((inK IntKind.i64 (s.1.1 + (1 : Int))) ∧ (next (((s.1.1 + (1 : Int)), ()), ())))))))) (K (Bool.true, ())))))) (((0 : Int), ()), ())))
theorem w_spec_l01Same2 (x : denL c_spec_l01Same2.args) (K : Bool × Unit → Prop) : evF tab (lkp [(163, c_spec_l01Same)]) (cutL [(6, 10)]) Try.f164 (bodyOf Try.f164) (.s .n (.s .n (.s (.s .n (.l [(5, (.d (.int .i64)))] [] [0, 1] .n)) .n))) c_spec_l01Same2 x K = W_spec_l01Same2 x.1 x.2.1 K := by kernel_rfl
theorem k_spec_l01Same2 : okC Try.f164.ntmps (cutL [(6, 10)]) (bodyOf Try.f164) = true := by kernel_rfl
theorem m_spec_l01Same2 (a : List (List Int)) (b : List (List Int)) (hok : allP (okL c_spec_l01Same2.args (a, b, ()))) (hpre : allP (c_spec_l01Same2.pre (a, b, ()))) : W_spec_l01Same2 a b (fun r => r = c_spec_l01Same2.res (a, b, ())) := by
  simp only [c_spec_l01Same2, okL, T.oks, T.ok, ap, allP, true_and, and_true, implies_true] at hok hpre
  try dsimp only [T.den] at hok
  try dsimp only [T.den] at hpre
  unfold W_spec_l01Same2
  have ha : a.length ≤ 140737488355328 := by simp only [nb_eq] at hok; omega
  refine cnd_of (fun h => ?_) (fun h => ?_)
  · simp only [c_spec_l01Same2]; rw [eqR_f]; rintro rfl; simp at h
  have hl : a.length = b.length := by rw [bne_eq_false_iff_eq] at h; omega
  refine loop_ix (n := a.length) (fun i => a.take i.toNat = b.take i.toNat) (by omega) (by simp) ?_ ?_
  · intro i next i0 i1 hP hn hin
    have hta := take_c a [] i0 i1
    have htb := take_c b [] i0 (by omega)
    refine cnd_d (fun _ => ⟨i0, i1, i0, by omega, cnd_of (fun h1 => ?_) (fun h1 => ⟨by rw [inK64]; (try dsimp only); omega, hn ?_⟩)⟩) (fun h => absurd i1 h)
    · simp only [c_spec_l01Same2]; rw [eqR_f]; rintro rfl; simp [eqR_self] at h1
    · simp only [Bool.not_eq_false', eqR_iff] at h1
      rw [hta, htb, hP, h1]
  · intro next hP hin
    refine cnd_d (fun h => absurd h (by dsimp only; omega)) (fun _ => ?_)
    rw [take_n _ (Int.le_refl _), take_n _ (by omega)] at hP
    simp only [c_spec_l01Same2, hP, eqR_self]
theorem ct_spec_l01Same2 : CtOk Try.prog 164 c_spec_l01Same2 :=
  ct_by (Φ := lkp [(163, c_spec_l01Same)]) (good_cons ct_spec_l01Same good_nil) tab_ok (by kernel_rfl) (fn := Try.f164) (c := bodyOf Try.f164) (by kernel_rfl) (by kernel_rfl) (by kernel_rfl) c_spec_l01Same2 rfl (.s .n (.s .n (.s (.s .n (.l [(5, (.d (.int .i64)))] [] [0, 1] .n)) .n))) (cutL [(6, 10)]) (by kernel_rfl) (by kernel_rfl) k_spec_l01Same2 (by decide) (fun x K => W_spec_l01Same2 x.1 x.2.1 K) w_spec_l01Same2 (fun x h1 h2 => m_spec_l01Same2 x.1 x.2.1 h1 h2)
def c_spec_l02Same : Ct := ⟨[CategoryT, CategoryT], [true, true], fun x => [], [(false, (.fz .bool))], fun x => (eqR CategoryT x.1 x.2.1, ()), false, none⟩
def W_spec_l02Same (a : CategoryD) (b : CategoryD) (K : Bool × Unit → Prop) : Prop := (K ((((((a.1 == b.1) && (eqR (T.sl (T.int IntKind.i64)) a.2.1 b.2.1)) && (eqR (T.sl (T.int IntKind.i64)) a.2.2.1 b.2.2.1)) && (eqR (T.sl (T.int IntKind.i64)) a.2.2.2.1 b.2.2.2.1)) && (eqR (T.sl (T.sl (T.int IntKind.i64))) a.2.2.2.2 b.2.2.2.2)), ()))
theorem w_spec_l02Same (x : denL c_spec_l02Same.args) (K : Bool × Unit → Prop) : evF tab (lkp [(163, c_spec_l01Same), (164, c_spec_l01Same2)]) (cutL []) Try.f134 (bodyOf Try.f134) .n c_spec_l02Same x K = W_spec_l02Same x.1 x.2.1 K := by kernel_rfl
theorem k_spec_l02Same : okC Try.f134.ntmps (cutL []) (bodyOf Try.f134) = true := by kernel_rfl
theorem m_spec_l02Same (a : CategoryD) (b : CategoryD) (hok : allP (okL c_spec_l02Same.args (a, b, ()))) (hpre : allP (c_spec_l02Same.pre (a, b, ()))) : W_spec_l02Same a b (fun r => r = c_spec_l02Same.res (a, b, ())) := by
  simp only [c_spec_l02Same, okL, T.oks, T.ok, ap, allP, true_and, and_true, implies_true] at hok hpre
  try dsimp only [T.den] at hok
  try dsimp only [T.den] at hpre
  unfold W_spec_l02Same
  simp only [c_spec_l02Same, eqR_p, eqR_int]
  grind [cnd, nb_eq, inK64]
theorem ct_spec_l02Same : CtOk Try.prog 134 c_spec_l02Same :=
  ct_by (Φ := lkp [(163, c_spec_l01Same), (164, c_spec_l01Same2)]) (good_cons ct_spec_l01Same (good_cons ct_spec_l01Same2 good_nil)) tab_ok (by kernel_rfl) (fn := Try.f134) (c := bodyOf Try.f134) (by kernel_rfl) (by kernel_rfl) (by kernel_rfl) c_spec_l02Same rfl .n (cutL []) (by kernel_rfl) (by kernel_rfl) k_spec_l02Same (by decide) (fun x K => W_spec_l02Same x.1 x.2.1 K) w_spec_l02Same (fun x h1 h2 => m_spec_l02Same x.1 x.2.1 h1 h2)
def c_spec_l19Fault : Ct := ⟨[SetFunctorT], [true], fun x => [SfP x.1], [(false, (.fz (.int .i64))), (false, (.fz (.int .i64))), (false, (.fz (.int .i64))), (false, (.fz (.int .i64)))], fun x => ((sfFaultR x.1).1, (sfFaultR x.1).2.1, (sfFaultR x.1).2.2.1, (sfFaultR x.1).2.2.2, ()), false, none⟩
def W_spec_l19Fault (f : SetFunctorD) (K : Int × Int × Int × Int × Unit → Prop) : Prop := (loopW (S := ((Int × Unit) × Unit)) (fun s => (fun next => ((inK IntKind.i64 s.1.1) → (cnd (decide (s.1.1 < f.1.1)) (loopW (S := ((Int × Unit) × Unit)) (fun s1 => (fun next1 => ((inK IntKind.i64 s1.1.1) → (((0 : Int) ≤ s.1.1) ∧ ((s.1.1 < (((List.length f.2.1) : Nat) : Int)) ∧ (cnd (decide (s1.1.1 < (List.getD f.2.1 (Int.toNat s.1.1) (0 : Int)))) (((0 : Int) ≤ s.1.1) ∧ ((s.1.1 < (((List.length f.1.2.2.2.1) : Nat) : Int)) ∧ (((0 : Int) ≤ (List.getD f.1.2.2.2.1 (Int.toNat s.1.1) (0 : Int))) ∧ (((List.getD f.1.2.2.2.1 (Int.toNat s.1.1) (0 : Int)) < (((List.length f.2.2) : Nat) : Int)) ∧ (((0 : Int) ≤ s1.1.1) ∧ ((s1.1.1 < (((List.length (List.getD f.2.2 (Int.toNat (List.getD f.1.2.2.2.1 (Int.toNat s.1.1) (0 : Int))) ([] : List Int))) : Nat) : Int)) ∧ (cnd ((List.getD (List.getD f.2.2 (Int.toNat (List.getD f.1.2.2.2.1 (Int.toNat s.1.1) (0 : Int))) ([] : List Int)) (Int.toNat s1.1.1) (0 : Int)) != s1.1.1) (K ((1 : Int), (s.1.1, (s1.1.1, ((0 : Int), ()))))) ((inK IntKind.i64 (s1.1.1 + (1 : Int))) ∧ (next1 (((s1.1.1 + (1 : Int)), ()), ())))))))))) ((inK IntKind.i64 (s.1.1 + (1 : Int))) ∧ (next (((s.1.1 + (1 : Int)), ()), ()))))))))) (((0 : Int), ()), ())) (loopW (S := ((Int × Unit) × Unit)) (fun s1 => (fun next1 => ((inK IntKind.i64 s1.1.1) → (cnd (decide (s1.1.1 < (((List.length f.1.2.1) : Nat) : Int))) (loopW (S := ((Int × Unit) × Unit)) (fun s2 => (fun next2 => ((inK IntKind.i64 s2.1.1) → (cnd (decide (s2.1.1 < (((List.length f.1.2.1) : Nat) : Int))) (joinW (S := (Unit × Unit)) (fun s3 => ((inK IntKind.i64 (s2.1.1 + (1 : Int))) ∧ (next2 (((s2.1.1 + (1 : Int)), ()), ())))) (fun k => (((0 : Int) ≤ s1.1.1) ∧ ((s1.1.1 < (((List.length f.1.2.2.1) : Nat) : Int)) ∧ (((0 : Int) ≤ s2.1.1) ∧ ((s2.1.1 < (((List.length f.1.2.1) : Nat) : Int)) ∧ (cnd ((List.getD f.1.2.2.1 (Int.toNat s1.1.1) (0 : Int)) != (List.getD f.1.2.1 (Int.toNat s2.1.1) (0 : Int))) (k ((), ())) (loopW (S := ((Int × Unit) × Unit)) (fun s3 => (fun next3 => ((inK IntKind.i64 s3.1.1) → (((0 : Int) ≤ s1.1.1) ∧ ((s1.1.1 < (((List.length f.1.2.1) : Nat) : Int)) ∧ (((0 : Int) ≤ (List.getD f.1.2.1 (Int.toNat s1.1.1) (0 : Int))) ∧ (((List.getD f.1.2.1 (Int.toNat s1.1.1) (0 : Int)) < (((List.length f.2.1) : Nat) : Int)) ∧ (cnd (decide (s3.1.1 < (List.getD f.2.1 (Int.toNat (List.getD f.1.2.1 (Int.toNat s1.1.1) (0 : Int))) (0 : Int)))) (((0 : Int) ≤ s1.1.1) ∧ ((s1.1.1 < (((List.length f.1.2.2.2.2) : Nat) : Int)) ∧ (((0 : Int) ≤ s2.1.1) ∧ ((s2.1.1 < (((List.length (List.getD f.1.2.2.2.2 (Int.toNat s1.1.1) ([] : List Int))) : Nat) : Int)) ∧ (((0 : Int) ≤ (List.getD (List.getD f.1.2.2.2.2 (Int.toNat s1.1.1) ([] : List Int)) (Int.toNat s2.1.1) (0 : Int))) ∧ (((List.getD (List.getD f.1.2.2.2.2 (Int.toNat s1.1.1) ([] : List Int)) (Int.toNat s2.1.1) (0 : Int)) < (((List.length f.2.2) : Nat) : Int)) ∧ (((0 : Int) ≤ s3.1.1) ∧ ((s3.1.1 < (((List.length (List.getD f.2.2 (Int.toNat (List.getD (List.getD f.1.2.2.2.2 (Int.toNat s1.1.1) ([] : List Int)) (Int.toNat s2.1.1) (0 : Int))) ([] : List Int))) : Nat) : Int)) ∧ (((0 : Int) ≤ s2.1.1) ∧ ((s2.1.1 < (((List.length f.2.2) : Nat) : Int)) ∧ (((0 : Int) ≤ s1.1.1) ∧ ((s1.1.1 < (((List.length f.2.2) : Nat) : Int)) ∧ (((0 : Int) ≤ s3.1.1) ∧ ((s3.1.1 < (((List.length (List.getD f.2.2 (Int.toNat s1.1.1) ([] : List Int))) : Nat) : Int)) ∧ (((0 : Int) ≤ (List.getD (List.getD f.2.2 (Int.toNat s1.1.1) ([] : List Int)) (Int.toNat s3.1.1) (0 : Int))) ∧ (((List.getD (List.getD f.2.2 (Int.toNat s1.1.1) ([] : List Int)) (Int.toNat s3.1.1) (0 : Int)) < (((List.length (List.getD f.2.2 (Int.toNat s2.1.1) ([] : List Int))) : Nat) : Int)) ∧ (cnd ((List.getD (List.getD f.2.2 (Int.toNat (List.getD (List.getD f.1.2.2.2.2 (Int.toNat s1.1.1) ([] : List Int)) (Int.toNat s2.1.1) (0 : Int))) ([] : List Int)) (Int.toNat s3.1.1) (0 : Int)) != (List.getD (List.getD f.2.2 (Int.toNat s2.1.1) ([] : List Int)) (Int.toNat (List.getD (List.getD f.2.2 (Int.toNat s1.1.1) ([] : List Int)) (Int.toNat s3.1.1) (0 : Int))) (0 : Int))) (K ((2 : Int), (s1.1.1, (s2.1.1, (s3.1.1, ()))))) ((inK IntKind.i64 (s3.1.1 + (1 : Int))) ∧ (next3 (((s3.1.1 + (1 : Int)), ()), ())))))))))))))))))))) (k ((), ())))))))))) (((0 : Int), ()), ()))))))))) ((inK IntKind.i64 (s1.1.1 + (1 : Int))) ∧ (next1 (((s1.1.1 + (1 : Int)), ()), ()))))))) (((0 : Int), ()), ())) (K ((0 : Int), ((0 : Int), ((0 : Int), ((0 : Int), ()))))))))) (((0 : Int), ()), ())))))) (((0 : Int), ()), ()))
theorem w_spec_l19Fault (x : denL c_spec_l19Fault.args) (K : Int × Int × Int × Int × Unit → Prop) : evF tab (lkp []) (cutL [(16, 11), (18, 11), (20, 31), (8, 14)]) Try.f153 (bodyOf Try.f153) (.s .n (.s .n (.s (.s .n (.l [(7, (.d (.int .i64)))] [] [1, 6] (.s .n (.s (.s .n (.l [(8, (.d (.int .i64)))] [] [1, 6, 7] .n)) .n)))) (.s (.s .n (.l [(9, (.d (.int .i64)))] [] [1, 6] (.s .n (.s (.s .n (.l [(10, (.d (.int .i64)))] [] [1, 6, 9] (.s .n (.s (.j [] [] [1, 6, 9, 10] (.s .n (.s .n (.l [(11, (.d (.int .i64)))] [] [1, 6, 9, 10] .n)))) .n)))) .n)))) .n)))) c_spec_l19Fault x K = W_spec_l19Fault x.1 K := by kernel_rfl
theorem k_spec_l19Fault : okC Try.f153.ntmps (cutL [(16, 11), (18, 11), (20, 31), (8, 14)]) (bodyOf Try.f153) = true := by kernel_rfl
theorem m_spec_l19Fault (f : SetFunctorD) (hok : allP (okL c_spec_l19Fault.args (f, ()))) (hpre : allP (c_spec_l19Fault.pre (f, ()))) : W_spec_l19Fault f (fun r => r = c_spec_l19Fault.res (f, ())) := by
  simp only [c_spec_l19Fault, okL, T.oks, T.ok, ap, allP, true_and, and_true, implies_true] at hok hpre
  try dsimp only [T.den] at hok
  try dsimp only [T.den] at hpre
  unfold W_spec_l19Fault
  have P : SfP f := hpre
  have S := cat_shape P.cat
  have hlt := S.lt
  have hli := S.li
  have hlc := S.lc
  have hmm := S.m
  have hob := S.ob
  have hlz := P.lz
  have hla := P.la
  have resq : ∀ a b d e, sfFaultR f = (a, b, d, e) → (a, b, d, e, ()) = c_spec_l19Fault.res (f, ()) := fun a b d e h => by simp only [c_spec_l19Fault, h]
  have hac : ∀ a e : Int, (f.2.2.getD a.toNat []).getD e.toNat 0 = actR f a e := fun _ _ => rfl
  have hcr : ∀ a b : Int, (f.1.2.2.2.2.getD a.toNat []).getD b.toNat 0 = compR f.1 a b := fun _ _ => rfl
  simp only [hac, hcr]
  refine loop_ix (n := f.1.1) (fun x => scanR (sfIx f) f.1.1.toNat 0 = scanR (sfIx f) (f.1.1 - x).toNat x) (by omega) (by rw [Int.sub_zero]) ?_ ?_
  · intro x next x0 x1 hP hn hin
    try dsimp only
    obtain ⟨b1, b2, b3, b4⟩ := S.idn x0 x1
    obtain ⟨z1, z2⟩ := P.size x0 x1
    obtain ⟨q1, q2⟩ := P.act _ b1 b2
    rw [b3] at q1
    refine cnd_d (fun _ => ?_) (fun h => absurd h (by omega))
    refine loop_ix (n := f.2.1.getD x.toNat 0) (fun e => sfIx f x = scanR (sfI f x) (f.2.1.getD x.toNat 0 - e).toNat e) z1 (by unfold sfIx; rw [Int.sub_zero]) ?_ ?_
    · intro e next2 e0 e1 hP2 hn2 hin2
      try dsimp only
      refine ⟨x0, by omega, cnd_d (fun _ => ⟨x0, by omega, b1, by omega, e0, by omega, cnd_of (fun hx => resq _ _ _ _ ?_) (fun hx => ⟨by rw [inK64]; (try dsimp only); omega, hn2 ?_⟩)⟩) (fun h => absurd h (by omega))⟩
      · have k1 : sfI f x e = some (1, x, e, 0) := by unfold sfI; rw [if_pos]; simpa using hx
        have k2 : sfIx f x = some (1, x, e, 0) := by rw [hP2, scan_s e1 k1]
        unfold sfFaultR; rw [hP, scan_s x1 k2]; rfl
      · have k1 : sfI f x e = none := by unfold sfI; rw [if_neg]; simpa using hx
        rw [hP2, scan_c e1 k1]
    · intro next2 hP2 hin2
      try dsimp only
      rw [scan_n] at hP2
      exact ⟨x0, by omega, cnd_d (fun h => absurd h (by omega)) (fun _ => ⟨by rw [inK64]; (try dsimp only); omega, hn (by rw [hP, scan_c x1 hP2])⟩)⟩
  intro next hI hin
  rw [scan_n] at hI
  refine cnd_d (fun h => absurd h (by dsimp only; omega)) (fun _ => ?_)
  have hF : sfFaultR f = orR (scanR (sfCa f) f.1.2.1.length 0) (0, 0, 0, 0) := by unfold sfFaultR; rw [hI]; rfl
  refine loop_ix (n := f.1.2.1.length) (fun a => scanR (sfCa f) f.1.2.1.length 0 = scanR (sfCa f) ((f.1.2.1.length : Int) - a).toNat a) (by omega) scan_0 ?_ ?_
  · intro a next a0 a1 hP hn hin
    try dsimp only
    have r1 := S.row a a0 a1
    obtain ⟨q1, q2⟩ := P.act _ a0 a1
    obtain ⟨fa1, fa2, ta1, ta2⟩ := S.frm a0 a1
    obtain ⟨z1, z2⟩ := P.size fa1 fa2
    refine cnd_d (fun _ => ?_) (fun h => absurd h (by omega))
    refine loop_ix (n := f.1.2.1.length) (fun b => sfCa f a = scanR (sfCb f a) ((f.1.2.1.length : Int) - b).toNat b) (by omega) scan_0 ?_ ?_
    · intro b next2 b0 b1 hP2 hn2 hin2
      try dsimp only
      refine cnd_d (fun _ => ?_) (fun h => absurd h (by omega))
      refine join_of (fun _ => sfCb f a b = none) (fun _ hG => ⟨by rw [inK64]; (try dsimp only); omega, hn2 (by rw [hP2, scan_c b1 hG])⟩) (fun k hk => ?_)
      have hk' := hk ((), ())
      refine ⟨a0, by omega, b0, by omega, cnd_of (fun hx => hk' ?_) (fun hx => ?_)⟩
      · unfold sfCb; rw [if_neg]; simpa using hx
      have hab : f.1.2.2.1.getD a.toNat 0 = f.1.2.1.getD b.toNat 0 := by rw [bne_eq_false_iff_eq] at hx; exact hx
      obtain ⟨y1, y2, y3, y4⟩ := S.yes a0 a1 b0 b1 hab
      obtain ⟨p1, p2⟩ := P.act _ y1 y2
      rw [y3] at p1
      obtain ⟨p3, p4⟩ := P.act _ b0 b1
      rw [← hab] at p3
      
      refine loop_ix (n := f.2.1.getD (f.1.2.1.getD a.toNat 0).toNat 0) (fun e => sfCb f a b = scanR (sfC f a b) (f.2.1.getD (f.1.2.1.getD a.toNat 0).toNat 0 - e).toNat e) z1 (by unfold sfCb; rw [if_pos hab, Int.sub_zero]) ?_ ?_
      · intro e next3 e0 e1 hP3 hn3 hin3
        try dsimp only
        obtain ⟨m1, m2, m3⟩ := P.at_ a0 a1 e0 e1
        refine ⟨a0, by omega, fa1, by omega, cnd_d (fun _ => ⟨a0, by omega, b0, by omega, y1, by omega, e0, by omega, b0, by omega, a0, by omega, e0, by omega, m2, by omega, cnd_of (fun hx => resq _ _ _ _ ?_) (fun hx => ⟨by rw [inK64]; (try dsimp only); omega, hn3 ?_⟩)⟩) (fun h => absurd h (by omega))⟩
        · have k0 : sfC f a b e = some (2, a, b, e) := by unfold sfC; rw [if_pos]; simpa using hx
          have k1 : sfCb f a b = some (2, a, b, e) := by rw [hP3, scan_s e1 k0]
          have k2 : sfCa f a = some (2, a, b, e) := by rw [hP2, scan_s b1 k1]
          rw [hF, hP, scan_s a1 k2]; rfl
        · have k0 : sfC f a b e = none := by unfold sfC; rw [if_neg]; simpa using hx
          rw [hP3, scan_c e1 k0]
      · intro next3 hP3 hin3
        try dsimp only
        rw [scan_n] at hP3
        exact ⟨a0, by omega, fa1, by omega, cnd_d (fun h => absurd h (by omega)) (fun _ => hk' hP3)⟩
    · intro next2 hP2 hin2
      try dsimp only
      rw [scan_n] at hP2
      exact cnd_d (fun h => absurd h (by omega)) (fun _ => ⟨by rw [inK64]; (try dsimp only); omega, hn (by rw [hP, scan_c a1 hP2])⟩)
  · intro next2 hP2 hin2
    rw [scan_n] at hP2
    refine cnd_d (fun h => absurd h (by dsimp only; omega)) (fun _ => resq _ _ _ _ ?_)
    rw [hF, hP2]; rfl
theorem ct_spec_l19Fault : CtOk Try.prog 153 c_spec_l19Fault :=
  ct_by (Φ := lkp []) good_nil tab_ok (by kernel_rfl) (fn := Try.f153) (c := bodyOf Try.f153) (by kernel_rfl) (by kernel_rfl) (by kernel_rfl) c_spec_l19Fault rfl (.s .n (.s .n (.s (.s .n (.l [(7, (.d (.int .i64)))] [] [1, 6] (.s .n (.s (.s .n (.l [(8, (.d (.int .i64)))] [] [1, 6, 7] .n)) .n)))) (.s (.s .n (.l [(9, (.d (.int .i64)))] [] [1, 6] (.s .n (.s (.s .n (.l [(10, (.d (.int .i64)))] [] [1, 6, 9] (.s .n (.s (.j [] [] [1, 6, 9, 10] (.s .n (.s .n (.l [(11, (.d (.int .i64)))] [] [1, 6, 9, 10] .n)))) .n)))) .n)))) .n)))) (cutL [(16, 11), (18, 11), (20, 31), (8, 14)]) (by kernel_rfl) (by kernel_rfl) k_spec_l19Fault (by decide) (fun x K => W_spec_l19Fault x.1 K) w_spec_l19Fault (fun x h1 h2 => m_spec_l19Fault x.1 h1 h2)
def c_spec_l01In : Ct := ⟨[(.int .i64), (.int .i64), (.int .i64)], [false, false, false], fun x => [], [(false, (.fz .bool))], fun x => (inR x.1 x.2.1 x.2.2.1, ()), false, none⟩
def W_spec_l01In (n : Int) (low : Int) (high : Int) (K : Bool × Unit → Prop) : Prop := (K (((decide (low ≤ n)) && (decide (n ≤ high))), ()))
theorem w_spec_l01In (x : denL c_spec_l01In.args) (K : Bool × Unit → Prop) : evF tab (lkp []) (cutL []) Try.f161 (bodyOf Try.f161) .n c_spec_l01In x K = W_spec_l01In x.1 x.2.1 x.2.2.1 K := by kernel_rfl
theorem k_spec_l01In : okC Try.f161.ntmps (cutL []) (bodyOf Try.f161) = true := by kernel_rfl
theorem m_spec_l01In (n : Int) (low : Int) (high : Int) (hok : allP (okL c_spec_l01In.args (n, low, high, ()))) (hpre : allP (c_spec_l01In.pre (n, low, high, ()))) : W_spec_l01In n low high (fun r => r = c_spec_l01In.res (n, low, high, ())) := by
  simp only [c_spec_l01In, okL, T.oks, T.ok, ap, allP, true_and, and_true, implies_true] at hok hpre
  try dsimp only [T.den] at hok
  try dsimp only [T.den] at hpre
  unfold W_spec_l01In
  grind [cnd, nb_eq, inK64, c_spec_l01In, inR]
theorem ct_spec_l01In : CtOk Try.prog 161 c_spec_l01In :=
  ct_by (Φ := lkp []) good_nil tab_ok (by kernel_rfl) (fn := Try.f161) (c := bodyOf Try.f161) (by kernel_rfl) (by kernel_rfl) (by kernel_rfl) c_spec_l01In rfl .n (cutL []) (by kernel_rfl) (by kernel_rfl) k_spec_l01In (by decide) (fun x K => W_spec_l01In x.1 x.2.1 x.2.2.1 K) w_spec_l01In (fun x h1 h2 => m_spec_l01In x.1 x.2.1 x.2.2.1 h1 h2)
def c_spec_l01Map : Ct := ⟨[(.int .i64), (.sl (.int .i64))], [false, false], fun x => [], [(false, (.fz .bool))], fun x => (withinR x.2.1 x.1, ()), false, none⟩
def W_spec_l01Map (n : Int) (f : List Int) (K : Bool × Unit → Prop) : Prop := (loopW (S := ((Int × Unit) × Unit)) (fun s => (fun next => ((inK IntKind.i64 s.1.1) → (cnd (decide (s.1.1 < (((List.length f) : Nat) : Int))) (((0 : Int) ≤ s.1.1) ∧ ((s.1.1 < (((List.length f) : Nat) : Int)) ∧ ((((decide ((List.getD f (Int.toNat s.1.1) (0 : Int)) < (0 : Int))) = Bool.false) → ((s.1.1 < (((List.length f) : Nat) : Int)) ∧ ((0 : Int) ≤ s.1.1))) ∧ (cnd ((decide ((List.getD f (Int.toNat s.1.1) (0 : Int)) < (0 : Int))) || (decide (n ≤ (List.getD f (Int.toNat s.1.1) (0 : Int))))) (K (Bool.false, ())) ((inK IntKind.i64 (s.1.1 + (1 : Int))) ∧ (next (((s.1.1 + (1 : Int)), ()), ()))))))) (K (Bool.true, ())))))) (((0 : Int), ()), ()))
theorem w_spec_l01Map (x : denL c_spec_l01Map.args) (K : Bool × Unit → Prop) : evF tab (lkp []) (cutL []) Try.f90 (bodyOf Try.f90) (.s .n (.s (.s .n (.l [(5, (.d (.int .i64)))] [] [0, 1] .n)) .n)) c_spec_l01Map x K = W_spec_l01Map x.1 x.2.1 K := by kernel_rfl
theorem k_spec_l01Map : okC Try.f90.ntmps (cutL []) (bodyOf Try.f90) = true := by kernel_rfl
theorem m_spec_l01Map (n : Int) (f : List Int) (hok : allP (okL c_spec_l01Map.args (n, f, ()))) (hpre : allP (c_spec_l01Map.pre (n, f, ()))) : W_spec_l01Map n f (fun r => r = c_spec_l01Map.res (n, f, ())) := by
  simp only [c_spec_l01Map, okL, T.oks, T.ok, ap, allP, true_and, and_true, implies_true] at hok hpre
  try dsimp only [T.den] at hok
  try dsimp only [T.den] at hpre
  unfold W_spec_l01Map
  refine loop_of (fun (s : ((Int × Unit) × Unit)) => 0 ≤ s.1.1 ∧ s.1.1 ≤ f.length ∧ withinR f n = withinR (f.drop s.1.1.toNat) n) (fun (s : ((Int × Unit) × Unit)) => (f.length - s.1.1).toNat) ?_ (by simp)
  rintro ⟨⟨i, _⟩, _⟩ next ⟨h0, h1, h2⟩ hn hin
  simp only at h0 h1 h2 hn ⊢
  refine cnd_d (fun hc => ?_) (fun hc => ?_)
  · rw [drop_c f 0 h0 hc] at h2
    simp only [withinR, List.all_cons] at h2
    grind [cnd, nb_eq, inK64, c_spec_l01Map, withinR, inR]
  · rw [drop_n f (by omega)] at h2
    grind [cnd, nb_eq, inK64, c_spec_l01Map, withinR]
theorem ct_spec_l01Map : CtOk Try.prog 90 c_spec_l01Map :=
  ct_by (Φ := lkp []) good_nil tab_ok (by kernel_rfl) (fn := Try.f90) (c := bodyOf Try.f90) (by kernel_rfl) (by kernel_rfl) (by kernel_rfl) c_spec_l01Map rfl (.s .n (.s (.s .n (.l [(5, (.d (.int .i64)))] [] [0, 1] .n)) .n)) (cutL []) (by kernel_rfl) (by kernel_rfl) k_spec_l01Map (by decide) (fun x K => W_spec_l01Map x.1 x.2.1 K) w_spec_l01Map (fun x h1 h2 => m_spec_l01Map x.1 x.2.1 h1 h2)
def c_spec_l02Ends : Ct := ⟨[(.sl (.int .i64)), (.int .i64), (.int .i64)], [false, false, false], fun x => [], [(false, (.fz .bool))], fun x => ((decide ((x.1.length : Int) = x.2.1) && withinR x.1 x.2.2.1), ()), false, none⟩
def W_spec_l02Ends (list : List Int) (length : Int) (objects : Int) (K : Bool × Unit → Prop) : Prop := (K ((((((List.length list) : Nat) : Int) == length) && (withinR list objects)), ()))
theorem w_spec_l02Ends (x : denL c_spec_l02Ends.args) (K : Bool × Unit → Prop) : evF tab (lkp [(90, c_spec_l01Map)]) (cutL []) Try.f162 (bodyOf Try.f162) .n c_spec_l02Ends x K = W_spec_l02Ends x.1 x.2.1 x.2.2.1 K := by kernel_rfl
theorem k_spec_l02Ends : okC Try.f162.ntmps (cutL []) (bodyOf Try.f162) = true := by kernel_rfl
theorem m_spec_l02Ends (list : List Int) (length : Int) (objects : Int) (hok : allP (okL c_spec_l02Ends.args (list, length, objects, ()))) (hpre : allP (c_spec_l02Ends.pre (list, length, objects, ()))) : W_spec_l02Ends list length objects (fun r => r = c_spec_l02Ends.res (list, length, objects, ())) := by
  simp only [c_spec_l02Ends, okL, T.oks, T.ok, ap, allP, true_and, and_true, implies_true] at hok hpre
  try dsimp only [T.den] at hok
  try dsimp only [T.den] at hpre
  unfold W_spec_l02Ends
  have : ((list.length : Int) == length) = decide ((list.length : Int) = length) := rfl
  simp only [c_spec_l02Ends, this]
theorem ct_spec_l02Ends : CtOk Try.prog 162 c_spec_l02Ends :=
  ct_by (Φ := lkp [(90, c_spec_l01Map)]) (good_cons ct_spec_l01Map good_nil) tab_ok (by kernel_rfl) (fn := Try.f162) (c := bodyOf Try.f162) (by kernel_rfl) (by kernel_rfl) (by kernel_rfl) c_spec_l02Ends rfl .n (cutL []) (by kernel_rfl) (by kernel_rfl) k_spec_l02Ends (by decide) (fun x K => W_spec_l02Ends x.1 x.2.1 x.2.2.1 K) w_spec_l02Ends (fun x h1 h2 => m_spec_l02Ends x.1 x.2.1 x.2.2.1 h1 h2)
def c_spec_IsShape : Ct := ⟨[CategoryT], [true], fun x => [], [(false, (.fz .bool))], fun x => (shapeR x.1, ()), false, none⟩
def W_spec_IsShape (c : CategoryD) (K : Bool × Unit → Prop) : Prop := (cnd (((((!(inR c.1 (0 : Int) (8 : Int))) || (decide ((40 : Int) < (((List.length c.2.1) : Nat) : Int)))) || (!((decide ((((List.length c.2.1) : Nat) : Int) = (((List.length c.2.1) : Nat) : Int))) && (withinR c.2.1 c.1)))) || (!((decide ((((List.length c.2.2.1) : Nat) : Int) = (((List.length c.2.1) : Nat) : Int))) && (withinR c.2.2.1 c.1)))) || ((((List.length c.2.2.2.2) : Nat) : Int) != (((List.length c.2.1) : Nat) : Int))) (K (Bool.false, ())) (cnd (((((List.length c.2.2.2.1) : Nat) : Int) != c.1) || (!(withinR c.2.2.2.1 (((List.length c.2.1) : Nat) : Int)))) (K (Bool.false, ())) (loopW (S := ((Int × Unit) × Unit)) (fun s => (fun next => ((inK IntKind.i64 s.1.1) → (cnd (decide (s.1.1 < c.1)) (((0 : Int) ≤ s.1.1) ∧ ((s.1.1 < (((List.length c.2.2.2.1) : Nat) : Int)) ∧ (((0 : Int) ≤ (List.getD c.2.2.2.1 (Int.toNat s.1.1) (0 : Int))) ∧ (((List.getD c.2.2.2.1 (Int.toNat s.1.1) (0 : Int)) < (((List.length c.2.1) : Nat) : Int)) ∧ (((((List.getD c.2.1 (Int.toNat (List.getD c.2.2.2.1 (Int.toNat s.1.1) (0 : Int))) (0 : Int)) != s.1.1) = Bool.false) → ((s.1.1 < (((List.length c.2.2.2.1) : Nat) : Int)) ∧ ((0 : Int) ≤ s.1.1))) ∧ (((((List.getD c.2.1 (Int.toNat (List.getD c.2.2.2.1 (Int.toNat s.1.1) (0 : Int))) (0 : Int)) != s.1.1) = Bool.false) → (((List.getD c.2.2.2.1 (Int.toNat s.1.1) (0 : Int)) < (((List.length c.2.2.1) : Nat) : Int)) ∧ ((0 : Int) ≤ (List.getD c.2.2.2.1 (Int.toNat s.1.1) (0 : Int))))) ∧ (cnd (((List.getD c.2.1 (Int.toNat (List.getD c.2.2.2.1 (Int.toNat s.1.1) (0 : Int))) (0 : Int)) != s.1.1) || ((List.getD c.2.2.1 (Int.toNat (List.getD c.2.2.2.1 (Int.toNat s.1.1) (0 : Int))) (0 : Int)) != s.1.1)) (K (Bool.false, ())) ((inK IntKind.i64 (s.1.1 + (1 : Int))) ∧ (next (((s.1.1 + (1 : Int)), ()), ())))))))))) (loopW (S := ((Int × Unit) × Unit)) (fun s1 => (fun next1 => ((inK IntKind.i64 s1.1.1) → (cnd (decide (s1.1.1 < (((List.length c.2.1) : Nat) : Int))) (((0 : Int) ≤ s1.1.1) ∧ ((s1.1.1 < (((List.length c.2.2.2.2) : Nat) : Int)) ∧ (cnd ((((List.length (List.getD c.2.2.2.2 (Int.toNat s1.1.1) ([] : List Int))) : Nat) : Int) != (((List.length c.2.1) : Nat) : Int)) (K (Bool.false, ())) (loopW (S := ((Int × Unit) × Unit)) (fun s2 => (fun next2 => ((inK IntKind.i64 s2.1.1) → (cnd (decide (s2.1.1 < (((List.length c.2.1) : Nat) : Int))) (joinW (S := (Unit × Unit)) (fun s3 => ((inK IntKind.i64 (s2.1.1 + (1 : Int))) ∧ (next2 (((s2.1.1 + (1 : Int)), ()), ())))) (fun k => (((0 : Int) ≤ s1.1.1) ∧ ((s1.1.1 < (((List.length c.2.2.2.2) : Nat) : Int)) ∧ (((0 : Int) ≤ s2.1.1) ∧ ((s2.1.1 < (((List.length (List.getD c.2.2.2.2 (Int.toNat s1.1.1) ([] : List Int))) : Nat) : Int)) ∧ (((0 : Int) ≤ s1.1.1) ∧ ((s1.1.1 < (((List.length c.2.2.1) : Nat) : Int)) ∧ (((0 : Int) ≤ s2.1.1) ∧ ((s2.1.1 < (((List.length c.2.1) : Nat) : Int)) ∧ (cnd ((List.getD c.2.2.1 (Int.toNat s1.1.1) (0 : Int)) != (List.getD c.2.1 (Int.toNat s2.1.1) (0 : Int))) (cnd ((List.getD (List.getD c.2.2.2.2 (Int.toNat s1.1.1) ([] : List Int)) (Int.toNat s2.1.1) (0 : Int)) != (-(1 : Int))) (K (Bool.false, ())) (k ((), ()))) (((((decide ((List.getD (List.getD c.2.2.2.2 (Int.toNat s1.1.1) ([] : List Int)) (Int.toNat s2.1.1) (0 : Int)) < (0 : Int))) || (decide ((((List.length c.2.1) : Nat) : Int) ≤ (List.getD (List.getD c.2.2.2.2 (Int.toNat s1.1.1) ([] : List Int)) (Int.toNat s2.1.1) (0 : Int))))) = Bool.false) → (((List.getD (List.getD c.2.2.2.2 (Int.toNat s1.1.1) ([] : List Int)) (Int.toNat s2.1.1) (0 : Int)) < (((List.length c.2.1) : Nat) : Int)) ∧ ((0 : Int) ≤ (List.getD (List.getD c.2.2.2.2 (Int.toNat s1.1.1) ([] : List Int)) (Int.toNat s2.1.1) (0 : Int))))) ∧ (((((decide ((List.getD (List.getD c.2.2.2.2 (Int.toNat s1.1.1) ([] : List Int)) (Int.toNat s2.1.1) (0 : Int)) < (0 : Int))) || (decide ((((List.length c.2.1) : Nat) : Int) ≤ (List.getD (List.getD c.2.2.2.2 (Int.toNat s1.1.1) ([] : List Int)) (Int.toNat s2.1.1) (0 : Int))))) = Bool.false) → ((s1.1.1 < (((List.length c.2.1) : Nat) : Int)) ∧ ((0 : Int) ≤ s1.1.1))) ∧ ((((((decide ((List.getD (List.getD c.2.2.2.2 (Int.toNat s1.1.1) ([] : List Int)) (Int.toNat s2.1.1) (0 : Int)) < (0 : Int))) || (decide ((((List.length c.2.1) : Nat) : Int) ≤ (List.getD (List.getD c.2.2.2.2 (Int.toNat s1.1.1) ([] : List Int)) (Int.toNat s2.1.1) (0 : Int))))) || ((List.getD c.2.1 (Int.toNat (List.getD (List.getD c.2.2.2.2 (Int.toNat s1.1.1) ([] : List Int)) (Int.toNat s2.1.1) (0 : Int))) (0 : Int)) != (List.getD c.2.1 (Int.toNat s1.1.1) (0 : Int)))) = Bool.false) → (((List.getD (List.getD c.2.2.2.2 (Int.toNat s1.1.1) ([] : List Int)) (Int.toNat s2.1.1) (0 : Int)) < (((List.length c.2.2.1) : Nat) : Int)) ∧ ((0 : Int) ≤ (List.getD (List.getD c.2.2.2.2 (Int.toNat s1.1.1) ([] : List Int)) (Int.toNat s2.1.1) (0 : Int))))) ∧ ((((((decide ((List.getD (List.getD c.2.2.2.2 (Int.toNat s1.1.1) ([] : List Int)) (Int.toNat s2.1.1) (0 : Int)) < (0 : Int))) || (decide ((((List.length c.2.1) : Nat) : Int) ≤ (List.getD (List.getD c.2.2.2.2 (Int.toNat s1.1.1) ([] : List Int)) (Int.toNat s2.1.1) (0 : Int))))) || ((List.getD c.2.1 (Int.toNat (List.getD (List.getD c.2.2.2.2 (Int.toNat s1.1.1) ([] : List Int)) (Int.toNat s2.1.1) (0 : Int))) (0 : Int)) != (List.getD c.2.1 (Int.toNat s1.1.1) (0 : Int)))) = Bool.false) → ((s2.1.1 < (((List.length c.2.2.1) : Nat) : Int)) ∧ ((0 : Int) ≤ s2.1.1))) ∧ (cnd ((((decide ((List.getD (List.getD c.2.2.2.2 (Int.toNat s1.1.1) ([] : List Int)) (Int.toNat s2.1.1) (0 : Int)) < (0 : Int))) || (decide ((((List.length c.2.1) : Nat) : Int) ≤ (List.getD (List.getD c.2.2.2.2 (Int.toNat s1.1.1) ([] : List Int)) (Int.toNat s2.1.1) (0 : Int))))) || ((List.getD c.2.1 (Int.toNat (List.getD (List.getD c.2.2.2.2 (Int.toNat s1.1.1) ([] : List Int)) (Int.toNat s2.1.1) (0 : Int))) (0 : Int)) != (List.getD c.2.1 (Int.toNat s1.1.1) (0 : Int)))) || ((List.getD c.2.2.1 (Int.toNat (List.getD (List.getD c.2.2.2.2 (Int.toNat s1.1.1) ([] : List Int)) (Int.toNat s2.1.1) (0 : Int))) (0 : Int)) != (List.getD c.2.2.1 (Int.toNat s2.1.1) (0 : Int)))) (K (Bool.false, ())) (k ((), ())))))))))))))))))) ((inK IntKind.i64 (s1.1.1 + (1 : Int))) ∧ (next1 (((s1.1.1 + (1 : Int)), ()), ()))))))) (((0 : Int), ()), ()))))) (K (Bool.true, ())))))) (((0 : Int), ()), ())))))) (((0 : Int), ()), ()))))
theorem w_spec_IsShape (x : denL c_spec_IsShape.args) (K : Bool × Unit → Prop) : evF tab (lkp [(161, c_spec_l01In), (90, c_spec_l01Map), (162, c_spec_l02Ends)]) (cutL [(20, 11), (23, 33), (9, 24)]) Try.f125 (bodyOf Try.f125) (.s .n (.s .n (.s .n (.s .n (.s (.s .n (.l [(4, (.d (.int .i64)))] [] [1, 3] .n)) (.s (.s .n (.l [(5, (.d (.int .i64)))] [] [1, 3] (.s .n (.s (.s .n (.s .n (.l [(6, (.d (.int .i64)))] [] [1, 3, 5] (.s .n (.s (.j [] [] [1, 3, 5, 6] .n) .n))))) .n)))) .n)))))) c_spec_IsShape x K = W_spec_IsShape x.1 K := by kernel_rfl
theorem k_spec_IsShape : okC Try.f125.ntmps (cutL [(20, 11), (23, 33), (9, 24)]) (bodyOf Try.f125) = true := by kernel_rfl
theorem m_spec_IsShape (c : CategoryD) (hok : allP (okL c_spec_IsShape.args (c, ()))) (hpre : allP (c_spec_IsShape.pre (c, ()))) : W_spec_IsShape c (fun r => r = c_spec_IsShape.res (c, ())) := by
  simp only [c_spec_IsShape, okL, T.oks, T.ok, ap, allP, true_and, and_true, implies_true] at hok hpre
  try dsimp only [T.den] at hok
  try dsimp only [T.den] at hpre
  unfold W_spec_IsShape
  have bad : ¬ ShapeP c → (false, ()) = c_spec_IsShape.res (c, ()) := fun h => by simp only [c_spec_IsShape]; rw [shape_f h]
  refine cnd_of (fun hc => bad fun h => ?_) (fun hc => cnd_of (fun hd => bad fun h => ?_) (fun hd => ?_))
  · have h1 := h.ob; have h2 := h.m; have h3 := h.lt; have h4 := h.fr; have h5 := h.to; have h6 := h.lc; simp only [inR] at hc; grind [cnd, nb_eq, inK64]
  · have h1 := h.li; have h2 := h.ids; grind [cnd, nb_eq, inK64]
  simp only [inR, Bool.or_eq_false_iff, Bool.not_eq_false', Bool.and_eq_true, decide_eq_true_eq, decide_eq_false_iff_not, bne_eq_false_iff_eq] at hc hd
  obtain ⟨⟨⟨⟨hob, hm⟩, _, hfr⟩, hlt, hto⟩, hlc⟩ := hc
  obtain ⟨hli, hids⟩ := hd
  refine loop_ix (n := c.1) (fun x => ∀ y : Int, 0 ≤ y → y < x → c.2.1.getD (c.2.2.2.1.getD y.toNat 0).toNat 0 = y ∧ c.2.2.1.getD (c.2.2.2.1.getD y.toNat 0).toNat 0 = y) (by omega) (by intro y h0 h1; omega) ?_ ?_
  · intro x next h0 h1 hP hn hin
    have hb := within_iff.1 hids x h0 (by omega)
    try dsimp only
    refine cnd_d (fun _ => ⟨h0, by omega, hb.1, hb.2, fun _ => by omega, fun _ => by omega, cnd_of (fun hx => bad fun h => ?_) (fun hx => ?_)⟩) (fun h => absurd h1 h)
    · have := h.idt x h0 (by omega)
      rw [this.1, this.2] at hx
      simp at hx
    · simp only [Bool.or_eq_false_iff, bne_eq_false_iff_eq] at hx
      refine ⟨by rw [inK64]; (try dsimp only); omega, hn fun y y0 y1 => ?_⟩
      by_cases e : y = x
      · rw [e]; exact hx
      · exact hP y y0 (by omega)
  intro next hidt hin
  refine cnd_d (fun h => absurd h (by dsimp only; omega)) (fun _ => ?_)
  refine loop_ix (n := c.2.1.length) (fun f => ∀ f' : Int, 0 ≤ f' → f' < f → (c.2.2.2.2.getD f'.toNat []).length = c.2.1.length ∧ ∀ g : Int, 0 ≤ g → g < c.2.1.length → cellR c f' g = true) (by omega) (by intro y h0 h1; omega) ?_ ?_
  · intro f next h0 h1 hP hn hin
    try dsimp only
    refine cnd_d (fun _ => ⟨h0, by omega, cnd_of (fun hx => bad fun h => ?_) (fun hx => ?_)⟩) (fun h => absurd h1 h)
    · have := h.row f h0 (by omega)
      rw [this] at hx
      simp at hx
    simp only [bne_eq_false_iff_eq] at hx
    refine loop_ix (n := c.2.1.length) (fun g => ∀ g' : Int, 0 ≤ g' → g' < g → cellR c f g' = true) (by omega) (by intro y h0 h1; omega) ?_ ?_
    · intro g next3 g0 g1 hP3 hn3 hin3
      try dsimp only
      refine cnd_d (fun _ => ?_) (fun h => absurd g1 h)
      refine join_of (fun _ => cellR c f g = true) (fun _ hcell => ⟨by rw [inK64]; (try dsimp only); omega, hn3 fun g' y0 y1 => ?_⟩) (fun k hk => ?_)
      · by_cases e : g' = g
        · rw [e]; exact hcell
        · exact hP3 g' y0 (by omega)
      have hcell : ∀ b, cellR c f g = b → b = false → ¬ ShapeP c := fun b h1 h2 h => by
        have := h.cell f g h0 (by omega) g0 (by omega)
        rw [h1, h2] at this; cases this
      have hk' := hk ((), ())
      obtain ⟨v, hv⟩ : ∃ v, (c.2.2.2.2.getD f.toNat []).getD g.toNat 0 = v := ⟨_, rfl⟩
      have hR : cellR c f g = cellQ c f g v := by unfold cellR compR; rw [hv]
      rw [hR] at hk'
      rw [hR] at hcell
      rw [hv]
      clear hP3 hn3 hP hn hk hR hv hidt hok
      refine ⟨h0, by omega, g0, by omega, h0, by omega, g0, by omega, cnd_of (fun ha => cnd_of (fun hb => bad ?_) (fun hb => hk' ?_)) (fun ha => ⟨fun hv => ?_, fun _ => ⟨by omega, h0⟩, fun hv => ?_, fun _ => ⟨by omega, g0⟩, cnd_of (fun hb => bad ?_) (fun hb => hk' ?_)⟩)⟩
      · exact hcell _ rfl (by grind [cnd, nb_eq, inK64, cellQ])
      · grind [cnd, nb_eq, inK64, cellQ]
      · simp only [Bool.or_eq_false_iff, decide_eq_false_iff_not] at hv; omega
      · simp only [Bool.or_eq_false_iff, decide_eq_false_iff_not] at hv; omega
      · exact hcell _ rfl (by grind [cnd, nb_eq, inK64, cellQ])
      · grind [cnd, nb_eq, inK64, cellQ]
    · intro next3 hP3 hin3
      refine cnd_d (fun h => absurd h (by dsimp only; omega)) (fun _ => ⟨by rw [inK64]; (try dsimp only); omega, hn fun f' y0 y1 => ?_⟩)
      by_cases e : f' = f
      · rw [e]; exact ⟨by omega, fun g g0 g1 => hP3 g g0 (by omega)⟩
      · exact hP f' y0 (by omega)
  · intro next2 hP2 hin2
    refine cnd_d (fun h => absurd h (by dsimp only; omega)) (fun _ => ?_)
    simp only [c_spec_IsShape]
    rw [shape_t ⟨hob, by omega, by omega, hfr, hto, by omega, hids, by omega, fun x a b => hidt x a (by omega), fun f a b => (hP2 f a (by omega)).1, fun f g a b d e => (hP2 f a (by omega)).2 g d e⟩]
theorem ct_spec_IsShape : CtOk Try.prog 125 c_spec_IsShape :=
  ct_by (Φ := lkp [(161, c_spec_l01In), (90, c_spec_l01Map), (162, c_spec_l02Ends)]) (good_cons ct_spec_l01In (good_cons ct_spec_l01Map (good_cons ct_spec_l02Ends good_nil))) tab_ok (by kernel_rfl) (fn := Try.f125) (c := bodyOf Try.f125) (by kernel_rfl) (by kernel_rfl) (by kernel_rfl) c_spec_IsShape rfl (.s .n (.s .n (.s .n (.s .n (.s (.s .n (.l [(4, (.d (.int .i64)))] [] [1, 3] .n)) (.s (.s .n (.l [(5, (.d (.int .i64)))] [] [1, 3] (.s .n (.s (.s .n (.s .n (.l [(6, (.d (.int .i64)))] [] [1, 3, 5] (.s .n (.s (.j [] [] [1, 3, 5, 6] .n) .n))))) .n)))) .n)))))) (cutL [(20, 11), (23, 33), (9, 24)]) (by kernel_rfl) (by kernel_rfl) k_spec_IsShape (by decide) (fun x K => W_spec_IsShape x.1 K) w_spec_IsShape (fun x h1 h2 => m_spec_IsShape x.1 h1 h2)
def c_spec_l02Fault : Ct := ⟨[CategoryT], [true], fun x => [ShapeP x.1], [(false, (.fz (.int .i64))), (false, (.fz (.int .i64))), (false, (.fz (.int .i64))), (false, (.fz (.int .i64)))], fun x => ((faultR x.1).1, (faultR x.1).2.1, (faultR x.1).2.2.1, (faultR x.1).2.2.2, ()), false, none⟩
def W_spec_l02Fault (c : CategoryD) (K : Int × Int × Int × Int × Unit → Prop) : Prop := (loopW (S := ((Int × Unit) × Unit)) (fun s => (fun next => ((inK IntKind.i64 s.1.1) → (cnd (decide (s.1.1 < (((List.length c.2.1) : Nat) : Int))) (((0 : Int) ≤ s.1.1) ∧ ((s.1.1 < (((List.length c.2.1) : Nat) : Int)) ∧ (((0 : Int) ≤ (List.getD c.2.1 (Int.toNat s.1.1) (0 : Int))) ∧ (((List.getD c.2.1 (Int.toNat s.1.1) (0 : Int)) < (((List.length c.2.2.2.1) : Nat) : Int)) ∧ (((0 : Int) ≤ (List.getD c.2.2.2.1 (Int.toNat (List.getD c.2.1 (Int.toNat s.1.1) (0 : Int))) (0 : Int))) ∧ (((List.getD c.2.2.2.1 (Int.toNat (List.getD c.2.1 (Int.toNat s.1.1) (0 : Int))) (0 : Int)) < (((List.length c.2.2.2.2) : Nat) : Int)) ∧ (((0 : Int) ≤ s.1.1) ∧ ((s.1.1 < (((List.length (List.getD c.2.2.2.2 (Int.toNat (List.getD c.2.2.2.1 (Int.toNat (List.getD c.2.1 (Int.toNat s.1.1) (0 : Int))) (0 : Int))) ([] : List Int))) : Nat) : Int)) ∧ (((((List.getD (List.getD c.2.2.2.2 (Int.toNat (List.getD c.2.2.2.1 (Int.toNat (List.getD c.2.1 (Int.toNat s.1.1) (0 : Int))) (0 : Int))) ([] : List Int)) (Int.toNat s.1.1) (0 : Int)) != s.1.1) = Bool.false) → ((s.1.1 < (((List.length c.2.2.2.2) : Nat) : Int)) ∧ ((0 : Int) ≤ s.1.1))) ∧ (((((List.getD (List.getD c.2.2.2.2 (Int.toNat (List.getD c.2.2.2.1 (Int.toNat (List.getD c.2.1 (Int.toNat s.1.1) (0 : Int))) (0 : Int))) ([] : List Int)) (Int.toNat s.1.1) (0 : Int)) != s.1.1) = Bool.false) → ((s.1.1 < (((List.length c.2.2.1) : Nat) : Int)) ∧ ((0 : Int) ≤ s.1.1))) ∧ (((((List.getD (List.getD c.2.2.2.2 (Int.toNat (List.getD c.2.2.2.1 (Int.toNat (List.getD c.2.1 (Int.toNat s.1.1) (0 : Int))) (0 : Int))) ([] : List Int)) (Int.toNat s.1.1) (0 : Int)) != s.1.1) = Bool.false) → (((List.getD c.2.2.1 (Int.toNat s.1.1) (0 : Int)) < (((List.length c.2.2.2.1) : Nat) : Int)) ∧ ((0 : Int) ≤ (List.getD c.2.2.1 (Int.toNat s.1.1) (0 : Int))))) ∧ (((((List.getD (List.getD c.2.2.2.2 (Int.toNat (List.getD c.2.2.2.1 (Int.toNat (List.getD c.2.1 (Int.toNat s.1.1) (0 : Int))) (0 : Int))) ([] : List Int)) (Int.toNat s.1.1) (0 : Int)) != s.1.1) = Bool.false) → (((List.getD c.2.2.2.1 (Int.toNat (List.getD c.2.2.1 (Int.toNat s.1.1) (0 : Int))) (0 : Int)) < (((List.length (List.getD c.2.2.2.2 (Int.toNat s.1.1) ([] : List Int))) : Nat) : Int)) ∧ ((0 : Int) ≤ (List.getD c.2.2.2.1 (Int.toNat (List.getD c.2.2.1 (Int.toNat s.1.1) (0 : Int))) (0 : Int))))) ∧ (cnd (((List.getD (List.getD c.2.2.2.2 (Int.toNat (List.getD c.2.2.2.1 (Int.toNat (List.getD c.2.1 (Int.toNat s.1.1) (0 : Int))) (0 : Int))) ([] : List Int)) (Int.toNat s.1.1) (0 : Int)) != s.1.1) || ((List.getD (List.getD c.2.2.2.2 (Int.toNat s.1.1) ([] : List Int)) (Int.toNat (List.getD c.2.2.2.1 (Int.toNat (List.getD c.2.2.1 (Int.toNat s.1.1) (0 : Int))) (0 : Int))) (0 : Int)) != s.1.1)) (K ((1 : Int), (s.1.1, ((0 : Int), ((0 : Int), ()))))) ((inK IntKind.i64 (s.1.1 + (1 : Int))) ∧ (next (((s.1.1 + (1 : Int)), ()), ())))))))))))))))) (loopW (S := ((Int × Unit) × Unit)) (fun s1 => (fun next1 => ((inK IntKind.i64 s1.1.1) → (cnd (decide (s1.1.1 < (((List.length c.2.1) : Nat) : Int))) (loopW (S := ((Int × Unit) × Unit)) (fun s2 => (fun next2 => ((inK IntKind.i64 s2.1.1) → (cnd (decide (s2.1.1 < (((List.length c.2.1) : Nat) : Int))) (joinW (S := (Unit × Unit)) (fun s3 => ((inK IntKind.i64 (s2.1.1 + (1 : Int))) ∧ (next2 (((s2.1.1 + (1 : Int)), ()), ())))) (fun k => (((0 : Int) ≤ s1.1.1) ∧ ((s1.1.1 < (((List.length c.2.2.1) : Nat) : Int)) ∧ (((0 : Int) ≤ s2.1.1) ∧ ((s2.1.1 < (((List.length c.2.1) : Nat) : Int)) ∧ (cnd ((List.getD c.2.2.1 (Int.toNat s1.1.1) (0 : Int)) != (List.getD c.2.1 (Int.toNat s2.1.1) (0 : Int))) (k ((), ())) (loopW (S := ((Int × Unit) × Unit)) (fun s3 => (fun next3 => ((inK IntKind.i64 s3.1.1) → (cnd (decide (s3.1.1 < (((List.length c.2.1) : Nat) : Int))) (((0 : Int) ≤ s2.1.1) ∧ ((s2.1.1 < (((List.length c.2.2.1) : Nat) : Int)) ∧ (((0 : Int) ≤ s3.1.1) ∧ ((s3.1.1 < (((List.length c.2.1) : Nat) : Int)) ∧ (((((List.getD c.2.2.1 (Int.toNat s2.1.1) (0 : Int)) == (List.getD c.2.1 (Int.toNat s3.1.1) (0 : Int))) = Bool.true) → ((s1.1.1 < (((List.length c.2.2.2.2) : Nat) : Int)) ∧ ((0 : Int) ≤ s1.1.1))) ∧ (((((List.getD c.2.2.1 (Int.toNat s2.1.1) (0 : Int)) == (List.getD c.2.1 (Int.toNat s3.1.1) (0 : Int))) = Bool.true) → ((s2.1.1 < (((List.length (List.getD c.2.2.2.2 (Int.toNat s1.1.1) ([] : List Int))) : Nat) : Int)) ∧ ((0 : Int) ≤ s2.1.1))) ∧ (((((List.getD c.2.2.1 (Int.toNat s2.1.1) (0 : Int)) == (List.getD c.2.1 (Int.toNat s3.1.1) (0 : Int))) = Bool.true) → (((List.getD (List.getD c.2.2.2.2 (Int.toNat s1.1.1) ([] : List Int)) (Int.toNat s2.1.1) (0 : Int)) < (((List.length c.2.2.2.2) : Nat) : Int)) ∧ ((0 : Int) ≤ (List.getD (List.getD c.2.2.2.2 (Int.toNat s1.1.1) ([] : List Int)) (Int.toNat s2.1.1) (0 : Int))))) ∧ (((((List.getD c.2.2.1 (Int.toNat s2.1.1) (0 : Int)) == (List.getD c.2.1 (Int.toNat s3.1.1) (0 : Int))) = Bool.true) → ((s3.1.1 < (((List.length (List.getD c.2.2.2.2 (Int.toNat (List.getD (List.getD c.2.2.2.2 (Int.toNat s1.1.1) ([] : List Int)) (Int.toNat s2.1.1) (0 : Int))) ([] : List Int))) : Nat) : Int)) ∧ ((0 : Int) ≤ s3.1.1))) ∧ (((((List.getD c.2.2.1 (Int.toNat s2.1.1) (0 : Int)) == (List.getD c.2.1 (Int.toNat s3.1.1) (0 : Int))) = Bool.true) → ((s1.1.1 < (((List.length c.2.2.2.2) : Nat) : Int)) ∧ ((0 : Int) ≤ s1.1.1))) ∧ (((((List.getD c.2.2.1 (Int.toNat s2.1.1) (0 : Int)) == (List.getD c.2.1 (Int.toNat s3.1.1) (0 : Int))) = Bool.true) → ((s2.1.1 < (((List.length c.2.2.2.2) : Nat) : Int)) ∧ ((0 : Int) ≤ s2.1.1))) ∧ (((((List.getD c.2.2.1 (Int.toNat s2.1.1) (0 : Int)) == (List.getD c.2.1 (Int.toNat s3.1.1) (0 : Int))) = Bool.true) → ((s3.1.1 < (((List.length (List.getD c.2.2.2.2 (Int.toNat s2.1.1) ([] : List Int))) : Nat) : Int)) ∧ ((0 : Int) ≤ s3.1.1))) ∧ (((((List.getD c.2.2.1 (Int.toNat s2.1.1) (0 : Int)) == (List.getD c.2.1 (Int.toNat s3.1.1) (0 : Int))) = Bool.true) → (((List.getD (List.getD c.2.2.2.2 (Int.toNat s2.1.1) ([] : List Int)) (Int.toNat s3.1.1) (0 : Int)) < (((List.length (List.getD c.2.2.2.2 (Int.toNat s1.1.1) ([] : List Int))) : Nat) : Int)) ∧ ((0 : Int) ≤ (List.getD (List.getD c.2.2.2.2 (Int.toNat s2.1.1) ([] : List Int)) (Int.toNat s3.1.1) (0 : Int))))) ∧ (cnd (((List.getD c.2.2.1 (Int.toNat s2.1.1) (0 : Int)) == (List.getD c.2.1 (Int.toNat s3.1.1) (0 : Int))) && ((List.getD (List.getD c.2.2.2.2 (Int.toNat (List.getD (List.getD c.2.2.2.2 (Int.toNat s1.1.1) ([] : List Int)) (Int.toNat s2.1.1) (0 : Int))) ([] : List Int)) (Int.toNat s3.1.1) (0 : Int)) != (List.getD (List.getD c.2.2.2.2 (Int.toNat s1.1.1) ([] : List Int)) (Int.toNat (List.getD (List.getD c.2.2.2.2 (Int.toNat s2.1.1) ([] : List Int)) (Int.toNat s3.1.1) (0 : Int))) (0 : Int)))) (K ((2 : Int), (s1.1.1, (s2.1.1, (s3.1.1, ()))))) ((inK IntKind.i64 (s3.1.1 + (1 : Int))) ∧ (next3 (((s3.1.1 + (1 : Int)), ()), ())))))))))))))))) (k ((), ())))))) (((0 : Int), ()), ()))))))))) ((inK IntKind.i64 (s1.1.1 + (1 : Int))) ∧ (next1 (((s1.1.1 + (1 : Int)), ()), ()))))))) (((0 : Int), ()), ())) (K ((0 : Int), ((0 : Int), ((0 : Int), ((0 : Int), ()))))))))) (((0 : Int), ()), ())))))) (((0 : Int), ()), ()))
theorem w_spec_l02Fault (x : denL c_spec_l02Fault.args) (K : Int × Int × Int × Int × Unit → Prop) : evF tab (lkp []) (cutL [(17, 44), (5, 38), (13, 11)]) Try.f126 (bodyOf Try.f126) (.s .n (.s .n (.s (.s .n (.l [(7, (.d (.int .i64)))] [] [1, 6] .n)) (.s (.s .n (.l [(8, (.d (.int .i64)))] [] [1, 6] (.s .n (.s (.s .n (.l [(9, (.d (.int .i64)))] [] [1, 6, 8] (.s .n (.s (.j [] [] [1, 6, 8, 9] (.s .n (.s .n (.l [(10, (.d (.int .i64)))] [] [1, 6, 8, 9] .n)))) .n)))) .n)))) .n)))) c_spec_l02Fault x K = W_spec_l02Fault x.1 K := by kernel_rfl
theorem k_spec_l02Fault : okC Try.f126.ntmps (cutL [(17, 44), (5, 38), (13, 11)]) (bodyOf Try.f126) = true := by kernel_rfl
theorem m_spec_l02Fault (c : CategoryD) (hok : allP (okL c_spec_l02Fault.args (c, ()))) (hpre : allP (c_spec_l02Fault.pre (c, ()))) : W_spec_l02Fault c (fun r => r = c_spec_l02Fault.res (c, ())) := by
  simp only [c_spec_l02Fault, okL, T.oks, T.ok, ap, allP, true_and, and_true, implies_true] at hok hpre
  try dsimp only [T.den] at hok
  try dsimp only [T.den] at hpre
  unfold W_spec_l02Fault
  have S : ShapeP c := hpre
  have hlt := S.lt
  have hli := S.li
  have hlc := S.lc
  have hmm := S.m
  have resq : ∀ a b d e, faultR c = (a, b, d, e) → (a, b, d, e, ()) = c_spec_l02Fault.res (c, ()) := fun a b d e h => by simp only [c_spec_l02Fault, h]
  have hcr : ∀ f g : Int, (c.2.2.2.2.getD f.toNat []).getD g.toNat 0 = compR c f g := fun _ _ => rfl
  simp only [hcr]
  refine loop_ix (n := c.2.1.length) (fun f => scanR (faultI c) c.2.1.length 0 = scanR (faultI c) ((c.2.1.length : Int) - f).toNat f) (by omega) scan_0 ?_ ?_
  · intro f next h0 h1 hP hn hin
    try dsimp only
    obtain ⟨a1, a2, a3, a4⟩ := S.frm h0 h1
    obtain ⟨b1, b2, _, _⟩ := S.idn a1 a2
    obtain ⟨d1, d2, _, _⟩ := S.idn a3 a4
    have r1 := S.row _ b1 b2
    have r2 := S.row f h0 h1
    refine cnd_d (fun _ => ⟨h0, h1, by omega, by omega, by omega, by omega, h0, by omega, fun _ => by omega, fun _ => by omega, fun _ => by omega, fun _ => by omega, cnd_of (fun hx => resq _ _ _ _ ?_) (fun hx => ⟨by rw [inK64]; (try dsimp only); omega, hn ?_⟩)⟩) (fun h => absurd h1 h)
    · have : faultI c f = some (1, f, 0, 0) := by unfold faultI; rw [if_pos]; simpa using hx
      unfold faultR; rw [hP, scan_s h1 this]; rfl
    · have : faultI c f = none := by unfold faultI; rw [if_neg]; simpa using hx
      rw [hP, scan_c h1 this]
  intro next hI hin
  rw [scan_n] at hI
  refine cnd_d (fun h => absurd h (by dsimp only; omega)) (fun _ => ?_)
  have hF : faultR c = orR (scanR (faultF c) c.2.1.length 0) (0, 0, 0, 0) := by unfold faultR; rw [hI]; rfl
  refine loop_ix (n := c.2.1.length) (fun f => scanR (faultF c) c.2.1.length 0 = scanR (faultF c) ((c.2.1.length : Int) - f).toNat f) (by omega) scan_0 ?_ ?_
  · intro f next h0 h1 hP hn hin
    try dsimp only
    refine cnd_d (fun _ => ?_) (fun h => absurd h1 h)
    have r1 := S.row f h0 h1
    refine loop_ix (n := c.2.1.length) (fun g => faultF c f = scanR (faultG c f) ((c.2.1.length : Int) - g).toNat g) (by omega) scan_0 ?_ ?_
    · intro g next3 g0 g1 hP3 hn3 hin3
      try dsimp only
      refine cnd_d (fun _ => ?_) (fun h => absurd g1 h)
      have r2 := S.row g g0 g1
      refine join_of (fun _ => faultG c f g = none) (fun _ hG => ⟨by rw [inK64]; (try dsimp only); omega, hn3 (by rw [hP3, scan_c g1 hG])⟩) (fun k hk => ?_)
      have hk' := hk ((), ())
      refine ⟨by omega, by omega, by omega, by omega, cnd_of (fun hx => hk' ?_) (fun hx => ?_)⟩
      · unfold faultG; rw [if_neg]; simpa using hx
      have hfg : c.2.2.1.getD f.toNat 0 = c.2.1.getD g.toNat 0 := by rw [bne_eq_false_iff_eq] at hx; exact hx
      obtain ⟨y1, y2, _, _⟩ := S.yes h0 h1 g0 g1 hfg
      refine loop_ix (n := c.2.1.length) (fun h => faultG c f g = scanR (faultH c f g) ((c.2.1.length : Int) - h).toNat h) (by omega) (by unfold faultG; rw [if_pos hfg]; exact scan_0) ?_ ?_
      · intro h next4 i0 i1 hP4 hn4 hin4
        try dsimp only
        refine cnd_d (fun _ => ?_) (fun h => absurd i1 h)
        have r3 := S.row _ y1 y2
        have cgh := S.comp g0 g1 i0 i1
        have ygh := @ShapeP.yes c S g h g0 g1 i0 i1
        refine ⟨by omega, by omega, by omega, by omega, fun _ => by omega, fun _ => by omega, fun _ => by omega, fun _ => by omega, fun _ => by omega, fun _ => by omega, fun _ => by omega, fun he => ?_, cnd_of (fun hx => resq _ _ _ _ ?_) (fun hx => ⟨by rw [inK64]; (try dsimp only); omega, hn4 ?_⟩)⟩
        · have := ygh (by simpa only [beq_iff_eq] using he); omega
        · have : faultH c f g h = some (2, f, g, h) := by unfold faultH; rw [if_pos]; simpa using hx
          have e1 : faultG c f g = some (2, f, g, h) := by rw [hP4, scan_s i1 this]
          have e2 : faultF c f = some (2, f, g, h) := by rw [hP3, scan_s g1 e1]
          rw [hF, hP, scan_s h1 e2]; rfl
        · have : faultH c f g h = none := by unfold faultH; rw [if_neg]; simpa using hx
          rw [hP4, scan_c i1 this]
      · intro next4 hP4 hin4
        rw [scan_n] at hP4
        exact cnd_d (fun h => absurd h (by dsimp only; omega)) (fun _ => hk' hP4)
    · intro next3 hP3 hin3
      rw [scan_n] at hP3
      exact cnd_d (fun h => absurd h (by dsimp only; omega)) (fun _ => ⟨by rw [inK64]; (try dsimp only); omega, hn (by rw [hP, scan_c h1 hP3])⟩)
  · intro next2 hP2 hin2
    rw [scan_n] at hP2
    refine cnd_d (fun h => absurd h (by dsimp only; omega)) (fun _ => resq _ _ _ _ ?_)
    rw [hF, hP2]; rfl
theorem ct_spec_l02Fault : CtOk Try.prog 126 c_spec_l02Fault :=
  ct_by (Φ := lkp []) good_nil tab_ok (by kernel_rfl) (fn := Try.f126) (c := bodyOf Try.f126) (by kernel_rfl) (by kernel_rfl) (by kernel_rfl) c_spec_l02Fault rfl (.s .n (.s .n (.s (.s .n (.l [(7, (.d (.int .i64)))] [] [1, 6] .n)) (.s (.s .n (.l [(8, (.d (.int .i64)))] [] [1, 6] (.s .n (.s (.s .n (.l [(9, (.d (.int .i64)))] [] [1, 6, 8] (.s .n (.s (.j [] [] [1, 6, 8, 9] (.s .n (.s .n (.l [(10, (.d (.int .i64)))] [] [1, 6, 8, 9] .n)))) .n)))) .n)))) .n)))) (cutL [(17, 44), (5, 38), (13, 11)]) (by kernel_rfl) (by kernel_rfl) k_spec_l02Fault (by decide) (fun x K => W_spec_l02Fault x.1 K) w_spec_l02Fault (fun x h1 h2 => m_spec_l02Fault x.1 h1 h2)
def c_spec_l02Is : Ct := ⟨[CategoryT], [true], fun x => [], [(false, (.fz .bool))], fun x => (catR x.1, ()), false, none⟩
def W_spec_l02Is (c : CategoryD) (K : Bool × Unit → Prop) : Prop := (cnd (!(shapeR c)) (K (Bool.false, ())) ((ShapeP c) ∧ (K (((faultR c).1 == (0 : Int)), ()))))
theorem w_spec_l02Is (x : denL c_spec_l02Is.args) (K : Bool × Unit → Prop) : evF tab (lkp [(125, c_spec_IsShape), (126, c_spec_l02Fault)]) (cutL []) Try.f89 (bodyOf Try.f89) .n c_spec_l02Is x K = W_spec_l02Is x.1 K := by kernel_rfl
theorem k_spec_l02Is : okC Try.f89.ntmps (cutL []) (bodyOf Try.f89) = true := by kernel_rfl
theorem m_spec_l02Is (c : CategoryD) (hok : allP (okL c_spec_l02Is.args (c, ()))) (hpre : allP (c_spec_l02Is.pre (c, ()))) : W_spec_l02Is c (fun r => r = c_spec_l02Is.res (c, ())) := by
  simp only [c_spec_l02Is, okL, T.oks, T.ok, ap, allP, true_and, and_true, implies_true] at hok hpre
  try dsimp only [T.den] at hok
  try dsimp only [T.den] at hpre
  unfold W_spec_l02Is
  simp only [c_spec_l02Is, catR]
  have := @shape_iff c
  grind [cnd, nb_eq, inK64]
theorem ct_spec_l02Is : CtOk Try.prog 89 c_spec_l02Is :=
  ct_by (Φ := lkp [(125, c_spec_IsShape), (126, c_spec_l02Fault)]) (good_cons ct_spec_IsShape (good_cons ct_spec_l02Fault good_nil)) tab_ok (by kernel_rfl) (fn := Try.f89) (c := bodyOf Try.f89) (by kernel_rfl) (by kernel_rfl) (by kernel_rfl) c_spec_l02Is rfl .n (cutL []) (by kernel_rfl) (by kernel_rfl) k_spec_l02Is (by decide) (fun x K => W_spec_l02Is x.1 K) w_spec_l02Is (fun x h1 h2 => m_spec_l02Is x.1 h1 h2)
def c_spec_l19Shape : Ct := ⟨[SetFunctorT], [true], fun x => [], [(false, (.fz .bool))], fun x => (sfShapeR x.1, ()), false, none⟩
def W_spec_l19Shape (f : SetFunctorD) (K : Bool × Unit → Prop) : Prop := (cnd (((!(catR f.1)) || ((((List.length f.2.1) : Nat) : Int) != f.1.1)) || ((((List.length f.2.2) : Nat) : Int) != (((List.length f.1.2.1) : Nat) : Int))) (K (Bool.false, ())) (loopW (S := ((Int × Unit) × Unit)) (fun s => (fun next => ((inK IntKind.i64 s.1.1) → (cnd (decide (s.1.1 < (((List.length f.2.1) : Nat) : Int))) (((0 : Int) ≤ s.1.1) ∧ ((s.1.1 < (((List.length f.2.1) : Nat) : Int)) ∧ (cnd (!(inR (List.getD f.2.1 (Int.toNat s.1.1) (0 : Int)) (0 : Int) (16 : Int))) (K (Bool.false, ())) ((inK IntKind.i64 (s.1.1 + (1 : Int))) ∧ (next (((s.1.1 + (1 : Int)), ()), ())))))) (loopW (S := ((Int × Unit) × Unit)) (fun s1 => (fun next1 => ((inK IntKind.i64 s1.1.1) → (cnd (decide (s1.1.1 < (((List.length f.2.2) : Nat) : Int))) (((0 : Int) ≤ s1.1.1) ∧ ((s1.1.1 < (((List.length f.2.2) : Nat) : Int)) ∧ (((0 : Int) ≤ s1.1.1) ∧ ((s1.1.1 < (((List.length f.1.2.1) : Nat) : Int)) ∧ (((0 : Int) ≤ (List.getD f.1.2.1 (Int.toNat s1.1.1) (0 : Int))) ∧ (((List.getD f.1.2.1 (Int.toNat s1.1.1) (0 : Int)) < (((List.length f.2.1) : Nat) : Int)) ∧ (((((((List.length (List.getD f.2.2 (Int.toNat s1.1.1) ([] : List Int))) : Nat) : Int) != (List.getD f.2.1 (Int.toNat (List.getD f.1.2.1 (Int.toNat s1.1.1) (0 : Int))) (0 : Int))) = Bool.false) → ((s1.1.1 < (((List.length f.1.2.2.1) : Nat) : Int)) ∧ ((0 : Int) ≤ s1.1.1))) ∧ (((((((List.length (List.getD f.2.2 (Int.toNat s1.1.1) ([] : List Int))) : Nat) : Int) != (List.getD f.2.1 (Int.toNat (List.getD f.1.2.1 (Int.toNat s1.1.1) (0 : Int))) (0 : Int))) = Bool.false) → (((List.getD f.1.2.2.1 (Int.toNat s1.1.1) (0 : Int)) < (((List.length f.2.1) : Nat) : Int)) ∧ ((0 : Int) ≤ (List.getD f.1.2.2.1 (Int.toNat s1.1.1) (0 : Int))))) ∧ (((((((List.length (List.getD f.2.2 (Int.toNat s1.1.1) ([] : List Int))) : Nat) : Int) != (List.getD f.2.1 (Int.toNat (List.getD f.1.2.1 (Int.toNat s1.1.1) (0 : Int))) (0 : Int))) = Bool.false) → ((s1.1.1 < (((List.length f.2.2) : Nat) : Int)) ∧ ((0 : Int) ≤ s1.1.1))) ∧ (cnd (((((List.length (List.getD f.2.2 (Int.toNat s1.1.1) ([] : List Int))) : Nat) : Int) != (List.getD f.2.1 (Int.toNat (List.getD f.1.2.1 (Int.toNat s1.1.1) (0 : Int))) (0 : Int))) || (!(withinR (List.getD f.2.2 (Int.toNat s1.1.1) ([] : List Int)) (List.getD f.2.1 (Int.toNat (List.getD f.1.2.2.1 (Int.toNat s1.1.1) (0 : Int))) (0 : Int))))) (K (Bool.false, ())) ((inK IntKind.i64 (s1.1.1 + (1 : Int))) ∧ (next1 (((s1.1.1 + (1 : Int)), ()), ()))))))))))))) (K (Bool.true, ())))))) (((0 : Int), ()), ())))))) (((0 : Int), ()), ())))
theorem w_spec_l19Shape (x : denL c_spec_l19Shape.args) (K : Bool × Unit → Prop) : evF tab (lkp [(161, c_spec_l01In), (90, c_spec_l01Map), (89, c_spec_l02Is)]) (cutL [(11, 36)]) Try.f152 (bodyOf Try.f152) (.s .n (.s .n (.s (.s .n (.l [(3, (.d (.int .i64)))] [] [1] .n)) (.s (.s .n (.l [(4, (.d (.int .i64)))] [] [1] .n)) .n)))) c_spec_l19Shape x K = W_spec_l19Shape x.1 K := by kernel_rfl
theorem k_spec_l19Shape : okC Try.f152.ntmps (cutL [(11, 36)]) (bodyOf Try.f152) = true := by kernel_rfl
theorem m_spec_l19Shape (f : SetFunctorD) (hok : allP (okL c_spec_l19Shape.args (f, ()))) (hpre : allP (c_spec_l19Shape.pre (f, ()))) : W_spec_l19Shape f (fun r => r = c_spec_l19Shape.res (f, ())) := by
  simp only [c_spec_l19Shape, okL, T.oks, T.ok, ap, allP, true_and, and_true, implies_true] at hok hpre
  try dsimp only [T.den] at hok
  try dsimp only [T.den] at hpre
  unfold W_spec_l19Shape
  have hv : sfShapeR f = (catR f.1 && decide ((f.2.1.length : Int) = f.1.1) && withinR f.2.1 17 && decide (f.2.2.length = f.1.2.1.length) && allB f.2.2.length (sfActR f)) := rfl
  have res : ∀ b, sfShapeR f = b → (b, ()) = c_spec_l19Shape.res (f, ()) := fun b h => by simp only [c_spec_l19Shape, h]
  refine cnd_of (fun hc => res _ ?_) (fun hc => ?_)
  · rw [hv]; revert hc
    cases catR f.1 <;> simp
    omega
  simp only [Bool.or_eq_false_iff, Bool.not_eq_false', bne_eq_false_iff_eq] at hc
  obtain ⟨⟨h1, h2⟩, h4⟩ := hc
  have h4' : f.2.2.length = f.1.2.1.length := by omega
  have hw : withinR f.2.1 17 = f.2.1.all fun y => inR y 0 16 := rfl
  rw [h1, decide_eq_true h2, hw, decide_eq_true h4'] at hv
  simp only [Bool.true_and, Bool.and_true] at hv
  have S := cat_shape h1
  have hlt := S.lt
  have hm := S.m
  have hob := S.ob
  refine loop_all f.2.1 0 (fun y => inR y 0 16) ?_ ?_
  · intro x next x0 x1 hno hyes _
    try dsimp only
    refine cnd_d (fun _ => ⟨x0, x1, cnd_of (fun hx => res _ ?_) (fun hx => ⟨by rw [inK64]; (try dsimp only); omega, hyes ?_⟩)⟩) (fun h => absurd x1 h)
    · rw [hv, hno (by simpa using hx)]; rfl
    · simpa using hx
  intro next h _
  refine cnd_d (fun h => absurd h (Int.lt_irrefl _)) (fun _ => ?_)
  rw [h, Bool.true_and] at hv
  rw [← hw] at h
  refine loop_allB f.2.2.length (sfActR f) ?_ ?_
  · intro a next a0 a1 hno hyes _
    try dsimp only
    obtain ⟨k1, k2, k3, k4⟩ := S.frm a0 (by omega)
    have hz := within_iff.1 h _ k3 (by omega)
    refine cnd_d (fun _ => ⟨a0, a1, a0, by omega, k1, by omega, fun _ => by omega, fun _ => by omega, fun _ => by omega, cnd_of (fun hx => res _ ?_) (fun hx => ⟨by rw [inK64]; (try dsimp only); omega, hyes ?_⟩)⟩) (fun h => absurd a1 h)
    · rw [hv]; refine hno ?_; unfold sfActR; revert hx; cases withinR (f.2.2.getD a.toNat []) (f.2.1.getD (f.1.2.2.1.getD a.toNat 0).toNat 0) <;> simp
    · unfold sfActR; revert hx; cases withinR (f.2.2.getD a.toNat []) (f.2.1.getD (f.1.2.2.1.getD a.toNat 0).toNat 0) <;> simp
  · intro next h _
    exact cnd_d (fun h => absurd h (Int.lt_irrefl _)) (fun _ => res _ (by rw [hv, h]))
theorem ct_spec_l19Shape : CtOk Try.prog 152 c_spec_l19Shape :=
  ct_by (Φ := lkp [(161, c_spec_l01In), (90, c_spec_l01Map), (89, c_spec_l02Is)]) (good_cons ct_spec_l01In (good_cons ct_spec_l01Map (good_cons ct_spec_l02Is good_nil))) tab_ok (by kernel_rfl) (fn := Try.f152) (c := bodyOf Try.f152) (by kernel_rfl) (by kernel_rfl) (by kernel_rfl) c_spec_l19Shape rfl (.s .n (.s .n (.s (.s .n (.l [(3, (.d (.int .i64)))] [] [1] .n)) (.s (.s .n (.l [(4, (.d (.int .i64)))] [] [1] .n)) .n)))) (cutL [(11, 36)]) (by kernel_rfl) (by kernel_rfl) k_spec_l19Shape (by decide) (fun x K => W_spec_l19Shape x.1 K) w_spec_l19Shape (fun x h1 h2 => m_spec_l19Shape x.1 h1 h2)
def c_spec_l19Is : Ct := ⟨[SetFunctorT], [true], fun x => [], [(false, (.fz .bool))], fun x => (setfR x.1, ()), false, none⟩
def W_spec_l19Is (f : SetFunctorD) (K : Bool × Unit → Prop) : Prop := (cnd (!(sfShapeR f)) (K (Bool.false, ())) ((SfP f) ∧ (K (((sfFaultR f).1 == (0 : Int)), ()))))
theorem w_spec_l19Is (x : denL c_spec_l19Is.args) (K : Bool × Unit → Prop) : evF tab (lkp [(153, c_spec_l19Fault), (152, c_spec_l19Shape)]) (cutL []) Try.f112 (bodyOf Try.f112) .n c_spec_l19Is x K = W_spec_l19Is x.1 K := by kernel_rfl
theorem k_spec_l19Is : okC Try.f112.ntmps (cutL []) (bodyOf Try.f112) = true := by kernel_rfl
theorem m_spec_l19Is (f : SetFunctorD) (hok : allP (okL c_spec_l19Is.args (f, ()))) (hpre : allP (c_spec_l19Is.pre (f, ()))) : W_spec_l19Is f (fun r => r = c_spec_l19Is.res (f, ())) := by
  simp only [c_spec_l19Is, okL, T.oks, T.ok, ap, allP, true_and, and_true, implies_true] at hok hpre
  try dsimp only [T.den] at hok
  try dsimp only [T.den] at hpre
  unfold W_spec_l19Is
  have h1 := @sf_iff f
  simp only [c_spec_l19Is, setfR]
  grind [cnd, nb_eq, inK64]
theorem ct_spec_l19Is : CtOk Try.prog 112 c_spec_l19Is :=
  ct_by (Φ := lkp [(153, c_spec_l19Fault), (152, c_spec_l19Shape)]) (good_cons ct_spec_l19Fault (good_cons ct_spec_l19Shape good_nil)) tab_ok (by kernel_rfl) (fn := Try.f112) (c := bodyOf Try.f112) (by kernel_rfl) (by kernel_rfl) (by kernel_rfl) c_spec_l19Is rfl .n (cutL []) (by kernel_rfl) (by kernel_rfl) k_spec_l19Is (by decide) (fun x K => W_spec_l19Is x.1 K) w_spec_l19Is (fun x h1 h2 => m_spec_l19Is x.1 h1 h2)
def c_spec_l19Between : Ct := ⟨[SetFunctorT, SetFunctorT], [true, true], fun x => [], [(false, (.fz .bool))], fun x => ((setfR x.1 && setfR x.2.1 && eqR CategoryT x.1.1 x.2.1.1), ()), false, none⟩
def W_spec_l19Between (f : SetFunctorD) (g : SetFunctorD) (K : Bool × Unit → Prop) : Prop := (K ((((setfR f) && (setfR g)) && (eqR CategoryT f.1 g.1)), ()))
theorem w_spec_l19Between (x : denL c_spec_l19Between.args) (K : Bool × Unit → Prop) : evF tab (lkp [(134, c_spec_l02Same), (112, c_spec_l19Is)]) (cutL []) Try.f96 (bodyOf Try.f96) .n c_spec_l19Between x K = W_spec_l19Between x.1 x.2.1 K := by kernel_rfl
theorem k_spec_l19Between : okC Try.f96.ntmps (cutL []) (bodyOf Try.f96) = true := by kernel_rfl
theorem m_spec_l19Between (f : SetFunctorD) (g : SetFunctorD) (hok : allP (okL c_spec_l19Between.args (f, g, ()))) (hpre : allP (c_spec_l19Between.pre (f, g, ()))) : W_spec_l19Between f g (fun r => r = c_spec_l19Between.res (f, g, ())) := by
  simp only [c_spec_l19Between, okL, T.oks, T.ok, ap, allP, true_and, and_true, implies_true] at hok hpre
  try dsimp only [T.den] at hok
  try dsimp only [T.den] at hpre
  unfold W_spec_l19Between
  simp only [c_spec_l19Between]
theorem ct_spec_l19Between : CtOk Try.prog 96 c_spec_l19Between :=
  ct_by (Φ := lkp [(134, c_spec_l02Same), (112, c_spec_l19Is)]) (good_cons ct_spec_l02Same (good_cons ct_spec_l19Is good_nil)) tab_ok (by kernel_rfl) (fn := Try.f96) (c := bodyOf Try.f96) (by kernel_rfl) (by kernel_rfl) (by kernel_rfl) c_spec_l19Between rfl .n (cutL []) (by kernel_rfl) (by kernel_rfl) k_spec_l19Between (by decide) (fun x K => W_spec_l19Between x.1 x.2.1 K) w_spec_l19Between (fun x h1 h2 => m_spec_l19Between x.1 x.2.1 h1 h2)
def c_spec_l19Parts : Ct := ⟨[SetFunctorT, SetFunctorT, (.sl (.sl (.int .i64)))], [true, true, false], fun x => [SfP x.1, SfP x.2.1, x.1.1 = x.2.1.1], [(false, (.fz .bool))], fun x => (fitMR (x.1, x.2.1, x.2.2.1), ()), false, none⟩
def W_spec_l19Parts (f : SetFunctorD) (g : SetFunctorD) (parts : List (List Int)) (K : Bool × Unit → Prop) : Prop := (cnd ((((List.length parts) : Nat) : Int) != (((List.length f.2.1) : Nat) : Int)) (K (Bool.false, ())) (loopW (S := ((Int × Unit) × Unit)) (fun s => (fun next => ((inK IntKind.i64 s.1.1) → (cnd (decide (s.1.1 < (((List.length parts) : Nat) : Int))) (((0 : Int) ≤ s.1.1) ∧ ((s.1.1 < (((List.length parts) : Nat) : Int)) ∧ (((0 : Int) ≤ s.1.1) ∧ ((s.1.1 < (((List.length f.2.1) : Nat) : Int)) ∧ (((((((List.length (List.getD parts (Int.toNat s.1.1) ([] : List Int))) : Nat) : Int) != (List.getD f.2.1 (Int.toNat s.1.1) (0 : Int))) = Bool.false) → ((s.1.1 < (((List.length g.2.1) : Nat) : Int)) ∧ ((0 : Int) ≤ s.1.1))) ∧ (((((((List.length (List.getD parts (Int.toNat s.1.1) ([] : List Int))) : Nat) : Int) != (List.getD f.2.1 (Int.toNat s.1.1) (0 : Int))) = Bool.false) → ((s.1.1 < (((List.length parts) : Nat) : Int)) ∧ ((0 : Int) ≤ s.1.1))) ∧ (cnd (((((List.length (List.getD parts (Int.toNat s.1.1) ([] : List Int))) : Nat) : Int) != (List.getD f.2.1 (Int.toNat s.1.1) (0 : Int))) || (!(withinR (List.getD parts (Int.toNat s.1.1) ([] : List Int)) (List.getD g.2.1 (Int.toNat s.1.1) (0 : Int))))) (K (Bool.false, ())) ((inK IntKind.i64 (s.1.1 + (1 : Int))) ∧ (next (((s.1.1 + (1 : Int)), ()), ())))))))))) (K (Bool.true, ())))))) (((0 : Int), ()), ())))
theorem w_spec_l19Parts (x : denL c_spec_l19Parts.args) (K : Bool × Unit → Prop) : evF tab (lkp [(90, c_spec_l01Map)]) (cutL [(6, 24)]) Try.f97 (bodyOf Try.f97) (.s .n (.s .n (.s (.s .n (.l [(7, (.d (.int .i64)))] [] [2, 3, 4] .n)) .n))) c_spec_l19Parts x K = W_spec_l19Parts x.1 x.2.1 x.2.2.1 K := by kernel_rfl
theorem k_spec_l19Parts : okC Try.f97.ntmps (cutL [(6, 24)]) (bodyOf Try.f97) = true := by kernel_rfl
theorem m_spec_l19Parts (f : SetFunctorD) (g : SetFunctorD) (parts : List (List Int)) (hok : allP (okL c_spec_l19Parts.args (f, g, parts, ()))) (hpre : allP (c_spec_l19Parts.pre (f, g, parts, ()))) : W_spec_l19Parts f g parts (fun r => r = c_spec_l19Parts.res (f, g, parts, ())) := by
  simp only [c_spec_l19Parts, okL, T.oks, T.ok, ap, allP, true_and, and_true, implies_true] at hok hpre
  try dsimp only [T.den] at hok
  try dsimp only [T.den] at hpre
  unfold W_spec_l19Parts
  obtain ⟨P, Q, hc⟩ := hpre
  have hv : fitMR (f, g, parts) = (decide (parts.length = f.2.1.length) && allB parts.length (fitX (f, g, parts))) := rfl
  have res : ∀ b, fitMR (f, g, parts) = b → (b, ()) = c_spec_l19Parts.res (f, g, parts, ()) := fun b h => by simp only [c_spec_l19Parts, h]
  have hl1 := P.lz
  have hl2 := Q.lz
  rw [← hc] at hl2
  have hob := (cat_shape P.cat).ob
  refine cnd_of (fun hx => res _ ?_) (fun hx => ?_)
  · rw [hv, decide_eq_false (by simp at hx; omega), Bool.false_and]
  have hl : parts.length = f.2.1.length := by rw [bne_eq_false_iff_eq] at hx; omega
  rw [decide_eq_true hl, Bool.true_and] at hv
  refine loop_allB parts.length (fitX (f, g, parts)) ?_ ?_
  · intro x next x0 x1 hno hyes _
    try dsimp only
    have hz := Q.size x0 (by rw [← hc]; omega)
    have hb : fitX (f, g, parts) x = (decide (((parts.getD x.toNat []).length : Int) = f.2.1.getD x.toNat 0) && withinR (parts.getD x.toNat []) (g.2.1.getD x.toNat 0)) := rfl
    refine cnd_d (fun _ => ⟨x0, x1, x0, by omega, fun _ => by omega, fun _ => by omega, cnd_of (fun hx => res _ ?_) (fun hx => ⟨by rw [inK64]; (try dsimp only); omega, hyes ?_⟩)⟩) (fun h => absurd x1 h)
    · rw [hv]; refine hno ?_; rw [hb]; revert hx; cases withinR (parts.getD x.toNat []) (g.2.1.getD x.toNat 0) <;> simp
    · rw [hb]; revert hx; cases withinR (parts.getD x.toNat []) (g.2.1.getD x.toNat 0) <;> simp
  · intro next h _
    exact cnd_d (fun h => absurd h (Int.lt_irrefl _)) (fun _ => res _ (by rw [hv, h]))
theorem ct_spec_l19Parts : CtOk Try.prog 97 c_spec_l19Parts :=
  ct_by (Φ := lkp [(90, c_spec_l01Map)]) (good_cons ct_spec_l01Map good_nil) tab_ok (by kernel_rfl) (fn := Try.f97) (c := bodyOf Try.f97) (by kernel_rfl) (by kernel_rfl) (by kernel_rfl) c_spec_l19Parts rfl (.s .n (.s .n (.s (.s .n (.l [(7, (.d (.int .i64)))] [] [2, 3, 4] .n)) .n))) (cutL [(6, 24)]) (by kernel_rfl) (by kernel_rfl) k_spec_l19Parts (by decide) (fun x K => W_spec_l19Parts x.1 x.2.1 x.2.2.1 K) w_spec_l19Parts (fun x h1 h2 => m_spec_l19Parts x.1 x.2.1 x.2.2.1 h1 h2)
def c_spec_l19Unnatural : Ct := ⟨[SetFunctorT, SetFunctorT, (.sl (.sl (.int .i64)))], [true, true, false], fun x => [MapP (x.1, x.2.1, x.2.2.1)], [(false, (.fz (.int .i64))), (false, (.fz (.int .i64)))], fun x => ((unnR (x.1, x.2.1, x.2.2.1)).1, (unnR (x.1, x.2.1, x.2.2.1)).2, ()), false, none⟩
def W_spec_l19Unnatural (f : SetFunctorD) (g : SetFunctorD) (parts : List (List Int)) (K : Int × Int × Unit → Prop) : Prop := (loopW (S := ((Int × Unit) × Unit)) (fun s => (fun next => ((inK IntKind.i64 s.1.1) → (cnd (decide (s.1.1 < (((List.length f.2.2) : Nat) : Int))) (((0 : Int) ≤ s.1.1) ∧ ((s.1.1 < (((List.length f.1.2.1) : Nat) : Int)) ∧ (((0 : Int) ≤ s.1.1) ∧ ((s.1.1 < (((List.length f.1.2.2.1) : Nat) : Int)) ∧ (loopW (S := ((Int × Unit) × Unit)) (fun s1 => (fun next1 => ((inK IntKind.i64 s1.1.1) → (((0 : Int) ≤ (List.getD f.1.2.1 (Int.toNat s.1.1) (0 : Int))) ∧ (((List.getD f.1.2.1 (Int.toNat s.1.1) (0 : Int)) < (((List.length f.2.1) : Nat) : Int)) ∧ (cnd (decide (s1.1.1 < (List.getD f.2.1 (Int.toNat (List.getD f.1.2.1 (Int.toNat s.1.1) (0 : Int))) (0 : Int)))) (((0 : Int) ≤ (List.getD f.1.2.2.1 (Int.toNat s.1.1) (0 : Int))) ∧ (((List.getD f.1.2.2.1 (Int.toNat s.1.1) (0 : Int)) < (((List.length parts) : Nat) : Int)) ∧ (((0 : Int) ≤ s.1.1) ∧ ((s.1.1 < (((List.length f.2.2) : Nat) : Int)) ∧ (((0 : Int) ≤ s1.1.1) ∧ ((s1.1.1 < (((List.length (List.getD f.2.2 (Int.toNat s.1.1) ([] : List Int))) : Nat) : Int)) ∧ (((0 : Int) ≤ (List.getD (List.getD f.2.2 (Int.toNat s.1.1) ([] : List Int)) (Int.toNat s1.1.1) (0 : Int))) ∧ (((List.getD (List.getD f.2.2 (Int.toNat s.1.1) ([] : List Int)) (Int.toNat s1.1.1) (0 : Int)) < (((List.length (List.getD parts (Int.toNat (List.getD f.1.2.2.1 (Int.toNat s.1.1) (0 : Int))) ([] : List Int))) : Nat) : Int)) ∧ (((0 : Int) ≤ s.1.1) ∧ ((s.1.1 < (((List.length g.2.2) : Nat) : Int)) ∧ (((0 : Int) ≤ (List.getD f.1.2.1 (Int.toNat s.1.1) (0 : Int))) ∧ (((List.getD f.1.2.1 (Int.toNat s.1.1) (0 : Int)) < (((List.length parts) : Nat) : Int)) ∧ (((0 : Int) ≤ s1.1.1) ∧ ((s1.1.1 < (((List.length (List.getD parts (Int.toNat (List.getD f.1.2.1 (Int.toNat s.1.1) (0 : Int))) ([] : List Int))) : Nat) : Int)) ∧ (((0 : Int) ≤ (List.getD (List.getD parts (Int.toNat (List.getD f.1.2.1 (Int.toNat s.1.1) (0 : Int))) ([] : List Int)) (Int.toNat s1.1.1) (0 : Int))) ∧ (((List.getD (List.getD parts (Int.toNat (List.getD f.1.2.1 (Int.toNat s.1.1) (0 : Int))) ([] : List Int)) (Int.toNat s1.1.1) (0 : Int)) < (((List.length (List.getD g.2.2 (Int.toNat s.1.1) ([] : List Int))) : Nat) : Int)) ∧ (cnd ((List.getD (List.getD parts (Int.toNat (List.getD f.1.2.2.1 (Int.toNat s.1.1) (0 : Int))) ([] : List Int)) (Int.toNat (List.getD (List.getD f.2.2 (Int.toNat s.1.1) ([] : List Int)) (Int.toNat s1.1.1) (0 : Int))) (0 : Int)) != (List.getD (List.getD g.2.2 (Int.toNat s.1.1) ([] : List Int)) (Int.toNat (List.getD (List.getD parts (Int.toNat (List.getD f.1.2.1 (Int.toNat s.1.1) (0 : Int))) ([] : List Int)) (Int.toNat s1.1.1) (0 : Int))) (0 : Int))) (K (s.1.1, (s1.1.1, ()))) ((inK IntKind.i64 (s1.1.1 + (1 : Int))) ∧ (next1 (((s1.1.1 + (1 : Int)), ()), ())))))))))))))))))))) ((inK IntKind.i64 (s.1.1 + (1 : Int))) ∧ (next (((s.1.1 + (1 : Int)), ()), ()))))))))) (((0 : Int), ()), ())))))) (K ((-(1 : Int)), ((0 : Int), ()))))))) (((0 : Int), ()), ()))
theorem w_spec_l19Unnatural (x : denL c_spec_l19Unnatural.args) (K : Int × Int × Unit → Prop) : evF tab (lkp []) (cutL [(4, 14), (8, 29)]) Try.f98 (bodyOf Try.f98) (.s .n (.s (.s .n (.l [(8, (.d (.int .i64)))] [] [2, 3, 4] (.s .n (.s (.s .n (.s .n (.l [(11, (.d (.int .i64)))] [] [2, 3, 4, 8, 9, 10] .n))) .n)))) .n)) c_spec_l19Unnatural x K = W_spec_l19Unnatural x.1 x.2.1 x.2.2.1 K := by kernel_rfl
theorem k_spec_l19Unnatural : okC Try.f98.ntmps (cutL [(4, 14), (8, 29)]) (bodyOf Try.f98) = true := by kernel_rfl
theorem m_spec_l19Unnatural (f : SetFunctorD) (g : SetFunctorD) (parts : List (List Int)) (hok : allP (okL c_spec_l19Unnatural.args (f, g, parts, ()))) (hpre : allP (c_spec_l19Unnatural.pre (f, g, parts, ()))) : W_spec_l19Unnatural f g parts (fun r => r = c_spec_l19Unnatural.res (f, g, parts, ())) := by
  simp only [c_spec_l19Unnatural, okL, T.oks, T.ok, ap, allP, true_and, and_true, implies_true] at hok hpre
  try dsimp only [T.den] at hok
  try dsimp only [T.den] at hpre
  unfold W_spec_l19Unnatural
  have M : MapP (f, g, parts) := hpre
  have S := cat_shape M.s.cat
  have hc := M.c
  have hlt := S.lt
  have hmm := S.m
  have hob := S.ob
  have hlz := M.s.lz
  have hla := M.s.la
  have htz := M.t.lz
  have hta := M.t.la
  rw [← hc] at htz hta
  have hlp := M.l
  try dsimp only at hc hlt hmm hob hlz hla htz hta hlp
  have resq : ∀ a b, unnR (f, g, parts) = (a, b) → (a, b, ()) = c_spec_l19Unnatural.res (f, g, parts, ()) := fun a b h => by simp only [c_spec_l19Unnatural, h]
  refine loop_ix (n := f.1.2.1.length) (fun a => scanR (unnA (f, g, parts)) f.1.2.1.length 0 = scanR (unnA (f, g, parts)) ((f.1.2.1.length : Int) - a).toNat a) (by omega) scan_0 ?_ ?_
  · intro a next a0 a1 hP hn hin
    try dsimp only
    obtain ⟨fa1, fa2, ta1, ta2⟩ := S.frm a0 a1
    obtain ⟨q1, q2⟩ := M.s.act a a0 a1
    obtain ⟨q3, q4⟩ := M.t.act a a0 (by rw [← M.c]; exact a1)
    rw [← M.c] at q3 q4
    obtain ⟨z1, z2⟩ := M.s.size fa1 fa2
    try dsimp only at fa1 fa2 ta1 ta2 q1 q2 q3 q4 z1 z2
    refine cnd_d (fun _ => ⟨a0, by omega, a0, by omega, ?_⟩) (fun h => absurd h (by omega))
    refine loop_ix (n := f.2.1.getD (f.1.2.1.getD a.toNat 0).toNat 0) (fun e => unnA (f, g, parts) a = scanR (unnE (f, g, parts) a) (f.2.1.getD (f.1.2.1.getD a.toNat 0).toNat 0 - e).toNat e) z1 (by unfold unnA; rw [Int.sub_zero]) ?_ ?_
    · intro e next2 e0 e1 hP2 hn2 hin2
      try dsimp only
      obtain ⟨m1, m2, m3⟩ := M.s.at_ a0 a1 e0 e1
      obtain ⟨n1, n2, n3⟩ := M.at_ fa1 fa2 e0 e1
      have o1 := M.at_ ta1 ta2 m2 m3
      have hac : ∀ a e : Int, (f.2.2.getD a.toNat []).getD e.toNat 0 = actR f a e := fun _ _ => rfl
      have hag : ∀ a e : Int, (g.2.2.getD a.toNat []).getD e.toNat 0 = actR g a e := fun _ _ => rfl
      have hap : ∀ a e : Int, (parts.getD a.toNat []).getD e.toNat 0 = partR (f, g, parts) a e := fun _ _ => rfl
      simp only [hac, hag, hap]
      try dsimp only at m1 m2 m3 n1 n2 n3 o1
      refine ⟨fa1, by omega, cnd_d (fun _ => ⟨ta1, by omega, a0, by omega, e0, by omega, m2, by omega, a0, by omega, fa1, by omega, e0, by omega, n2, by omega, cnd_of (fun hx => resq _ _ ?_) (fun hx => ⟨by rw [inK64]; (try dsimp only); omega, hn2 ?_⟩)⟩) (fun h => absurd h (by omega))⟩
      · have k1 : unnE (f, g, parts) a e = some (a, e) := by unfold unnE; rw [if_pos]; simpa using hx
        have k2 : unnA (f, g, parts) a = some (a, e) := by rw [hP2, scan_s e1 k1]
        unfold unnR; rw [hP, scan_s a1 k2]; rfl
      · have k1 : unnE (f, g, parts) a e = none := by unfold unnE; rw [if_neg]; simpa using hx
        rw [hP2, scan_c e1 k1]
    · intro next2 hP2 hin2
      try dsimp only
      rw [scan_n] at hP2
      exact ⟨fa1, by omega, cnd_d (fun h => absurd h (by omega)) (fun _ => ⟨by rw [inK64]; (try dsimp only); omega, hn (by rw [hP, scan_c a1 hP2])⟩)⟩
  · intro next hP hin
    rw [scan_n] at hP
    refine cnd_d (fun h => absurd h (by dsimp only; omega)) (fun _ => resq _ _ ?_)
    unfold unnR; rw [hP]; rfl
theorem ct_spec_l19Unnatural : CtOk Try.prog 98 c_spec_l19Unnatural :=
  ct_by (Φ := lkp []) good_nil tab_ok (by kernel_rfl) (fn := Try.f98) (c := bodyOf Try.f98) (by kernel_rfl) (by kernel_rfl) (by kernel_rfl) c_spec_l19Unnatural rfl (.s .n (.s (.s .n (.l [(8, (.d (.int .i64)))] [] [2, 3, 4] (.s .n (.s (.s .n (.s .n (.l [(11, (.d (.int .i64)))] [] [2, 3, 4, 8, 9, 10] .n))) .n)))) .n)) (cutL [(4, 14), (8, 29)]) (by kernel_rfl) (by kernel_rfl) k_spec_l19Unnatural (by decide) (fun x K => W_spec_l19Unnatural x.1 x.2.1 x.2.2.1 K) w_spec_l19Unnatural (fun x h1 h2 => m_spec_l19Unnatural x.1 x.2.1 x.2.2.1 h1 h2)
def c_spec_l19IsMap : Ct := ⟨[SetMapT], [true], fun x => [], [(false, (.fz .bool))], fun x => (natMR x.1, ()), false, none⟩
def W_spec_l19IsMap (m : SetMapD) (K : Bool × Unit → Prop) : Prop := ((((!(((setfR m.1) && (setfR m.2.1)) && (eqR CategoryT m.1.1 m.2.1.1))) = Bool.false) → ((SfP m.2.1) ∧ ((m.1.1 = m.2.1.1) ∧ (SfP m.1)))) ∧ (cnd ((!(((setfR m.1) && (setfR m.2.1)) && (eqR CategoryT m.1.1 m.2.1.1))) || (!(fitMR m))) (K (Bool.false, ())) ((MapP m) ∧ (K ((decide ((unnR m).1 < (0 : Int))), ())))))
theorem w_spec_l19IsMap (x : denL c_spec_l19IsMap.args) (K : Bool × Unit → Prop) : evF tab (lkp [(96, c_spec_l19Between), (97, c_spec_l19Parts), (98, c_spec_l19Unnatural)]) (cutL []) Try.f61 (bodyOf Try.f61) .n c_spec_l19IsMap x K = W_spec_l19IsMap x.1 K := by kernel_rfl
theorem k_spec_l19IsMap : okC Try.f61.ntmps (cutL []) (bodyOf Try.f61) = true := by kernel_rfl
theorem m_spec_l19IsMap (m : SetMapD) (hok : allP (okL c_spec_l19IsMap.args (m, ()))) (hpre : allP (c_spec_l19IsMap.pre (m, ()))) : W_spec_l19IsMap m (fun r => r = c_spec_l19IsMap.res (m, ())) := by
  simp only [c_spec_l19IsMap, okL, T.oks, T.ok, ap, allP, true_and, and_true, implies_true] at hok hpre
  try dsimp only [T.den] at hok
  try dsimp only [T.den] at hpre
  unfold W_spec_l19IsMap
  have h1 := @mshape_iff m
  have h3 := @eqR_iff CategoryT m.1.1 m.2.1.1
  refine ⟨fun h => ?_, cnd_of (fun h => ?_) (fun h => ⟨h1 ?_, ?_⟩)⟩
  · simp only [Bool.not_eq_false', Bool.and_eq_true] at h
    exact ⟨setf_sf h.1.2, h3.1 h.2, setf_sf h.1.1⟩
  · have : natMR m = false := by
      unfold natMR mshapeR
      revert h
      cases setfR m.1 <;> cases setfR m.2.1 <;> cases eqR CategoryT m.1.1 m.2.1.1 <;> cases fitMR m <;> simp
    simp only [c_spec_l19IsMap, this]
  · unfold mshapeR
    revert h
    cases setfR m.1 <;> cases setfR m.2.1 <;> cases eqR CategoryT m.1.1 m.2.1.1 <;> cases fitMR m <;> simp
  · have : mshapeR m = true := by
      unfold mshapeR
      revert h
      cases setfR m.1 <;> cases setfR m.2.1 <;> cases eqR CategoryT m.1.1 m.2.1.1 <;> cases fitMR m <;> simp
    simp only [c_spec_l19IsMap, natMR, this, Bool.true_and]
theorem ct_spec_l19IsMap : CtOk Try.prog 61 c_spec_l19IsMap :=
  ct_by (Φ := lkp [(96, c_spec_l19Between), (97, c_spec_l19Parts), (98, c_spec_l19Unnatural)]) (good_cons ct_spec_l19Between (good_cons ct_spec_l19Parts (good_cons ct_spec_l19Unnatural good_nil))) tab_ok (by kernel_rfl) (fn := Try.f61) (c := bodyOf Try.f61) (by kernel_rfl) (by kernel_rfl) (by kernel_rfl) c_spec_l19IsMap rfl .n (cutL []) (by kernel_rfl) (by kernel_rfl) k_spec_l19IsMap (by decide) (fun x K => W_spec_l19IsMap x.1 K) w_spec_l19IsMap (fun x h1 h2 => m_spec_l19IsMap x.1 h1 h2)
def c_spec_IsSurjectiveMap : Ct := ⟨[SetMapT], [true], fun x => [], [(false, (.fz .bool)), (false, (.fz (.int .i64)))], fun x => ((natMR x.1 && surMR x.1), (if natMR x.1 = true then 0 else 1), ()), false, none⟩
def W_spec_IsSurjectiveMap (m : SetMapD) (K : Bool × Int × Unit → Prop) : Prop := (cnd (!(natMR m)) (K (Bool.false, ((1 : Int), ()))) (loopW (S := ((Int × Unit) × Unit)) (fun s => (fun next => ((inK IntKind.i64 s.1.1) → (cnd (decide (s.1.1 < (((List.length m.2.2) : Nat) : Int))) (((0 : Int) ≤ s.1.1) ∧ ((s.1.1 < (((List.length m.2.1.2.1) : Nat) : Int)) ∧ (((0 : Int) ≤ s.1.1) ∧ ((s.1.1 < (((List.length m.2.2) : Nat) : Int)) ∧ (((0 : Int) ≤ (List.getD m.2.1.2.1 (Int.toNat s.1.1) (0 : Int))) ∧ (((List.getD m.2.1.2.1 (Int.toNat s.1.1) (0 : Int)) ≤ (256 : Int)) ∧ (((0 : Int) ≤ s.1.1) ∧ ((s.1.1 < (((List.length m.2.1.2.1) : Nat) : Int)) ∧ (cnd ((((List.length (imageR (List.getD m.2.1.2.1 (Int.toNat s.1.1) (0 : Int)) (List.getD m.2.2 (Int.toNat s.1.1) ([] : List Int)))) : Nat) : Int) != (List.getD m.2.1.2.1 (Int.toNat s.1.1) (0 : Int))) (K (Bool.false, ((0 : Int), ()))) ((inK IntKind.i64 (s.1.1 + (1 : Int))) ∧ (next (((s.1.1 + (1 : Int)), ()), ())))))))))))) (K (Bool.true, ((0 : Int), ()))))))) (((0 : Int), ()), ())))
theorem w_spec_IsSurjectiveMap (x : denL c_spec_IsSurjectiveMap.args) (K : Bool × Int × Unit → Prop) : evF tab (lkp [(67, c_spec_l01Image), (61, c_spec_l19IsMap)]) (cutL [(6, 20)]) Try.f21 (bodyOf Try.f21) (.s .n (.s .n (.s (.s .n (.l [(4, (.d (.int .i64)))] [] [1] .n)) .n))) c_spec_IsSurjectiveMap x K = W_spec_IsSurjectiveMap x.1 K := by kernel_rfl
theorem k_spec_IsSurjectiveMap : okC Try.f21.ntmps (cutL [(6, 20)]) (bodyOf Try.f21) = true := by kernel_rfl
theorem m_spec_IsSurjectiveMap (m : SetMapD) (hok : allP (okL c_spec_IsSurjectiveMap.args (m, ()))) (hpre : allP (c_spec_IsSurjectiveMap.pre (m, ()))) : W_spec_IsSurjectiveMap m (fun r => r = c_spec_IsSurjectiveMap.res (m, ())) := by
  simp only [c_spec_IsSurjectiveMap, okL, T.oks, T.ok, ap, allP, true_and, and_true, implies_true] at hok hpre
  try dsimp only [T.den] at hok
  try dsimp only [T.den] at hpre
  unfold W_spec_IsSurjectiveMap
  have h1 := @natM_of m
  refine cnd_of (fun hx => ?_) (fun hx => ?_)
  · simp only [Bool.not_eq_true'] at hx
    simp only [c_spec_IsSurjectiveMap, hx]; rfl
  simp only [Bool.not_eq_false'] at hx
  have M := h1 hx
  have hc := M.c
  have hlz := M.s.lz
  have htz := M.t.lz
  rw [← hc] at htz
  have hlp := M.l
  have hob := (cat_shape M.s.cat).ob
  have res : ∀ b, surMR m = b → (b, 0, ()) = c_spec_IsSurjectiveMap.res (m, ()) := fun b h => by simp only [c_spec_IsSurjectiveMap, hx, h, Bool.true_and, if_true]
  refine loop_allB m.2.2.length (surX m) ?_ ?_
  · intro x next x0 x1 hno hyes _
    try dsimp only
    obtain ⟨z1, z2⟩ := M.t.size x0 (by rw [← hc]; omega)
    refine cnd_d (fun _ => ⟨x0, by omega, x0, x1, z1, by omega, x0, by omega, cnd_of (fun hx => res _ (hno ?_)) (fun hx => ⟨by rw [inK64]; (try dsimp only); omega, hyes ?_⟩)⟩) (fun h => absurd x1 h)
    · unfold surX; simpa using hx
    · unfold surX; simpa using hx
  · intro next h _
    exact cnd_d (fun h => absurd h (Int.lt_irrefl _)) (fun _ => res _ h)
theorem ct_spec_IsSurjectiveMap : CtOk Try.prog 21 c_spec_IsSurjectiveMap :=
  ct_by (Φ := lkp [(67, c_spec_l01Image), (61, c_spec_l19IsMap)]) (good_cons ct_spec_l01Image (good_cons ct_spec_l19IsMap good_nil)) tab_ok (by kernel_rfl) (fn := Try.f21) (c := bodyOf Try.f21) (by kernel_rfl) (by kernel_rfl) (by kernel_rfl) c_spec_IsSurjectiveMap rfl (.s .n (.s .n (.s (.s .n (.l [(4, (.d (.int .i64)))] [] [1] .n)) .n))) (cutL [(6, 20)]) (by kernel_rfl) (by kernel_rfl) k_spec_IsSurjectiveMap (by decide) (fun x K => W_spec_IsSurjectiveMap x.1 K) w_spec_IsSurjectiveMap (fun x h1 h2 => m_spec_IsSurjectiveMap x.1 h1 h2)
def c_laws_FnExactIsSurjectiveMap : Ct := ⟨[SetMapT], [true], fun x => [], [(false, (.fz .bool))], fun x => (true, ()), false, none⟩
def W_laws_FnExactIsSurjectiveMap (aM : SetMapD) (K : Bool × Unit → Prop) : Prop := (((-(4611404543450677248 : Int)) ≤ (1048576 : Int)) ∧ (cnd (decide ((szR (wR SetMapT aM) (1048576 : Int)) < (0 : Int))) (K (Bool.true, ())) (((wR SetMapT aM) ≤ 1099511627776) ∧ (((wR SetMapT aM) ≤ 1099511627776) ∧ (cnd ((((natMR aM) && (surMR aM)) != ((natMR aM) && (surMR aM))) || ((if (natMR aM) = true then (0 : Int) else (1 : Int)) != (if (natMR aM) = true then (0 : Int) else (1 : Int)))) (K (Bool.false, ())) (((wR SetMapT aM) ≤ 1099511627776) ∧ (cnd (!(eqR SetMapT aM aM)) (K (Bool.false, ())) (K (Bool.true, ())))))))))
theorem w_laws_FnExactIsSurjectiveMap (x : denL c_laws_FnExactIsSurjectiveMap.args) (K : Bool × Unit → Prop) : evF tab (lkp [(22, c_impl_IsSurjectiveMap), (20, c_laws_eqSetMap), (16, c_laws_szSetMap), (18, c_laws_toSetMap), (21, c_spec_IsSurjectiveMap)]) (cutL [(10, 5)]) Try.f5 (bodyOf Try.f5) .n c_laws_FnExactIsSurjectiveMap x K = W_laws_FnExactIsSurjectiveMap x.1 K := by kernel_rfl
theorem k_laws_FnExactIsSurjectiveMap : okC Try.f5.ntmps (cutL [(10, 5)]) (bodyOf Try.f5) = true := by kernel_rfl
theorem m_laws_FnExactIsSurjectiveMap (aM : SetMapD) (hok : allP (okL c_laws_FnExactIsSurjectiveMap.args (aM, ()))) (hpre : allP (c_laws_FnExactIsSurjectiveMap.pre (aM, ()))) : W_laws_FnExactIsSurjectiveMap aM (fun r => r = c_laws_FnExactIsSurjectiveMap.res (aM, ())) := by
  simp only [c_laws_FnExactIsSurjectiveMap, okL, T.oks, T.ok, ap, allP, true_and, and_true, implies_true] at hok hpre
  try dsimp only [T.den] at hok
  try dsimp only [T.den] at hpre
  unfold W_laws_FnExactIsSurjectiveMap
  generalize wR SetMapT aM = n1
  simp only [eqR_self]
  clear hok
  grind [cnd, nb_eq, inK64, szR, c_laws_FnExactIsSurjectiveMap]
theorem ct_laws_FnExactIsSurjectiveMap : CtOk Try.prog 5 c_laws_FnExactIsSurjectiveMap :=
  ct_by (Φ := lkp [(22, c_impl_IsSurjectiveMap), (20, c_laws_eqSetMap), (16, c_laws_szSetMap), (18, c_laws_toSetMap), (21, c_spec_IsSurjectiveMap)]) (good_cons ct_impl_IsSurjectiveMap (good_cons ct_laws_eqSetMap (good_cons ct_laws_szSetMap (good_cons ct_laws_toSetMap (good_cons ct_spec_IsSurjectiveMap good_nil))))) tab_ok (by kernel_rfl) (fn := Try.f5) (c := bodyOf Try.f5) (by kernel_rfl) (by kernel_rfl) (by kernel_rfl) c_laws_FnExactIsSurjectiveMap rfl .n (cutL [(10, 5)]) (by kernel_rfl) (by kernel_rfl) k_laws_FnExactIsSurjectiveMap (by decide) (fun x K => W_laws_FnExactIsSurjectiveMap x.1 K) w_laws_FnExactIsSurjectiveMap (fun x h1 h2 => m_laws_FnExactIsSurjectiveMap x.1 h1 h2)
end Go.Bm
