/- What the functions that FnExactUniversalElements reaches give: for each its contract, what it asks, and the proof. No condition. -/
import Derived.Test.YtjggbiglookngaaTab
namespace Go.Bm
open Go.Proofs
set_option maxRecDepth 100000
set_option maxHeartbeats 1000000
set_option linter.unusedVariables false
set_option linter.unusedSimpArgs false
def c_impl_Category_arrows : Ct := ⟨[(.pt CategoryT)], [false], fun x => [], [(false, (.fz (.int .i64)))], fun x => ((x.1.2.1.length : Int), ()), false, none⟩
def W_impl_Category_arrows (c : CategoryD) (K : Int × Unit → Prop) : Prop := (K ((((List.length c.2.1) : Nat) : Int), ()))
theorem w_impl_Category_arrows (x : denL c_impl_Category_arrows.args) (K : Int × Unit → Prop) : evF tab (lkp []) (cutL []) Try.f86 (bodyOf Try.f86) .n c_impl_Category_arrows x K = W_impl_Category_arrows x.1 K := by kernel_rfl
theorem k_impl_Category_arrows : okC Try.f86.ntmps (cutL []) (bodyOf Try.f86) = true := by kernel_rfl
theorem m_impl_Category_arrows (c : CategoryD) (hok : allP (okL c_impl_Category_arrows.args (c, ()))) (hpre : allP (c_impl_Category_arrows.pre (c, ()))) : W_impl_Category_arrows c (fun r => r = c_impl_Category_arrows.res (c, ())) := by
  simp only [c_impl_Category_arrows, okL, T.oks, T.ok, ap, allP, true_and, and_true, implies_true] at hok hpre
  try dsimp only [T.den] at hok
  try dsimp only [T.den] at hpre
  unfold W_impl_Category_arrows
  rfl
theorem ct_impl_Category_arrows : CtOk Try.prog 86 c_impl_Category_arrows :=
  ct_by (Φ := lkp []) good_nil tab_ok (by kernel_rfl) (fn := Try.f86) (c := bodyOf Try.f86) (by kernel_rfl) (by kernel_rfl) (by kernel_rfl) c_impl_Category_arrows rfl .n (cutL []) (by kernel_rfl) (by kernel_rfl) k_impl_Category_arrows (by decide) (fun x K => W_impl_Category_arrows x.1 K) w_impl_Category_arrows (fun x h1 h2 => m_impl_Category_arrows x.1 h1 h2)
def compR (c : CategoryD) (f g : Int) : Int := (c.2.2.2.2.getD f.toNat []).getD g.toNat 0

def c_impl_Category_then : Ct := ⟨[(.pt CategoryT), (.int .i64), (.int .i64)], [false, false, false], fun x => [0 ≤ x.2.1, x.2.1 < x.1.2.2.2.2.length, 0 ≤ x.2.2.1, x.2.2.1 < (x.1.2.2.2.2.getD x.2.1.toNat []).length], [(false, (.fz (.int .i64)))], fun x => (compR x.1 x.2.1 x.2.2.1, ()), false, none⟩
def W_impl_Category_then (c : CategoryD) (f : Int) (g : Int) (K : Int × Unit → Prop) : Prop := (((0 : Int) ≤ f) ∧ ((f < (((List.length c.2.2.2.2) : Nat) : Int)) ∧ (((0 : Int) ≤ g) ∧ ((g < (((List.length (List.getD c.2.2.2.2 (Int.toNat f) ([] : List Int))) : Nat) : Int)) ∧ (K ((List.getD (List.getD c.2.2.2.2 (Int.toNat f) ([] : List Int)) (Int.toNat g) (0 : Int)), ()))))))
theorem w_impl_Category_then (x : denL c_impl_Category_then.args) (K : Int × Unit → Prop) : evF tab (lkp []) (cutL []) Try.f89 (bodyOf Try.f89) .n c_impl_Category_then x K = W_impl_Category_then x.1 x.2.1 x.2.2.1 K := by kernel_rfl
theorem k_impl_Category_then : okC Try.f89.ntmps (cutL []) (bodyOf Try.f89) = true := by kernel_rfl
theorem m_impl_Category_then (c : CategoryD) (f : Int) (g : Int) (hok : allP (okL c_impl_Category_then.args (c, f, g, ()))) (hpre : allP (c_impl_Category_then.pre (c, f, g, ()))) : W_impl_Category_then c f g (fun r => r = c_impl_Category_then.res (c, f, g, ())) := by
  simp only [c_impl_Category_then, okL, T.oks, T.ok, ap, allP, true_and, and_true, implies_true] at hok hpre
  try dsimp only [T.den] at hok
  try dsimp only [T.den] at hpre
  unfold W_impl_Category_then
  exact ⟨hpre.1, hpre.2.1, hpre.2.2.1, hpre.2.2.2, rfl⟩
theorem ct_impl_Category_then : CtOk Try.prog 89 c_impl_Category_then :=
  ct_by (Φ := lkp []) good_nil tab_ok (by kernel_rfl) (fn := Try.f89) (c := bodyOf Try.f89) (by kernel_rfl) (by kernel_rfl) (by kernel_rfl) c_impl_Category_then rfl .n (cutL []) (by kernel_rfl) (by kernel_rfl) k_impl_Category_then (by decide) (fun x K => W_impl_Category_then x.1 x.2.1 x.2.2.1 K) w_impl_Category_then (fun x h1 h2 => m_impl_Category_then x.1 x.2.1 x.2.2.1 h1 h2)
def c_impl_Category_ends : Ct := ⟨[(.pt CategoryT), (.int .i64)], [false, false], fun x => [0 ≤ x.2.1, x.2.1 < x.1.2.1.length, x.2.1 < x.1.2.2.1.length], [(true, (.fz endsT))], fun x => (((x.1.2.1.getD x.2.1.toNat 0, x.1.2.2.1.getD x.2.1.toNat 0) : Int × Int), ()), false, none⟩
def W_impl_Category_ends (c : CategoryD) (f : Int) (K : endsD × Unit → Prop) : Prop := (((0 : Int) ≤ f) ∧ ((f < (((List.length c.2.1) : Nat) : Int)) ∧ (((0 : Int) ≤ f) ∧ ((f < (((List.length c.2.2.1) : Nat) : Int)) ∧ (K (((List.getD c.2.1 (Int.toNat f) (0 : Int)), (List.getD c.2.2.1 (Int.toNat f) (0 : Int))), ()))))))
theorem w_impl_Category_ends (x : denL c_impl_Category_ends.args) (K : endsD × Unit → Prop) : evF tab (lkp []) (cutL [(1, 15)]) Try.f110 (bodyOf Try.f110) .n c_impl_Category_ends x K = W_impl_Category_ends x.1 x.2.1 K := by kernel_rfl
theorem k_impl_Category_ends : okC Try.f110.ntmps (cutL [(1, 15)]) (bodyOf Try.f110) = true := by kernel_rfl
theorem m_impl_Category_ends (c : CategoryD) (f : Int) (hok : allP (okL c_impl_Category_ends.args (c, f, ()))) (hpre : allP (c_impl_Category_ends.pre (c, f, ()))) : W_impl_Category_ends c f (fun r => r = c_impl_Category_ends.res (c, f, ())) := by
  simp only [c_impl_Category_ends, okL, T.oks, T.ok, ap, allP, true_and, and_true, implies_true] at hok hpre
  try dsimp only [T.den] at hok
  try dsimp only [T.den] at hpre
  unfold W_impl_Category_ends
  exact ⟨hpre.1, hpre.2.1, hpre.1, hpre.2.2, rfl⟩
theorem ct_impl_Category_ends : CtOk Try.prog 110 c_impl_Category_ends :=
  ct_by (Φ := lkp []) good_nil tab_ok (by kernel_rfl) (fn := Try.f110) (c := bodyOf Try.f110) (by kernel_rfl) (by kernel_rfl) (by kernel_rfl) c_impl_Category_ends rfl .n (cutL [(1, 15)]) (by kernel_rfl) (by kernel_rfl) k_impl_Category_ends (by decide) (fun x K => W_impl_Category_ends x.1 x.2.1 K) w_impl_Category_ends (fun x h1 h2 => m_impl_Category_ends x.1 x.2.1 h1 h2)
def c_impl_inRange : Ct := ⟨[(.int .i64), (.int .i64), (.int .i64)], [false, false, false], fun x => [], [(false, (.fz .bool))], fun x => (inR x.1 x.2.1 x.2.2.1, ()), false, none⟩
def W_impl_inRange (n : Int) (low : Int) (high : Int) (K : Bool × Unit → Prop) : Prop := (K (((decide (low ≤ n)) && (decide (n ≤ high))), ()))
theorem w_impl_inRange (x : denL c_impl_inRange.args) (K : Bool × Unit → Prop) : evF tab (lkp []) (cutL []) Try.f132 (bodyOf Try.f132) .n c_impl_inRange x K = W_impl_inRange x.1 x.2.1 x.2.2.1 K := by kernel_rfl
theorem k_impl_inRange : okC Try.f132.ntmps (cutL []) (bodyOf Try.f132) = true := by kernel_rfl
theorem m_impl_inRange (n : Int) (low : Int) (high : Int) (hok : allP (okL c_impl_inRange.args (n, low, high, ()))) (hpre : allP (c_impl_inRange.pre (n, low, high, ()))) : W_impl_inRange n low high (fun r => r = c_impl_inRange.res (n, low, high, ())) := by
  simp only [c_impl_inRange, okL, T.oks, T.ok, ap, allP, true_and, and_true, implies_true] at hok hpre
  try dsimp only [T.den] at hok
  try dsimp only [T.den] at hpre
  unfold W_impl_inRange
  grind [cnd, nb_eq, inK64, c_impl_inRange, inR]
theorem ct_impl_inRange : CtOk Try.prog 132 c_impl_inRange :=
  ct_by (Φ := lkp []) good_nil tab_ok (by kernel_rfl) (fn := Try.f132) (c := bodyOf Try.f132) (by kernel_rfl) (by kernel_rfl) (by kernel_rfl) c_impl_inRange rfl .n (cutL []) (by kernel_rfl) (by kernel_rfl) k_impl_inRange (by decide) (fun x K => W_impl_inRange x.1 x.2.1 x.2.2.1 K) w_impl_inRange (fun x h1 h2 => m_impl_inRange x.1 x.2.1 x.2.2.1 h1 h2)
def c_impl_within : Ct := ⟨[(.sl (.int .i64)), (.int .i64)], [false, false], fun x => [inK .i64 (x.2.1 - 1)], [(false, (.fz .bool))], fun x => (withinR x.1 x.2.1, ()), false, none⟩
def W_impl_within (list : List Int) (n : Int) (K : Bool × Unit → Prop) : Prop := (loopW (S := ((Int × Unit) × Unit)) (fun s => (fun next => ((inK IntKind.i64 s.1.1) → (cnd (decide (s.1.1 < (((List.length list) : Nat) : Int))) (((0 : Int) ≤ s.1.1) ∧ ((s.1.1 < (((List.length list) : Nat) : Int)) ∧ ((inK IntKind.i64 (n - (1 : Int))) ∧ (cnd (!(inR (List.getD list (Int.toNat s.1.1) (0 : Int)) (0 : Int) (n - (1 : Int)))) (K (Bool.false, ())) ((inK IntKind.i64 (s.1.1 + (1 : Int))) ∧ (next (((s.1.1 + (1 : Int)), ()), ()))))))) (K (Bool.true, ())))))) (((0 : Int), ()), ()))
theorem w_impl_within (x : denL c_impl_within.args) (K : Bool × Unit → Prop) : evF tab (lkp [(132, c_impl_inRange)]) (cutL []) Try.f85 (bodyOf Try.f85) (.s .n (.s (.s .n (.l [(9, (.d (.int .i64)))] [] [1, 7, 8] .n)) .n)) c_impl_within x K = W_impl_within x.1 x.2.1 K := by kernel_rfl
theorem k_impl_within : okC Try.f85.ntmps (cutL []) (bodyOf Try.f85) = true := by kernel_rfl
theorem m_impl_within (list : List Int) (n : Int) (hok : allP (okL c_impl_within.args (list, n, ()))) (hpre : allP (c_impl_within.pre (list, n, ()))) : W_impl_within list n (fun r => r = c_impl_within.res (list, n, ())) := by
  simp only [c_impl_within, okL, T.oks, T.ok, ap, allP, true_and, and_true, implies_true] at hok hpre
  try dsimp only [T.den] at hok
  try dsimp only [T.den] at hpre
  unfold W_impl_within
  refine loop_of (fun (s : ((Int × Unit) × Unit)) => 0 ≤ s.1.1 ∧ s.1.1 ≤ list.length ∧ withinR list n = withinR (list.drop s.1.1.toNat) n) (fun (s : ((Int × Unit) × Unit)) => (list.length - s.1.1).toNat) ?_ (by simp)
  rintro ⟨⟨i, _⟩, _⟩ next ⟨h0, h1, h2⟩ hn hin
  simp only at h0 h1 h2 hn ⊢
  refine cnd_d (fun hc => ?_) (fun hc => ?_)
  · rw [drop_c list 0 h0 hc] at h2
    simp only [withinR, List.all_cons] at h2
    grind [cnd, nb_eq, inK64, c_impl_within, withinR]
  · rw [drop_n list (by omega)] at h2
    grind [cnd, nb_eq, inK64, c_impl_within, withinR]
theorem ct_impl_within : CtOk Try.prog 85 c_impl_within :=
  ct_by (Φ := lkp [(132, c_impl_inRange)]) (good_cons ct_impl_inRange good_nil) tab_ok (by kernel_rfl) (fn := Try.f85) (c := bodyOf Try.f85) (by kernel_rfl) (by kernel_rfl) (by kernel_rfl) c_impl_within rfl (.s .n (.s (.s .n (.l [(9, (.d (.int .i64)))] [] [1, 7, 8] .n)) .n)) (cutL []) (by kernel_rfl) (by kernel_rfl) k_impl_within (by decide) (fun x K => W_impl_within x.1 x.2.1 K) w_impl_within (fun x h1 h2 => m_impl_within x.1 x.2.1 h1 h2)
/-- what a cell of the table must be -/
def cellQ (c : CategoryD) (f g v : Int) : Bool :=
  if c.2.2.1.getD f.toNat 0 = c.2.1.getD g.toNat 0 then decide (0 ≤ v ∧ v < c.2.1.length ∧ c.2.1.getD v.toNat 0 = c.2.1.getD f.toNat 0 ∧ c.2.2.1.getD v.toNat 0 = c.2.2.1.getD g.toNat 0)
  else decide (v = -1)
def cellR (c : CategoryD) (f g : Int) : Bool := cellQ c f g (compR c f g)
structure ShapeP (c : CategoryD) : Prop where
  ob : 0 ≤ c.1 ∧ c.1 ≤ 8
  m : c.2.1.length ≤ 40
  lt : c.2.2.1.length = c.2.1.length
  fr : withinR c.2.1 c.1 = true
  to : withinR c.2.2.1 c.1 = true
  li : (c.2.2.2.1.length : Int) = c.1
  ids : withinR c.2.2.2.1 c.2.1.length = true
  lc : c.2.2.2.2.length = c.2.1.length
  idt : ∀ x : Int, 0 ≤ x → x < c.1 → c.2.1.getD (c.2.2.2.1.getD x.toNat 0).toNat 0 = x ∧ c.2.2.1.getD (c.2.2.2.1.getD x.toNat 0).toNat 0 = x
  row : ∀ f : Int, 0 ≤ f → f < c.2.1.length → (c.2.2.2.2.getD f.toNat []).length = c.2.1.length
  cell : ∀ f g : Int, 0 ≤ f → f < c.2.1.length → 0 ≤ g → g < c.2.1.length → cellR c f g = true
def shapeR (c : CategoryD) : Bool := inR c.1 0 8 && decide (c.2.1.length ≤ 40) && decide (c.2.2.1.length = c.2.1.length) && withinR c.2.1 c.1 && withinR c.2.2.1 c.1 && decide ((c.2.2.2.1.length : Int) = c.1) && withinR c.2.2.2.1 c.2.1.length &&
  decide (c.2.2.2.2.length = c.2.1.length) && allB c.1.toNat (fun x => decide (c.2.1.getD (c.2.2.2.1.getD x.toNat 0).toNat 0 = x ∧ c.2.2.1.getD (c.2.2.2.1.getD x.toNat 0).toNat 0 = x)) &&
  allB c.2.1.length (fun f => decide ((c.2.2.2.2.getD f.toNat []).length = c.2.1.length)) && allB c.2.1.length (fun f => allB c.2.1.length fun g => cellR c f g)
theorem shape_iff {c : CategoryD} : shapeR c = true ↔ ShapeP c := by
  simp only [shapeR, Bool.and_eq_true, decide_eq_true_eq, inR, allB_iff]
  constructor
  · rintro ⟨⟨⟨⟨⟨⟨⟨⟨⟨⟨h0, h1⟩, h2⟩, h3⟩, h4⟩, h5⟩, h6⟩, h7⟩, h8⟩, h9⟩, h10⟩
    exact ⟨h0, h1, h2, h3, h4, h5, h6, h7, fun x a b => h8 x a (by omega), h9, fun f g a b d e => h10 f a b g d e⟩
  · intro h
    exact ⟨⟨⟨⟨⟨⟨⟨⟨⟨⟨h.ob, h.m⟩, h.lt⟩, h.fr⟩, h.to⟩, h.li⟩, h.ids⟩, h.lc⟩, fun x a b => h.idt x a (by have := h.ob; omega)⟩, h.row⟩, fun f a b g d e => h.cell f g a b d e⟩
theorem shape_f {c : CategoryD} (h : ¬ ShapeP c) : shapeR c = false := by
  cases hs : shapeR c with
  | false => rfl
  | true => exact absurd (shape_iff.1 hs) h
theorem shape_t {c : CategoryD} (h : ShapeP c) : shapeR c = true := shape_iff.2 h

def c_impl_Category_isShape : Ct := ⟨[(.pt CategoryT)], [false], fun x => [], [(false, (.fz .bool))], fun x => (shapeR x.1, ()), false, none⟩
def W_impl_Category_isShape (c : CategoryD) (K : Bool × Unit → Prop) : Prop := ((((((!(inR c.1 (0 : Int) (8 : Int))) || (decide ((40 : Int) < (((List.length c.2.1) : Nat) : Int)))) || ((((List.length c.2.2.1) : Nat) : Int) != (((List.length c.2.1) : Nat) : Int))) = Bool.false) → (inK IntKind.i64 (c.1 - (1 : Int)))) ∧ (((((((!(inR c.1 (0 : Int) (8 : Int))) || (decide ((40 : Int) < (((List.length c.2.1) : Nat) : Int)))) || ((((List.length c.2.2.1) : Nat) : Int) != (((List.length c.2.1) : Nat) : Int))) || (!(withinR c.2.1 c.1))) = Bool.false) → (inK IntKind.i64 (c.1 - (1 : Int)))) ∧ (cnd (((((!(inR c.1 (0 : Int) (8 : Int))) || (decide ((40 : Int) < (((List.length c.2.1) : Nat) : Int)))) || ((((List.length c.2.2.1) : Nat) : Int) != (((List.length c.2.1) : Nat) : Int))) || (!(withinR c.2.1 c.1))) || (!(withinR c.2.2.1 c.1))) (K (Bool.false, ())) (((((((List.length c.2.2.2.1) : Nat) : Int) != c.1) = Bool.false) → (inK IntKind.i64 ((((List.length c.2.1) : Nat) : Int) - (1 : Int)))) ∧ (cnd ((((((List.length c.2.2.2.1) : Nat) : Int) != c.1) || (!(withinR c.2.2.2.1 (((List.length c.2.1) : Nat) : Int)))) || ((((List.length c.2.2.2.2) : Nat) : Int) != (((List.length c.2.1) : Nat) : Int))) (K (Bool.false, ())) (loopW (S := ((Int × Unit) × Unit)) (fun s => (fun next => ((inK IntKind.i64 s.1.1) → (cnd (decide (s.1.1 < (((List.length c.2.2.2.1) : Nat) : Int))) (((0 : Int) ≤ s.1.1) ∧ ((s.1.1 < (((List.length c.2.2.2.1) : Nat) : Int)) ∧ (((0 : Int) ≤ (List.getD c.2.2.2.1 (Int.toNat s.1.1) (0 : Int))) ∧ (((List.getD c.2.2.2.1 (Int.toNat s.1.1) (0 : Int)) < (((List.length c.2.1) : Nat) : Int)) ∧ (((List.getD c.2.2.2.1 (Int.toNat s.1.1) (0 : Int)) < (((List.length c.2.2.1) : Nat) : Int)) ∧ (cnd (!(((List.getD c.2.1 (Int.toNat (List.getD c.2.2.2.1 (Int.toNat s.1.1) (0 : Int))) (0 : Int)) == s.1.1) && ((List.getD c.2.2.1 (Int.toNat (List.getD c.2.2.2.1 (Int.toNat s.1.1) (0 : Int))) (0 : Int)) == s.1.1))) (K (Bool.false, ())) ((inK IntKind.i64 (s.1.1 + (1 : Int))) ∧ (next (((s.1.1 + (1 : Int)), ()), ()))))))))) (loopW (S := ((Int × Unit) × Unit)) (fun s1 => (fun next1 => ((inK IntKind.i64 s1.1.1) → (cnd (decide (s1.1.1 < (((List.length c.2.2.2.2) : Nat) : Int))) (((0 : Int) ≤ s1.1.1) ∧ ((s1.1.1 < (((List.length c.2.2.2.2) : Nat) : Int)) ∧ (cnd ((((List.length (List.getD c.2.2.2.2 (Int.toNat s1.1.1) ([] : List Int))) : Nat) : Int) != (((List.length c.2.1) : Nat) : Int)) (K (Bool.false, ())) (loopW (S := ((Int × Unit) × Unit)) (fun s2 => (fun next2 => ((inK IntKind.i64 s2.1.1) → (cnd (decide (s2.1.1 < (((List.length (List.getD c.2.2.2.2 (Int.toNat s1.1.1) ([] : List Int))) : Nat) : Int))) (joinW (S := (Unit × Unit)) (fun s3 => ((inK IntKind.i64 (s2.1.1 + (1 : Int))) ∧ (next2 (((s2.1.1 + (1 : Int)), ()), ())))) (fun k => (((0 : Int) ≤ s2.1.1) ∧ ((s2.1.1 < (((List.length (List.getD c.2.2.2.2 (Int.toNat s1.1.1) ([] : List Int))) : Nat) : Int)) ∧ (((0 : Int) ≤ s1.1.1) ∧ ((s1.1.1 < (((List.length c.2.2.1) : Nat) : Int)) ∧ (((0 : Int) ≤ s2.1.1) ∧ ((s2.1.1 < (((List.length c.2.1) : Nat) : Int)) ∧ (cnd ((List.getD c.2.2.1 (Int.toNat s1.1.1) (0 : Int)) != (List.getD c.2.1 (Int.toNat s2.1.1) (0 : Int))) (cnd ((List.getD (List.getD c.2.2.2.2 (Int.toNat s1.1.1) ([] : List Int)) (Int.toNat s2.1.1) (0 : Int)) != (-(1 : Int))) (K (Bool.false, ())) (k ((), ()))) ((inK IntKind.i64 ((((List.length c.2.1) : Nat) : Int) - (1 : Int))) ∧ ((((!(inR (List.getD (List.getD c.2.2.2.2 (Int.toNat s1.1.1) ([] : List Int)) (Int.toNat s2.1.1) (0 : Int)) (0 : Int) ((((List.length c.2.1) : Nat) : Int) - (1 : Int)))) = Bool.false) → (((List.getD (List.getD c.2.2.2.2 (Int.toNat s1.1.1) ([] : List Int)) (Int.toNat s2.1.1) (0 : Int)) < (((List.length c.2.1) : Nat) : Int)) ∧ (((List.getD (List.getD c.2.2.2.2 (Int.toNat s1.1.1) ([] : List Int)) (Int.toNat s2.1.1) (0 : Int)) < (((List.length c.2.2.1) : Nat) : Int)) ∧ ((0 : Int) ≤ (List.getD (List.getD c.2.2.2.2 (Int.toNat s1.1.1) ([] : List Int)) (Int.toNat s2.1.1) (0 : Int)))))) ∧ ((((!(inR (List.getD (List.getD c.2.2.2.2 (Int.toNat s1.1.1) ([] : List Int)) (Int.toNat s2.1.1) (0 : Int)) (0 : Int) ((((List.length c.2.1) : Nat) : Int) - (1 : Int)))) = Bool.false) → ((s1.1.1 < (((List.length c.2.1) : Nat) : Int)) ∧ ((0 : Int) ≤ s1.1.1))) ∧ ((((!(inR (List.getD (List.getD c.2.2.2.2 (Int.toNat s1.1.1) ([] : List Int)) (Int.toNat s2.1.1) (0 : Int)) (0 : Int) ((((List.length c.2.1) : Nat) : Int) - (1 : Int)))) = Bool.false) → ((s2.1.1 < (((List.length c.2.2.1) : Nat) : Int)) ∧ ((0 : Int) ≤ s2.1.1))) ∧ (cnd ((!(inR (List.getD (List.getD c.2.2.2.2 (Int.toNat s1.1.1) ([] : List Int)) (Int.toNat s2.1.1) (0 : Int)) (0 : Int) ((((List.length c.2.1) : Nat) : Int) - (1 : Int)))) || (!(((List.getD c.2.1 (Int.toNat (List.getD (List.getD c.2.2.2.2 (Int.toNat s1.1.1) ([] : List Int)) (Int.toNat s2.1.1) (0 : Int))) (0 : Int)) == (List.getD c.2.1 (Int.toNat s1.1.1) (0 : Int))) && ((List.getD c.2.2.1 (Int.toNat (List.getD (List.getD c.2.2.2.2 (Int.toNat s1.1.1) ([] : List Int)) (Int.toNat s2.1.1) (0 : Int))) (0 : Int)) == (List.getD c.2.2.1 (Int.toNat s2.1.1) (0 : Int)))))) (K (Bool.false, ())) (k ((), ())))))))))))))))) ((inK IntKind.i64 (s1.1.1 + (1 : Int))) ∧ (next1 (((s1.1.1 + (1 : Int)), ()), ()))))))) (((0 : Int), ()), ()))))) (K (Bool.true, ())))))) (((0 : Int), ()), ())))))) (((0 : Int), ()), ())))))))
theorem w_impl_Category_isShape (x : denL c_impl_Category_isShape.args) (K : Bool × Unit → Prop) : evF tab (lkp [(86, c_impl_Category_arrows), (110, c_impl_Category_ends), (132, c_impl_inRange), (85, c_impl_within)]) (cutL [(2, 43), (20, 15), (4, 28), (23, 26)]) Try.f98 (bodyOf Try.f98) (.s .n (.s .n (.s .n (.s .n (.s (.s .n (.l [(88, (.d (.int .i64)))] [] [0, 3, 86, 87] .n)) (.s (.s .n (.l [(106, (.d (.int .i64)))] [] [0, 3, 104, 105] (.s .n (.s .n (.s (.s .n (.s .n (.s .n (.l [(117, (.d (.int .i64)))] [] [0, 3, 6, 104, 105, 106, 115, 116] (.s .n (.s .n (.s (.j [] [] [0, 3, 6, 104, 105, 106, 115, 116, 117] .n) .n))))))) .n))))) .n)))))) c_impl_Category_isShape x K = W_impl_Category_isShape x.1 K := by kernel_rfl
theorem k_impl_Category_isShape : okC Try.f98.ntmps (cutL [(2, 43), (20, 15), (4, 28), (23, 26)]) (bodyOf Try.f98) = true := by kernel_rfl
theorem m_impl_Category_isShape (c : CategoryD) (hok : allP (okL c_impl_Category_isShape.args (c, ()))) (hpre : allP (c_impl_Category_isShape.pre (c, ()))) : W_impl_Category_isShape c (fun r => r = c_impl_Category_isShape.res (c, ())) := by
  simp only [c_impl_Category_isShape, okL, T.oks, T.ok, ap, allP, true_and, and_true, implies_true] at hok hpre
  try dsimp only [T.den] at hok
  try dsimp only [T.den] at hpre
  unfold W_impl_Category_isShape
  refine ⟨by grind [cnd, nb_eq, inK64, inR], by grind [cnd, nb_eq, inK64, inR], cnd_of (fun hc => ?_) (fun hc => ⟨by rw [inK64]; have := hok.2.1.1; grind [cnd, nb_eq, inK64], cnd_of (fun hd => ?_) (fun hd => ?_)⟩)⟩
  · simp only [c_impl_Category_isShape]; rw [shape_f]; intro h; have h1 := h.ob; have h2 := h.m; have h3 := h.lt; have h4 := h.fr; have h5 := h.to; simp only [inR] at hc; grind [cnd, nb_eq, inK64]
  · simp only [c_impl_Category_isShape]; rw [shape_f]; intro h; have h1 := h.li; have h2 := h.ids; have h3 := h.lc; grind [cnd, nb_eq, inK64]
  simp only [inR, Bool.or_eq_false_iff, Bool.not_eq_false', Bool.and_eq_true, decide_eq_true_eq, decide_eq_false_iff_not, bne_eq_false_iff_eq] at hc hd
  obtain ⟨⟨⟨⟨hob, hm⟩, hlt⟩, hfr⟩, hto⟩ := hc
  obtain ⟨⟨hli, hids⟩, hlc⟩ := hd
  have bad : ¬ ShapeP c → (false, ()) = c_impl_Category_isShape.res (c, ()) := fun h => by simp only [c_impl_Category_isShape]; rw [shape_f h]
  refine loop_ix (n := c.2.2.2.1.length) (fun x => ∀ y : Int, 0 ≤ y → y < x → c.2.1.getD (c.2.2.2.1.getD y.toNat 0).toNat 0 = y ∧ c.2.2.1.getD (c.2.2.2.1.getD y.toNat 0).toNat 0 = y) (by omega) (by intro y h0 h1; omega) ?_ ?_
  · intro x next h0 h1 hP hn hin
    have hb := within_iff.1 hids x h0 h1
    try dsimp only
    refine cnd_d (fun _ => ⟨h0, h1, hb.1, hb.2, by omega, cnd_of (fun hx => bad fun h => ?_) (fun hx => ?_)⟩) (fun h => absurd h1 h)
    · have := h.idt x h0 (by omega)
      rw [this.1, this.2] at hx
      simp at hx
    · simp only [Bool.not_eq_false', Bool.and_eq_true, beq_iff_eq] at hx
      refine ⟨by rw [inK64]; (try dsimp only); omega, hn fun y y0 y1 => ?_⟩
      by_cases e : y = x
      · rw [e]; exact hx
      · exact hP y y0 (by omega)
  intro next hidt hin
  refine cnd_d (fun h => absurd h (by dsimp only; omega)) (fun _ => ?_)
  refine loop_ix (n := c.2.2.2.2.length) (fun f => ∀ f' : Int, 0 ≤ f' → f' < f → (c.2.2.2.2.getD f'.toNat []).length = c.2.1.length ∧ ∀ g : Int, 0 ≤ g → g < c.2.1.length → cellR c f' g = true) (by omega) (by intro y h0 h1; omega) ?_ ?_
  · intro f next h0 h1 hP hn hin
    try dsimp only
    refine cnd_d (fun _ => ⟨h0, h1, cnd_of (fun hx => bad fun h => ?_) (fun hx => ?_)⟩) (fun h => absurd h1 h)
    · have := h.row f h0 (by omega)
      rw [this] at hx
      simp at hx
    simp only [bne_eq_false_iff_eq] at hx
    refine loop_ix (n := (c.2.2.2.2.getD f.toNat []).length) (fun g => ∀ g' : Int, 0 ≤ g' → g' < g → cellR c f g' = true) (by omega) (by intro y h0 h1; omega) ?_ ?_
    · intro g next3 g0 g1 hP3 hn3 hin3
      try dsimp only
      refine cnd_d (fun _ => ?_) (fun h => absurd g1 h)
      refine join_of (fun _ => cellR c f g = true) (fun _ hcell => ⟨by rw [inK64]; (try dsimp only); omega, hn3 fun g' y0 y1 => ?_⟩) (fun k hk => ?_)
      · by_cases e : g' = g
        · rw [e]; exact hcell
        · exact hP3 g' y0 (by omega)
      have hcell : ∀ b, cellR c f g = b → b = false → ¬ ShapeP c := fun b h1 h2 h => by
        have := h.cell f g h0 (by omega) g0 (by omega)
        rw [h1, h2] at this; cases this
      have hk' := hk ((), ())
      obtain ⟨v, hv⟩ : ∃ v, (c.2.2.2.2.getD f.toNat []).getD g.toNat 0 = v := ⟨_, rfl⟩
      have hR : cellR c f g = cellQ c f g v := by unfold cellR compR; rw [hv]
      rw [hR] at hk'
      rw [hR] at hcell
      rw [hv]
      clear hP3 hn3 hP hn hk hR hv hidt hok
      refine ⟨g0, g1, h0, by omega, g0, by omega, cnd_of (fun ha => cnd_of (fun hb => bad ?_) (fun hb => hk' ?_)) (fun ha => ⟨by rw [inK64]; (try dsimp only); omega, fun hv => ?_, fun _ => ⟨by omega, h0⟩, fun _ => ⟨by omega, g0⟩, cnd_of (fun hb => bad ?_) (fun hb => hk' ?_)⟩)⟩
      · exact hcell _ rfl (by grind [cnd, nb_eq, inK64, cellQ])
      · grind [cnd, nb_eq, inK64, cellQ]
      · simp only [inR, Bool.not_eq_false', Bool.and_eq_true, decide_eq_true_eq] at hv; omega
      · exact hcell _ rfl (by simp only [inR] at hb; grind [cnd, nb_eq, inK64, cellQ])
      · simp only [inR] at hb; grind [cnd, nb_eq, inK64, cellQ]
    · intro next3 hP3 hin3
      refine cnd_d (fun h => absurd h (by dsimp only; omega)) (fun _ => ⟨by rw [inK64]; (try dsimp only); omega, hn fun f' y0 y1 => ?_⟩)
      by_cases e : f' = f
      · rw [e]; exact ⟨by omega, fun g g0 g1 => hP3 g g0 (by omega)⟩
      · exact hP f' y0 (by omega)
  · intro next2 hP2 hin2
    refine cnd_d (fun h => absurd h (by dsimp only; omega)) (fun _ => ?_)
    simp only [c_impl_Category_isShape]
    rw [shape_t ⟨hob, by omega, by omega, hfr, hto, by omega, hids, by omega, fun x a b => hidt x a (by omega), fun f a b => (hP2 f a (by omega)).1, fun f g a b d e => (hP2 f a (by omega)).2 g d e⟩]
theorem ct_impl_Category_isShape : CtOk Try.prog 98 c_impl_Category_isShape :=
  ct_by (Φ := lkp [(86, c_impl_Category_arrows), (110, c_impl_Category_ends), (132, c_impl_inRange), (85, c_impl_within)]) (good_cons ct_impl_Category_arrows (good_cons ct_impl_Category_ends (good_cons ct_impl_inRange (good_cons ct_impl_within good_nil)))) tab_ok (by kernel_rfl) (fn := Try.f98) (c := bodyOf Try.f98) (by kernel_rfl) (by kernel_rfl) (by kernel_rfl) c_impl_Category_isShape rfl (.s .n (.s .n (.s .n (.s .n (.s (.s .n (.l [(88, (.d (.int .i64)))] [] [0, 3, 86, 87] .n)) (.s (.s .n (.l [(106, (.d (.int .i64)))] [] [0, 3, 104, 105] (.s .n (.s .n (.s (.s .n (.s .n (.s .n (.l [(117, (.d (.int .i64)))] [] [0, 3, 6, 104, 105, 106, 115, 116] (.s .n (.s .n (.s (.j [] [] [0, 3, 6, 104, 105, 106, 115, 116, 117] .n) .n))))))) .n))))) .n)))))) (cutL [(2, 43), (20, 15), (4, 28), (23, 26)]) (by kernel_rfl) (by kernel_rfl) k_impl_Category_isShape (by decide) (fun x K => W_impl_Category_isShape x.1 K) w_impl_Category_isShape (fun x h1 h2 => m_impl_Category_isShape x.1 h1 h2)
theorem ShapeP.frm {c : CategoryD} (h : ShapeP c) {f : Int} (h0 : 0 ≤ f) (h1 : f < c.2.1.length) : 0 ≤ c.2.1.getD f.toNat 0 ∧ c.2.1.getD f.toNat 0 < c.1 ∧ 0 ≤ c.2.2.1.getD f.toNat 0 ∧ c.2.2.1.getD f.toNat 0 < c.1 := by
  have a := within_iff.1 h.fr f h0 h1
  have b := within_iff.1 h.to f h0 (by have := h.lt; omega)
  exact ⟨a.1, a.2, b.1, b.2⟩
theorem ShapeP.idn {c : CategoryD} (h : ShapeP c) {x : Int} (h0 : 0 ≤ x) (h1 : x < c.1) : 0 ≤ c.2.2.2.1.getD x.toNat 0 ∧ c.2.2.2.1.getD x.toNat 0 < c.2.1.length ∧ c.2.1.getD (c.2.2.2.1.getD x.toNat 0).toNat 0 = x ∧ c.2.2.1.getD (c.2.2.2.1.getD x.toNat 0).toNat 0 = x := by
  have a := within_iff.1 h.ids x h0 (by have := h.li; omega)
  have b := h.idt x h0 h1
  exact ⟨a.1, a.2, b.1, b.2⟩
theorem ShapeP.yes {c : CategoryD} (h : ShapeP c) {f g : Int} (h0 : 0 ≤ f) (h1 : f < c.2.1.length) (g0 : 0 ≤ g) (g1 : g < c.2.1.length) (e : c.2.2.1.getD f.toNat 0 = c.2.1.getD g.toNat 0) :
    0 ≤ compR c f g ∧ compR c f g < c.2.1.length ∧ c.2.1.getD (compR c f g).toNat 0 = c.2.1.getD f.toNat 0 ∧ c.2.2.1.getD (compR c f g).toNat 0 = c.2.2.1.getD g.toNat 0 := by
  have := h.cell f g h0 h1 g0 g1
  unfold cellR cellQ at this
  rw [if_pos e] at this
  simpa using this
theorem ShapeP.no {c : CategoryD} (h : ShapeP c) {f g : Int} (h0 : 0 ≤ f) (h1 : f < c.2.1.length) (g0 : 0 ≤ g) (g1 : g < c.2.1.length) (e : c.2.2.1.getD f.toNat 0 ≠ c.2.1.getD g.toNat 0) : compR c f g = -1 := by
  have := h.cell f g h0 h1 g0 g1
  unfold cellR cellQ at this
  rw [if_neg e] at this
  simpa using this
theorem ShapeP.comp {c : CategoryD} (h : ShapeP c) {f g : Int} (h0 : 0 ≤ f) (h1 : f < c.2.1.length) (g0 : 0 ≤ g) (g1 : g < c.2.1.length) : 0 ≤ compR c f g ↔ c.2.2.1.getD f.toNat 0 = c.2.1.getD g.toNat 0 := by
  constructor
  · intro h2
    by_cases e : c.2.2.1.getD f.toNat 0 = c.2.1.getD g.toNat 0
    · exact e
    · have := h.no h0 h1 g0 g1 e; omega
  · intro e; exact (h.yes h0 h1 g0 g1 e).1
def faultI (c : CategoryD) (f : Int) : Option (Int × Int × Int × Int) :=
  if compR c (c.2.2.2.1.getD (c.2.1.getD f.toNat 0).toNat 0) f ≠ f ∨ compR c f (c.2.2.2.1.getD (c.2.2.1.getD f.toNat 0).toNat 0) ≠ f then some (1, f, 0, 0) else none
def faultH (c : CategoryD) (f g h : Int) : Option (Int × Int × Int × Int) :=
  if c.2.2.1.getD g.toNat 0 = c.2.1.getD h.toNat 0 ∧ compR c (compR c f g) h ≠ compR c f (compR c g h) then some (2, f, g, h) else none
def faultG (c : CategoryD) (f g : Int) : Option (Int × Int × Int × Int) :=
  if c.2.2.1.getD f.toNat 0 = c.2.1.getD g.toNat 0 then scanR (faultH c f g) c.2.1.length 0 else none
def faultF (c : CategoryD) (f : Int) : Option (Int × Int × Int × Int) := scanR (faultG c f) c.2.1.length 0
def faultR (c : CategoryD) : Int × Int × Int × Int :=
  orR (scanR (faultI c) c.2.1.length 0) (orR (scanR (faultF c) c.2.1.length 0) (0, 0, 0, 0))

def c_impl_Category_fault : Ct := ⟨[(.pt CategoryT)], [false], fun x => [ShapeP x.1], [(false, (.fz (.int .i64))), (false, (.fz (.int .i64))), (false, (.fz (.int .i64))), (false, (.fz (.int .i64)))], fun x => ((faultR x.1).1, (faultR x.1).2.1, (faultR x.1).2.2.1, (faultR x.1).2.2.2, ()), false, none⟩
def W_impl_Category_fault (c : CategoryD) (K : Int × Int × Int × Int × Unit → Prop) : Prop := (loopW (S := ((Int × Unit) × Unit)) (fun s => (fun next => ((inK IntKind.i64 s.1.1) → (cnd (decide (s.1.1 < (((List.length c.2.1) : Nat) : Int))) (((0 : Int) ≤ s.1.1) ∧ ((s.1.1 < (((List.length c.2.1) : Nat) : Int)) ∧ (((0 : Int) ≤ (List.getD c.2.1 (Int.toNat s.1.1) (0 : Int))) ∧ (((List.getD c.2.1 (Int.toNat s.1.1) (0 : Int)) < (((List.length c.2.2.2.1) : Nat) : Int)) ∧ (((0 : Int) ≤ (List.getD c.2.2.2.1 (Int.toNat (List.getD c.2.1 (Int.toNat s.1.1) (0 : Int))) (0 : Int))) ∧ (((List.getD c.2.2.2.1 (Int.toNat (List.getD c.2.1 (Int.toNat s.1.1) (0 : Int))) (0 : Int)) < (((List.length c.2.2.2.2) : Nat) : Int)) ∧ (((0 : Int) ≤ s.1.1) ∧ ((s.1.1 < (((List.length (List.getD c.2.2.2.2 (Int.toNat (List.getD c.2.2.2.1 (Int.toNat (List.getD c.2.1 (Int.toNat s.1.1) (0 : Int))) (0 : Int))) ([] : List Int))) : Nat) : Int)) ∧ (((((compR c (List.getD c.2.2.2.1 (Int.toNat (List.getD c.2.1 (Int.toNat s.1.1) (0 : Int))) (0 : Int)) s.1.1) != s.1.1) = Bool.false) → ((s.1.1 < (((List.length c.2.2.1) : Nat) : Int)) ∧ ((0 : Int) ≤ s.1.1))) ∧ (((((compR c (List.getD c.2.2.2.1 (Int.toNat (List.getD c.2.1 (Int.toNat s.1.1) (0 : Int))) (0 : Int)) s.1.1) != s.1.1) = Bool.false) → (((List.getD c.2.2.1 (Int.toNat s.1.1) (0 : Int)) < (((List.length c.2.2.2.1) : Nat) : Int)) ∧ ((0 : Int) ≤ (List.getD c.2.2.1 (Int.toNat s.1.1) (0 : Int))))) ∧ (((((compR c (List.getD c.2.2.2.1 (Int.toNat (List.getD c.2.1 (Int.toNat s.1.1) (0 : Int))) (0 : Int)) s.1.1) != s.1.1) = Bool.false) → ((s.1.1 < (((List.length c.2.2.2.2) : Nat) : Int)) ∧ (((0 : Int) ≤ (List.getD c.2.2.2.1 (Int.toNat (List.getD c.2.2.1 (Int.toNat s.1.1) (0 : Int))) (0 : Int))) ∧ (((List.getD c.2.2.2.1 (Int.toNat (List.getD c.2.2.1 (Int.toNat s.1.1) (0 : Int))) (0 : Int)) < (((List.length (List.getD c.2.2.2.2 (Int.toNat s.1.1) ([] : List Int))) : Nat) : Int)) ∧ ((0 : Int) ≤ s.1.1))))) ∧ (cnd (((compR c (List.getD c.2.2.2.1 (Int.toNat (List.getD c.2.1 (Int.toNat s.1.1) (0 : Int))) (0 : Int)) s.1.1) != s.1.1) || ((compR c s.1.1 (List.getD c.2.2.2.1 (Int.toNat (List.getD c.2.2.1 (Int.toNat s.1.1) (0 : Int))) (0 : Int))) != s.1.1)) (K ((1 : Int), (s.1.1, ((0 : Int), ((0 : Int), ()))))) ((inK IntKind.i64 (s.1.1 + (1 : Int))) ∧ (next (((s.1.1 + (1 : Int)), ()), ()))))))))))))))) (loopW (S := ((Int × Unit) × Unit)) (fun s1 => (fun next1 => ((inK IntKind.i64 s1.1.1) → (cnd (decide (s1.1.1 < (((List.length c.2.1) : Nat) : Int))) (loopW (S := ((Int × Unit) × Unit)) (fun s2 => (fun next2 => ((inK IntKind.i64 s2.1.1) → (cnd (decide (s2.1.1 < (((List.length c.2.1) : Nat) : Int))) (joinW (S := (Unit × Unit)) (fun s3 => ((inK IntKind.i64 (s2.1.1 + (1 : Int))) ∧ (next2 (((s2.1.1 + (1 : Int)), ()), ())))) (fun k => (((0 : Int) ≤ s1.1.1) ∧ ((s1.1.1 < (((List.length c.2.2.2.2) : Nat) : Int)) ∧ (((0 : Int) ≤ s2.1.1) ∧ ((s2.1.1 < (((List.length (List.getD c.2.2.2.2 (Int.toNat s1.1.1) ([] : List Int))) : Nat) : Int)) ∧ (cnd (decide ((compR c s1.1.1 s2.1.1) < (0 : Int))) (k ((), ())) (loopW (S := ((Int × Unit) × Unit)) (fun s3 => (fun next3 => ((inK IntKind.i64 s3.1.1) → (cnd (decide (s3.1.1 < (((List.length c.2.1) : Nat) : Int))) (((0 : Int) ≤ s2.1.1) ∧ ((s2.1.1 < (((List.length c.2.2.2.2) : Nat) : Int)) ∧ (((0 : Int) ≤ s3.1.1) ∧ ((s3.1.1 < (((List.length (List.getD c.2.2.2.2 (Int.toNat s2.1.1) ([] : List Int))) : Nat) : Int)) ∧ ((((decide ((0 : Int) ≤ (compR c s2.1.1 s3.1.1))) = Bool.true) → ((s1.1.1 < (((List.length c.2.2.2.2) : Nat) : Int)) ∧ (((0 : Int) ≤ s2.1.1) ∧ ((s2.1.1 < (((List.length (List.getD c.2.2.2.2 (Int.toNat s1.1.1) ([] : List Int))) : Nat) : Int)) ∧ ((0 : Int) ≤ s1.1.1))))) ∧ ((((decide ((0 : Int) ≤ (compR c s2.1.1 s3.1.1))) = Bool.true) → (((compR c s1.1.1 s2.1.1) < (((List.length c.2.2.2.2) : Nat) : Int)) ∧ (((0 : Int) ≤ s3.1.1) ∧ ((s3.1.1 < (((List.length (List.getD c.2.2.2.2 (Int.toNat (compR c s1.1.1 s2.1.1)) ([] : List Int))) : Nat) : Int)) ∧ ((0 : Int) ≤ (compR c s1.1.1 s2.1.1)))))) ∧ ((((decide ((0 : Int) ≤ (compR c s2.1.1 s3.1.1))) = Bool.true) → ((s2.1.1 < (((List.length c.2.2.2.2) : Nat) : Int)) ∧ (((0 : Int) ≤ s3.1.1) ∧ ((s3.1.1 < (((List.length (List.getD c.2.2.2.2 (Int.toNat s2.1.1) ([] : List Int))) : Nat) : Int)) ∧ ((0 : Int) ≤ s2.1.1))))) ∧ ((((decide ((0 : Int) ≤ (compR c s2.1.1 s3.1.1))) = Bool.true) → ((s1.1.1 < (((List.length c.2.2.2.2) : Nat) : Int)) ∧ (((0 : Int) ≤ (compR c s2.1.1 s3.1.1)) ∧ (((compR c s2.1.1 s3.1.1) < (((List.length (List.getD c.2.2.2.2 (Int.toNat s1.1.1) ([] : List Int))) : Nat) : Int)) ∧ ((0 : Int) ≤ s1.1.1))))) ∧ (cnd ((decide ((0 : Int) ≤ (compR c s2.1.1 s3.1.1))) && ((compR c (compR c s1.1.1 s2.1.1) s3.1.1) != (compR c s1.1.1 (compR c s2.1.1 s3.1.1)))) (K ((2 : Int), (s1.1.1, (s2.1.1, (s3.1.1, ()))))) ((inK IntKind.i64 (s3.1.1 + (1 : Int))) ∧ (next3 (((s3.1.1 + (1 : Int)), ()), ())))))))))))) (k ((), ())))))) (((0 : Int), ()), ()))))))))) ((inK IntKind.i64 (s1.1.1 + (1 : Int))) ∧ (next1 (((s1.1.1 + (1 : Int)), ()), ()))))))) (((0 : Int), ()), ())) (K ((0 : Int), ((0 : Int), ((0 : Int), ((0 : Int), ()))))))))) (((0 : Int), ()), ())))))) (((0 : Int), ()), ()))
theorem w_impl_Category_fault (x : denL c_impl_Category_fault.args) (K : Int × Int × Int × Int × Unit → Prop) : evF tab (lkp [(86, c_impl_Category_arrows), (89, c_impl_Category_then)]) (cutL [(5, 38)]) Try.f99 (bodyOf Try.f99) (.s .n (.s .n (.s (.s .n (.l [(7, (.d (.int .i64)))] [] [0, 6] .n)) (.s (.s .n (.l [(8, (.d (.int .i64)))] [] [0, 6] (.s .n (.s (.s .n (.l [(9, (.d (.int .i64)))] [] [0, 6, 8] (.s .n (.s (.j [] [] [0, 6, 8, 9] (.s .n (.s .n (.l [(10, (.d (.int .i64)))] [] [0, 6, 8, 9] .n)))) .n)))) .n)))) .n)))) c_impl_Category_fault x K = W_impl_Category_fault x.1 K := by kernel_rfl
theorem k_impl_Category_fault : okC Try.f99.ntmps (cutL [(5, 38)]) (bodyOf Try.f99) = true := by kernel_rfl
theorem m_impl_Category_fault (c : CategoryD) (hok : allP (okL c_impl_Category_fault.args (c, ()))) (hpre : allP (c_impl_Category_fault.pre (c, ()))) : W_impl_Category_fault c (fun r => r = c_impl_Category_fault.res (c, ())) := by
  simp only [c_impl_Category_fault, okL, T.oks, T.ok, ap, allP, true_and, and_true, implies_true] at hok hpre
  try dsimp only [T.den] at hok
  try dsimp only [T.den] at hpre
  unfold W_impl_Category_fault
  have S : ShapeP c := hpre
  have hlt := S.lt
  have hli := S.li
  have hlc := S.lc
  have hmm := S.m
  have resq : ∀ a b d e, faultR c = (a, b, d, e) → (a, b, d, e, ()) = c_impl_Category_fault.res (c, ()) := fun a b d e h => by simp only [c_impl_Category_fault, h]
  refine loop_ix (n := c.2.1.length) (fun f => scanR (faultI c) c.2.1.length 0 = scanR (faultI c) ((c.2.1.length : Int) - f).toNat f) (by omega) scan_0 ?_ ?_
  · intro f next h0 h1 hP hn hin
    try dsimp only
    obtain ⟨a1, a2, a3, a4⟩ := S.frm h0 h1
    obtain ⟨b1, b2, _, _⟩ := S.idn a1 a2
    obtain ⟨d1, d2, _, _⟩ := S.idn a3 a4
    have r1 := S.row _ b1 b2
    have r2 := S.row f h0 h1
    refine cnd_d (fun _ => ⟨h0, h1, by omega, by omega, by omega, by omega, h0, by omega, fun _ => by omega, fun _ => by omega, fun _ => by omega, cnd_of (fun hx => resq _ _ _ _ ?_) (fun hx => ⟨by rw [inK64]; (try dsimp only); omega, hn ?_⟩)⟩) (fun h => absurd h1 h)
    · have : faultI c f = some (1, f, 0, 0) := by unfold faultI; rw [if_pos]; simpa using hx
      unfold faultR; rw [hP, scan_s h1 this]; rfl
    · have : faultI c f = none := by unfold faultI; rw [if_neg]; simpa using hx
      rw [hP, scan_c h1 this]
  intro next hI hin
  rw [scan_n] at hI
  refine cnd_d (fun h => absurd h (by dsimp only; omega)) (fun _ => ?_)
  have hF : faultR c = orR (scanR (faultF c) c.2.1.length 0) (0, 0, 0, 0) := by unfold faultR; rw [hI]; rfl
  refine loop_ix (n := c.2.1.length) (fun f => scanR (faultF c) c.2.1.length 0 = scanR (faultF c) ((c.2.1.length : Int) - f).toNat f) (by omega) scan_0 ?_ ?_
  · intro f next h0 h1 hP hn hin
    try dsimp only
    refine cnd_d (fun _ => ?_) (fun h => absurd h1 h)
    have r1 := S.row f h0 h1
    refine loop_ix (n := c.2.1.length) (fun g => faultF c f = scanR (faultG c f) ((c.2.1.length : Int) - g).toNat g) (by omega) scan_0 ?_ ?_
    · intro g next3 g0 g1 hP3 hn3 hin3
      try dsimp only
      refine cnd_d (fun _ => ?_) (fun h => absurd g1 h)
      have r2 := S.row g g0 g1
      refine join_of (fun _ => faultG c f g = none) (fun _ hG => ⟨by rw [inK64]; (try dsimp only); omega, hn3 (by rw [hP3, scan_c g1 hG])⟩) (fun k hk => ?_)
      have hk' := hk ((), ())
      refine ⟨by omega, by omega, by omega, by omega, cnd_d (fun hx => hk' ?_) (fun hx => ?_)⟩
      · unfold faultG; rw [if_neg]; intro e; have := (S.comp h0 h1 g0 g1).2 e; omega
      have hfg := (S.comp h0 h1 g0 g1).1 (by omega)
      obtain ⟨y1, y2, _, _⟩ := S.yes h0 h1 g0 g1 hfg
      refine loop_ix (n := c.2.1.length) (fun h => faultG c f g = scanR (faultH c f g) ((c.2.1.length : Int) - h).toNat h) (by omega) (by unfold faultG; rw [if_pos hfg]; exact scan_0) ?_ ?_
      · intro h next4 i0 i1 hP4 hn4 hin4
        try dsimp only
        refine cnd_d (fun _ => ?_) (fun h => absurd i1 h)
        have r3 := S.row _ y1 y2
        have cgh := S.comp g0 g1 i0 i1
        have ygh := @ShapeP.yes c S g h g0 g1 i0 i1
        refine ⟨by omega, by omega, by omega, by omega, fun _ => by omega, fun _ => by omega, fun _ => by omega, fun he => ?_, cnd_of (fun hx => resq _ _ _ _ ?_) (fun hx => ⟨by rw [inK64]; (try dsimp only); omega, hn4 ?_⟩)⟩
        · have := ygh (cgh.1 (by simpa using he)); omega
        · have : faultH c f g h = some (2, f, g, h) := by unfold faultH; rw [if_pos]; rw [← cgh]; simpa using hx
          have e1 : faultG c f g = some (2, f, g, h) := by rw [hP4, scan_s i1 this]
          have e2 : faultF c f = some (2, f, g, h) := by rw [hP3, scan_s g1 e1]
          rw [hF, hP, scan_s h1 e2]; rfl
        · have : faultH c f g h = none := by unfold faultH; rw [if_neg]; rw [← cgh]; simpa using hx
          rw [hP4, scan_c i1 this]
      · intro next4 hP4 hin4
        rw [scan_n] at hP4
        exact cnd_d (fun h => absurd h (by dsimp only; omega)) (fun _ => hk' hP4)
    · intro next3 hP3 hin3
      rw [scan_n] at hP3
      exact cnd_d (fun h => absurd h (by dsimp only; omega)) (fun _ => ⟨by rw [inK64]; (try dsimp only); omega, hn (by rw [hP, scan_c h1 hP3])⟩)
  · intro next2 hP2 hin2
    rw [scan_n] at hP2
    refine cnd_d (fun h => absurd h (by dsimp only; omega)) (fun _ => resq _ _ _ _ ?_)
    rw [hF, hP2]; rfl
theorem ct_impl_Category_fault : CtOk Try.prog 99 c_impl_Category_fault :=
  ct_by (Φ := lkp [(86, c_impl_Category_arrows), (89, c_impl_Category_then)]) (good_cons ct_impl_Category_arrows (good_cons ct_impl_Category_then good_nil)) tab_ok (by kernel_rfl) (fn := Try.f99) (c := bodyOf Try.f99) (by kernel_rfl) (by kernel_rfl) (by kernel_rfl) c_impl_Category_fault rfl (.s .n (.s .n (.s (.s .n (.l [(7, (.d (.int .i64)))] [] [0, 6] .n)) (.s (.s .n (.l [(8, (.d (.int .i64)))] [] [0, 6] (.s .n (.s (.s .n (.l [(9, (.d (.int .i64)))] [] [0, 6, 8] (.s .n (.s (.j [] [] [0, 6, 8, 9] (.s .n (.s .n (.l [(10, (.d (.int .i64)))] [] [0, 6, 8, 9] .n)))) .n)))) .n)))) .n)))) (cutL [(5, 38)]) (by kernel_rfl) (by kernel_rfl) k_impl_Category_fault (by decide) (fun x K => W_impl_Category_fault x.1 K) w_impl_Category_fault (fun x h1 h2 => m_impl_Category_fault x.1 h1 h2)
def catR (c : CategoryD) : Bool := shapeR c && (faultR c).1 == 0

def c_impl_Category_isCategory : Ct := ⟨[(.pt CategoryT)], [false], fun x => [], [(false, (.fz .bool))], fun x => (catR x.1, ()), false, none⟩
def W_impl_Category_isCategory (c : CategoryD) (K : Bool × Unit → Prop) : Prop := (cnd (!(shapeR c)) (K (Bool.false, ())) ((ShapeP c) ∧ (K (((faultR c).1 == (0 : Int)), ()))))
theorem w_impl_Category_isCategory (x : denL c_impl_Category_isCategory.args) (K : Bool × Unit → Prop) : evF tab (lkp [(99, c_impl_Category_fault), (98, c_impl_Category_isShape)]) (cutL []) Try.f60 (bodyOf Try.f60) .n c_impl_Category_isCategory x K = W_impl_Category_isCategory x.1 K := by kernel_rfl
theorem k_impl_Category_isCategory : okC Try.f60.ntmps (cutL []) (bodyOf Try.f60) = true := by kernel_rfl
theorem m_impl_Category_isCategory (c : CategoryD) (hok : allP (okL c_impl_Category_isCategory.args (c, ()))) (hpre : allP (c_impl_Category_isCategory.pre (c, ()))) : W_impl_Category_isCategory c (fun r => r = c_impl_Category_isCategory.res (c, ())) := by
  simp only [c_impl_Category_isCategory, okL, T.oks, T.ok, ap, allP, true_and, and_true, implies_true] at hok hpre
  try dsimp only [T.den] at hok
  try dsimp only [T.den] at hpre
  unfold W_impl_Category_isCategory
  simp only [c_impl_Category_isCategory, catR]
  have := @shape_iff c
  grind [cnd, nb_eq, inK64]
theorem ct_impl_Category_isCategory : CtOk Try.prog 60 c_impl_Category_isCategory :=
  ct_by (Φ := lkp [(99, c_impl_Category_fault), (98, c_impl_Category_isShape)]) (good_cons ct_impl_Category_fault (good_cons ct_impl_Category_isShape good_nil)) tab_ok (by kernel_rfl) (fn := Try.f60) (c := bodyOf Try.f60) (by kernel_rfl) (by kernel_rfl) (by kernel_rfl) c_impl_Category_isCategory rfl .n (cutL []) (by kernel_rfl) (by kernel_rfl) k_impl_Category_isCategory (by decide) (fun x K => W_impl_Category_isCategory x.1 K) w_impl_Category_isCategory (fun x h1 h2 => m_impl_Category_isCategory x.1 h1 h2)
def c_impl_isMapOf : Ct := ⟨[(.sl (.int .i64)), (.int .i64), (.int .i64)], [false, false, false], fun x => [inK .i64 (x.2.2.1 - 1)], [(false, (.fz .bool))], fun x => ((decide ((x.1.length : Int) = x.2.1) && withinR x.1 x.2.2.1), ()), false, none⟩
def W_impl_isMapOf (f : List Int) (m : Int) (n : Int) (K : Bool × Unit → Prop) : Prop := (((((((List.length f) : Nat) : Int) == m) = Bool.true) → (inK IntKind.i64 (n - (1 : Int)))) ∧ (K ((((((List.length f) : Nat) : Int) == m) && (withinR f n)), ())))
theorem w_impl_isMapOf (x : denL c_impl_isMapOf.args) (K : Bool × Unit → Prop) : evF tab (lkp [(85, c_impl_within)]) (cutL []) Try.f130 (bodyOf Try.f130) .n c_impl_isMapOf x K = W_impl_isMapOf x.1 x.2.1 x.2.2.1 K := by kernel_rfl
theorem k_impl_isMapOf : okC Try.f130.ntmps (cutL []) (bodyOf Try.f130) = true := by kernel_rfl
theorem m_impl_isMapOf (f : List Int) (m : Int) (n : Int) (hok : allP (okL c_impl_isMapOf.args (f, m, n, ()))) (hpre : allP (c_impl_isMapOf.pre (f, m, n, ()))) : W_impl_isMapOf f m n (fun r => r = c_impl_isMapOf.res (f, m, n, ())) := by
  simp only [c_impl_isMapOf, okL, T.oks, T.ok, ap, allP, true_and, and_true, implies_true] at hok hpre
  try dsimp only [T.den] at hok
  try dsimp only [T.den] at hpre
  unfold W_impl_isMapOf
  simp only [c_impl_isMapOf]
  grind [cnd, nb_eq, inK64]
theorem ct_impl_isMapOf : CtOk Try.prog 130 c_impl_isMapOf :=
  ct_by (Φ := lkp [(85, c_impl_within)]) (good_cons ct_impl_within good_nil) tab_ok (by kernel_rfl) (fn := Try.f130) (c := bodyOf Try.f130) (by kernel_rfl) (by kernel_rfl) (by kernel_rfl) c_impl_isMapOf rfl .n (cutL []) (by kernel_rfl) (by kernel_rfl) k_impl_isMapOf (by decide) (fun x K => W_impl_isMapOf x.1 x.2.1 x.2.2.1 K) w_impl_isMapOf (fun x h1 h2 => m_impl_isMapOf x.1 x.2.1 x.2.2.1 h1 h2)
def objCodeR (c : CategoryD) (l : List Int) : Int := if catR c = true then (if withinR l c.1 = true then 0 else 2) else 1
theorem cat_shape {c : CategoryD} (h : catR c = true) : ShapeP c := by
  simp only [catR, Bool.and_eq_true] at h; exact shape_iff.1 h.1

def sfActR (f : SetFunctorD) (a : Int) : Bool := decide (((f.2.2.getD a.toNat []).length : Int) = f.2.1.getD (f.1.2.1.getD a.toNat 0).toNat 0) && withinR (f.2.2.getD a.toNat []) (f.2.1.getD (f.1.2.2.1.getD a.toNat 0).toNat 0)
def sfShapeR (f : SetFunctorD) : Bool := catR f.1 && decide ((f.2.1.length : Int) = f.1.1) && withinR f.2.1 17 && decide (f.2.2.length = f.1.2.1.length) && allB f.2.2.length (sfActR f)
structure SfP (f : SetFunctorD) : Prop where
  cat : catR f.1 = true
  lz : (f.2.1.length : Int) = f.1.1
  wz : withinR f.2.1 17 = true
  la : f.2.2.length = f.1.2.1.length
  act : ∀ a : Int, 0 ≤ a → a < f.1.2.1.length → ((f.2.2.getD a.toNat []).length : Int) = f.2.1.getD (f.1.2.1.getD a.toNat 0).toNat 0 ∧ withinR (f.2.2.getD a.toNat []) (f.2.1.getD (f.1.2.2.1.getD a.toNat 0).toNat 0) = true
theorem sf_iff {f : SetFunctorD} : sfShapeR f = true ↔ SfP f := by
  simp only [sfShapeR, sfActR, Bool.and_eq_true, decide_eq_true_eq, allB_iff]
  constructor
  · rintro ⟨⟨⟨⟨h1, h2⟩, h3⟩, h4⟩, h5⟩
    exact ⟨h1, h2, h3, h4, fun a a0 a1 => h5 a a0 (by omega)⟩
  · rintro ⟨h1, h2, h3, h4, h5⟩
    exact ⟨⟨⟨⟨h1, h2⟩, h3⟩, h4⟩, fun a a0 a1 => h5 a a0 (by omega)⟩
theorem SfP.size {f : SetFunctorD} (S : SfP f) {x : Int} (h0 : 0 ≤ x) (h1 : x < f.1.1) : 0 ≤ f.2.1.getD x.toNat 0 ∧ f.2.1.getD x.toNat 0 ≤ 16 := by
  have := within_iff.1 S.wz x h0 (by have := S.lz; omega)
  exact ⟨this.1, by omega⟩
/-- what an arrow does to an element -/
def actR (f : SetFunctorD) (a e : Int) : Int := (f.2.2.getD a.toNat []).getD e.toNat 0
theorem SfP.at_ {f : SetFunctorD} (S : SfP f) {a e : Int} (h0 : 0 ≤ a) (h1 : a < f.1.2.1.length) (e0 : 0 ≤ e) (e1 : e < f.2.1.getD (f.1.2.1.getD a.toNat 0).toNat 0) :
    e < (f.2.2.getD a.toNat []).length ∧ 0 ≤ actR f a e ∧ actR f a e < f.2.1.getD (f.1.2.2.1.getD a.toNat 0).toNat 0 := by
  obtain ⟨k1, k2⟩ := S.act a h0 h1
  have := within_iff.1 k2 e e0 (by omega)
  exact ⟨by omega, this.1, this.2⟩

def c_impl_SetFunctor_isShape : Ct := ⟨[(.pt SetFunctorT)], [false], fun x => [], [(false, (.fz .bool))], fun x => (sfShapeR x.1, ()), false, none⟩
def W_impl_SetFunctor_isShape (f : SetFunctorD) (K : Bool × Unit → Prop) : Prop := (((((!(catR f.1)) || ((((List.length f.2.1) : Nat) : Int) != f.1.1)) = Bool.false) → (inK IntKind.i64 ((17 : Int) - (1 : Int)))) ∧ (cnd ((((!(catR f.1)) || ((((List.length f.2.1) : Nat) : Int) != f.1.1)) || (!(withinR f.2.1 (17 : Int)))) || ((((List.length f.2.2) : Nat) : Int) != (((List.length f.1.2.1) : Nat) : Int))) (K (Bool.false, ())) (loopW (S := ((Int × Unit) × Unit)) (fun s => (fun next => ((inK IntKind.i64 s.1.1) → (cnd (decide (s.1.1 < (((List.length f.2.2) : Nat) : Int))) (((0 : Int) ≤ s.1.1) ∧ ((s.1.1 < (((List.length f.2.2) : Nat) : Int)) ∧ (((0 : Int) ≤ s.1.1) ∧ ((s.1.1 < (((List.length f.1.2.1) : Nat) : Int)) ∧ (((0 : Int) ≤ (List.getD f.1.2.1 (Int.toNat s.1.1) (0 : Int))) ∧ (((List.getD f.1.2.1 (Int.toNat s.1.1) (0 : Int)) < (((List.length f.2.1) : Nat) : Int)) ∧ (((0 : Int) ≤ s.1.1) ∧ ((s.1.1 < (((List.length f.1.2.2.1) : Nat) : Int)) ∧ (((0 : Int) ≤ (List.getD f.1.2.2.1 (Int.toNat s.1.1) (0 : Int))) ∧ (((List.getD f.1.2.2.1 (Int.toNat s.1.1) (0 : Int)) < (((List.length f.2.1) : Nat) : Int)) ∧ ((inK IntKind.i64 ((List.getD f.2.1 (Int.toNat (List.getD f.1.2.2.1 (Int.toNat s.1.1) (0 : Int))) (0 : Int)) - (1 : Int))) ∧ (cnd (!((decide ((((List.length (List.getD f.2.2 (Int.toNat s.1.1) ([] : List Int))) : Nat) : Int) = (List.getD f.2.1 (Int.toNat (List.getD f.1.2.1 (Int.toNat s.1.1) (0 : Int))) (0 : Int)))) && (withinR (List.getD f.2.2 (Int.toNat s.1.1) ([] : List Int)) (List.getD f.2.1 (Int.toNat (List.getD f.1.2.2.1 (Int.toNat s.1.1) (0 : Int))) (0 : Int))))) (K (Bool.false, ())) ((inK IntKind.i64 (s.1.1 + (1 : Int))) ∧ (next (((s.1.1 + (1 : Int)), ()), ()))))))))))))))) (K (Bool.true, ())))))) (((0 : Int), ()), ()))))
theorem w_impl_SetFunctor_isShape (x : denL c_impl_SetFunctor_isShape.args) (K : Bool × Unit → Prop) : evF tab (lkp [(86, c_impl_Category_arrows), (60, c_impl_Category_isCategory), (130, c_impl_isMapOf), (85, c_impl_within)]) (cutL [(2, 33), (7, 29)]) Try.f77 (bodyOf Try.f77) (.s .n (.s .n (.s .n (.s (.s .n (.l [(47, (.d (.int .i64)))] [] [0, 3, 45, 46] .n)) .n)))) c_impl_SetFunctor_isShape x K = W_impl_SetFunctor_isShape x.1 K := by kernel_rfl
theorem k_impl_SetFunctor_isShape : okC Try.f77.ntmps (cutL [(2, 33), (7, 29)]) (bodyOf Try.f77) = true := by kernel_rfl
theorem m_impl_SetFunctor_isShape (f : SetFunctorD) (hok : allP (okL c_impl_SetFunctor_isShape.args (f, ()))) (hpre : allP (c_impl_SetFunctor_isShape.pre (f, ()))) : W_impl_SetFunctor_isShape f (fun r => r = c_impl_SetFunctor_isShape.res (f, ())) := by
  simp only [c_impl_SetFunctor_isShape, okL, T.oks, T.ok, ap, allP, true_and, and_true, implies_true] at hok hpre
  try dsimp only [T.den] at hok
  try dsimp only [T.den] at hpre
  unfold W_impl_SetFunctor_isShape
  have hv : sfShapeR f = (catR f.1 && decide ((f.2.1.length : Int) = f.1.1) && withinR f.2.1 17 && decide (f.2.2.length = f.1.2.1.length) && allB f.2.2.length (sfActR f)) := rfl
  have res : ∀ b, sfShapeR f = b → (b, ()) = c_impl_SetFunctor_isShape.res (f, ()) := fun b h => by simp only [c_impl_SetFunctor_isShape, h]
  refine ⟨fun _ => by rw [inK64]; (try dsimp only); omega, cnd_of (fun hc => res _ ?_) (fun hc => ?_)⟩
  · rw [hv]; revert hc
    cases catR f.1 <;> cases withinR f.2.1 17 <;> simp
    omega
  simp only [Bool.or_eq_false_iff, Bool.not_eq_false', bne_eq_false_iff_eq] at hc
  obtain ⟨⟨⟨h1, h2⟩, h3⟩, h4⟩ := hc
  have h4' : f.2.2.length = f.1.2.1.length := by omega
  rw [h1, decide_eq_true h2, h3, decide_eq_true h4'] at hv
  simp only [Bool.true_and] at hv
  have S := cat_shape h1
  have hlt := S.lt
  have hm := S.m
  refine loop_allB f.2.2.length (sfActR f) ?_ ?_
  · intro a next a0 a1 hno hyes _
    try dsimp only
    obtain ⟨k1, k2, k3, k4⟩ := S.frm a0 (by omega)
    have hz := within_iff.1 h3 _ k3 (by omega)
    refine cnd_d (fun _ => ⟨a0, a1, a0, by omega, k1, by omega, a0, by omega, k3, by omega, by rw [inK64]; (try dsimp only); omega, cnd_of (fun hx => res _ ?_) (fun hx => ⟨by rw [inK64]; (try dsimp only); omega, hyes ?_⟩)⟩) (fun h => absurd a1 h)
    · rw [hv]; refine hno ?_; unfold sfActR; revert hx; cases withinR (f.2.2.getD a.toNat []) (f.2.1.getD (f.1.2.2.1.getD a.toNat 0).toNat 0) <;> simp
    · unfold sfActR; simpa using hx
  · intro next h _
    exact cnd_d (fun h => absurd h (Int.lt_irrefl _)) (fun _ => res _ (by rw [hv, h]))
theorem ct_impl_SetFunctor_isShape : CtOk Try.prog 77 c_impl_SetFunctor_isShape :=
  ct_by (Φ := lkp [(86, c_impl_Category_arrows), (60, c_impl_Category_isCategory), (130, c_impl_isMapOf), (85, c_impl_within)]) (good_cons ct_impl_Category_arrows (good_cons ct_impl_Category_isCategory (good_cons ct_impl_isMapOf (good_cons ct_impl_within good_nil)))) tab_ok (by kernel_rfl) (fn := Try.f77) (c := bodyOf Try.f77) (by kernel_rfl) (by kernel_rfl) (by kernel_rfl) c_impl_SetFunctor_isShape rfl (.s .n (.s .n (.s .n (.s (.s .n (.l [(47, (.d (.int .i64)))] [] [0, 3, 45, 46] .n)) .n)))) (cutL [(2, 33), (7, 29)]) (by kernel_rfl) (by kernel_rfl) k_impl_SetFunctor_isShape (by decide) (fun x K => W_impl_SetFunctor_isShape x.1 K) w_impl_SetFunctor_isShape (fun x h1 h2 => m_impl_SetFunctor_isShape x.1 h1 h2)
def pairR (x : Int) (n : Nat) : List (List Int) := tabN n fun e => [x, e]
def pairsR (f : SetFunctorD) : List (List Int) := (tabN f.2.1.length fun x => pairR x (f.2.1.getD x.toNat 0).toNat).flatten

def c_impl_SetFunctor_elementPairs : Ct := ⟨[(.pt SetFunctorT)], [false], fun x => [x.1.2.1.length ≤ 8, withinR x.1.2.1 17 = true], [(false, (.sl (.sl (.fz (.int .i64)))))], fun x => (pairsR x.1, ()), false, none⟩
def W_impl_SetFunctor_elementPairs (f : SetFunctorD) (K : (List (List Int)) × Unit → Prop) : Prop := (loopW (S := ((Unit × (Int × Unit)) × ((List (List Int)) × Unit))) (fun s => (fun next => ((inK IntKind.i64 s.1.2.1) → ((T.ok (T.sl (T.sl (T.int IntKind.i64))) s.2.1) → (cnd (decide (s.1.2.1 < (((List.length f.2.1) : Nat) : Int))) (((0 : Int) ≤ s.1.2.1) ∧ ((s.1.2.1 < (((List.length f.2.1) : Nat) : Int)) ∧ (loopW (S := ((Unit × (Int × Unit)) × ((List (List Int)) × Unit))) (fun s1 => (fun next1 => ((inK IntKind.i64 s1.1.2.1) → ((T.ok (T.sl (T.sl (T.int IntKind.i64))) s1.2.1) → (cnd (decide (s1.1.2.1 < (List.getD f.2.1 (Int.toNat s.1.2.1) (0 : Int)))) ((room (List.length s1.2.1) (List.length ((s.1.2.1 :: (s1.1.2.1 :: ([] : List Int))) :: ([] : List (List Int)))) 24) ∧ ((inK IntKind.i64 (s1.1.2.1 + (1 : Int))) ∧ (next1 (((), ((s1.1.2.1 + (1 : Int)), ())), ((s1.2.1 ++ ((s.1.2.1 :: (s1.1.2.1 :: ([] : List Int))) :: ([] : List (List Int)))), ()))))) ((inK IntKind.i64 (s.1.2.1 + (1 : Int))) ∧ (next (((), ((s.1.2.1 + (1 : Int)), ())), (s1.2.1, ()))))))))) (((), ((0 : Int), ())), (s.2.1, ()))))) (K (s.2.1, ()))))))) (((), ((0 : Int), ())), (([] : List (List Int)), ())))
theorem w_impl_SetFunctor_elementPairs (x : denL c_impl_SetFunctor_elementPairs.args) (K : (List (List Int)) × Unit → Prop) : evF tab (lkp []) (cutL []) Try.f47 (bodyOf Try.f47) (.s .n (.s .n (.s (.s .n (.l [(3, (.ref 800003 [])), (13, (.d (.int .i64)))] [(800003, (.sl (.sl (.fz (.int .i64)))))] [11, 12] (.s .n (.s .n (.s (.s .n (.s .n (.l [(3, (.ref 800003 [])), (6, (.d (.int .i64)))] [(800003, (.sl (.sl (.fz (.int .i64)))))] [4, 5, 11, 12, 13] .n))) .n))))) .n))) c_impl_SetFunctor_elementPairs x K = W_impl_SetFunctor_elementPairs x.1 K := by kernel_rfl
theorem k_impl_SetFunctor_elementPairs : okC Try.f47.ntmps (cutL []) (bodyOf Try.f47) = true := by kernel_rfl
theorem m_impl_SetFunctor_elementPairs (f : SetFunctorD) (hok : allP (okL c_impl_SetFunctor_elementPairs.args (f, ()))) (hpre : allP (c_impl_SetFunctor_elementPairs.pre (f, ()))) : W_impl_SetFunctor_elementPairs f (fun r => r = c_impl_SetFunctor_elementPairs.res (f, ())) := by
  simp only [c_impl_SetFunctor_elementPairs, okL, T.oks, T.ok, ap, allP, true_and, and_true, implies_true] at hok hpre
  try dsimp only [T.den] at hok
  try dsimp only [T.den] at hpre
  unfold W_impl_SetFunctor_elementPairs
  obtain ⟨h8, hw⟩ := hpre
  have hz : ∀ x : Int, 0 ≤ x → x < f.2.1.length → 0 ≤ f.2.1.getD x.toNat 0 ∧ f.2.1.getD x.toNat 0 ≤ 16 := fun x x0 x1 => by have := within_iff.1 hw x x0 x1; omega
  refine loop_ixa (n := (f.2.1.length : Int)) (fun i => (tabN i.toNat fun x => pairR x (f.2.1.getD x.toNat 0).toNat).flatten) (by omega) rfl ?_ ?_
  · intro i next i0 i1 hn hin hol
    have hs := hz i i0 i1
    have hl : (tabN i.toNat fun x => pairR x (f.2.1.getD x.toNat 0).toNat).flatten.length ≤ i.toNat * 16 := by
      have := flat_le (B := 16) (L := tabN i.toNat fun x => pairR x (f.2.1.getD x.toNat 0).toNat) (fun l hl => by
        obtain ⟨x, x0, x1, rfl⟩ := tabN_mem.1 hl
        have := hz x x0 (by omega)
        unfold pairR; rw [tabN_len]; omega)
      rwa [tabN_len] at this
    try dsimp only at hn hin hol ⊢
    rw [tabN_s i0, List.flatten_append, List.flatten_cons, List.flatten_nil, List.append_nil] at hn
    generalize (tabN i.toNat fun x => pairR x (f.2.1.getD x.toNat 0).toNat).flatten = A at *
    generalize f.2.1.getD i.toNat 0 = m at *
    refine cnd_d (fun _ => ⟨i0, i1, ?_⟩) (fun h => absurd i1 h)
    refine loop_ixa (n := m) (fun j => A ++ pairR i j.toNat) (by omega) (by simp [pairR, tabN]) ?_ ?_
    · intro j next1 j0 j1 hn1 hjn hjl
      have hp : pairR i (j + 1).toNat = pairR i j.toNat ++ [[i, j]] := by unfold pairR; rw [tabN_s j0]
      have hpl : (pairR i j.toNat).length = j.toNat := tabN_len _
      try dsimp only at hn1 hjl ⊢
      rw [hp, ← List.append_assoc] at hn1
      exact cnd_d (fun _ => ⟨room_of (by simp only [List.length_append, List.length_cons, List.length_nil]; omega), by rw [inK64]; (try dsimp only); omega, hn1⟩) (fun h => absurd j1 h)
    · intro next1 _ _
      exact cnd_d (fun h => absurd h (Int.lt_irrefl _)) (fun _ => ⟨by rw [inK64]; (try dsimp only); omega, hn⟩)
  · intro next _ _
    exact cnd_d (fun h => absurd h (Int.lt_irrefl _)) (fun _ => by simp only [c_impl_SetFunctor_elementPairs, pairsR]; rfl)
theorem ct_impl_SetFunctor_elementPairs : CtOk Try.prog 47 c_impl_SetFunctor_elementPairs :=
  ct_by (Φ := lkp []) good_nil tab_ok (by kernel_rfl) (fn := Try.f47) (c := bodyOf Try.f47) (by kernel_rfl) (by kernel_rfl) (by kernel_rfl) c_impl_SetFunctor_elementPairs rfl (.s .n (.s .n (.s (.s .n (.l [(3, (.ref 800003 [])), (13, (.d (.int .i64)))] [(800003, (.sl (.sl (.fz (.int .i64)))))] [11, 12] (.s .n (.s .n (.s (.s .n (.s .n (.l [(3, (.ref 800003 [])), (6, (.d (.int .i64)))] [(800003, (.sl (.sl (.fz (.int .i64)))))] [4, 5, 11, 12, 13] .n))) .n))))) .n))) (cutL []) (by kernel_rfl) (by kernel_rfl) k_impl_SetFunctor_elementPairs (by decide) (fun x K => W_impl_SetFunctor_elementPairs x.1 K) w_impl_SetFunctor_elementPairs (fun x h1 h2 => m_impl_SetFunctor_elementPairs x.1 h1 h2)
def sfI (f : SetFunctorD) (x e : Int) : Option (Int × Int × Int × Int) := if actR f (f.1.2.2.2.1.getD x.toNat 0) e ≠ e then some (1, x, e, 0) else none
def sfIx (f : SetFunctorD) (x : Int) : Option (Int × Int × Int × Int) := scanR (sfI f x) (f.2.1.getD x.toNat 0).toNat 0
def sfC (f : SetFunctorD) (a b e : Int) : Option (Int × Int × Int × Int) := if actR f (compR f.1 a b) e ≠ actR f b (actR f a e) then some (2, a, b, e) else none
def sfCb (f : SetFunctorD) (a b : Int) : Option (Int × Int × Int × Int) := if f.1.2.2.1.getD a.toNat 0 = f.1.2.1.getD b.toNat 0 then scanR (sfC f a b) (f.2.1.getD (f.1.2.1.getD a.toNat 0).toNat 0).toNat 0 else none
def sfCa (f : SetFunctorD) (a : Int) : Option (Int × Int × Int × Int) := scanR (sfCb f a) f.1.2.1.length 0
def sfFaultR (f : SetFunctorD) : Int × Int × Int × Int := orR (scanR (sfIx f) f.1.1.toNat 0) (orR (scanR (sfCa f) f.1.2.1.length 0) (0, 0, 0, 0))

def c_impl_SetFunctor_fault : Ct := ⟨[(.pt SetFunctorT)], [false], fun x => [SfP x.1], [(false, (.fz (.int .i64))), (false, (.fz (.int .i64))), (false, (.fz (.int .i64))), (false, (.fz (.int .i64)))], fun x => ((sfFaultR x.1).1, (sfFaultR x.1).2.1, (sfFaultR x.1).2.2.1, (sfFaultR x.1).2.2.2, ()), false, none⟩
def W_impl_SetFunctor_fault (f : SetFunctorD) (K : Int × Int × Int × Int × Unit → Prop) : Prop := (loopW (S := ((Int × Unit) × Unit)) (fun s => (fun next => ((inK IntKind.i64 s.1.1) → (cnd (decide (s.1.1 < (((List.length f.1.2.2.2.1) : Nat) : Int))) (((0 : Int) ≤ s.1.1) ∧ ((s.1.1 < (((List.length f.1.2.2.2.1) : Nat) : Int)) ∧ (((0 : Int) ≤ (List.getD f.1.2.2.2.1 (Int.toNat s.1.1) (0 : Int))) ∧ (((List.getD f.1.2.2.2.1 (Int.toNat s.1.1) (0 : Int)) < (((List.length f.2.2) : Nat) : Int)) ∧ (loopW (S := ((Int × Unit) × Unit)) (fun s1 => (fun next1 => ((inK IntKind.i64 s1.1.1) → (cnd (decide (s1.1.1 < (((List.length (List.getD f.2.2 (Int.toNat (List.getD f.1.2.2.2.1 (Int.toNat s.1.1) (0 : Int))) ([] : List Int))) : Nat) : Int))) (((0 : Int) ≤ s1.1.1) ∧ ((s1.1.1 < (((List.length (List.getD f.2.2 (Int.toNat (List.getD f.1.2.2.2.1 (Int.toNat s.1.1) (0 : Int))) ([] : List Int))) : Nat) : Int)) ∧ (cnd ((List.getD (List.getD f.2.2 (Int.toNat (List.getD f.1.2.2.2.1 (Int.toNat s.1.1) (0 : Int))) ([] : List Int)) (Int.toNat s1.1.1) (0 : Int)) != s1.1.1) (K ((1 : Int), (s.1.1, (s1.1.1, ((0 : Int), ()))))) ((inK IntKind.i64 (s1.1.1 + (1 : Int))) ∧ (next1 (((s1.1.1 + (1 : Int)), ()), ())))))) ((inK IntKind.i64 (s.1.1 + (1 : Int))) ∧ (next (((s.1.1 + (1 : Int)), ()), ()))))))) (((0 : Int), ()), ())))))) (loopW (S := ((Int × Unit) × Unit)) (fun s1 => (fun next1 => ((inK IntKind.i64 s1.1.1) → (cnd (decide (s1.1.1 < (((List.length f.1.2.2.2.2) : Nat) : Int))) (((0 : Int) ≤ s1.1.1) ∧ ((s1.1.1 < (((List.length f.1.2.2.2.2) : Nat) : Int)) ∧ (loopW (S := ((Int × Unit) × Unit)) (fun s2 => (fun next2 => ((inK IntKind.i64 s2.1.1) → (cnd (decide (s2.1.1 < (((List.length (List.getD f.1.2.2.2.2 (Int.toNat s1.1.1) ([] : List Int))) : Nat) : Int))) (joinW (S := (Unit × Unit)) (fun s3 => ((inK IntKind.i64 (s2.1.1 + (1 : Int))) ∧ (next2 (((s2.1.1 + (1 : Int)), ()), ())))) (fun k => (((0 : Int) ≤ s2.1.1) ∧ ((s2.1.1 < (((List.length (List.getD f.1.2.2.2.2 (Int.toNat s1.1.1) ([] : List Int))) : Nat) : Int)) ∧ (cnd (decide ((List.getD (List.getD f.1.2.2.2.2 (Int.toNat s1.1.1) ([] : List Int)) (Int.toNat s2.1.1) (0 : Int)) < (0 : Int))) (k ((), ())) (((0 : Int) ≤ s1.1.1) ∧ ((s1.1.1 < (((List.length f.2.2) : Nat) : Int)) ∧ (loopW (S := ((Int × Unit) × Unit)) (fun s3 => (fun next3 => ((inK IntKind.i64 s3.1.1) → (cnd (decide (s3.1.1 < (((List.length (List.getD f.2.2 (Int.toNat s1.1.1) ([] : List Int))) : Nat) : Int))) (((0 : Int) ≤ s3.1.1) ∧ ((s3.1.1 < (((List.length (List.getD f.2.2 (Int.toNat s1.1.1) ([] : List Int))) : Nat) : Int)) ∧ (((0 : Int) ≤ (List.getD (List.getD f.1.2.2.2.2 (Int.toNat s1.1.1) ([] : List Int)) (Int.toNat s2.1.1) (0 : Int))) ∧ (((List.getD (List.getD f.1.2.2.2.2 (Int.toNat s1.1.1) ([] : List Int)) (Int.toNat s2.1.1) (0 : Int)) < (((List.length f.2.2) : Nat) : Int)) ∧ (((0 : Int) ≤ s3.1.1) ∧ ((s3.1.1 < (((List.length (List.getD f.2.2 (Int.toNat (List.getD (List.getD f.1.2.2.2.2 (Int.toNat s1.1.1) ([] : List Int)) (Int.toNat s2.1.1) (0 : Int))) ([] : List Int))) : Nat) : Int)) ∧ (((0 : Int) ≤ s2.1.1) ∧ ((s2.1.1 < (((List.length f.2.2) : Nat) : Int)) ∧ (((0 : Int) ≤ (List.getD (List.getD f.2.2 (Int.toNat s1.1.1) ([] : List Int)) (Int.toNat s3.1.1) (0 : Int))) ∧ (((List.getD (List.getD f.2.2 (Int.toNat s1.1.1) ([] : List Int)) (Int.toNat s3.1.1) (0 : Int)) < (((List.length (List.getD f.2.2 (Int.toNat s2.1.1) ([] : List Int))) : Nat) : Int)) ∧ (cnd ((List.getD (List.getD f.2.2 (Int.toNat (List.getD (List.getD f.1.2.2.2.2 (Int.toNat s1.1.1) ([] : List Int)) (Int.toNat s2.1.1) (0 : Int))) ([] : List Int)) (Int.toNat s3.1.1) (0 : Int)) != (List.getD (List.getD f.2.2 (Int.toNat s2.1.1) ([] : List Int)) (Int.toNat (List.getD (List.getD f.2.2 (Int.toNat s1.1.1) ([] : List Int)) (Int.toNat s3.1.1) (0 : Int))) (0 : Int))) (K ((2 : Int), (s1.1.1, (s2.1.1, (s3.1.1, ()))))) ((inK IntKind.i64 (s3.1.1 + (1 : Int))) ∧ (next3 (((s3.1.1 + (1 : Int)), ()), ())))))))))))))) (k ((), ())))))) (((0 : Int), ()), ()))))))))) ((inK IntKind.i64 (s1.1.1 + (1 : Int))) ∧ (next1 (((s1.1.1 + (1 : Int)), ()), ()))))))) (((0 : Int), ()), ())))) (K ((0 : Int), ((0 : Int), ((0 : Int), ((0 : Int), ()))))))))) (((0 : Int), ()), ())))))) (((0 : Int), ()), ()))
theorem w_impl_SetFunctor_fault (x : denL c_impl_SetFunctor_fault.args) (K : Int × Int × Int × Int × Unit → Prop) : evF tab (lkp []) (cutL [(22, 21)]) Try.f78 (bodyOf Try.f78) (.s .n (.s .n (.s (.s .n (.l [(25, (.d (.int .i64)))] [] [0, 6, 23, 24] (.s .n (.s .n (.s (.s .n (.s .n (.l [(38, (.d (.int .i64)))] [] [0, 6, 7, 23, 24, 25, 36, 37] .n))) .n))))) (.s (.s .n (.l [(55, (.d (.int .i64)))] [] [0, 53, 54] (.s .n (.s .n (.s (.s .n (.s .n (.l [(62, (.d (.int .i64)))] [] [0, 11, 53, 54, 55, 60, 61] (.s .n (.s .n (.s (.j [] [] [0, 11, 53, 54, 55, 60, 61, 62] (.s .n (.s .n (.s .n (.l [(77, (.d (.int .i64)))] [] [0, 11, 13, 14, 53, 54, 55, 60, 61, 62, 75, 76] .n))))) .n)))))) .n))))) .n)))) c_impl_SetFunctor_fault x K = W_impl_SetFunctor_fault x.1 K := by kernel_rfl
theorem k_impl_SetFunctor_fault : okC Try.f78.ntmps (cutL [(22, 21)]) (bodyOf Try.f78) = true := by kernel_rfl
theorem m_impl_SetFunctor_fault (f : SetFunctorD) (hok : allP (okL c_impl_SetFunctor_fault.args (f, ()))) (hpre : allP (c_impl_SetFunctor_fault.pre (f, ()))) : W_impl_SetFunctor_fault f (fun r => r = c_impl_SetFunctor_fault.res (f, ())) := by
  simp only [c_impl_SetFunctor_fault, okL, T.oks, T.ok, ap, allP, true_and, and_true, implies_true] at hok hpre
  try dsimp only [T.den] at hok
  try dsimp only [T.den] at hpre
  unfold W_impl_SetFunctor_fault
  have P : SfP f := hpre
  have S := cat_shape P.cat
  have hlt := S.lt
  have hli := S.li
  have hlc := S.lc
  have hmm := S.m
  have hob := S.ob
  have hlz := P.lz
  have hla := P.la
  have resq : ∀ a b d e, sfFaultR f = (a, b, d, e) → (a, b, d, e, ()) = c_impl_SetFunctor_fault.res (f, ()) := fun a b d e h => by simp only [c_impl_SetFunctor_fault, h]
  have hac : ∀ a e : Int, (f.2.2.getD a.toNat []).getD e.toNat 0 = actR f a e := fun _ _ => rfl
  have hcr : ∀ a b : Int, (f.1.2.2.2.2.getD a.toNat []).getD b.toNat 0 = compR f.1 a b := fun _ _ => rfl
  simp only [hac, hcr]
  refine loop_ix (n := f.1.1) (fun x => scanR (sfIx f) f.1.1.toNat 0 = scanR (sfIx f) (f.1.1 - x).toNat x) (by omega) (by rw [Int.sub_zero]) ?_ ?_
  · intro x next x0 x1 hP hn hin
    try dsimp only
    obtain ⟨b1, b2, b3, b4⟩ := S.idn x0 x1
    obtain ⟨z1, z2⟩ := P.size x0 x1
    obtain ⟨q1, q2⟩ := P.act _ b1 b2
    rw [b3] at q1
    refine cnd_d (fun _ => ⟨x0, by omega, b1, by omega, ?_⟩) (fun h => absurd h (by omega))
    refine loop_ix (n := f.2.1.getD x.toNat 0) (fun e => sfIx f x = scanR (sfI f x) (f.2.1.getD x.toNat 0 - e).toNat e) z1 (by unfold sfIx; rw [Int.sub_zero]) ?_ ?_
    · intro e next2 e0 e1 hP2 hn2 hin2
      try dsimp only
      refine cnd_d (fun _ => ⟨e0, by omega, cnd_of (fun hx => resq _ _ _ _ ?_) (fun hx => ⟨by rw [inK64]; (try dsimp only); omega, hn2 ?_⟩)⟩) (fun h => absurd h (by omega))
      · have k1 : sfI f x e = some (1, x, e, 0) := by unfold sfI; rw [if_pos]; simpa using hx
        have k2 : sfIx f x = some (1, x, e, 0) := by rw [hP2, scan_s e1 k1]
        unfold sfFaultR; rw [hP, scan_s x1 k2]; rfl
      · have k1 : sfI f x e = none := by unfold sfI; rw [if_neg]; simpa using hx
        rw [hP2, scan_c e1 k1]
    · intro next2 hP2 hin2
      try dsimp only
      rw [scan_n] at hP2
      exact cnd_d (fun h => absurd h (by omega)) (fun _ => ⟨by rw [inK64]; (try dsimp only); omega, hn (by rw [hP, scan_c x1 hP2])⟩)
  intro next hI hin
  rw [scan_n] at hI
  refine cnd_d (fun h => absurd h (by dsimp only; omega)) (fun _ => ?_)
  have hF : sfFaultR f = orR (scanR (sfCa f) f.1.2.1.length 0) (0, 0, 0, 0) := by unfold sfFaultR; rw [hI]; rfl
  refine loop_ix (n := f.1.2.1.length) (fun a => scanR (sfCa f) f.1.2.1.length 0 = scanR (sfCa f) ((f.1.2.1.length : Int) - a).toNat a) (by omega) scan_0 ?_ ?_
  · intro a next a0 a1 hP hn hin
    try dsimp only
    have r1 := S.row a a0 a1
    obtain ⟨q1, q2⟩ := P.act _ a0 a1
    obtain ⟨fa1, fa2, ta1, ta2⟩ := S.frm a0 a1
    obtain ⟨z1, z2⟩ := P.size fa1 fa2
    refine cnd_d (fun _ => ⟨a0, by omega, ?_⟩) (fun h => absurd h (by omega))
    refine loop_ix (n := f.1.2.1.length) (fun b => sfCa f a = scanR (sfCb f a) ((f.1.2.1.length : Int) - b).toNat b) (by omega) scan_0 ?_ ?_
    · intro b next2 b0 b1 hP2 hn2 hin2
      try dsimp only
      refine cnd_d (fun _ => ?_) (fun h => absurd h (by omega))
      refine join_of (fun _ => sfCb f a b = none) (fun _ hG => ⟨by rw [inK64]; (try dsimp only); omega, hn2 (by rw [hP2, scan_c b1 hG])⟩) (fun k hk => ?_)
      have hk' := hk ((), ())
      refine ⟨b0, by omega, cnd_d (fun hx => hk' ?_) (fun hx => ?_)⟩
      · unfold sfCb; rw [if_neg]; intro e; have := (S.comp a0 a1 b0 b1).2 e; omega
      have hab := (S.comp a0 a1 b0 b1).1 (by omega)
      obtain ⟨y1, y2, y3, y4⟩ := S.yes a0 a1 b0 b1 hab
      obtain ⟨p1, p2⟩ := P.act _ y1 y2
      rw [y3] at p1
      obtain ⟨p3, p4⟩ := P.act _ b0 b1
      rw [← hab] at p3
      refine ⟨a0, by omega, ?_⟩
      refine loop_ix (n := f.2.1.getD (f.1.2.1.getD a.toNat 0).toNat 0) (fun e => sfCb f a b = scanR (sfC f a b) (f.2.1.getD (f.1.2.1.getD a.toNat 0).toNat 0 - e).toNat e) z1 (by unfold sfCb; rw [if_pos hab, Int.sub_zero]) ?_ ?_
      · intro e next3 e0 e1 hP3 hn3 hin3
        try dsimp only
        obtain ⟨m1, m2, m3⟩ := P.at_ a0 a1 e0 e1
        refine cnd_d (fun _ => ⟨e0, by omega, y1, by omega, e0, by omega, b0, by omega, m2, by omega, cnd_of (fun hx => resq _ _ _ _ ?_) (fun hx => ⟨by rw [inK64]; (try dsimp only); omega, hn3 ?_⟩)⟩) (fun h => absurd h (by omega))
        · have k0 : sfC f a b e = some (2, a, b, e) := by unfold sfC; rw [if_pos]; simpa using hx
          have k1 : sfCb f a b = some (2, a, b, e) := by rw [hP3, scan_s e1 k0]
          have k2 : sfCa f a = some (2, a, b, e) := by rw [hP2, scan_s b1 k1]
          rw [hF, hP, scan_s a1 k2]; rfl
        · have k0 : sfC f a b e = none := by unfold sfC; rw [if_neg]; simpa using hx
          rw [hP3, scan_c e1 k0]
      · intro next3 hP3 hin3
        try dsimp only
        rw [scan_n] at hP3
        exact cnd_d (fun h => absurd h (by omega)) (fun _ => hk' hP3)
    · intro next2 hP2 hin2
      try dsimp only
      rw [scan_n] at hP2
      exact cnd_d (fun h => absurd h (by omega)) (fun _ => ⟨by rw [inK64]; (try dsimp only); omega, hn (by rw [hP, scan_c a1 hP2])⟩)
  · intro next2 hP2 hin2
    rw [scan_n] at hP2
    refine cnd_d (fun h => absurd h (by dsimp only; omega)) (fun _ => resq _ _ _ _ ?_)
    rw [hF, hP2]; rfl
theorem ct_impl_SetFunctor_fault : CtOk Try.prog 78 c_impl_SetFunctor_fault :=
  ct_by (Φ := lkp []) good_nil tab_ok (by kernel_rfl) (fn := Try.f78) (c := bodyOf Try.f78) (by kernel_rfl) (by kernel_rfl) (by kernel_rfl) c_impl_SetFunctor_fault rfl (.s .n (.s .n (.s (.s .n (.l [(25, (.d (.int .i64)))] [] [0, 6, 23, 24] (.s .n (.s .n (.s (.s .n (.s .n (.l [(38, (.d (.int .i64)))] [] [0, 6, 7, 23, 24, 25, 36, 37] .n))) .n))))) (.s (.s .n (.l [(55, (.d (.int .i64)))] [] [0, 53, 54] (.s .n (.s .n (.s (.s .n (.s .n (.l [(62, (.d (.int .i64)))] [] [0, 11, 53, 54, 55, 60, 61] (.s .n (.s .n (.s (.j [] [] [0, 11, 53, 54, 55, 60, 61, 62] (.s .n (.s .n (.s .n (.l [(77, (.d (.int .i64)))] [] [0, 11, 13, 14, 53, 54, 55, 60, 61, 62, 75, 76] .n))))) .n)))))) .n))))) .n)))) (cutL [(22, 21)]) (by kernel_rfl) (by kernel_rfl) k_impl_SetFunctor_fault (by decide) (fun x K => W_impl_SetFunctor_fault x.1 K) w_impl_SetFunctor_fault (fun x h1 h2 => m_impl_SetFunctor_fault x.1 h1 h2)
def setfR (f : SetFunctorD) : Bool := sfShapeR f && (sfFaultR f).1 == 0
theorem setf_sf {f : SetFunctorD} (h : setfR f = true) : SfP f := by
  simp only [setfR, Bool.and_eq_true] at h; exact sf_iff.1 h.1

def c_impl_SetFunctor_isSetFunctor : Ct := ⟨[(.pt SetFunctorT)], [false], fun x => [], [(false, (.fz .bool))], fun x => (setfR x.1, ()), false, none⟩
def W_impl_SetFunctor_isSetFunctor (f : SetFunctorD) (K : Bool × Unit → Prop) : Prop := (cnd (!(sfShapeR f)) (K (Bool.false, ())) ((SfP f) ∧ (K (((sfFaultR f).1 == (0 : Int)), ()))))
theorem w_impl_SetFunctor_isSetFunctor (x : denL c_impl_SetFunctor_isSetFunctor.args) (K : Bool × Unit → Prop) : evF tab (lkp [(78, c_impl_SetFunctor_fault), (77, c_impl_SetFunctor_isShape)]) (cutL []) Try.f46 (bodyOf Try.f46) .n c_impl_SetFunctor_isSetFunctor x K = W_impl_SetFunctor_isSetFunctor x.1 K := by kernel_rfl
theorem k_impl_SetFunctor_isSetFunctor : okC Try.f46.ntmps (cutL []) (bodyOf Try.f46) = true := by kernel_rfl
theorem m_impl_SetFunctor_isSetFunctor (f : SetFunctorD) (hok : allP (okL c_impl_SetFunctor_isSetFunctor.args (f, ()))) (hpre : allP (c_impl_SetFunctor_isSetFunctor.pre (f, ()))) : W_impl_SetFunctor_isSetFunctor f (fun r => r = c_impl_SetFunctor_isSetFunctor.res (f, ())) := by
  simp only [c_impl_SetFunctor_isSetFunctor, okL, T.oks, T.ok, ap, allP, true_and, and_true, implies_true] at hok hpre
  try dsimp only [T.den] at hok
  try dsimp only [T.den] at hpre
  unfold W_impl_SetFunctor_isSetFunctor
  have h1 := @sf_iff f
  simp only [c_impl_SetFunctor_isSetFunctor, setfR]
  grind [cnd, nb_eq, inK64]
theorem ct_impl_SetFunctor_isSetFunctor : CtOk Try.prog 46 c_impl_SetFunctor_isSetFunctor :=
  ct_by (Φ := lkp [(78, c_impl_SetFunctor_fault), (77, c_impl_SetFunctor_isShape)]) (good_cons ct_impl_SetFunctor_fault (good_cons ct_impl_SetFunctor_isShape good_nil)) tab_ok (by kernel_rfl) (fn := Try.f46) (c := bodyOf Try.f46) (by kernel_rfl) (by kernel_rfl) (by kernel_rfl) c_impl_SetFunctor_isSetFunctor rfl .n (cutL []) (by kernel_rfl) (by kernel_rfl) k_impl_SetFunctor_isSetFunctor (by decide) (fun x K => W_impl_SetFunctor_isSetFunctor x.1 K) w_impl_SetFunctor_isSetFunctor (fun x h1 h2 => m_impl_SetFunctor_isSetFunctor x.1 h1 h2)
/-- the arrows from x to y -/
def homR (c : CategoryD) (x y : Int) : List Int := selR c.2.1.length fun f => c.2.1.getD f.toNat 0 == x && c.2.2.1.getD f.toNat 0 == y
theorem hom_mem {c : CategoryD} {x y g : Int} : g ∈ homR c x y ↔ 0 ≤ g ∧ g < c.2.1.length ∧ c.2.1.getD g.toNat 0 = x ∧ c.2.2.1.getD g.toNat 0 = y := by
  unfold homR; rw [sel_mem, Bool.and_eq_true, beq_iff_eq, beq_iff_eq]

def c_impl_Category_hom : Ct := ⟨[(.pt CategoryT), (.int .i64), (.int .i64)], [false, false, false], fun x => [x.1.2.1.length ≤ 40, x.1.2.2.1.length = x.1.2.1.length], [(false, (.sl (.fz (.int .i64))))], fun x => (homR x.1 x.2.1 x.2.2.1, ()), false, none⟩
def W_impl_Category_hom (c : CategoryD) (x : Int) (y : Int) (K : (List Int) × Unit → Prop) : Prop := (loopW (S := ((Unit × (Int × Unit)) × ((List Int) × Unit))) (fun s => (fun next => ((inK IntKind.i64 s.1.2.1) → ((T.ok (T.sl (T.int IntKind.i64)) s.2.1) → (cnd (decide (s.1.2.1 < (((List.length c.2.1) : Nat) : Int))) (((0 : Int) ≤ s.1.2.1) ∧ ((s.1.2.1 < (((List.length c.2.1) : Nat) : Int)) ∧ (((((List.getD c.2.1 (Int.toNat s.1.2.1) (0 : Int)) == x) = Bool.true) → ((s.1.2.1 < (((List.length c.2.2.1) : Nat) : Int)) ∧ ((0 : Int) ≤ s.1.2.1))) ∧ (joinW (S := ((Unit × Unit) × ((List Int) × Unit))) (fun s1 => ((T.ok (T.sl (T.int IntKind.i64)) s1.2.1) → ((inK IntKind.i64 (s.1.2.1 + (1 : Int))) ∧ (next (((), ((s.1.2.1 + (1 : Int)), ())), (s1.2.1, ())))))) (fun k => (cnd (((List.getD c.2.1 (Int.toNat s.1.2.1) (0 : Int)) == x) && ((List.getD c.2.2.1 (Int.toNat s.1.2.1) (0 : Int)) == y)) ((room (List.length s.2.1) (List.length (s.1.2.1 :: ([] : List Int))) 8) ∧ (k (((), ()), ((s.2.1 ++ (s.1.2.1 :: ([] : List Int))), ())))) (k (((), ()), (s.2.1, ()))))))))) (K (s.2.1, ()))))))) (((), ((0 : Int), ())), (([] : List Int), ())))
theorem w_impl_Category_hom (x : denL c_impl_Category_hom.args) (K : (List Int) × Unit → Prop) : evF tab (lkp []) (cutL []) Try.f88 (bodyOf Try.f88) (.s .n (.s .n (.s (.s .n (.l [(7, (.ref 800007 [])), (15, (.d (.int .i64)))] [(800007, (.sl (.fz (.int .i64))))] [0, 1, 2, 14] (.s .n (.s .n (.s (.s .n (.s .n (.j [(7, (.ref 800007 []))] [(800007, (.sl (.fz (.int .i64))))] [0, 1, 2, 14, 15] .n))) .n))))) .n))) c_impl_Category_hom x K = W_impl_Category_hom x.1 x.2.1 x.2.2.1 K := by kernel_rfl
theorem k_impl_Category_hom : okC Try.f88.ntmps (cutL []) (bodyOf Try.f88) = true := by kernel_rfl
theorem m_impl_Category_hom (c : CategoryD) (x : Int) (y : Int) (hok : allP (okL c_impl_Category_hom.args (c, x, y, ()))) (hpre : allP (c_impl_Category_hom.pre (c, x, y, ()))) : W_impl_Category_hom c x y (fun r => r = c_impl_Category_hom.res (c, x, y, ())) := by
  simp only [c_impl_Category_hom, okL, T.oks, T.ok, ap, allP, true_and, and_true, implies_true] at hok hpre
  try dsimp only [T.den] at hok
  try dsimp only [T.den] at hpre
  unfold W_impl_Category_hom
  have hm : c.2.1.length ≤ 40 := hpre.1
  have hlt : c.2.2.1.length = c.2.1.length := hpre.2
  refine loop_of (fun (s : ((Unit × (Int × Unit)) × ((List Int) × Unit))) => 0 ≤ s.1.2.1 ∧ s.1.2.1 ≤ c.2.1.length ∧ s.2.1 = selR s.1.2.1.toNat fun f => c.2.1.getD f.toNat 0 == x && c.2.2.1.getD f.toNat 0 == y) (fun (s : ((Unit × (Int × Unit)) × ((List Int) × Unit))) => (c.2.1.length - s.1.2.1).toNat) ?_ ⟨by simp, by simp, rfl⟩
  rintro ⟨⟨_, i, _⟩, l, _⟩ next ⟨h0, h1, h2⟩ hn hin hl
  try dsimp only at h0 h1 h2 hn ⊢
  subst h2
  refine cnd_d (fun hc => ⟨h0, hc, fun _ => by omega, join_of (fun s1 => s1.2.1 = selR (i + 1).toNat fun f => c.2.1.getD f.toNat 0 == x && c.2.2.1.getD f.toNat 0 == y) (fun s1 hs _ => ⟨by rw [inK64]; (try dsimp only); omega, hn _ ⟨(by first | omega | (dsimp only; omega)), (by first | omega | (dsimp only; omega)), hs⟩ (by first | omega | (dsimp only; omega))⟩) (fun k hk => cnd_of (fun hx => ⟨?_, hk _ ?_⟩) (fun hx => hk _ ?_))⟩) (fun hc => ?_)
  · have := sel_len (p := fun f => c.2.1.getD f.toNat 0 == x && c.2.2.1.getD f.toNat 0 == y) i.toNat
    unfold room
    rw [nb_eq]
    have h3 : (i :: ([] : List Int)).length = 1 := rfl
    rw [h3]
    omega
  · exact (sel_t h0 hx).symm
  · exact (sel_f h0 hx).symm
  · have e1 : i.toNat = c.2.1.length := by omega
    simp only [c_impl_Category_hom, homR]
    rw [e1]
theorem ct_impl_Category_hom : CtOk Try.prog 88 c_impl_Category_hom :=
  ct_by (Φ := lkp []) good_nil tab_ok (by kernel_rfl) (fn := Try.f88) (c := bodyOf Try.f88) (by kernel_rfl) (by kernel_rfl) (by kernel_rfl) c_impl_Category_hom rfl (.s .n (.s .n (.s (.s .n (.l [(7, (.ref 800007 [])), (15, (.d (.int .i64)))] [(800007, (.sl (.fz (.int .i64))))] [0, 1, 2, 14] (.s .n (.s .n (.s (.s .n (.s .n (.j [(7, (.ref 800007 []))] [(800007, (.sl (.fz (.int .i64))))] [0, 1, 2, 14, 15] .n))) .n))))) .n))) (cutL []) (by kernel_rfl) (by kernel_rfl) k_impl_Category_hom (by decide) (fun x K => W_impl_Category_hom x.1 x.2.1 x.2.2.1 K) w_impl_Category_hom (fun x h1 h2 => m_impl_Category_hom x.1 x.2.1 x.2.2.1 h1 h2)
def partR (f : SetFunctorD) (x e y : Int) : List Int := (homR f.1 x y).map fun h => actR f h e
def partsR (f : SetFunctorD) (x e : Int) : List (List Int) := tabN f.1.1.toNat fun y => partR f x e y

def c_impl_SetFunctor_elementParts : Ct := ⟨[(.pt SetFunctorT), (.int .i64), (.int .i64)], [false, false, false], fun x => [SfP x.1, 0 ≤ x.2.1, x.2.1 < x.1.1.1, 0 ≤ x.2.2.1, x.2.2.1 < x.1.2.1.getD x.2.1.toNat 0], [(false, (.sl (.sl (.fz (.int .i64)))))], fun x => (partsR x.1 x.2.1 x.2.2.1, ()), false, none⟩
def W_impl_SetFunctor_elementParts (f : SetFunctorD) (x : Int) (e : Int) (K : (List (List Int)) × Unit → Prop) : Prop := (loopW (S := ((Unit × (Int × Unit)) × ((List (List Int)) × Unit))) (fun s => (fun next => ((inK IntKind.i64 s.1.2.1) → ((T.ok (T.sl (T.sl (T.int IntKind.i64))) s.2.1) → (cnd (decide (s.1.2.1 < f.1.1)) (((List.length f.1.2.1) ≤ 40) ∧ (((List.length f.1.2.2.1) = (List.length f.1.2.1)) ∧ (loopW (S := ((Unit × (Unit × (Int × Unit))) × ((List (List Int)) × ((List Int) × Unit)))) (fun s1 => (fun next1 => ((inK IntKind.i64 s1.1.2.2.1) → ((T.ok (T.sl (T.sl (T.int IntKind.i64))) s1.2.1) → ((T.ok (T.sl (T.int IntKind.i64)) s1.2.2.1) → (cnd (decide (s1.1.2.2.1 < (((List.length (homR f.1 x s.1.2.1)) : Nat) : Int))) (((0 : Int) ≤ s1.1.2.2.1) ∧ ((s1.1.2.2.1 < (((List.length (homR f.1 x s.1.2.1)) : Nat) : Int)) ∧ (((0 : Int) ≤ (List.getD (homR f.1 x s.1.2.1) (Int.toNat s1.1.2.2.1) (0 : Int))) ∧ (((List.getD (homR f.1 x s.1.2.1) (Int.toNat s1.1.2.2.1) (0 : Int)) < (((List.length f.2.2) : Nat) : Int)) ∧ (((0 : Int) ≤ e) ∧ ((e < (((List.length (List.getD f.2.2 (Int.toNat (List.getD (homR f.1 x s.1.2.1) (Int.toNat s1.1.2.2.1) (0 : Int))) ([] : List Int))) : Nat) : Int)) ∧ ((room (List.length s1.2.2.1) (List.length ((List.getD (List.getD f.2.2 (Int.toNat (List.getD (homR f.1 x s.1.2.1) (Int.toNat s1.1.2.2.1) (0 : Int))) ([] : List Int)) (Int.toNat e) (0 : Int)) :: ([] : List Int))) 8) ∧ ((inK IntKind.i64 (s1.1.2.2.1 + (1 : Int))) ∧ (next1 (((), ((), ((s1.1.2.2.1 + (1 : Int)), ()))), (s1.2.1, ((s1.2.2.1 ++ ((List.getD (List.getD f.2.2 (Int.toNat (List.getD (homR f.1 x s.1.2.1) (Int.toNat s1.1.2.2.1) (0 : Int))) ([] : List Int)) (Int.toNat e) (0 : Int)) :: ([] : List Int))), ())))))))))))) ((room (List.length s1.2.1) (List.length (s1.2.2.1 :: ([] : List (List Int)))) 24) ∧ ((inK IntKind.i64 (s.1.2.1 + (1 : Int))) ∧ (next (((), ((s.1.2.1 + (1 : Int)), ())), ((s1.2.1 ++ (s1.2.2.1 :: ([] : List (List Int)))), ()))))))))))) (((), ((), ((0 : Int), ()))), (s.2.1, (([] : List Int), ())))))) (K (s.2.1, ()))))))) (((), ((0 : Int), ())), (([] : List (List Int)), ())))
theorem w_impl_SetFunctor_elementParts (x : denL c_impl_SetFunctor_elementParts.args) (K : (List (List Int)) × Unit → Prop) : evF tab (lkp [(88, c_impl_Category_hom)]) (cutL []) Try.f79 (bodyOf Try.f79) (.s .n (.s .n (.s (.s .n (.l [(7, (.ref 800007 [])), (8, (.d (.int .i64)))] [(800007, (.sl (.sl (.fz (.int .i64)))))] [0, 1, 2] (.s .n (.s (.s .n (.s (.s .n (.l [(7, (.ref 800007 [])), (9, (.ref 800009 [])), (30, (.d (.int .i64)))] [(800007, (.sl (.sl (.fz (.int .i64))))), (800009, (.sl (.fz (.int .i64))))] [0, 1, 2, 8, 28, 29] .n)) .n)) .n)))) .n))) c_impl_SetFunctor_elementParts x K = W_impl_SetFunctor_elementParts x.1 x.2.1 x.2.2.1 K := by kernel_rfl
theorem k_impl_SetFunctor_elementParts : okC Try.f79.ntmps (cutL []) (bodyOf Try.f79) = true := by kernel_rfl
theorem m_impl_SetFunctor_elementParts (f : SetFunctorD) (x : Int) (e : Int) (hok : allP (okL c_impl_SetFunctor_elementParts.args (f, x, e, ()))) (hpre : allP (c_impl_SetFunctor_elementParts.pre (f, x, e, ()))) : W_impl_SetFunctor_elementParts f x e (fun r => r = c_impl_SetFunctor_elementParts.res (f, x, e, ())) := by
  simp only [c_impl_SetFunctor_elementParts, okL, T.oks, T.ok, ap, allP, true_and, and_true, implies_true] at hok hpre
  try dsimp only [T.den] at hok
  try dsimp only [T.den] at hpre
  unfold W_impl_SetFunctor_elementParts
  obtain ⟨S, x0, x1, e0, e1⟩ := hpre
  have C := cat_shape S.cat
  have hob := C.ob
  have hm := C.m
  have hlt := C.lt
  have hla := S.la
  refine loop_ixa (n := f.1.1) (fun i => tabN i.toNat (partR f x e)) hob.1 rfl ?_ ?_
  · intro i next i0 i1 hn hin hol
    try dsimp only at hn hin hol ⊢
    rw [tabN_s i0] at hn
    have hl : (tabN i.toNat (partR f x e)).length = i.toNat := tabN_len _
    generalize tabN i.toNat (partR f x e) = A at *
    have hhl : (homR f.1 x i).length ≤ 40 := Nat.le_trans (sel_len _) hm
    refine cnd_d (fun _ => ⟨hm, hlt, ?_⟩) (fun h => absurd i1 h)
    refine loop_of (fun (s : ((Unit × (Unit × (Int × Unit))) × ((List (List Int)) × ((List Int) × Unit)))) => 0 ≤ s.1.2.2.1 ∧ s.1.2.2.1 ≤ (homR f.1 x i).length ∧ s.2.1 = A ∧ s.2.2.1 = ((homR f.1 x i).take s.1.2.2.1.toNat).map fun h => actR f h e) (fun (s : ((Unit × (Unit × (Int × Unit))) × ((List (List Int)) × ((List Int) × Unit)))) => ((homR f.1 x i).length - s.1.2.2.1).toNat) ?_ ⟨by simp, by simp, rfl, by simp⟩
    rintro ⟨⟨_, _, j, _⟩, o, q, _⟩ next1 ⟨j0, j1, e2, e3⟩ hn1 hjn _ _
    try dsimp only at j0 j1 e2 e3 hn1 hjn ⊢
    subst e2
    refine cnd_d (fun hc => ?_) (fun hc => ?_)
    · have hh := hom_mem.1 (getD_mem (homR f.1 x i) 0 j0 hc)
      have ht := take_c (homR f.1 x i) 0 j0 hc
      have hql : q.length ≤ 40 := by rw [e3, List.length_map, List.length_take]; omega
      generalize (homR f.1 x i).getD j.toNat 0 = h at *
      obtain ⟨k1, _⟩ := S.at_ hh.1 hh.2.1 e0 (by rw [hh.2.2.1]; exact e1)
      refine ⟨j0, hc, hh.1, by omega, e0, k1, room_of (by simp only [List.length_cons, List.length_nil]; omega), by rw [inK64]; (try dsimp only); omega, hn1 _ ⟨by dsimp only; omega, by dsimp only; omega, rfl, ?_⟩ (by dsimp only; omega)⟩
      try dsimp only
      rw [ht, List.map_append, ← e3]; rfl
    · have hj : j = (homR f.1 x i).length := by omega
      refine ⟨room_of (by simp only [List.length_cons, List.length_nil]; omega), by rw [inK64]; (try dsimp only); omega, ?_⟩
      rw [e3, take_n _ (by omega)]
      exact hn
  · intro next _ _
    exact cnd_d (fun h => absurd h (Int.lt_irrefl _)) (fun _ => by simp only [c_impl_SetFunctor_elementParts, partsR])
theorem ct_impl_SetFunctor_elementParts : CtOk Try.prog 79 c_impl_SetFunctor_elementParts :=
  ct_by (Φ := lkp [(88, c_impl_Category_hom)]) (good_cons ct_impl_Category_hom good_nil) tab_ok (by kernel_rfl) (fn := Try.f79) (c := bodyOf Try.f79) (by kernel_rfl) (by kernel_rfl) (by kernel_rfl) c_impl_SetFunctor_elementParts rfl (.s .n (.s .n (.s (.s .n (.l [(7, (.ref 800007 [])), (8, (.d (.int .i64)))] [(800007, (.sl (.sl (.fz (.int .i64)))))] [0, 1, 2] (.s .n (.s (.s .n (.s (.s .n (.l [(7, (.ref 800007 [])), (9, (.ref 800009 [])), (30, (.d (.int .i64)))] [(800007, (.sl (.sl (.fz (.int .i64))))), (800009, (.sl (.fz (.int .i64))))] [0, 1, 2, 8, 28, 29] .n)) .n)) .n)))) .n))) (cutL []) (by kernel_rfl) (by kernel_rfl) k_impl_SetFunctor_elementParts (by decide) (fun x K => W_impl_SetFunctor_elementParts x.1 x.2.1 x.2.2.1 K) w_impl_SetFunctor_elementParts (fun x h1 h2 => m_impl_SetFunctor_elementParts x.1 x.2.1 x.2.2.1 h1 h2)
def c_impl_marked : Ct := ⟨[(.sl .bool)], [false], fun x => [x.1.length ≤ 1099511627776], [(false, (.sl (.fz (.int .i64))))], fun x => (selR x.1.length (fun i => x.1.getD i.toNat false), ()), false, none⟩
def W_impl_marked (there : List Bool) (K : (List Int) × Unit → Prop) : Prop := (loopW (S := ((Unit × (Int × Unit)) × ((List Int) × Unit))) (fun s => (fun next => ((inK IntKind.i64 s.1.2.1) → ((T.ok (T.sl (T.int IntKind.i64)) s.2.1) → (cnd (decide (s.1.2.1 < (((List.length there) : Nat) : Int))) (((0 : Int) ≤ s.1.2.1) ∧ ((s.1.2.1 < (((List.length there) : Nat) : Int)) ∧ (joinW (S := ((Unit × Unit) × ((List Int) × Unit))) (fun s1 => ((T.ok (T.sl (T.int IntKind.i64)) s1.2.1) → ((inK IntKind.i64 (s.1.2.1 + (1 : Int))) ∧ (next (((), ((s.1.2.1 + (1 : Int)), ())), (s1.2.1, ())))))) (fun k => (cnd (List.getD there (Int.toNat s.1.2.1) Bool.false) ((room (List.length s.2.1) (List.length (s.1.2.1 :: ([] : List Int))) 8) ∧ (k (((), ()), ((s.2.1 ++ (s.1.2.1 :: ([] : List Int))), ())))) (k (((), ()), (s.2.1, ())))))))) (K (s.2.1, ()))))))) (((), ((0 : Int), ())), (([] : List Int), ())))
theorem w_impl_marked (x : denL c_impl_marked.args) (K : (List Int) × Unit → Prop) : evF tab (lkp []) (cutL []) Try.f100 (bodyOf Try.f100) (.s .n (.s .n (.s (.s .n (.l [(3, (.ref 800003 [])), (9, (.d (.int .i64)))] [(800003, (.sl (.fz (.int .i64))))] [7, 8] (.s .n (.s .n (.s (.s .n (.s .n (.j [(3, (.ref 800003 []))] [(800003, (.sl (.fz (.int .i64))))] [7, 8, 9] .n))) .n))))) .n))) c_impl_marked x K = W_impl_marked x.1 K := by kernel_rfl
theorem k_impl_marked : okC Try.f100.ntmps (cutL []) (bodyOf Try.f100) = true := by kernel_rfl
theorem m_impl_marked (there : List Bool) (hok : allP (okL c_impl_marked.args (there, ()))) (hpre : allP (c_impl_marked.pre (there, ()))) : W_impl_marked there (fun r => r = c_impl_marked.res (there, ())) := by
  simp only [c_impl_marked, okL, T.oks, T.ok, ap, allP, true_and, and_true, implies_true] at hok hpre
  try dsimp only [T.den] at hok
  try dsimp only [T.den] at hpre
  unfold W_impl_marked
  have hm : there.length ≤ 1099511627776 := hpre
  refine loop_of (fun (s : ((Unit × (Int × Unit)) × ((List Int) × Unit))) => 0 ≤ s.1.2.1 ∧ s.1.2.1 ≤ there.length ∧ s.2.1 = selR s.1.2.1.toNat fun i => there.getD i.toNat false) (fun (s : ((Unit × (Int × Unit)) × ((List Int) × Unit))) => (there.length - s.1.2.1).toNat) ?_ ⟨by simp, by simp, rfl⟩
  rintro ⟨⟨_, i, _⟩, l, _⟩ next ⟨h0, h1, h2⟩ hn hin hl
  try dsimp only at h0 h1 h2 hn ⊢
  subst h2
  refine cnd_d (fun hc => ⟨h0, hc, join_of (fun s1 => s1.2.1 = selR (i + 1).toNat fun i => there.getD i.toNat false) (fun s1 hs _ => ⟨by rw [inK64]; (try dsimp only); omega, hn _ ⟨(by first | omega | (dsimp only; omega)), (by first | omega | (dsimp only; omega)), hs⟩ (by first | omega | (dsimp only; omega))⟩) (fun k hk => cnd_of (fun hx => ⟨?_, hk _ ?_⟩) (fun hx => hk _ ?_))⟩) (fun hc => ?_)
  · have := sel_len (p := fun i => there.getD i.toNat false) i.toNat
    unfold room
    rw [nb_eq]
    have h3 : (i :: ([] : List Int)).length = 1 := rfl
    rw [h3]
    omega
  · exact (sel_t h0 hx).symm
  · exact (sel_f h0 hx).symm
  · have e1 : i.toNat = there.length := by omega
    simp only [c_impl_marked]
    rw [e1]
theorem ct_impl_marked : CtOk Try.prog 100 c_impl_marked :=
  ct_by (Φ := lkp []) good_nil tab_ok (by kernel_rfl) (fn := Try.f100) (c := bodyOf Try.f100) (by kernel_rfl) (by kernel_rfl) (by kernel_rfl) c_impl_marked rfl (.s .n (.s .n (.s (.s .n (.l [(3, (.ref 800003 [])), (9, (.d (.int .i64)))] [(800003, (.sl (.fz (.int .i64))))] [7, 8] (.s .n (.s .n (.s (.s .n (.s .n (.j [(3, (.ref 800003 []))] [(800003, (.sl (.fz (.int .i64))))] [7, 8, 9] .n))) .n))))) .n))) (cutL []) (by kernel_rfl) (by kernel_rfl) k_impl_marked (by decide) (fun x K => W_impl_marked x.1 K) w_impl_marked (fun x h1 h2 => m_impl_marked x.1 h1 h2)
def hasR (l : List Int) (n : Int) : Bool := l.any fun x => x == n

def c_impl_has : Ct := ⟨[(.sl (.int .i64)), (.int .i64)], [false, false], fun x => [], [(false, (.fz .bool))], fun x => (hasR x.1 x.2.1, ()), false, none⟩
def W_impl_has (list : List Int) (n : Int) (K : Bool × Unit → Prop) : Prop := (loopW (S := ((Int × Unit) × Unit)) (fun s => (fun next => ((inK IntKind.i64 s.1.1) → (cnd (decide (s.1.1 < (((List.length list) : Nat) : Int))) (((0 : Int) ≤ s.1.1) ∧ ((s.1.1 < (((List.length list) : Nat) : Int)) ∧ (cnd ((List.getD list (Int.toNat s.1.1) (0 : Int)) == n) (K (Bool.true, ())) ((inK IntKind.i64 (s.1.1 + (1 : Int))) ∧ (next (((s.1.1 + (1 : Int)), ()), ())))))) (K (Bool.false, ())))))) (((0 : Int), ()), ()))
theorem w_impl_has (x : denL c_impl_has.args) (K : Bool × Unit → Prop) : evF tab (lkp []) (cutL []) Try.f175 (bodyOf Try.f175) (.s .n (.s (.s .n (.l [(9, (.d (.int .i64)))] [] [1, 7, 8] .n)) .n)) c_impl_has x K = W_impl_has x.1 x.2.1 K := by kernel_rfl
theorem k_impl_has : okC Try.f175.ntmps (cutL []) (bodyOf Try.f175) = true := by kernel_rfl
theorem m_impl_has (list : List Int) (n : Int) (hok : allP (okL c_impl_has.args (list, n, ()))) (hpre : allP (c_impl_has.pre (list, n, ()))) : W_impl_has list n (fun r => r = c_impl_has.res (list, n, ())) := by
  simp only [c_impl_has, okL, T.oks, T.ok, ap, allP, true_and, and_true, implies_true] at hok hpre
  try dsimp only [T.den] at hok
  try dsimp only [T.den] at hpre
  unfold W_impl_has
  refine loop_of (fun (s : ((Int × Unit) × Unit)) => 0 ≤ s.1.1 ∧ s.1.1 ≤ list.length ∧ hasR list n = hasR (list.drop s.1.1.toNat) n) (fun (s : ((Int × Unit) × Unit)) => (list.length - s.1.1).toNat) ?_ (by simp)
  rintro ⟨⟨i, _⟩, _⟩ next ⟨h0, h1, h2⟩ hn hin
  simp only at h0 h1 h2 hn ⊢
  refine cnd_d (fun hc => ?_) (fun hc => ?_)
  · rw [drop_c list 0 h0 hc] at h2
    simp only [hasR, List.any_cons] at h2
    grind [cnd, nb_eq, inK64, c_impl_has, hasR]
  · rw [drop_n list (by omega)] at h2
    grind [cnd, nb_eq, inK64, c_impl_has, hasR]
theorem ct_impl_has : CtOk Try.prog 175 c_impl_has :=
  ct_by (Φ := lkp []) good_nil tab_ok (by kernel_rfl) (fn := Try.f175) (c := bodyOf Try.f175) (by kernel_rfl) (by kernel_rfl) (by kernel_rfl) c_impl_has rfl (.s .n (.s (.s .n (.l [(9, (.d (.int .i64)))] [] [1, 7, 8] .n)) .n)) (cutL []) (by kernel_rfl) (by kernel_rfl) k_impl_has (by decide) (fun x K => W_impl_has x.1 x.2.1 K) w_impl_has (fun x h1 h2 => m_impl_has x.1 x.2.1 h1 h2)
def imageR (n : Int) (l : List Int) : List Int := selR n.toNat fun y => hasR l y
theorem has_app {l r : List Int} {y : Int} : hasR (l ++ r) y = (hasR l y || hasR r y) := by simp [hasR]

def c_impl_image : Ct := ⟨[(.int .i64), (.sl (.int .i64))], [false, false], fun x => [0 ≤ x.1, x.1 ≤ 256, withinR x.2.1 x.1 = true], [(false, (.sl (.fz (.int .i64))))], fun x => (imageR x.1 x.2.1, ()), false, none⟩
def W_impl_image (n : Int) (f : List Int) (K : (List Int) × Unit → Prop) : Prop := (((0 : Int) ≤ n) ∧ ((n ≤ n) ∧ ((n ≤ ((140737488355328 : Nat) : Int)) ∧ (((n * ((1 : Nat) : Int)) ≤ ((140737488355328 : Nat) : Int)) ∧ (loopW (S := ((Unit × (Int × Unit)) × ((List Bool) × Unit))) (fun s => (fun next => ((inK IntKind.i64 s.1.2.1) → ((T.ok (T.sl T.bool) s.2.1) → (cnd (decide (s.1.2.1 < (((List.length f) : Nat) : Int))) (((0 : Int) ≤ s.1.2.1) ∧ ((s.1.2.1 < (((List.length f) : Nat) : Int)) ∧ (((0 : Int) ≤ (List.getD f (Int.toNat s.1.2.1) (0 : Int))) ∧ (((List.getD f (Int.toNat s.1.2.1) (0 : Int)) < (((List.length s.2.1) : Nat) : Int)) ∧ ((inK IntKind.i64 (s.1.2.1 + (1 : Int))) ∧ (next (((), ((s.1.2.1 + (1 : Int)), ())), ((List.set s.2.1 (Int.toNat (List.getD f (Int.toNat s.1.2.1) (0 : Int))) Bool.true), ())))))))) (((List.length s.2.1) ≤ 1099511627776) ∧ (K ((selR (List.length s.2.1) (fun i => (List.getD s.2.1 (Int.toNat i) Bool.false))), ())))))))) (((), ((0 : Int), ())), ((List.replicate (Int.toNat n) Bool.false), ())))))))
theorem w_impl_image (x : denL c_impl_image.args) (K : (List Int) × Unit → Prop) : evF tab (lkp [(100, c_impl_marked)]) (cutL []) Try.f131 (bodyOf Try.f131) (.s .n (.s .n (.s (.s .n (.l [(5, (.ref 9 [])), (12, (.d (.int .i64)))] [(9, (.sl (.fz .bool)))] [10, 11] .n)) .n))) c_impl_image x K = W_impl_image x.1 x.2.1 K := by kernel_rfl
theorem k_impl_image : okC Try.f131.ntmps (cutL []) (bodyOf Try.f131) = true := by kernel_rfl
theorem m_impl_image (n : Int) (f : List Int) (hok : allP (okL c_impl_image.args (n, f, ()))) (hpre : allP (c_impl_image.pre (n, f, ()))) : W_impl_image n f (fun r => r = c_impl_image.res (n, f, ())) := by
  simp only [c_impl_image, okL, T.oks, T.ok, ap, allP, true_and, and_true, implies_true] at hok hpre
  try dsimp only [T.den] at hok
  try dsimp only [T.den] at hpre
  unfold W_impl_image
  have hn0 : 0 ≤ n := hpre.1
  have hn1 : n ≤ 256 := hpre.2.1
  have hw := within_iff.1 hpre.2.2
  have hl : f.length ≤ 140737488355328 := by simp only [nb_eq] at hok; omega
  refine ⟨hn0, Int.le_refl _, by omega, by omega, ?_⟩
  refine loop_of (fun (s : ((Unit × (Int × Unit)) × ((List Bool) × Unit))) => 0 ≤ s.1.2.1 ∧ s.1.2.1 ≤ f.length ∧ s.2.1.length = n.toNat ∧ ∀ y : Int, 0 ≤ y → y < n → s.2.1.getD y.toNat false = hasR (f.take s.1.2.1.toNat) y) (fun (s : ((Unit × (Int × Unit)) × ((List Bool) × Unit))) => (f.length - s.1.2.1).toNat) ?_ ⟨by simp, by simp, by simp, fun y y0 y1 => ?_⟩
  · rintro ⟨⟨_, i, _⟩, l, _⟩ next ⟨h0, h1, h2, h3⟩ hn hin hok2
    try dsimp only at h0 h1 h2 h3 hn ⊢
    refine cnd_d (fun hc => ?_) (fun hc => ?_)
    · have hf := hw i h0 hc
      refine ⟨h0, hc, hf.1, by omega, by rw [inK64]; (try dsimp only); omega, hn _ ⟨(by first | omega | (dsimp only; omega)), (by first | omega | (dsimp only; omega)), by simp [h2], fun y y0 y1 => ?_⟩ (by first | omega | (dsimp only; omega))⟩
      try dsimp only
      rw [set_getD _ _ _ _ _ (by omega), take_c f 0 h0 hc, has_app, ← h3 y y0 y1]
      by_cases e : f.getD i.toNat 0 = y
      · rw [if_pos (by rw [e])]; simp only [hasR, List.any_cons, List.any_nil, e, beq_self_eq_true, Bool.true_or, Bool.or_true]
      · rw [if_neg (by omega)]; simp only [hasR, List.any_cons, List.any_nil, beq_eq_false_iff_ne.2 e, Bool.or_false]
    · rw [take_n f (by omega)] at h3
      refine ⟨by omega, ?_⟩
      simp only [c_impl_image, imageR, h2]
      rw [sel_congr fun i i0 i1 => h3 i i0 (by omega)]
  · try dsimp only
    rw [List.getD_eq_getElem?_getD, List.getElem?_replicate]
    simp only [hasR]
    split <;> simp
theorem ct_impl_image : CtOk Try.prog 131 c_impl_image :=
  ct_by (Φ := lkp [(100, c_impl_marked)]) (good_cons ct_impl_marked good_nil) tab_ok (by kernel_rfl) (fn := Try.f131) (c := bodyOf Try.f131) (by kernel_rfl) (by kernel_rfl) (by kernel_rfl) c_impl_image rfl (.s .n (.s .n (.s (.s .n (.l [(5, (.ref 9 [])), (12, (.d (.int .i64)))] [(9, (.sl (.fz .bool)))] [10, 11] .n)) .n))) (cutL []) (by kernel_rfl) (by kernel_rfl) k_impl_image (by decide) (fun x K => W_impl_image x.1 x.2.1 K) w_impl_image (fun x h1 h2 => m_impl_image x.1 x.2.1 h1 h2)
def bijR (l : List Int) (n : Int) : Bool := ((l.length : Int) == n) && withinR l n && (((imageR n l).length : Int) == n)

def c_impl_isBijective : Ct := ⟨[(.sl (.int .i64)), (.int .i64)], [false, false], fun x => [0 ≤ x.2.1, x.2.1 ≤ 256], [(false, (.fz .bool))], fun x => (bijR x.1 x.2.1, ()), false, none⟩
def W_impl_isBijective (list : List Int) (n : Int) (K : Bool × Unit → Prop) : Prop := (((((((List.length list) : Nat) : Int) == n) = Bool.true) → (inK IntKind.i64 (n - (1 : Int)))) ∧ ((((((((List.length list) : Nat) : Int) == n) && (withinR list n)) = Bool.true) → ((n ≤ (256 : Int)) ∧ (((withinR list n) = Bool.true) ∧ ((0 : Int) ≤ n)))) ∧ (K (((((((List.length list) : Nat) : Int) == n) && (withinR list n)) && ((((List.length (imageR n list)) : Nat) : Int) == n)), ()))))
theorem w_impl_isBijective (x : denL c_impl_isBijective.args) (K : Bool × Unit → Prop) : evF tab (lkp [(131, c_impl_image), (85, c_impl_within)]) (cutL []) Try.f80 (bodyOf Try.f80) .n c_impl_isBijective x K = W_impl_isBijective x.1 x.2.1 K := by kernel_rfl
theorem k_impl_isBijective : okC Try.f80.ntmps (cutL []) (bodyOf Try.f80) = true := by kernel_rfl
theorem m_impl_isBijective (list : List Int) (n : Int) (hok : allP (okL c_impl_isBijective.args (list, n, ()))) (hpre : allP (c_impl_isBijective.pre (list, n, ()))) : W_impl_isBijective list n (fun r => r = c_impl_isBijective.res (list, n, ())) := by
  simp only [c_impl_isBijective, okL, T.oks, T.ok, ap, allP, true_and, and_true, implies_true] at hok hpre
  try dsimp only [T.den] at hok
  try dsimp only [T.den] at hpre
  unfold W_impl_isBijective
  have hn0 : 0 ≤ n := hpre.1
  have hn1 : n ≤ 256 := hpre.2
  exact ⟨fun _ => by rw [inK64]; (try dsimp only); omega, fun h => ⟨hn1, (Bool.and_eq_true _ _ ▸ h).2, hn0⟩, rfl⟩
theorem ct_impl_isBijective : CtOk Try.prog 80 c_impl_isBijective :=
  ct_by (Φ := lkp [(131, c_impl_image), (85, c_impl_within)]) (good_cons ct_impl_image (good_cons ct_impl_within good_nil)) tab_ok (by kernel_rfl) (fn := Try.f80) (c := bodyOf Try.f80) (by kernel_rfl) (by kernel_rfl) (by kernel_rfl) c_impl_isBijective rfl .n (cutL []) (by kernel_rfl) (by kernel_rfl) k_impl_isBijective (by decide) (fun x K => W_impl_isBijective x.1 x.2.1 K) w_impl_isBijective (fun x h1 h2 => m_impl_isBijective x.1 x.2.1 h1 h2)
def univR (f : SetFunctorD) (x e : Int) : Bool := allB f.1.1.toNat fun y => bijR (partR f x e y) (f.2.1.getD y.toNat 0)

def c_impl_SetFunctor_isUniversalElement : Ct := ⟨[(.pt SetFunctorT), (.int .i64), (.int .i64)], [false, false, false], fun x => [SfP x.1, 0 ≤ x.2.1, x.2.1 < x.1.1.1, 0 ≤ x.2.2.1, x.2.2.1 < x.1.2.1.getD x.2.1.toNat 0], [(false, (.fz .bool))], fun x => (univR x.1 x.2.1 x.2.2.1, ()), false, none⟩
def W_impl_SetFunctor_isUniversalElement (f : SetFunctorD) (x : Int) (e : Int) (K : Bool × Unit → Prop) : Prop := ((SfP f) ∧ (((0 : Int) ≤ x) ∧ ((x < f.1.1) ∧ (((0 : Int) ≤ e) ∧ ((e < (List.getD f.2.1 (Int.toNat x) (0 : Int))) ∧ (loopW (S := ((Int × Unit) × Unit)) (fun s => (fun next => ((inK IntKind.i64 s.1.1) → (cnd (decide (s.1.1 < (((List.length (partsR f x e)) : Nat) : Int))) (((0 : Int) ≤ s.1.1) ∧ ((s.1.1 < (((List.length (partsR f x e)) : Nat) : Int)) ∧ (((0 : Int) ≤ s.1.1) ∧ ((s.1.1 < (((List.length f.2.1) : Nat) : Int)) ∧ (((0 : Int) ≤ (List.getD f.2.1 (Int.toNat s.1.1) (0 : Int))) ∧ (((List.getD f.2.1 (Int.toNat s.1.1) (0 : Int)) ≤ (256 : Int)) ∧ (cnd (!(bijR (List.getD (partsR f x e) (Int.toNat s.1.1) ([] : List Int)) (List.getD f.2.1 (Int.toNat s.1.1) (0 : Int)))) (K (Bool.false, ())) ((inK IntKind.i64 (s.1.1 + (1 : Int))) ∧ (next (((s.1.1 + (1 : Int)), ()), ())))))))))) (K (Bool.true, ())))))) (((0 : Int), ()), ())))))))
theorem w_impl_SetFunctor_isUniversalElement (x : denL c_impl_SetFunctor_isUniversalElement.args) (K : Bool × Unit → Prop) : evF tab (lkp [(79, c_impl_SetFunctor_elementParts), (80, c_impl_isBijective)]) (cutL []) Try.f48 (bodyOf Try.f48) (.s .n (.s (.s .n (.l [(14, (.d (.int .i64)))] [] [0, 12, 13] .n)) .n)) c_impl_SetFunctor_isUniversalElement x K = W_impl_SetFunctor_isUniversalElement x.1 x.2.1 x.2.2.1 K := by kernel_rfl
theorem k_impl_SetFunctor_isUniversalElement : okC Try.f48.ntmps (cutL []) (bodyOf Try.f48) = true := by kernel_rfl
theorem m_impl_SetFunctor_isUniversalElement (f : SetFunctorD) (x : Int) (e : Int) (hok : allP (okL c_impl_SetFunctor_isUniversalElement.args (f, x, e, ()))) (hpre : allP (c_impl_SetFunctor_isUniversalElement.pre (f, x, e, ()))) : W_impl_SetFunctor_isUniversalElement f x e (fun r => r = c_impl_SetFunctor_isUniversalElement.res (f, x, e, ())) := by
  simp only [c_impl_SetFunctor_isUniversalElement, okL, T.oks, T.ok, ap, allP, true_and, and_true, implies_true] at hok hpre
  try dsimp only [T.den] at hok
  try dsimp only [T.den] at hpre
  unfold W_impl_SetFunctor_isUniversalElement
  obtain ⟨S, x0, x1, e0, e1⟩ := hpre
  have C := cat_shape S.cat
  have hob := C.ob
  have hlz := S.lz
  have hl : (partsR f x e).length = f.1.1.toNat := tabN_len _
  have res : ∀ b, univR f x e = b → (b, ()) = c_impl_SetFunctor_isUniversalElement.res (f, x, e, ()) := fun b h => by simp only [c_impl_SetFunctor_isUniversalElement, h]
  refine ⟨S, x0, x1, e0, e1, ?_⟩
  refine loop_allB f.1.1.toNat (fun y => bijR (partR f x e y) (f.2.1.getD y.toNat 0)) ?_ ?_
  · intro y next y0 y1 hno hyes _
    have hz := S.size y0 (by omega)
    have hg : (partsR f x e).getD y.toNat [] = partR f x e y := tabN_get y0 y1
    try dsimp only
    rw [hg]
    refine cnd_d (fun _ => ⟨y0, by omega, y0, by omega, hz.1, by omega, cnd_of (fun hx => res _ ?_) (fun hx => ⟨by rw [inK64]; (try dsimp only); omega, hyes (by simpa using hx)⟩)⟩) (fun h => absurd (by omega) h)
    unfold univR; exact hno (by simpa using hx)
  · intro next h _
    exact cnd_d (fun h => absurd h (by dsimp only; omega)) (fun _ => res _ h)
theorem ct_impl_SetFunctor_isUniversalElement : CtOk Try.prog 48 c_impl_SetFunctor_isUniversalElement :=
  ct_by (Φ := lkp [(79, c_impl_SetFunctor_elementParts), (80, c_impl_isBijective)]) (good_cons ct_impl_SetFunctor_elementParts (good_cons ct_impl_isBijective good_nil)) tab_ok (by kernel_rfl) (fn := Try.f48) (c := bodyOf Try.f48) (by kernel_rfl) (by kernel_rfl) (by kernel_rfl) c_impl_SetFunctor_isUniversalElement rfl (.s .n (.s (.s .n (.l [(14, (.d (.int .i64)))] [] [0, 12, 13] .n)) .n)) (cutL []) (by kernel_rfl) (by kernel_rfl) k_impl_SetFunctor_isUniversalElement (by decide) (fun x K => W_impl_SetFunctor_isUniversalElement x.1 x.2.1 x.2.2.1 K) w_impl_SetFunctor_isUniversalElement (fun x h1 h2 => m_impl_SetFunctor_isUniversalElement x.1 x.2.1 x.2.2.1 h1 h2)
def uelR (f : SetFunctorD) : List (List Int) := (pairsR f).filter fun p => univR f (p.getD 0 0) (p.getD 1 0)
def uelsR (f : SetFunctorD) : List (List Int) × Int := if setfR f = true then (uelR f, 0) else ([], 1)
theorem pairs_mem {f : SetFunctorD} {p : List Int} (hz : ∀ x : Int, 0 ≤ x → x < f.2.1.length → 0 ≤ f.2.1.getD x.toNat 0) (h : p ∈ pairsR f) : ∃ x e : Int, p = [x, e] ∧ 0 ≤ x ∧ x < f.2.1.length ∧ 0 ≤ e ∧ e < f.2.1.getD x.toNat 0 := by
  unfold pairsR at h
  obtain ⟨l, hl, hp⟩ := List.mem_flatten.1 h
  obtain ⟨x, x0, x1, rfl⟩ := tabN_mem.1 hl
  obtain ⟨e, e0, e1, rfl⟩ := tabN_mem.1 hp
  have := hz x x0 x1
  exact ⟨x, e, rfl, x0, x1, e0, by omega⟩
theorem pairs_len {f : SetFunctorD} (S : SfP f) : (pairsR f).length ≤ 128 := by
  have C := (cat_shape S.cat).ob
  have hlz := S.lz
  have := flat_le (B := 16) (L := tabN f.2.1.length fun x => pairR x (f.2.1.getD x.toNat 0).toNat) (fun l hl => by
    obtain ⟨x, x0, x1, rfl⟩ := tabN_mem.1 hl
    have := S.size x0 (by omega)
    unfold pairR; rw [tabN_len]; omega)
  rw [tabN_len] at this
  unfold pairsR; omega
theorem fil_1t {α : Type} {p : α → Bool} {a : α} (h : p a = true) : [a].filter p = [a] := by rw [List.filter_cons, if_pos h]; rfl
theorem fil_1f {α : Type} {p : α → Bool} {a : α} (h : p a = false) : [a].filter p = [] := by rw [List.filter_cons, if_neg (by rw [h]; simp)]; rfl

def c_impl_UniversalElements : Ct := ⟨[SetFunctorT], [true], fun x => [], [(false, (.sl (.sl (.fz (.int .i64))))), (false, (.fz (.int .i64)))], fun x => ((uelsR x.1).1, (uelsR x.1).2, ()), false, none⟩
def W_impl_UniversalElements (f : SetFunctorD) (K : (List (List Int)) × Int × Unit → Prop) : Prop := (cnd (!(setfR f)) (K (([] : List (List Int)), ((1 : Int), ()))) (((List.length f.2.1) ≤ 8) ∧ (((withinR f.2.1 (17 : Int)) = Bool.true) ∧ (loopW (S := ((Unit × (Unit × (Int × Unit))) × ((List (List Int)) × ((List (Option (List Int))) × Unit)))) (fun s => (fun next => ((inK IntKind.i64 s.1.2.2.1) → ((T.ok (T.sl (T.sl (T.int IntKind.i64))) s.2.1) → ((T.ok (T.sl (T.op (T.sl (T.int IntKind.i64)))) s.2.2.1) → (cnd (decide (s.1.2.2.1 < (((List.length (pairsR f)) : Nat) : Int))) (((0 : Int) ≤ s.1.2.2.1) ∧ ((s.1.2.2.1 < (((List.length s.2.2.1) : Nat) : Int)) ∧ (((ownAtR s.2.2.1 (Int.toNat s.1.2.2.1)) = Bool.true) ∧ (((0 : Int) ≤ (0 : Int)) ∧ (((0 : Int) < (((List.length (rowAtR ([] : List Int) s.2.2.1 (Int.toNat s.1.2.2.1))) : Nat) : Int)) ∧ (((0 : Int) ≤ (1 : Int)) ∧ (((1 : Int) < (((List.length (rowAtR ([] : List Int) s.2.2.1 (Int.toNat s.1.2.2.1))) : Nat) : Int)) ∧ ((SfP f) ∧ (((0 : Int) ≤ (List.getD (rowAtR ([] : List Int) s.2.2.1 (Int.toNat s.1.2.2.1)) (Int.toNat (0 : Int)) (0 : Int))) ∧ (((List.getD (rowAtR ([] : List Int) s.2.2.1 (Int.toNat s.1.2.2.1)) (Int.toNat (0 : Int)) (0 : Int)) < f.1.1) ∧ (((0 : Int) ≤ (List.getD (rowAtR ([] : List Int) s.2.2.1 (Int.toNat s.1.2.2.1)) (Int.toNat (1 : Int)) (0 : Int))) ∧ (((List.getD (rowAtR ([] : List Int) s.2.2.1 (Int.toNat s.1.2.2.1)) (Int.toNat (1 : Int)) (0 : Int)) < (List.getD f.2.1 (Int.toNat (List.getD (rowAtR ([] : List Int) s.2.2.1 (Int.toNat s.1.2.2.1)) (Int.toNat (0 : Int)) (0 : Int))) (0 : Int))) ∧ (joinW (S := ((Unit × (Unit × Unit)) × ((List (List Int)) × ((List (Option (List Int))) × Unit)))) (fun s1 => ((T.ok (T.sl (T.sl (T.int IntKind.i64))) s1.2.1) → ((T.ok (T.sl (T.op (T.sl (T.int IntKind.i64)))) s1.2.2.1) → ((inK IntKind.i64 (s.1.2.2.1 + (1 : Int))) ∧ (next (((), ((), ((s.1.2.2.1 + (1 : Int)), ()))), (s1.2.1, (s1.2.2.1, ())))))))) (fun k => (cnd (univR f (List.getD (rowAtR ([] : List Int) s.2.2.1 (Int.toNat s.1.2.2.1)) (Int.toNat (0 : Int)) (0 : Int)) (List.getD (rowAtR ([] : List Int) s.2.2.1 (Int.toNat s.1.2.2.1)) (Int.toNat (1 : Int)) (0 : Int))) ((room (List.length s.2.1) (List.length ((rowAtR ([] : List Int) s.2.2.1 (Int.toNat s.1.2.2.1)) :: ([] : List (List Int)))) 24) ∧ (k (((), ((), ())), ((s.2.1 ++ ((rowAtR ([] : List Int) s.2.2.1 (Int.toNat s.1.2.2.1)) :: ([] : List (List Int)))), ((List.set s.2.2.1 (Int.toNat s.1.2.2.1) (none : Option (List Int))), ()))))) (k (((), ((), ())), (s.2.1, ((List.set s.2.2.1 (Int.toNat s.1.2.2.1) (none : Option (List Int))), ()))))))))))))))))))) (K (s.2.1, ((0 : Int), ()))))))))) (((), ((), ((0 : Int), ()))), (([] : List (List Int)), ((opnR (pairsR f)), ())))))))
theorem w_impl_UniversalElements (x : denL c_impl_UniversalElements.args) (K : (List (List Int)) × Int × Unit → Prop) : evF tab (lkp [(47, c_impl_SetFunctor_elementPairs), (46, c_impl_SetFunctor_isSetFunctor), (48, c_impl_SetFunctor_isUniversalElement)]) (cutL [(7, 6)]) Try.f13 (bodyOf Try.f13) (.s .n (.s .n (.s .n (.s (.s .n (.l [(4, (.ref 800004 [])), (10, (.ref 101000 [])), (12, (.d (.int .i64)))] [(800004, (.sl (.sl (.fz (.int .i64))))), (101000, (.sl (.op (.sl (.fz (.int .i64))))))] [1, 11] (.s .n (.s .n (.s (.s .n (.s .n (.j [(4, (.ref 800004 [])), (10, (.ref 101000 []))] [(800004, (.sl (.sl (.fz (.int .i64))))), (101000, (.sl (.op (.sl (.fz (.int .i64))))))] [1, 11, 12] .n))) .n))))) .n)))) c_impl_UniversalElements x K = W_impl_UniversalElements x.1 K := by kernel_rfl
theorem k_impl_UniversalElements : okC Try.f13.ntmps (cutL [(7, 6)]) (bodyOf Try.f13) = true := by kernel_rfl
theorem m_impl_UniversalElements (f : SetFunctorD) (hok : allP (okL c_impl_UniversalElements.args (f, ()))) (hpre : allP (c_impl_UniversalElements.pre (f, ()))) : W_impl_UniversalElements f (fun r => r = c_impl_UniversalElements.res (f, ())) := by
  simp only [c_impl_UniversalElements, okL, T.oks, T.ok, ap, allP, true_and, and_true, implies_true] at hok hpre
  try dsimp only [T.den] at hok
  try dsimp only [T.den] at hpre
  unfold W_impl_UniversalElements
  refine cnd_of (fun hx => ?_) (fun hx => ?_)
  · simp only [c_impl_UniversalElements, uelsR]; rw [if_neg (by simpa using hx)]
  have hf : setfR f = true := by simpa using hx
  have S := setf_sf hf
  have hob := (cat_shape S.cat).ob
  have hlz := S.lz
  have hpl := pairs_len S
  refine ⟨by omega, S.wz, ?_⟩
  refine loop_of (fun (s : ((Unit × (Unit × (Int × Unit))) × ((List (List Int)) × ((List (Option (List Int))) × Unit)))) => 0 ≤ s.1.2.2.1 ∧ s.1.2.2.1 ≤ (pairsR f).length ∧ s.2.1 = ((pairsR f).take s.1.2.2.1.toNat).filter (fun p => univR f (p.getD 0 0) (p.getD 1 0)) ∧ s.2.2.1.length = (pairsR f).length ∧ ∀ i : Nat, s.1.2.2.1.toNat ≤ i → i < (pairsR f).length → s.2.2.1.getD i none = some ((pairsR f).getD i [])) (fun (s : ((Unit × (Unit × (Int × Unit))) × ((List (List Int)) × ((List (Option (List Int))) × Unit)))) => ((pairsR f).length - s.1.2.2.1).toNat) ?_ ⟨by simp, by simp, by simp, opn_len, fun i _ hi => by rw [opn_get hi, List.getD_eq_getElem?_getD, List.getElem?_eq_getElem hi]; rfl⟩
  rintro ⟨⟨_, _, i, _⟩, out, q, _⟩ next ⟨i0, i1, ho, hq, hr⟩ hn hin _ _
  try dsimp only at i0 i1 ho hq hr hn ⊢
  refine cnd_d (fun hc => ?_) (fun hc => ?_)
  · have hri := hr i.toNat (Nat.le_refl _) (by omega)
    have hrow : rowAtR [] q i.toNat = (pairsR f).getD i.toNat [] := by simp only [rowAtR, hri, Option.getD_some]
    have hown : ownAtR q i.toNat = true := by simp only [ownAtR, hri, Option.isSome_some]
    have ht := take_c (pairsR f) [] i0 hc
    obtain ⟨x, e, hxe, x0, x1, e0, e1⟩ := pairs_mem (fun x x0 x1 => (S.size x0 (by omega)).1) (getD_mem (pairsR f) [] i0 hc)
    rw [hrow]
    have hol : out.length ≤ 128 := by
      rw [ho]; exact Nat.le_trans (List.length_filter_le _ _) (by rw [List.length_take]; omega)
    have hset : (q.set i.toNat none).length = (pairsR f).length := by rw [List.length_set]; exact hq
    have hrest : ∀ k : Nat, (i + 1).toNat ≤ k → k < (pairsR f).length → (q.set i.toNat none).getD k none = some ((pairsR f).getD k []) := fun k hk hk2 => by
      rw [set_getD q i.toNat k none none (by omega), if_neg (by omega)]
      exact hr k (by omega) hk2
    generalize (pairsR f).getD i.toNat [] = r at *
    subst hxe
    refine ⟨i0, by omega, hown, by omega, by simp, by omega, by simp, S, x0, (by omega : x < f.1.1), e0, e1, ?_⟩
    refine join_of (fun (s : ((Unit × (Unit × Unit)) × ((List (List Int)) × ((List (Option (List Int))) × Unit)))) => s.2.1 = ((pairsR f).take (i + 1).toNat).filter (fun p => univR f (p.getD 0 0) (p.getD 1 0)) ∧ s.2.2.1 = q.set i.toNat none) (fun s hs _ _ => ⟨by rw [inK64]; (try dsimp only); omega, hn _ ⟨by dsimp only; omega, by dsimp only; omega, hs.1, by dsimp only; rw [hs.2]; exact hset, by dsimp only; rw [hs.2]; exact hrest⟩ (by dsimp only; omega)⟩) (fun k hk => ?_)
    rw [ht, List.filter_append, ← ho] at hk
    refine cnd_of (fun hu => ⟨room_of (by simp only [List.length_cons, List.length_nil]; omega), hk _ ⟨?_, rfl⟩⟩) (fun hu => hk _ ⟨?_, rfl⟩)
    · rw [fil_1t (p := fun p : List Int => univR f (p.getD 0 0) (p.getD 1 0)) (a := [x, e]) hu]
    · rw [fil_1f (p := fun p : List Int => univR f (p.getD 0 0) (p.getD 1 0)) (a := [x, e]) hu, List.append_nil]
  · simp only [c_impl_UniversalElements, uelsR, if_pos hf, uelR]
    rw [ho, take_n _ (by omega)]
theorem ct_impl_UniversalElements : CtOk Try.prog 13 c_impl_UniversalElements :=
  ct_by (Φ := lkp [(47, c_impl_SetFunctor_elementPairs), (46, c_impl_SetFunctor_isSetFunctor), (48, c_impl_SetFunctor_isUniversalElement)]) (good_cons ct_impl_SetFunctor_elementPairs (good_cons ct_impl_SetFunctor_isSetFunctor (good_cons ct_impl_SetFunctor_isUniversalElement good_nil))) tab_ok (by kernel_rfl) (fn := Try.f13) (c := bodyOf Try.f13) (by kernel_rfl) (by kernel_rfl) (by kernel_rfl) c_impl_UniversalElements rfl (.s .n (.s .n (.s .n (.s (.s .n (.l [(4, (.ref 800004 [])), (10, (.ref 101000 [])), (12, (.d (.int .i64)))] [(800004, (.sl (.sl (.fz (.int .i64))))), (101000, (.sl (.op (.sl (.fz (.int .i64))))))] [1, 11] (.s .n (.s .n (.s (.s .n (.s .n (.j [(4, (.ref 800004 [])), (10, (.ref 101000 []))] [(800004, (.sl (.sl (.fz (.int .i64))))), (101000, (.sl (.op (.sl (.fz (.int .i64))))))] [1, 11, 12] .n))) .n))))) .n)))) (cutL [(7, 6)]) (by kernel_rfl) (by kernel_rfl) k_impl_UniversalElements (by decide) (fun x K => W_impl_UniversalElements x.1 K) w_impl_UniversalElements (fun x h1 h2 => m_impl_UniversalElements x.1 h1 h2)
def c_laws_eqInt64S : Ct := ⟨[(.sl (.int .i64)), (.sl (.int .i64))], [false, false], fun x => [], [(false, (.fz .bool))], fun x => (eqR (.sl (.int .i64)) x.1 x.2.1, ()), false, none⟩
def W_laws_eqInt64S (a : List Int) (b : List Int) (K : Bool × Unit → Prop) : Prop := (cnd ((((List.length a) : Nat) : Int) != (((List.length b) : Nat) : Int)) (K (Bool.false, ())) (loopW (S := ((Int × Unit) × Unit)) (fun s => (fun next => ((inK IntKind.i64 s.1.1) → (cnd (decide (s.1.1 < (((List.length a) : Nat) : Int))) (((0 : Int) ≤ s.1.1) ∧ ((s.1.1 < (((List.length a) : Nat) : Int)) ∧ (((0 : Int) ≤ s.1.1) ∧ ((s.1.1 < (((List.length b) : Nat) : Int)) ∧ (cnd ((List.getD a (Int.toNat s.1.1) (0 : Int)) != (List.getD b (Int.toNat s.1.1) (0 : Int))) (K (Bool.false, ())) ((inK IntKind.i64 (s.1.1 + (1 : Int))) ∧ (next (((s.1.1 + (1 : Int)), ()), ())))))))) (K (Bool.true, ())))))) (((0 : Int), ()), ())))
theorem w_laws_eqInt64S (x : denL c_laws_eqInt64S.args) (K : Bool × Unit → Prop) : evF tab (lkp []) (cutL [(6, 9)]) Try.f31 (bodyOf Try.f31) (.s .n (.s .n (.s (.s .n (.l [(5, (.d (.int .i64)))] [] [0, 1] .n)) .n))) c_laws_eqInt64S x K = W_laws_eqInt64S x.1 x.2.1 K := by kernel_rfl
theorem k_laws_eqInt64S : okC Try.f31.ntmps (cutL [(6, 9)]) (bodyOf Try.f31) = true := by kernel_rfl
theorem m_laws_eqInt64S (a : List Int) (b : List Int) (hok : allP (okL c_laws_eqInt64S.args (a, b, ()))) (hpre : allP (c_laws_eqInt64S.pre (a, b, ()))) : W_laws_eqInt64S a b (fun r => r = c_laws_eqInt64S.res (a, b, ())) := by
  simp only [c_laws_eqInt64S, okL, T.oks, T.ok, ap, allP, true_and, and_true, implies_true] at hok hpre
  try dsimp only [T.den] at hok
  try dsimp only [T.den] at hpre
  unfold W_laws_eqInt64S
  refine cnd_of (fun hc => ?_) (fun hc => ?_)
  · simp only [c_laws_eqInt64S, Prod.mk.injEq, and_true]; rw [eqR_f]; rintro rfl; simp at hc
  have hl : a.length = b.length := by simp at hc; omega
  refine loop_of (fun (s : ((Int × Unit) × Unit)) => 0 ≤ s.1.1 ∧ s.1.1 ≤ a.length ∧ a.take s.1.1.toNat = b.take s.1.1.toNat) (fun (s : ((Int × Unit) × Unit)) => (a.length - s.1.1).toNat) ?_ (by simp)
  rintro ⟨⟨i, _⟩, _⟩ next ⟨h0, h1, h2⟩ hn hin
  simp only at h0 h1 h2 hn ⊢
  refine cnd_d (fun hc => ?_) (fun hc => ?_)
  · have ha := take_c a (0 : Int) h0 hc
    have hb := take_c b (0 : Int) h0 (by omega)
    refine ⟨by omega, by omega, by omega, by omega, cnd_of (fun hd => ?_) (fun hd => ?_)⟩
    · simp only [c_laws_eqInt64S, Prod.mk.injEq, and_true]; rw [eqR_f]; rintro rfl; simp at hd
    · refine ⟨by grind [cnd, nb_eq, inK64], hn _ ⟨(by first | omega | (dsimp only; omega)), (by first | omega | (dsimp only; omega)), ?_⟩ (by first | omega | (dsimp only; omega))⟩
      simp only [Bool.not_eq_false', eqR_iff, bne_eq_false_iff_eq] at hd
      simp only [ha, hb, h2, hd]
  · rw [take_n a (by omega), take_n b (by omega)] at h2
    simp [h2, c_laws_eqInt64S]
theorem ct_laws_eqInt64S : CtOk Try.prog 31 c_laws_eqInt64S :=
  ct_by (Φ := lkp []) good_nil tab_ok (by kernel_rfl) (fn := Try.f31) (c := bodyOf Try.f31) (by kernel_rfl) (by kernel_rfl) (by kernel_rfl) c_laws_eqInt64S rfl (.s .n (.s .n (.s (.s .n (.l [(5, (.d (.int .i64)))] [] [0, 1] .n)) .n))) (cutL [(6, 9)]) (by kernel_rfl) (by kernel_rfl) k_laws_eqInt64S (by decide) (fun x K => W_laws_eqInt64S x.1 x.2.1 K) w_laws_eqInt64S (fun x h1 h2 => m_laws_eqInt64S x.1 x.2.1 h1 h2)
def c_laws_eqInt64SS : Ct := ⟨[(.sl (.sl (.int .i64))), (.sl (.sl (.int .i64)))], [false, false], fun x => [], [(false, (.fz .bool))], fun x => (eqR (.sl (.sl (.int .i64))) x.1 x.2.1, ()), false, none⟩
def W_laws_eqInt64SS (a : List (List Int)) (b : List (List Int)) (K : Bool × Unit → Prop) : Prop := (cnd ((((List.length a) : Nat) : Int) != (((List.length b) : Nat) : Int)) (K (Bool.false, ())) (loopW (S := ((Int × Unit) × Unit)) (fun s => (fun next => ((inK IntKind.i64 s.1.1) → (cnd (decide (s.1.1 < (((List.length a) : Nat) : Int))) (((0 : Int) ≤ s.1.1) ∧ ((s.1.1 < (((List.length a) : Nat) : Int)) ∧ (((0 : Int) ≤ s.1.1) ∧ ((s.1.1 < (((List.length b) : Nat) : Int)) ∧ (cnd (!(eqR (T.sl (T.int IntKind.i64)) (List.getD a (Int.toNat s.1.1) ([] : List Int)) (List.getD b (Int.toNat s.1.1) ([] : List Int)))) (K (Bool.false, ())) ((inK IntKind.i64 (s.1.1 + (1 : Int))) ∧ (next (((s.1.1 + (1 : Int)), ()), ())))))))) (K (Bool.true, ())))))) (((0 : Int), ()), ())))
theorem w_laws_eqInt64SS (x : denL c_laws_eqInt64SS.args) (K : Bool × Unit → Prop) : evF tab (lkp [(31, c_laws_eqInt64S)]) (cutL [(6, 10)]) Try.f14 (bodyOf Try.f14) (.s .n (.s .n (.s (.s .n (.l [(5, (.d (.int .i64)))] [] [0, 1] .n)) .n))) c_laws_eqInt64SS x K = W_laws_eqInt64SS x.1 x.2.1 K := by kernel_rfl
theorem k_laws_eqInt64SS : okC Try.f14.ntmps (cutL [(6, 10)]) (bodyOf Try.f14) = true := by kernel_rfl
theorem m_laws_eqInt64SS (a : List (List Int)) (b : List (List Int)) (hok : allP (okL c_laws_eqInt64SS.args (a, b, ()))) (hpre : allP (c_laws_eqInt64SS.pre (a, b, ()))) : W_laws_eqInt64SS a b (fun r => r = c_laws_eqInt64SS.res (a, b, ())) := by
  simp only [c_laws_eqInt64SS, okL, T.oks, T.ok, ap, allP, true_and, and_true, implies_true] at hok hpre
  try dsimp only [T.den] at hok
  try dsimp only [T.den] at hpre
  unfold W_laws_eqInt64SS
  refine cnd_of (fun hc => ?_) (fun hc => ?_)
  · simp only [c_laws_eqInt64SS, Prod.mk.injEq, and_true]; rw [eqR_f]; rintro rfl; simp at hc
  have hl : a.length = b.length := by simp at hc; omega
  refine loop_of (fun (s : ((Int × Unit) × Unit)) => 0 ≤ s.1.1 ∧ s.1.1 ≤ a.length ∧ a.take s.1.1.toNat = b.take s.1.1.toNat) (fun (s : ((Int × Unit) × Unit)) => (a.length - s.1.1).toNat) ?_ (by simp)
  rintro ⟨⟨i, _⟩, _⟩ next ⟨h0, h1, h2⟩ hn hin
  simp only at h0 h1 h2 hn ⊢
  refine cnd_d (fun hc => ?_) (fun hc => ?_)
  · have ha := take_c a ([] : List Int) h0 hc
    have hb := take_c b ([] : List Int) h0 (by omega)
    refine ⟨by omega, by omega, by omega, by omega, cnd_of (fun hd => ?_) (fun hd => ?_)⟩
    · simp only [c_laws_eqInt64SS, Prod.mk.injEq, and_true]; rw [eqR_f]; rintro rfl; simp at hd
    · refine ⟨by grind [cnd, nb_eq, inK64], hn _ ⟨(by first | omega | (dsimp only; omega)), (by first | omega | (dsimp only; omega)), ?_⟩ (by first | omega | (dsimp only; omega))⟩
      simp only [Bool.not_eq_false', eqR_iff, bne_eq_false_iff_eq] at hd
      simp only [ha, hb, h2, hd]
  · rw [take_n a (by omega), take_n b (by omega)] at h2
    simp [h2, c_laws_eqInt64SS]
theorem ct_laws_eqInt64SS : CtOk Try.prog 14 c_laws_eqInt64SS :=
  ct_by (Φ := lkp [(31, c_laws_eqInt64S)]) (good_cons ct_laws_eqInt64S good_nil) tab_ok (by kernel_rfl) (fn := Try.f14) (c := bodyOf Try.f14) (by kernel_rfl) (by kernel_rfl) (by kernel_rfl) c_laws_eqInt64SS rfl (.s .n (.s .n (.s (.s .n (.l [(5, (.d (.int .i64)))] [] [0, 1] .n)) .n))) (cutL [(6, 10)]) (by kernel_rfl) (by kernel_rfl) k_laws_eqInt64SS (by decide) (fun x K => W_laws_eqInt64SS x.1 x.2.1 K) w_laws_eqInt64SS (fun x h1 h2 => m_laws_eqInt64SS x.1 x.2.1 h1 h2)
def c_laws_eqCategory : Ct := ⟨[CategoryT, CategoryT], [true, true], fun x => [], [(false, (.fz .bool))], fun x => (eqR CategoryT x.1 x.2.1, ()), false, none⟩
def W_laws_eqCategory (a : CategoryD) (b : CategoryD) (K : Bool × Unit → Prop) : Prop := (cnd (a.1 != b.1) (K (Bool.false, ())) (cnd (!(eqR (T.sl (T.int IntKind.i64)) a.2.1 b.2.1)) (K (Bool.false, ())) (cnd (!(eqR (T.sl (T.int IntKind.i64)) a.2.2.1 b.2.2.1)) (K (Bool.false, ())) (cnd (!(eqR (T.sl (T.int IntKind.i64)) a.2.2.2.1 b.2.2.2.1)) (K (Bool.false, ())) (cnd (!(eqR (T.sl (T.sl (T.int IntKind.i64))) a.2.2.2.2 b.2.2.2.2)) (K (Bool.false, ())) (K (Bool.true, ())))))))
theorem w_laws_eqCategory (x : denL c_laws_eqCategory.args) (K : Bool × Unit → Prop) : evF tab (lkp [(31, c_laws_eqInt64S), (14, c_laws_eqInt64SS)]) (cutL []) Try.f23 (bodyOf Try.f23) .n c_laws_eqCategory x K = W_laws_eqCategory x.1 x.2.1 K := by kernel_rfl
theorem k_laws_eqCategory : okC Try.f23.ntmps (cutL []) (bodyOf Try.f23) = true := by kernel_rfl
theorem m_laws_eqCategory (a : CategoryD) (b : CategoryD) (hok : allP (okL c_laws_eqCategory.args (a, b, ()))) (hpre : allP (c_laws_eqCategory.pre (a, b, ()))) : W_laws_eqCategory a b (fun r => r = c_laws_eqCategory.res (a, b, ())) := by
  simp only [c_laws_eqCategory, okL, T.oks, T.ok, ap, allP, true_and, and_true, implies_true] at hok hpre
  try dsimp only [T.den] at hok
  try dsimp only [T.den] at hpre
  unfold W_laws_eqCategory
  simp only [c_laws_eqCategory, eqR_p, eqR_int, eqR_bool]
  grind [cnd, nb_eq, inK64]
theorem ct_laws_eqCategory : CtOk Try.prog 23 c_laws_eqCategory :=
  ct_by (Φ := lkp [(31, c_laws_eqInt64S), (14, c_laws_eqInt64SS)]) (good_cons ct_laws_eqInt64S (good_cons ct_laws_eqInt64SS good_nil)) tab_ok (by kernel_rfl) (fn := Try.f23) (c := bodyOf Try.f23) (by kernel_rfl) (by kernel_rfl) (by kernel_rfl) c_laws_eqCategory rfl .n (cutL []) (by kernel_rfl) (by kernel_rfl) k_laws_eqCategory (by decide) (fun x K => W_laws_eqCategory x.1 x.2.1 K) w_laws_eqCategory (fun x h1 h2 => m_laws_eqCategory x.1 x.2.1 h1 h2)
def c_laws_eqSetFunctor : Ct := ⟨[SetFunctorT, SetFunctorT], [true, true], fun x => [], [(false, (.fz .bool))], fun x => (eqR SetFunctorT x.1 x.2.1, ()), false, none⟩
def W_laws_eqSetFunctor (a : SetFunctorD) (b : SetFunctorD) (K : Bool × Unit → Prop) : Prop := (cnd (!(eqR CategoryT a.1 b.1)) (K (Bool.false, ())) (cnd (!(eqR (T.sl (T.int IntKind.i64)) a.2.1 b.2.1)) (K (Bool.false, ())) (cnd (!(eqR (T.sl (T.sl (T.int IntKind.i64))) a.2.2 b.2.2)) (K (Bool.false, ())) (K (Bool.true, ())))))
theorem w_laws_eqSetFunctor (x : denL c_laws_eqSetFunctor.args) (K : Bool × Unit → Prop) : evF tab (lkp [(23, c_laws_eqCategory), (31, c_laws_eqInt64S), (14, c_laws_eqInt64SS)]) (cutL []) Try.f15 (bodyOf Try.f15) .n c_laws_eqSetFunctor x K = W_laws_eqSetFunctor x.1 x.2.1 K := by kernel_rfl
theorem k_laws_eqSetFunctor : okC Try.f15.ntmps (cutL []) (bodyOf Try.f15) = true := by kernel_rfl
theorem m_laws_eqSetFunctor (a : SetFunctorD) (b : SetFunctorD) (hok : allP (okL c_laws_eqSetFunctor.args (a, b, ()))) (hpre : allP (c_laws_eqSetFunctor.pre (a, b, ()))) : W_laws_eqSetFunctor a b (fun r => r = c_laws_eqSetFunctor.res (a, b, ())) := by
  simp only [c_laws_eqSetFunctor, okL, T.oks, T.ok, ap, allP, true_and, and_true, implies_true] at hok hpre
  try dsimp only [T.den] at hok
  try dsimp only [T.den] at hpre
  unfold W_laws_eqSetFunctor
  simp only [c_laws_eqSetFunctor, eqR_p, eqR_int, eqR_bool]
  grind [cnd, nb_eq, inK64]
theorem ct_laws_eqSetFunctor : CtOk Try.prog 15 c_laws_eqSetFunctor :=
  ct_by (Φ := lkp [(23, c_laws_eqCategory), (31, c_laws_eqInt64S), (14, c_laws_eqInt64SS)]) (good_cons ct_laws_eqCategory (good_cons ct_laws_eqInt64S (good_cons ct_laws_eqInt64SS good_nil))) tab_ok (by kernel_rfl) (fn := Try.f15) (c := bodyOf Try.f15) (by kernel_rfl) (by kernel_rfl) (by kernel_rfl) c_laws_eqSetFunctor rfl .n (cutL []) (by kernel_rfl) (by kernel_rfl) k_laws_eqSetFunctor (by decide) (fun x K => W_laws_eqSetFunctor x.1 x.2.1 K) w_laws_eqSetFunctor (fun x h1 h2 => m_laws_eqSetFunctor x.1 x.2.1 h1 h2)
def c_laws_heldInt64S : Ct := ⟨[(.sl (.int .i64)), (.int .i64)], [false, false], fun x => [0 ≤ x.2.1, x.2.1 + ckR (.sl (.int .i64)) x.1 ≤ 4611686018427387904], [(false, (.fz (.int .i64)))], fun x => (hdR (.sl (.int .i64)) x.1 x.2.1, ()), false, none⟩
def W_laws_heldInt64S (a : List Int) (k : Int) (K : Int × Unit → Prop) : Prop := (loopW (S := ((Int × (Int × Unit)) × Unit)) (fun s => (fun next => ((inK IntKind.i64 s.1.1) → ((inK IntKind.i64 s.1.2.1) → (cnd (decide (s.1.2.1 < (((List.length a) : Nat) : Int))) (((0 : Int) ≤ s.1.2.1) ∧ ((s.1.2.1 < (((List.length a) : Nat) : Int)) ∧ (cnd ((List.getD a (Int.toNat s.1.2.1) (0 : Int)) != s.1.1) (K ((-(1 : Int)), ())) ((inK IntKind.i64 (s.1.1 + (1 : Int))) ∧ ((inK IntKind.i64 (s.1.2.1 + (1 : Int))) ∧ (next (((s.1.1 + (1 : Int)), ((s.1.2.1 + (1 : Int)), ())), ()))))))) (K (s.1.1, ()))))))) ((k, ((0 : Int), ())), ()))
theorem w_laws_heldInt64S (x : denL c_laws_heldInt64S.args) (K : Int × Unit → Prop) : evF tab (lkp []) (cutL []) Try.f50 (bodyOf Try.f50) (.s .n (.s (.s .n (.l [(1, (.d (.int .i64))), (5, (.d (.int .i64)))] [] [0] .n)) .n)) c_laws_heldInt64S x K = W_laws_heldInt64S x.1 x.2.1 K := by kernel_rfl
theorem k_laws_heldInt64S : okC Try.f50.ntmps (cutL []) (bodyOf Try.f50) = true := by kernel_rfl
theorem m_laws_heldInt64S (a : List Int) (k : Int) (hok : allP (okL c_laws_heldInt64S.args (a, k, ()))) (hpre : allP (c_laws_heldInt64S.pre (a, k, ()))) : W_laws_heldInt64S a k (fun r => r = c_laws_heldInt64S.res (a, k, ())) := by
  simp only [c_laws_heldInt64S, okL, T.oks, T.ok, ap, allP, true_and, and_true, implies_true] at hok hpre
  try dsimp only [T.den] at hok
  try dsimp only [T.den] at hpre
  unfold W_laws_heldInt64S
  obtain ⟨h0, hb⟩ := hpre
  have hll : a.length ≤ 140737488355328 := by simp only [nb_eq] at hok; omega
  refine held_loop (e := .int .i64) (0 : Int) a k h0 hb (fun k i next i0 i1 k0 kb hbad hn h1 h2 => ?_) (fun i next hi h1 h2 => ?_)
  · try dsimp only
    simp only [ckR] at kb
    simp only [hd_int] at hbad hn
    refine cnd_d (fun _ => ⟨i0, i1, cnd_of (fun hx => ?_) (fun hx => ⟨by rw [inK64]; (try dsimp only); omega, by rw [inK64]; (try dsimp only); omega, ?_⟩)⟩) (fun h => absurd i1 h)
    · rw [bne_iff_ne] at hx
      rw [if_neg hx] at hbad
      simp only [c_laws_heldInt64S]; rw [hbad (by omega)]
    · rw [bne_eq_false_iff_eq] at hx
      rw [if_pos hx] at hn
      exact hn (by omega)
  · exact cnd_d (fun h => absurd h (by dsimp only; omega)) (fun _ => rfl)
theorem ct_laws_heldInt64S : CtOk Try.prog 50 c_laws_heldInt64S :=
  ct_by (Φ := lkp []) good_nil tab_ok (by kernel_rfl) (fn := Try.f50) (c := bodyOf Try.f50) (by kernel_rfl) (by kernel_rfl) (by kernel_rfl) c_laws_heldInt64S rfl (.s .n (.s (.s .n (.l [(1, (.d (.int .i64))), (5, (.d (.int .i64)))] [] [0] .n)) .n)) (cutL []) (by kernel_rfl) (by kernel_rfl) k_laws_heldInt64S (by decide) (fun x K => W_laws_heldInt64S x.1 x.2.1 K) w_laws_heldInt64S (fun x h1 h2 => m_laws_heldInt64S x.1 x.2.1 h1 h2)
def c_laws_heldInt64SS : Ct := ⟨[(.sl (.sl (.int .i64))), (.int .i64)], [false, false], fun x => [0 ≤ x.2.1, x.2.1 + ckR (.sl (.sl (.int .i64))) x.1 ≤ 4611686018427387904], [(false, (.fz (.int .i64)))], fun x => (hdR (.sl (.sl (.int .i64))) x.1 x.2.1, ()), false, none⟩
def W_laws_heldInt64SS (a : List (List Int)) (k : Int) (K : Int × Unit → Prop) : Prop := (loopW (S := ((Int × (Int × Unit)) × Unit)) (fun s => (fun next => ((inK IntKind.i64 s.1.1) → ((inK IntKind.i64 s.1.2.1) → (cnd (decide (s.1.2.1 < (((List.length a) : Nat) : Int))) (((0 : Int) ≤ s.1.2.1) ∧ ((s.1.2.1 < (((List.length a) : Nat) : Int)) ∧ (((0 : Int) ≤ s.1.1) ∧ (((s.1.1 + (((ckR (T.sl (T.int IntKind.i64)) (List.getD a (Int.toNat s.1.2.1) ([] : List Int))) : Nat) : Int)) ≤ (4611686018427387904 : Int)) ∧ (cnd (decide ((hdR (T.sl (T.int IntKind.i64)) (List.getD a (Int.toNat s.1.2.1) ([] : List Int)) s.1.1) < (0 : Int))) (K ((-(1 : Int)), ())) ((inK IntKind.i64 (s.1.2.1 + (1 : Int))) ∧ (next (((hdR (T.sl (T.int IntKind.i64)) (List.getD a (Int.toNat s.1.2.1) ([] : List Int)) s.1.1), ((s.1.2.1 + (1 : Int)), ())), ())))))))) (K (s.1.1, ()))))))) ((k, ((0 : Int), ())), ()))
theorem w_laws_heldInt64SS (x : denL c_laws_heldInt64SS.args) (K : Int × Unit → Prop) : evF tab (lkp [(50, c_laws_heldInt64S)]) (cutL []) Try.f18 (bodyOf Try.f18) (.s .n (.s (.s .n (.l [(1, (.d (.int .i64))), (5, (.d (.int .i64)))] [] [0] .n)) .n)) c_laws_heldInt64SS x K = W_laws_heldInt64SS x.1 x.2.1 K := by kernel_rfl
theorem k_laws_heldInt64SS : okC Try.f18.ntmps (cutL []) (bodyOf Try.f18) = true := by kernel_rfl
theorem m_laws_heldInt64SS (a : List (List Int)) (k : Int) (hok : allP (okL c_laws_heldInt64SS.args (a, k, ()))) (hpre : allP (c_laws_heldInt64SS.pre (a, k, ()))) : W_laws_heldInt64SS a k (fun r => r = c_laws_heldInt64SS.res (a, k, ())) := by
  simp only [c_laws_heldInt64SS, okL, T.oks, T.ok, ap, allP, true_and, and_true, implies_true] at hok hpre
  try dsimp only [T.den] at hok
  try dsimp only [T.den] at hpre
  unfold W_laws_heldInt64SS
  obtain ⟨h0, hb⟩ := hpre
  have hll : a.length ≤ 140737488355328 := by simp only [nb_eq] at hok; omega
  refine held_loop (e := (.sl (.int .i64))) ([] : List Int) a k h0 hb (fun k i next i0 i1 k0 kb hbad hn h1 h2 => ?_) (fun i next hi h1 h2 => ?_)
  · try dsimp only
    refine cnd_d (fun _ => ⟨i0, i1, k0, kb, cnd_d (fun hx => ?_) (fun hx => ⟨by rw [inK64]; (try dsimp only); omega, hn hx⟩)⟩) (fun h => absurd i1 h)
    simp only [c_laws_heldInt64SS]; rw [hbad hx]
  · exact cnd_d (fun h => absurd h (by dsimp only; omega)) (fun _ => rfl)
theorem ct_laws_heldInt64SS : CtOk Try.prog 18 c_laws_heldInt64SS :=
  ct_by (Φ := lkp [(50, c_laws_heldInt64S)]) (good_cons ct_laws_heldInt64S good_nil) tab_ok (by kernel_rfl) (fn := Try.f18) (c := bodyOf Try.f18) (by kernel_rfl) (by kernel_rfl) (by kernel_rfl) c_laws_heldInt64SS rfl (.s .n (.s (.s .n (.l [(1, (.d (.int .i64))), (5, (.d (.int .i64)))] [] [0] .n)) .n)) (cutL []) (by kernel_rfl) (by kernel_rfl) k_laws_heldInt64SS (by decide) (fun x K => W_laws_heldInt64SS x.1 x.2.1 K) w_laws_heldInt64SS (fun x h1 h2 => m_laws_heldInt64SS x.1 x.2.1 h1 h2)
def m0_laws_markInt64S : Mt := ⟨(.sl (.fz (.int .i64))), false, fun x k => [0 ≤ k, k + ckR (.sl (.int .i64)) x ≤ 4611686018427387904], fun x k => mkR (.sl (.int .i64)) x k⟩
def c_laws_markInt64S : Ct := mtCt m0_laws_markInt64S
def W_laws_markInt64S (a : List Int) (k : Int) (K : (List Int) → Int → Prop) : Prop := (loopW (S := ((Unit × (Int × (Int × Unit))) × ((List Int) × Unit))) (fun s => (fun next => ((inK IntKind.i64 s.1.2.1) → ((inK IntKind.i64 s.1.2.2.1) → ((T.ok (T.sl (T.int IntKind.i64)) s.2.1) → (cnd (decide (s.1.2.2.1 < (((List.length s.2.1) : Nat) : Int))) (((0 : Int) ≤ s.1.2.2.1) ∧ ((s.1.2.2.1 < (((List.length s.2.1) : Nat) : Int)) ∧ ((inK IntKind.i64 (s.1.2.1 + (1 : Int))) ∧ ((inK IntKind.i64 (s.1.2.2.1 + (1 : Int))) ∧ (next (((), ((s.1.2.1 + (1 : Int)), ((s.1.2.2.1 + (1 : Int)), ()))), ((List.set s.2.1 (Int.toNat s.1.2.2.1) s.1.2.1), ()))))))) (K s.2.1 s.1.2.1))))))) (((), (k, ((0 : Int), ()))), (a, ())))
theorem w_laws_markInt64S (a : List Int) (k : Int) (K : (List Int) → Int → Prop) : evFm tab (lkp []) (cutL []) Try.f49 (bodyOf Try.f49) (.s .n (.s (.s .n (.l [(0, (.ref 1000000 [])), (1, (.d (.int .i64))), (5, (.d (.int .i64)))] [(1000000, (.sl (.fz (.int .i64))))] [] .n)) .n)) m0_laws_markInt64S a k K = W_laws_markInt64S a k K := by kernel_rfl
theorem k_laws_markInt64S : okC Try.f49.ntmps (cutL []) (bodyOf Try.f49) = true := by kernel_rfl
theorem m_laws_markInt64S (a : List Int) (k : Int) (hok : allP (T.oks (.sl (.int .i64)) a)) (h0 : 0 ≤ k) (hpre : k + ckR (.sl (.int .i64)) a ≤ 4611686018427387904) : W_laws_markInt64S a k (fun y n => y = (mkR (.sl (.int .i64)) a k).1 ∧ n = (mkR (.sl (.int .i64)) a k).2) := by
  simp only [T.oks, T.ok, ap, allP, true_and, and_true, implies_true] at hok
  try dsimp only [T.den] at hok
  unfold W_laws_markInt64S
  refine mark_loop (e := .int .i64) (0 : Int) a k h0 hpre (fun k i l next i0 i1 hl hg k0 kb hn h1 h2 h3 => ?_) (fun i l next hi hl h1 h2 h3 => ?_)
  · try dsimp only
    simp only [ckR] at kb
    have hll := h3.1
    simp only [nb_eq] at hll
    exact cnd_d (fun _ => ⟨i0, i1, by rw [inK64]; (try dsimp only); omega, by rw [inK64]; (try dsimp only); omega, hn⟩) (fun h => absurd i1 h)
  · exact cnd_d (fun h => absurd h (by dsimp only; omega)) (fun _ => ⟨hl, rfl⟩)
theorem ct_laws_markInt64S : CtOk Try.prog 49 c_laws_markInt64S :=
  mt_of (Φ := lkp []) good_nil tab_ok (by kernel_rfl) (fn := Try.f49) (c := bodyOf Try.f49) (by kernel_rfl) (by kernel_rfl) (by kernel_rfl) m0_laws_markInt64S (.s .n (.s (.s .n (.l [(0, (.ref 1000000 [])), (1, (.d (.int .i64))), (5, (.d (.int .i64)))] [(1000000, (.sl (.fz (.int .i64))))] [] .n)) .n)) (cutL []) (by kernel_rfl) (by kernel_rfl) k_laws_markInt64S (by decide) (by kernel_rfl) (fun x k hk hok hp => (w_laws_markInt64S x k _).mpr (m_laws_markInt64S x k hok hp.1 hp.2.1))
def m0_laws_markInt64SS : Mt := ⟨(.sl (.sl (.fz (.int .i64)))), false, fun x k => [0 ≤ k, k + ckR (.sl (.sl (.int .i64))) x ≤ 4611686018427387904], fun x k => mkR (.sl (.sl (.int .i64))) x k⟩
def c_laws_markInt64SS : Ct := mtCt m0_laws_markInt64SS
def W_laws_markInt64SS (a : List (List Int)) (k : Int) (K : (List (List Int)) → Int → Prop) : Prop := (loopW (S := ((Unit × (Int × (Int × Unit))) × ((List (List Int)) × Unit))) (fun s => (fun next => ((inK IntKind.i64 s.1.2.1) → ((inK IntKind.i64 s.1.2.2.1) → ((T.ok (T.sl (T.sl (T.int IntKind.i64))) s.2.1) → (cnd (decide (s.1.2.2.1 < (((List.length s.2.1) : Nat) : Int))) (((0 : Int) ≤ s.1.2.2.1) ∧ ((s.1.2.2.1 < (((List.length s.2.1) : Nat) : Int)) ∧ (((0 : Int) ≤ s.1.2.1) ∧ (((s.1.2.1 + (((ckR (T.sl (T.int IntKind.i64)) (List.getD s.2.1 (Int.toNat s.1.2.2.1) ([] : List Int))) : Nat) : Int)) ≤ (4611686018427387904 : Int)) ∧ ((inK IntKind.i64 (s.1.2.2.1 + (1 : Int))) ∧ (next (((), ((mkR (T.sl (T.int IntKind.i64)) (List.getD s.2.1 (Int.toNat s.1.2.2.1) ([] : List Int)) s.1.2.1).2, ((s.1.2.2.1 + (1 : Int)), ()))), ((List.set s.2.1 (Int.toNat s.1.2.2.1) (mkR (T.sl (T.int IntKind.i64)) (List.getD s.2.1 (Int.toNat s.1.2.2.1) ([] : List Int)) s.1.2.1).1), ())))))))) (K s.2.1 s.1.2.1))))))) (((), (k, ((0 : Int), ()))), (a, ())))
theorem w_laws_markInt64SS (a : List (List Int)) (k : Int) (K : (List (List Int)) → Int → Prop) : evFm tab (lkp [(49, c_laws_markInt64S)]) (cutL []) Try.f17 (bodyOf Try.f17) (.s .n (.s (.s .n (.l [(0, (.ref 1000000 [])), (1, (.d (.int .i64))), (5, (.d (.int .i64)))] [(1000000, (.sl (.sl (.fz (.int .i64)))))] [] .n)) .n)) m0_laws_markInt64SS a k K = W_laws_markInt64SS a k K := by kernel_rfl
theorem k_laws_markInt64SS : okC Try.f17.ntmps (cutL []) (bodyOf Try.f17) = true := by kernel_rfl
theorem m_laws_markInt64SS (a : List (List Int)) (k : Int) (hok : allP (T.oks (.sl (.sl (.int .i64))) a)) (h0 : 0 ≤ k) (hpre : k + ckR (.sl (.sl (.int .i64))) a ≤ 4611686018427387904) : W_laws_markInt64SS a k (fun y n => y = (mkR (.sl (.sl (.int .i64))) a k).1 ∧ n = (mkR (.sl (.sl (.int .i64))) a k).2) := by
  simp only [T.oks, T.ok, ap, allP, true_and, and_true, implies_true] at hok
  try dsimp only [T.den] at hok
  unfold W_laws_markInt64SS
  refine mark_loop (e := (.sl (.int .i64))) ([] : List Int) a k h0 hpre (fun k i l next i0 i1 hl hg k0 kb hn h1 h2 h3 => ?_) (fun i l next hi hl h1 h2 h3 => ?_)
  · try dsimp only
    have hll := h3.1
    simp only [nb_eq] at hll
    rw [hg]
    exact cnd_d (fun _ => ⟨i0, i1, k0, kb, by rw [inK64]; (try dsimp only); omega, hn⟩) (fun h => absurd i1 h)
  · exact cnd_d (fun h => absurd h (by dsimp only; omega)) (fun _ => ⟨hl, rfl⟩)
theorem ct_laws_markInt64SS : CtOk Try.prog 17 c_laws_markInt64SS :=
  mt_of (Φ := lkp [(49, c_laws_markInt64S)]) (good_cons ct_laws_markInt64S good_nil) tab_ok (by kernel_rfl) (fn := Try.f17) (c := bodyOf Try.f17) (by kernel_rfl) (by kernel_rfl) (by kernel_rfl) m0_laws_markInt64SS (.s .n (.s (.s .n (.l [(0, (.ref 1000000 [])), (1, (.d (.int .i64))), (5, (.d (.int .i64)))] [(1000000, (.sl (.sl (.fz (.int .i64)))))] [] .n)) .n)) (cutL []) (by kernel_rfl) (by kernel_rfl) k_laws_markInt64SS (by decide) (by kernel_rfl) (fun x k hk hok hp => (w_laws_markInt64SS x k _).mpr (m_laws_markInt64SS x k hok hp.1 hp.2.1))
def m0_laws_markCategory : Mt := ⟨CategoryO, true, fun x k => [0 ≤ k, k + ctR CategoryT x ≤ 4611686018427387904], fun x k => mtR CategoryT x k⟩
def c_laws_markCategory : Ct := mtCt m0_laws_markCategory
def W_laws_markCategory (a : CategoryD) (k : Int) (K : CategoryD → Int → Prop) : Prop := (((0 : Int) ≤ k) ∧ (((k + (((ckR (T.sl (T.int IntKind.i64)) a.2.1) : Nat) : Int)) ≤ (4611686018427387904 : Int)) ∧ (((0 : Int) ≤ (mkR (T.sl (T.int IntKind.i64)) a.2.1 k).2) ∧ ((((mkR (T.sl (T.int IntKind.i64)) a.2.1 k).2 + (((ckR (T.sl (T.int IntKind.i64)) a.2.2.1) : Nat) : Int)) ≤ (4611686018427387904 : Int)) ∧ (((0 : Int) ≤ (mkR (T.sl (T.int IntKind.i64)) a.2.2.1 (mkR (T.sl (T.int IntKind.i64)) a.2.1 k).2).2) ∧ ((((mkR (T.sl (T.int IntKind.i64)) a.2.2.1 (mkR (T.sl (T.int IntKind.i64)) a.2.1 k).2).2 + (((ckR (T.sl (T.int IntKind.i64)) a.2.2.2.1) : Nat) : Int)) ≤ (4611686018427387904 : Int)) ∧ (((0 : Int) ≤ (mkR (T.sl (T.int IntKind.i64)) a.2.2.2.1 (mkR (T.sl (T.int IntKind.i64)) a.2.2.1 (mkR (T.sl (T.int IntKind.i64)) a.2.1 k).2).2).2) ∧ ((((mkR (T.sl (T.int IntKind.i64)) a.2.2.2.1 (mkR (T.sl (T.int IntKind.i64)) a.2.2.1 (mkR (T.sl (T.int IntKind.i64)) a.2.1 k).2).2).2 + (((ckR (T.sl (T.sl (T.int IntKind.i64))) a.2.2.2.2) : Nat) : Int)) ≤ (4611686018427387904 : Int)) ∧ (K (a.1, ((mkR (T.sl (T.int IntKind.i64)) a.2.1 k).1, ((mkR (T.sl (T.int IntKind.i64)) a.2.2.1 (mkR (T.sl (T.int IntKind.i64)) a.2.1 k).2).1, ((mkR (T.sl (T.int IntKind.i64)) a.2.2.2.1 (mkR (T.sl (T.int IntKind.i64)) a.2.2.1 (mkR (T.sl (T.int IntKind.i64)) a.2.1 k).2).2).1, (mkR (T.sl (T.sl (T.int IntKind.i64))) a.2.2.2.2 (mkR (T.sl (T.int IntKind.i64)) a.2.2.2.1 (mkR (T.sl (T.int IntKind.i64)) a.2.2.1 (mkR (T.sl (T.int IntKind.i64)) a.2.1 k).2).2).2).1)))) (mkR (T.sl (T.sl (T.int IntKind.i64))) a.2.2.2.2 (mkR (T.sl (T.int IntKind.i64)) a.2.2.2.1 (mkR (T.sl (T.int IntKind.i64)) a.2.2.1 (mkR (T.sl (T.int IntKind.i64)) a.2.1 k).2).2).2).2)))))))))
theorem w_laws_markCategory (a : CategoryD) (k : Int) (K : CategoryD → Int → Prop) : evFm tab (lkp [(49, c_laws_markInt64S), (17, c_laws_markInt64SS)]) (cutL []) Try.f34 (bodyOf Try.f34) .n m0_laws_markCategory a k K = W_laws_markCategory a k K := by kernel_rfl
theorem k_laws_markCategory : okC Try.f34.ntmps (cutL []) (bodyOf Try.f34) = true := by kernel_rfl
theorem m_laws_markCategory (a : CategoryD) (k : Int) (hok : allP (T.oks CategoryT a)) (h0 : 0 ≤ k) (hpre : k + ctR CategoryT a ≤ 4611686018427387904) : W_laws_markCategory a k (fun y n => y = (mtR CategoryT a k).1 ∧ n = (mtR CategoryT a k).2) := by
  simp only [T.oks, T.ok, ap, allP, true_and, and_true, implies_true] at hok
  try dsimp only [T.den] at hok
  unfold W_laws_markCategory
  simp only [ctR] at hpre
  repeat' apply And.intro
  all_goals first | rfl | ((try simp only [mk_num, mt_num, ctR]); omega)
theorem ct_laws_markCategory : CtOk Try.prog 34 c_laws_markCategory :=
  mt_of (Φ := lkp [(49, c_laws_markInt64S), (17, c_laws_markInt64SS)]) (good_cons ct_laws_markInt64S (good_cons ct_laws_markInt64SS good_nil)) tab_ok (by kernel_rfl) (fn := Try.f34) (c := bodyOf Try.f34) (by kernel_rfl) (by kernel_rfl) (by kernel_rfl) m0_laws_markCategory .n (cutL []) (by kernel_rfl) (by kernel_rfl) k_laws_markCategory (by decide) (by kernel_rfl) (fun x k hk hok hp => (w_laws_markCategory x k _).mpr (m_laws_markCategory x k hok hp.1 hp.2.1))
def m0_laws_markSetFunctor : Mt := ⟨SetFunctorO, true, fun x k => [0 ≤ k, k + ctR SetFunctorT x ≤ 4611686018427387904], fun x k => mtR SetFunctorT x k⟩
def c_laws_markSetFunctor : Ct := mtCt m0_laws_markSetFunctor
def W_laws_markSetFunctor (a : SetFunctorD) (k : Int) (K : SetFunctorD → Int → Prop) : Prop := (((0 : Int) ≤ k) ∧ (((k + (((ctR CategoryT a.1) : Nat) : Int)) ≤ (4611686018427387904 : Int)) ∧ (((0 : Int) ≤ (mtR CategoryT a.1 k).2) ∧ ((((mtR CategoryT a.1 k).2 + (((ckR (T.sl (T.int IntKind.i64)) a.2.1) : Nat) : Int)) ≤ (4611686018427387904 : Int)) ∧ (((0 : Int) ≤ (mkR (T.sl (T.int IntKind.i64)) a.2.1 (mtR CategoryT a.1 k).2).2) ∧ ((((mkR (T.sl (T.int IntKind.i64)) a.2.1 (mtR CategoryT a.1 k).2).2 + (((ckR (T.sl (T.sl (T.int IntKind.i64))) a.2.2) : Nat) : Int)) ≤ (4611686018427387904 : Int)) ∧ (K ((a.1.1, (mtR CategoryT a.1 k).1.2), ((mkR (T.sl (T.int IntKind.i64)) a.2.1 (mtR CategoryT a.1 k).2).1, (mkR (T.sl (T.sl (T.int IntKind.i64))) a.2.2 (mkR (T.sl (T.int IntKind.i64)) a.2.1 (mtR CategoryT a.1 k).2).2).1)) (mkR (T.sl (T.sl (T.int IntKind.i64))) a.2.2 (mkR (T.sl (T.int IntKind.i64)) a.2.1 (mtR CategoryT a.1 k).2).2).2)))))))
theorem w_laws_markSetFunctor (a : SetFunctorD) (k : Int) (K : SetFunctorD → Int → Prop) : evFm tab (lkp [(34, c_laws_markCategory), (49, c_laws_markInt64S), (17, c_laws_markInt64SS)]) (cutL []) Try.f16 (bodyOf Try.f16) .n m0_laws_markSetFunctor a k K = W_laws_markSetFunctor a k K := by kernel_rfl
theorem k_laws_markSetFunctor : okC Try.f16.ntmps (cutL []) (bodyOf Try.f16) = true := by kernel_rfl
theorem m_laws_markSetFunctor (a : SetFunctorD) (k : Int) (hok : allP (T.oks SetFunctorT a)) (h0 : 0 ≤ k) (hpre : k + ctR SetFunctorT a ≤ 4611686018427387904) : W_laws_markSetFunctor a k (fun y n => y = (mtR SetFunctorT a k).1 ∧ n = (mtR SetFunctorT a k).2) := by
  simp only [T.oks, T.ok, ap, allP, true_and, and_true, implies_true] at hok
  try dsimp only [T.den] at hok
  unfold W_laws_markSetFunctor
  simp only [ctR] at hpre
  repeat' apply And.intro
  all_goals first | rfl | ((try simp only [mk_num, mt_num, ctR]); omega)
theorem ct_laws_markSetFunctor : CtOk Try.prog 16 c_laws_markSetFunctor :=
  mt_of (Φ := lkp [(34, c_laws_markCategory), (49, c_laws_markInt64S), (17, c_laws_markInt64SS)]) (good_cons ct_laws_markCategory (good_cons ct_laws_markInt64S (good_cons ct_laws_markInt64SS good_nil))) tab_ok (by kernel_rfl) (fn := Try.f16) (c := bodyOf Try.f16) (by kernel_rfl) (by kernel_rfl) (by kernel_rfl) m0_laws_markSetFunctor .n (cutL []) (by kernel_rfl) (by kernel_rfl) k_laws_markSetFunctor (by decide) (by kernel_rfl) (fun x k hk hok hp => (w_laws_markSetFunctor x k _).mpr (m_laws_markSetFunctor x k hok hp.1 hp.2.1))
def c_laws_szInt64S : Ct := ⟨[(.sl (.int .i64)), (.int .i64)], [false, false], fun x => [-4611545280939032576 ≤ x.2.1], [(false, (.fz (.int .i64)))], fun x => (szR (wR (.sl (.int .i64)) x.1) x.2.1, ()), false, none⟩
def W_laws_szInt64S (a : List Int) (left : Int) (K : Int × Unit → Prop) : Prop := ((inK IntKind.i64 (left - (((List.length a) : Nat) : Int))) ∧ (cnd (decide ((left - (((List.length a) : Nat) : Int)) < (0 : Int))) (K ((-(1 : Int)), ())) (K ((left - (((List.length a) : Nat) : Int)), ()))))
theorem w_laws_szInt64S (x : denL c_laws_szInt64S.args) (K : Int × Unit → Prop) : evF tab (lkp []) (cutL []) Try.f41 (bodyOf Try.f41) .n c_laws_szInt64S x K = W_laws_szInt64S x.1 x.2.1 K := by kernel_rfl
theorem k_laws_szInt64S : okC Try.f41.ntmps (cutL []) (bodyOf Try.f41) = true := by kernel_rfl
theorem m_laws_szInt64S (a : List Int) (left : Int) (hok : allP (okL c_laws_szInt64S.args (a, left, ()))) (hpre : allP (c_laws_szInt64S.pre (a, left, ()))) : W_laws_szInt64S a left (fun r => r = c_laws_szInt64S.res (a, left, ())) := by
  simp only [c_laws_szInt64S, okL, T.oks, T.ok, ap, allP, true_and, and_true, implies_true] at hok hpre
  try dsimp only [T.den] at hok
  try dsimp only [T.den] at hpre
  unfold W_laws_szInt64S
  simp only [c_laws_szInt64S, wR_ints]
  grind [cnd, nb_eq, inK64, szR]
theorem ct_laws_szInt64S : CtOk Try.prog 41 c_laws_szInt64S :=
  ct_by (Φ := lkp []) good_nil tab_ok (by kernel_rfl) (fn := Try.f41) (c := bodyOf Try.f41) (by kernel_rfl) (by kernel_rfl) (by kernel_rfl) c_laws_szInt64S rfl .n (cutL []) (by kernel_rfl) (by kernel_rfl) k_laws_szInt64S (by decide) (fun x K => W_laws_szInt64S x.1 x.2.1 K) w_laws_szInt64S (fun x h1 h2 => m_laws_szInt64S x.1 x.2.1 h1 h2)
def c_laws_szInt64SS : Ct := ⟨[(.sl (.sl (.int .i64))), (.int .i64)], [false, false], fun x => [-4611404543450677248 ≤ x.2.1], [(false, (.fz (.int .i64)))], fun x => (szR (wR (.sl (.sl (.int .i64))) x.1) x.2.1, ()), false, none⟩
def W_laws_szInt64SS (a : List (List Int)) (left : Int) (K : Int × Unit → Prop) : Prop := ((inK IntKind.i64 (left - (((List.length a) : Nat) : Int))) ∧ (cnd (decide ((left - (((List.length a) : Nat) : Int)) < (0 : Int))) (K ((-(1 : Int)), ())) (loopW (S := ((Int × (Int × Unit)) × Unit)) (fun s => (fun next => ((inK IntKind.i64 s.1.1) → ((inK IntKind.i64 s.1.2.1) → (cnd (decide (s.1.2.1 < (((List.length a) : Nat) : Int))) (((0 : Int) ≤ s.1.2.1) ∧ ((s.1.2.1 < (((List.length a) : Nat) : Int)) ∧ (((-(4611545280939032576 : Int)) ≤ s.1.1) ∧ (cnd (decide ((szR (wR (T.sl (T.int IntKind.i64)) (List.getD a (Int.toNat s.1.2.1) ([] : List Int))) s.1.1) < (0 : Int))) (K ((-(1 : Int)), ())) ((inK IntKind.i64 (s.1.2.1 + (1 : Int))) ∧ (next (((szR (wR (T.sl (T.int IntKind.i64)) (List.getD a (Int.toNat s.1.2.1) ([] : List Int))) s.1.1), ((s.1.2.1 + (1 : Int)), ())), ()))))))) (K (s.1.1, ()))))))) (((left - (((List.length a) : Nat) : Int)), ((0 : Int), ())), ()))))
theorem w_laws_szInt64SS (x : denL c_laws_szInt64SS.args) (K : Int × Unit → Prop) : evF tab (lkp [(41, c_laws_szInt64S)]) (cutL []) Try.f42 (bodyOf Try.f42) (.s .n (.s .n (.s .n (.s (.s .n (.l [(1, (.d (.int .i64))), (5, (.d (.int .i64)))] [] [0] .n)) .n)))) c_laws_szInt64SS x K = W_laws_szInt64SS x.1 x.2.1 K := by kernel_rfl
theorem k_laws_szInt64SS : okC Try.f42.ntmps (cutL []) (bodyOf Try.f42) = true := by kernel_rfl
theorem m_laws_szInt64SS (a : List (List Int)) (left : Int) (hok : allP (okL c_laws_szInt64SS.args (a, left, ()))) (hpre : allP (c_laws_szInt64SS.pre (a, left, ()))) : W_laws_szInt64SS a left (fun r => r = c_laws_szInt64SS.res (a, left, ())) := by
  simp only [c_laws_szInt64SS, okL, T.oks, T.ok, ap, allP, true_and, and_true, implies_true] at hok hpre
  try dsimp only [T.den] at hok
  try dsimp only [T.den] at hpre
  unfold W_laws_szInt64SS
  have hr := szR_ge (x := a.length) (r := (a.map (wR (.sl (.int .i64)))).sum) (l := left)
  refine ⟨by grind [cnd, nb_eq, inK64], cnd_d (fun hc => ?_) (fun hc => ?_)⟩
  · simp only [c_laws_szInt64SS]; rw [wR_sl, szR_lt (x := a.length) (by omega)]
  replace hr := hr (by omega)
  rw [szR_val (x := a.length) (by omega)] at hr
  refine loop_of (fun (s : ((Int × (Int × Unit)) × Unit)) => 0 ≤ s.1.1 ∧ 0 ≤ s.1.2.1 ∧ s.1.2.1 ≤ a.length ∧ szR (wR (.sl (.sl (.int .i64))) a) left = szR ((a.drop s.1.2.1.toNat).map (wR (.sl (.int .i64)))).sum s.1.1) (fun (s : ((Int × (Int × Unit)) × Unit)) => (a.length - s.1.2.1).toNat) ?_ ⟨(by first | omega | (dsimp only; omega)), by simp, by simp, by rw [wR_sl]; simpa using hr⟩
  rintro ⟨⟨l, i, _⟩, _⟩ next ⟨h0, h1, h2, h3⟩ hn hin hl
  simp only at h0 h1 h2 h3 hn ⊢
  refine cnd_d (fun hc => ?_) (fun hc => ?_)
  · rw [drop_c a ([] : List Int) h1 hc, List.map_cons, List.sum_cons] at h3
    refine ⟨by omega, by omega, by omega, cnd_d (fun hd => ?_) (fun hd => ?_)⟩
    · rw [szR_neg] at hd
      rw [szR_lt hd] at h3
      simp only [c_laws_szInt64SS]; rw [h3]
    · rw [szR_neg] at hd
      rw [szR_ge hd] at h3
      exact ⟨by grind [cnd, nb_eq, inK64], hn _ ⟨by simp only; rw [szR_val hd]; omega, (by first | omega | (dsimp only; omega)), (by first | omega | (dsimp only; omega)), h3⟩ (by first | omega | (dsimp only; omega))⟩
  · rw [drop_n a (by omega)] at h3
    simp only [List.map_nil, List.sum_nil] at h3
    rw [szR_zero h0] at h3
    simp only [c_laws_szInt64SS]; rw [h3]
theorem ct_laws_szInt64SS : CtOk Try.prog 42 c_laws_szInt64SS :=
  ct_by (Φ := lkp [(41, c_laws_szInt64S)]) (good_cons ct_laws_szInt64S good_nil) tab_ok (by kernel_rfl) (fn := Try.f42) (c := bodyOf Try.f42) (by kernel_rfl) (by kernel_rfl) (by kernel_rfl) c_laws_szInt64SS rfl (.s .n (.s .n (.s .n (.s (.s .n (.l [(1, (.d (.int .i64))), (5, (.d (.int .i64)))] [] [0] .n)) .n)))) (cutL []) (by kernel_rfl) (by kernel_rfl) k_laws_szInt64SS (by decide) (fun x K => W_laws_szInt64SS x.1 x.2.1 K) w_laws_szInt64SS (fun x h1 h2 => m_laws_szInt64SS x.1 x.2.1 h1 h2)
def c_laws_szCategory : Ct := ⟨[CategoryT, (.int .i64)], [true, false], fun x => [-4611404543450677248 ≤ x.2.1], [(false, (.fz (.int .i64)))], fun x => (szR (wR CategoryT x.1) x.2.1, ()), false, none⟩
def W_laws_szCategory (a : CategoryD) (left : Int) (K : Int × Unit → Prop) : Prop := (((-(4611545280939032576 : Int)) ≤ left) ∧ (cnd (decide ((szR (wR (T.sl (T.int IntKind.i64)) a.2.1) left) < (0 : Int))) (K ((-(1 : Int)), ())) (((-(4611545280939032576 : Int)) ≤ (szR (wR (T.sl (T.int IntKind.i64)) a.2.1) left)) ∧ (cnd (decide ((szR (wR (T.sl (T.int IntKind.i64)) a.2.2.1) (szR (wR (T.sl (T.int IntKind.i64)) a.2.1) left)) < (0 : Int))) (K ((-(1 : Int)), ())) (((-(4611545280939032576 : Int)) ≤ (szR (wR (T.sl (T.int IntKind.i64)) a.2.2.1) (szR (wR (T.sl (T.int IntKind.i64)) a.2.1) left))) ∧ (cnd (decide ((szR (wR (T.sl (T.int IntKind.i64)) a.2.2.2.1) (szR (wR (T.sl (T.int IntKind.i64)) a.2.2.1) (szR (wR (T.sl (T.int IntKind.i64)) a.2.1) left))) < (0 : Int))) (K ((-(1 : Int)), ())) (((-(4611404543450677248 : Int)) ≤ (szR (wR (T.sl (T.int IntKind.i64)) a.2.2.2.1) (szR (wR (T.sl (T.int IntKind.i64)) a.2.2.1) (szR (wR (T.sl (T.int IntKind.i64)) a.2.1) left)))) ∧ (cnd (decide ((szR (wR (T.sl (T.sl (T.int IntKind.i64))) a.2.2.2.2) (szR (wR (T.sl (T.int IntKind.i64)) a.2.2.2.1) (szR (wR (T.sl (T.int IntKind.i64)) a.2.2.1) (szR (wR (T.sl (T.int IntKind.i64)) a.2.1) left)))) < (0 : Int))) (K ((-(1 : Int)), ())) (K ((szR (wR (T.sl (T.sl (T.int IntKind.i64))) a.2.2.2.2) (szR (wR (T.sl (T.int IntKind.i64)) a.2.2.2.1) (szR (wR (T.sl (T.int IntKind.i64)) a.2.2.1) (szR (wR (T.sl (T.int IntKind.i64)) a.2.1) left)))), ()))))))))))
theorem w_laws_szCategory (x : denL c_laws_szCategory.args) (K : Int × Unit → Prop) : evF tab (lkp [(41, c_laws_szInt64S), (42, c_laws_szInt64SS)]) (cutL []) Try.f19 (bodyOf Try.f19) .n c_laws_szCategory x K = W_laws_szCategory x.1 x.2.1 K := by kernel_rfl
theorem k_laws_szCategory : okC Try.f19.ntmps (cutL []) (bodyOf Try.f19) = true := by kernel_rfl
theorem m_laws_szCategory (a : CategoryD) (left : Int) (hok : allP (okL c_laws_szCategory.args (a, left, ()))) (hpre : allP (c_laws_szCategory.pre (a, left, ()))) : W_laws_szCategory a left (fun r => r = c_laws_szCategory.res (a, left, ())) := by
  simp only [c_laws_szCategory, okL, T.oks, T.ok, ap, allP, true_and, and_true, implies_true] at hok hpre
  try dsimp only [T.den] at hok
  try dsimp only [T.den] at hpre
  unfold W_laws_szCategory
  simp only [c_laws_szCategory, wR_p, wR_int, wR_bool, Nat.zero_add, Nat.add_zero]
  grind [cnd, nb_eq, inK64, szR]
theorem ct_laws_szCategory : CtOk Try.prog 19 c_laws_szCategory :=
  ct_by (Φ := lkp [(41, c_laws_szInt64S), (42, c_laws_szInt64SS)]) (good_cons ct_laws_szInt64S (good_cons ct_laws_szInt64SS good_nil)) tab_ok (by kernel_rfl) (fn := Try.f19) (c := bodyOf Try.f19) (by kernel_rfl) (by kernel_rfl) (by kernel_rfl) c_laws_szCategory rfl .n (cutL []) (by kernel_rfl) (by kernel_rfl) k_laws_szCategory (by decide) (fun x K => W_laws_szCategory x.1 x.2.1 K) w_laws_szCategory (fun x h1 h2 => m_laws_szCategory x.1 x.2.1 h1 h2)
def c_laws_szSetFunctor : Ct := ⟨[SetFunctorT, (.int .i64)], [true, false], fun x => [-4611404543450677248 ≤ x.2.1], [(false, (.fz (.int .i64)))], fun x => (szR (wR SetFunctorT x.1) x.2.1, ()), false, none⟩
def W_laws_szSetFunctor (a : SetFunctorD) (left : Int) (K : Int × Unit → Prop) : Prop := (((-(4611404543450677248 : Int)) ≤ left) ∧ (cnd (decide ((szR (wR CategoryT a.1) left) < (0 : Int))) (K ((-(1 : Int)), ())) (((-(4611545280939032576 : Int)) ≤ (szR (wR CategoryT a.1) left)) ∧ (cnd (decide ((szR (wR (T.sl (T.int IntKind.i64)) a.2.1) (szR (wR CategoryT a.1) left)) < (0 : Int))) (K ((-(1 : Int)), ())) (((-(4611404543450677248 : Int)) ≤ (szR (wR (T.sl (T.int IntKind.i64)) a.2.1) (szR (wR CategoryT a.1) left))) ∧ (cnd (decide ((szR (wR (T.sl (T.sl (T.int IntKind.i64))) a.2.2) (szR (wR (T.sl (T.int IntKind.i64)) a.2.1) (szR (wR CategoryT a.1) left))) < (0 : Int))) (K ((-(1 : Int)), ())) (K ((szR (wR (T.sl (T.sl (T.int IntKind.i64))) a.2.2) (szR (wR (T.sl (T.int IntKind.i64)) a.2.1) (szR (wR CategoryT a.1) left))), ()))))))))
theorem w_laws_szSetFunctor (x : denL c_laws_szSetFunctor.args) (K : Int × Unit → Prop) : evF tab (lkp [(19, c_laws_szCategory), (41, c_laws_szInt64S), (42, c_laws_szInt64SS)]) (cutL []) Try.f10 (bodyOf Try.f10) .n c_laws_szSetFunctor x K = W_laws_szSetFunctor x.1 x.2.1 K := by kernel_rfl
theorem k_laws_szSetFunctor : okC Try.f10.ntmps (cutL []) (bodyOf Try.f10) = true := by kernel_rfl
theorem m_laws_szSetFunctor (a : SetFunctorD) (left : Int) (hok : allP (okL c_laws_szSetFunctor.args (a, left, ()))) (hpre : allP (c_laws_szSetFunctor.pre (a, left, ()))) : W_laws_szSetFunctor a left (fun r => r = c_laws_szSetFunctor.res (a, left, ())) := by
  simp only [c_laws_szSetFunctor, okL, T.oks, T.ok, ap, allP, true_and, and_true, implies_true] at hok hpre
  try dsimp only [T.den] at hok
  try dsimp only [T.den] at hpre
  unfold W_laws_szSetFunctor
  simp only [c_laws_szSetFunctor, wR_p, wR_int, wR_bool, Nat.zero_add, Nat.add_zero]
  grind [cnd, nb_eq, inK64, szR]
theorem ct_laws_szSetFunctor : CtOk Try.prog 10 c_laws_szSetFunctor :=
  ct_by (Φ := lkp [(19, c_laws_szCategory), (41, c_laws_szInt64S), (42, c_laws_szInt64SS)]) (good_cons ct_laws_szCategory (good_cons ct_laws_szInt64S (good_cons ct_laws_szInt64SS good_nil))) tab_ok (by kernel_rfl) (fn := Try.f10) (c := bodyOf Try.f10) (by kernel_rfl) (by kernel_rfl) (by kernel_rfl) c_laws_szSetFunctor rfl .n (cutL []) (by kernel_rfl) (by kernel_rfl) k_laws_szSetFunctor (by decide) (fun x K => W_laws_szSetFunctor x.1 x.2.1 K) w_laws_szSetFunctor (fun x h1 h2 => m_laws_szSetFunctor x.1 x.2.1 h1 h2)
def c_laws_toInt64S : Ct := ⟨[(.sl (.int .i64))], [false], fun x => [wR (.sl (.int .i64)) x.1 ≤ 1099511627776], [(false, (.sl (.fz (.int .i64))))], fun x => (x.1, ()), false, none⟩
def W_laws_toInt64S (a : List Int) (K : (List Int) × Unit → Prop) : Prop := (((0 : Int) ≤ (((List.length a) : Nat) : Int)) ∧ (((((List.length a) : Nat) : Int) ≤ (((List.length a) : Nat) : Int)) ∧ (((((List.length a) : Nat) : Int) ≤ ((140737488355328 : Nat) : Int)) ∧ ((((((List.length a) : Nat) : Int) * ((8 : Nat) : Int)) ≤ ((140737488355328 : Nat) : Int)) ∧ (loopW (S := ((Unit × (Int × Unit)) × ((List Int) × Unit))) (fun s => (fun next => ((inK IntKind.i64 s.1.2.1) → ((T.ok (T.sl (T.int IntKind.i64)) s.2.1) → (cnd (decide (s.1.2.1 < (((List.length a) : Nat) : Int))) (((0 : Int) ≤ s.1.2.1) ∧ ((s.1.2.1 < (((List.length a) : Nat) : Int)) ∧ (((0 : Int) ≤ s.1.2.1) ∧ ((s.1.2.1 < (((List.length s.2.1) : Nat) : Int)) ∧ ((inK IntKind.i64 (s.1.2.1 + (1 : Int))) ∧ (next (((), ((s.1.2.1 + (1 : Int)), ())), ((List.set s.2.1 (Int.toNat s.1.2.1) (List.getD a (Int.toNat s.1.2.1) (0 : Int))), ())))))))) (K (s.2.1, ()))))))) (((), ((0 : Int), ())), ((List.replicate (Int.toNat (((List.length a) : Nat) : Int)) (0 : Int)), ())))))))
theorem w_laws_toInt64S (x : denL c_laws_toInt64S.args) (K : (List Int) × Unit → Prop) : evF tab (lkp []) (cutL []) Try.f29 (bodyOf Try.f29) (.s .n (.s .n (.s (.s .n (.l [(3, (.ref 7 [])), (4, (.d (.int .i64)))] [(7, (.sl (.fz (.int .i64))))] [0] .n)) .n))) c_laws_toInt64S x K = W_laws_toInt64S x.1 K := by kernel_rfl
theorem k_laws_toInt64S : okC Try.f29.ntmps (cutL []) (bodyOf Try.f29) = true := by kernel_rfl
theorem m_laws_toInt64S (a : List Int) (hok : allP (okL c_laws_toInt64S.args (a, ()))) (hpre : allP (c_laws_toInt64S.pre (a, ()))) : W_laws_toInt64S a (fun r => r = c_laws_toInt64S.res (a, ())) := by
  simp only [c_laws_toInt64S, okL, T.oks, T.ok, ap, allP, true_and, and_true, implies_true] at hok hpre
  try dsimp only [T.den] at hok
  try dsimp only [T.den] at hpre
  unfold W_laws_toInt64S
  rw [wR_sl] at hpre
  refine ⟨by omega, by omega, by first | omega | (rw [nb_eq]; omega), by first | omega | (rw [nb_eq]; omega), ?_⟩
  refine loop_of (fun (s : ((Unit × (Int × Unit)) × ((List Int) × Unit))) => 0 ≤ s.1.2.1 ∧ s.1.2.1 ≤ a.length ∧ s.2.1.length = a.length ∧ s.2.1.take s.1.2.1.toNat = a.take s.1.2.1.toNat) (fun (s : ((Unit × (Int × Unit)) × ((List Int) × Unit))) => (a.length - s.1.2.1).toNat) ?_ (by simp)
  rintro ⟨⟨_, i, _⟩, l, _⟩ next ⟨h0, h1, h2, h3⟩ hn hin hl
  simp only at h0 h1 h2 h3 hn ⊢
  refine cnd_d (fun hc => ?_) (fun hc => ?_)
  · refine ⟨by omega, by omega, by omega, by omega, by grind [cnd, nb_eq, inK64], hn _ ⟨(by first | omega | (dsimp only; omega)), (by first | omega | (dsimp only; omega)), by simp [h2], ?_⟩ (by first | omega | (dsimp only; omega))⟩
    simp only
    rw [take_c a (0 : Int) h0 hc, ← h3]
    exact take_set l h0 (by omega) _
  · rw [take_n a (by omega), take_n l (by omega)] at h3
    simp [h3, c_laws_toInt64S]
theorem ct_laws_toInt64S : CtOk Try.prog 29 c_laws_toInt64S :=
  ct_by (Φ := lkp []) good_nil tab_ok (by kernel_rfl) (fn := Try.f29) (c := bodyOf Try.f29) (by kernel_rfl) (by kernel_rfl) (by kernel_rfl) c_laws_toInt64S rfl (.s .n (.s .n (.s (.s .n (.l [(3, (.ref 7 [])), (4, (.d (.int .i64)))] [(7, (.sl (.fz (.int .i64))))] [0] .n)) .n))) (cutL []) (by kernel_rfl) (by kernel_rfl) k_laws_toInt64S (by decide) (fun x K => W_laws_toInt64S x.1 K) w_laws_toInt64S (fun x h1 h2 => m_laws_toInt64S x.1 h1 h2)
def c_laws_toInt64SS : Ct := ⟨[(.sl (.sl (.int .i64)))], [false], fun x => [wR (.sl (.sl (.int .i64))) x.1 ≤ 1099511627776], [(false, (.sl (.sl (.fz (.int .i64)))))], fun x => (x.1, ()), false, none⟩
def W_laws_toInt64SS (a : List (List Int)) (K : (List (List Int)) × Unit → Prop) : Prop := (((0 : Int) ≤ (((List.length a) : Nat) : Int)) ∧ (((((List.length a) : Nat) : Int) ≤ (((List.length a) : Nat) : Int)) ∧ (((((List.length a) : Nat) : Int) ≤ ((140737488355328 : Nat) : Int)) ∧ ((((((List.length a) : Nat) : Int) * ((24 : Nat) : Int)) ≤ ((140737488355328 : Nat) : Int)) ∧ (loopW (S := ((Unit × (Int × Unit)) × ((List (List Int)) × Unit))) (fun s => (fun next => ((inK IntKind.i64 s.1.2.1) → ((T.ok (T.sl (T.sl (T.int IntKind.i64))) s.2.1) → (cnd (decide (s.1.2.1 < (((List.length a) : Nat) : Int))) (((0 : Int) ≤ s.1.2.1) ∧ ((s.1.2.1 < (((List.length a) : Nat) : Int)) ∧ (((wR (T.sl (T.int IntKind.i64)) (List.getD a (Int.toNat s.1.2.1) ([] : List Int))) ≤ 1099511627776) ∧ (((0 : Int) ≤ s.1.2.1) ∧ ((s.1.2.1 < (((List.length s.2.1) : Nat) : Int)) ∧ ((inK IntKind.i64 (s.1.2.1 + (1 : Int))) ∧ (next (((), ((s.1.2.1 + (1 : Int)), ())), ((List.set s.2.1 (Int.toNat s.1.2.1) (List.getD a (Int.toNat s.1.2.1) ([] : List Int))), ()))))))))) (K (s.2.1, ()))))))) (((), ((0 : Int), ())), ((List.replicate (Int.toNat (((List.length a) : Nat) : Int)) ([] : List Int)), ())))))))
theorem w_laws_toInt64SS (x : denL c_laws_toInt64SS.args) (K : (List (List Int)) × Unit → Prop) : evF tab (lkp [(29, c_laws_toInt64S)]) (cutL []) Try.f45 (bodyOf Try.f45) (.s .n (.s .n (.s (.s .n (.l [(3, (.ref 7 [])), (4, (.d (.int .i64)))] [(7, (.sl (.sl (.fz (.int .i64)))))] [0] .n)) .n))) c_laws_toInt64SS x K = W_laws_toInt64SS x.1 K := by kernel_rfl
theorem k_laws_toInt64SS : okC Try.f45.ntmps (cutL []) (bodyOf Try.f45) = true := by kernel_rfl
theorem m_laws_toInt64SS (a : List (List Int)) (hok : allP (okL c_laws_toInt64SS.args (a, ()))) (hpre : allP (c_laws_toInt64SS.pre (a, ()))) : W_laws_toInt64SS a (fun r => r = c_laws_toInt64SS.res (a, ())) := by
  simp only [c_laws_toInt64SS, okL, T.oks, T.ok, ap, allP, true_and, and_true, implies_true] at hok hpre
  try dsimp only [T.den] at hok
  try dsimp only [T.den] at hpre
  unfold W_laws_toInt64SS
  rw [wR_sl] at hpre
  refine ⟨by omega, by omega, by first | omega | (rw [nb_eq]; omega), by first | omega | (rw [nb_eq]; omega), ?_⟩
  refine loop_of (fun (s : ((Unit × (Int × Unit)) × ((List (List Int)) × Unit))) => 0 ≤ s.1.2.1 ∧ s.1.2.1 ≤ a.length ∧ s.2.1.length = a.length ∧ s.2.1.take s.1.2.1.toNat = a.take s.1.2.1.toNat) (fun (s : ((Unit × (Int × Unit)) × ((List (List Int)) × Unit))) => (a.length - s.1.2.1).toNat) ?_ (by simp)
  rintro ⟨⟨_, i, _⟩, l, _⟩ next ⟨h0, h1, h2, h3⟩ hn hin hl
  simp only at h0 h1 h2 h3 hn ⊢
  refine cnd_d (fun hc => ?_) (fun hc => ?_)
  · have hm := wR_mem (e := (.sl (.int .i64))) (getD_mem a ([] : List Int) h0 hc)
    refine ⟨by omega, by omega, by omega, by omega, by omega, by grind [cnd, nb_eq, inK64], hn _ ⟨(by first | omega | (dsimp only; omega)), (by first | omega | (dsimp only; omega)), by simp [h2], ?_⟩ (by first | omega | (dsimp only; omega))⟩
    simp only
    rw [take_c a ([] : List Int) h0 hc, ← h3]
    exact take_set l h0 (by omega) _
  · rw [take_n a (by omega), take_n l (by omega)] at h3
    simp [h3, c_laws_toInt64SS]
theorem ct_laws_toInt64SS : CtOk Try.prog 45 c_laws_toInt64SS :=
  ct_by (Φ := lkp [(29, c_laws_toInt64S)]) (good_cons ct_laws_toInt64S good_nil) tab_ok (by kernel_rfl) (fn := Try.f45) (c := bodyOf Try.f45) (by kernel_rfl) (by kernel_rfl) (by kernel_rfl) c_laws_toInt64SS rfl (.s .n (.s .n (.s (.s .n (.l [(3, (.ref 7 [])), (4, (.d (.int .i64)))] [(7, (.sl (.sl (.fz (.int .i64)))))] [0] .n)) .n))) (cutL []) (by kernel_rfl) (by kernel_rfl) k_laws_toInt64SS (by decide) (fun x K => W_laws_toInt64SS x.1 K) w_laws_toInt64SS (fun x h1 h2 => m_laws_toInt64SS x.1 h1 h2)
def c_laws_toCategory : Ct := ⟨[CategoryT], [true], fun x => [wR CategoryT x.1 ≤ 1099511627776], [(true, CategoryO)], fun x => (x.1, ()), false, none⟩
def W_laws_toCategory (a : CategoryD) (K : CategoryD × Unit → Prop) : Prop := (((wR (T.sl (T.int IntKind.i64)) a.2.1) ≤ 1099511627776) ∧ (((wR (T.sl (T.int IntKind.i64)) a.2.2.1) ≤ 1099511627776) ∧ (((wR (T.sl (T.int IntKind.i64)) a.2.2.2.1) ≤ 1099511627776) ∧ (((wR (T.sl (T.sl (T.int IntKind.i64))) a.2.2.2.2) ≤ 1099511627776) ∧ (K (a, ()))))))
theorem w_laws_toCategory (x : denL c_laws_toCategory.args) (K : CategoryD × Unit → Prop) : evF tab (lkp [(29, c_laws_toInt64S), (45, c_laws_toInt64SS)]) (cutL []) Try.f21 (bodyOf Try.f21) .n c_laws_toCategory x K = W_laws_toCategory x.1 K := by kernel_rfl
theorem k_laws_toCategory : okC Try.f21.ntmps (cutL []) (bodyOf Try.f21) = true := by kernel_rfl
theorem m_laws_toCategory (a : CategoryD) (hok : allP (okL c_laws_toCategory.args (a, ()))) (hpre : allP (c_laws_toCategory.pre (a, ()))) : W_laws_toCategory a (fun r => r = c_laws_toCategory.res (a, ())) := by
  simp only [c_laws_toCategory, okL, T.oks, T.ok, ap, allP, true_and, and_true, implies_true] at hok hpre
  try dsimp only [T.den] at hok
  try dsimp only [T.den] at hpre
  unfold W_laws_toCategory
  simp only [wR_p, wR_int, wR_bool] at hpre
  repeat' apply And.intro
  all_goals first | rfl | ((try simp only [wR_p, wR_int, wR_bool]); omega)
theorem ct_laws_toCategory : CtOk Try.prog 21 c_laws_toCategory :=
  ct_by (Φ := lkp [(29, c_laws_toInt64S), (45, c_laws_toInt64SS)]) (good_cons ct_laws_toInt64S (good_cons ct_laws_toInt64SS good_nil)) tab_ok (by kernel_rfl) (fn := Try.f21) (c := bodyOf Try.f21) (by kernel_rfl) (by kernel_rfl) (by kernel_rfl) c_laws_toCategory rfl .n (cutL []) (by kernel_rfl) (by kernel_rfl) k_laws_toCategory (by decide) (fun x K => W_laws_toCategory x.1 K) w_laws_toCategory (fun x h1 h2 => m_laws_toCategory x.1 h1 h2)
def c_laws_toSetFunctor : Ct := ⟨[SetFunctorT], [true], fun x => [wR SetFunctorT x.1 ≤ 1099511627776], [(true, SetFunctorO)], fun x => (x.1, ()), false, none⟩
def W_laws_toSetFunctor (a : SetFunctorD) (K : SetFunctorD × Unit → Prop) : Prop := (((wR CategoryT a.1) ≤ 1099511627776) ∧ (((wR (T.sl (T.int IntKind.i64)) a.2.1) ≤ 1099511627776) ∧ (((wR (T.sl (T.sl (T.int IntKind.i64))) a.2.2) ≤ 1099511627776) ∧ (K (a, ())))))
theorem w_laws_toSetFunctor (x : denL c_laws_toSetFunctor.args) (K : SetFunctorD × Unit → Prop) : evF tab (lkp [(21, c_laws_toCategory), (29, c_laws_toInt64S), (45, c_laws_toInt64SS)]) (cutL []) Try.f12 (bodyOf Try.f12) .n c_laws_toSetFunctor x K = W_laws_toSetFunctor x.1 K := by kernel_rfl
theorem k_laws_toSetFunctor : okC Try.f12.ntmps (cutL []) (bodyOf Try.f12) = true := by kernel_rfl
theorem m_laws_toSetFunctor (a : SetFunctorD) (hok : allP (okL c_laws_toSetFunctor.args (a, ()))) (hpre : allP (c_laws_toSetFunctor.pre (a, ()))) : W_laws_toSetFunctor a (fun r => r = c_laws_toSetFunctor.res (a, ())) := by
  simp only [c_laws_toSetFunctor, okL, T.oks, T.ok, ap, allP, true_and, and_true, implies_true] at hok hpre
  try dsimp only [T.den] at hok
  try dsimp only [T.den] at hpre
  unfold W_laws_toSetFunctor
  simp only [wR_p, wR_int, wR_bool] at hpre
  repeat' apply And.intro
  all_goals first | rfl | ((try simp only [wR_p, wR_int, wR_bool]); omega)
theorem ct_laws_toSetFunctor : CtOk Try.prog 12 c_laws_toSetFunctor :=
  ct_by (Φ := lkp [(21, c_laws_toCategory), (29, c_laws_toInt64S), (45, c_laws_toInt64SS)]) (good_cons ct_laws_toCategory (good_cons ct_laws_toInt64S (good_cons ct_laws_toInt64SS good_nil))) tab_ok (by kernel_rfl) (fn := Try.f12) (c := bodyOf Try.f12) (by kernel_rfl) (by kernel_rfl) (by kernel_rfl) c_laws_toSetFunctor rfl .n (cutL []) (by kernel_rfl) (by kernel_rfl) k_laws_toSetFunctor (by decide) (fun x K => W_laws_toSetFunctor x.1 K) w_laws_toSetFunctor (fun x h1 h2 => m_laws_toSetFunctor x.1 h1 h2)
def c_spec_l19Fault : Ct := ⟨[SetFunctorT], [true], fun x => [SfP x.1], [(false, (.fz (.int .i64))), (false, (.fz (.int .i64))), (false, (.fz (.int .i64))), (false, (.fz (.int .i64)))], fun x => ((sfFaultR x.1).1, (sfFaultR x.1).2.1, (sfFaultR x.1).2.2.1, (sfFaultR x.1).2.2.2, ()), false, none⟩
def W_spec_l19Fault (f : SetFunctorD) (K : Int × Int × Int × Int × Unit → Prop) : Prop := (loopW (S := ((Int × Unit) × Unit)) (fun s => (fun next => ((inK IntKind.i64 s.1.1) → (cnd (decide (s.1.1 < f.1.1)) (loopW (S := ((Int × Unit) × Unit)) (fun s1 => (fun next1 => ((inK IntKind.i64 s1.1.1) → (((0 : Int) ≤ s.1.1) ∧ ((s.1.1 < (((List.length f.2.1) : Nat) : Int)) ∧ (cnd (decide (s1.1.1 < (List.getD f.2.1 (Int.toNat s.1.1) (0 : Int)))) (((0 : Int) ≤ s.1.1) ∧ ((s.1.1 < (((List.length f.1.2.2.2.1) : Nat) : Int)) ∧ (((0 : Int) ≤ (List.getD f.1.2.2.2.1 (Int.toNat s.1.1) (0 : Int))) ∧ (((List.getD f.1.2.2.2.1 (Int.toNat s.1.1) (0 : Int)) < (((List.length f.2.2) : Nat) : Int)) ∧ (((0 : Int) ≤ s1.1.1) ∧ ((s1.1.1 < (((List.length (List.getD f.2.2 (Int.toNat (List.getD f.1.2.2.2.1 (Int.toNat s.1.1) (0 : Int))) ([] : List Int))) : Nat) : Int)) ∧ (cnd ((List.getD (List.getD f.2.2 (Int.toNat (List.getD f.1.2.2.2.1 (Int.toNat s.1.1) (0 : Int))) ([] : List Int)) (Int.toNat s1.1.1) (0 : Int)) != s1.1.1) (K ((1 : Int), (s.1.1, (s1.1.1, ((0 : Int), ()))))) ((inK IntKind.i64 (s1.1.1 + (1 : Int))) ∧ (next1 (((s1.1.1 + (1 : Int)), ()), ())))))))))) ((inK IntKind.i64 (s.1.1 + (1 : Int))) ∧ (next (((s.1.1 + (1 : Int)), ()), ()))))))))) (((0 : Int), ()), ())) (loopW (S := ((Int × Unit) × Unit)) (fun s1 => (fun next1 => ((inK IntKind.i64 s1.1.1) → (cnd (decide (s1.1.1 < (((List.length f.1.2.1) : Nat) : Int))) (loopW (S := ((Int × Unit) × Unit)) (fun s2 => (fun next2 => ((inK IntKind.i64 s2.1.1) → (cnd (decide (s2.1.1 < (((List.length f.1.2.1) : Nat) : Int))) (joinW (S := (Unit × Unit)) (fun s3 => ((inK IntKind.i64 (s2.1.1 + (1 : Int))) ∧ (next2 (((s2.1.1 + (1 : Int)), ()), ())))) (fun k => (((0 : Int) ≤ s1.1.1) ∧ ((s1.1.1 < (((List.length f.1.2.2.1) : Nat) : Int)) ∧ (((0 : Int) ≤ s2.1.1) ∧ ((s2.1.1 < (((List.length f.1.2.1) : Nat) : Int)) ∧ (cnd ((List.getD f.1.2.2.1 (Int.toNat s1.1.1) (0 : Int)) != (List.getD f.1.2.1 (Int.toNat s2.1.1) (0 : Int))) (k ((), ())) (loopW (S := ((Int × Unit) × Unit)) (fun s3 => (fun next3 => ((inK IntKind.i64 s3.1.1) → (((0 : Int) ≤ s1.1.1) ∧ ((s1.1.1 < (((List.length f.1.2.1) : Nat) : Int)) ∧ (((0 : Int) ≤ (List.getD f.1.2.1 (Int.toNat s1.1.1) (0 : Int))) ∧ (((List.getD f.1.2.1 (Int.toNat s1.1.1) (0 : Int)) < (((List.length f.2.1) : Nat) : Int)) ∧ (cnd (decide (s3.1.1 < (List.getD f.2.1 (Int.toNat (List.getD f.1.2.1 (Int.toNat s1.1.1) (0 : Int))) (0 : Int)))) (((0 : Int) ≤ s1.1.1) ∧ ((s1.1.1 < (((List.length f.1.2.2.2.2) : Nat) : Int)) ∧ (((0 : Int) ≤ s2.1.1) ∧ ((s2.1.1 < (((List.length (List.getD f.1.2.2.2.2 (Int.toNat s1.1.1) ([] : List Int))) : Nat) : Int)) ∧ (((0 : Int) ≤ (List.getD (List.getD f.1.2.2.2.2 (Int.toNat s1.1.1) ([] : List Int)) (Int.toNat s2.1.1) (0 : Int))) ∧ (((List.getD (List.getD f.1.2.2.2.2 (Int.toNat s1.1.1) ([] : List Int)) (Int.toNat s2.1.1) (0 : Int)) < (((List.length f.2.2) : Nat) : Int)) ∧ (((0 : Int) ≤ s3.1.1) ∧ ((s3.1.1 < (((List.length (List.getD f.2.2 (Int.toNat (List.getD (List.getD f.1.2.2.2.2 (Int.toNat s1.1.1) ([] : List Int)) (Int.toNat s2.1.1) (0 : Int))) ([] : List Int))) : Nat) : Int)) ∧ (((0 : Int) ≤ s2.1.1) ∧ ((s2.1.1 < (((List.length f.2.2) : Nat) : Int)) ∧ (((0 : Int) ≤ s1.1.1) ∧ ((s1.1.1 < (((List.length f.2.2) : Nat) : Int)) ∧ (((0 : Int) ≤ s3.1.1) ∧ ((s3.1.1 < (((List.length (List.getD f.2.2 (Int.toNat s1.1.1) ([] : List Int))) : Nat) : Int)) ∧ (((0 : Int) ≤ (List.getD (List.getD f.2.2 (Int.toNat s1.1.1) ([] : List Int)) (Int.toNat s3.1.1) (0 : Int))) ∧ (((List.getD (List.getD f.2.2 (Int.toNat s1.1.1) ([] : List Int)) (Int.toNat s3.1.1) (0 : Int)) < (((List.length (List.getD f.2.2 (Int.toNat s2.1.1) ([] : List Int))) : Nat) : Int)) ∧ (cnd ((List.getD (List.getD f.2.2 (Int.toNat (List.getD (List.getD f.1.2.2.2.2 (Int.toNat s1.1.1) ([] : List Int)) (Int.toNat s2.1.1) (0 : Int))) ([] : List Int)) (Int.toNat s3.1.1) (0 : Int)) != (List.getD (List.getD f.2.2 (Int.toNat s2.1.1) ([] : List Int)) (Int.toNat (List.getD (List.getD f.2.2 (Int.toNat s1.1.1) ([] : List Int)) (Int.toNat s3.1.1) (0 : Int))) (0 : Int))) (K ((2 : Int), (s1.1.1, (s2.1.1, (s3.1.1, ()))))) ((inK IntKind.i64 (s3.1.1 + (1 : Int))) ∧ (next3 (((s3.1.1 + (1 : Int)), ()), ())))))))))))))))))))) (k ((), ())))))))))) (((0 : Int), ()), ()))))))))) ((inK IntKind.i64 (s1.1.1 + (1 : Int))) ∧ (next1 (((s1.1.1 + (1 : Int)), ()), ()))))))) (((0 : Int), ()), ())) (K ((0 : Int), ((0 : Int), ((0 : Int), ((0 : Int), ()))))))))) (((0 : Int), ()), ())))))) (((0 : Int), ()), ()))
theorem w_spec_l19Fault (x : denL c_spec_l19Fault.args) (K : Int × Int × Int × Int × Unit → Prop) : evF tab (lkp []) (cutL [(16, 11), (18, 11), (20, 31), (8, 14)]) Try.f74 (bodyOf Try.f74) (.s .n (.s .n (.s (.s .n (.l [(7, (.d (.int .i64)))] [] [1, 6] (.s .n (.s (.s .n (.l [(8, (.d (.int .i64)))] [] [1, 6, 7] .n)) .n)))) (.s (.s .n (.l [(9, (.d (.int .i64)))] [] [1, 6] (.s .n (.s (.s .n (.l [(10, (.d (.int .i64)))] [] [1, 6, 9] (.s .n (.s (.j [] [] [1, 6, 9, 10] (.s .n (.s .n (.l [(11, (.d (.int .i64)))] [] [1, 6, 9, 10] .n)))) .n)))) .n)))) .n)))) c_spec_l19Fault x K = W_spec_l19Fault x.1 K := by kernel_rfl
theorem k_spec_l19Fault : okC Try.f74.ntmps (cutL [(16, 11), (18, 11), (20, 31), (8, 14)]) (bodyOf Try.f74) = true := by kernel_rfl
theorem m_spec_l19Fault (f : SetFunctorD) (hok : allP (okL c_spec_l19Fault.args (f, ()))) (hpre : allP (c_spec_l19Fault.pre (f, ()))) : W_spec_l19Fault f (fun r => r = c_spec_l19Fault.res (f, ())) := by
  simp only [c_spec_l19Fault, okL, T.oks, T.ok, ap, allP, true_and, and_true, implies_true] at hok hpre
  try dsimp only [T.den] at hok
  try dsimp only [T.den] at hpre
  unfold W_spec_l19Fault
  have P : SfP f := hpre
  have S := cat_shape P.cat
  have hlt := S.lt
  have hli := S.li
  have hlc := S.lc
  have hmm := S.m
  have hob := S.ob
  have hlz := P.lz
  have hla := P.la
  have resq : ∀ a b d e, sfFaultR f = (a, b, d, e) → (a, b, d, e, ()) = c_spec_l19Fault.res (f, ()) := fun a b d e h => by simp only [c_spec_l19Fault, h]
  have hac : ∀ a e : Int, (f.2.2.getD a.toNat []).getD e.toNat 0 = actR f a e := fun _ _ => rfl
  have hcr : ∀ a b : Int, (f.1.2.2.2.2.getD a.toNat []).getD b.toNat 0 = compR f.1 a b := fun _ _ => rfl
  simp only [hac, hcr]
  refine loop_ix (n := f.1.1) (fun x => scanR (sfIx f) f.1.1.toNat 0 = scanR (sfIx f) (f.1.1 - x).toNat x) (by omega) (by rw [Int.sub_zero]) ?_ ?_
  · intro x next x0 x1 hP hn hin
    try dsimp only
    obtain ⟨b1, b2, b3, b4⟩ := S.idn x0 x1
    obtain ⟨z1, z2⟩ := P.size x0 x1
    obtain ⟨q1, q2⟩ := P.act _ b1 b2
    rw [b3] at q1
    refine cnd_d (fun _ => ?_) (fun h => absurd h (by omega))
    refine loop_ix (n := f.2.1.getD x.toNat 0) (fun e => sfIx f x = scanR (sfI f x) (f.2.1.getD x.toNat 0 - e).toNat e) z1 (by unfold sfIx; rw [Int.sub_zero]) ?_ ?_
    · intro e next2 e0 e1 hP2 hn2 hin2
      try dsimp only
      refine ⟨x0, by omega, cnd_d (fun _ => ⟨x0, by omega, b1, by omega, e0, by omega, cnd_of (fun hx => resq _ _ _ _ ?_) (fun hx => ⟨by rw [inK64]; (try dsimp only); omega, hn2 ?_⟩)⟩) (fun h => absurd h (by omega))⟩
      · have k1 : sfI f x e = some (1, x, e, 0) := by unfold sfI; rw [if_pos]; simpa using hx
        have k2 : sfIx f x = some (1, x, e, 0) := by rw [hP2, scan_s e1 k1]
        unfold sfFaultR; rw [hP, scan_s x1 k2]; rfl
      · have k1 : sfI f x e = none := by unfold sfI; rw [if_neg]; simpa using hx
        rw [hP2, scan_c e1 k1]
    · intro next2 hP2 hin2
      try dsimp only
      rw [scan_n] at hP2
      exact ⟨x0, by omega, cnd_d (fun h => absurd h (by omega)) (fun _ => ⟨by rw [inK64]; (try dsimp only); omega, hn (by rw [hP, scan_c x1 hP2])⟩)⟩
  intro next hI hin
  rw [scan_n] at hI
  refine cnd_d (fun h => absurd h (by dsimp only; omega)) (fun _ => ?_)
  have hF : sfFaultR f = orR (scanR (sfCa f) f.1.2.1.length 0) (0, 0, 0, 0) := by unfold sfFaultR; rw [hI]; rfl
  refine loop_ix (n := f.1.2.1.length) (fun a => scanR (sfCa f) f.1.2.1.length 0 = scanR (sfCa f) ((f.1.2.1.length : Int) - a).toNat a) (by omega) scan_0 ?_ ?_
  · intro a next a0 a1 hP hn hin
    try dsimp only
    have r1 := S.row a a0 a1
    obtain ⟨q1, q2⟩ := P.act _ a0 a1
    obtain ⟨fa1, fa2, ta1, ta2⟩ := S.frm a0 a1
    obtain ⟨z1, z2⟩ := P.size fa1 fa2
    refine cnd_d (fun _ => ?_) (fun h => absurd h (by omega))
    refine loop_ix (n := f.1.2.1.length) (fun b => sfCa f a = scanR (sfCb f a) ((f.1.2.1.length : Int) - b).toNat b) (by omega) scan_0 ?_ ?_
    · intro b next2 b0 b1 hP2 hn2 hin2
      try dsimp only
      refine cnd_d (fun _ => ?_) (fun h => absurd h (by omega))
      refine join_of (fun _ => sfCb f a b = none) (fun _ hG => ⟨by rw [inK64]; (try dsimp only); omega, hn2 (by rw [hP2, scan_c b1 hG])⟩) (fun k hk => ?_)
      have hk' := hk ((), ())
      refine ⟨a0, by omega, b0, by omega, cnd_of (fun hx => hk' ?_) (fun hx => ?_)⟩
      · unfold sfCb; rw [if_neg]; simpa using hx
      have hab : f.1.2.2.1.getD a.toNat 0 = f.1.2.1.getD b.toNat 0 := by rw [bne_eq_false_iff_eq] at hx; exact hx
      obtain ⟨y1, y2, y3, y4⟩ := S.yes a0 a1 b0 b1 hab
      obtain ⟨p1, p2⟩ := P.act _ y1 y2
      rw [y3] at p1
      obtain ⟨p3, p4⟩ := P.act _ b0 b1
      rw [← hab] at p3
      
      refine loop_ix (n := f.2.1.getD (f.1.2.1.getD a.toNat 0).toNat 0) (fun e => sfCb f a b = scanR (sfC f a b) (f.2.1.getD (f.1.2.1.getD a.toNat 0).toNat 0 - e).toNat e) z1 (by unfold sfCb; rw [if_pos hab, Int.sub_zero]) ?_ ?_
      · intro e next3 e0 e1 hP3 hn3 hin3
        try dsimp only
        obtain ⟨m1, m2, m3⟩ := P.at_ a0 a1 e0 e1
        refine ⟨a0, by omega, fa1, by omega, cnd_d (fun _ => ⟨a0, by omega, b0, by omega, y1, by omega, e0, by omega, b0, by omega, a0, by omega, e0, by omega, m2, by omega, cnd_of (fun hx => resq _ _ _ _ ?_) (fun hx => ⟨by rw [inK64]; (try dsimp only); omega, hn3 ?_⟩)⟩) (fun h => absurd h (by omega))⟩
        · have k0 : sfC f a b e = some (2, a, b, e) := by unfold sfC; rw [if_pos]; simpa using hx
          have k1 : sfCb f a b = some (2, a, b, e) := by rw [hP3, scan_s e1 k0]
          have k2 : sfCa f a = some (2, a, b, e) := by rw [hP2, scan_s b1 k1]
          rw [hF, hP, scan_s a1 k2]; rfl
        · have k0 : sfC f a b e = none := by unfold sfC; rw [if_neg]; simpa using hx
          rw [hP3, scan_c e1 k0]
      · intro next3 hP3 hin3
        try dsimp only
        rw [scan_n] at hP3
        exact ⟨a0, by omega, fa1, by omega, cnd_d (fun h => absurd h (by omega)) (fun _ => hk' hP3)⟩
    · intro next2 hP2 hin2
      try dsimp only
      rw [scan_n] at hP2
      exact cnd_d (fun h => absurd h (by omega)) (fun _ => ⟨by rw [inK64]; (try dsimp only); omega, hn (by rw [hP, scan_c a1 hP2])⟩)
  · intro next2 hP2 hin2
    rw [scan_n] at hP2
    refine cnd_d (fun h => absurd h (by dsimp only; omega)) (fun _ => resq _ _ _ _ ?_)
    rw [hF, hP2]; rfl
theorem ct_spec_l19Fault : CtOk Try.prog 74 c_spec_l19Fault :=
  ct_by (Φ := lkp []) good_nil tab_ok (by kernel_rfl) (fn := Try.f74) (c := bodyOf Try.f74) (by kernel_rfl) (by kernel_rfl) (by kernel_rfl) c_spec_l19Fault rfl (.s .n (.s .n (.s (.s .n (.l [(7, (.d (.int .i64)))] [] [1, 6] (.s .n (.s (.s .n (.l [(8, (.d (.int .i64)))] [] [1, 6, 7] .n)) .n)))) (.s (.s .n (.l [(9, (.d (.int .i64)))] [] [1, 6] (.s .n (.s (.s .n (.l [(10, (.d (.int .i64)))] [] [1, 6, 9] (.s .n (.s (.j [] [] [1, 6, 9, 10] (.s .n (.s .n (.l [(11, (.d (.int .i64)))] [] [1, 6, 9, 10] .n)))) .n)))) .n)))) .n)))) (cutL [(16, 11), (18, 11), (20, 31), (8, 14)]) (by kernel_rfl) (by kernel_rfl) k_spec_l19Fault (by decide) (fun x K => W_spec_l19Fault x.1 K) w_spec_l19Fault (fun x h1 h2 => m_spec_l19Fault x.1 h1 h2)
def c_spec_l01In : Ct := ⟨[(.int .i64), (.int .i64), (.int .i64)], [false, false, false], fun x => [], [(false, (.fz .bool))], fun x => (inR x.1 x.2.1 x.2.2.1, ()), false, none⟩
def W_spec_l01In (n : Int) (low : Int) (high : Int) (K : Bool × Unit → Prop) : Prop := (K (((decide (low ≤ n)) && (decide (n ≤ high))), ()))
theorem w_spec_l01In (x : denL c_spec_l01In.args) (K : Bool × Unit → Prop) : evF tab (lkp []) (cutL []) Try.f127 (bodyOf Try.f127) .n c_spec_l01In x K = W_spec_l01In x.1 x.2.1 x.2.2.1 K := by kernel_rfl
theorem k_spec_l01In : okC Try.f127.ntmps (cutL []) (bodyOf Try.f127) = true := by kernel_rfl
theorem m_spec_l01In (n : Int) (low : Int) (high : Int) (hok : allP (okL c_spec_l01In.args (n, low, high, ()))) (hpre : allP (c_spec_l01In.pre (n, low, high, ()))) : W_spec_l01In n low high (fun r => r = c_spec_l01In.res (n, low, high, ())) := by
  simp only [c_spec_l01In, okL, T.oks, T.ok, ap, allP, true_and, and_true, implies_true] at hok hpre
  try dsimp only [T.den] at hok
  try dsimp only [T.den] at hpre
  unfold W_spec_l01In
  grind [cnd, nb_eq, inK64, c_spec_l01In, inR]
theorem ct_spec_l01In : CtOk Try.prog 127 c_spec_l01In :=
  ct_by (Φ := lkp []) good_nil tab_ok (by kernel_rfl) (fn := Try.f127) (c := bodyOf Try.f127) (by kernel_rfl) (by kernel_rfl) (by kernel_rfl) c_spec_l01In rfl .n (cutL []) (by kernel_rfl) (by kernel_rfl) k_spec_l01In (by decide) (fun x K => W_spec_l01In x.1 x.2.1 x.2.2.1 K) w_spec_l01In (fun x h1 h2 => m_spec_l01In x.1 x.2.1 x.2.2.1 h1 h2)
def c_spec_l01Map : Ct := ⟨[(.int .i64), (.sl (.int .i64))], [false, false], fun x => [], [(false, (.fz .bool))], fun x => (withinR x.2.1 x.1, ()), false, none⟩
def W_spec_l01Map (n : Int) (f : List Int) (K : Bool × Unit → Prop) : Prop := (loopW (S := ((Int × Unit) × Unit)) (fun s => (fun next => ((inK IntKind.i64 s.1.1) → (cnd (decide (s.1.1 < (((List.length f) : Nat) : Int))) (((0 : Int) ≤ s.1.1) ∧ ((s.1.1 < (((List.length f) : Nat) : Int)) ∧ ((((decide ((List.getD f (Int.toNat s.1.1) (0 : Int)) < (0 : Int))) = Bool.false) → ((s.1.1 < (((List.length f) : Nat) : Int)) ∧ ((0 : Int) ≤ s.1.1))) ∧ (cnd ((decide ((List.getD f (Int.toNat s.1.1) (0 : Int)) < (0 : Int))) || (decide (n ≤ (List.getD f (Int.toNat s.1.1) (0 : Int))))) (K (Bool.false, ())) ((inK IntKind.i64 (s.1.1 + (1 : Int))) ∧ (next (((s.1.1 + (1 : Int)), ()), ()))))))) (K (Bool.true, ())))))) (((0 : Int), ()), ()))
theorem w_spec_l01Map (x : denL c_spec_l01Map.args) (K : Bool × Unit → Prop) : evF tab (lkp []) (cutL []) Try.f81 (bodyOf Try.f81) (.s .n (.s (.s .n (.l [(5, (.d (.int .i64)))] [] [0, 1] .n)) .n)) c_spec_l01Map x K = W_spec_l01Map x.1 x.2.1 K := by kernel_rfl
theorem k_spec_l01Map : okC Try.f81.ntmps (cutL []) (bodyOf Try.f81) = true := by kernel_rfl
theorem m_spec_l01Map (n : Int) (f : List Int) (hok : allP (okL c_spec_l01Map.args (n, f, ()))) (hpre : allP (c_spec_l01Map.pre (n, f, ()))) : W_spec_l01Map n f (fun r => r = c_spec_l01Map.res (n, f, ())) := by
  simp only [c_spec_l01Map, okL, T.oks, T.ok, ap, allP, true_and, and_true, implies_true] at hok hpre
  try dsimp only [T.den] at hok
  try dsimp only [T.den] at hpre
  unfold W_spec_l01Map
  refine loop_of (fun (s : ((Int × Unit) × Unit)) => 0 ≤ s.1.1 ∧ s.1.1 ≤ f.length ∧ withinR f n = withinR (f.drop s.1.1.toNat) n) (fun (s : ((Int × Unit) × Unit)) => (f.length - s.1.1).toNat) ?_ (by simp)
  rintro ⟨⟨i, _⟩, _⟩ next ⟨h0, h1, h2⟩ hn hin
  simp only at h0 h1 h2 hn ⊢
  refine cnd_d (fun hc => ?_) (fun hc => ?_)
  · rw [drop_c f 0 h0 hc] at h2
    simp only [withinR, List.all_cons] at h2
    grind [cnd, nb_eq, inK64, c_spec_l01Map, withinR, inR]
  · rw [drop_n f (by omega)] at h2
    grind [cnd, nb_eq, inK64, c_spec_l01Map, withinR]
theorem ct_spec_l01Map : CtOk Try.prog 81 c_spec_l01Map :=
  ct_by (Φ := lkp []) good_nil tab_ok (by kernel_rfl) (fn := Try.f81) (c := bodyOf Try.f81) (by kernel_rfl) (by kernel_rfl) (by kernel_rfl) c_spec_l01Map rfl (.s .n (.s (.s .n (.l [(5, (.d (.int .i64)))] [] [0, 1] .n)) .n)) (cutL []) (by kernel_rfl) (by kernel_rfl) k_spec_l01Map (by decide) (fun x K => W_spec_l01Map x.1 x.2.1 K) w_spec_l01Map (fun x h1 h2 => m_spec_l01Map x.1 x.2.1 h1 h2)
def c_spec_l02Ends : Ct := ⟨[(.sl (.int .i64)), (.int .i64), (.int .i64)], [false, false, false], fun x => [], [(false, (.fz .bool))], fun x => ((decide ((x.1.length : Int) = x.2.1) && withinR x.1 x.2.2.1), ()), false, none⟩
def W_spec_l02Ends (list : List Int) (length : Int) (objects : Int) (K : Bool × Unit → Prop) : Prop := (K ((((((List.length list) : Nat) : Int) == length) && (withinR list objects)), ()))
theorem w_spec_l02Ends (x : denL c_spec_l02Ends.args) (K : Bool × Unit → Prop) : evF tab (lkp [(81, c_spec_l01Map)]) (cutL []) Try.f135 (bodyOf Try.f135) .n c_spec_l02Ends x K = W_spec_l02Ends x.1 x.2.1 x.2.2.1 K := by kernel_rfl
theorem k_spec_l02Ends : okC Try.f135.ntmps (cutL []) (bodyOf Try.f135) = true := by kernel_rfl
theorem m_spec_l02Ends (list : List Int) (length : Int) (objects : Int) (hok : allP (okL c_spec_l02Ends.args (list, length, objects, ()))) (hpre : allP (c_spec_l02Ends.pre (list, length, objects, ()))) : W_spec_l02Ends list length objects (fun r => r = c_spec_l02Ends.res (list, length, objects, ())) := by
  simp only [c_spec_l02Ends, okL, T.oks, T.ok, ap, allP, true_and, and_true, implies_true] at hok hpre
  try dsimp only [T.den] at hok
  try dsimp only [T.den] at hpre
  unfold W_spec_l02Ends
  have : ((list.length : Int) == length) = decide ((list.length : Int) = length) := rfl
  simp only [c_spec_l02Ends, this]
theorem ct_spec_l02Ends : CtOk Try.prog 135 c_spec_l02Ends :=
  ct_by (Φ := lkp [(81, c_spec_l01Map)]) (good_cons ct_spec_l01Map good_nil) tab_ok (by kernel_rfl) (fn := Try.f135) (c := bodyOf Try.f135) (by kernel_rfl) (by kernel_rfl) (by kernel_rfl) c_spec_l02Ends rfl .n (cutL []) (by kernel_rfl) (by kernel_rfl) k_spec_l02Ends (by decide) (fun x K => W_spec_l02Ends x.1 x.2.1 x.2.2.1 K) w_spec_l02Ends (fun x h1 h2 => m_spec_l02Ends x.1 x.2.1 x.2.2.1 h1 h2)
def c_spec_IsShape : Ct := ⟨[CategoryT], [true], fun x => [], [(false, (.fz .bool))], fun x => (shapeR x.1, ()), false, none⟩
def W_spec_IsShape (c : CategoryD) (K : Bool × Unit → Prop) : Prop := (cnd (((((!(inR c.1 (0 : Int) (8 : Int))) || (decide ((40 : Int) < (((List.length c.2.1) : Nat) : Int)))) || (!((decide ((((List.length c.2.1) : Nat) : Int) = (((List.length c.2.1) : Nat) : Int))) && (withinR c.2.1 c.1)))) || (!((decide ((((List.length c.2.2.1) : Nat) : Int) = (((List.length c.2.1) : Nat) : Int))) && (withinR c.2.2.1 c.1)))) || ((((List.length c.2.2.2.2) : Nat) : Int) != (((List.length c.2.1) : Nat) : Int))) (K (Bool.false, ())) (cnd (((((List.length c.2.2.2.1) : Nat) : Int) != c.1) || (!(withinR c.2.2.2.1 (((List.length c.2.1) : Nat) : Int)))) (K (Bool.false, ())) (loopW (S := ((Int × Unit) × Unit)) (fun s => (fun next => ((inK IntKind.i64 s.1.1) → (cnd (decide (s.1.1 < c.1)) (((0 : Int) ≤ s.1.1) ∧ ((s.1.1 < (((List.length c.2.2.2.1) : Nat) : Int)) ∧ (((0 : Int) ≤ (List.getD c.2.2.2.1 (Int.toNat s.1.1) (0 : Int))) ∧ (((List.getD c.2.2.2.1 (Int.toNat s.1.1) (0 : Int)) < (((List.length c.2.1) : Nat) : Int)) ∧ (((((List.getD c.2.1 (Int.toNat (List.getD c.2.2.2.1 (Int.toNat s.1.1) (0 : Int))) (0 : Int)) != s.1.1) = Bool.false) → ((s.1.1 < (((List.length c.2.2.2.1) : Nat) : Int)) ∧ ((0 : Int) ≤ s.1.1))) ∧ (((((List.getD c.2.1 (Int.toNat (List.getD c.2.2.2.1 (Int.toNat s.1.1) (0 : Int))) (0 : Int)) != s.1.1) = Bool.false) → (((List.getD c.2.2.2.1 (Int.toNat s.1.1) (0 : Int)) < (((List.length c.2.2.1) : Nat) : Int)) ∧ ((0 : Int) ≤ (List.getD c.2.2.2.1 (Int.toNat s.1.1) (0 : Int))))) ∧ (cnd (((List.getD c.2.1 (Int.toNat (List.getD c.2.2.2.1 (Int.toNat s.1.1) (0 : Int))) (0 : Int)) != s.1.1) || ((List.getD c.2.2.1 (Int.toNat (List.getD c.2.2.2.1 (Int.toNat s.1.1) (0 : Int))) (0 : Int)) != s.1.1)) (K (Bool.false, ())) ((inK IntKind.i64 (s.1.1 + (1 : Int))) ∧ (next (((s.1.1 + (1 : Int)), ()), ())))))))))) (loopW (S := ((Int × Unit) × Unit)) (fun s1 => (fun next1 => ((inK IntKind.i64 s1.1.1) → (cnd (decide (s1.1.1 < (((List.length c.2.1) : Nat) : Int))) (((0 : Int) ≤ s1.1.1) ∧ ((s1.1.1 < (((List.length c.2.2.2.2) : Nat) : Int)) ∧ (cnd ((((List.length (List.getD c.2.2.2.2 (Int.toNat s1.1.1) ([] : List Int))) : Nat) : Int) != (((List.length c.2.1) : Nat) : Int)) (K (Bool.false, ())) (loopW (S := ((Int × Unit) × Unit)) (fun s2 => (fun next2 => ((inK IntKind.i64 s2.1.1) → (cnd (decide (s2.1.1 < (((List.length c.2.1) : Nat) : Int))) (joinW (S := (Unit × Unit)) (fun s3 => ((inK IntKind.i64 (s2.1.1 + (1 : Int))) ∧ (next2 (((s2.1.1 + (1 : Int)), ()), ())))) (fun k => (((0 : Int) ≤ s1.1.1) ∧ ((s1.1.1 < (((List.length c.2.2.2.2) : Nat) : Int)) ∧ (((0 : Int) ≤ s2.1.1) ∧ ((s2.1.1 < (((List.length (List.getD c.2.2.2.2 (Int.toNat s1.1.1) ([] : List Int))) : Nat) : Int)) ∧ (((0 : Int) ≤ s1.1.1) ∧ ((s1.1.1 < (((List.length c.2.2.1) : Nat) : Int)) ∧ (((0 : Int) ≤ s2.1.1) ∧ ((s2.1.1 < (((List.length c.2.1) : Nat) : Int)) ∧ (cnd ((List.getD c.2.2.1 (Int.toNat s1.1.1) (0 : Int)) != (List.getD c.2.1 (Int.toNat s2.1.1) (0 : Int))) (cnd ((List.getD (List.getD c.2.2.2.2 (Int.toNat s1.1.1) ([] : List Int)) (Int.toNat s2.1.1) (0 : Int)) != (-(1 : Int))) (K (Bool.false, ())) (k ((), ()))) (((((decide ((List.getD (List.getD c.2.2.2.2 (Int.toNat s1.1.1) ([] : List Int)) (Int.toNat s2.1.1) (0 : Int)) < (0 : Int))) || (decide ((((List.length c.2.1) : Nat) : Int) ≤ (List.getD (List.getD c.2.2.2.2 (Int.toNat s1.1.1) ([] : List Int)) (Int.toNat s2.1.1) (0 : Int))))) = Bool.false) → (((List.getD (List.getD c.2.2.2.2 (Int.toNat s1.1.1) ([] : List Int)) (Int.toNat s2.1.1) (0 : Int)) < (((List.length c.2.1) : Nat) : Int)) ∧ ((0 : Int) ≤ (List.getD (List.getD c.2.2.2.2 (Int.toNat s1.1.1) ([] : List Int)) (Int.toNat s2.1.1) (0 : Int))))) ∧ (((((decide ((List.getD (List.getD c.2.2.2.2 (Int.toNat s1.1.1) ([] : List Int)) (Int.toNat s2.1.1) (0 : Int)) < (0 : Int))) || (decide ((((List.length c.2.1) : Nat) : Int) ≤ (List.getD (List.getD c.2.2.2.2 (Int.toNat s1.1.1) ([] : List Int)) (Int.toNat s2.1.1) (0 : Int))))) = Bool.false) → ((s1.1.1 < (((List.length c.2.1) : Nat) : Int)) ∧ ((0 : Int) ≤ s1.1.1))) ∧ ((((((decide ((List.getD (List.getD c.2.2.2.2 (Int.toNat s1.1.1) ([] : List Int)) (Int.toNat s2.1.1) (0 : Int)) < (0 : Int))) || (decide ((((List.length c.2.1) : Nat) : Int) ≤ (List.getD (List.getD c.2.2.2.2 (Int.toNat s1.1.1) ([] : List Int)) (Int.toNat s2.1.1) (0 : Int))))) || ((List.getD c.2.1 (Int.toNat (List.getD (List.getD c.2.2.2.2 (Int.toNat s1.1.1) ([] : List Int)) (Int.toNat s2.1.1) (0 : Int))) (0 : Int)) != (List.getD c.2.1 (Int.toNat s1.1.1) (0 : Int)))) = Bool.false) → (((List.getD (List.getD c.2.2.2.2 (Int.toNat s1.1.1) ([] : List Int)) (Int.toNat s2.1.1) (0 : Int)) < (((List.length c.2.2.1) : Nat) : Int)) ∧ ((0 : Int) ≤ (List.getD (List.getD c.2.2.2.2 (Int.toNat s1.1.1) ([] : List Int)) (Int.toNat s2.1.1) (0 : Int))))) ∧ ((((((decide ((List.getD (List.getD c.2.2.2.2 (Int.toNat s1.1.1) ([] : List Int)) (Int.toNat s2.1.1) (0 : Int)) < (0 : Int))) || (decide ((((List.length c.2.1) : Nat) : Int) ≤ (List.getD (List.getD c.2.2.2.2 (Int.toNat s1.1.1) ([] : List Int)) (Int.toNat s2.1.1) (0 : Int))))) || ((List.getD c.2.1 (Int.toNat (List.getD (List.getD c.2.2.2.2 (Int.toNat s1.1.1) ([] : List Int)) (Int.toNat s2.1.1) (0 : Int))) (0 : Int)) != (List.getD c.2.1 (Int.toNat s1.1.1) (0 : Int)))) = Bool.false) → ((s2.1.1 < (((List.length c.2.2.1) : Nat) : Int)) ∧ ((0 : Int) ≤ s2.1.1))) ∧ (cnd ((((decide ((List.getD (List.getD c.2.2.2.2 (Int.toNat s1.1.1) ([] : List Int)) (Int.toNat s2.1.1) (0 : Int)) < (0 : Int))) || (decide ((((List.length c.2.1) : Nat) : Int) ≤ (List.getD (List.getD c.2.2.2.2 (Int.toNat s1.1.1) ([] : List Int)) (Int.toNat s2.1.1) (0 : Int))))) || ((List.getD c.2.1 (Int.toNat (List.getD (List.getD c.2.2.2.2 (Int.toNat s1.1.1) ([] : List Int)) (Int.toNat s2.1.1) (0 : Int))) (0 : Int)) != (List.getD c.2.1 (Int.toNat s1.1.1) (0 : Int)))) || ((List.getD c.2.2.1 (Int.toNat (List.getD (List.getD c.2.2.2.2 (Int.toNat s1.1.1) ([] : List Int)) (Int.toNat s2.1.1) (0 : Int))) (0 : Int)) != (List.getD c.2.2.1 (Int.toNat s2.1.1) (0 : Int)))) (K (Bool.false, ())) (k ((), ())))))))))))))))))) ((inK IntKind.i64 (s1.1.1 + (1 : Int))) ∧ (next1 (((s1.1.1 + (1 : Int)), ()), ()))))))) (((0 : Int), ()), ()))))) (K (Bool.true, ())))))) (((0 : Int), ()), ())))))) (((0 : Int), ()), ()))))
theorem w_spec_IsShape (x : denL c_spec_IsShape.args) (K : Bool × Unit → Prop) : evF tab (lkp [(127, c_spec_l01In), (81, c_spec_l01Map), (135, c_spec_l02Ends)]) (cutL [(20, 11), (23, 33), (9, 24)]) Try.f96 (bodyOf Try.f96) (.s .n (.s .n (.s .n (.s .n (.s (.s .n (.l [(4, (.d (.int .i64)))] [] [1, 3] .n)) (.s (.s .n (.l [(5, (.d (.int .i64)))] [] [1, 3] (.s .n (.s (.s .n (.s .n (.l [(6, (.d (.int .i64)))] [] [1, 3, 5] (.s .n (.s (.j [] [] [1, 3, 5, 6] .n) .n))))) .n)))) .n)))))) c_spec_IsShape x K = W_spec_IsShape x.1 K := by kernel_rfl
theorem k_spec_IsShape : okC Try.f96.ntmps (cutL [(20, 11), (23, 33), (9, 24)]) (bodyOf Try.f96) = true := by kernel_rfl
theorem m_spec_IsShape (c : CategoryD) (hok : allP (okL c_spec_IsShape.args (c, ()))) (hpre : allP (c_spec_IsShape.pre (c, ()))) : W_spec_IsShape c (fun r => r = c_spec_IsShape.res (c, ())) := by
  simp only [c_spec_IsShape, okL, T.oks, T.ok, ap, allP, true_and, and_true, implies_true] at hok hpre
  try dsimp only [T.den] at hok
  try dsimp only [T.den] at hpre
  unfold W_spec_IsShape
  have bad : ¬ ShapeP c → (false, ()) = c_spec_IsShape.res (c, ()) := fun h => by simp only [c_spec_IsShape]; rw [shape_f h]
  refine cnd_of (fun hc => bad fun h => ?_) (fun hc => cnd_of (fun hd => bad fun h => ?_) (fun hd => ?_))
  · have h1 := h.ob; have h2 := h.m; have h3 := h.lt; have h4 := h.fr; have h5 := h.to; have h6 := h.lc; simp only [inR] at hc; grind [cnd, nb_eq, inK64]
  · have h1 := h.li; have h2 := h.ids; grind [cnd, nb_eq, inK64]
  simp only [inR, Bool.or_eq_false_iff, Bool.not_eq_false', Bool.and_eq_true, decide_eq_true_eq, decide_eq_false_iff_not, bne_eq_false_iff_eq] at hc hd
  obtain ⟨⟨⟨⟨hob, hm⟩, _, hfr⟩, hlt, hto⟩, hlc⟩ := hc
  obtain ⟨hli, hids⟩ := hd
  refine loop_ix (n := c.1) (fun x => ∀ y : Int, 0 ≤ y → y < x → c.2.1.getD (c.2.2.2.1.getD y.toNat 0).toNat 0 = y ∧ c.2.2.1.getD (c.2.2.2.1.getD y.toNat 0).toNat 0 = y) (by omega) (by intro y h0 h1; omega) ?_ ?_
  · intro x next h0 h1 hP hn hin
    have hb := within_iff.1 hids x h0 (by omega)
    try dsimp only
    refine cnd_d (fun _ => ⟨h0, by omega, hb.1, hb.2, fun _ => by omega, fun _ => by omega, cnd_of (fun hx => bad fun h => ?_) (fun hx => ?_)⟩) (fun h => absurd h1 h)
    · have := h.idt x h0 (by omega)
      rw [this.1, this.2] at hx
      simp at hx
    · simp only [Bool.or_eq_false_iff, bne_eq_false_iff_eq] at hx
      refine ⟨by rw [inK64]; (try dsimp only); omega, hn fun y y0 y1 => ?_⟩
      by_cases e : y = x
      · rw [e]; exact hx
      · exact hP y y0 (by omega)
  intro next hidt hin
  refine cnd_d (fun h => absurd h (by dsimp only; omega)) (fun _ => ?_)
  refine loop_ix (n := c.2.1.length) (fun f => ∀ f' : Int, 0 ≤ f' → f' < f → (c.2.2.2.2.getD f'.toNat []).length = c.2.1.length ∧ ∀ g : Int, 0 ≤ g → g < c.2.1.length → cellR c f' g = true) (by omega) (by intro y h0 h1; omega) ?_ ?_
  · intro f next h0 h1 hP hn hin
    try dsimp only
    refine cnd_d (fun _ => ⟨h0, by omega, cnd_of (fun hx => bad fun h => ?_) (fun hx => ?_)⟩) (fun h => absurd h1 h)
    · have := h.row f h0 (by omega)
      rw [this] at hx
      simp at hx
    simp only [bne_eq_false_iff_eq] at hx
    refine loop_ix (n := c.2.1.length) (fun g => ∀ g' : Int, 0 ≤ g' → g' < g → cellR c f g' = true) (by omega) (by intro y h0 h1; omega) ?_ ?_
    · intro g next3 g0 g1 hP3 hn3 hin3
      try dsimp only
      refine cnd_d (fun _ => ?_) (fun h => absurd g1 h)
      refine join_of (fun _ => cellR c f g = true) (fun _ hcell => ⟨by rw [inK64]; (try dsimp only); omega, hn3 fun g' y0 y1 => ?_⟩) (fun k hk => ?_)
      · by_cases e : g' = g
        · rw [e]; exact hcell
        · exact hP3 g' y0 (by omega)
      have hcell : ∀ b, cellR c f g = b → b = false → ¬ ShapeP c := fun b h1 h2 h => by
        have := h.cell f g h0 (by omega) g0 (by omega)
        rw [h1, h2] at this; cases this
      have hk' := hk ((), ())
      obtain ⟨v, hv⟩ : ∃ v, (c.2.2.2.2.getD f.toNat []).getD g.toNat 0 = v := ⟨_, rfl⟩
      have hR : cellR c f g = cellQ c f g v := by unfold cellR compR; rw [hv]
      rw [hR] at hk'
      rw [hR] at hcell
      rw [hv]
      clear hP3 hn3 hP hn hk hR hv hidt hok
      refine ⟨h0, by omega, g0, by omega, h0, by omega, g0, by omega, cnd_of (fun ha => cnd_of (fun hb => bad ?_) (fun hb => hk' ?_)) (fun ha => ⟨fun hv => ?_, fun _ => ⟨by omega, h0⟩, fun hv => ?_, fun _ => ⟨by omega, g0⟩, cnd_of (fun hb => bad ?_) (fun hb => hk' ?_)⟩)⟩
      · exact hcell _ rfl (by grind [cnd, nb_eq, inK64, cellQ])
      · grind [cnd, nb_eq, inK64, cellQ]
      · simp only [Bool.or_eq_false_iff, decide_eq_false_iff_not] at hv; omega
      · simp only [Bool.or_eq_false_iff, decide_eq_false_iff_not] at hv; omega
      · exact hcell _ rfl (by grind [cnd, nb_eq, inK64, cellQ])
      · grind [cnd, nb_eq, inK64, cellQ]
    · intro next3 hP3 hin3
      refine cnd_d (fun h => absurd h (by dsimp only; omega)) (fun _ => ⟨by rw [inK64]; (try dsimp only); omega, hn fun f' y0 y1 => ?_⟩)
      by_cases e : f' = f
      · rw [e]; exact ⟨by omega, fun g g0 g1 => hP3 g g0 (by omega)⟩
      · exact hP f' y0 (by omega)
  · intro next2 hP2 hin2
    refine cnd_d (fun h => absurd h (by dsimp only; omega)) (fun _ => ?_)
    simp only [c_spec_IsShape]
    rw [shape_t ⟨hob, by omega, by omega, hfr, hto, by omega, hids, by omega, fun x a b => hidt x a (by omega), fun f a b => (hP2 f a (by omega)).1, fun f g a b d e => (hP2 f a (by omega)).2 g d e⟩]
theorem ct_spec_IsShape : CtOk Try.prog 96 c_spec_IsShape :=
  ct_by (Φ := lkp [(127, c_spec_l01In), (81, c_spec_l01Map), (135, c_spec_l02Ends)]) (good_cons ct_spec_l01In (good_cons ct_spec_l01Map (good_cons ct_spec_l02Ends good_nil))) tab_ok (by kernel_rfl) (fn := Try.f96) (c := bodyOf Try.f96) (by kernel_rfl) (by kernel_rfl) (by kernel_rfl) c_spec_IsShape rfl (.s .n (.s .n (.s .n (.s .n (.s (.s .n (.l [(4, (.d (.int .i64)))] [] [1, 3] .n)) (.s (.s .n (.l [(5, (.d (.int .i64)))] [] [1, 3] (.s .n (.s (.s .n (.s .n (.l [(6, (.d (.int .i64)))] [] [1, 3, 5] (.s .n (.s (.j [] [] [1, 3, 5, 6] .n) .n))))) .n)))) .n)))))) (cutL [(20, 11), (23, 33), (9, 24)]) (by kernel_rfl) (by kernel_rfl) k_spec_IsShape (by decide) (fun x K => W_spec_IsShape x.1 K) w_spec_IsShape (fun x h1 h2 => m_spec_IsShape x.1 h1 h2)
def c_spec_l02Fault : Ct := ⟨[CategoryT], [true], fun x => [ShapeP x.1], [(false, (.fz (.int .i64))), (false, (.fz (.int .i64))), (false, (.fz (.int .i64))), (false, (.fz (.int .i64)))], fun x => ((faultR x.1).1, (faultR x.1).2.1, (faultR x.1).2.2.1, (faultR x.1).2.2.2, ()), false, none⟩
def W_spec_l02Fault (c : CategoryD) (K : Int × Int × Int × Int × Unit → Prop) : Prop := (loopW (S := ((Int × Unit) × Unit)) (fun s => (fun next => ((inK IntKind.i64 s.1.1) → (cnd (decide (s.1.1 < (((List.length c.2.1) : Nat) : Int))) (((0 : Int) ≤ s.1.1) ∧ ((s.1.1 < (((List.length c.2.1) : Nat) : Int)) ∧ (((0 : Int) ≤ (List.getD c.2.1 (Int.toNat s.1.1) (0 : Int))) ∧ (((List.getD c.2.1 (Int.toNat s.1.1) (0 : Int)) < (((List.length c.2.2.2.1) : Nat) : Int)) ∧ (((0 : Int) ≤ (List.getD c.2.2.2.1 (Int.toNat (List.getD c.2.1 (Int.toNat s.1.1) (0 : Int))) (0 : Int))) ∧ (((List.getD c.2.2.2.1 (Int.toNat (List.getD c.2.1 (Int.toNat s.1.1) (0 : Int))) (0 : Int)) < (((List.length c.2.2.2.2) : Nat) : Int)) ∧ (((0 : Int) ≤ s.1.1) ∧ ((s.1.1 < (((List.length (List.getD c.2.2.2.2 (Int.toNat (List.getD c.2.2.2.1 (Int.toNat (List.getD c.2.1 (Int.toNat s.1.1) (0 : Int))) (0 : Int))) ([] : List Int))) : Nat) : Int)) ∧ (((((List.getD (List.getD c.2.2.2.2 (Int.toNat (List.getD c.2.2.2.1 (Int.toNat (List.getD c.2.1 (Int.toNat s.1.1) (0 : Int))) (0 : Int))) ([] : List Int)) (Int.toNat s.1.1) (0 : Int)) != s.1.1) = Bool.false) → ((s.1.1 < (((List.length c.2.2.2.2) : Nat) : Int)) ∧ ((0 : Int) ≤ s.1.1))) ∧ (((((List.getD (List.getD c.2.2.2.2 (Int.toNat (List.getD c.2.2.2.1 (Int.toNat (List.getD c.2.1 (Int.toNat s.1.1) (0 : Int))) (0 : Int))) ([] : List Int)) (Int.toNat s.1.1) (0 : Int)) != s.1.1) = Bool.false) → ((s.1.1 < (((List.length c.2.2.1) : Nat) : Int)) ∧ ((0 : Int) ≤ s.1.1))) ∧ (((((List.getD (List.getD c.2.2.2.2 (Int.toNat (List.getD c.2.2.2.1 (Int.toNat (List.getD c.2.1 (Int.toNat s.1.1) (0 : Int))) (0 : Int))) ([] : List Int)) (Int.toNat s.1.1) (0 : Int)) != s.1.1) = Bool.false) → (((List.getD c.2.2.1 (Int.toNat s.1.1) (0 : Int)) < (((List.length c.2.2.2.1) : Nat) : Int)) ∧ ((0 : Int) ≤ (List.getD c.2.2.1 (Int.toNat s.1.1) (0 : Int))))) ∧ (((((List.getD (List.getD c.2.2.2.2 (Int.toNat (List.getD c.2.2.2.1 (Int.toNat (List.getD c.2.1 (Int.toNat s.1.1) (0 : Int))) (0 : Int))) ([] : List Int)) (Int.toNat s.1.1) (0 : Int)) != s.1.1) = Bool.false) → (((List.getD c.2.2.2.1 (Int.toNat (List.getD c.2.2.1 (Int.toNat s.1.1) (0 : Int))) (0 : Int)) < (((List.length (List.getD c.2.2.2.2 (Int.toNat s.1.1) ([] : List Int))) : Nat) : Int)) ∧ ((0 : Int) ≤ (List.getD c.2.2.2.1 (Int.toNat (List.getD c.2.2.1 (Int.toNat s.1.1) (0 : Int))) (0 : Int))))) ∧ (cnd (((List.getD (List.getD c.2.2.2.2 (Int.toNat (List.getD c.2.2.2.1 (Int.toNat (List.getD c.2.1 (Int.toNat s.1.1) (0 : Int))) (0 : Int))) ([] : List Int)) (Int.toNat s.1.1) (0 : Int)) != s.1.1) || ((List.getD (List.getD c.2.2.2.2 (Int.toNat s.1.1) ([] : List Int)) (Int.toNat (List.getD c.2.2.2.1 (Int.toNat (List.getD c.2.2.1 (Int.toNat s.1.1) (0 : Int))) (0 : Int))) (0 : Int)) != s.1.1)) (K ((1 : Int), (s.1.1, ((0 : Int), ((0 : Int), ()))))) ((inK IntKind.i64 (s.1.1 + (1 : Int))) ∧ (next (((s.1.1 + (1 : Int)), ()), ())))))))))))))))) (loopW (S := ((Int × Unit) × Unit)) (fun s1 => (fun next1 => ((inK IntKind.i64 s1.1.1) → (cnd (decide (s1.1.1 < (((List.length c.2.1) : Nat) : Int))) (loopW (S := ((Int × Unit) × Unit)) (fun s2 => (fun next2 => ((inK IntKind.i64 s2.1.1) → (cnd (decide (s2.1.1 < (((List.length c.2.1) : Nat) : Int))) (joinW (S := (Unit × Unit)) (fun s3 => ((inK IntKind.i64 (s2.1.1 + (1 : Int))) ∧ (next2 (((s2.1.1 + (1 : Int)), ()), ())))) (fun k => (((0 : Int) ≤ s1.1.1) ∧ ((s1.1.1 < (((List.length c.2.2.1) : Nat) : Int)) ∧ (((0 : Int) ≤ s2.1.1) ∧ ((s2.1.1 < (((List.length c.2.1) : Nat) : Int)) ∧ (cnd ((List.getD c.2.2.1 (Int.toNat s1.1.1) (0 : Int)) != (List.getD c.2.1 (Int.toNat s2.1.1) (0 : Int))) (k ((), ())) (loopW (S := ((Int × Unit) × Unit)) (fun s3 => (fun next3 => ((inK IntKind.i64 s3.1.1) → (cnd (decide (s3.1.1 < (((List.length c.2.1) : Nat) : Int))) (((0 : Int) ≤ s2.1.1) ∧ ((s2.1.1 < (((List.length c.2.2.1) : Nat) : Int)) ∧ (((0 : Int) ≤ s3.1.1) ∧ ((s3.1.1 < (((List.length c.2.1) : Nat) : Int)) ∧ (((((List.getD c.2.2.1 (Int.toNat s2.1.1) (0 : Int)) == (List.getD c.2.1 (Int.toNat s3.1.1) (0 : Int))) = Bool.true) → ((s1.1.1 < (((List.length c.2.2.2.2) : Nat) : Int)) ∧ ((0 : Int) ≤ s1.1.1))) ∧ (((((List.getD c.2.2.1 (Int.toNat s2.1.1) (0 : Int)) == (List.getD c.2.1 (Int.toNat s3.1.1) (0 : Int))) = Bool.true) → ((s2.1.1 < (((List.length (List.getD c.2.2.2.2 (Int.toNat s1.1.1) ([] : List Int))) : Nat) : Int)) ∧ ((0 : Int) ≤ s2.1.1))) ∧ (((((List.getD c.2.2.1 (Int.toNat s2.1.1) (0 : Int)) == (List.getD c.2.1 (Int.toNat s3.1.1) (0 : Int))) = Bool.true) → (((List.getD (List.getD c.2.2.2.2 (Int.toNat s1.1.1) ([] : List Int)) (Int.toNat s2.1.1) (0 : Int)) < (((List.length c.2.2.2.2) : Nat) : Int)) ∧ ((0 : Int) ≤ (List.getD (List.getD c.2.2.2.2 (Int.toNat s1.1.1) ([] : List Int)) (Int.toNat s2.1.1) (0 : Int))))) ∧ (((((List.getD c.2.2.1 (Int.toNat s2.1.1) (0 : Int)) == (List.getD c.2.1 (Int.toNat s3.1.1) (0 : Int))) = Bool.true) → ((s3.1.1 < (((List.length (List.getD c.2.2.2.2 (Int.toNat (List.getD (List.getD c.2.2.2.2 (Int.toNat s1.1.1) ([] : List Int)) (Int.toNat s2.1.1) (0 : Int))) ([] : List Int))) : Nat) : Int)) ∧ ((0 : Int) ≤ s3.1.1))) ∧ (((((List.getD c.2.2.1 (Int.toNat s2.1.1) (0 : Int)) == (List.getD c.2.1 (Int.toNat s3.1.1) (0 : Int))) = Bool.true) → ((s1.1.1 < (((List.length c.2.2.2.2) : Nat) : Int)) ∧ ((0 : Int) ≤ s1.1.1))) ∧ (((((List.getD c.2.2.1 (Int.toNat s2.1.1) (0 : Int)) == (List.getD c.2.1 (Int.toNat s3.1.1) (0 : Int))) = Bool.true) → ((s2.1.1 < (((List.length c.2.2.2.2) : Nat) : Int)) ∧ ((0 : Int) ≤ s2.1.1))) ∧ (((((List.getD c.2.2.1 (Int.toNat s2.1.1) (0 : Int)) == (List.getD c.2.1 (Int.toNat s3.1.1) (0 : Int))) = Bool.true) → ((s3.1.1 < (((List.length (List.getD c.2.2.2.2 (Int.toNat s2.1.1) ([] : List Int))) : Nat) : Int)) ∧ ((0 : Int) ≤ s3.1.1))) ∧ (((((List.getD c.2.2.1 (Int.toNat s2.1.1) (0 : Int)) == (List.getD c.2.1 (Int.toNat s3.1.1) (0 : Int))) = Bool.true) → (((List.getD (List.getD c.2.2.2.2 (Int.toNat s2.1.1) ([] : List Int)) (Int.toNat s3.1.1) (0 : Int)) < (((List.length (List.getD c.2.2.2.2 (Int.toNat s1.1.1) ([] : List Int))) : Nat) : Int)) ∧ ((0 : Int) ≤ (List.getD (List.getD c.2.2.2.2 (Int.toNat s2.1.1) ([] : List Int)) (Int.toNat s3.1.1) (0 : Int))))) ∧ (cnd (((List.getD c.2.2.1 (Int.toNat s2.1.1) (0 : Int)) == (List.getD c.2.1 (Int.toNat s3.1.1) (0 : Int))) && ((List.getD (List.getD c.2.2.2.2 (Int.toNat (List.getD (List.getD c.2.2.2.2 (Int.toNat s1.1.1) ([] : List Int)) (Int.toNat s2.1.1) (0 : Int))) ([] : List Int)) (Int.toNat s3.1.1) (0 : Int)) != (List.getD (List.getD c.2.2.2.2 (Int.toNat s1.1.1) ([] : List Int)) (Int.toNat (List.getD (List.getD c.2.2.2.2 (Int.toNat s2.1.1) ([] : List Int)) (Int.toNat s3.1.1) (0 : Int))) (0 : Int)))) (K ((2 : Int), (s1.1.1, (s2.1.1, (s3.1.1, ()))))) ((inK IntKind.i64 (s3.1.1 + (1 : Int))) ∧ (next3 (((s3.1.1 + (1 : Int)), ()), ())))))))))))))))) (k ((), ())))))) (((0 : Int), ()), ()))))))))) ((inK IntKind.i64 (s1.1.1 + (1 : Int))) ∧ (next1 (((s1.1.1 + (1 : Int)), ()), ()))))))) (((0 : Int), ()), ())) (K ((0 : Int), ((0 : Int), ((0 : Int), ((0 : Int), ()))))))))) (((0 : Int), ()), ())))))) (((0 : Int), ()), ()))
theorem w_spec_l02Fault (x : denL c_spec_l02Fault.args) (K : Int × Int × Int × Int × Unit → Prop) : evF tab (lkp []) (cutL [(17, 44), (5, 38), (13, 11)]) Try.f97 (bodyOf Try.f97) (.s .n (.s .n (.s (.s .n (.l [(7, (.d (.int .i64)))] [] [1, 6] .n)) (.s (.s .n (.l [(8, (.d (.int .i64)))] [] [1, 6] (.s .n (.s (.s .n (.l [(9, (.d (.int .i64)))] [] [1, 6, 8] (.s .n (.s (.j [] [] [1, 6, 8, 9] (.s .n (.s .n (.l [(10, (.d (.int .i64)))] [] [1, 6, 8, 9] .n)))) .n)))) .n)))) .n)))) c_spec_l02Fault x K = W_spec_l02Fault x.1 K := by kernel_rfl
theorem k_spec_l02Fault : okC Try.f97.ntmps (cutL [(17, 44), (5, 38), (13, 11)]) (bodyOf Try.f97) = true := by kernel_rfl
theorem m_spec_l02Fault (c : CategoryD) (hok : allP (okL c_spec_l02Fault.args (c, ()))) (hpre : allP (c_spec_l02Fault.pre (c, ()))) : W_spec_l02Fault c (fun r => r = c_spec_l02Fault.res (c, ())) := by
  simp only [c_spec_l02Fault, okL, T.oks, T.ok, ap, allP, true_and, and_true, implies_true] at hok hpre
  try dsimp only [T.den] at hok
  try dsimp only [T.den] at hpre
  unfold W_spec_l02Fault
  have S : ShapeP c := hpre
  have hlt := S.lt
  have hli := S.li
  have hlc := S.lc
  have hmm := S.m
  have resq : ∀ a b d e, faultR c = (a, b, d, e) → (a, b, d, e, ()) = c_spec_l02Fault.res (c, ()) := fun a b d e h => by simp only [c_spec_l02Fault, h]
  have hcr : ∀ f g : Int, (c.2.2.2.2.getD f.toNat []).getD g.toNat 0 = compR c f g := fun _ _ => rfl
  simp only [hcr]
  refine loop_ix (n := c.2.1.length) (fun f => scanR (faultI c) c.2.1.length 0 = scanR (faultI c) ((c.2.1.length : Int) - f).toNat f) (by omega) scan_0 ?_ ?_
  · intro f next h0 h1 hP hn hin
    try dsimp only
    obtain ⟨a1, a2, a3, a4⟩ := S.frm h0 h1
    obtain ⟨b1, b2, _, _⟩ := S.idn a1 a2
    obtain ⟨d1, d2, _, _⟩ := S.idn a3 a4
    have r1 := S.row _ b1 b2
    have r2 := S.row f h0 h1
    refine cnd_d (fun _ => ⟨h0, h1, by omega, by omega, by omega, by omega, h0, by omega, fun _ => by omega, fun _ => by omega, fun _ => by omega, fun _ => by omega, cnd_of (fun hx => resq _ _ _ _ ?_) (fun hx => ⟨by rw [inK64]; (try dsimp only); omega, hn ?_⟩)⟩) (fun h => absurd h1 h)
    · have : faultI c f = some (1, f, 0, 0) := by unfold faultI; rw [if_pos]; simpa using hx
      unfold faultR; rw [hP, scan_s h1 this]; rfl
    · have : faultI c f = none := by unfold faultI; rw [if_neg]; simpa using hx
      rw [hP, scan_c h1 this]
  intro next hI hin
  rw [scan_n] at hI
  refine cnd_d (fun h => absurd h (by dsimp only; omega)) (fun _ => ?_)
  have hF : faultR c = orR (scanR (faultF c) c.2.1.length 0) (0, 0, 0, 0) := by unfold faultR; rw [hI]; rfl
  refine loop_ix (n := c.2.1.length) (fun f => scanR (faultF c) c.2.1.length 0 = scanR (faultF c) ((c.2.1.length : Int) - f).toNat f) (by omega) scan_0 ?_ ?_
  · intro f next h0 h1 hP hn hin
    try dsimp only
    refine cnd_d (fun _ => ?_) (fun h => absurd h1 h)
    have r1 := S.row f h0 h1
    refine loop_ix (n := c.2.1.length) (fun g => faultF c f = scanR (faultG c f) ((c.2.1.length : Int) - g).toNat g) (by omega) scan_0 ?_ ?_
    · intro g next3 g0 g1 hP3 hn3 hin3
      try dsimp only
      refine cnd_d (fun _ => ?_) (fun h => absurd g1 h)
      have r2 := S.row g g0 g1
      refine join_of (fun _ => faultG c f g = none) (fun _ hG => ⟨by rw [inK64]; (try dsimp only); omega, hn3 (by rw [hP3, scan_c g1 hG])⟩) (fun k hk => ?_)
      have hk' := hk ((), ())
      refine ⟨by omega, by omega, by omega, by omega, cnd_of (fun hx => hk' ?_) (fun hx => ?_)⟩
      · unfold faultG; rw [if_neg]; simpa using hx
      have hfg : c.2.2.1.getD f.toNat 0 = c.2.1.getD g.toNat 0 := by rw [bne_eq_false_iff_eq] at hx; exact hx
      obtain ⟨y1, y2, _, _⟩ := S.yes h0 h1 g0 g1 hfg
      refine loop_ix (n := c.2.1.length) (fun h => faultG c f g = scanR (faultH c f g) ((c.2.1.length : Int) - h).toNat h) (by omega) (by unfold faultG; rw [if_pos hfg]; exact scan_0) ?_ ?_
      · intro h next4 i0 i1 hP4 hn4 hin4
        try dsimp only
        refine cnd_d (fun _ => ?_) (fun h => absurd i1 h)
        have r3 := S.row _ y1 y2
        have cgh := S.comp g0 g1 i0 i1
        have ygh := @ShapeP.yes c S g h g0 g1 i0 i1
        refine ⟨by omega, by omega, by omega, by omega, fun _ => by omega, fun _ => by omega, fun _ => by omega, fun _ => by omega, fun _ => by omega, fun _ => by omega, fun _ => by omega, fun he => ?_, cnd_of (fun hx => resq _ _ _ _ ?_) (fun hx => ⟨by rw [inK64]; (try dsimp only); omega, hn4 ?_⟩)⟩
        · have := ygh (by simpa only [beq_iff_eq] using he); omega
        · have : faultH c f g h = some (2, f, g, h) := by unfold faultH; rw [if_pos]; simpa using hx
          have e1 : faultG c f g = some (2, f, g, h) := by rw [hP4, scan_s i1 this]
          have e2 : faultF c f = some (2, f, g, h) := by rw [hP3, scan_s g1 e1]
          rw [hF, hP, scan_s h1 e2]; rfl
        · have : faultH c f g h = none := by unfold faultH; rw [if_neg]; simpa using hx
          rw [hP4, scan_c i1 this]
      · intro next4 hP4 hin4
        rw [scan_n] at hP4
        exact cnd_d (fun h => absurd h (by dsimp only; omega)) (fun _ => hk' hP4)
    · intro next3 hP3 hin3
      rw [scan_n] at hP3
      exact cnd_d (fun h => absurd h (by dsimp only; omega)) (fun _ => ⟨by rw [inK64]; (try dsimp only); omega, hn (by rw [hP, scan_c h1 hP3])⟩)
  · intro next2 hP2 hin2
    rw [scan_n] at hP2
    refine cnd_d (fun h => absurd h (by dsimp only; omega)) (fun _ => resq _ _ _ _ ?_)
    rw [hF, hP2]; rfl
theorem ct_spec_l02Fault : CtOk Try.prog 97 c_spec_l02Fault :=
  ct_by (Φ := lkp []) good_nil tab_ok (by kernel_rfl) (fn := Try.f97) (c := bodyOf Try.f97) (by kernel_rfl) (by kernel_rfl) (by kernel_rfl) c_spec_l02Fault rfl (.s .n (.s .n (.s (.s .n (.l [(7, (.d (.int .i64)))] [] [1, 6] .n)) (.s (.s .n (.l [(8, (.d (.int .i64)))] [] [1, 6] (.s .n (.s (.s .n (.l [(9, (.d (.int .i64)))] [] [1, 6, 8] (.s .n (.s (.j [] [] [1, 6, 8, 9] (.s .n (.s .n (.l [(10, (.d (.int .i64)))] [] [1, 6, 8, 9] .n)))) .n)))) .n)))) .n)))) (cutL [(17, 44), (5, 38), (13, 11)]) (by kernel_rfl) (by kernel_rfl) k_spec_l02Fault (by decide) (fun x K => W_spec_l02Fault x.1 K) w_spec_l02Fault (fun x h1 h2 => m_spec_l02Fault x.1 h1 h2)
def c_spec_l02Is : Ct := ⟨[CategoryT], [true], fun x => [], [(false, (.fz .bool))], fun x => (catR x.1, ()), false, none⟩
def W_spec_l02Is (c : CategoryD) (K : Bool × Unit → Prop) : Prop := (cnd (!(shapeR c)) (K (Bool.false, ())) ((ShapeP c) ∧ (K (((faultR c).1 == (0 : Int)), ()))))
theorem w_spec_l02Is (x : denL c_spec_l02Is.args) (K : Bool × Unit → Prop) : evF tab (lkp [(96, c_spec_IsShape), (97, c_spec_l02Fault)]) (cutL []) Try.f57 (bodyOf Try.f57) .n c_spec_l02Is x K = W_spec_l02Is x.1 K := by kernel_rfl
theorem k_spec_l02Is : okC Try.f57.ntmps (cutL []) (bodyOf Try.f57) = true := by kernel_rfl
theorem m_spec_l02Is (c : CategoryD) (hok : allP (okL c_spec_l02Is.args (c, ()))) (hpre : allP (c_spec_l02Is.pre (c, ()))) : W_spec_l02Is c (fun r => r = c_spec_l02Is.res (c, ())) := by
  simp only [c_spec_l02Is, okL, T.oks, T.ok, ap, allP, true_and, and_true, implies_true] at hok hpre
  try dsimp only [T.den] at hok
  try dsimp only [T.den] at hpre
  unfold W_spec_l02Is
  simp only [c_spec_l02Is, catR]
  have := @shape_iff c
  grind [cnd, nb_eq, inK64]
theorem ct_spec_l02Is : CtOk Try.prog 57 c_spec_l02Is :=
  ct_by (Φ := lkp [(96, c_spec_IsShape), (97, c_spec_l02Fault)]) (good_cons ct_spec_IsShape (good_cons ct_spec_l02Fault good_nil)) tab_ok (by kernel_rfl) (fn := Try.f57) (c := bodyOf Try.f57) (by kernel_rfl) (by kernel_rfl) (by kernel_rfl) c_spec_l02Is rfl .n (cutL []) (by kernel_rfl) (by kernel_rfl) k_spec_l02Is (by decide) (fun x K => W_spec_l02Is x.1 K) w_spec_l02Is (fun x h1 h2 => m_spec_l02Is x.1 h1 h2)
def c_spec_l19Shape : Ct := ⟨[SetFunctorT], [true], fun x => [], [(false, (.fz .bool))], fun x => (sfShapeR x.1, ()), false, none⟩
def W_spec_l19Shape (f : SetFunctorD) (K : Bool × Unit → Prop) : Prop := (cnd (((!(catR f.1)) || ((((List.length f.2.1) : Nat) : Int) != f.1.1)) || ((((List.length f.2.2) : Nat) : Int) != (((List.length f.1.2.1) : Nat) : Int))) (K (Bool.false, ())) (loopW (S := ((Int × Unit) × Unit)) (fun s => (fun next => ((inK IntKind.i64 s.1.1) → (cnd (decide (s.1.1 < (((List.length f.2.1) : Nat) : Int))) (((0 : Int) ≤ s.1.1) ∧ ((s.1.1 < (((List.length f.2.1) : Nat) : Int)) ∧ (cnd (!(inR (List.getD f.2.1 (Int.toNat s.1.1) (0 : Int)) (0 : Int) (16 : Int))) (K (Bool.false, ())) ((inK IntKind.i64 (s.1.1 + (1 : Int))) ∧ (next (((s.1.1 + (1 : Int)), ()), ())))))) (loopW (S := ((Int × Unit) × Unit)) (fun s1 => (fun next1 => ((inK IntKind.i64 s1.1.1) → (cnd (decide (s1.1.1 < (((List.length f.2.2) : Nat) : Int))) (((0 : Int) ≤ s1.1.1) ∧ ((s1.1.1 < (((List.length f.2.2) : Nat) : Int)) ∧ (((0 : Int) ≤ s1.1.1) ∧ ((s1.1.1 < (((List.length f.1.2.1) : Nat) : Int)) ∧ (((0 : Int) ≤ (List.getD f.1.2.1 (Int.toNat s1.1.1) (0 : Int))) ∧ (((List.getD f.1.2.1 (Int.toNat s1.1.1) (0 : Int)) < (((List.length f.2.1) : Nat) : Int)) ∧ (((((((List.length (List.getD f.2.2 (Int.toNat s1.1.1) ([] : List Int))) : Nat) : Int) != (List.getD f.2.1 (Int.toNat (List.getD f.1.2.1 (Int.toNat s1.1.1) (0 : Int))) (0 : Int))) = Bool.false) → ((s1.1.1 < (((List.length f.1.2.2.1) : Nat) : Int)) ∧ ((0 : Int) ≤ s1.1.1))) ∧ (((((((List.length (List.getD f.2.2 (Int.toNat s1.1.1) ([] : List Int))) : Nat) : Int) != (List.getD f.2.1 (Int.toNat (List.getD f.1.2.1 (Int.toNat s1.1.1) (0 : Int))) (0 : Int))) = Bool.false) → (((List.getD f.1.2.2.1 (Int.toNat s1.1.1) (0 : Int)) < (((List.length f.2.1) : Nat) : Int)) ∧ ((0 : Int) ≤ (List.getD f.1.2.2.1 (Int.toNat s1.1.1) (0 : Int))))) ∧ (((((((List.length (List.getD f.2.2 (Int.toNat s1.1.1) ([] : List Int))) : Nat) : Int) != (List.getD f.2.1 (Int.toNat (List.getD f.1.2.1 (Int.toNat s1.1.1) (0 : Int))) (0 : Int))) = Bool.false) → ((s1.1.1 < (((List.length f.2.2) : Nat) : Int)) ∧ ((0 : Int) ≤ s1.1.1))) ∧ (cnd (((((List.length (List.getD f.2.2 (Int.toNat s1.1.1) ([] : List Int))) : Nat) : Int) != (List.getD f.2.1 (Int.toNat (List.getD f.1.2.1 (Int.toNat s1.1.1) (0 : Int))) (0 : Int))) || (!(withinR (List.getD f.2.2 (Int.toNat s1.1.1) ([] : List Int)) (List.getD f.2.1 (Int.toNat (List.getD f.1.2.2.1 (Int.toNat s1.1.1) (0 : Int))) (0 : Int))))) (K (Bool.false, ())) ((inK IntKind.i64 (s1.1.1 + (1 : Int))) ∧ (next1 (((s1.1.1 + (1 : Int)), ()), ()))))))))))))) (K (Bool.true, ())))))) (((0 : Int), ()), ())))))) (((0 : Int), ()), ())))
theorem w_spec_l19Shape (x : denL c_spec_l19Shape.args) (K : Bool × Unit → Prop) : evF tab (lkp [(127, c_spec_l01In), (81, c_spec_l01Map), (57, c_spec_l02Is)]) (cutL [(11, 36)]) Try.f73 (bodyOf Try.f73) (.s .n (.s .n (.s (.s .n (.l [(3, (.d (.int .i64)))] [] [1] .n)) (.s (.s .n (.l [(4, (.d (.int .i64)))] [] [1] .n)) .n)))) c_spec_l19Shape x K = W_spec_l19Shape x.1 K := by kernel_rfl
theorem k_spec_l19Shape : okC Try.f73.ntmps (cutL [(11, 36)]) (bodyOf Try.f73) = true := by kernel_rfl
theorem m_spec_l19Shape (f : SetFunctorD) (hok : allP (okL c_spec_l19Shape.args (f, ()))) (hpre : allP (c_spec_l19Shape.pre (f, ()))) : W_spec_l19Shape f (fun r => r = c_spec_l19Shape.res (f, ())) := by
  simp only [c_spec_l19Shape, okL, T.oks, T.ok, ap, allP, true_and, and_true, implies_true] at hok hpre
  try dsimp only [T.den] at hok
  try dsimp only [T.den] at hpre
  unfold W_spec_l19Shape
  have hv : sfShapeR f = (catR f.1 && decide ((f.2.1.length : Int) = f.1.1) && withinR f.2.1 17 && decide (f.2.2.length = f.1.2.1.length) && allB f.2.2.length (sfActR f)) := rfl
  have res : ∀ b, sfShapeR f = b → (b, ()) = c_spec_l19Shape.res (f, ()) := fun b h => by simp only [c_spec_l19Shape, h]
  refine cnd_of (fun hc => res _ ?_) (fun hc => ?_)
  · rw [hv]; revert hc
    cases catR f.1 <;> simp
    omega
  simp only [Bool.or_eq_false_iff, Bool.not_eq_false', bne_eq_false_iff_eq] at hc
  obtain ⟨⟨h1, h2⟩, h4⟩ := hc
  have h4' : f.2.2.length = f.1.2.1.length := by omega
  have hw : withinR f.2.1 17 = f.2.1.all fun y => inR y 0 16 := rfl
  rw [h1, decide_eq_true h2, hw, decide_eq_true h4'] at hv
  simp only [Bool.true_and, Bool.and_true] at hv
  have S := cat_shape h1
  have hlt := S.lt
  have hm := S.m
  have hob := S.ob
  refine loop_all f.2.1 0 (fun y => inR y 0 16) ?_ ?_
  · intro x next x0 x1 hno hyes _
    try dsimp only
    refine cnd_d (fun _ => ⟨x0, x1, cnd_of (fun hx => res _ ?_) (fun hx => ⟨by rw [inK64]; (try dsimp only); omega, hyes ?_⟩)⟩) (fun h => absurd x1 h)
    · rw [hv, hno (by simpa using hx)]; rfl
    · simpa using hx
  intro next h _
  refine cnd_d (fun h => absurd h (Int.lt_irrefl _)) (fun _ => ?_)
  rw [h, Bool.true_and] at hv
  rw [← hw] at h
  refine loop_allB f.2.2.length (sfActR f) ?_ ?_
  · intro a next a0 a1 hno hyes _
    try dsimp only
    obtain ⟨k1, k2, k3, k4⟩ := S.frm a0 (by omega)
    have hz := within_iff.1 h _ k3 (by omega)
    refine cnd_d (fun _ => ⟨a0, a1, a0, by omega, k1, by omega, fun _ => by omega, fun _ => by omega, fun _ => by omega, cnd_of (fun hx => res _ ?_) (fun hx => ⟨by rw [inK64]; (try dsimp only); omega, hyes ?_⟩)⟩) (fun h => absurd a1 h)
    · rw [hv]; refine hno ?_; unfold sfActR; revert hx; cases withinR (f.2.2.getD a.toNat []) (f.2.1.getD (f.1.2.2.1.getD a.toNat 0).toNat 0) <;> simp
    · unfold sfActR; revert hx; cases withinR (f.2.2.getD a.toNat []) (f.2.1.getD (f.1.2.2.1.getD a.toNat 0).toNat 0) <;> simp
  · intro next h _
    exact cnd_d (fun h => absurd h (Int.lt_irrefl _)) (fun _ => res _ (by rw [hv, h]))
theorem ct_spec_l19Shape : CtOk Try.prog 73 c_spec_l19Shape :=
  ct_by (Φ := lkp [(127, c_spec_l01In), (81, c_spec_l01Map), (57, c_spec_l02Is)]) (good_cons ct_spec_l01In (good_cons ct_spec_l01Map (good_cons ct_spec_l02Is good_nil))) tab_ok (by kernel_rfl) (fn := Try.f73) (c := bodyOf Try.f73) (by kernel_rfl) (by kernel_rfl) (by kernel_rfl) c_spec_l19Shape rfl (.s .n (.s .n (.s (.s .n (.l [(3, (.d (.int .i64)))] [] [1] .n)) (.s (.s .n (.l [(4, (.d (.int .i64)))] [] [1] .n)) .n)))) (cutL [(11, 36)]) (by kernel_rfl) (by kernel_rfl) k_spec_l19Shape (by decide) (fun x K => W_spec_l19Shape x.1 K) w_spec_l19Shape (fun x h1 h2 => m_spec_l19Shape x.1 h1 h2)
def c_spec_l19Is : Ct := ⟨[SetFunctorT], [true], fun x => [], [(false, (.fz .bool))], fun x => (setfR x.1, ()), false, none⟩
def W_spec_l19Is (f : SetFunctorD) (K : Bool × Unit → Prop) : Prop := (cnd (!(sfShapeR f)) (K (Bool.false, ())) ((SfP f) ∧ (K (((sfFaultR f).1 == (0 : Int)), ()))))
theorem w_spec_l19Is (x : denL c_spec_l19Is.args) (K : Bool × Unit → Prop) : evF tab (lkp [(74, c_spec_l19Fault), (73, c_spec_l19Shape)]) (cutL []) Try.f43 (bodyOf Try.f43) .n c_spec_l19Is x K = W_spec_l19Is x.1 K := by kernel_rfl
theorem k_spec_l19Is : okC Try.f43.ntmps (cutL []) (bodyOf Try.f43) = true := by kernel_rfl
theorem m_spec_l19Is (f : SetFunctorD) (hok : allP (okL c_spec_l19Is.args (f, ()))) (hpre : allP (c_spec_l19Is.pre (f, ()))) : W_spec_l19Is f (fun r => r = c_spec_l19Is.res (f, ())) := by
  simp only [c_spec_l19Is, okL, T.oks, T.ok, ap, allP, true_and, and_true, implies_true] at hok hpre
  try dsimp only [T.den] at hok
  try dsimp only [T.den] at hpre
  unfold W_spec_l19Is
  have h1 := @sf_iff f
  simp only [c_spec_l19Is, setfR]
  grind [cnd, nb_eq, inK64]
theorem ct_spec_l19Is : CtOk Try.prog 43 c_spec_l19Is :=
  ct_by (Φ := lkp [(74, c_spec_l19Fault), (73, c_spec_l19Shape)]) (good_cons ct_spec_l19Fault (good_cons ct_spec_l19Shape good_nil)) tab_ok (by kernel_rfl) (fn := Try.f43) (c := bodyOf Try.f43) (by kernel_rfl) (by kernel_rfl) (by kernel_rfl) c_spec_l19Is rfl .n (cutL []) (by kernel_rfl) (by kernel_rfl) k_spec_l19Is (by decide) (fun x K => W_spec_l19Is x.1 K) w_spec_l19Is (fun x h1 h2 => m_spec_l19Is x.1 h1 h2)
def c_spec_l01Has : Ct := ⟨[(.sl (.int .i64)), (.int .i64)], [false, false], fun x => [], [(false, (.fz .bool))], fun x => (hasR x.1 x.2.1, ()), false, none⟩
def W_spec_l01Has (list : List Int) (n : Int) (K : Bool × Unit → Prop) : Prop := (loopW (S := ((Int × Unit) × Unit)) (fun s => (fun next => ((inK IntKind.i64 s.1.1) → (cnd (decide (s.1.1 < (((List.length list) : Nat) : Int))) (((0 : Int) ≤ s.1.1) ∧ ((s.1.1 < (((List.length list) : Nat) : Int)) ∧ (cnd ((List.getD list (Int.toNat s.1.1) (0 : Int)) == n) (K (Bool.true, ())) ((inK IntKind.i64 (s.1.1 + (1 : Int))) ∧ (next (((s.1.1 + (1 : Int)), ()), ())))))) (K (Bool.false, ())))))) (((0 : Int), ()), ()))
theorem w_spec_l01Has (x : denL c_spec_l01Has.args) (K : Bool × Unit → Prop) : evF tab (lkp []) (cutL []) Try.f129 (bodyOf Try.f129) (.s .n (.s (.s .n (.l [(5, (.d (.int .i64)))] [] [0, 1] .n)) .n)) c_spec_l01Has x K = W_spec_l01Has x.1 x.2.1 K := by kernel_rfl
theorem k_spec_l01Has : okC Try.f129.ntmps (cutL []) (bodyOf Try.f129) = true := by kernel_rfl
theorem m_spec_l01Has (list : List Int) (n : Int) (hok : allP (okL c_spec_l01Has.args (list, n, ()))) (hpre : allP (c_spec_l01Has.pre (list, n, ()))) : W_spec_l01Has list n (fun r => r = c_spec_l01Has.res (list, n, ())) := by
  simp only [c_spec_l01Has, okL, T.oks, T.ok, ap, allP, true_and, and_true, implies_true] at hok hpre
  try dsimp only [T.den] at hok
  try dsimp only [T.den] at hpre
  unfold W_spec_l01Has
  refine loop_of (fun (s : ((Int × Unit) × Unit)) => 0 ≤ s.1.1 ∧ s.1.1 ≤ list.length ∧ hasR list n = hasR (list.drop s.1.1.toNat) n) (fun (s : ((Int × Unit) × Unit)) => (list.length - s.1.1).toNat) ?_ (by simp)
  rintro ⟨⟨i, _⟩, _⟩ next ⟨h0, h1, h2⟩ hn hin
  simp only at h0 h1 h2 hn ⊢
  refine cnd_d (fun hc => ?_) (fun hc => ?_)
  · rw [drop_c list 0 h0 hc] at h2
    simp only [hasR, List.any_cons] at h2
    grind [cnd, nb_eq, inK64, c_spec_l01Has, hasR]
  · rw [drop_n list (by omega)] at h2
    grind [cnd, nb_eq, inK64, c_spec_l01Has, hasR]
theorem ct_spec_l01Has : CtOk Try.prog 129 c_spec_l01Has :=
  ct_by (Φ := lkp []) good_nil tab_ok (by kernel_rfl) (fn := Try.f129) (c := bodyOf Try.f129) (by kernel_rfl) (by kernel_rfl) (by kernel_rfl) c_spec_l01Has rfl (.s .n (.s (.s .n (.l [(5, (.d (.int .i64)))] [] [0, 1] .n)) .n)) (cutL []) (by kernel_rfl) (by kernel_rfl) k_spec_l01Has (by decide) (fun x K => W_spec_l01Has x.1 x.2.1 K) w_spec_l01Has (fun x h1 h2 => m_spec_l01Has x.1 x.2.1 h1 h2)
/-- no number stands twice -/
def injR (l : List Int) : Bool := decide l.Nodup

def c_spec_l19Injective : Ct := ⟨[(.sl (.int .i64))], [false], fun x => [], [(false, (.fz .bool))], fun x => (injR x.1, ()), false, none⟩
def W_spec_l19Injective (list : List Int) (K : Bool × Unit → Prop) : Prop := (loopW (S := ((Int × Unit) × Unit)) (fun s => (fun next => ((inK IntKind.i64 s.1.1) → (cnd (decide (s.1.1 < (((List.length list) : Nat) : Int))) (((0 : Int) ≤ s.1.1) ∧ ((s.1.1 ≤ (((List.length list) : Nat) : Int)) ∧ (((0 : Int) ≤ s.1.1) ∧ ((s.1.1 < (((List.length list) : Nat) : Int)) ∧ (cnd (hasR (List.take (Int.toNat s.1.1) list) (List.getD list (Int.toNat s.1.1) (0 : Int))) (K (Bool.false, ())) ((inK IntKind.i64 (s.1.1 + (1 : Int))) ∧ (next (((s.1.1 + (1 : Int)), ()), ())))))))) (K (Bool.true, ())))))) (((0 : Int), ()), ()))
theorem w_spec_l19Injective (x : denL c_spec_l19Injective.args) (K : Bool × Unit → Prop) : evF tab (lkp [(129, c_spec_l01Has)]) (cutL [(4, 8)]) Try.f76 (bodyOf Try.f76) (.s .n (.s (.s .n (.l [(3, (.d (.int .i64)))] [] [0] .n)) .n)) c_spec_l19Injective x K = W_spec_l19Injective x.1 K := by kernel_rfl
theorem k_spec_l19Injective : okC Try.f76.ntmps (cutL [(4, 8)]) (bodyOf Try.f76) = true := by kernel_rfl
theorem m_spec_l19Injective (list : List Int) (hok : allP (okL c_spec_l19Injective.args (list, ()))) (hpre : allP (c_spec_l19Injective.pre (list, ()))) : W_spec_l19Injective list (fun r => r = c_spec_l19Injective.res (list, ())) := by
  simp only [c_spec_l19Injective, okL, T.oks, T.ok, ap, allP, true_and, and_true, implies_true] at hok hpre
  try dsimp only [T.den] at hok
  try dsimp only [T.den] at hpre
  unfold W_spec_l19Injective
  have hl : list.length ≤ 140737488355328 := by simp only [nb_eq] at hok; omega
  have res : ∀ b, injR list = b → (b, ()) = c_spec_l19Injective.res (list, ()) := fun b h => by simp only [c_spec_l19Injective, h]
  refine loop_ix (n := list.length) (fun i => (list.take i.toNat).Nodup) (by omega) (by simp) ?_ ?_
  · intro i next i0 i1 hP hn hin
    try dsimp only
    have hd : (list.take (i + 1).toNat).Nodup ↔ hasR (list.take i.toNat) (list.getD i.toNat 0) = false := by
      rw [take_c list 0 i0 i1, List.nodup_append]
      simp only [hP, true_and, hasR, List.any_eq_false, beq_iff_eq, List.mem_singleton, List.nodup_cons, List.not_mem_nil, not_false_eq_true, List.nodup_nil]
      constructor
      · intro h a ha; exact fun e => h a ha _ rfl e
      · intro h a ha b hb e; subst hb; exact h a ha e
    refine cnd_d (fun _ => ⟨i0, by omega, i0, i1, cnd_of (fun hx => res _ ?_) (fun hx => ⟨by rw [inK64]; (try dsimp only); omega, hn (hd.2 hx)⟩)⟩) (fun h => absurd i1 h)
    refine decide_eq_false fun hN => ?_
    rw [hd.1 (hN.sublist (List.take_sublist _ _))] at hx
    cases hx
  · intro next hP hin
    rw [take_n _ (Int.le_refl _)] at hP
    exact cnd_d (fun h => absurd h (by dsimp only; omega)) (fun _ => res _ (decide_eq_true hP))
theorem ct_spec_l19Injective : CtOk Try.prog 76 c_spec_l19Injective :=
  ct_by (Φ := lkp [(129, c_spec_l01Has)]) (good_cons ct_spec_l01Has good_nil) tab_ok (by kernel_rfl) (fn := Try.f76) (c := bodyOf Try.f76) (by kernel_rfl) (by kernel_rfl) (by kernel_rfl) c_spec_l19Injective rfl (.s .n (.s (.s .n (.l [(3, (.d (.int .i64)))] [] [0] .n)) .n)) (cutL [(4, 8)]) (by kernel_rfl) (by kernel_rfl) k_spec_l19Injective (by decide) (fun x K => W_spec_l19Injective x.1 K) w_spec_l19Injective (fun x h1 h2 => m_spec_l19Injective x.1 h1 h2)
def c_spec_l02Hom : Ct := ⟨[CategoryT, (.int .i64), (.int .i64)], [true, false, false], fun x => [x.1.2.1.length ≤ 40, x.1.2.2.1.length = x.1.2.1.length], [(false, (.sl (.fz (.int .i64))))], fun x => (homR x.1 x.2.1 x.2.2.1, ()), false, none⟩
def W_spec_l02Hom (c : CategoryD) (x : Int) (y : Int) (K : (List Int) × Unit → Prop) : Prop := (loopW (S := ((Unit × (Int × Unit)) × ((List Int) × Unit))) (fun s => (fun next => ((inK IntKind.i64 s.1.2.1) → ((T.ok (T.sl (T.int IntKind.i64)) s.2.1) → (cnd (decide (s.1.2.1 < (((List.length c.2.1) : Nat) : Int))) (((0 : Int) ≤ s.1.2.1) ∧ ((s.1.2.1 < (((List.length c.2.1) : Nat) : Int)) ∧ (((((List.getD c.2.1 (Int.toNat s.1.2.1) (0 : Int)) == x) = Bool.true) → ((s.1.2.1 < (((List.length c.2.2.1) : Nat) : Int)) ∧ ((0 : Int) ≤ s.1.2.1))) ∧ (joinW (S := ((Unit × Unit) × ((List Int) × Unit))) (fun s1 => ((T.ok (T.sl (T.int IntKind.i64)) s1.2.1) → ((inK IntKind.i64 (s.1.2.1 + (1 : Int))) ∧ (next (((), ((s.1.2.1 + (1 : Int)), ())), (s1.2.1, ())))))) (fun k => (cnd (((List.getD c.2.1 (Int.toNat s.1.2.1) (0 : Int)) == x) && ((List.getD c.2.2.1 (Int.toNat s.1.2.1) (0 : Int)) == y)) ((room (List.length s.2.1) (List.length (s.1.2.1 :: ([] : List Int))) 8) ∧ (k (((), ()), ((s.2.1 ++ (s.1.2.1 :: ([] : List Int))), ())))) (k (((), ()), (s.2.1, ()))))))))) (K (s.2.1, ()))))))) (((), ((0 : Int), ())), (([] : List Int), ())))
theorem w_spec_l02Hom (x : denL c_spec_l02Hom.args) (K : (List Int) × Unit → Prop) : evF tab (lkp []) (cutL []) Try.f128 (bodyOf Try.f128) (.s .n (.s .n (.s (.s .n (.l [(7, (.ref 800007 [])), (8, (.d (.int .i64)))] [(800007, (.sl (.fz (.int .i64))))] [1, 2, 3] (.s .n (.s (.s .n (.j [(7, (.ref 800007 []))] [(800007, (.sl (.fz (.int .i64))))] [1, 2, 3, 8] .n)) .n)))) .n))) c_spec_l02Hom x K = W_spec_l02Hom x.1 x.2.1 x.2.2.1 K := by kernel_rfl
theorem k_spec_l02Hom : okC Try.f128.ntmps (cutL []) (bodyOf Try.f128) = true := by kernel_rfl
theorem m_spec_l02Hom (c : CategoryD) (x : Int) (y : Int) (hok : allP (okL c_spec_l02Hom.args (c, x, y, ()))) (hpre : allP (c_spec_l02Hom.pre (c, x, y, ()))) : W_spec_l02Hom c x y (fun r => r = c_spec_l02Hom.res (c, x, y, ())) := by
  simp only [c_spec_l02Hom, okL, T.oks, T.ok, ap, allP, true_and, and_true, implies_true] at hok hpre
  try dsimp only [T.den] at hok
  try dsimp only [T.den] at hpre
  unfold W_spec_l02Hom
  have hm : c.2.1.length ≤ 40 := hpre.1
  have hlt : c.2.2.1.length = c.2.1.length := hpre.2
  refine loop_of (fun (s : ((Unit × (Int × Unit)) × ((List Int) × Unit))) => 0 ≤ s.1.2.1 ∧ s.1.2.1 ≤ c.2.1.length ∧ s.2.1 = selR s.1.2.1.toNat fun f => c.2.1.getD f.toNat 0 == x && c.2.2.1.getD f.toNat 0 == y) (fun (s : ((Unit × (Int × Unit)) × ((List Int) × Unit))) => (c.2.1.length - s.1.2.1).toNat) ?_ ⟨by simp, by simp, rfl⟩
  rintro ⟨⟨_, i, _⟩, l, _⟩ next ⟨h0, h1, h2⟩ hn hin hl
  try dsimp only at h0 h1 h2 hn ⊢
  subst h2
  refine cnd_d (fun hc => ⟨h0, hc, fun _ => by omega, join_of (fun s1 => s1.2.1 = selR (i + 1).toNat fun f => c.2.1.getD f.toNat 0 == x && c.2.2.1.getD f.toNat 0 == y) (fun s1 hs _ => ⟨by rw [inK64]; (try dsimp only); omega, hn _ ⟨(by first | omega | (dsimp only; omega)), (by first | omega | (dsimp only; omega)), hs⟩ (by first | omega | (dsimp only; omega))⟩) (fun k hk => cnd_of (fun hx => ⟨?_, hk _ ?_⟩) (fun hx => hk _ ?_))⟩) (fun hc => ?_)
  · have := sel_len (p := fun f => c.2.1.getD f.toNat 0 == x && c.2.2.1.getD f.toNat 0 == y) i.toNat
    unfold room
    rw [nb_eq]
    have h3 : (i :: ([] : List Int)).length = 1 := rfl
    rw [h3]
    omega
  · exact (sel_t h0 hx).symm
  · exact (sel_f h0 hx).symm
  · have e1 : i.toNat = c.2.1.length := by omega
    simp only [c_spec_l02Hom, homR]
    rw [e1]
theorem ct_spec_l02Hom : CtOk Try.prog 128 c_spec_l02Hom :=
  ct_by (Φ := lkp []) good_nil tab_ok (by kernel_rfl) (fn := Try.f128) (c := bodyOf Try.f128) (by kernel_rfl) (by kernel_rfl) (by kernel_rfl) c_spec_l02Hom rfl (.s .n (.s .n (.s (.s .n (.l [(7, (.ref 800007 [])), (8, (.d (.int .i64)))] [(800007, (.sl (.fz (.int .i64))))] [1, 2, 3] (.s .n (.s (.s .n (.j [(7, (.ref 800007 []))] [(800007, (.sl (.fz (.int .i64))))] [1, 2, 3, 8] .n)) .n)))) .n))) (cutL []) (by kernel_rfl) (by kernel_rfl) k_spec_l02Hom (by decide) (fun x K => W_spec_l02Hom x.1 x.2.1 x.2.2.1 K) w_spec_l02Hom (fun x h1 h2 => m_spec_l02Hom x.1 x.2.1 x.2.2.1 h1 h2)
def c_spec_l20Parts : Ct := ⟨[SetFunctorT, (.int .i64), (.int .i64)], [true, false, false], fun x => [SfP x.1, 0 ≤ x.2.1, x.2.1 < x.1.1.1, 0 ≤ x.2.2.1, x.2.2.1 < x.1.2.1.getD x.2.1.toNat 0], [(false, (.sl (.sl (.fz (.int .i64)))))], fun x => (partsR x.1 x.2.1 x.2.2.1, ()), false, none⟩
def W_spec_l20Parts (f : SetFunctorD) (x : Int) (e : Int) (K : (List (List Int)) × Unit → Prop) : Prop := (loopW (S := ((Unit × (Int × Unit)) × ((List (List Int)) × Unit))) (fun s => (fun next => ((inK IntKind.i64 s.1.2.1) → ((T.ok (T.sl (T.sl (T.int IntKind.i64))) s.2.1) → (cnd (decide (s.1.2.1 < f.1.1)) (((List.length f.1.2.1) ≤ 40) ∧ (((List.length f.1.2.2.1) = (List.length f.1.2.1)) ∧ (loopW (S := ((Unit × (Unit × (Int × Unit))) × ((List (List Int)) × ((List Int) × Unit)))) (fun s1 => (fun next1 => ((inK IntKind.i64 s1.1.2.2.1) → ((T.ok (T.sl (T.sl (T.int IntKind.i64))) s1.2.1) → ((T.ok (T.sl (T.int IntKind.i64)) s1.2.2.1) → (cnd (decide (s1.1.2.2.1 < (((List.length (homR f.1 x s.1.2.1)) : Nat) : Int))) (((0 : Int) ≤ s1.1.2.2.1) ∧ ((s1.1.2.2.1 < (((List.length (homR f.1 x s.1.2.1)) : Nat) : Int)) ∧ (((0 : Int) ≤ (List.getD (homR f.1 x s.1.2.1) (Int.toNat s1.1.2.2.1) (0 : Int))) ∧ (((List.getD (homR f.1 x s.1.2.1) (Int.toNat s1.1.2.2.1) (0 : Int)) < (((List.length f.2.2) : Nat) : Int)) ∧ (((0 : Int) ≤ e) ∧ ((e < (((List.length (List.getD f.2.2 (Int.toNat (List.getD (homR f.1 x s.1.2.1) (Int.toNat s1.1.2.2.1) (0 : Int))) ([] : List Int))) : Nat) : Int)) ∧ ((room (List.length s1.2.2.1) (List.length ((List.getD (List.getD f.2.2 (Int.toNat (List.getD (homR f.1 x s.1.2.1) (Int.toNat s1.1.2.2.1) (0 : Int))) ([] : List Int)) (Int.toNat e) (0 : Int)) :: ([] : List Int))) 8) ∧ ((inK IntKind.i64 (s1.1.2.2.1 + (1 : Int))) ∧ (next1 (((), ((), ((s1.1.2.2.1 + (1 : Int)), ()))), (s1.2.1, ((s1.2.2.1 ++ ((List.getD (List.getD f.2.2 (Int.toNat (List.getD (homR f.1 x s.1.2.1) (Int.toNat s1.1.2.2.1) (0 : Int))) ([] : List Int)) (Int.toNat e) (0 : Int)) :: ([] : List Int))), ())))))))))))) ((room (List.length s1.2.1) (List.length (s1.2.2.1 :: ([] : List (List Int)))) 24) ∧ ((inK IntKind.i64 (s.1.2.1 + (1 : Int))) ∧ (next (((), ((s.1.2.1 + (1 : Int)), ())), ((s1.2.1 ++ (s1.2.2.1 :: ([] : List (List Int)))), ()))))))))))) (((), ((), ((0 : Int), ()))), (s.2.1, (([] : List Int), ())))))) (K (s.2.1, ()))))))) (((), ((0 : Int), ())), (([] : List (List Int)), ())))
theorem w_spec_l20Parts (x : denL c_spec_l20Parts.args) (K : (List (List Int)) × Unit → Prop) : evF tab (lkp [(128, c_spec_l02Hom)]) (cutL [(9, 13)]) Try.f75 (bodyOf Try.f75) (.s .n (.s .n (.s (.s .n (.l [(7, (.ref 800007 [])), (8, (.d (.int .i64)))] [(800007, (.sl (.sl (.fz (.int .i64)))))] [1, 2, 3] (.s .n (.s (.s .n (.s (.s .n (.l [(7, (.ref 800007 [])), (10, (.ref 800010 [])), (11, (.d (.int .i64)))] [(800007, (.sl (.sl (.fz (.int .i64))))), (800010, (.sl (.fz (.int .i64))))] [1, 2, 3, 8, 9] .n)) .n)) .n)))) .n))) c_spec_l20Parts x K = W_spec_l20Parts x.1 x.2.1 x.2.2.1 K := by kernel_rfl
theorem k_spec_l20Parts : okC Try.f75.ntmps (cutL [(9, 13)]) (bodyOf Try.f75) = true := by kernel_rfl
theorem m_spec_l20Parts (f : SetFunctorD) (x : Int) (e : Int) (hok : allP (okL c_spec_l20Parts.args (f, x, e, ()))) (hpre : allP (c_spec_l20Parts.pre (f, x, e, ()))) : W_spec_l20Parts f x e (fun r => r = c_spec_l20Parts.res (f, x, e, ())) := by
  simp only [c_spec_l20Parts, okL, T.oks, T.ok, ap, allP, true_and, and_true, implies_true] at hok hpre
  try dsimp only [T.den] at hok
  try dsimp only [T.den] at hpre
  unfold W_spec_l20Parts
  obtain ⟨S, x0, x1, e0, e1⟩ := hpre
  have C := cat_shape S.cat
  have hob := C.ob
  have hm := C.m
  have hlt := C.lt
  have hla := S.la
  refine loop_ixa (n := f.1.1) (fun i => tabN i.toNat (partR f x e)) hob.1 rfl ?_ ?_
  · intro i next i0 i1 hn hin hol
    try dsimp only at hn hin hol ⊢
    rw [tabN_s i0] at hn
    have hl : (tabN i.toNat (partR f x e)).length = i.toNat := tabN_len _
    generalize tabN i.toNat (partR f x e) = A at *
    have hhl : (homR f.1 x i).length ≤ 40 := Nat.le_trans (sel_len _) hm
    refine cnd_d (fun _ => ⟨hm, hlt, ?_⟩) (fun h => absurd i1 h)
    refine loop_of (fun (s : ((Unit × (Unit × (Int × Unit))) × ((List (List Int)) × ((List Int) × Unit)))) => 0 ≤ s.1.2.2.1 ∧ s.1.2.2.1 ≤ (homR f.1 x i).length ∧ s.2.1 = A ∧ s.2.2.1 = ((homR f.1 x i).take s.1.2.2.1.toNat).map fun h => actR f h e) (fun (s : ((Unit × (Unit × (Int × Unit))) × ((List (List Int)) × ((List Int) × Unit)))) => ((homR f.1 x i).length - s.1.2.2.1).toNat) ?_ ⟨by simp, by simp, rfl, by simp⟩
    rintro ⟨⟨_, _, j, _⟩, o, q, _⟩ next1 ⟨j0, j1, e2, e3⟩ hn1 hjn _ _
    try dsimp only at j0 j1 e2 e3 hn1 hjn ⊢
    subst e2
    refine cnd_d (fun hc => ?_) (fun hc => ?_)
    · have hh := hom_mem.1 (getD_mem (homR f.1 x i) 0 j0 hc)
      have ht := take_c (homR f.1 x i) 0 j0 hc
      have hql : q.length ≤ 40 := by rw [e3, List.length_map, List.length_take]; omega
      generalize (homR f.1 x i).getD j.toNat 0 = h at *
      obtain ⟨k1, _⟩ := S.at_ hh.1 hh.2.1 e0 (by rw [hh.2.2.1]; exact e1)
      refine ⟨j0, hc, hh.1, by omega, e0, k1, room_of (by simp only [List.length_cons, List.length_nil]; omega), by rw [inK64]; (try dsimp only); omega, hn1 _ ⟨by dsimp only; omega, by dsimp only; omega, rfl, ?_⟩ (by dsimp only; omega)⟩
      try dsimp only
      rw [ht, List.map_append, ← e3]; rfl
    · have hj : j = (homR f.1 x i).length := by omega
      refine ⟨room_of (by simp only [List.length_cons, List.length_nil]; omega), by rw [inK64]; (try dsimp only); omega, ?_⟩
      rw [e3, take_n _ (by omega)]
      exact hn
  · intro next _ _
    exact cnd_d (fun h => absurd h (Int.lt_irrefl _)) (fun _ => by simp only [c_spec_l20Parts, partsR])
theorem ct_spec_l20Parts : CtOk Try.prog 75 c_spec_l20Parts :=
  ct_by (Φ := lkp [(128, c_spec_l02Hom)]) (good_cons ct_spec_l02Hom good_nil) tab_ok (by kernel_rfl) (fn := Try.f75) (c := bodyOf Try.f75) (by kernel_rfl) (by kernel_rfl) (by kernel_rfl) c_spec_l20Parts rfl (.s .n (.s .n (.s (.s .n (.l [(7, (.ref 800007 [])), (8, (.d (.int .i64)))] [(800007, (.sl (.sl (.fz (.int .i64)))))] [1, 2, 3] (.s .n (.s (.s .n (.s (.s .n (.l [(7, (.ref 800007 [])), (10, (.ref 800010 [])), (11, (.d (.int .i64)))] [(800007, (.sl (.sl (.fz (.int .i64))))), (800010, (.sl (.fz (.int .i64))))] [1, 2, 3, 8, 9] .n)) .n)) .n)))) .n))) (cutL [(9, 13)]) (by kernel_rfl) (by kernel_rfl) k_spec_l20Parts (by decide) (fun x K => W_spec_l20Parts x.1 x.2.1 x.2.2.1 K) w_spec_l20Parts (fun x h1 h2 => m_spec_l20Parts x.1 x.2.1 x.2.2.1 h1 h2)
theorem sel_one {p : Int → Bool} {a : Int} (a0 : 0 ≤ a) : ∀ {n : Nat}, a < n → p a = false → (selR n fun y => p y || a == y).length = (selR n p).length + 1
  | 0, h, _ => by omega
  | n + 1, h, hp => by
    by_cases e : a = n
    · subst e
      have e1 : (selR n fun y => p y || (n : Int) == y) = selR n p := sel_congr fun i i0 i1 => by rw [beq_eq_false_iff_ne.2 (by omega), Bool.or_false]
      unfold selR
      rw [e1, if_pos (by simp), if_neg (by rw [hp]; simp), List.length_append]; rfl
    · have ih := sel_one a0 (n := n) (by omega) hp
      have e2 : (p (n : Int) || a == (n : Int)) = p n := by rw [beq_eq_false_iff_ne.2 e, Bool.or_false]
      unfold selR
      simp only [e2]
      split
      · rw [List.length_append, List.length_append, ih]; simp
      · exact ih
theorem image_cons {n a : Int} {r : List Int} : imageR n (a :: r) = selR n.toNat fun y => hasR r y || a == y := sel_congr fun y _ _ => by simp only [hasR, List.any_cons, Bool.or_comm]
theorem image_nodup {n : Int} : ∀ {l : List Int}, withinR l n = true → (imageR n l).length ≤ l.length ∧ ((imageR n l).length = l.length ↔ l.Nodup)
  | [], _ => by
    have : imageR n [] = [] := List.eq_nil_iff_forall_not_mem.2 fun y h => by have := (sel_mem.1 h).2.2; simp [hasR] at this
    rw [this]; simp
  | a :: r, h => by
    simp only [withinR, List.all_cons, Bool.and_eq_true, inR_iff] at h
    obtain ⟨i1, i2⟩ := image_nodup (n := n) (l := r) h.2
    rw [image_cons, List.nodup_cons, List.length_cons]
    have hm : hasR r a = true ↔ a ∈ r := by simp [hasR]
    cases hh : hasR r a with
    | true =>
      have e : (selR n.toNat fun y => hasR r y || a == y) = imageR n r := sel_congr fun y _ _ => by
        by_cases e : a = y
        · subst e; rw [hh, Bool.true_or]
        · rw [beq_eq_false_iff_ne.2 e, Bool.or_false]
      rw [e]
      refine ⟨by omega, by omega, fun h1 => absurd (hm.1 hh) h1.1⟩
    | false =>
      have e : (selR n.toNat fun y => hasR r y || a == y).length = (imageR n r).length + 1 := sel_one h.1.1 (by omega) hh
      rw [e]
      refine ⟨by omega, ?_⟩
      rw [← i2]
      have : a ∉ r := fun h1 => by rw [hm.2 h1] at hh; cases hh
      constructor
      · intro h1; exact ⟨this, by omega⟩
      · intro h1; omega
theorem bij_inj {l : List Int} {n : Int} (n0 : 0 ≤ n) : bijR l n = (((l.length : Int) == n) && (withinR l n && injR l)) := by
  unfold bijR injR
  cases h1 : (l.length : Int) == n with
  | false => rfl
  | true =>
    cases h2 : withinR l n with
    | false => rfl
    | true =>
      have := (image_nodup h2).2
      rw [beq_iff_eq] at h1
      simp only [Bool.true_and]
      rw [Bool.eq_iff_iff, beq_iff_eq, decide_eq_true_eq, ← this]; omega

def c_spec_l20Universal : Ct := ⟨[SetFunctorT, (.int .i64), (.int .i64)], [true, false, false], fun x => [SfP x.1, 0 ≤ x.2.1, x.2.1 < x.1.1.1, 0 ≤ x.2.2.1, x.2.2.1 < x.1.2.1.getD x.2.1.toNat 0], [(false, (.fz .bool))], fun x => (univR x.1 x.2.1 x.2.2.1, ()), false, none⟩
def W_spec_l20Universal (f : SetFunctorD) (x : Int) (e : Int) (K : Bool × Unit → Prop) : Prop := ((SfP f) ∧ (((0 : Int) ≤ x) ∧ ((x < f.1.1) ∧ (((0 : Int) ≤ e) ∧ ((e < (List.getD f.2.1 (Int.toNat x) (0 : Int))) ∧ (loopW (S := ((Int × Unit) × Unit)) (fun s => (fun next => ((inK IntKind.i64 s.1.1) → (cnd (decide (s.1.1 < (((List.length (partsR f x e)) : Nat) : Int))) (((0 : Int) ≤ s.1.1) ∧ ((s.1.1 < (((List.length (partsR f x e)) : Nat) : Int)) ∧ (((0 : Int) ≤ s.1.1) ∧ ((s.1.1 < (((List.length f.2.1) : Nat) : Int)) ∧ (((((((List.length (List.getD (partsR f x e) (Int.toNat s.1.1) ([] : List Int))) : Nat) : Int) != (List.getD f.2.1 (Int.toNat s.1.1) (0 : Int))) = Bool.false) → ((s.1.1 < (((List.length (partsR f x e)) : Nat) : Int)) ∧ ((0 : Int) ≤ s.1.1))) ∧ (cnd (((((List.length (List.getD (partsR f x e) (Int.toNat s.1.1) ([] : List Int))) : Nat) : Int) != (List.getD f.2.1 (Int.toNat s.1.1) (0 : Int))) || (!(injR (List.getD (partsR f x e) (Int.toNat s.1.1) ([] : List Int))))) (K (Bool.false, ())) ((inK IntKind.i64 (s.1.1 + (1 : Int))) ∧ (next (((s.1.1 + (1 : Int)), ()), ()))))))))) (K (Bool.true, ())))))) (((0 : Int), ()), ())))))))
theorem w_spec_l20Universal (x : denL c_spec_l20Universal.args) (K : Bool × Unit → Prop) : evF tab (lkp [(76, c_spec_l19Injective), (75, c_spec_l20Parts)]) (cutL [(5, 19)]) Try.f44 (bodyOf Try.f44) (.s .n (.s .n (.s (.s .n (.l [(8, (.d (.int .i64)))] [] [3, 7] .n)) .n))) c_spec_l20Universal x K = W_spec_l20Universal x.1 x.2.1 x.2.2.1 K := by kernel_rfl
theorem k_spec_l20Universal : okC Try.f44.ntmps (cutL [(5, 19)]) (bodyOf Try.f44) = true := by kernel_rfl
theorem m_spec_l20Universal (f : SetFunctorD) (x : Int) (e : Int) (hok : allP (okL c_spec_l20Universal.args (f, x, e, ()))) (hpre : allP (c_spec_l20Universal.pre (f, x, e, ()))) : W_spec_l20Universal f x e (fun r => r = c_spec_l20Universal.res (f, x, e, ())) := by
  simp only [c_spec_l20Universal, okL, T.oks, T.ok, ap, allP, true_and, and_true, implies_true] at hok hpre
  try dsimp only [T.den] at hok
  try dsimp only [T.den] at hpre
  unfold W_spec_l20Universal
  obtain ⟨S, x0, x1, e0, e1⟩ := hpre
  have C := cat_shape S.cat
  have hob := C.ob
  have hlz := S.lz
  have hl : (partsR f x e).length = f.1.1.toNat := tabN_len _
  have res : ∀ b, univR f x e = b → (b, ()) = c_spec_l20Universal.res (f, x, e, ()) := fun b h => by simp only [c_spec_l20Universal, h]
  have key : ∀ y : Int, 0 ≤ y → y < f.1.1 → bijR (partR f x e y) (f.2.1.getD y.toNat 0) = !((((partR f x e y).length : Nat) : Int) != f.2.1.getD y.toNat 0 || !(injR (partR f x e y))) := fun y y0 y1 => by
    have hw : withinR (partR f x e y) (f.2.1.getD y.toNat 0) = true := by
      rw [within_iff]
      refine (all_ix (d := 0) (p := fun v => 0 ≤ v ∧ v < f.2.1.getD y.toNat 0)).1 ?_
      intro v hv
      obtain ⟨h, hh, rfl⟩ := List.mem_map.1 hv
      have hm := hom_mem.1 hh
      obtain ⟨_, k1, k2⟩ := S.at_ hm.1 hm.2.1 e0 (by rw [hm.2.2.1]; exact e1)
      rw [hm.2.2.2] at k2
      exact ⟨k1, k2⟩
    rw [bij_inj (S.size y0 y1).1, hw]
    cases hq : injR (partR f x e y) <;> cases hr : ((((partR f x e y).length : Nat) : Int) == f.2.1.getD y.toNat 0) <;> simp_all [bne]
  refine ⟨S, x0, x1, e0, e1, ?_⟩
  refine loop_allB f.1.1.toNat (fun y => bijR (partR f x e y) (f.2.1.getD y.toNat 0)) ?_ ?_
  · intro y next y0 y1 hno hyes _
    have hg : (partsR f x e).getD y.toNat [] = partR f x e y := tabN_get y0 y1
    have hk := key y y0 (by omega)
    try dsimp only at hno hyes ⊢
    rw [hg]
    refine cnd_d (fun _ => ⟨y0, by omega, y0, by omega, fun _ => ⟨by omega, y0⟩, cnd_of (fun hx => res _ ?_) (fun hx => ⟨by rw [inK64]; (try dsimp only); omega, hyes (by rw [hk, hx]; rfl)⟩)⟩) (fun h => absurd (by omega) h)
    unfold univR; exact hno (by rw [hk, hx]; rfl)
  · intro next h _
    exact cnd_d (fun h => absurd h (by dsimp only; omega)) (fun _ => res _ h)
theorem ct_spec_l20Universal : CtOk Try.prog 44 c_spec_l20Universal :=
  ct_by (Φ := lkp [(76, c_spec_l19Injective), (75, c_spec_l20Parts)]) (good_cons ct_spec_l19Injective (good_cons ct_spec_l20Parts good_nil)) tab_ok (by kernel_rfl) (fn := Try.f44) (c := bodyOf Try.f44) (by kernel_rfl) (by kernel_rfl) (by kernel_rfl) c_spec_l20Universal rfl (.s .n (.s .n (.s (.s .n (.l [(8, (.d (.int .i64)))] [] [3, 7] .n)) .n))) (cutL [(5, 19)]) (by kernel_rfl) (by kernel_rfl) k_spec_l20Universal (by decide) (fun x K => W_spec_l20Universal x.1 x.2.1 x.2.2.1 K) w_spec_l20Universal (fun x h1 h2 => m_spec_l20Universal x.1 x.2.1 x.2.2.1 h1 h2)
def c_spec_UniversalElements : Ct := ⟨[SetFunctorT], [true], fun x => [], [(false, (.sl (.sl (.fz (.int .i64))))), (false, (.fz (.int .i64)))], fun x => ((uelsR x.1).1, (uelsR x.1).2, ()), false, none⟩
def W_spec_UniversalElements (f : SetFunctorD) (K : (List (List Int)) × Int × Unit → Prop) : Prop := (cnd (!(setfR f)) (K (([] : List (List Int)), ((1 : Int), ()))) (loopW (S := ((Unit × (Int × Unit)) × ((List (List Int)) × Unit))) (fun s => (fun next => ((inK IntKind.i64 s.1.2.1) → ((T.ok (T.sl (T.sl (T.int IntKind.i64))) s.2.1) → (cnd (decide (s.1.2.1 < f.1.1)) (loopW (S := ((Unit × (Int × Unit)) × ((List (List Int)) × Unit))) (fun s1 => (fun next1 => ((inK IntKind.i64 s1.1.2.1) → ((T.ok (T.sl (T.sl (T.int IntKind.i64))) s1.2.1) → (((0 : Int) ≤ s.1.2.1) ∧ ((s.1.2.1 < (((List.length f.2.1) : Nat) : Int)) ∧ (cnd (decide (s1.1.2.1 < (List.getD f.2.1 (Int.toNat s.1.2.1) (0 : Int)))) ((SfP f) ∧ (((0 : Int) ≤ s.1.2.1) ∧ ((s.1.2.1 < f.1.1) ∧ (((0 : Int) ≤ s1.1.2.1) ∧ ((s1.1.2.1 < (List.getD f.2.1 (Int.toNat s.1.2.1) (0 : Int))) ∧ (joinW (S := ((Unit × Unit) × ((List (List Int)) × Unit))) (fun s2 => ((T.ok (T.sl (T.sl (T.int IntKind.i64))) s2.2.1) → ((inK IntKind.i64 (s1.1.2.1 + (1 : Int))) ∧ (next1 (((), ((s1.1.2.1 + (1 : Int)), ())), (s2.2.1, ())))))) (fun k => (cnd (univR f s.1.2.1 s1.1.2.1) ((room (List.length s1.2.1) (List.length ((s.1.2.1 :: (s1.1.2.1 :: ([] : List Int))) :: ([] : List (List Int)))) 24) ∧ (k (((), ()), ((s1.2.1 ++ ((s.1.2.1 :: (s1.1.2.1 :: ([] : List Int))) :: ([] : List (List Int)))), ())))) (k (((), ()), (s1.2.1, ()))))))))))) ((inK IntKind.i64 (s.1.2.1 + (1 : Int))) ∧ (next (((), ((s.1.2.1 + (1 : Int)), ())), (s1.2.1, ()))))))))))) (((), ((0 : Int), ())), (s.2.1, ()))) (K (s.2.1, ((0 : Int), ())))))))) (((), ((0 : Int), ())), (([] : List (List Int)), ()))))
theorem w_spec_UniversalElements (x : denL c_spec_UniversalElements.args) (K : (List (List Int)) × Int × Unit → Prop) : evF tab (lkp [(43, c_spec_l19Is), (44, c_spec_l20Universal)]) (cutL []) Try.f11 (bodyOf Try.f11) (.s .n (.s .n (.s .n (.s (.s .n (.l [(4, (.ref 800004 [])), (5, (.d (.int .i64)))] [(800004, (.sl (.sl (.fz (.int .i64)))))] [1] (.s .n (.s (.s .n (.l [(4, (.ref 800004 [])), (6, (.d (.int .i64)))] [(800004, (.sl (.sl (.fz (.int .i64)))))] [1, 5] (.s .n (.s (.s .n (.j [(4, (.ref 800004 []))] [(800004, (.sl (.sl (.fz (.int .i64)))))] [1, 5, 6] .n)) .n)))) .n)))) .n)))) c_spec_UniversalElements x K = W_spec_UniversalElements x.1 K := by kernel_rfl
theorem k_spec_UniversalElements : okC Try.f11.ntmps (cutL []) (bodyOf Try.f11) = true := by kernel_rfl
theorem m_spec_UniversalElements (f : SetFunctorD) (hok : allP (okL c_spec_UniversalElements.args (f, ()))) (hpre : allP (c_spec_UniversalElements.pre (f, ()))) : W_spec_UniversalElements f (fun r => r = c_spec_UniversalElements.res (f, ())) := by
  simp only [c_spec_UniversalElements, okL, T.oks, T.ok, ap, allP, true_and, and_true, implies_true] at hok hpre
  try dsimp only [T.den] at hok
  try dsimp only [T.den] at hpre
  unfold W_spec_UniversalElements
  refine cnd_of (fun hx => ?_) (fun hx => ?_)
  · simp only [c_spec_UniversalElements, uelsR]; rw [if_neg (by simpa using hx)]
  have hf : setfR f = true := by simpa using hx
  have S := setf_sf hf
  have hob := (cat_shape S.cat).ob
  have hlz := S.lz
  refine loop_ixa (n := f.1.1) (fun i => ((tabN i.toNat fun x => pairR x (f.2.1.getD x.toNat 0).toNat).flatten).filter (fun p => univR f (p.getD 0 0) (p.getD 1 0))) hob.1 rfl ?_ ?_
  · intro i next i0 i1 hn hin hol
    have hs := S.size i0 i1
    have hl : (((tabN i.toNat fun x => pairR x (f.2.1.getD x.toNat 0).toNat).flatten).filter (fun p => univR f (p.getD 0 0) (p.getD 1 0))).length ≤ i.toNat * 16 := by
      have := flat_le (B := 16) (L := tabN i.toNat fun x => pairR x (f.2.1.getD x.toNat 0).toNat) (fun l hl => by
        obtain ⟨x, x0, x1, rfl⟩ := tabN_mem.1 hl
        have := S.size x0 (by omega)
        unfold pairR; rw [tabN_len]; omega)
      rw [tabN_len] at this
      exact Nat.le_trans (List.length_filter_le _ _) this
    try dsimp only at hn hin hol ⊢
    rw [tabN_s i0, List.flatten_append, List.flatten_cons, List.flatten_nil, List.append_nil, List.filter_append] at hn
    generalize ((tabN i.toNat fun x => pairR x (f.2.1.getD x.toNat 0).toNat).flatten).filter (fun p => univR f (p.getD 0 0) (p.getD 1 0)) = A at *
    refine cnd_d (fun _ => ?_) (fun h => absurd i1 h)
    refine loop_ixa (n := f.2.1.getD i.toNat 0) (fun j => A ++ (pairR i j.toNat).filter (fun p => univR f (p.getD 0 0) (p.getD 1 0))) (by omega) (by simp [pairR, tabN]) ?_ ?_
    · intro j next1 j0 j1 hn1 hjn hjl
      have hp : pairR i (j + 1).toNat = pairR i j.toNat ++ [[i, j]] := by unfold pairR; rw [tabN_s j0]
      have hpl : ((pairR i j.toNat).filter (fun p => univR f (p.getD 0 0) (p.getD 1 0))).length ≤ j.toNat := Nat.le_trans (List.length_filter_le _ _) (by unfold pairR; rw [tabN_len]; omega)
      try dsimp only at hn1 hjl ⊢
      rw [hp, List.filter_append, ← List.append_assoc] at hn1
      refine ⟨i0, by omega, cnd_d (fun _ => ⟨S, i0, i1, j0, j1, ?_⟩) (fun h => absurd j1 h)⟩
      refine join_add _ (fun s hs _ => ⟨by rw [inK64]; (try dsimp only); omega, by rw [hs]; exact hn1⟩) (fun k hk => cnd_of (fun hu => ⟨room_of (by simp only [List.length_append, List.length_cons, List.length_nil]; omega), hk _ ?_⟩) (fun hu => hk _ ?_))
      · rw [fil_1t (p := fun p : List Int => univR f (p.getD 0 0) (p.getD 1 0)) (a := [i, j]) hu]
      · rw [fil_1f (p := fun p : List Int => univR f (p.getD 0 0) (p.getD 1 0)) (a := [i, j]) hu, List.append_nil]
    · intro next1 _ _
      exact ⟨i0, by omega, cnd_d (fun h => absurd h (Int.lt_irrefl _)) (fun _ => ⟨by rw [inK64]; (try dsimp only); omega, hn⟩)⟩
  · intro next _ _
    refine cnd_d (fun h => absurd h (Int.lt_irrefl _)) (fun _ => ?_)
    simp only [c_spec_UniversalElements, uelsR, if_pos hf, uelR, pairsR]
    rw [show f.1.1.toNat = f.2.1.length from by omega]
theorem ct_spec_UniversalElements : CtOk Try.prog 11 c_spec_UniversalElements :=
  ct_by (Φ := lkp [(43, c_spec_l19Is), (44, c_spec_l20Universal)]) (good_cons ct_spec_l19Is (good_cons ct_spec_l20Universal good_nil)) tab_ok (by kernel_rfl) (fn := Try.f11) (c := bodyOf Try.f11) (by kernel_rfl) (by kernel_rfl) (by kernel_rfl) c_spec_UniversalElements rfl (.s .n (.s .n (.s .n (.s (.s .n (.l [(4, (.ref 800004 [])), (5, (.d (.int .i64)))] [(800004, (.sl (.sl (.fz (.int .i64)))))] [1] (.s .n (.s (.s .n (.l [(4, (.ref 800004 [])), (6, (.d (.int .i64)))] [(800004, (.sl (.sl (.fz (.int .i64)))))] [1, 5] (.s .n (.s (.s .n (.j [(4, (.ref 800004 []))] [(800004, (.sl (.sl (.fz (.int .i64)))))] [1, 5, 6] .n)) .n)))) .n)))) .n)))) (cutL []) (by kernel_rfl) (by kernel_rfl) k_spec_UniversalElements (by decide) (fun x K => W_spec_UniversalElements x.1 K) w_spec_UniversalElements (fun x h1 h2 => m_spec_UniversalElements x.1 h1 h2)
def c_laws_FnExactUniversalElements : Ct := ⟨[SetFunctorT], [true], fun x => [], [(false, (.fz .bool))], fun x => (true, ()), false, none⟩
def W_laws_FnExactUniversalElements (aF : SetFunctorD) (K : Bool × Unit → Prop) : Prop := (((-(4611404543450677248 : Int)) ≤ (1048576 : Int)) ∧ (cnd (decide ((szR (wR SetFunctorT aF) (1048576 : Int)) < (0 : Int))) (K (Bool.true, ())) (((wR SetFunctorT aF) ≤ 1099511627776) ∧ (((wR SetFunctorT aF) ≤ 1099511627776) ∧ (cnd ((!(eqR (T.sl (T.sl (T.int IntKind.i64))) (uelsR aF).1 (uelsR aF).1)) || ((uelsR aF).2 != (uelsR aF).2)) (K (Bool.false, ())) (((wR SetFunctorT aF) ≤ 1099511627776) ∧ (cnd (!(eqR SetFunctorT aF aF)) (K (Bool.false, ())) (((0 : Int) ≤ (1 : Int)) ∧ ((((1 : Int) + (((ctR SetFunctorT aF) : Nat) : Int)) ≤ (4611686018427387904 : Int)) ∧ (cnd (((decide ((mtR SetFunctorT aF (1 : Int)).2 < (0 : Int))) || (!(eqR (T.sl (T.sl (T.int IntKind.i64))) (uelsR aF).1 (uelsR aF).1))) || ((uelsR aF).2 != (uelsR aF).2)) (K (Bool.false, ())) (((0 : Int) ≤ (1 : Int)) ∧ ((((1 : Int) + (((ckR (T.sl (T.sl (T.int IntKind.i64))) (uelsR aF).1) : Nat) : Int)) ≤ (4611686018427387904 : Int)) ∧ (((0 : Int) ≤ (1 : Int)) ∧ ((((1 : Int) + (((ckR (T.sl (T.sl (T.int IntKind.i64))) (mkR (T.sl (T.sl (T.int IntKind.i64))) (uelsR aF).1 (1 : Int)).1) : Nat) : Int)) ≤ (4611686018427387904 : Int)) ∧ (cnd (decide ((hdR (T.sl (T.sl (T.int IntKind.i64))) (mkR (T.sl (T.sl (T.int IntKind.i64))) (uelsR aF).1 (1 : Int)).1 (1 : Int)) < (0 : Int))) (K (Bool.false, ())) (cnd ((hdR (T.sl (T.sl (T.int IntKind.i64))) (mkR (T.sl (T.sl (T.int IntKind.i64))) (uelsR aF).1 (1 : Int)).1 (1 : Int)) != (mkR (T.sl (T.sl (T.int IntKind.i64))) (uelsR aF).1 (1 : Int)).2) (K (Bool.false, ())) (((wR SetFunctorT aF) ≤ 1099511627776) ∧ (cnd ((!(eqR (T.sl (T.sl (T.int IntKind.i64))) (uelsR aF).1 (uelsR aF).1)) || ((uelsR aF).2 != (uelsR aF).2)) (K (Bool.false, ())) (((0 : Int) ≤ (1 : Int)) ∧ ((((1 : Int) + (((ckR (T.sl (T.sl (T.int IntKind.i64))) (mkR (T.sl (T.sl (T.int IntKind.i64))) (uelsR aF).1 (1 : Int)).1) : Nat) : Int)) ≤ (4611686018427387904 : Int)) ∧ (cnd (decide ((hdR (T.sl (T.sl (T.int IntKind.i64))) (mkR (T.sl (T.sl (T.int IntKind.i64))) (uelsR aF).1 (1 : Int)).1 (1 : Int)) < (0 : Int))) (K (Bool.false, ())) (cnd ((hdR (T.sl (T.sl (T.int IntKind.i64))) (mkR (T.sl (T.sl (T.int IntKind.i64))) (uelsR aF).1 (1 : Int)).1 (1 : Int)) != (mkR (T.sl (T.sl (T.int IntKind.i64))) (uelsR aF).1 (1 : Int)).2) (K (Bool.false, ())) (K (Bool.true, ()))))))))))))))))))))))))
theorem w_laws_FnExactUniversalElements (x : denL c_laws_FnExactUniversalElements.args) (K : Bool × Unit → Prop) : evF tab (lkp [(13, c_impl_UniversalElements), (14, c_laws_eqInt64SS), (15, c_laws_eqSetFunctor), (18, c_laws_heldInt64SS), (17, c_laws_markInt64SS), (16, c_laws_markSetFunctor), (10, c_laws_szSetFunctor), (12, c_laws_toSetFunctor), (11, c_spec_UniversalElements)]) (cutL [(10, 503)]) Try.f3 (bodyOf Try.f3) .n c_laws_FnExactUniversalElements x K = W_laws_FnExactUniversalElements x.1 K := by kernel_rfl
theorem k_laws_FnExactUniversalElements : okC Try.f3.ntmps (cutL [(10, 503)]) (bodyOf Try.f3) = true := by kernel_rfl
theorem m_laws_FnExactUniversalElements (aF : SetFunctorD) (hok : allP (okL c_laws_FnExactUniversalElements.args (aF, ()))) (hpre : allP (c_laws_FnExactUniversalElements.pre (aF, ()))) : W_laws_FnExactUniversalElements aF (fun r => r = c_laws_FnExactUniversalElements.res (aF, ())) := by
  simp only [c_laws_FnExactUniversalElements, okL, T.oks, T.ok, ap, allP, true_and, and_true, implies_true] at hok hpre
  try dsimp only [T.den] at hok
  try dsimp only [T.den] at hpre
  unfold W_laws_FnExactUniversalElements
  have hg : ckR (.sl (.sl (.int .i64))) (uelsR aF).1 ≤ 38400 := by
    unfold uelsR
    split
    · rename_i h
      have S := setf_sf h
      have hpl := pairs_len S
      have hl : (uelR aF).length ≤ 128 := Nat.le_trans (List.length_filter_le _ _) hpl
      have h2 := ck_rows (k := .i64) (B := 2) (uelR aF) fun r hr => by
        obtain ⟨x, e, rfl, _⟩ := pairs_mem (fun x x0 x1 => (S.size x0 (by have := S.lz; omega)).1) (List.mem_filter.1 hr).1
        simp
      show ckR (.sl (.sl (.int .i64))) (uelR aF) ≤ 38400
      omega
    · simp [ckR]
  have e1 := ct_le SetFunctorT (by decide) aF
  have e2 := @hd_mk1 (.sl (.sl (.int .i64))) (uelsR aF).1 1
  simp only [Int.ofNat_one, Int.natCast_one] at e2
  simp only [eqR_self, mk_num, mt_num, ck_mk, e2, szR_neg]
  generalize wR SetFunctorT aF = n1 at *
  generalize ctR SetFunctorT aF = n2 at *
  generalize ckR (.sl (.sl (.int .i64))) (uelsR aF).1 = n3 at *
  generalize (uelsR aF) = g at *
  clear hok
  repeat' (first | rfl | (refine cnd_d (fun _ => rfl) (fun h => ?_)) | (refine cnd_of (fun h => absurd h (by first | (simp; done) | (simp; omega))) (fun _ => ?_)) | (refine ⟨by omega, ?_⟩))
theorem ct_laws_FnExactUniversalElements : CtOk Try.prog 3 c_laws_FnExactUniversalElements :=
  ct_by (Φ := lkp [(13, c_impl_UniversalElements), (14, c_laws_eqInt64SS), (15, c_laws_eqSetFunctor), (18, c_laws_heldInt64SS), (17, c_laws_markInt64SS), (16, c_laws_markSetFunctor), (10, c_laws_szSetFunctor), (12, c_laws_toSetFunctor), (11, c_spec_UniversalElements)]) (good_cons ct_impl_UniversalElements (good_cons ct_laws_eqInt64SS (good_cons ct_laws_eqSetFunctor (good_cons ct_laws_heldInt64SS (good_cons ct_laws_markInt64SS (good_cons ct_laws_markSetFunctor (good_cons ct_laws_szSetFunctor (good_cons ct_laws_toSetFunctor (good_cons ct_spec_UniversalElements good_nil))))))))) tab_ok (by kernel_rfl) (fn := Try.f3) (c := bodyOf Try.f3) (by kernel_rfl) (by kernel_rfl) (by kernel_rfl) c_laws_FnExactUniversalElements rfl .n (cutL [(10, 503)]) (by kernel_rfl) (by kernel_rfl) k_laws_FnExactUniversalElements (by decide) (fun x K => W_laws_FnExactUniversalElements x.1 K) w_laws_FnExactUniversalElements (fun x h1 h2 => m_laws_FnExactUniversalElements x.1 h1 h2)
end Go.Bm
