/- What the functions that FnExactImplySieves reaches give: for each its contract, what it asks, and the proof. No condition. -/
import Derived.Test.YtjlppddaadhhcaaTab
namespace Go.Bm
open Go.Proofs
set_option maxRecDepth 100000
set_option maxHeartbeats 1000000
set_option linter.unusedVariables false
set_option linter.unusedSimpArgs false
def c_impl_Category_arrows : Ct := ⟨[(.pt CategoryT)], [false], fun x => [], [(false, (.fz (.int .i64)))], fun x => ((x.1.2.1.length : Int), ()), false, none⟩
def W_impl_Category_arrows (c : CategoryD) (K : Int × Unit → Prop) : Prop := (K ((((List.length c.2.1) : Nat) : Int), ()))
theorem w_impl_Category_arrows (x : denL c_impl_Category_arrows.args) (K : Int × Unit → Prop) : evF tab (lkp []) (cutL []) Try.f60 (bodyOf Try.f60) .n c_impl_Category_arrows x K = W_impl_Category_arrows x.1 K := by kernel_rfl
theorem k_impl_Category_arrows : okC Try.f60.ntmps (cutL []) (bodyOf Try.f60) = true := by kernel_rfl
theorem m_impl_Category_arrows (c : CategoryD) (hok : allP (okL c_impl_Category_arrows.args (c, ()))) (hpre : allP (c_impl_Category_arrows.pre (c, ()))) : W_impl_Category_arrows c (fun r => r = c_impl_Category_arrows.res (c, ())) := by
  simp only [c_impl_Category_arrows, okL, T.oks, T.ok, ap, allP, true_and, and_true, implies_true] at hok hpre
  try dsimp only [T.den] at hok
  try dsimp only [T.den] at hpre
  unfold W_impl_Category_arrows
  rfl
theorem ct_impl_Category_arrows : CtOk Try.prog 60 c_impl_Category_arrows :=
  ct_by (Φ := lkp []) good_nil tab_ok (by kernel_rfl) (fn := Try.f60) (c := bodyOf Try.f60) (by kernel_rfl) (by kernel_rfl) (by kernel_rfl) c_impl_Category_arrows rfl .n (cutL []) (by kernel_rfl) (by kernel_rfl) k_impl_Category_arrows (by decide) (fun x K => W_impl_Category_arrows x.1 K) w_impl_Category_arrows (fun x h1 h2 => m_impl_Category_arrows x.1 h1 h2)
def compR (c : CategoryD) (f g : Int) : Int := (c.2.2.2.2.getD f.toNat []).getD g.toNat 0

def c_impl_Category_then : Ct := ⟨[(.pt CategoryT), (.int .i64), (.int .i64)], [false, false, false], fun x => [0 ≤ x.2.1, x.2.1 < x.1.2.2.2.2.length, 0 ≤ x.2.2.1, x.2.2.1 < (x.1.2.2.2.2.getD x.2.1.toNat []).length], [(false, (.fz (.int .i64)))], fun x => (compR x.1 x.2.1 x.2.2.1, ()), false, none⟩
def W_impl_Category_then (c : CategoryD) (f : Int) (g : Int) (K : Int × Unit → Prop) : Prop := (((0 : Int) ≤ f) ∧ ((f < (((List.length c.2.2.2.2) : Nat) : Int)) ∧ (((0 : Int) ≤ g) ∧ ((g < (((List.length (List.getD c.2.2.2.2 (Int.toNat f) ([] : List Int))) : Nat) : Int)) ∧ (K ((List.getD (List.getD c.2.2.2.2 (Int.toNat f) ([] : List Int)) (Int.toNat g) (0 : Int)), ()))))))
theorem w_impl_Category_then (x : denL c_impl_Category_then.args) (K : Int × Unit → Prop) : evF tab (lkp []) (cutL []) Try.f82 (bodyOf Try.f82) .n c_impl_Category_then x K = W_impl_Category_then x.1 x.2.1 x.2.2.1 K := by kernel_rfl
theorem k_impl_Category_then : okC Try.f82.ntmps (cutL []) (bodyOf Try.f82) = true := by kernel_rfl
theorem m_impl_Category_then (c : CategoryD) (f : Int) (g : Int) (hok : allP (okL c_impl_Category_then.args (c, f, g, ()))) (hpre : allP (c_impl_Category_then.pre (c, f, g, ()))) : W_impl_Category_then c f g (fun r => r = c_impl_Category_then.res (c, f, g, ())) := by
  simp only [c_impl_Category_then, okL, T.oks, T.ok, ap, allP, true_and, and_true, implies_true] at hok hpre
  try dsimp only [T.den] at hok
  try dsimp only [T.den] at hpre
  unfold W_impl_Category_then
  exact ⟨hpre.1, hpre.2.1, hpre.2.2.1, hpre.2.2.2, rfl⟩
theorem ct_impl_Category_then : CtOk Try.prog 82 c_impl_Category_then :=
  ct_by (Φ := lkp []) good_nil tab_ok (by kernel_rfl) (fn := Try.f82) (c := bodyOf Try.f82) (by kernel_rfl) (by kernel_rfl) (by kernel_rfl) c_impl_Category_then rfl .n (cutL []) (by kernel_rfl) (by kernel_rfl) k_impl_Category_then (by decide) (fun x K => W_impl_Category_then x.1 x.2.1 x.2.2.1 K) w_impl_Category_then (fun x h1 h2 => m_impl_Category_then x.1 x.2.1 x.2.2.1 h1 h2)
def c_impl_Category_ends : Ct := ⟨[(.pt CategoryT), (.int .i64)], [false, false], fun x => [0 ≤ x.2.1, x.2.1 < x.1.2.1.length, x.2.1 < x.1.2.2.1.length], [(true, (.fz endsT))], fun x => (((x.1.2.1.getD x.2.1.toNat 0, x.1.2.2.1.getD x.2.1.toNat 0) : Int × Int), ()), false, none⟩
def W_impl_Category_ends (c : CategoryD) (f : Int) (K : endsD × Unit → Prop) : Prop := (((0 : Int) ≤ f) ∧ ((f < (((List.length c.2.1) : Nat) : Int)) ∧ (((0 : Int) ≤ f) ∧ ((f < (((List.length c.2.2.1) : Nat) : Int)) ∧ (K (((List.getD c.2.1 (Int.toNat f) (0 : Int)), (List.getD c.2.2.1 (Int.toNat f) (0 : Int))), ()))))))
theorem w_impl_Category_ends (x : denL c_impl_Category_ends.args) (K : endsD × Unit → Prop) : evF tab (lkp []) (cutL [(1, 15)]) Try.f116 (bodyOf Try.f116) .n c_impl_Category_ends x K = W_impl_Category_ends x.1 x.2.1 K := by kernel_rfl
theorem k_impl_Category_ends : okC Try.f116.ntmps (cutL [(1, 15)]) (bodyOf Try.f116) = true := by kernel_rfl
theorem m_impl_Category_ends (c : CategoryD) (f : Int) (hok : allP (okL c_impl_Category_ends.args (c, f, ()))) (hpre : allP (c_impl_Category_ends.pre (c, f, ()))) : W_impl_Category_ends c f (fun r => r = c_impl_Category_ends.res (c, f, ())) := by
  simp only [c_impl_Category_ends, okL, T.oks, T.ok, ap, allP, true_and, and_true, implies_true] at hok hpre
  try dsimp only [T.den] at hok
  try dsimp only [T.den] at hpre
  unfold W_impl_Category_ends
  exact ⟨hpre.1, hpre.2.1, hpre.1, hpre.2.2, rfl⟩
theorem ct_impl_Category_ends : CtOk Try.prog 116 c_impl_Category_ends :=
  ct_by (Φ := lkp []) good_nil tab_ok (by kernel_rfl) (fn := Try.f116) (c := bodyOf Try.f116) (by kernel_rfl) (by kernel_rfl) (by kernel_rfl) c_impl_Category_ends rfl .n (cutL [(1, 15)]) (by kernel_rfl) (by kernel_rfl) k_impl_Category_ends (by decide) (fun x K => W_impl_Category_ends x.1 x.2.1 K) w_impl_Category_ends (fun x h1 h2 => m_impl_Category_ends x.1 x.2.1 h1 h2)
def c_impl_inRange : Ct := ⟨[(.int .i64), (.int .i64), (.int .i64)], [false, false, false], fun x => [], [(false, (.fz .bool))], fun x => (inR x.1 x.2.1 x.2.2.1, ()), false, none⟩
def W_impl_inRange (n : Int) (low : Int) (high : Int) (K : Bool × Unit → Prop) : Prop := (K (((decide (low ≤ n)) && (decide (n ≤ high))), ()))
theorem w_impl_inRange (x : denL c_impl_inRange.args) (K : Bool × Unit → Prop) : evF tab (lkp []) (cutL []) Try.f59 (bodyOf Try.f59) .n c_impl_inRange x K = W_impl_inRange x.1 x.2.1 x.2.2.1 K := by kernel_rfl
theorem k_impl_inRange : okC Try.f59.ntmps (cutL []) (bodyOf Try.f59) = true := by kernel_rfl
theorem m_impl_inRange (n : Int) (low : Int) (high : Int) (hok : allP (okL c_impl_inRange.args (n, low, high, ()))) (hpre : allP (c_impl_inRange.pre (n, low, high, ()))) : W_impl_inRange n low high (fun r => r = c_impl_inRange.res (n, low, high, ())) := by
  simp only [c_impl_inRange, okL, T.oks, T.ok, ap, allP, true_and, and_true, implies_true] at hok hpre
  try dsimp only [T.den] at hok
  try dsimp only [T.den] at hpre
  unfold W_impl_inRange
  grind [cnd, nb_eq, inK64, c_impl_inRange, inR]
theorem ct_impl_inRange : CtOk Try.prog 59 c_impl_inRange :=
  ct_by (Φ := lkp []) good_nil tab_ok (by kernel_rfl) (fn := Try.f59) (c := bodyOf Try.f59) (by kernel_rfl) (by kernel_rfl) (by kernel_rfl) c_impl_inRange rfl .n (cutL []) (by kernel_rfl) (by kernel_rfl) k_impl_inRange (by decide) (fun x K => W_impl_inRange x.1 x.2.1 x.2.2.1 K) w_impl_inRange (fun x h1 h2 => m_impl_inRange x.1 x.2.1 x.2.2.1 h1 h2)
def c_impl_within : Ct := ⟨[(.sl (.int .i64)), (.int .i64)], [false, false], fun x => [inK .i64 (x.2.1 - 1)], [(false, (.fz .bool))], fun x => (withinR x.1 x.2.1, ()), false, none⟩
def W_impl_within (list : List Int) (n : Int) (K : Bool × Unit → Prop) : Prop := (loopW (S := ((Int × Unit) × Unit)) (fun s => (fun next => ((inK IntKind.i64 s.1.1) → (cnd (decide (s.1.1 < (((List.length list) : Nat) : Int))) (((0 : Int) ≤ s.1.1) ∧ ((s.1.1 < (((List.length list) : Nat) : Int)) ∧ ((inK IntKind.i64 (n - (1 : Int))) ∧ (cnd (!(inR (List.getD list (Int.toNat s.1.1) (0 : Int)) (0 : Int) (n - (1 : Int)))) (K (Bool.false, ())) ((inK IntKind.i64 (s.1.1 + (1 : Int))) ∧ (next (((s.1.1 + (1 : Int)), ()), ()))))))) (K (Bool.true, ())))))) (((0 : Int), ()), ()))
theorem w_impl_within (x : denL c_impl_within.args) (K : Bool × Unit → Prop) : evF tab (lkp [(59, c_impl_inRange)]) (cutL []) Try.f81 (bodyOf Try.f81) (.s .n (.s (.s .n (.l [(9, (.d (.int .i64)))] [] [1, 7, 8] .n)) .n)) c_impl_within x K = W_impl_within x.1 x.2.1 K := by kernel_rfl
theorem k_impl_within : okC Try.f81.ntmps (cutL []) (bodyOf Try.f81) = true := by kernel_rfl
theorem m_impl_within (list : List Int) (n : Int) (hok : allP (okL c_impl_within.args (list, n, ()))) (hpre : allP (c_impl_within.pre (list, n, ()))) : W_impl_within list n (fun r => r = c_impl_within.res (list, n, ())) := by
  simp only [c_impl_within, okL, T.oks, T.ok, ap, allP, true_and, and_true, implies_true] at hok hpre
  try dsimp only [T.den] at hok
  try dsimp only [T.den] at hpre
  unfold W_impl_within
  refine loop_of (fun (s : ((Int × Unit) × Unit)) => 0 ≤ s.1.1 ∧ s.1.1 ≤ list.length ∧ withinR list n = withinR (list.drop s.1.1.toNat) n) (fun (s : ((Int × Unit) × Unit)) => (list.length - s.1.1).toNat) ?_ (by simp)
  rintro ⟨⟨i, _⟩, _⟩ next ⟨h0, h1, h2⟩ hn hin
  simp only at h0 h1 h2 hn ⊢
  refine cnd_d (fun hc => ?_) (fun hc => ?_)
  · rw [drop_c list 0 h0 hc] at h2
    simp only [withinR, List.all_cons] at h2
    grind [cnd, nb_eq, inK64, c_impl_within, withinR]
  · rw [drop_n list (by omega)] at h2
    grind [cnd, nb_eq, inK64, c_impl_within, withinR]
theorem ct_impl_within : CtOk Try.prog 81 c_impl_within :=
  ct_by (Φ := lkp [(59, c_impl_inRange)]) (good_cons ct_impl_inRange good_nil) tab_ok (by kernel_rfl) (fn := Try.f81) (c := bodyOf Try.f81) (by kernel_rfl) (by kernel_rfl) (by kernel_rfl) c_impl_within rfl (.s .n (.s (.s .n (.l [(9, (.d (.int .i64)))] [] [1, 7, 8] .n)) .n)) (cutL []) (by kernel_rfl) (by kernel_rfl) k_impl_within (by decide) (fun x K => W_impl_within x.1 x.2.1 K) w_impl_within (fun x h1 h2 => m_impl_within x.1 x.2.1 h1 h2)
/-- what a cell of the table must be -/
def cellQ (c : CategoryD) (f g v : Int) : Bool :=
  if c.2.2.1.getD f.toNat 0 = c.2.1.getD g.toNat 0 then decide (0 ≤ v ∧ v < c.2.1.length ∧ c.2.1.getD v.toNat 0 = c.2.1.getD f.toNat 0 ∧ c.2.2.1.getD v.toNat 0 = c.2.2.1.getD g.toNat 0)
  else decide (v = -1)
def cellR (c : CategoryD) (f g : Int) : Bool := cellQ c f g (compR c f g)
structure ShapeP (c : CategoryD) : Prop where
  ob : 0 ≤ c.1 ∧ c.1 ≤ 8
  m : c.2.1.length ≤ 40
  lt : c.2.2.1.length = c.2.1.length
  fr : withinR c.2.1 c.1 = true
  to : withinR c.2.2.1 c.1 = true
  li : (c.2.2.2.1.length : Int) = c.1
  ids : withinR c.2.2.2.1 c.2.1.length = true
  lc : c.2.2.2.2.length = c.2.1.length
  idt : ∀ x : Int, 0 ≤ x → x < c.1 → c.2.1.getD (c.2.2.2.1.getD x.toNat 0).toNat 0 = x ∧ c.2.2.1.getD (c.2.2.2.1.getD x.toNat 0).toNat 0 = x
  row : ∀ f : Int, 0 ≤ f → f < c.2.1.length → (c.2.2.2.2.getD f.toNat []).length = c.2.1.length
  cell : ∀ f g : Int, 0 ≤ f → f < c.2.1.length → 0 ≤ g → g < c.2.1.length → cellR c f g = true
def shapeR (c : CategoryD) : Bool := inR c.1 0 8 && decide (c.2.1.length ≤ 40) && decide (c.2.2.1.length = c.2.1.length) && withinR c.2.1 c.1 && withinR c.2.2.1 c.1 && decide ((c.2.2.2.1.length : Int) = c.1) && withinR c.2.2.2.1 c.2.1.length &&
  decide (c.2.2.2.2.length = c.2.1.length) && allB c.1.toNat (fun x => decide (c.2.1.getD (c.2.2.2.1.getD x.toNat 0).toNat 0 = x ∧ c.2.2.1.getD (c.2.2.2.1.getD x.toNat 0).toNat 0 = x)) &&
  allB c.2.1.length (fun f => decide ((c.2.2.2.2.getD f.toNat []).length = c.2.1.length)) && allB c.2.1.length (fun f => allB c.2.1.length fun g => cellR c f g)
theorem shape_iff {c : CategoryD} : shapeR c = true ↔ ShapeP c := by
  simp only [shapeR, Bool.and_eq_true, decide_eq_true_eq, inR, allB_iff]
  constructor
  · rintro ⟨⟨⟨⟨⟨⟨⟨⟨⟨⟨h0, h1⟩, h2⟩, h3⟩, h4⟩, h5⟩, h6⟩, h7⟩, h8⟩, h9⟩, h10⟩
    exact ⟨h0, h1, h2, h3, h4, h5, h6, h7, fun x a b => h8 x a (by omega), h9, fun f g a b d e => h10 f a b g d e⟩
  · intro h
    exact ⟨⟨⟨⟨⟨⟨⟨⟨⟨⟨h.ob, h.m⟩, h.lt⟩, h.fr⟩, h.to⟩, h.li⟩, h.ids⟩, h.lc⟩, fun x a b => h.idt x a (by have := h.ob; omega)⟩, h.row⟩, fun f a b g d e => h.cell f g a b d e⟩
theorem shape_f {c : CategoryD} (h : ¬ ShapeP c) : shapeR c = false := by
  cases hs : shapeR c with
  | false => rfl
  | true => exact absurd (shape_iff.1 hs) h
theorem shape_t {c : CategoryD} (h : ShapeP c) : shapeR c = true := shape_iff.2 h

def c_impl_Category_isShape : Ct := ⟨[(.pt CategoryT)], [false], fun x => [], [(false, (.fz .bool))], fun x => (shapeR x.1, ()), false, none⟩
def W_impl_Category_isShape (c : CategoryD) (K : Bool × Unit → Prop) : Prop := ((((((!(inR c.1 (0 : Int) (8 : Int))) || (decide ((40 : Int) < (((List.length c.2.1) : Nat) : Int)))) || ((((List.length c.2.2.1) : Nat) : Int) != (((List.length c.2.1) : Nat) : Int))) = Bool.false) → (inK IntKind.i64 (c.1 - (1 : Int)))) ∧ (((((((!(inR c.1 (0 : Int) (8 : Int))) || (decide ((40 : Int) < (((List.length c.2.1) : Nat) : Int)))) || ((((List.length c.2.2.1) : Nat) : Int) != (((List.length c.2.1) : Nat) : Int))) || (!(withinR c.2.1 c.1))) = Bool.false) → (inK IntKind.i64 (c.1 - (1 : Int)))) ∧ (cnd (((((!(inR c.1 (0 : Int) (8 : Int))) || (decide ((40 : Int) < (((List.length c.2.1) : Nat) : Int)))) || ((((List.length c.2.2.1) : Nat) : Int) != (((List.length c.2.1) : Nat) : Int))) || (!(withinR c.2.1 c.1))) || (!(withinR c.2.2.1 c.1))) (K (Bool.false, ())) (((((((List.length c.2.2.2.1) : Nat) : Int) != c.1) = Bool.false) → (inK IntKind.i64 ((((List.length c.2.1) : Nat) : Int) - (1 : Int)))) ∧ (cnd ((((((List.length c.2.2.2.1) : Nat) : Int) != c.1) || (!(withinR c.2.2.2.1 (((List.length c.2.1) : Nat) : Int)))) || ((((List.length c.2.2.2.2) : Nat) : Int) != (((List.length c.2.1) : Nat) : Int))) (K (Bool.false, ())) (loopW (S := ((Int × Unit) × Unit)) (fun s => (fun next => ((inK IntKind.i64 s.1.1) → (cnd (decide (s.1.1 < (((List.length c.2.2.2.1) : Nat) : Int))) (((0 : Int) ≤ s.1.1) ∧ ((s.1.1 < (((List.length c.2.2.2.1) : Nat) : Int)) ∧ (((0 : Int) ≤ (List.getD c.2.2.2.1 (Int.toNat s.1.1) (0 : Int))) ∧ (((List.getD c.2.2.2.1 (Int.toNat s.1.1) (0 : Int)) < (((List.length c.2.1) : Nat) : Int)) ∧ (((List.getD c.2.2.2.1 (Int.toNat s.1.1) (0 : Int)) < (((List.length c.2.2.1) : Nat) : Int)) ∧ (cnd (!(((List.getD c.2.1 (Int.toNat (List.getD c.2.2.2.1 (Int.toNat s.1.1) (0 : Int))) (0 : Int)) == s.1.1) && ((List.getD c.2.2.1 (Int.toNat (List.getD c.2.2.2.1 (Int.toNat s.1.1) (0 : Int))) (0 : Int)) == s.1.1))) (K (Bool.false, ())) ((inK IntKind.i64 (s.1.1 + (1 : Int))) ∧ (next (((s.1.1 + (1 : Int)), ()), ()))))))))) (loopW (S := ((Int × Unit) × Unit)) (fun s1 => (fun next1 => ((inK IntKind.i64 s1.1.1) → (cnd (decide (s1.1.1 < (((List.length c.2.2.2.2) : Nat) : Int))) (((0 : Int) ≤ s1.1.1) ∧ ((s1.1.1 < (((List.length c.2.2.2.2) : Nat) : Int)) ∧ (cnd ((((List.length (List.getD c.2.2.2.2 (Int.toNat s1.1.1) ([] : List Int))) : Nat) : Int) != (((List.length c.2.1) : Nat) : Int)) (K (Bool.false, ())) (loopW (S := ((Int × Unit) × Unit)) (fun s2 => (fun next2 => ((inK IntKind.i64 s2.1.1) → (cnd (decide (s2.1.1 < (((List.length (List.getD c.2.2.2.2 (Int.toNat s1.1.1) ([] : List Int))) : Nat) : Int))) (joinW (S := (Unit × Unit)) (fun s3 => ((inK IntKind.i64 (s2.1.1 + (1 : Int))) ∧ (next2 (((s2.1.1 + (1 : Int)), ()), ())))) (fun k => (((0 : Int) ≤ s2.1.1) ∧ ((s2.1.1 < (((List.length (List.getD c.2.2.2.2 (Int.toNat s1.1.1) ([] : List Int))) : Nat) : Int)) ∧ (((0 : Int) ≤ s1.1.1) ∧ ((s1.1.1 < (((List.length c.2.2.1) : Nat) : Int)) ∧ (((0 : Int) ≤ s2.1.1) ∧ ((s2.1.1 < (((List.length c.2.1) : Nat) : Int)) ∧ (cnd ((List.getD c.2.2.1 (Int.toNat s1.1.1) (0 : Int)) != (List.getD c.2.1 (Int.toNat s2.1.1) (0 : Int))) (cnd ((List.getD (List.getD c.2.2.2.2 (Int.toNat s1.1.1) ([] : List Int)) (Int.toNat s2.1.1) (0 : Int)) != (-(1 : Int))) (K (Bool.false, ())) (k ((), ()))) ((inK IntKind.i64 ((((List.length c.2.1) : Nat) : Int) - (1 : Int))) ∧ ((((!(inR (List.getD (List.getD c.2.2.2.2 (Int.toNat s1.1.1) ([] : List Int)) (Int.toNat s2.1.1) (0 : Int)) (0 : Int) ((((List.length c.2.1) : Nat) : Int) - (1 : Int)))) = Bool.false) → (((List.getD (List.getD c.2.2.2.2 (Int.toNat s1.1.1) ([] : List Int)) (Int.toNat s2.1.1) (0 : Int)) < (((List.length c.2.1) : Nat) : Int)) ∧ (((List.getD (List.getD c.2.2.2.2 (Int.toNat s1.1.1) ([] : List Int)) (Int.toNat s2.1.1) (0 : Int)) < (((List.length c.2.2.1) : Nat) : Int)) ∧ ((0 : Int) ≤ (List.getD (List.getD c.2.2.2.2 (Int.toNat s1.1.1) ([] : List Int)) (Int.toNat s2.1.1) (0 : Int)))))) ∧ ((((!(inR (List.getD (List.getD c.2.2.2.2 (Int.toNat s1.1.1) ([] : List Int)) (Int.toNat s2.1.1) (0 : Int)) (0 : Int) ((((List.length c.2.1) : Nat) : Int) - (1 : Int)))) = Bool.false) → ((s1.1.1 < (((List.length c.2.1) : Nat) : Int)) ∧ ((0 : Int) ≤ s1.1.1))) ∧ ((((!(inR (List.getD (List.getD c.2.2.2.2 (Int.toNat s1.1.1) ([] : List Int)) (Int.toNat s2.1.1) (0 : Int)) (0 : Int) ((((List.length c.2.1) : Nat) : Int) - (1 : Int)))) = Bool.false) → ((s2.1.1 < (((List.length c.2.2.1) : Nat) : Int)) ∧ ((0 : Int) ≤ s2.1.1))) ∧ (cnd ((!(inR (List.getD (List.getD c.2.2.2.2 (Int.toNat s1.1.1) ([] : List Int)) (Int.toNat s2.1.1) (0 : Int)) (0 : Int) ((((List.length c.2.1) : Nat) : Int) - (1 : Int)))) || (!(((List.getD c.2.1 (Int.toNat (List.getD (List.getD c.2.2.2.2 (Int.toNat s1.1.1) ([] : List Int)) (Int.toNat s2.1.1) (0 : Int))) (0 : Int)) == (List.getD c.2.1 (Int.toNat s1.1.1) (0 : Int))) && ((List.getD c.2.2.1 (Int.toNat (List.getD (List.getD c.2.2.2.2 (Int.toNat s1.1.1) ([] : List Int)) (Int.toNat s2.1.1) (0 : Int))) (0 : Int)) == (List.getD c.2.2.1 (Int.toNat s2.1.1) (0 : Int)))))) (K (Bool.false, ())) (k ((), ())))))))))))))))) ((inK IntKind.i64 (s1.1.1 + (1 : Int))) ∧ (next1 (((s1.1.1 + (1 : Int)), ()), ()))))))) (((0 : Int), ()), ()))))) (K (Bool.true, ())))))) (((0 : Int), ()), ())))))) (((0 : Int), ()), ())))))))
theorem w_impl_Category_isShape (x : denL c_impl_Category_isShape.args) (K : Bool × Unit → Prop) : evF tab (lkp [(60, c_impl_Category_arrows), (116, c_impl_Category_ends), (59, c_impl_inRange), (81, c_impl_within)]) (cutL [(2, 43), (20, 15), (4, 28), (23, 26)]) Try.f128 (bodyOf Try.f128) (.s .n (.s .n (.s .n (.s .n (.s (.s .n (.l [(88, (.d (.int .i64)))] [] [0, 3, 86, 87] .n)) (.s (.s .n (.l [(106, (.d (.int .i64)))] [] [0, 3, 104, 105] (.s .n (.s .n (.s (.s .n (.s .n (.s .n (.l [(117, (.d (.int .i64)))] [] [0, 3, 6, 104, 105, 106, 115, 116] (.s .n (.s .n (.s (.j [] [] [0, 3, 6, 104, 105, 106, 115, 116, 117] .n) .n))))))) .n))))) .n)))))) c_impl_Category_isShape x K = W_impl_Category_isShape x.1 K := by kernel_rfl
theorem k_impl_Category_isShape : okC Try.f128.ntmps (cutL [(2, 43), (20, 15), (4, 28), (23, 26)]) (bodyOf Try.f128) = true := by kernel_rfl
theorem m_impl_Category_isShape (c : CategoryD) (hok : allP (okL c_impl_Category_isShape.args (c, ()))) (hpre : allP (c_impl_Category_isShape.pre (c, ()))) : W_impl_Category_isShape c (fun r => r = c_impl_Category_isShape.res (c, ())) := by
  simp only [c_impl_Category_isShape, okL, T.oks, T.ok, ap, allP, true_and, and_true, implies_true] at hok hpre
  try dsimp only [T.den] at hok
  try dsimp only [T.den] at hpre
  unfold W_impl_Category_isShape
  refine ⟨by grind [cnd, nb_eq, inK64, inR], by grind [cnd, nb_eq, inK64, inR], cnd_of (fun hc => ?_) (fun hc => ⟨by rw [inK64]; have := hok.2.1.1; grind [cnd, nb_eq, inK64], cnd_of (fun hd => ?_) (fun hd => ?_)⟩)⟩
  · simp only [c_impl_Category_isShape]; rw [shape_f]; intro h; have h1 := h.ob; have h2 := h.m; have h3 := h.lt; have h4 := h.fr; have h5 := h.to; simp only [inR] at hc; grind [cnd, nb_eq, inK64]
  · simp only [c_impl_Category_isShape]; rw [shape_f]; intro h; have h1 := h.li; have h2 := h.ids; have h3 := h.lc; grind [cnd, nb_eq, inK64]
  simp only [inR, Bool.or_eq_false_iff, Bool.not_eq_false', Bool.and_eq_true, decide_eq_true_eq, decide_eq_false_iff_not, bne_eq_false_iff_eq] at hc hd
  obtain ⟨⟨⟨⟨hob, hm⟩, hlt⟩, hfr⟩, hto⟩ := hc
  obtain ⟨⟨hli, hids⟩, hlc⟩ := hd
  have bad : ¬ ShapeP c → (false, ()) = c_impl_Category_isShape.res (c, ()) := fun h => by simp only [c_impl_Category_isShape]; rw [shape_f h]
  refine loop_ix (n := c.2.2.2.1.length) (fun x => ∀ y : Int, 0 ≤ y → y < x → c.2.1.getD (c.2.2.2.1.getD y.toNat 0).toNat 0 = y ∧ c.2.2.1.getD (c.2.2.2.1.getD y.toNat 0).toNat 0 = y) (by omega) (by intro y h0 h1; omega) ?_ ?_
  · intro x next h0 h1 hP hn hin
    have hb := within_iff.1 hids x h0 h1
    try dsimp only
    refine cnd_d (fun _ => ⟨h0, h1, hb.1, hb.2, by omega, cnd_of (fun hx => bad fun h => ?_) (fun hx => ?_)⟩) (fun h => absurd h1 h)
    · have := h.idt x h0 (by omega)
      rw [this.1, this.2] at hx
      simp at hx
    · simp only [Bool.not_eq_false', Bool.and_eq_true, beq_iff_eq] at hx
      refine ⟨by rw [inK64]; (try dsimp only); omega, hn fun y y0 y1 => ?_⟩
      by_cases e : y = x
      · rw [e]; exact hx
      · exact hP y y0 (by omega)
  intro next hidt hin
  refine cnd_d (fun h => absurd h (by dsimp only; omega)) (fun _ => ?_)
  refine loop_ix (n := c.2.2.2.2.length) (fun f => ∀ f' : Int, 0 ≤ f' → f' < f → (c.2.2.2.2.getD f'.toNat []).length = c.2.1.length ∧ ∀ g : Int, 0 ≤ g → g < c.2.1.length → cellR c f' g = true) (by omega) (by intro y h0 h1; omega) ?_ ?_
  · intro f next h0 h1 hP hn hin
    try dsimp only
    refine cnd_d (fun _ => ⟨h0, h1, cnd_of (fun hx => bad fun h => ?_) (fun hx => ?_)⟩) (fun h => absurd h1 h)
    · have := h.row f h0 (by omega)
      rw [this] at hx
      simp at hx
    simp only [bne_eq_false_iff_eq] at hx
    refine loop_ix (n := (c.2.2.2.2.getD f.toNat []).length) (fun g => ∀ g' : Int, 0 ≤ g' → g' < g → cellR c f g' = true) (by omega) (by intro y h0 h1; omega) ?_ ?_
    · intro g next3 g0 g1 hP3 hn3 hin3
      try dsimp only
      refine cnd_d (fun _ => ?_) (fun h => absurd g1 h)
      refine join_of (fun _ => cellR c f g = true) (fun _ hcell => ⟨by rw [inK64]; (try dsimp only); omega, hn3 fun g' y0 y1 => ?_⟩) (fun k hk => ?_)
      · by_cases e : g' = g
        · rw [e]; exact hcell
        · exact hP3 g' y0 (by omega)
      have hcell : ∀ b, cellR c f g = b → b = false → ¬ ShapeP c := fun b h1 h2 h => by
        have := h.cell f g h0 (by omega) g0 (by omega)
        rw [h1, h2] at this; cases this
      have hk' := hk ((), ())
      obtain ⟨v, hv⟩ : ∃ v, (c.2.2.2.2.getD f.toNat []).getD g.toNat 0 = v := ⟨_, rfl⟩
      have hR : cellR c f g = cellQ c f g v := by unfold cellR compR; rw [hv]
      rw [hR] at hk'
      rw [hR] at hcell
      rw [hv]
      clear hP3 hn3 hP hn hk hR hv hidt hok
      refine ⟨g0, g1, h0, by omega, g0, by omega, cnd_of (fun ha => cnd_of (fun hb => bad ?_) (fun hb => hk' ?_)) (fun ha => ⟨by rw [inK64]; (try dsimp only); omega, fun hv => ?_, fun _ => ⟨by omega, h0⟩, fun _ => ⟨by omega, g0⟩, cnd_of (fun hb => bad ?_) (fun hb => hk' ?_)⟩)⟩
      · exact hcell _ rfl (by grind [cnd, nb_eq, inK64, cellQ])
      · grind [cnd, nb_eq, inK64, cellQ]
      · simp only [inR, Bool.not_eq_false', Bool.and_eq_true, decide_eq_true_eq] at hv; omega
      · exact hcell _ rfl (by simp only [inR] at hb; grind [cnd, nb_eq, inK64, cellQ])
      · simp only [inR] at hb; grind [cnd, nb_eq, inK64, cellQ]
    · intro next3 hP3 hin3
      refine cnd_d (fun h => absurd h (by dsimp only; omega)) (fun _ => ⟨by rw [inK64]; (try dsimp only); omega, hn fun f' y0 y1 => ?_⟩)
      by_cases e : f' = f
      · rw [e]; exact ⟨by omega, fun g g0 g1 => hP3 g g0 (by omega)⟩
      · exact hP f' y0 (by omega)
  · intro next2 hP2 hin2
    refine cnd_d (fun h => absurd h (by dsimp only; omega)) (fun _ => ?_)
    simp only [c_impl_Category_isShape]
    rw [shape_t ⟨hob, by omega, by omega, hfr, hto, by omega, hids, by omega, fun x a b => hidt x a (by omega), fun f a b => (hP2 f a (by omega)).1, fun f g a b d e => (hP2 f a (by omega)).2 g d e⟩]
theorem ct_impl_Category_isShape : CtOk Try.prog 128 c_impl_Category_isShape :=
  ct_by (Φ := lkp [(60, c_impl_Category_arrows), (116, c_impl_Category_ends), (59, c_impl_inRange), (81, c_impl_within)]) (good_cons ct_impl_Category_arrows (good_cons ct_impl_Category_ends (good_cons ct_impl_inRange (good_cons ct_impl_within good_nil)))) tab_ok (by kernel_rfl) (fn := Try.f128) (c := bodyOf Try.f128) (by kernel_rfl) (by kernel_rfl) (by kernel_rfl) c_impl_Category_isShape rfl (.s .n (.s .n (.s .n (.s .n (.s (.s .n (.l [(88, (.d (.int .i64)))] [] [0, 3, 86, 87] .n)) (.s (.s .n (.l [(106, (.d (.int .i64)))] [] [0, 3, 104, 105] (.s .n (.s .n (.s (.s .n (.s .n (.s .n (.l [(117, (.d (.int .i64)))] [] [0, 3, 6, 104, 105, 106, 115, 116] (.s .n (.s .n (.s (.j [] [] [0, 3, 6, 104, 105, 106, 115, 116, 117] .n) .n))))))) .n))))) .n)))))) (cutL [(2, 43), (20, 15), (4, 28), (23, 26)]) (by kernel_rfl) (by kernel_rfl) k_impl_Category_isShape (by decide) (fun x K => W_impl_Category_isShape x.1 K) w_impl_Category_isShape (fun x h1 h2 => m_impl_Category_isShape x.1 h1 h2)
theorem ShapeP.frm {c : CategoryD} (h : ShapeP c) {f : Int} (h0 : 0 ≤ f) (h1 : f < c.2.1.length) : 0 ≤ c.2.1.getD f.toNat 0 ∧ c.2.1.getD f.toNat 0 < c.1 ∧ 0 ≤ c.2.2.1.getD f.toNat 0 ∧ c.2.2.1.getD f.toNat 0 < c.1 := by
  have a := within_iff.1 h.fr f h0 h1
  have b := within_iff.1 h.to f h0 (by have := h.lt; omega)
  exact ⟨a.1, a.2, b.1, b.2⟩
theorem ShapeP.idn {c : CategoryD} (h : ShapeP c) {x : Int} (h0 : 0 ≤ x) (h1 : x < c.1) : 0 ≤ c.2.2.2.1.getD x.toNat 0 ∧ c.2.2.2.1.getD x.toNat 0 < c.2.1.length ∧ c.2.1.getD (c.2.2.2.1.getD x.toNat 0).toNat 0 = x ∧ c.2.2.1.getD (c.2.2.2.1.getD x.toNat 0).toNat 0 = x := by
  have a := within_iff.1 h.ids x h0 (by have := h.li; omega)
  have b := h.idt x h0 h1
  exact ⟨a.1, a.2, b.1, b.2⟩
theorem ShapeP.yes {c : CategoryD} (h : ShapeP c) {f g : Int} (h0 : 0 ≤ f) (h1 : f < c.2.1.length) (g0 : 0 ≤ g) (g1 : g < c.2.1.length) (e : c.2.2.1.getD f.toNat 0 = c.2.1.getD g.toNat 0) :
    0 ≤ compR c f g ∧ compR c f g < c.2.1.length ∧ c.2.1.getD (compR c f g).toNat 0 = c.2.1.getD f.toNat 0 ∧ c.2.2.1.getD (compR c f g).toNat 0 = c.2.2.1.getD g.toNat 0 := by
  have := h.cell f g h0 h1 g0 g1
  unfold cellR cellQ at this
  rw [if_pos e] at this
  simpa using this
theorem ShapeP.no {c : CategoryD} (h : ShapeP c) {f g : Int} (h0 : 0 ≤ f) (h1 : f < c.2.1.length) (g0 : 0 ≤ g) (g1 : g < c.2.1.length) (e : c.2.2.1.getD f.toNat 0 ≠ c.2.1.getD g.toNat 0) : compR c f g = -1 := by
  have := h.cell f g h0 h1 g0 g1
  unfold cellR cellQ at this
  rw [if_neg e] at this
  simpa using this
theorem ShapeP.comp {c : CategoryD} (h : ShapeP c) {f g : Int} (h0 : 0 ≤ f) (h1 : f < c.2.1.length) (g0 : 0 ≤ g) (g1 : g < c.2.1.length) : 0 ≤ compR c f g ↔ c.2.2.1.getD f.toNat 0 = c.2.1.getD g.toNat 0 := by
  constructor
  · intro h2
    by_cases e : c.2.2.1.getD f.toNat 0 = c.2.1.getD g.toNat 0
    · exact e
    · have := h.no h0 h1 g0 g1 e; omega
  · intro e; exact (h.yes h0 h1 g0 g1 e).1
def faultI (c : CategoryD) (f : Int) : Option (Int × Int × Int × Int) :=
  if compR c (c.2.2.2.1.getD (c.2.1.getD f.toNat 0).toNat 0) f ≠ f ∨ compR c f (c.2.2.2.1.getD (c.2.2.1.getD f.toNat 0).toNat 0) ≠ f then some (1, f, 0, 0) else none
def faultH (c : CategoryD) (f g h : Int) : Option (Int × Int × Int × Int) :=
  if c.2.2.1.getD g.toNat 0 = c.2.1.getD h.toNat 0 ∧ compR c (compR c f g) h ≠ compR c f (compR c g h) then some (2, f, g, h) else none
def faultG (c : CategoryD) (f g : Int) : Option (Int × Int × Int × Int) :=
  if c.2.2.1.getD f.toNat 0 = c.2.1.getD g.toNat 0 then scanR (faultH c f g) c.2.1.length 0 else none
def faultF (c : CategoryD) (f : Int) : Option (Int × Int × Int × Int) := scanR (faultG c f) c.2.1.length 0
def faultR (c : CategoryD) : Int × Int × Int × Int :=
  orR (scanR (faultI c) c.2.1.length 0) (orR (scanR (faultF c) c.2.1.length 0) (0, 0, 0, 0))

def c_impl_Category_fault : Ct := ⟨[(.pt CategoryT)], [false], fun x => [ShapeP x.1], [(false, (.fz (.int .i64))), (false, (.fz (.int .i64))), (false, (.fz (.int .i64))), (false, (.fz (.int .i64)))], fun x => ((faultR x.1).1, (faultR x.1).2.1, (faultR x.1).2.2.1, (faultR x.1).2.2.2, ()), false, none⟩
def W_impl_Category_fault (c : CategoryD) (K : Int × Int × Int × Int × Unit → Prop) : Prop := (loopW (S := ((Int × Unit) × Unit)) (fun s => (fun next => ((inK IntKind.i64 s.1.1) → (cnd (decide (s.1.1 < (((List.length c.2.1) : Nat) : Int))) (((0 : Int) ≤ s.1.1) ∧ ((s.1.1 < (((List.length c.2.1) : Nat) : Int)) ∧ (((0 : Int) ≤ (List.getD c.2.1 (Int.toNat s.1.1) (0 : Int))) ∧ (((List.getD c.2.1 (Int.toNat s.1.1) (0 : Int)) < (((List.length c.2.2.2.1) : Nat) : Int)) ∧ (((0 : Int) ≤ (List.getD c.2.2.2.1 (Int.toNat (List.getD c.2.1 (Int.toNat s.1.1) (0 : Int))) (0 : Int))) ∧ (((List.getD c.2.2.2.1 (Int.toNat (List.getD c.2.1 (Int.toNat s.1.1) (0 : Int))) (0 : Int)) < (((List.length c.2.2.2.2) : Nat) : Int)) ∧ (((0 : Int) ≤ s.1.1) ∧ ((s.1.1 < (((List.length (List.getD c.2.2.2.2 (Int.toNat (List.getD c.2.2.2.1 (Int.toNat (List.getD c.2.1 (Int.toNat s.1.1) (0 : Int))) (0 : Int))) ([] : List Int))) : Nat) : Int)) ∧ (((((compR c (List.getD c.2.2.2.1 (Int.toNat (List.getD c.2.1 (Int.toNat s.1.1) (0 : Int))) (0 : Int)) s.1.1) != s.1.1) = Bool.false) → ((s.1.1 < (((List.length c.2.2.1) : Nat) : Int)) ∧ ((0 : Int) ≤ s.1.1))) ∧ (((((compR c (List.getD c.2.2.2.1 (Int.toNat (List.getD c.2.1 (Int.toNat s.1.1) (0 : Int))) (0 : Int)) s.1.1) != s.1.1) = Bool.false) → (((List.getD c.2.2.1 (Int.toNat s.1.1) (0 : Int)) < (((List.length c.2.2.2.1) : Nat) : Int)) ∧ ((0 : Int) ≤ (List.getD c.2.2.1 (Int.toNat s.1.1) (0 : Int))))) ∧ (((((compR c (List.getD c.2.2.2.1 (Int.toNat (List.getD c.2.1 (Int.toNat s.1.1) (0 : Int))) (0 : Int)) s.1.1) != s.1.1) = Bool.false) → ((s.1.1 < (((List.length c.2.2.2.2) : Nat) : Int)) ∧ (((0 : Int) ≤ (List.getD c.2.2.2.1 (Int.toNat (List.getD c.2.2.1 (Int.toNat s.1.1) (0 : Int))) (0 : Int))) ∧ (((List.getD c.2.2.2.1 (Int.toNat (List.getD c.2.2.1 (Int.toNat s.1.1) (0 : Int))) (0 : Int)) < (((List.length (List.getD c.2.2.2.2 (Int.toNat s.1.1) ([] : List Int))) : Nat) : Int)) ∧ ((0 : Int) ≤ s.1.1))))) ∧ (cnd (((compR c (List.getD c.2.2.2.1 (Int.toNat (List.getD c.2.1 (Int.toNat s.1.1) (0 : Int))) (0 : Int)) s.1.1) != s.1.1) || ((compR c s.1.1 (List.getD c.2.2.2.1 (Int.toNat (List.getD c.2.2.1 (Int.toNat s.1.1) (0 : Int))) (0 : Int))) != s.1.1)) (K ((1 : Int), (s.1.1, ((0 : Int), ((0 : Int), ()))))) ((inK IntKind.i64 (s.1.1 + (1 : Int))) ∧ (next (((s.1.1 + (1 : Int)), ()), ()))))))))))))))) (loopW (S := ((Int × Unit) × Unit)) (fun s1 => (fun next1 => ((inK IntKind.i64 s1.1.1) → (cnd (decide (s1.1.1 < (((List.length c.2.1) : Nat) : Int))) (loopW (S := ((Int × Unit) × Unit)) (fun s2 => (fun next2 => ((inK IntKind.i64 s2.1.1) → (cnd (decide (s2.1.1 < (((List.length c.2.1) : Nat) : Int))) (joinW (S := (Unit × Unit)) (fun s3 => ((inK IntKind.i64 (s2.1.1 + (1 : Int))) ∧ (next2 (((s2.1.1 + (1 : Int)), ()), ())))) (fun k => (((0 : Int) ≤ s1.1.1) ∧ ((s1.1.1 < (((List.length c.2.2.2.2) : Nat) : Int)) ∧ (((0 : Int) ≤ s2.1.1) ∧ ((s2.1.1 < (((List.length (List.getD c.2.2.2.2 (Int.toNat s1.1.1) ([] : List Int))) : Nat) : Int)) ∧ (cnd (decide ((compR c s1.1.1 s2.1.1) < (0 : Int))) (k ((), ())) (loopW (S := ((Int × Unit) × Unit)) (fun s3 => (fun next3 => ((inK IntKind.i64 s3.1.1) → (cnd (decide (s3.1.1 < (((List.length c.2.1) : Nat) : Int))) (((0 : Int) ≤ s2.1.1) ∧ ((s2.1.1 < (((List.length c.2.2.2.2) : Nat) : Int)) ∧ (((0 : Int) ≤ s3.1.1) ∧ ((s3.1.1 < (((List.length (List.getD c.2.2.2.2 (Int.toNat s2.1.1) ([] : List Int))) : Nat) : Int)) ∧ ((((decide ((0 : Int) ≤ (compR c s2.1.1 s3.1.1))) = Bool.true) → ((s1.1.1 < (((List.length c.2.2.2.2) : Nat) : Int)) ∧ (((0 : Int) ≤ s2.1.1) ∧ ((s2.1.1 < (((List.length (List.getD c.2.2.2.2 (Int.toNat s1.1.1) ([] : List Int))) : Nat) : Int)) ∧ ((0 : Int) ≤ s1.1.1))))) ∧ ((((decide ((0 : Int) ≤ (compR c s2.1.1 s3.1.1))) = Bool.true) → (((compR c s1.1.1 s2.1.1) < (((List.length c.2.2.2.2) : Nat) : Int)) ∧ (((0 : Int) ≤ s3.1.1) ∧ ((s3.1.1 < (((List.length (List.getD c.2.2.2.2 (Int.toNat (compR c s1.1.1 s2.1.1)) ([] : List Int))) : Nat) : Int)) ∧ ((0 : Int) ≤ (compR c s1.1.1 s2.1.1)))))) ∧ ((((decide ((0 : Int) ≤ (compR c s2.1.1 s3.1.1))) = Bool.true) → ((s2.1.1 < (((List.length c.2.2.2.2) : Nat) : Int)) ∧ (((0 : Int) ≤ s3.1.1) ∧ ((s3.1.1 < (((List.length (List.getD c.2.2.2.2 (Int.toNat s2.1.1) ([] : List Int))) : Nat) : Int)) ∧ ((0 : Int) ≤ s2.1.1))))) ∧ ((((decide ((0 : Int) ≤ (compR c s2.1.1 s3.1.1))) = Bool.true) → ((s1.1.1 < (((List.length c.2.2.2.2) : Nat) : Int)) ∧ (((0 : Int) ≤ (compR c s2.1.1 s3.1.1)) ∧ (((compR c s2.1.1 s3.1.1) < (((List.length (List.getD c.2.2.2.2 (Int.toNat s1.1.1) ([] : List Int))) : Nat) : Int)) ∧ ((0 : Int) ≤ s1.1.1))))) ∧ (cnd ((decide ((0 : Int) ≤ (compR c s2.1.1 s3.1.1))) && ((compR c (compR c s1.1.1 s2.1.1) s3.1.1) != (compR c s1.1.1 (compR c s2.1.1 s3.1.1)))) (K ((2 : Int), (s1.1.1, (s2.1.1, (s3.1.1, ()))))) ((inK IntKind.i64 (s3.1.1 + (1 : Int))) ∧ (next3 (((s3.1.1 + (1 : Int)), ()), ())))))))))))) (k ((), ())))))) (((0 : Int), ()), ()))))))))) ((inK IntKind.i64 (s1.1.1 + (1 : Int))) ∧ (next1 (((s1.1.1 + (1 : Int)), ()), ()))))))) (((0 : Int), ()), ())) (K ((0 : Int), ((0 : Int), ((0 : Int), ((0 : Int), ()))))))))) (((0 : Int), ()), ())))))) (((0 : Int), ()), ()))
theorem w_impl_Category_fault (x : denL c_impl_Category_fault.args) (K : Int × Int × Int × Int × Unit → Prop) : evF tab (lkp [(60, c_impl_Category_arrows), (82, c_impl_Category_then)]) (cutL [(5, 38)]) Try.f129 (bodyOf Try.f129) (.s .n (.s .n (.s (.s .n (.l [(7, (.d (.int .i64)))] [] [0, 6] .n)) (.s (.s .n (.l [(8, (.d (.int .i64)))] [] [0, 6] (.s .n (.s (.s .n (.l [(9, (.d (.int .i64)))] [] [0, 6, 8] (.s .n (.s (.j [] [] [0, 6, 8, 9] (.s .n (.s .n (.l [(10, (.d (.int .i64)))] [] [0, 6, 8, 9] .n)))) .n)))) .n)))) .n)))) c_impl_Category_fault x K = W_impl_Category_fault x.1 K := by kernel_rfl
theorem k_impl_Category_fault : okC Try.f129.ntmps (cutL [(5, 38)]) (bodyOf Try.f129) = true := by kernel_rfl
theorem m_impl_Category_fault (c : CategoryD) (hok : allP (okL c_impl_Category_fault.args (c, ()))) (hpre : allP (c_impl_Category_fault.pre (c, ()))) : W_impl_Category_fault c (fun r => r = c_impl_Category_fault.res (c, ())) := by
  simp only [c_impl_Category_fault, okL, T.oks, T.ok, ap, allP, true_and, and_true, implies_true] at hok hpre
  try dsimp only [T.den] at hok
  try dsimp only [T.den] at hpre
  unfold W_impl_Category_fault
  have S : ShapeP c := hpre
  have hlt := S.lt
  have hli := S.li
  have hlc := S.lc
  have hmm := S.m
  have resq : ∀ a b d e, faultR c = (a, b, d, e) → (a, b, d, e, ()) = c_impl_Category_fault.res (c, ()) := fun a b d e h => by simp only [c_impl_Category_fault, h]
  refine loop_ix (n := c.2.1.length) (fun f => scanR (faultI c) c.2.1.length 0 = scanR (faultI c) ((c.2.1.length : Int) - f).toNat f) (by omega) scan_0 ?_ ?_
  · intro f next h0 h1 hP hn hin
    try dsimp only
    obtain ⟨a1, a2, a3, a4⟩ := S.frm h0 h1
    obtain ⟨b1, b2, _, _⟩ := S.idn a1 a2
    obtain ⟨d1, d2, _, _⟩ := S.idn a3 a4
    have r1 := S.row _ b1 b2
    have r2 := S.row f h0 h1
    refine cnd_d (fun _ => ⟨h0, h1, by omega, by omega, by omega, by omega, h0, by omega, fun _ => by omega, fun _ => by omega, fun _ => by omega, cnd_of (fun hx => resq _ _ _ _ ?_) (fun hx => ⟨by rw [inK64]; (try dsimp only); omega, hn ?_⟩)⟩) (fun h => absurd h1 h)
    · have : faultI c f = some (1, f, 0, 0) := by unfold faultI; rw [if_pos]; simpa using hx
      unfold faultR; rw [hP, scan_s h1 this]; rfl
    · have : faultI c f = none := by unfold faultI; rw [if_neg]; simpa using hx
      rw [hP, scan_c h1 this]
  intro next hI hin
  rw [scan_n] at hI
  refine cnd_d (fun h => absurd h (by dsimp only; omega)) (fun _ => ?_)
  have hF : faultR c = orR (scanR (faultF c) c.2.1.length 0) (0, 0, 0, 0) := by unfold faultR; rw [hI]; rfl
  refine loop_ix (n := c.2.1.length) (fun f => scanR (faultF c) c.2.1.length 0 = scanR (faultF c) ((c.2.1.length : Int) - f).toNat f) (by omega) scan_0 ?_ ?_
  · intro f next h0 h1 hP hn hin
    try dsimp only
    refine cnd_d (fun _ => ?_) (fun h => absurd h1 h)
    have r1 := S.row f h0 h1
    refine loop_ix (n := c.2.1.length) (fun g => faultF c f = scanR (faultG c f) ((c.2.1.length : Int) - g).toNat g) (by omega) scan_0 ?_ ?_
    · intro g next3 g0 g1 hP3 hn3 hin3
      try dsimp only
      refine cnd_d (fun _ => ?_) (fun h => absurd g1 h)
      have r2 := S.row g g0 g1
      refine join_of (fun _ => faultG c f g = none) (fun _ hG => ⟨by rw [inK64]; (try dsimp only); omega, hn3 (by rw [hP3, scan_c g1 hG])⟩) (fun k hk => ?_)
      have hk' := hk ((), ())
      refine ⟨by omega, by omega, by omega, by omega, cnd_d (fun hx => hk' ?_) (fun hx => ?_)⟩
      · unfold faultG; rw [if_neg]; intro e; have := (S.comp h0 h1 g0 g1).2 e; omega
      have hfg := (S.comp h0 h1 g0 g1).1 (by omega)
      obtain ⟨y1, y2, _, _⟩ := S.yes h0 h1 g0 g1 hfg
      refine loop_ix (n := c.2.1.length) (fun h => faultG c f g = scanR (faultH c f g) ((c.2.1.length : Int) - h).toNat h) (by omega) (by unfold faultG; rw [if_pos hfg]; exact scan_0) ?_ ?_
      · intro h next4 i0 i1 hP4 hn4 hin4
        try dsimp only
        refine cnd_d (fun _ => ?_) (fun h => absurd i1 h)
        have r3 := S.row _ y1 y2
        have cgh := S.comp g0 g1 i0 i1
        have ygh := @ShapeP.yes c S g h g0 g1 i0 i1
        refine ⟨by omega, by omega, by omega, by omega, fun _ => by omega, fun _ => by omega, fun _ => by omega, fun he => ?_, cnd_of (fun hx => resq _ _ _ _ ?_) (fun hx => ⟨by rw [inK64]; (try dsimp only); omega, hn4 ?_⟩)⟩
        · have := ygh (cgh.1 (by simpa using he)); omega
        · have : faultH c f g h = some (2, f, g, h) := by unfold faultH; rw [if_pos]; rw [← cgh]; simpa using hx
          have e1 : faultG c f g = some (2, f, g, h) := by rw [hP4, scan_s i1 this]
          have e2 : faultF c f = some (2, f, g, h) := by rw [hP3, scan_s g1 e1]
          rw [hF, hP, scan_s h1 e2]; rfl
        · have : faultH c f g h = none := by unfold faultH; rw [if_neg]; rw [← cgh]; simpa using hx
          rw [hP4, scan_c i1 this]
      · intro next4 hP4 hin4
        rw [scan_n] at hP4
        exact cnd_d (fun h => absurd h (by dsimp only; omega)) (fun _ => hk' hP4)
    · intro next3 hP3 hin3
      rw [scan_n] at hP3
      exact cnd_d (fun h => absurd h (by dsimp only; omega)) (fun _ => ⟨by rw [inK64]; (try dsimp only); omega, hn (by rw [hP, scan_c h1 hP3])⟩)
  · intro next2 hP2 hin2
    rw [scan_n] at hP2
    refine cnd_d (fun h => absurd h (by dsimp only; omega)) (fun _ => resq _ _ _ _ ?_)
    rw [hF, hP2]; rfl
theorem ct_impl_Category_fault : CtOk Try.prog 129 c_impl_Category_fault :=
  ct_by (Φ := lkp [(60, c_impl_Category_arrows), (82, c_impl_Category_then)]) (good_cons ct_impl_Category_arrows (good_cons ct_impl_Category_then good_nil)) tab_ok (by kernel_rfl) (fn := Try.f129) (c := bodyOf Try.f129) (by kernel_rfl) (by kernel_rfl) (by kernel_rfl) c_impl_Category_fault rfl (.s .n (.s .n (.s (.s .n (.l [(7, (.d (.int .i64)))] [] [0, 6] .n)) (.s (.s .n (.l [(8, (.d (.int .i64)))] [] [0, 6] (.s .n (.s (.s .n (.l [(9, (.d (.int .i64)))] [] [0, 6, 8] (.s .n (.s (.j [] [] [0, 6, 8, 9] (.s .n (.s .n (.l [(10, (.d (.int .i64)))] [] [0, 6, 8, 9] .n)))) .n)))) .n)))) .n)))) (cutL [(5, 38)]) (by kernel_rfl) (by kernel_rfl) k_impl_Category_fault (by decide) (fun x K => W_impl_Category_fault x.1 K) w_impl_Category_fault (fun x h1 h2 => m_impl_Category_fault x.1 h1 h2)
def catR (c : CategoryD) : Bool := shapeR c && (faultR c).1 == 0

def c_impl_Category_isCategory : Ct := ⟨[(.pt CategoryT)], [false], fun x => [], [(false, (.fz .bool))], fun x => (catR x.1, ()), false, none⟩
def W_impl_Category_isCategory (c : CategoryD) (K : Bool × Unit → Prop) : Prop := (cnd (!(shapeR c)) (K (Bool.false, ())) ((ShapeP c) ∧ (K (((faultR c).1 == (0 : Int)), ()))))
theorem w_impl_Category_isCategory (x : denL c_impl_Category_isCategory.args) (K : Bool × Unit → Prop) : evF tab (lkp [(129, c_impl_Category_fault), (128, c_impl_Category_isShape)]) (cutL []) Try.f96 (bodyOf Try.f96) .n c_impl_Category_isCategory x K = W_impl_Category_isCategory x.1 K := by kernel_rfl
theorem k_impl_Category_isCategory : okC Try.f96.ntmps (cutL []) (bodyOf Try.f96) = true := by kernel_rfl
theorem m_impl_Category_isCategory (c : CategoryD) (hok : allP (okL c_impl_Category_isCategory.args (c, ()))) (hpre : allP (c_impl_Category_isCategory.pre (c, ()))) : W_impl_Category_isCategory c (fun r => r = c_impl_Category_isCategory.res (c, ())) := by
  simp only [c_impl_Category_isCategory, okL, T.oks, T.ok, ap, allP, true_and, and_true, implies_true] at hok hpre
  try dsimp only [T.den] at hok
  try dsimp only [T.den] at hpre
  unfold W_impl_Category_isCategory
  simp only [c_impl_Category_isCategory, catR]
  have := @shape_iff c
  grind [cnd, nb_eq, inK64]
theorem ct_impl_Category_isCategory : CtOk Try.prog 96 c_impl_Category_isCategory :=
  ct_by (Φ := lkp [(129, c_impl_Category_fault), (128, c_impl_Category_isShape)]) (good_cons ct_impl_Category_fault (good_cons ct_impl_Category_isShape good_nil)) tab_ok (by kernel_rfl) (fn := Try.f96) (c := bodyOf Try.f96) (by kernel_rfl) (by kernel_rfl) (by kernel_rfl) c_impl_Category_isCategory rfl .n (cutL []) (by kernel_rfl) (by kernel_rfl) k_impl_Category_isCategory (by decide) (fun x K => W_impl_Category_isCategory x.1 K) w_impl_Category_isCategory (fun x h1 h2 => m_impl_Category_isCategory x.1 h1 h2)
def objCodeR (c : CategoryD) (l : List Int) : Int := if catR c = true then (if withinR l c.1 = true then 0 else 2) else 1
theorem cat_shape {c : CategoryD} (h : catR c = true) : ShapeP c := by
  simp only [catR, Bool.and_eq_true] at h; exact shape_iff.1 h.1

def c_impl_objectCode : Ct := ⟨[(.pt CategoryT), (.sl (.int .i64))], [false, false], fun x => [], [(false, (.fz (.int .i64)))], fun x => (objCodeR x.1 x.2.1, ()), false, none⟩
def W_impl_objectCode (c : CategoryD) (list : List Int) (K : Int × Unit → Prop) : Prop := (cnd (!(catR c)) (K ((1 : Int), ())) ((inK IntKind.i64 (c.1 - (1 : Int))) ∧ (cnd (!(withinR list c.1)) (K ((2 : Int), ())) (K ((0 : Int), ())))))
theorem w_impl_objectCode (x : denL c_impl_objectCode.args) (K : Int × Unit → Prop) : evF tab (lkp [(96, c_impl_Category_isCategory), (81, c_impl_within)]) (cutL []) Try.f58 (bodyOf Try.f58) .n c_impl_objectCode x K = W_impl_objectCode x.1 x.2.1 K := by kernel_rfl
theorem k_impl_objectCode : okC Try.f58.ntmps (cutL []) (bodyOf Try.f58) = true := by kernel_rfl
theorem m_impl_objectCode (c : CategoryD) (list : List Int) (hok : allP (okL c_impl_objectCode.args (c, list, ()))) (hpre : allP (c_impl_objectCode.pre (c, list, ()))) : W_impl_objectCode c list (fun r => r = c_impl_objectCode.res (c, list, ())) := by
  simp only [c_impl_objectCode, okL, T.oks, T.ok, ap, allP, true_and, and_true, implies_true] at hok hpre
  try dsimp only [T.den] at hok
  try dsimp only [T.den] at hpre
  unfold W_impl_objectCode
  simp only [c_impl_objectCode, objCodeR]
  have h1 := fun h => (cat_shape (c := c) h).ob
  grind [cnd, nb_eq, inK64]
theorem ct_impl_objectCode : CtOk Try.prog 58 c_impl_objectCode :=
  ct_by (Φ := lkp [(96, c_impl_Category_isCategory), (81, c_impl_within)]) (good_cons ct_impl_Category_isCategory (good_cons ct_impl_within good_nil)) tab_ok (by kernel_rfl) (fn := Try.f58) (c := bodyOf Try.f58) (by kernel_rfl) (by kernel_rfl) (by kernel_rfl) c_impl_objectCode rfl .n (cutL []) (by kernel_rfl) (by kernel_rfl) k_impl_objectCode (by decide) (fun x K => W_impl_objectCode x.1 x.2.1 K) w_impl_objectCode (fun x h1 h2 => m_impl_objectCode x.1 x.2.1 h1 h2)
/-- the arrows out of x -/
def outR (c : CategoryD) (x : Int) : List Int := selR c.2.1.length fun f => c.2.1.getD f.toNat 0 == x

def c_impl_Category_outOf : Ct := ⟨[(.pt CategoryT), (.int .i64)], [false, false], fun x => [x.1.2.1.length ≤ 40], [(false, (.sl (.fz (.int .i64))))], fun x => (outR x.1 x.2.1, ()), false, none⟩
def W_impl_Category_outOf (c : CategoryD) (x : Int) (K : (List Int) × Unit → Prop) : Prop := (loopW (S := ((Unit × (Int × Unit)) × ((List Int) × Unit))) (fun s => (fun next => ((inK IntKind.i64 s.1.2.1) → ((T.ok (T.sl (T.int IntKind.i64)) s.2.1) → (cnd (decide (s.1.2.1 < (((List.length c.2.1) : Nat) : Int))) (((0 : Int) ≤ s.1.2.1) ∧ ((s.1.2.1 < (((List.length c.2.1) : Nat) : Int)) ∧ (joinW (S := ((Unit × Unit) × ((List Int) × Unit))) (fun s1 => ((T.ok (T.sl (T.int IntKind.i64)) s1.2.1) → ((inK IntKind.i64 (s.1.2.1 + (1 : Int))) ∧ (next (((), ((s.1.2.1 + (1 : Int)), ())), (s1.2.1, ())))))) (fun k => (cnd ((List.getD c.2.1 (Int.toNat s.1.2.1) (0 : Int)) == x) ((room (List.length s.2.1) (List.length (s.1.2.1 :: ([] : List Int))) 8) ∧ (k (((), ()), ((s.2.1 ++ (s.1.2.1 :: ([] : List Int))), ())))) (k (((), ()), (s.2.1, ())))))))) (K (s.2.1, ()))))))) (((), ((0 : Int), ())), (([] : List Int), ())))
theorem w_impl_Category_outOf (x : denL c_impl_Category_outOf.args) (K : (List Int) × Unit → Prop) : evF tab (lkp []) (cutL []) Try.f97 (bodyOf Try.f97) (.s .n (.s .n (.s (.s .n (.l [(5, (.ref 800005 [])), (14, (.d (.int .i64)))] [(800005, (.sl (.fz (.int .i64))))] [1, 12, 13] (.s .n (.s .n (.s (.s .n (.s .n (.j [(5, (.ref 800005 []))] [(800005, (.sl (.fz (.int .i64))))] [1, 12, 13, 14] .n))) .n))))) .n))) c_impl_Category_outOf x K = W_impl_Category_outOf x.1 x.2.1 K := by kernel_rfl
theorem k_impl_Category_outOf : okC Try.f97.ntmps (cutL []) (bodyOf Try.f97) = true := by kernel_rfl
theorem m_impl_Category_outOf (c : CategoryD) (x : Int) (hok : allP (okL c_impl_Category_outOf.args (c, x, ()))) (hpre : allP (c_impl_Category_outOf.pre (c, x, ()))) : W_impl_Category_outOf c x (fun r => r = c_impl_Category_outOf.res (c, x, ())) := by
  simp only [c_impl_Category_outOf, okL, T.oks, T.ok, ap, allP, true_and, and_true, implies_true] at hok hpre
  try dsimp only [T.den] at hok
  try dsimp only [T.den] at hpre
  unfold W_impl_Category_outOf
  have hm : c.2.1.length ≤ 40 := hpre
  refine loop_of (fun (s : ((Unit × (Int × Unit)) × ((List Int) × Unit))) => 0 ≤ s.1.2.1 ∧ s.1.2.1 ≤ c.2.1.length ∧ s.2.1 = selR s.1.2.1.toNat fun f => c.2.1.getD f.toNat 0 == x) (fun (s : ((Unit × (Int × Unit)) × ((List Int) × Unit))) => (c.2.1.length - s.1.2.1).toNat) ?_ ⟨by simp, by simp, rfl⟩
  rintro ⟨⟨_, i, _⟩, l, _⟩ next ⟨h0, h1, h2⟩ hn hin hl
  try dsimp only at h0 h1 h2 hn ⊢
  subst h2
  refine cnd_d (fun hc => ⟨h0, hc, join_of (fun s1 => s1.2.1 = selR (i + 1).toNat fun f => c.2.1.getD f.toNat 0 == x) (fun s1 hs _ => ⟨by rw [inK64]; (try dsimp only); omega, hn _ ⟨(by first | omega | (dsimp only; omega)), (by first | omega | (dsimp only; omega)), hs⟩ (by first | omega | (dsimp only; omega))⟩) (fun k hk => cnd_of (fun hx => ⟨?_, hk _ ?_⟩) (fun hx => hk _ ?_))⟩) (fun hc => ?_)
  · have := sel_len (p := fun f => c.2.1.getD f.toNat 0 == x) i.toNat
    unfold room
    rw [nb_eq]
    have h3 : (i :: ([] : List Int)).length = 1 := rfl
    rw [h3]
    omega
  · exact (sel_t h0 hx).symm
  · exact (sel_f h0 hx).symm
  · have e : i.toNat = c.2.1.length := by omega
    simp only [c_impl_Category_outOf, outR]
    rw [e]
theorem ct_impl_Category_outOf : CtOk Try.prog 97 c_impl_Category_outOf :=
  ct_by (Φ := lkp []) good_nil tab_ok (by kernel_rfl) (fn := Try.f97) (c := bodyOf Try.f97) (by kernel_rfl) (by kernel_rfl) (by kernel_rfl) c_impl_Category_outOf rfl (.s .n (.s .n (.s (.s .n (.l [(5, (.ref 800005 [])), (14, (.d (.int .i64)))] [(800005, (.sl (.fz (.int .i64))))] [1, 12, 13] (.s .n (.s .n (.s (.s .n (.s .n (.j [(5, (.ref 800005 []))] [(800005, (.sl (.fz (.int .i64))))] [1, 12, 13, 14] .n))) .n))))) .n))) (cutL []) (by kernel_rfl) (by kernel_rfl) k_impl_Category_outOf (by decide) (fun x K => W_impl_Category_outOf x.1 x.2.1 K) w_impl_Category_outOf (fun x h1 h2 => m_impl_Category_outOf x.1 x.2.1 h1 h2)
def hasR (l : List Int) (n : Int) : Bool := l.any fun x => x == n

def c_impl_has : Ct := ⟨[(.sl (.int .i64)), (.int .i64)], [false, false], fun x => [], [(false, (.fz .bool))], fun x => (hasR x.1 x.2.1, ()), false, none⟩
def W_impl_has (list : List Int) (n : Int) (K : Bool × Unit → Prop) : Prop := (loopW (S := ((Int × Unit) × Unit)) (fun s => (fun next => ((inK IntKind.i64 s.1.1) → (cnd (decide (s.1.1 < (((List.length list) : Nat) : Int))) (((0 : Int) ≤ s.1.1) ∧ ((s.1.1 < (((List.length list) : Nat) : Int)) ∧ (cnd ((List.getD list (Int.toNat s.1.1) (0 : Int)) == n) (K (Bool.true, ())) ((inK IntKind.i64 (s.1.1 + (1 : Int))) ∧ (next (((s.1.1 + (1 : Int)), ()), ())))))) (K (Bool.false, ())))))) (((0 : Int), ()), ()))
theorem w_impl_has (x : denL c_impl_has.args) (K : Bool × Unit → Prop) : evF tab (lkp []) (cutL []) Try.f104 (bodyOf Try.f104) (.s .n (.s (.s .n (.l [(9, (.d (.int .i64)))] [] [1, 7, 8] .n)) .n)) c_impl_has x K = W_impl_has x.1 x.2.1 K := by kernel_rfl
theorem k_impl_has : okC Try.f104.ntmps (cutL []) (bodyOf Try.f104) = true := by kernel_rfl
theorem m_impl_has (list : List Int) (n : Int) (hok : allP (okL c_impl_has.args (list, n, ()))) (hpre : allP (c_impl_has.pre (list, n, ()))) : W_impl_has list n (fun r => r = c_impl_has.res (list, n, ())) := by
  simp only [c_impl_has, okL, T.oks, T.ok, ap, allP, true_and, and_true, implies_true] at hok hpre
  try dsimp only [T.den] at hok
  try dsimp only [T.den] at hpre
  unfold W_impl_has
  refine loop_of (fun (s : ((Int × Unit) × Unit)) => 0 ≤ s.1.1 ∧ s.1.1 ≤ list.length ∧ hasR list n = hasR (list.drop s.1.1.toNat) n) (fun (s : ((Int × Unit) × Unit)) => (list.length - s.1.1).toNat) ?_ (by simp)
  rintro ⟨⟨i, _⟩, _⟩ next ⟨h0, h1, h2⟩ hn hin
  simp only at h0 h1 h2 hn ⊢
  refine cnd_d (fun hc => ?_) (fun hc => ?_)
  · rw [drop_c list 0 h0 hc] at h2
    simp only [hasR, List.any_cons] at h2
    grind [cnd, nb_eq, inK64, c_impl_has, hasR]
  · rw [drop_n list (by omega)] at h2
    grind [cnd, nb_eq, inK64, c_impl_has, hasR]
theorem ct_impl_has : CtOk Try.prog 104 c_impl_has :=
  ct_by (Φ := lkp []) good_nil tab_ok (by kernel_rfl) (fn := Try.f104) (c := bodyOf Try.f104) (by kernel_rfl) (by kernel_rfl) (by kernel_rfl) c_impl_has rfl (.s .n (.s (.s .n (.l [(9, (.d (.int .i64)))] [] [1, 7, 8] .n)) .n)) (cutL []) (by kernel_rfl) (by kernel_rfl) k_impl_has (by decide) (fun x K => W_impl_has x.1 x.2.1 K) w_impl_has (fun x h1 h2 => m_impl_has x.1 x.2.1 h1 h2)
def squareR (t : List (List Int)) (b : Int) : Bool := allB t.length fun i => decide ((t.getD i.toNat []).length = t.length) && withinR (t.getD i.toNat []) b
def tabR (t : List (List Int)) (n : Int) : Bool := decide ((t.length : Int) = n) && squareR t n
def atR (t : List (List Int)) (i j : Int) : Int := (t.getD i.toNat []).getD j.toNat 0
theorem square_iff {t : List (List Int)} {b : Int} : squareR t b = true ↔ ∀ i : Int, 0 ≤ i → i < t.length → (t.getD i.toNat []).length = t.length ∧ withinR (t.getD i.toNat []) b = true := by
  simp only [squareR, allB_iff, Bool.and_eq_true, decide_eq_true_eq]
theorem tab_at {t : List (List Int)} {n : Int} (h : tabR t n = true) : (t.length : Int) = n ∧ (∀ i : Int, 0 ≤ i → i < n → ((t.getD i.toNat []).length : Int) = n) ∧ ∀ i j : Int, 0 ≤ i → i < n → 0 ≤ j → j < n → 0 ≤ atR t i j ∧ atR t i j < n := by
  simp only [tabR, Bool.and_eq_true, decide_eq_true_eq, square_iff] at h
  refine ⟨h.1, fun i h0 h1 => ?_, fun i j h0 h1 g0 g1 => ?_⟩
  · have := (h.2 i h0 (by omega)).1; omega
  · obtain ⟨a, b⟩ := h.2 i h0 (by omega)
    exact within_iff.1 b j g0 (by omega)

def c_impl_isTable : Ct := ⟨[(.sl (.sl (.int .i64))), (.int .i64)], [false, false], fun x => [inK .i64 (x.2.1 - 1)], [(false, (.fz .bool))], fun x => (tabR x.1 x.2.1, ()), false, none⟩
def W_impl_isTable (list : List (List Int)) (n : Int) (K : Bool × Unit → Prop) : Prop := (cnd ((((List.length list) : Nat) : Int) != n) (K (Bool.false, ())) (loopW (S := ((Int × Unit) × Unit)) (fun s => (fun next => ((inK IntKind.i64 s.1.1) → (cnd (decide (s.1.1 < (((List.length list) : Nat) : Int))) (((0 : Int) ≤ s.1.1) ∧ ((s.1.1 < (((List.length list) : Nat) : Int)) ∧ (((((((List.length (List.getD list (Int.toNat s.1.1) ([] : List Int))) : Nat) : Int) != n) = Bool.false) → (inK IntKind.i64 (n - (1 : Int)))) ∧ (cnd (((((List.length (List.getD list (Int.toNat s.1.1) ([] : List Int))) : Nat) : Int) != n) || (!(withinR (List.getD list (Int.toNat s.1.1) ([] : List Int)) n))) (K (Bool.false, ())) ((inK IntKind.i64 (s.1.1 + (1 : Int))) ∧ (next (((s.1.1 + (1 : Int)), ()), ()))))))) (K (Bool.true, ())))))) (((0 : Int), ()), ())))
theorem w_impl_isTable (x : denL c_impl_isTable.args) (K : Bool × Unit → Prop) : evF tab (lkp [(81, c_impl_within)]) (cutL []) Try.f115 (bodyOf Try.f115) (.s .n (.s .n (.s (.s .n (.l [(13, (.d (.int .i64)))] [] [1, 11, 12] .n)) .n))) c_impl_isTable x K = W_impl_isTable x.1 x.2.1 K := by kernel_rfl
theorem k_impl_isTable : okC Try.f115.ntmps (cutL []) (bodyOf Try.f115) = true := by kernel_rfl
theorem m_impl_isTable (list : List (List Int)) (n : Int) (hok : allP (okL c_impl_isTable.args (list, n, ()))) (hpre : allP (c_impl_isTable.pre (list, n, ()))) : W_impl_isTable list n (fun r => r = c_impl_isTable.res (list, n, ())) := by
  simp only [c_impl_isTable, okL, T.oks, T.ok, ap, allP, true_and, and_true, implies_true] at hok hpre
  try dsimp only [T.den] at hok
  try dsimp only [T.den] at hpre
  unfold W_impl_isTable
  have hl : list.length ≤ 140737488355328 := by simp only [nb_eq] at hok; omega
  have bad : ¬ (tabR list n = true) → (false, ()) = c_impl_isTable.res (list, n, ()) := fun h => by
    simp only [c_impl_isTable]
    cases hs : tabR list n with
    | false => rfl
    | true => exact absurd hs h
  have hti : tabR list n = true ↔ (list.length : Int) = n ∧ ∀ i : Int, 0 ≤ i → i < list.length → (list.getD i.toNat []).length = list.length ∧ withinR (list.getD i.toNat []) n = true := by
    simp only [tabR, Bool.and_eq_true, decide_eq_true_eq, square_iff]
  refine cnd_of (fun hc => bad fun h => ?_) (fun hc => ?_)
  · rw [(hti.1 h).1] at hc; simp at hc
  have hc : (list.length : Int) = n := by simpa using hc
  refine loop_ix (n := list.length) (fun i => ∀ j : Int, 0 ≤ j → j < i → (list.getD j.toNat []).length = list.length ∧ withinR (list.getD j.toNat []) n = true) (by omega) (by intro y h0 h1; omega) ?_ ?_
  · intro i next h0 h1 hP hn hin
    try dsimp only
    refine cnd_d (fun _ => ⟨h0, h1, fun _ => hpre, cnd_of (fun hx => bad fun h => ?_) (fun hx => ⟨by rw [inK64]; (try dsimp only); omega, hn fun j j0 j1 => ?_⟩)⟩) (fun h => absurd h1 h)
    · have := (hti.1 h).2 i h0 h1
      rw [this.1, this.2, hc] at hx; simp at hx
    · by_cases e : j = i
      · subst e
        simp only [Bool.or_eq_false_iff, Bool.not_eq_false', bne_eq_false_iff_eq] at hx
        exact ⟨by omega, hx.2⟩
      · exact hP j j0 (by omega)
  · intro next hP hin
    refine cnd_d (fun h => absurd h (by dsimp only; omega)) (fun _ => ?_)
    simp only [c_impl_isTable]
    rw [hti.2 ⟨hc, hP⟩]
theorem ct_impl_isTable : CtOk Try.prog 115 c_impl_isTable :=
  ct_by (Φ := lkp [(81, c_impl_within)]) (good_cons ct_impl_within good_nil) tab_ok (by kernel_rfl) (fn := Try.f115) (c := bodyOf Try.f115) (by kernel_rfl) (by kernel_rfl) (by kernel_rfl) c_impl_isTable rfl (.s .n (.s .n (.s (.s .n (.l [(13, (.d (.int .i64)))] [] [1, 11, 12] .n)) .n))) (cutL []) (by kernel_rfl) (by kernel_rfl) k_impl_isTable (by decide) (fun x K => W_impl_isTable x.1 x.2.1 K) w_impl_isTable (fun x h1 h2 => m_impl_isTable x.1 x.2.1 h1 h2)
def endsR (m : MonoidalD) : Bool := allB m.1.2.1.length fun f => allB m.1.2.1.length fun g =>
  decide (m.1.2.1.getD (atR m.2.2.2 f g).toNat 0 = atR m.2.2.1 (m.1.2.1.getD f.toNat 0) (m.1.2.1.getD g.toNat 0)) && decide (m.1.2.2.1.getD (atR m.2.2.2 f g).toNat 0 = atR m.2.2.1 (m.1.2.2.1.getD f.toNat 0) (m.1.2.2.1.getD g.toNat 0))
theorem ends_iff {m : MonoidalD} : endsR m = true ↔ ∀ f : Int, 0 ≤ f → f < m.1.2.1.length → ∀ g : Int, 0 ≤ g → g < m.1.2.1.length →
    m.1.2.1.getD (atR m.2.2.2 f g).toNat 0 = atR m.2.2.1 (m.1.2.1.getD f.toNat 0) (m.1.2.1.getD g.toNat 0) ∧ m.1.2.2.1.getD (atR m.2.2.2 f g).toNat 0 = atR m.2.2.1 (m.1.2.2.1.getD f.toNat 0) (m.1.2.2.1.getD g.toNat 0) := by
  simp only [endsR, allB_iff, Bool.and_eq_true, decide_eq_true_eq]

def c_spec_l35Ends : Ct := ⟨[MonoidalT], [true], fun x => [ShapeP x.1.1, tabR x.1.2.2.1 x.1.1.1 = true, tabR x.1.2.2.2 x.1.1.2.1.length = true], [(false, (.fz .bool))], fun x => (endsR x.1, ()), false, none⟩
def W_spec_l35Ends (m : MonoidalD) (K : Bool × Unit → Prop) : Prop := (loopW (S := ((Unit × (Int × Unit)) × ((Int × ((List Int) × ((List Int) × ((List Int) × (List (List Int)))))) × Unit))) (fun s => (fun next => ((inK IntKind.i64 s.1.2.1) → ((inK IntKind.i64 s.2.1.1) → ((T.ok (T.sl (T.int IntKind.i64)) s.2.1.2.1) → ((T.ok (T.sl (T.int IntKind.i64)) s.2.1.2.2.1) → ((T.ok (T.sl (T.int IntKind.i64)) s.2.1.2.2.2.1) → ((T.ok (T.sl (T.sl (T.int IntKind.i64))) s.2.1.2.2.2.2) → (cnd (decide (s.1.2.1 < (((List.length s.2.1.2.1) : Nat) : Int))) (loopW (S := ((Unit × (Int × Unit)) × ((Int × ((List Int) × ((List Int) × ((List Int) × (List (List Int)))))) × Unit))) (fun s1 => (fun next1 => ((inK IntKind.i64 s1.1.2.1) → ((inK IntKind.i64 s1.2.1.1) → ((T.ok (T.sl (T.int IntKind.i64)) s1.2.1.2.1) → ((T.ok (T.sl (T.int IntKind.i64)) s1.2.1.2.2.1) → ((T.ok (T.sl (T.int IntKind.i64)) s1.2.1.2.2.2.1) → ((T.ok (T.sl (T.sl (T.int IntKind.i64))) s1.2.1.2.2.2.2) → (cnd (decide (s1.1.2.1 < (((List.length s1.2.1.2.1) : Nat) : Int))) (((0 : Int) ≤ s.1.2.1) ∧ ((s.1.2.1 < (((List.length m.2.2.2) : Nat) : Int)) ∧ (((0 : Int) ≤ s1.1.2.1) ∧ ((s1.1.2.1 < (((List.length (List.getD m.2.2.2 (Int.toNat s.1.2.1) ([] : List Int))) : Nat) : Int)) ∧ (((0 : Int) ≤ (List.getD (List.getD m.2.2.2 (Int.toNat s.1.2.1) ([] : List Int)) (Int.toNat s1.1.2.1) (0 : Int))) ∧ (((List.getD (List.getD m.2.2.2 (Int.toNat s.1.2.1) ([] : List Int)) (Int.toNat s1.1.2.1) (0 : Int)) < (((List.length s1.2.1.2.1) : Nat) : Int)) ∧ (((0 : Int) ≤ s.1.2.1) ∧ ((s.1.2.1 < (((List.length s1.2.1.2.1) : Nat) : Int)) ∧ (((0 : Int) ≤ (List.getD s1.2.1.2.1 (Int.toNat s.1.2.1) (0 : Int))) ∧ (((List.getD s1.2.1.2.1 (Int.toNat s.1.2.1) (0 : Int)) < (((List.length m.2.2.1) : Nat) : Int)) ∧ (((0 : Int) ≤ s1.1.2.1) ∧ ((s1.1.2.1 < (((List.length s1.2.1.2.1) : Nat) : Int)) ∧ (((0 : Int) ≤ (List.getD s1.2.1.2.1 (Int.toNat s1.1.2.1) (0 : Int))) ∧ (((List.getD s1.2.1.2.1 (Int.toNat s1.1.2.1) (0 : Int)) < (((List.length (List.getD m.2.2.1 (Int.toNat (List.getD s1.2.1.2.1 (Int.toNat s.1.2.1) (0 : Int))) ([] : List Int))) : Nat) : Int)) ∧ (((((List.getD s1.2.1.2.1 (Int.toNat (List.getD (List.getD m.2.2.2 (Int.toNat s.1.2.1) ([] : List Int)) (Int.toNat s1.1.2.1) (0 : Int))) (0 : Int)) != (List.getD (List.getD m.2.2.1 (Int.toNat (List.getD s1.2.1.2.1 (Int.toNat s.1.2.1) (0 : Int))) ([] : List Int)) (Int.toNat (List.getD s1.2.1.2.1 (Int.toNat s1.1.2.1) (0 : Int))) (0 : Int))) = Bool.false) → (((List.getD (List.getD m.2.2.2 (Int.toNat s.1.2.1) ([] : List Int)) (Int.toNat s1.1.2.1) (0 : Int)) < (((List.length s1.2.1.2.2.1) : Nat) : Int)) ∧ ((0 : Int) ≤ (List.getD (List.getD m.2.2.2 (Int.toNat s.1.2.1) ([] : List Int)) (Int.toNat s1.1.2.1) (0 : Int))))) ∧ (((((List.getD s1.2.1.2.1 (Int.toNat (List.getD (List.getD m.2.2.2 (Int.toNat s.1.2.1) ([] : List Int)) (Int.toNat s1.1.2.1) (0 : Int))) (0 : Int)) != (List.getD (List.getD m.2.2.1 (Int.toNat (List.getD s1.2.1.2.1 (Int.toNat s.1.2.1) (0 : Int))) ([] : List Int)) (Int.toNat (List.getD s1.2.1.2.1 (Int.toNat s1.1.2.1) (0 : Int))) (0 : Int))) = Bool.false) → ((s.1.2.1 < (((List.length s1.2.1.2.2.1) : Nat) : Int)) ∧ ((0 : Int) ≤ s.1.2.1))) ∧ (((((List.getD s1.2.1.2.1 (Int.toNat (List.getD (List.getD m.2.2.2 (Int.toNat s.1.2.1) ([] : List Int)) (Int.toNat s1.1.2.1) (0 : Int))) (0 : Int)) != (List.getD (List.getD m.2.2.1 (Int.toNat (List.getD s1.2.1.2.1 (Int.toNat s.1.2.1) (0 : Int))) ([] : List Int)) (Int.toNat (List.getD s1.2.1.2.1 (Int.toNat s1.1.2.1) (0 : Int))) (0 : Int))) = Bool.false) → (((List.getD s1.2.1.2.2.1 (Int.toNat s.1.2.1) (0 : Int)) < (((List.length m.2.2.1) : Nat) : Int)) ∧ ((0 : Int) ≤ (List.getD s1.2.1.2.2.1 (Int.toNat s.1.2.1) (0 : Int))))) ∧ (((((List.getD s1.2.1.2.1 (Int.toNat (List.getD (List.getD m.2.2.2 (Int.toNat s.1.2.1) ([] : List Int)) (Int.toNat s1.1.2.1) (0 : Int))) (0 : Int)) != (List.getD (List.getD m.2.2.1 (Int.toNat (List.getD s1.2.1.2.1 (Int.toNat s.1.2.1) (0 : Int))) ([] : List Int)) (Int.toNat (List.getD s1.2.1.2.1 (Int.toNat s1.1.2.1) (0 : Int))) (0 : Int))) = Bool.false) → ((s1.1.2.1 < (((List.length s1.2.1.2.2.1) : Nat) : Int)) ∧ ((0 : Int) ≤ s1.1.2.1))) ∧ (((((List.getD s1.2.1.2.1 (Int.toNat (List.getD (List.getD m.2.2.2 (Int.toNat s.1.2.1) ([] : List Int)) (Int.toNat s1.1.2.1) (0 : Int))) (0 : Int)) != (List.getD (List.getD m.2.2.1 (Int.toNat (List.getD s1.2.1.2.1 (Int.toNat s.1.2.1) (0 : Int))) ([] : List Int)) (Int.toNat (List.getD s1.2.1.2.1 (Int.toNat s1.1.2.1) (0 : Int))) (0 : Int))) = Bool.false) → (((List.getD s1.2.1.2.2.1 (Int.toNat s1.1.2.1) (0 : Int)) < (((List.length (List.getD m.2.2.1 (Int.toNat (List.getD s1.2.1.2.2.1 (Int.toNat s.1.2.1) (0 : Int))) ([] : List Int))) : Nat) : Int)) ∧ ((0 : Int) ≤ (List.getD s1.2.1.2.2.1 (Int.toNat s1.1.2.1) (0 : Int))))) ∧ (cnd (((List.getD s1.2.1.2.1 (Int.toNat (List.getD (List.getD m.2.2.2 (Int.toNat s.1.2.1) ([] : List Int)) (Int.toNat s1.1.2.1) (0 : Int))) (0 : Int)) != (List.getD (List.getD m.2.2.1 (Int.toNat (List.getD s1.2.1.2.1 (Int.toNat s.1.2.1) (0 : Int))) ([] : List Int)) (Int.toNat (List.getD s1.2.1.2.1 (Int.toNat s1.1.2.1) (0 : Int))) (0 : Int))) || ((List.getD s1.2.1.2.2.1 (Int.toNat (List.getD (List.getD m.2.2.2 (Int.toNat s.1.2.1) ([] : List Int)) (Int.toNat s1.1.2.1) (0 : Int))) (0 : Int)) != (List.getD (List.getD m.2.2.1 (Int.toNat (List.getD s1.2.1.2.2.1 (Int.toNat s.1.2.1) (0 : Int))) ([] : List Int)) (Int.toNat (List.getD s1.2.1.2.2.1 (Int.toNat s1.1.2.1) (0 : Int))) (0 : Int)))) (K (Bool.false, ())) ((inK IntKind.i64 (s1.1.2.1 + (1 : Int))) ∧ (next1 (((), ((s1.1.2.1 + (1 : Int)), ())), (s1.2.1, ())))))))))))))))))))))))) ((inK IntKind.i64 (s.1.2.1 + (1 : Int))) ∧ (next (((), ((s.1.2.1 + (1 : Int)), ())), (s1.2.1, ()))))))))))))) (((), ((0 : Int), ())), (s.2.1, ()))) (K (Bool.true, ()))))))))))) (((), ((0 : Int), ())), (m.1, ())))
theorem w_spec_l35Ends (x : denL c_spec_l35Ends.args) (K : Bool × Unit → Prop) : evF tab (lkp []) (cutL [(9, 46)]) Try.f113 (bodyOf Try.f113) (.s .n (.s .n (.s (.s .n (.l [(3, (.ad 3 [.de])), (4, (.d (.int .i64)))] [(3, (.pt (.fz (.p (.int .i64) (.p (.sl (.int .i64)) (.p (.sl (.int .i64)) (.p (.sl (.int .i64)) (.sl (.sl (.int .i64))))))))))] [1] (.s .n (.s (.s .n (.l [(3, (.ad 3 [.de])), (5, (.d (.int .i64)))] [(3, (.pt (.fz (.p (.int .i64) (.p (.sl (.int .i64)) (.p (.sl (.int .i64)) (.p (.sl (.int .i64)) (.sl (.sl (.int .i64))))))))))] [1, 4] .n)) .n)))) .n))) c_spec_l35Ends x K = W_spec_l35Ends x.1 K := by kernel_rfl
theorem k_spec_l35Ends : okC Try.f113.ntmps (cutL [(9, 46)]) (bodyOf Try.f113) = true := by kernel_rfl
theorem m_spec_l35Ends (m : MonoidalD) (hok : allP (okL c_spec_l35Ends.args (m, ()))) (hpre : allP (c_spec_l35Ends.pre (m, ()))) : W_spec_l35Ends m (fun r => r = c_spec_l35Ends.res (m, ())) := by
  simp only [c_spec_l35Ends, okL, T.oks, T.ok, ap, allP, true_and, and_true, implies_true] at hok hpre
  try dsimp only [T.den] at hok
  try dsimp only [T.den] at hpre
  unfold W_spec_l35Ends
  have S : ShapeP m.1 := hpre.1
  have O := tab_at hpre.2.1
  have A := tab_at hpre.2.2
  have hlt := S.lt
  have hmm := S.m
  have bad : ¬ (endsR m = true) → (false, ()) = c_spec_l35Ends.res (m, ()) := fun h => by
    simp only [c_spec_l35Ends]
    cases hs : endsR m with
    | false => rfl
    | true => exact absurd hs h
  have hat : ∀ i j : Int, (m.2.2.2.getD i.toNat []).getD j.toNat 0 = atR m.2.2.2 i j := fun _ _ => rfl
  have hat2 : ∀ i j : Int, (m.2.2.1.getD i.toNat []).getD j.toNat 0 = atR m.2.2.1 i j := fun _ _ => rfl
  refine loop_ix1 (n := m.1.2.1.length) (fun f => ∀ f' : Int, 0 ≤ f' → f' < f → ∀ g : Int, 0 ≤ g → g < m.1.2.1.length →
    m.1.2.1.getD (atR m.2.2.2 f' g).toNat 0 = atR m.2.2.1 (m.1.2.1.getD f'.toNat 0) (m.1.2.1.getD g.toNat 0) ∧ m.1.2.2.1.getD (atR m.2.2.2 f' g).toNat 0 = atR m.2.2.1 (m.1.2.2.1.getD f'.toNat 0) (m.1.2.2.1.getD g.toNat 0)) (by omega) (by intro y h0 h1; omega) ?_ ?_
  · intro f next h0 h1 hP hn _ _ _ _ _ _
    try dsimp only
    have sf := S.frm h0 h1
    have rf := A.2.1 f h0 h1
    refine cnd_d (fun _ => ?_) (fun h => absurd h1 h)
    refine loop_ix1 (n := m.1.2.1.length) (fun g => ∀ g' : Int, 0 ≤ g' → g' < g →
      m.1.2.1.getD (atR m.2.2.2 f g').toNat 0 = atR m.2.2.1 (m.1.2.1.getD f.toNat 0) (m.1.2.1.getD g'.toNat 0) ∧ m.1.2.2.1.getD (atR m.2.2.2 f g').toNat 0 = atR m.2.2.1 (m.1.2.2.1.getD f.toNat 0) (m.1.2.2.1.getD g'.toNat 0)) (by omega) (by intro y h0 h1; omega) ?_ ?_
    · intro g next2 g0 g1 hP2 hn2 _ _ _ _ _ _
      try dsimp only
      simp only [hat, hat2]
      have sg := S.frm g0 g1
      have afg := A.2.2 f g h0 h1 g0 g1
      have r1 := O.2.1 _ sf.1 sf.2.1
      have r2 := O.2.1 _ sf.2.2.1 sf.2.2.2
      refine cnd_d (fun _ => ⟨h0, by omega, g0, by omega, afg.1, by omega, h0, h1, sf.1, by omega, g0, g1, sg.1, by omega, fun _ => by omega, fun _ => by omega, fun _ => by omega, fun _ => by omega, fun _ => by omega, cnd_of (fun hx => bad fun h => ?_) (fun hx => ⟨by rw [inK64]; (try dsimp only); omega, hn2 fun g' a0 a1 => ?_⟩)⟩) (fun h => absurd g1 h)
      · have := ends_iff.1 h f h0 h1 g g0 g1
        rw [this.1, this.2] at hx; simp at hx
      · by_cases e : g' = g
        · rw [e]; simpa only [Bool.or_eq_false_iff, bne_eq_false_iff_eq] using hx
        · exact hP2 g' a0 (by omega)
    · intro next2 hP2 _ _ _ _ _ _
      refine cnd_d (fun h => absurd h (by dsimp only; omega)) (fun _ => ⟨by rw [inK64]; (try dsimp only); omega, hn fun f' a0 a1 => ?_⟩)
      by_cases e : f' = f
      · rw [e]; exact hP2
      · exact hP f' a0 (by omega)
  · intro next hP _ _ _ _ _ _
    refine cnd_d (fun h => absurd h (by dsimp only; omega)) (fun _ => ?_)
    simp only [c_spec_l35Ends]
    rw [ends_iff.2 hP]
theorem ct_spec_l35Ends : CtOk Try.prog 113 c_spec_l35Ends :=
  ct_by (Φ := lkp []) good_nil tab_ok (by kernel_rfl) (fn := Try.f113) (c := bodyOf Try.f113) (by kernel_rfl) (by kernel_rfl) (by kernel_rfl) c_spec_l35Ends rfl (.s .n (.s .n (.s (.s .n (.l [(3, (.ad 3 [.de])), (4, (.d (.int .i64)))] [(3, (.pt (.fz (.p (.int .i64) (.p (.sl (.int .i64)) (.p (.sl (.int .i64)) (.p (.sl (.int .i64)) (.sl (.sl (.int .i64))))))))))] [1] (.s .n (.s (.s .n (.l [(3, (.ad 3 [.de])), (5, (.d (.int .i64)))] [(3, (.pt (.fz (.p (.int .i64) (.p (.sl (.int .i64)) (.p (.sl (.int .i64)) (.p (.sl (.int .i64)) (.sl (.sl (.int .i64))))))))))] [1, 4] .n)) .n)))) .n))) (cutL [(9, 46)]) (by kernel_rfl) (by kernel_rfl) k_spec_l35Ends (by decide) (fun x K => W_spec_l35Ends x.1 K) w_spec_l35Ends (fun x h1 h2 => m_spec_l35Ends x.1 h1 h2)
def interR (m : MonoidalD) : Bool := allB m.1.2.1.length fun f => allB m.1.2.1.length fun h => decide (m.1.2.2.1.getD f.toNat 0 ≠ m.1.2.1.getD h.toNat 0) || allB m.1.2.1.length fun g => allB m.1.2.1.length fun k =>
  decide (m.1.2.2.1.getD g.toNat 0 ≠ m.1.2.1.getD k.toNat 0) || decide (atR m.2.2.2 (compR m.1 f h) (compR m.1 g k) = compR m.1 (atR m.2.2.2 f g) (atR m.2.2.2 h k))
theorem inter_iff {m : MonoidalD} : interR m = true ↔ ∀ f : Int, 0 ≤ f → f < m.1.2.1.length → ∀ h : Int, 0 ≤ h → h < m.1.2.1.length → m.1.2.2.1.getD f.toNat 0 = m.1.2.1.getD h.toNat 0 → ∀ g : Int, 0 ≤ g → g < m.1.2.1.length → ∀ k : Int, 0 ≤ k → k < m.1.2.1.length → m.1.2.2.1.getD g.toNat 0 = m.1.2.1.getD k.toNat 0 →
    atR m.2.2.2 (compR m.1 f h) (compR m.1 g k) = compR m.1 (atR m.2.2.2 f g) (atR m.2.2.2 h k) := by
  simp only [interR, allB_iff, Bool.or_eq_true, decide_eq_true_eq]
  constructor
  · intro q f f0 f1 h h0 h1 e g g0 g1 k k0 k1 e2
    rcases q f f0 f1 h h0 h1 with a | a
    · exact absurd e a
    rcases a g g0 g1 k k0 k1 with b | b
    · exact absurd e2 b
    · exact b
  · intro q f f0 f1 h h0 h1
    by_cases e : m.1.2.2.1.getD f.toNat 0 = m.1.2.1.getD h.toNat 0
    · refine .inr fun g g0 g1 k k0 k1 => ?_
      by_cases e2 : m.1.2.2.1.getD g.toNat 0 = m.1.2.1.getD k.toNat 0
      · exact .inr (q f f0 f1 h h0 h1 e g g0 g1 k k0 k1 e2)
      · exact .inl e2
    · exact .inl e
theorem out_at {c : CategoryD} {x i : Int} (h0 : 0 ≤ i) (h1 : i < (outR c x).length) : 0 ≤ (outR c x).getD i.toNat 0 ∧ (outR c x).getD i.toNat 0 < c.2.1.length ∧ c.2.1.getD ((outR c x).getD i.toNat 0).toNat 0 = x := by
  have := getD_mem (outR c x) 0 h0 h1
  generalize (outR c x).getD i.toNat 0 = y at *
  unfold outR at this
  rw [sel_mem, beq_iff_eq] at this
  exact this
theorem out_all {c : CategoryD} {x : Int} {p : Int → Prop} (h : ∀ i : Int, 0 ≤ i → i < (outR c x).length → p ((outR c x).getD i.toNat 0)) {y : Int} (y0 : 0 ≤ y) (y1 : y < c.2.1.length) (e : c.2.1.getD y.toNat 0 = x) : p y :=
  (all_ix (d := (0 : Int))).2 h y (by unfold outR; rw [sel_mem, beq_iff_eq]; exact ⟨y0, y1, e⟩)
theorem out_len {c : CategoryD} (S : ShapeP c) (x : Int) : (outR c x).length ≤ 40 := Nat.le_trans (sel_len _) S.m

def c_impl_Monoidal_interchanges : Ct := ⟨[(.pt MonoidalT)], [false], fun x => [ShapeP x.1.1, tabR x.1.2.2.1 x.1.1.1 = true, tabR x.1.2.2.2 x.1.1.2.1.length = true], [(false, (.fz .bool))], fun x => (interR x.1, ()), false, none⟩
def W_impl_Monoidal_interchanges (m : MonoidalD) (K : Bool × Unit → Prop) : Prop := (loopW (S := ((Int × Unit) × Unit)) (fun s => (fun next => ((inK IntKind.i64 s.1.1) → (cnd (decide (s.1.1 < (((List.length m.1.2.1) : Nat) : Int))) (((0 : Int) ≤ s.1.1) ∧ ((s.1.1 < (((List.length m.1.2.2.1) : Nat) : Int)) ∧ (((List.length m.1.2.1) ≤ 40) ∧ (loopW (S := ((Unit × (Int × Unit)) × ((List Int) × Unit))) (fun s1 => (fun next1 => ((inK IntKind.i64 s1.1.2.1) → ((T.ok (T.sl (T.int IntKind.i64)) s1.2.1) → (cnd (decide (s1.1.2.1 < (((List.length (outR m.1 (List.getD m.1.2.2.1 (Int.toNat s.1.1) (0 : Int)))) : Nat) : Int))) (((0 : Int) ≤ s1.1.2.1) ∧ ((s1.1.2.1 < (((List.length s1.2.1) : Nat) : Int)) ∧ (loopW (S := ((Unit × (Int × Unit)) × ((List Int) × Unit))) (fun s2 => (fun next2 => ((inK IntKind.i64 s2.1.2.1) → ((T.ok (T.sl (T.int IntKind.i64)) s2.2.1) → (cnd (decide (s2.1.2.1 < (((List.length m.1.2.1) : Nat) : Int))) (((0 : Int) ≤ s2.1.2.1) ∧ ((s2.1.2.1 < (((List.length m.1.2.2.1) : Nat) : Int)) ∧ (((List.length m.1.2.1) ≤ 40) ∧ (loopW (S := ((Unit × (Unit × (Int × Unit))) × ((List Int) × ((List Int) × Unit)))) (fun s3 => (fun next3 => ((inK IntKind.i64 s3.1.2.2.1) → ((T.ok (T.sl (T.int IntKind.i64)) s3.2.1) → ((T.ok (T.sl (T.int IntKind.i64)) s3.2.2.1) → (cnd (decide (s3.1.2.2.1 < (((List.length (outR m.1 (List.getD m.1.2.2.1 (Int.toNat s2.1.2.1) (0 : Int)))) : Nat) : Int))) (((0 : Int) ≤ s3.1.2.2.1) ∧ ((s3.1.2.2.1 < (((List.length s3.2.2.1) : Nat) : Int)) ∧ (((0 : Int) ≤ s.1.1) ∧ ((s.1.1 < (((List.length m.1.2.2.2.2) : Nat) : Int)) ∧ (((0 : Int) ≤ (List.getD s1.2.1 (Int.toNat s1.1.2.1) (0 : Int))) ∧ (((List.getD s1.2.1 (Int.toNat s1.1.2.1) (0 : Int)) < (((List.length (List.getD m.1.2.2.2.2 (Int.toNat s.1.1) ([] : List Int))) : Nat) : Int)) ∧ (((0 : Int) ≤ (compR m.1 s.1.1 (List.getD s1.2.1 (Int.toNat s1.1.2.1) (0 : Int)))) ∧ (((compR m.1 s.1.1 (List.getD s1.2.1 (Int.toNat s1.1.2.1) (0 : Int))) < (((List.length m.2.2.2) : Nat) : Int)) ∧ (((0 : Int) ≤ s2.1.2.1) ∧ ((s2.1.2.1 < (((List.length m.1.2.2.2.2) : Nat) : Int)) ∧ (((0 : Int) ≤ (List.getD s3.2.2.1 (Int.toNat s3.1.2.2.1) (0 : Int))) ∧ (((List.getD s3.2.2.1 (Int.toNat s3.1.2.2.1) (0 : Int)) < (((List.length (List.getD m.1.2.2.2.2 (Int.toNat s2.1.2.1) ([] : List Int))) : Nat) : Int)) ∧ (((0 : Int) ≤ (compR m.1 s2.1.2.1 (List.getD s3.2.2.1 (Int.toNat s3.1.2.2.1) (0 : Int)))) ∧ (((compR m.1 s2.1.2.1 (List.getD s3.2.2.1 (Int.toNat s3.1.2.2.1) (0 : Int))) < (((List.length (List.getD m.2.2.2 (Int.toNat (compR m.1 s.1.1 (List.getD s1.2.1 (Int.toNat s1.1.2.1) (0 : Int)))) ([] : List Int))) : Nat) : Int)) ∧ (((0 : Int) ≤ s.1.1) ∧ ((s.1.1 < (((List.length m.2.2.2) : Nat) : Int)) ∧ (((0 : Int) ≤ s2.1.2.1) ∧ ((s2.1.2.1 < (((List.length (List.getD m.2.2.2 (Int.toNat s.1.1) ([] : List Int))) : Nat) : Int)) ∧ (((0 : Int) ≤ (List.getD s1.2.1 (Int.toNat s1.1.2.1) (0 : Int))) ∧ (((List.getD s1.2.1 (Int.toNat s1.1.2.1) (0 : Int)) < (((List.length m.2.2.2) : Nat) : Int)) ∧ (((0 : Int) ≤ (List.getD s3.2.2.1 (Int.toNat s3.1.2.2.1) (0 : Int))) ∧ (((List.getD s3.2.2.1 (Int.toNat s3.1.2.2.1) (0 : Int)) < (((List.length (List.getD m.2.2.2 (Int.toNat (List.getD s1.2.1 (Int.toNat s1.1.2.1) (0 : Int))) ([] : List Int))) : Nat) : Int)) ∧ (((0 : Int) ≤ (List.getD (List.getD m.2.2.2 (Int.toNat s.1.1) ([] : List Int)) (Int.toNat s2.1.2.1) (0 : Int))) ∧ (((List.getD (List.getD m.2.2.2 (Int.toNat s.1.1) ([] : List Int)) (Int.toNat s2.1.2.1) (0 : Int)) < (((List.length m.1.2.2.2.2) : Nat) : Int)) ∧ (((0 : Int) ≤ (List.getD (List.getD m.2.2.2 (Int.toNat (List.getD s1.2.1 (Int.toNat s1.1.2.1) (0 : Int))) ([] : List Int)) (Int.toNat (List.getD s3.2.2.1 (Int.toNat s3.1.2.2.1) (0 : Int))) (0 : Int))) ∧ (((List.getD (List.getD m.2.2.2 (Int.toNat (List.getD s1.2.1 (Int.toNat s1.1.2.1) (0 : Int))) ([] : List Int)) (Int.toNat (List.getD s3.2.2.1 (Int.toNat s3.1.2.2.1) (0 : Int))) (0 : Int)) < (((List.length (List.getD m.1.2.2.2.2 (Int.toNat (List.getD (List.getD m.2.2.2 (Int.toNat s.1.1) ([] : List Int)) (Int.toNat s2.1.2.1) (0 : Int))) ([] : List Int))) : Nat) : Int)) ∧ (cnd ((List.getD (List.getD m.2.2.2 (Int.toNat (compR m.1 s.1.1 (List.getD s1.2.1 (Int.toNat s1.1.2.1) (0 : Int)))) ([] : List Int)) (Int.toNat (compR m.1 s2.1.2.1 (List.getD s3.2.2.1 (Int.toNat s3.1.2.2.1) (0 : Int)))) (0 : Int)) != (compR m.1 (List.getD (List.getD m.2.2.2 (Int.toNat s.1.1) ([] : List Int)) (Int.toNat s2.1.2.1) (0 : Int)) (List.getD (List.getD m.2.2.2 (Int.toNat (List.getD s1.2.1 (Int.toNat s1.1.2.1) (0 : Int))) ([] : List Int)) (Int.toNat (List.getD s3.2.2.1 (Int.toNat s3.1.2.2.1) (0 : Int))) (0 : Int)))) (K (Bool.false, ())) ((inK IntKind.i64 (s3.1.2.2.1 + (1 : Int))) ∧ (next3 (((), ((), ((s3.1.2.2.1 + (1 : Int)), ()))), (s3.2.1, (s3.2.2.1, ())))))))))))))))))))))))))))))))) ((inK IntKind.i64 (s2.1.2.1 + (1 : Int))) ∧ (next2 (((), ((s2.1.2.1 + (1 : Int)), ())), (s3.2.1, ())))))))))) (((), ((), ((0 : Int), ()))), (s2.2.1, ((outR m.1 (List.getD m.1.2.2.1 (Int.toNat s2.1.2.1) (0 : Int))), ()))))))) ((inK IntKind.i64 (s1.1.2.1 + (1 : Int))) ∧ (next1 (((), ((s1.1.2.1 + (1 : Int)), ())), (s2.2.1, ()))))))))) (((), ((0 : Int), ())), (s1.2.1, ()))))) ((inK IntKind.i64 (s.1.1 + (1 : Int))) ∧ (next (((s.1.1 + (1 : Int)), ()), ())))))))) (((), ((0 : Int), ())), ((outR m.1 (List.getD m.1.2.2.1 (Int.toNat s.1.1) (0 : Int))), ())))))) (K (Bool.true, ())))))) (((0 : Int), ()), ()))
theorem w_impl_Monoidal_interchanges (x : denL c_impl_Monoidal_interchanges.args) (K : Bool × Unit → Prop) : evF tab (lkp [(97, c_impl_Category_outOf), (82, c_impl_Category_then)]) (cutL [(14, 39)]) Try.f119 (bodyOf Try.f119) (.s .n (.s .n (.s (.s .n (.l [(18, (.d (.int .i64)))] [] [0, 3, 17] (.s .n (.s .n (.s (.s .n (.s .n (.l [(29, (.ref 102900 [])), (31, (.d (.int .i64)))] [(102900, (.sl (.fz (.int .i64))))] [0, 3, 4, 17, 18, 30] (.s .n (.s .n (.s (.s .n (.s .n (.l [(29, (.ref 102900 [])), (40, (.d (.int .i64)))] [(102900, (.sl (.fz (.int .i64))))] [0, 3, 4, 6, 17, 18, 30, 31, 39] (.s .n (.s .n (.s (.s .n (.s .n (.l [(29, (.ref 102900 [])), (51, (.ref 105100 [])), (53, (.d (.int .i64)))] [(102900, (.sl (.fz (.int .i64)))), (105100, (.sl (.fz (.int .i64))))] [0, 3, 4, 6, 7, 17, 18, 30, 31, 39, 40, 52] .n))) .n)))))) .n)))))) .n))))) .n))) c_impl_Monoidal_interchanges x K = W_impl_Monoidal_interchanges x.1 K := by kernel_rfl
theorem k_impl_Monoidal_interchanges : okC Try.f119.ntmps (cutL [(14, 39)]) (bodyOf Try.f119) = true := by kernel_rfl
theorem m_impl_Monoidal_interchanges (m : MonoidalD) (hok : allP (okL c_impl_Monoidal_interchanges.args (m, ()))) (hpre : allP (c_impl_Monoidal_interchanges.pre (m, ()))) : W_impl_Monoidal_interchanges m (fun r => r = c_impl_Monoidal_interchanges.res (m, ())) := by
  simp only [c_impl_Monoidal_interchanges, okL, T.oks, T.ok, ap, allP, true_and, and_true, implies_true] at hok hpre
  try dsimp only [T.den] at hok
  try dsimp only [T.den] at hpre
  unfold W_impl_Monoidal_interchanges
  have S : ShapeP m.1 := hpre.1
  have A := tab_at hpre.2.2
  have hlt := S.lt
  have hlc := S.lc
  have hmm := S.m
  have bad : ¬ (interR m = true) → (false, ()) = c_impl_Monoidal_interchanges.res (m, ()) := fun h => by
    simp only [c_impl_Monoidal_interchanges]
    cases hs : interR m with
    | false => rfl
    | true => exact absurd hs h
  have hat : ∀ i j : Int, (m.2.2.2.getD i.toNat []).getD j.toNat 0 = atR m.2.2.2 i j := fun _ _ => rfl
  simp only [hat]
  have key : ∀ f h g k : Int, Prop := fun f h g k => atR m.2.2.2 (compR m.1 f h) (compR m.1 g k) = compR m.1 (atR m.2.2.2 f g) (atR m.2.2.2 h k)
  refine loop_ix (n := m.1.2.1.length) (fun f => ∀ f' : Int, 0 ≤ f' → f' < f → ∀ h : Int, 0 ≤ h → h < m.1.2.1.length → m.1.2.2.1.getD f'.toNat 0 = m.1.2.1.getD h.toNat 0 → ∀ g : Int, 0 ≤ g → g < m.1.2.1.length → ∀ k : Int, 0 ≤ k → k < m.1.2.1.length → m.1.2.2.1.getD g.toNat 0 = m.1.2.1.getD k.toNat 0 →
    atR m.2.2.2 (compR m.1 f' h) (compR m.1 g k) = compR m.1 (atR m.2.2.2 f' g) (atR m.2.2.2 h k)) (by omega) (by intro y h0 h1; omega) ?_ ?_
  · intro f next f0 f1 hP hn hin
    try dsimp only
    have rf := S.row f f0 f1
    have raf := A.2.1 f f0 f1
    have lo := out_len S (m.1.2.2.1.getD f.toNat 0)
    refine cnd_d (fun _ => ⟨f0, by omega, hmm, ?_⟩) (fun h => absurd f1 h)
    refine loop_ix1 (n := (outR m.1 (m.1.2.2.1.getD f.toNat 0)).length) (fun i => ∀ i' : Int, 0 ≤ i' → i' < i → ∀ g : Int, 0 ≤ g → g < m.1.2.1.length → ∀ k : Int, 0 ≤ k → k < m.1.2.1.length → m.1.2.2.1.getD g.toNat 0 = m.1.2.1.getD k.toNat 0 →
      atR m.2.2.2 (compR m.1 f ((outR m.1 (m.1.2.2.1.getD f.toNat 0)).getD i'.toNat 0)) (compR m.1 g k) = compR m.1 (atR m.2.2.2 f g) (atR m.2.2.2 ((outR m.1 (m.1.2.2.1.getD f.toNat 0)).getD i'.toNat 0) k)) (by omega) (by intro y h0 h1; omega) ?_ ?_
    · intro i next2 i0 i1 hP2 hn2 _ _
      try dsimp only
      have oh := out_at i0 i1
      refine cnd_d (fun _ => ⟨i0, i1, ?_⟩) (fun h => absurd i1 h)
      generalize hh : (outR m.1 (m.1.2.2.1.getD f.toNat 0)).getD i.toNat 0 = h at oh ⊢
      have yfh := S.yes f0 f1 oh.1 oh.2.1 oh.2.2.symm
      have rah := A.2.1 h oh.1 oh.2.1
      have raz := A.2.1 _ yfh.1 yfh.2.1
      generalize (outR m.1 (m.1.2.2.1.getD f.toNat 0)) = out at *
      refine loop_ix1 (n := m.1.2.1.length) (fun g => ∀ g' : Int, 0 ≤ g' → g' < g → ∀ k : Int, 0 ≤ k → k < m.1.2.1.length → m.1.2.2.1.getD g'.toNat 0 = m.1.2.1.getD k.toNat 0 →
        atR m.2.2.2 (compR m.1 f h) (compR m.1 g' k) = compR m.1 (atR m.2.2.2 f g') (atR m.2.2.2 h k)) (by omega) (by intro y h0 h1; omega) ?_ ?_
      · intro g next3 g0 g1 hP3 hn3 _ _
        try dsimp only
        have rg := S.row g g0 g1
        have afg := A.2.2 f g f0 f1 g0 g1
        have rcf := S.row _ afg.1 afg.2
        have lo2 := out_len S (m.1.2.2.1.getD g.toNat 0)
        refine cnd_d (fun _ => ⟨g0, by omega, hmm, ?_⟩) (fun h => absurd g1 h)
        refine loop_of (fun (s3 : ((Unit × (Unit × (Int × Unit))) × ((List Int) × ((List Int) × Unit)))) => s3.2.1 = out ∧ s3.2.2.1 = outR m.1 (m.1.2.2.1.getD g.toNat 0) ∧ 0 ≤ s3.1.2.2.1 ∧ s3.1.2.2.1 ≤ (outR m.1 (m.1.2.2.1.getD g.toNat 0)).length ∧ ∀ j : Int, 0 ≤ j → j < s3.1.2.2.1 →
          atR m.2.2.2 (compR m.1 f h) (compR m.1 g ((outR m.1 (m.1.2.2.1.getD g.toNat 0)).getD j.toNat 0)) = compR m.1 (atR m.2.2.2 f g) (atR m.2.2.2 h ((outR m.1 (m.1.2.2.1.getD g.toNat 0)).getD j.toNat 0))) (fun (s3 : ((Unit × (Unit × (Int × Unit))) × ((List Int) × ((List Int) × Unit)))) => ((outR m.1 (m.1.2.2.1.getD g.toNat 0)).length - s3.1.2.2.1).toNat) ?_ ⟨rfl, rfl, by simp, by simp, fun j j0 j1 => by dsimp only at j1; omega⟩
        rintro ⟨⟨_, _, j, _⟩, l1, l2, _⟩ next4 ⟨rfl, rfl, j0, j1, hP4⟩ hn4 _ _ _
        try dsimp only at j0 j1 hP4 hn4 hh hn2 hP2 ⊢
        refine cnd_d (fun hj => ?_) (fun hj => ⟨by rw [inK64]; (try dsimp only); omega, hn3 fun g' a0 a1 => ?_⟩)
        · have ok := out_at j0 hj
          generalize hk : (outR m.1 (m.1.2.2.1.getD g.toNat 0)).getD j.toNat 0 = k at ok ⊢
          have ygk := S.yes g0 g1 ok.1 ok.2.1 ok.2.2.symm
          have ahk := A.2.2 h k oh.1 oh.2.1 ok.1 ok.2.1
          refine ⟨j0, hj, f0, by omega, oh.1, by omega, yfh.1, by omega, g0, by omega, ok.1, by omega, ygk.1, by omega, f0, by omega, g0, by omega, oh.1, by omega, ok.1, by omega, afg.1, by omega, ahk.1, by omega, cnd_of (fun hx => bad fun q => ?_) (fun hx => ⟨by rw [inK64]; (try dsimp only); omega, hn4 _ ⟨rfl, rfl, (by first | omega | (dsimp only; omega)), (by first | omega | (dsimp only; omega)), fun j' a0 a1 => ?_⟩ (by first | omega | (dsimp only; omega))⟩)⟩
          · rw [inter_iff.1 q f f0 f1 h oh.1 oh.2.1 oh.2.2.symm g g0 g1 k ok.1 ok.2.1 ok.2.2.symm] at hx; simp at hx
          · by_cases e : j' = j
            · rw [e, hk]; simpa using hx
            · exact hP4 j' a0 (by dsimp only at a1; omega)
        · by_cases e : g' = g
          · rw [e]
            intro k k0 k1 ek
            exact out_all (p := fun k => atR m.2.2.2 (compR m.1 f h) (compR m.1 g k) = compR m.1 (atR m.2.2.2 f g) (atR m.2.2.2 h k)) (fun j' a0 a1 => hP4 j' a0 (by omega)) k0 k1 ek.symm
          · exact hP3 g' a0 (by omega)
      · intro next3 hP3 _ _
        refine cnd_d (fun h => absurd h (by dsimp only; omega)) (fun _ => ⟨by rw [inK64]; (try dsimp only); omega, hn2 fun i' a0 a1 => ?_⟩)
        by_cases e : i' = i
        · rw [e, hh]; exact hP3
        · exact hP2 i' a0 (by omega)
    · intro next2 hP2 _ _
      refine cnd_d (fun h => absurd h (by dsimp only; omega)) (fun _ => ⟨by rw [inK64]; (try dsimp only); omega, hn fun f' a0 a1 => ?_⟩)
      by_cases e : f' = f
      · rw [e]
        intro h h0 h1 eh
        exact out_all (p := fun h => ∀ g : Int, 0 ≤ g → g < m.1.2.1.length → ∀ k : Int, 0 ≤ k → k < m.1.2.1.length → m.1.2.2.1.getD g.toNat 0 = m.1.2.1.getD k.toNat 0 → atR m.2.2.2 (compR m.1 f h) (compR m.1 g k) = compR m.1 (atR m.2.2.2 f g) (atR m.2.2.2 h k)) hP2 h0 h1 eh.symm
      · exact hP f' a0 (by omega)
  · intro next hP hin
    refine cnd_d (fun h => absurd h (by dsimp only; omega)) (fun _ => ?_)
    simp only [c_impl_Monoidal_interchanges]
    rw [inter_iff.2 hP]
theorem ct_impl_Monoidal_interchanges : CtOk Try.prog 119 c_impl_Monoidal_interchanges :=
  ct_by (Φ := lkp [(97, c_impl_Category_outOf), (82, c_impl_Category_then)]) (good_cons ct_impl_Category_outOf (good_cons ct_impl_Category_then good_nil)) tab_ok (by kernel_rfl) (fn := Try.f119) (c := bodyOf Try.f119) (by kernel_rfl) (by kernel_rfl) (by kernel_rfl) c_impl_Monoidal_interchanges rfl (.s .n (.s .n (.s (.s .n (.l [(18, (.d (.int .i64)))] [] [0, 3, 17] (.s .n (.s .n (.s (.s .n (.s .n (.l [(29, (.ref 102900 [])), (31, (.d (.int .i64)))] [(102900, (.sl (.fz (.int .i64))))] [0, 3, 4, 17, 18, 30] (.s .n (.s .n (.s (.s .n (.s .n (.l [(29, (.ref 102900 [])), (40, (.d (.int .i64)))] [(102900, (.sl (.fz (.int .i64))))] [0, 3, 4, 6, 17, 18, 30, 31, 39] (.s .n (.s .n (.s (.s .n (.s .n (.l [(29, (.ref 102900 [])), (51, (.ref 105100 [])), (53, (.d (.int .i64)))] [(102900, (.sl (.fz (.int .i64)))), (105100, (.sl (.fz (.int .i64))))] [0, 3, 4, 6, 7, 17, 18, 30, 31, 39, 40, 52] .n))) .n)))))) .n)))))) .n))))) .n))) (cutL [(14, 39)]) (by kernel_rfl) (by kernel_rfl) k_impl_Monoidal_interchanges (by decide) (fun x K => W_impl_Monoidal_interchanges x.1 K) w_impl_Monoidal_interchanges (fun x h1 h2 => m_impl_Monoidal_interchanges x.1 h1 h2)
def implyR (c : CategoryD) (x : Int) (s t : List Int) : List Int := (outR c x).filter fun a => (outR c (c.2.2.1.getD a.toNat 0)).all fun b => !hasR s (compR c a b) || hasR t (compR c a b)

def c_impl_Category_imply : Ct := ⟨[(.pt CategoryT), (.int .i64), (.sl (.int .i64)), (.sl (.int .i64))], [false, false, false, false], fun x => [ShapeP x.1], [(false, (.sl (.fz (.int .i64))))], fun x => (implyR x.1 x.2.1 x.2.2.1 x.2.2.2.1, ()), false, none⟩
def W_impl_Category_imply (c : CategoryD) (x : Int) (s : List Int) (t : List Int) (K : (List Int) × Unit → Prop) : Prop := (((List.length c.2.1) ≤ 40) ∧ (loopW (S := ((Unit × (Int × Unit)) × ((List Int) × Unit))) (fun s1 => (fun next => ((inK IntKind.i64 s1.1.2.1) → ((T.ok (T.sl (T.int IntKind.i64)) s1.2.1) → (cnd (decide (s1.1.2.1 < (((List.length (outR c x)) : Nat) : Int))) (joinW (S := ((Unit × Unit) × ((List Int) × Unit))) (fun s2 => ((T.ok (T.sl (T.int IntKind.i64)) s2.2.1) → ((inK IntKind.i64 (s1.1.2.1 + (1 : Int))) ∧ (next (((), ((s1.1.2.1 + (1 : Int)), ())), (s2.2.1, ())))))) (fun k => (((0 : Int) ≤ s1.1.2.1) ∧ ((s1.1.2.1 < (((List.length (outR c x)) : Nat) : Int)) ∧ (((0 : Int) ≤ (List.getD (outR c x) (Int.toNat s1.1.2.1) (0 : Int))) ∧ (((List.getD (outR c x) (Int.toNat s1.1.2.1) (0 : Int)) < (((List.length c.2.2.1) : Nat) : Int)) ∧ (((List.length c.2.1) ≤ 40) ∧ (loopW (S := ((Unit × (Int × Unit)) × ((List Int) × Unit))) (fun s2 => (fun next1 => ((inK IntKind.i64 s2.1.2.1) → ((T.ok (T.sl (T.int IntKind.i64)) s2.2.1) → (cnd (decide (s2.1.2.1 < (((List.length (outR c (List.getD c.2.2.1 (Int.toNat (List.getD (outR c x) (Int.toNat s1.1.2.1) (0 : Int))) (0 : Int)))) : Nat) : Int))) (((0 : Int) ≤ s2.1.2.1) ∧ ((s2.1.2.1 < (((List.length (outR c (List.getD c.2.2.1 (Int.toNat (List.getD (outR c x) (Int.toNat s1.1.2.1) (0 : Int))) (0 : Int)))) : Nat) : Int)) ∧ (((0 : Int) ≤ (List.getD (outR c x) (Int.toNat s1.1.2.1) (0 : Int))) ∧ (((List.getD (outR c x) (Int.toNat s1.1.2.1) (0 : Int)) < (((List.length c.2.2.2.2) : Nat) : Int)) ∧ (((0 : Int) ≤ (List.getD (outR c (List.getD c.2.2.1 (Int.toNat (List.getD (outR c x) (Int.toNat s1.1.2.1) (0 : Int))) (0 : Int))) (Int.toNat s2.1.2.1) (0 : Int))) ∧ (((List.getD (outR c (List.getD c.2.2.1 (Int.toNat (List.getD (outR c x) (Int.toNat s1.1.2.1) (0 : Int))) (0 : Int))) (Int.toNat s2.1.2.1) (0 : Int)) < (((List.length (List.getD c.2.2.2.2 (Int.toNat (List.getD (outR c x) (Int.toNat s1.1.2.1) (0 : Int))) ([] : List Int))) : Nat) : Int)) ∧ (cnd ((hasR s (compR c (List.getD (outR c x) (Int.toNat s1.1.2.1) (0 : Int)) (List.getD (outR c (List.getD c.2.2.1 (Int.toNat (List.getD (outR c x) (Int.toNat s1.1.2.1) (0 : Int))) (0 : Int))) (Int.toNat s2.1.2.1) (0 : Int)))) && (!(hasR t (compR c (List.getD (outR c x) (Int.toNat s1.1.2.1) (0 : Int)) (List.getD (outR c (List.getD c.2.2.1 (Int.toNat (List.getD (outR c x) (Int.toNat s1.1.2.1) (0 : Int))) (0 : Int))) (Int.toNat s2.1.2.1) (0 : Int)))))) (k (((), ()), (s2.2.1, ()))) ((inK IntKind.i64 (s2.1.2.1 + (1 : Int))) ∧ (next1 (((), ((s2.1.2.1 + (1 : Int)), ())), (s2.2.1, ()))))))))))) ((room (List.length s2.2.1) (List.length ((List.getD (outR c x) (Int.toNat s1.1.2.1) (0 : Int)) :: ([] : List Int))) 8) ∧ (k (((), ()), ((s2.2.1 ++ ((List.getD (outR c x) (Int.toNat s1.1.2.1) (0 : Int)) :: ([] : List Int))), ()))))))))) (((), ((0 : Int), ())), (s1.2.1, ())))))))))) (K (s1.2.1, ()))))))) (((), ((0 : Int), ())), (([] : List Int), ()))))
theorem w_impl_Category_imply (x : denL c_impl_Category_imply.args) (K : (List Int) × Unit → Prop) : evF tab (lkp [(97, c_impl_Category_outOf), (82, c_impl_Category_then), (104, c_impl_has)]) (cutL []) Try.f70 (bodyOf Try.f70) (.s .n (.s .n (.s .n (.s (.s .n (.l [(9, (.ref 800009 [])), (20, (.d (.int .i64)))] [(800009, (.sl (.fz (.int .i64))))] [0, 2, 3, 18, 19] (.s .n (.s .n (.s (.j [(9, (.ref 800009 []))] [(800009, (.sl (.fz (.int .i64))))] [0, 2, 3, 18, 19, 20] (.s .n (.s (.s .n (.l [(9, (.ref 800009 [])), (34, (.d (.int .i64)))] [(800009, (.sl (.fz (.int .i64))))] [0, 2, 3, 11, 18, 19, 20, 32, 33] .n)) .n))) .n))))) .n)))) c_impl_Category_imply x K = W_impl_Category_imply x.1 x.2.1 x.2.2.1 x.2.2.2.1 K := by kernel_rfl
theorem k_impl_Category_imply : okC Try.f70.ntmps (cutL []) (bodyOf Try.f70) = true := by kernel_rfl
theorem m_impl_Category_imply (c : CategoryD) (x : Int) (s : List Int) (t : List Int) (hok : allP (okL c_impl_Category_imply.args (c, x, s, t, ()))) (hpre : allP (c_impl_Category_imply.pre (c, x, s, t, ()))) : W_impl_Category_imply c x s t (fun r => r = c_impl_Category_imply.res (c, x, s, t, ())) := by
  simp only [c_impl_Category_imply, okL, T.oks, T.ok, ap, allP, true_and, and_true, implies_true] at hok hpre
  try dsimp only [T.den] at hok
  try dsimp only [T.den] at hpre
  unfold W_impl_Category_imply
  have S : ShapeP c := hpre
  have hlt := S.lt
  have hlc := S.lc
  have hmm := S.m
  have hol := out_len S
  have hoa := @out_at c
  refine ⟨hmm, ?_⟩
  simp only [c_impl_Category_imply, implyR]
  generalize hq : (fun a => (outR c (c.2.2.1.getD a.toNat 0)).all fun b => !hasR s (compR c a b) || hasR t (compR c a b)) = q
  refine loop_ixa (filT q (outR c x)) (n := (outR c x).length) (by omega) rfl ?_ ?_
  · intro i next i0 i1 hn _ _
    have hfl := @fil_len q (outR c x) i
    have hox := hol x
    obtain ⟨a0, a1, _⟩ := hoa i0 i1
    try dsimp only
    refine cnd_d (fun _ => join_of (fun s1 => s1.2.1 = filT q (outR c x) (i + 1)) (fun s1 hs _ => ⟨by rw [inK64]; (try dsimp only); omega, by rw [hs]; exact hn⟩) (fun k hk => ⟨i0, i1, a0, by omega, hmm, ?_⟩)) (fun h => absurd i1 h)
    have ht := @fil_t q (outR c x) i i0 i1
    have hf := @fil_f q (outR c x) i i0 i1
    have hrow := S.row _ a0 a1
    generalize (outR c x).getD i.toNat 0 = a at *
    have hoy := hol (c.2.2.1.getD a.toNat 0)
    have hob := @out_at c (c.2.2.1.getD a.toNat 0)
    have hqa : q a = (outR c (c.2.2.1.getD a.toNat 0)).all fun b => !hasR s (compR c a b) || hasR t (compR c a b) := by rw [← hq]
    generalize outR c (c.2.2.1.getD a.toNat 0) = l at *
    refine loop_ix1 (n := l.length) (fun j => (l.take j.toNat).all (fun b => !hasR s (compR c a b) || hasR t (compR c a b)) = true) (by omega) (by simp) ?_ ?_
    · intro j next2 j0 j1 hP hn2 _ _
      have hat := @all_take Int (fun b => !hasR s (compR c a b) || hasR t (compR c a b)) l 0 j j0 j1
      rw [hP, Bool.true_and] at hat
      rw [hat] at hn2
      have hbad : (!hasR s (compR c a (l.getD j.toNat 0)) || hasR t (compR c a (l.getD j.toNat 0))) = false → q a = false := fun h => by
        rw [hqa, List.all_eq_false]; exact ⟨_, getD_mem l 0 j0 j1, by rw [h]; simp⟩
      obtain ⟨b0, b1, _⟩ := hob j0 j1
      try dsimp only
      refine cnd_d (fun _ => ⟨j0, j1, a0, by omega, b0, by omega, cnd_of (fun he => hk _ (hf (hbad ((by decide : ∀ p q : Bool, (p && !q) = true → (!p || q) = false) _ _ he))).symm) (fun he => ⟨by rw [inK64]; (try dsimp only); omega, hn2 ((by decide : ∀ p q : Bool, (p && !q) = false → (!p || q) = true) _ _ he)⟩)⟩) (fun h => absurd j1 h)
    · intro next2 hP _ _
      rw [take_n _ (Int.le_refl _), ← hqa] at hP
      refine cnd_d (fun h => absurd h (by dsimp only; omega)) (fun _ => ⟨room_of (by simp only [List.length_cons, List.length_nil]; omega), hk _ (ht hP).symm⟩)
  · intro next _ _
    refine cnd_d (fun h => absurd h (by dsimp only; omega)) (fun _ => ?_)
    rw [fil_n (Int.le_refl _)]
theorem ct_impl_Category_imply : CtOk Try.prog 70 c_impl_Category_imply :=
  ct_by (Φ := lkp [(97, c_impl_Category_outOf), (82, c_impl_Category_then), (104, c_impl_has)]) (good_cons ct_impl_Category_outOf (good_cons ct_impl_Category_then (good_cons ct_impl_has good_nil))) tab_ok (by kernel_rfl) (fn := Try.f70) (c := bodyOf Try.f70) (by kernel_rfl) (by kernel_rfl) (by kernel_rfl) c_impl_Category_imply rfl (.s .n (.s .n (.s .n (.s (.s .n (.l [(9, (.ref 800009 [])), (20, (.d (.int .i64)))] [(800009, (.sl (.fz (.int .i64))))] [0, 2, 3, 18, 19] (.s .n (.s .n (.s (.j [(9, (.ref 800009 []))] [(800009, (.sl (.fz (.int .i64))))] [0, 2, 3, 18, 19, 20] (.s .n (.s (.s .n (.l [(9, (.ref 800009 [])), (34, (.d (.int .i64)))] [(800009, (.sl (.fz (.int .i64))))] [0, 2, 3, 11, 18, 19, 20, 32, 33] .n)) .n))) .n))))) .n)))) (cutL []) (by kernel_rfl) (by kernel_rfl) k_impl_Category_imply (by decide) (fun x K => W_impl_Category_imply x.1 x.2.1 x.2.2.1 x.2.2.2.1 K) w_impl_Category_imply (fun x h1 h2 => m_impl_Category_imply x.1 x.2.1 x.2.2.1 x.2.2.2.1 h1 h2)
def risesR (l : List Int) : Bool := allB l.length fun i => decide (1 ≤ i → l.getD (i - 1).toNat 0 < l.getD i.toNat 0)
theorem rises_iff {l : List Int} : risesR l = true ↔ ∀ i : Int, 1 ≤ i → i < l.length → l.getD (i - 1).toNat 0 < l.getD i.toNat 0 := by
  simp only [risesR, allB_iff, decide_eq_true_eq]
  constructor
  · intro h i h1 h2; exact h i (by omega) h2 h1
  · intro h i h0 h1 h2; exact h i h2 h1


def c_impl_rising : Ct := ⟨[(.sl (.int .i64))], [false], fun x => [], [(false, (.fz .bool))], fun x => (risesR x.1, ()), false, none⟩
def W_impl_rising (list : List Int) (K : Bool × Unit → Prop) : Prop := (loopW (S := ((Int × Unit) × Unit)) (fun s => (fun next => ((inK IntKind.i64 s.1.1) → (cnd (decide (s.1.1 < (((List.length list) : Nat) : Int))) ((inK IntKind.i64 (s.1.1 - (1 : Int))) ∧ (((0 : Int) ≤ (s.1.1 - (1 : Int))) ∧ (((s.1.1 - (1 : Int)) < (((List.length list) : Nat) : Int)) ∧ (((0 : Int) ≤ s.1.1) ∧ ((s.1.1 < (((List.length list) : Nat) : Int)) ∧ (cnd (decide ((List.getD list (Int.toNat s.1.1) (0 : Int)) ≤ (List.getD list (Int.toNat (s.1.1 - (1 : Int))) (0 : Int)))) (K (Bool.false, ())) ((inK IntKind.i64 (s.1.1 + (1 : Int))) ∧ (next (((s.1.1 + (1 : Int)), ()), ()))))))))) (K (Bool.true, ())))))) (((1 : Int), ()), ()))
theorem w_impl_rising (x : denL c_impl_rising.args) (K : Bool × Unit → Prop) : evF tab (lkp []) (cutL [(4, 10)]) Try.f103 (bodyOf Try.f103) (.s .n (.s (.s .n (.l [(3, (.d (.int .i64)))] [] [0] .n)) .n)) c_impl_rising x K = W_impl_rising x.1 K := by kernel_rfl
theorem k_impl_rising : okC Try.f103.ntmps (cutL [(4, 10)]) (bodyOf Try.f103) = true := by kernel_rfl
theorem m_impl_rising (list : List Int) (hok : allP (okL c_impl_rising.args (list, ()))) (hpre : allP (c_impl_rising.pre (list, ()))) : W_impl_rising list (fun r => r = c_impl_rising.res (list, ())) := by
  simp only [c_impl_rising, okL, T.oks, T.ok, ap, allP, true_and, and_true, implies_true] at hok hpre
  try dsimp only [T.den] at hok
  try dsimp only [T.den] at hpre
  unfold W_impl_rising
  have bad : ∀ i : Int, 1 ≤ i → i < list.length → list.getD i.toNat 0 ≤ list.getD (i - 1).toNat 0 → (false, ()) = c_impl_rising.res (list, ()) := fun i h1 h2 h3 => by
    simp only [c_impl_rising]
    cases h : risesR list with
    | false => rfl
    | true => have := rises_iff.1 h i h1 h2; omega
  refine loop_of (fun (s : ((Int × Unit) × Unit)) => 1 ≤ s.1.1 ∧ (s.1.1 ≤ list.length ∨ s.1.1 = 1) ∧ ∀ j : Int, 1 ≤ j → j < s.1.1 → list.getD (j - 1).toNat 0 < list.getD j.toNat 0) (fun (s : ((Int × Unit) × Unit)) => (list.length - s.1.1).toNat) ?_ ⟨by simp, by simp, fun j h1 h2 => by dsimp only at h2; omega⟩
  rintro ⟨⟨i, _⟩, _⟩ next ⟨h0, h1, h2⟩ hn hin
  try dsimp only at h0 h1 h2 hn ⊢
  have hin' : inK .i64 i := hin
  rw [inK64] at hin'
  have hl := hok.1
  rw [nb_eq] at hl
  refine cnd_d (fun hc => ⟨by rw [inK64]; (try dsimp only); omega, by omega, by omega, by omega, by omega, cnd_d (fun hx => bad i h0 hc hx) (fun hx => ⟨by rw [inK64]; (try dsimp only); omega, hn _ ⟨by dsimp only; omega, by dsimp only; omega, fun j j0 j1 => ?_⟩ (by dsimp only; omega)⟩)⟩) (fun hc => ?_)
  · by_cases e : j = i
    · rw [e]; omega
    · exact h2 j j0 (by dsimp only at j1; omega)
  · simp only [c_impl_rising]
    rw [rises_iff.2 fun j j0 j1 => h2 j j0 (by omega)]
theorem ct_impl_rising : CtOk Try.prog 103 c_impl_rising :=
  ct_by (Φ := lkp []) good_nil tab_ok (by kernel_rfl) (fn := Try.f103) (c := bodyOf Try.f103) (by kernel_rfl) (by kernel_rfl) (by kernel_rfl) c_impl_rising rfl (.s .n (.s (.s .n (.l [(3, (.d (.int .i64)))] [] [0] .n)) .n)) (cutL [(4, 10)]) (by kernel_rfl) (by kernel_rfl) k_impl_rising (by decide) (fun x K => W_impl_rising x.1 K) w_impl_rising (fun x h1 h2 => m_impl_rising x.1 h1 h2)
/-- are these the arrows of a sieve on x? -/
def sieveR (c : CategoryD) (x : Int) (l : List Int) : Bool := risesR l && withinR l c.2.1.length && l.all fun a => c.2.1.getD a.toNat 0 == x && allB c.2.1.length fun b => !(c.2.2.1.getD a.toNat 0 == c.2.1.getD b.toNat 0) || hasR l (compR c a b)
theorem sieve_iff {c : CategoryD} {x : Int} {l : List Int} : sieveR c x l = true ↔ risesR l = true ∧ withinR l c.2.1.length = true ∧ ∀ i : Int, 0 ≤ i → i < l.length →
    c.2.1.getD (l.getD i.toNat 0).toNat 0 = x ∧ ∀ b : Int, 0 ≤ b → b < c.2.1.length → c.2.2.1.getD (l.getD i.toNat 0).toNat 0 = c.2.1.getD b.toNat 0 → hasR l (compR c (l.getD i.toNat 0) b) = true := by
  simp only [sieveR, Bool.and_eq_true, List.all_eq_true, allB_iff, beq_iff_eq, Bool.or_eq_true, Bool.not_eq_true', beq_eq_false_iff_ne, and_assoc]
  have h := @all_ix Int 0 l (fun a => c.2.1.getD a.toNat 0 = x ∧ ∀ b : Int, 0 ≤ b → b < c.2.1.length → c.2.2.1.getD a.toNat 0 = c.2.1.getD b.toNat 0 → hasR l (compR c a b) = true)
  rw [← h]
  constructor
  · rintro ⟨h1, h2, h3⟩
    exact ⟨h1, h2, fun a ha => ⟨(h3 a ha).1, fun b b0 b1 e => ((h3 a ha).2 b b0 b1).resolve_left (fun hne => hne e)⟩⟩
  · rintro ⟨h1, h2, h3⟩
    refine ⟨h1, h2, fun a ha => ⟨(h3 a ha).1, fun b b0 b1 => ?_⟩⟩
    by_cases e : c.2.2.1.getD a.toNat 0 = c.2.1.getD b.toNat 0
    · exact .inr ((h3 a ha).2 b b0 b1 e)
    · exact .inl e

def c_impl_Category_isSieve : Ct := ⟨[(.pt CategoryT), (.int .i64), (.sl (.int .i64))], [false, false, false], fun x => [ShapeP x.1], [(false, (.fz .bool))], fun x => (sieveR x.1 x.2.1 x.2.2.1, ()), false, none⟩
def W_impl_Category_isSieve (c : CategoryD) (x : Int) (list : List Int) (K : Bool × Unit → Prop) : Prop := ((((!(risesR list)) = Bool.false) → (inK IntKind.i64 ((((List.length c.2.1) : Nat) : Int) - (1 : Int)))) ∧ (cnd ((!(risesR list)) || (!(withinR list (((List.length c.2.1) : Nat) : Int)))) (K (Bool.false, ())) (loopW (S := ((Int × Unit) × Unit)) (fun s => (fun next => ((inK IntKind.i64 s.1.1) → (cnd (decide (s.1.1 < (((List.length list) : Nat) : Int))) (((0 : Int) ≤ s.1.1) ∧ ((s.1.1 < (((List.length list) : Nat) : Int)) ∧ (((0 : Int) ≤ (List.getD list (Int.toNat s.1.1) (0 : Int))) ∧ (((List.getD list (Int.toNat s.1.1) (0 : Int)) < (((List.length c.2.1) : Nat) : Int)) ∧ (cnd ((List.getD c.2.1 (Int.toNat (List.getD list (Int.toNat s.1.1) (0 : Int))) (0 : Int)) != x) (K (Bool.false, ())) (((0 : Int) ≤ (List.getD list (Int.toNat s.1.1) (0 : Int))) ∧ (((List.getD list (Int.toNat s.1.1) (0 : Int)) < (((List.length c.2.2.1) : Nat) : Int)) ∧ (((List.length c.2.1) ≤ 40) ∧ (loopW (S := ((Unit × (Int × Unit)) × ((List Int) × Unit))) (fun s1 => (fun next1 => ((inK IntKind.i64 s1.1.2.1) → ((T.ok (T.sl (T.int IntKind.i64)) s1.2.1) → (cnd (decide (s1.1.2.1 < (((List.length (outR c (List.getD c.2.2.1 (Int.toNat (List.getD list (Int.toNat s.1.1) (0 : Int))) (0 : Int)))) : Nat) : Int))) (((0 : Int) ≤ s1.1.2.1) ∧ ((s1.1.2.1 < (((List.length s1.2.1) : Nat) : Int)) ∧ (((0 : Int) ≤ (List.getD list (Int.toNat s.1.1) (0 : Int))) ∧ (((List.getD list (Int.toNat s.1.1) (0 : Int)) < (((List.length c.2.2.2.2) : Nat) : Int)) ∧ (((0 : Int) ≤ (List.getD s1.2.1 (Int.toNat s1.1.2.1) (0 : Int))) ∧ (((List.getD s1.2.1 (Int.toNat s1.1.2.1) (0 : Int)) < (((List.length (List.getD c.2.2.2.2 (Int.toNat (List.getD list (Int.toNat s.1.1) (0 : Int))) ([] : List Int))) : Nat) : Int)) ∧ (cnd (!(hasR list (compR c (List.getD list (Int.toNat s.1.1) (0 : Int)) (List.getD s1.2.1 (Int.toNat s1.1.2.1) (0 : Int))))) (K (Bool.false, ())) ((inK IntKind.i64 (s1.1.2.1 + (1 : Int))) ∧ (next1 (((), ((s1.1.2.1 + (1 : Int)), ())), (s1.2.1, ()))))))))))) ((inK IntKind.i64 (s.1.1 + (1 : Int))) ∧ (next (((s.1.1 + (1 : Int)), ()), ())))))))) (((), ((0 : Int), ())), ((outR c (List.getD c.2.2.1 (Int.toNat (List.getD list (Int.toNat s.1.1) (0 : Int))) (0 : Int))), ()))))))))))) (K (Bool.true, ())))))) (((0 : Int), ()), ()))))
theorem w_impl_Category_isSieve (x : denL c_impl_Category_isSieve.args) (K : Bool × Unit → Prop) : evF tab (lkp [(60, c_impl_Category_arrows), (97, c_impl_Category_outOf), (82, c_impl_Category_then), (104, c_impl_has), (103, c_impl_rising), (81, c_impl_within)]) (cutL []) Try.f66 (bodyOf Try.f66) (.s .n (.s .n (.s (.s .n (.l [(23, (.d (.int .i64)))] [] [0, 1, 2, 21, 22] (.s .n (.s .n (.s (.s .n (.s .n (.s .n (.l [(44, (.ref 104400 [])), (46, (.d (.int .i64)))] [(104400, (.sl (.fz (.int .i64))))] [0, 1, 2, 8, 21, 22, 23, 45] .n)))) .n))))) .n))) c_impl_Category_isSieve x K = W_impl_Category_isSieve x.1 x.2.1 x.2.2.1 K := by kernel_rfl
theorem k_impl_Category_isSieve : okC Try.f66.ntmps (cutL []) (bodyOf Try.f66) = true := by kernel_rfl
theorem m_impl_Category_isSieve (c : CategoryD) (x : Int) (list : List Int) (hok : allP (okL c_impl_Category_isSieve.args (c, x, list, ()))) (hpre : allP (c_impl_Category_isSieve.pre (c, x, list, ()))) : W_impl_Category_isSieve c x list (fun r => r = c_impl_Category_isSieve.res (c, x, list, ())) := by
  simp only [c_impl_Category_isSieve, okL, T.oks, T.ok, ap, allP, true_and, and_true, implies_true] at hok hpre
  try dsimp only [T.den] at hok
  try dsimp only [T.den] at hpre
  unfold W_impl_Category_isSieve
  have S : ShapeP c := hpre
  have hlt := S.lt
  have hlc := S.lc
  have hmm := S.m
  have hll : list.length ≤ 140737488355328 := by simp only [nb_eq] at hok; omega
  have bad : ¬ (sieveR c x list = true) → (false, ()) = c_impl_Category_isSieve.res (c, x, list, ()) := fun h => by
    simp only [c_impl_Category_isSieve]
    cases hs : sieveR c x list with
    | false => rfl
    | true => exact absurd hs h
  refine ⟨fun _ => by rw [inK64]; (try dsimp only); omega, cnd_of (fun hc => bad fun h => ?_) (fun hc => ?_)⟩
  · have := sieve_iff.1 h
    rw [this.1, this.2.1] at hc; cases hc
  simp only [Bool.or_eq_false_iff, Bool.not_eq_false'] at hc
  refine loop_ix (n := list.length) (fun i => ∀ j : Int, 0 ≤ j → j < i → c.2.1.getD (list.getD j.toNat 0).toNat 0 = x ∧ ∀ b : Int, 0 ≤ b → b < c.2.1.length → c.2.2.1.getD (list.getD j.toNat 0).toNat 0 = c.2.1.getD b.toNat 0 → hasR list (compR c (list.getD j.toNat 0) b) = true) (by omega) (by intro y h0 h1; omega) ?_ ?_
  · intro i next h0 h1 hP hn hin
    try dsimp only
    have hb := within_iff.1 hc.2 i h0 h1
    have hbad : ¬ (c.2.1.getD (list.getD i.toNat 0).toNat 0 = x ∧ ∀ b : Int, 0 ≤ b → b < c.2.1.length → c.2.2.1.getD (list.getD i.toNat 0).toNat 0 = c.2.1.getD b.toNat 0 → hasR list (compR c (list.getD i.toNat 0) b) = true) → (false, ()) = c_impl_Category_isSieve.res (c, x, list, ()) := fun h => bad fun h2 => h ((sieve_iff.1 h2).2.2 i h0 h1)
    have hgood : (c.2.1.getD (list.getD i.toNat 0).toNat 0 = x ∧ ∀ b : Int, 0 ≤ b → b < c.2.1.length → c.2.2.1.getD (list.getD i.toNat 0).toNat 0 = c.2.1.getD b.toNat 0 → hasR list (compR c (list.getD i.toNat 0) b) = true) → next ((i + 1, ()), ()) := fun h => hn fun j j0 j1 => by
      by_cases e : j = i
      · rw [e]; exact h
      · exact hP j j0 (by omega)
    clear hn hP bad
    generalize list.getD i.toNat 0 = a at *
    have hrow := S.row a hb.1 hb.2
    refine cnd_d (fun _ => ⟨h0, h1, hb.1, hb.2, cnd_of (fun hx => hbad fun h => ?_) (fun hx => ⟨hb.1, by omega, hmm, ?_⟩)⟩) (fun h => absurd h1 h)
    · rw [h.1] at hx; simp at hx
    simp only [bne_eq_false_iff_eq] at hx
    have hmem : ∀ b, b ∈ outR c (c.2.2.1.getD a.toNat 0) ↔ 0 ≤ b ∧ b < c.2.1.length ∧ c.2.1.getD b.toNat 0 = c.2.2.1.getD a.toNat 0 := fun b => by unfold outR; rw [sel_mem, beq_iff_eq]
    have hlen := sel_len (p := fun f => c.2.1.getD f.toNat 0 == c.2.2.1.getD a.toNat 0) c.2.1.length
    have hlen2 : (outR c (c.2.2.1.getD a.toNat 0)).length ≤ 40 := Nat.le_trans hlen hmm
    generalize outR c (c.2.2.1.getD a.toNat 0) = out at *
    refine loop_of (fun (s : ((Unit × (Int × Unit)) × ((List Int) × Unit))) => s.2.1 = out ∧ 0 ≤ s.1.2.1 ∧ s.1.2.1 ≤ out.length ∧ ∀ j : Int, 0 ≤ j → j < s.1.2.1 → hasR list (compR c a (out.getD j.toNat 0)) = true) (fun (s : ((Unit × (Int × Unit)) × ((List Int) × Unit))) => (out.length - s.1.2.1).toNat) ?_ ⟨rfl, by simp, by simp, fun j j0 j1 => by dsimp only at j1; omega⟩
    rintro ⟨⟨_, j, _⟩, l, _⟩ next2 ⟨rfl, j0, j1, hP2⟩ hn2 hin2 hl
    try dsimp only at j0 j1 hP2 hn2 hmem hlen2 ⊢
    refine cnd_d (fun hj => ?_) (fun hj => ⟨by rw [inK64]; (try dsimp only); omega, hgood ⟨hx, fun b b0 b1 e => ?_⟩⟩)
    · have hbm := (hmem _).1 (getD_mem l 0 j0 hj)
      refine ⟨j0, hj, hb.1, by omega, hbm.1, by omega, cnd_of (fun hy => hbad fun h => ?_) (fun hy => ⟨by rw [inK64]; (try dsimp only); omega, hn2 _ ⟨rfl, (by first | omega | (dsimp only; omega)), (by first | omega | (dsimp only; omega)), fun j' a0 a1 => ?_⟩ (by first | omega | (dsimp only; omega))⟩)⟩
      · rw [h.2 _ hbm.1 hbm.2.1 hbm.2.2.symm] at hy; cases hy
      · by_cases e : j' = j
        · rw [e]; simpa using hy
        · exact hP2 j' a0 (by dsimp only at a1; omega)
    · exact (all_ix (d := (0 : Int)) (p := fun b => hasR list (compR c a b) = true)).2 (fun j' a0 a1 => hP2 j' a0 (by omega)) b ((hmem b).2 ⟨b0, b1, e.symm⟩)
  · intro next hP hin
    refine cnd_d (fun h => absurd h (by dsimp only; omega)) (fun _ => ?_)
    simp only [c_impl_Category_isSieve]
    rw [sieve_iff.2 ⟨hc.1, hc.2, hP⟩]
theorem ct_impl_Category_isSieve : CtOk Try.prog 66 c_impl_Category_isSieve :=
  ct_by (Φ := lkp [(60, c_impl_Category_arrows), (97, c_impl_Category_outOf), (82, c_impl_Category_then), (104, c_impl_has), (103, c_impl_rising), (81, c_impl_within)]) (good_cons ct_impl_Category_arrows (good_cons ct_impl_Category_outOf (good_cons ct_impl_Category_then (good_cons ct_impl_has (good_cons ct_impl_rising (good_cons ct_impl_within good_nil)))))) tab_ok (by kernel_rfl) (fn := Try.f66) (c := bodyOf Try.f66) (by kernel_rfl) (by kernel_rfl) (by kernel_rfl) c_impl_Category_isSieve rfl (.s .n (.s .n (.s (.s .n (.l [(23, (.d (.int .i64)))] [] [0, 1, 2, 21, 22] (.s .n (.s .n (.s (.s .n (.s .n (.s .n (.l [(44, (.ref 104400 [])), (46, (.d (.int .i64)))] [(104400, (.sl (.fz (.int .i64))))] [0, 1, 2, 8, 21, 22, 23, 45] .n)))) .n))))) .n))) (cutL []) (by kernel_rfl) (by kernel_rfl) k_impl_Category_isSieve (by decide) (fun x K => W_impl_Category_isSieve x.1 x.2.1 x.2.2.1 K) w_impl_Category_isSieve (fun x h1 h2 => m_impl_Category_isSieve x.1 x.2.1 x.2.2.1 h1 h2)
def c_impl_marked : Ct := ⟨[(.sl .bool)], [false], fun x => [x.1.length ≤ 1099511627776], [(false, (.sl (.fz (.int .i64))))], fun x => (selR x.1.length (fun i => x.1.getD i.toNat false), ()), false, none⟩
def W_impl_marked (there : List Bool) (K : (List Int) × Unit → Prop) : Prop := (loopW (S := ((Unit × (Int × Unit)) × ((List Int) × Unit))) (fun s => (fun next => ((inK IntKind.i64 s.1.2.1) → ((T.ok (T.sl (T.int IntKind.i64)) s.2.1) → (cnd (decide (s.1.2.1 < (((List.length there) : Nat) : Int))) (((0 : Int) ≤ s.1.2.1) ∧ ((s.1.2.1 < (((List.length there) : Nat) : Int)) ∧ (joinW (S := ((Unit × Unit) × ((List Int) × Unit))) (fun s1 => ((T.ok (T.sl (T.int IntKind.i64)) s1.2.1) → ((inK IntKind.i64 (s.1.2.1 + (1 : Int))) ∧ (next (((), ((s.1.2.1 + (1 : Int)), ())), (s1.2.1, ())))))) (fun k => (cnd (List.getD there (Int.toNat s.1.2.1) Bool.false) ((room (List.length s.2.1) (List.length (s.1.2.1 :: ([] : List Int))) 8) ∧ (k (((), ()), ((s.2.1 ++ (s.1.2.1 :: ([] : List Int))), ())))) (k (((), ()), (s.2.1, ())))))))) (K (s.2.1, ()))))))) (((), ((0 : Int), ())), (([] : List Int), ())))
theorem w_impl_marked (x : denL c_impl_marked.args) (K : (List Int) × Unit → Prop) : evF tab (lkp []) (cutL []) Try.f98 (bodyOf Try.f98) (.s .n (.s .n (.s (.s .n (.l [(3, (.ref 800003 [])), (9, (.d (.int .i64)))] [(800003, (.sl (.fz (.int .i64))))] [7, 8] (.s .n (.s .n (.s (.s .n (.s .n (.j [(3, (.ref 800003 []))] [(800003, (.sl (.fz (.int .i64))))] [7, 8, 9] .n))) .n))))) .n))) c_impl_marked x K = W_impl_marked x.1 K := by kernel_rfl
theorem k_impl_marked : okC Try.f98.ntmps (cutL []) (bodyOf Try.f98) = true := by kernel_rfl
theorem m_impl_marked (there : List Bool) (hok : allP (okL c_impl_marked.args (there, ()))) (hpre : allP (c_impl_marked.pre (there, ()))) : W_impl_marked there (fun r => r = c_impl_marked.res (there, ())) := by
  simp only [c_impl_marked, okL, T.oks, T.ok, ap, allP, true_and, and_true, implies_true] at hok hpre
  try dsimp only [T.den] at hok
  try dsimp only [T.den] at hpre
  unfold W_impl_marked
  have hm : there.length ≤ 1099511627776 := hpre
  refine loop_of (fun (s : ((Unit × (Int × Unit)) × ((List Int) × Unit))) => 0 ≤ s.1.2.1 ∧ s.1.2.1 ≤ there.length ∧ s.2.1 = selR s.1.2.1.toNat fun i => there.getD i.toNat false) (fun (s : ((Unit × (Int × Unit)) × ((List Int) × Unit))) => (there.length - s.1.2.1).toNat) ?_ ⟨by simp, by simp, rfl⟩
  rintro ⟨⟨_, i, _⟩, l, _⟩ next ⟨h0, h1, h2⟩ hn hin hl
  try dsimp only at h0 h1 h2 hn ⊢
  subst h2
  refine cnd_d (fun hc => ⟨h0, hc, join_of (fun s1 => s1.2.1 = selR (i + 1).toNat fun i => there.getD i.toNat false) (fun s1 hs _ => ⟨by rw [inK64]; (try dsimp only); omega, hn _ ⟨(by first | omega | (dsimp only; omega)), (by first | omega | (dsimp only; omega)), hs⟩ (by first | omega | (dsimp only; omega))⟩) (fun k hk => cnd_of (fun hx => ⟨?_, hk _ ?_⟩) (fun hx => hk _ ?_))⟩) (fun hc => ?_)
  · have := sel_len (p := fun i => there.getD i.toNat false) i.toNat
    unfold room
    rw [nb_eq]
    have h3 : (i :: ([] : List Int)).length = 1 := rfl
    rw [h3]
    omega
  · exact (sel_t h0 hx).symm
  · exact (sel_f h0 hx).symm
  · have e1 : i.toNat = there.length := by omega
    simp only [c_impl_marked]
    rw [e1]
theorem ct_impl_marked : CtOk Try.prog 98 c_impl_marked :=
  ct_by (Φ := lkp []) good_nil tab_ok (by kernel_rfl) (fn := Try.f98) (c := bodyOf Try.f98) (by kernel_rfl) (by kernel_rfl) (by kernel_rfl) c_impl_marked rfl (.s .n (.s .n (.s (.s .n (.l [(3, (.ref 800003 [])), (9, (.d (.int .i64)))] [(800003, (.sl (.fz (.int .i64))))] [7, 8] (.s .n (.s .n (.s (.s .n (.s .n (.j [(3, (.ref 800003 []))] [(800003, (.sl (.fz (.int .i64))))] [7, 8, 9] .n))) .n))))) .n))) (cutL []) (by kernel_rfl) (by kernel_rfl) k_impl_marked (by decide) (fun x K => W_impl_marked x.1 K) w_impl_marked (fun x h1 h2 => m_impl_marked x.1 h1 h2)
/-- the arrows that these arrows lead to -/
def closeR (c : CategoryD) (l : List Int) : List Int := selR c.2.1.length fun y => l.any fun a => (outR c (c.2.2.1.getD a.toNat 0)).any fun b => compR c a b == y

def c_impl_Category_sieveOf : Ct := ⟨[(.pt CategoryT), (.sl (.int .i64))], [false, false], fun x => [ShapeP x.1, withinR x.2.1 x.1.2.1.length = true], [(false, (.sl (.fz (.int .i64))))], fun x => (closeR x.1 x.2.1, ()), false, none⟩
def W_impl_Category_sieveOf (c : CategoryD) (arrows : List Int) (K : (List Int) × Unit → Prop) : Prop := (((0 : Int) ≤ (((List.length c.2.1) : Nat) : Int)) ∧ (((((List.length c.2.1) : Nat) : Int) ≤ (((List.length c.2.1) : Nat) : Int)) ∧ (((((List.length c.2.1) : Nat) : Int) ≤ ((140737488355328 : Nat) : Int)) ∧ ((((((List.length c.2.1) : Nat) : Int) * ((1 : Nat) : Int)) ≤ ((140737488355328 : Nat) : Int)) ∧ (loopW (S := ((Unit × (Int × Unit)) × ((List Bool) × Unit))) (fun s => (fun next => ((inK IntKind.i64 s.1.2.1) → ((T.ok (T.sl T.bool) s.2.1) → (cnd (decide (s.1.2.1 < (((List.length arrows) : Nat) : Int))) (((0 : Int) ≤ s.1.2.1) ∧ ((s.1.2.1 < (((List.length arrows) : Nat) : Int)) ∧ (((0 : Int) ≤ (List.getD arrows (Int.toNat s.1.2.1) (0 : Int))) ∧ (((List.getD arrows (Int.toNat s.1.2.1) (0 : Int)) < (((List.length c.2.2.1) : Nat) : Int)) ∧ (((List.length c.2.1) ≤ 40) ∧ (loopW (S := ((Unit × (Int × Unit)) × ((List Bool) × Unit))) (fun s1 => (fun next1 => ((inK IntKind.i64 s1.1.2.1) → ((T.ok (T.sl T.bool) s1.2.1) → (cnd (decide (s1.1.2.1 < (((List.length (outR c (List.getD c.2.2.1 (Int.toNat (List.getD arrows (Int.toNat s.1.2.1) (0 : Int))) (0 : Int)))) : Nat) : Int))) (((0 : Int) ≤ s1.1.2.1) ∧ ((s1.1.2.1 < (((List.length (outR c (List.getD c.2.2.1 (Int.toNat (List.getD arrows (Int.toNat s.1.2.1) (0 : Int))) (0 : Int)))) : Nat) : Int)) ∧ (((0 : Int) ≤ (List.getD arrows (Int.toNat s.1.2.1) (0 : Int))) ∧ (((List.getD arrows (Int.toNat s.1.2.1) (0 : Int)) < (((List.length c.2.2.2.2) : Nat) : Int)) ∧ (((0 : Int) ≤ (List.getD (outR c (List.getD c.2.2.1 (Int.toNat (List.getD arrows (Int.toNat s.1.2.1) (0 : Int))) (0 : Int))) (Int.toNat s1.1.2.1) (0 : Int))) ∧ (((List.getD (outR c (List.getD c.2.2.1 (Int.toNat (List.getD arrows (Int.toNat s.1.2.1) (0 : Int))) (0 : Int))) (Int.toNat s1.1.2.1) (0 : Int)) < (((List.length (List.getD c.2.2.2.2 (Int.toNat (List.getD arrows (Int.toNat s.1.2.1) (0 : Int))) ([] : List Int))) : Nat) : Int)) ∧ (((0 : Int) ≤ (compR c (List.getD arrows (Int.toNat s.1.2.1) (0 : Int)) (List.getD (outR c (List.getD c.2.2.1 (Int.toNat (List.getD arrows (Int.toNat s.1.2.1) (0 : Int))) (0 : Int))) (Int.toNat s1.1.2.1) (0 : Int)))) ∧ (((compR c (List.getD arrows (Int.toNat s.1.2.1) (0 : Int)) (List.getD (outR c (List.getD c.2.2.1 (Int.toNat (List.getD arrows (Int.toNat s.1.2.1) (0 : Int))) (0 : Int))) (Int.toNat s1.1.2.1) (0 : Int))) < (((List.length s1.2.1) : Nat) : Int)) ∧ ((inK IntKind.i64 (s1.1.2.1 + (1 : Int))) ∧ (next1 (((), ((s1.1.2.1 + (1 : Int)), ())), ((List.set s1.2.1 (Int.toNat (compR c (List.getD arrows (Int.toNat s.1.2.1) (0 : Int)) (List.getD (outR c (List.getD c.2.2.1 (Int.toNat (List.getD arrows (Int.toNat s.1.2.1) (0 : Int))) (0 : Int))) (Int.toNat s1.1.2.1) (0 : Int)))) Bool.true), ())))))))))))) ((inK IntKind.i64 (s.1.2.1 + (1 : Int))) ∧ (next (((), ((s.1.2.1 + (1 : Int)), ())), (s1.2.1, ()))))))))) (((), ((0 : Int), ())), (s.2.1, ())))))))) (((List.length s.2.1) ≤ 1099511627776) ∧ (K ((selR (List.length s.2.1) (fun i => (List.getD s.2.1 (Int.toNat i) Bool.false))), ())))))))) (((), ((0 : Int), ())), ((List.replicate (Int.toNat (((List.length c.2.1) : Nat) : Int)) Bool.false), ())))))))
theorem w_impl_Category_sieveOf (x : denL c_impl_Category_sieveOf.args) (K : (List Int) × Unit → Prop) : evF tab (lkp [(60, c_impl_Category_arrows), (97, c_impl_Category_outOf), (82, c_impl_Category_then), (98, c_impl_marked)]) (cutL []) Try.f61 (bodyOf Try.f61) (.s .n (.s .n (.s (.s .n (.l [(5, (.ref 12 [])), (15, (.d (.int .i64)))] [(12, (.sl (.fz .bool)))] [0, 13, 14] (.s .n (.s .n (.s (.s .n (.s .n (.l [(5, (.ref 12 [])), (29, (.d (.int .i64)))] [(12, (.sl (.fz .bool)))] [0, 7, 13, 14, 15, 27, 28] .n))) .n))))) .n))) c_impl_Category_sieveOf x K = W_impl_Category_sieveOf x.1 x.2.1 K := by kernel_rfl
theorem k_impl_Category_sieveOf : okC Try.f61.ntmps (cutL []) (bodyOf Try.f61) = true := by kernel_rfl
theorem m_impl_Category_sieveOf (c : CategoryD) (arrows : List Int) (hok : allP (okL c_impl_Category_sieveOf.args (c, arrows, ()))) (hpre : allP (c_impl_Category_sieveOf.pre (c, arrows, ()))) : W_impl_Category_sieveOf c arrows (fun r => r = c_impl_Category_sieveOf.res (c, arrows, ())) := by
  simp only [c_impl_Category_sieveOf, okL, T.oks, T.ok, ap, allP, true_and, and_true, implies_true] at hok hpre
  try dsimp only [T.den] at hok
  try dsimp only [T.den] at hpre
  unfold W_impl_Category_sieveOf
  obtain ⟨S, hw⟩ := hpre
  have hlt := S.lt
  have hlc := S.lc
  have hmm := S.m
  have hal : arrows.length ≤ 140737488355328 := by simp only [nb_eq] at hok; omega
  rw [within_iff] at hw
  refine ⟨by omega, by omega, by omega, by omega, ?_⟩
  rw [tab_rep, Int.toNat_natCast]
  refine loop_ixa (fun i => tabN c.2.1.length fun y => (arrows.take i.toNat).any fun a => (outR c (c.2.2.1.getD a.toNat 0)).any fun b => compR c a b == y) (n := arrows.length) (by omega) (tabN_congr fun _ _ _ => rfl) ?_ ?_
  · intro i next i0 i1 hn _ _
    try dsimp only
    refine cnd_d (fun _ => ?_) (fun h => absurd i1 h)
    obtain ⟨a0, a1⟩ := hw i i0 i1
    have hrow := S.row _ a0 a1
    have hol := out_len S (c.2.2.1.getD (arrows.getD i.toNat 0).toNat 0)
    have hoa := @out_at c (c.2.2.1.getD (arrows.getD i.toNat 0).toNat 0)
    refine ⟨i0, i1, a0, by omega, hmm, ?_⟩
    refine loop_ixa (fun j => tabN c.2.1.length fun y => (arrows.take i.toNat).any (fun a => (outR c (c.2.2.1.getD a.toNat 0)).any fun b => compR c a b == y) || ((outR c (c.2.2.1.getD (arrows.getD i.toNat 0).toNat 0)).take j.toNat).any fun b => compR c (arrows.getD i.toNat 0) b == y) (n := (outR c (c.2.2.1.getD (arrows.getD i.toNat 0).toNat 0)).length) (by omega) (tabN_congr fun _ _ _ => by simp) ?_ ?_
    · intro j next2 j0 j1 hn2 _ _
      try dsimp only
      refine cnd_d (fun _ => ?_) (fun h => absurd j1 h)
      obtain ⟨b0, b1, b2⟩ := hoa j0 j1
      obtain ⟨y0, y1, _, _⟩ := S.yes a0 a1 b0 b1 b2.symm
      rw [tabN_len]
      refine ⟨j0, j1, a0, by omega, b0, by omega, y0, y1, by rw [inK64]; (try dsimp only); omega, ?_⟩
      rw [tab_mark y0 y1]
      refine (congrArg (fun z => next2 (((), (j + 1, ())), (z, ()))) (tabN_congr fun y _ _ => ?_)).mp hn2
      rw [any_take _ 0 j0 j1, Bool.or_assoc]
    · intro next2 _ _
      refine cnd_d (fun h => absurd h (by dsimp only; omega)) (fun _ => ⟨by rw [inK64]; (try dsimp only); omega, ?_⟩)
      refine (congrArg (fun z => next (((), (i + 1, ())), (z, ()))) (tabN_congr fun y _ _ => ?_)).mp hn
      rw [any_take _ 0 i0 i1, take_n _ (Int.le_refl _)]
  · intro next _ _
    refine cnd_d (fun h => absurd h (by dsimp only; omega)) (fun _ => ⟨by dsimp only; rw [tabN_len]; omega, ?_⟩)
    simp only [c_impl_Category_sieveOf, closeR]
    rw [sel_tab, take_n _ (Int.le_refl _)]
theorem ct_impl_Category_sieveOf : CtOk Try.prog 61 c_impl_Category_sieveOf :=
  ct_by (Φ := lkp [(60, c_impl_Category_arrows), (97, c_impl_Category_outOf), (82, c_impl_Category_then), (98, c_impl_marked)]) (good_cons ct_impl_Category_arrows (good_cons ct_impl_Category_outOf (good_cons ct_impl_Category_then (good_cons ct_impl_marked good_nil)))) tab_ok (by kernel_rfl) (fn := Try.f61) (c := bodyOf Try.f61) (by kernel_rfl) (by kernel_rfl) (by kernel_rfl) c_impl_Category_sieveOf rfl (.s .n (.s .n (.s (.s .n (.l [(5, (.ref 12 [])), (15, (.d (.int .i64)))] [(12, (.sl (.fz .bool)))] [0, 13, 14] (.s .n (.s .n (.s (.s .n (.s .n (.l [(5, (.ref 12 [])), (29, (.d (.int .i64)))] [(12, (.sl (.fz .bool)))] [0, 7, 13, 14, 15, 27, 28] .n))) .n))))) .n))) (cutL []) (by kernel_rfl) (by kernel_rfl) k_impl_Category_sieveOf (by decide) (fun x K => W_impl_Category_sieveOf x.1 x.2.1 K) w_impl_Category_sieveOf (fun x h1 h2 => m_impl_Category_sieveOf x.1 x.2.1 h1 h2)
def froR (c : CategoryD) (x : Int) (l : List Int) : Bool := l.all fun a => inR a 0 (c.2.1.length - 1) && c.2.1.getD a.toNat 0 == x
def sieveOfR (c : CategoryD) (x : Int) (l : List Int) : List Int × Int := if objCodeR c [x] = 0 then (if froR c x l = true then (closeR c l, 0) else ([], 2)) else ([], objCodeR c [x])
theorem code_shape {c : CategoryD} {x : Int} (h : objCodeR c [x] = 0) : ShapeP c := by
  unfold objCodeR at h
  split at h
  · rename_i hc; exact cat_shape hc
  · omega
theorem fro_iff {c : CategoryD} {x : Int} {l : List Int} : froR c x l = true ↔ ∀ i : Int, 0 ≤ i → i < l.length → (0 ≤ l.getD i.toNat 0 ∧ l.getD i.toNat 0 < c.2.1.length) ∧ c.2.1.getD (l.getD i.toNat 0).toNat 0 = x := by
  simp only [froR, List.all_eq_true, Bool.and_eq_true, inR_iff, beq_iff_eq]
  rw [← @all_ix Int 0 l (fun a => (0 ≤ a ∧ a < c.2.1.length) ∧ c.2.1.getD a.toNat 0 = x)]
  constructor
  · intro h a ha; have := h a ha; exact ⟨⟨this.1.1, by omega⟩, this.2⟩
  · intro h a ha; have := h a ha; exact ⟨⟨this.1.1, by omega⟩, this.2⟩
theorem fro_within {c : CategoryD} {x : Int} {l : List Int} (h : froR c x l = true) : withinR l c.2.1.length = true := within_iff.2 fun i h0 h1 => (fro_iff.1 h i h0 h1).1

def c_impl_SieveOf : Ct := ⟨[CategoryT, (.int .i64), (.sl (.int .i64))], [true, false, false], fun x => [], [(false, (.sl (.fz (.int .i64)))), (false, (.fz (.int .i64)))], fun x => ((sieveOfR x.1 x.2.1 x.2.2.1).1, (sieveOfR x.1 x.2.1 x.2.2.1).2, ()), false, none⟩
def W_impl_SieveOf (c : CategoryD) (x : Int) (arrows : List Int) (K : (List Int) × Int × Unit → Prop) : Prop := (cnd ((objCodeR c (x :: ([] : List Int))) != (0 : Int)) (K (([] : List Int), ((objCodeR c (x :: ([] : List Int))), ()))) (loopW (S := ((Int × Unit) × Unit)) (fun s => (fun next => ((inK IntKind.i64 s.1.1) → (cnd (decide (s.1.1 < (((List.length arrows) : Nat) : Int))) (((0 : Int) ≤ s.1.1) ∧ ((s.1.1 < (((List.length arrows) : Nat) : Int)) ∧ ((inK IntKind.i64 ((((List.length c.2.1) : Nat) : Int) - (1 : Int))) ∧ ((((!(inR (List.getD arrows (Int.toNat s.1.1) (0 : Int)) (0 : Int) ((((List.length c.2.1) : Nat) : Int) - (1 : Int)))) = Bool.false) → (((List.getD arrows (Int.toNat s.1.1) (0 : Int)) < (((List.length c.2.1) : Nat) : Int)) ∧ ((0 : Int) ≤ (List.getD arrows (Int.toNat s.1.1) (0 : Int))))) ∧ (cnd ((!(inR (List.getD arrows (Int.toNat s.1.1) (0 : Int)) (0 : Int) ((((List.length c.2.1) : Nat) : Int) - (1 : Int)))) || ((List.getD c.2.1 (Int.toNat (List.getD arrows (Int.toNat s.1.1) (0 : Int))) (0 : Int)) != x)) (K (([] : List Int), ((2 : Int), ()))) ((inK IntKind.i64 (s.1.1 + (1 : Int))) ∧ (next (((s.1.1 + (1 : Int)), ()), ())))))))) ((ShapeP c) ∧ (((withinR arrows (((List.length c.2.1) : Nat) : Int)) = Bool.true) ∧ (K ((closeR c arrows), ((0 : Int), ()))))))))) (((0 : Int), ()), ())))
theorem w_impl_SieveOf (x : denL c_impl_SieveOf.args) (K : (List Int) × Int × Unit → Prop) : evF tab (lkp [(60, c_impl_Category_arrows), (61, c_impl_Category_sieveOf), (59, c_impl_inRange), (58, c_impl_objectCode)]) (cutL []) Try.f17 (bodyOf Try.f17) (.s .n (.s .n (.s (.s .n (.l [(19, (.d (.int .i64)))] [] [1, 2, 3, 17, 18] .n)) .n))) c_impl_SieveOf x K = W_impl_SieveOf x.1 x.2.1 x.2.2.1 K := by kernel_rfl
theorem k_impl_SieveOf : okC Try.f17.ntmps (cutL []) (bodyOf Try.f17) = true := by kernel_rfl
theorem m_impl_SieveOf (c : CategoryD) (x : Int) (arrows : List Int) (hok : allP (okL c_impl_SieveOf.args (c, x, arrows, ()))) (hpre : allP (c_impl_SieveOf.pre (c, x, arrows, ()))) : W_impl_SieveOf c x arrows (fun r => r = c_impl_SieveOf.res (c, x, arrows, ())) := by
  simp only [c_impl_SieveOf, okL, T.oks, T.ok, ap, allP, true_and, and_true, implies_true] at hok hpre
  try dsimp only [T.den] at hok
  try dsimp only [T.den] at hpre
  unfold W_impl_SieveOf
  refine cnd_of (fun hc => ?_) (fun hc => ?_)
  · simp only [c_impl_SieveOf, sieveOfR]; rw [if_neg (by simpa using hc)]
  have hz : objCodeR c [x] = 0 := by simpa using hc
  have S := code_shape hz
  have hmm := S.m
  have bad : froR c x arrows = false → (([], 2, ()) : List Int × Int × Unit) = c_impl_SieveOf.res (c, x, arrows, ()) := fun h => by
    simp only [c_impl_SieveOf, sieveOfR]; rw [if_pos hz, if_neg (by rw [h]; simp)]
  refine loop_ix (n := arrows.length) (fun i => (arrows.take i.toNat).all (fun a => inR a 0 (c.2.1.length - 1) && c.2.1.getD a.toNat 0 == x) = true) (by omega) (by simp) ?_ ?_
  · intro i next i0 i1 hP hn hin
    try dsimp only at hin ⊢
    have ht := all_take (p := fun a => inR a 0 (c.2.1.length - 1) && c.2.1.getD a.toNat 0 == x) arrows 0 i0 i1
    have hq : (inR (arrows.getD i.toNat 0) 0 (c.2.1.length - 1) && c.2.1.getD (arrows.getD i.toNat 0).toNat 0 == x) = false → froR c x arrows = false := fun h => by
      unfold froR; rw [List.all_eq_false]; exact ⟨_, getD_mem arrows 0 i0 i1, by rw [h]; simp⟩
    rw [hP, Bool.true_and] at ht
    rw [ht] at hn
    have hir := @inR_iff (arrows.getD i.toNat 0) 0 (c.2.1.length - 1)
    have hal : arrows.length ≤ 140737488355328 := by simp only [nb_eq] at hok; omega
    clear hok
    generalize arrows.getD i.toNat 0 = a at *
    refine cnd_d (fun _ => ?_) (fun h => absurd i1 h)
    rw [inK64] at hin
    repeat' (with_reducible apply And.intro)
    all_goals first | omega | (rw [inK64]; omega) | (intro h; rw [Bool.not_eq_false'] at h; have := hir.1 h; omega) | skip
    refine cnd_of (fun hb => bad (hq ((by decide : ∀ p q : Bool, (!p || !q) = true → (p && q) = false) _ _ hb))) (fun hb => ⟨by rw [inK64]; (try dsimp only); omega, hn ((by decide : ∀ p q : Bool, (!p || !q) = false → (p && q) = true) _ _ hb)⟩)
  · intro next hP hin
    refine cnd_d (fun h => absurd h (by dsimp only; omega)) (fun _ => ?_)
    rw [take_n _ (Int.le_refl _)] at hP
    have hf : froR c x arrows = true := hP
    refine ⟨S, fro_within hf, ?_⟩
    simp only [c_impl_SieveOf, sieveOfR]
    rw [if_pos hz, if_pos hf]
theorem ct_impl_SieveOf : CtOk Try.prog 17 c_impl_SieveOf :=
  ct_by (Φ := lkp [(60, c_impl_Category_arrows), (61, c_impl_Category_sieveOf), (59, c_impl_inRange), (58, c_impl_objectCode)]) (good_cons ct_impl_Category_arrows (good_cons ct_impl_Category_sieveOf (good_cons ct_impl_inRange (good_cons ct_impl_objectCode good_nil)))) tab_ok (by kernel_rfl) (fn := Try.f17) (c := bodyOf Try.f17) (by kernel_rfl) (by kernel_rfl) (by kernel_rfl) c_impl_SieveOf rfl (.s .n (.s .n (.s (.s .n (.l [(19, (.d (.int .i64)))] [] [1, 2, 3, 17, 18] .n)) .n))) (cutL []) (by kernel_rfl) (by kernel_rfl) k_impl_SieveOf (by decide) (fun x K => W_impl_SieveOf x.1 x.2.1 x.2.2.1 K) w_impl_SieveOf (fun x h1 h2 => m_impl_SieveOf x.1 x.2.1 x.2.2.1 h1 h2)
def implySR (c : CategoryD) (x : Int) (s t : List Int) : List Int × Int := if objCodeR c [x] = 0 then (if sieveR c x s = true ∧ sieveR c x t = true then (implyR c x s t, 0) else ([], 1)) else ([], objCodeR c [x])

def c_impl_ImplySieves : Ct := ⟨[CategoryT, (.int .i64), (.sl (.int .i64)), (.sl (.int .i64))], [true, false, false, false], fun x => [], [(false, (.sl (.fz (.int .i64)))), (false, (.fz (.int .i64)))], fun x => ((implySR x.1 x.2.1 x.2.2.1 x.2.2.2.1).1, (implySR x.1 x.2.1 x.2.2.1 x.2.2.2.1).2, ()), false, none⟩
def W_impl_ImplySieves (c : CategoryD) (x : Int) (s : List Int) (t : List Int) (K : (List Int) × Int × Unit → Prop) : Prop := (cnd ((objCodeR c (x :: ([] : List Int))) != (0 : Int)) (K (([] : List Int), ((objCodeR c (x :: ([] : List Int))), ()))) ((ShapeP c) ∧ ((((!(sieveR c x s)) = Bool.false) → (ShapeP c)) ∧ (cnd ((!(sieveR c x s)) || (!(sieveR c x t))) (K (([] : List Int), ((1 : Int), ()))) ((ShapeP c) ∧ (K ((implyR c x s t), ((0 : Int), ()))))))))
theorem w_impl_ImplySieves (x : denL c_impl_ImplySieves.args) (K : (List Int) × Int × Unit → Prop) : evF tab (lkp [(70, c_impl_Category_imply), (66, c_impl_Category_isSieve), (58, c_impl_objectCode)]) (cutL []) Try.f26 (bodyOf Try.f26) .n c_impl_ImplySieves x K = W_impl_ImplySieves x.1 x.2.1 x.2.2.1 x.2.2.2.1 K := by kernel_rfl
theorem k_impl_ImplySieves : okC Try.f26.ntmps (cutL []) (bodyOf Try.f26) = true := by kernel_rfl
theorem m_impl_ImplySieves (c : CategoryD) (x : Int) (s : List Int) (t : List Int) (hok : allP (okL c_impl_ImplySieves.args (c, x, s, t, ()))) (hpre : allP (c_impl_ImplySieves.pre (c, x, s, t, ()))) : W_impl_ImplySieves c x s t (fun r => r = c_impl_ImplySieves.res (c, x, s, t, ())) := by
  simp only [c_impl_ImplySieves, okL, T.oks, T.ok, ap, allP, true_and, and_true, implies_true] at hok hpre
  try dsimp only [T.den] at hok
  try dsimp only [T.den] at hpre
  unfold W_impl_ImplySieves
  refine cnd_of (fun hc => ?_) (fun hc => ?_)
  · simp only [c_impl_ImplySieves, implySR]; rw [if_neg (by simpa using hc)]
  have hz : objCodeR c [x] = 0 := by simpa using hc
  have S := code_shape hz
  refine ⟨S, fun _ => S, cnd_of (fun hs => ?_) (fun hs => ⟨S, ?_⟩)⟩
  · simp only [c_impl_ImplySieves, implySR]; rw [if_pos hz, if_neg ((by decide : ∀ p q : Bool, (!p || !q) = true → ¬ (p = true ∧ q = true)) _ _ hs)]
  · simp only [c_impl_ImplySieves, implySR]; rw [if_pos hz, if_pos ((by decide : ∀ p q : Bool, (!p || !q) = false → (p = true ∧ q = true)) _ _ hs)]
theorem ct_impl_ImplySieves : CtOk Try.prog 26 c_impl_ImplySieves :=
  ct_by (Φ := lkp [(70, c_impl_Category_imply), (66, c_impl_Category_isSieve), (58, c_impl_objectCode)]) (good_cons ct_impl_Category_imply (good_cons ct_impl_Category_isSieve (good_cons ct_impl_objectCode good_nil))) tab_ok (by kernel_rfl) (fn := Try.f26) (c := bodyOf Try.f26) (by kernel_rfl) (by kernel_rfl) (by kernel_rfl) c_impl_ImplySieves rfl .n (cutL []) (by kernel_rfl) (by kernel_rfl) k_impl_ImplySieves (by decide) (fun x K => W_impl_ImplySieves x.1 x.2.1 x.2.2.1 x.2.2.2.1 K) w_impl_ImplySieves (fun x h1 h2 => m_impl_ImplySieves x.1 x.2.1 x.2.2.1 x.2.2.2.1 h1 h2)
def c_laws_eqInt64S : Ct := ⟨[(.sl (.int .i64)), (.sl (.int .i64))], [false, false], fun x => [], [(false, (.fz .bool))], fun x => (eqR (.sl (.int .i64)) x.1 x.2.1, ()), false, none⟩
def W_laws_eqInt64S (a : List Int) (b : List Int) (K : Bool × Unit → Prop) : Prop := (cnd ((((List.length a) : Nat) : Int) != (((List.length b) : Nat) : Int)) (K (Bool.false, ())) (loopW (S := ((Int × Unit) × Unit)) (fun s => (fun next => ((inK IntKind.i64 s.1.1) → (cnd (decide (s.1.1 < (((List.length a) : Nat) : Int))) (((0 : Int) ≤ s.1.1) ∧ ((s.1.1 < (((List.length a) : Nat) : Int)) ∧ (((0 : Int) ≤ s.1.1) ∧ ((s.1.1 < (((List.length b) : Nat) : Int)) ∧ (cnd ((List.getD a (Int.toNat s.1.1) (0 : Int)) != (List.getD b (Int.toNat s.1.1) (0 : Int))) (K (Bool.false, ())) ((inK IntKind.i64 (s.1.1 + (1 : Int))) ∧ (next (((s.1.1 + (1 : Int)), ()), ())))))))) (K (Bool.true, ())))))) (((0 : Int), ()), ())))
theorem w_laws_eqInt64S (x : denL c_laws_eqInt64S.args) (K : Bool × Unit → Prop) : evF tab (lkp []) (cutL [(6, 9)]) Try.f18 (bodyOf Try.f18) (.s .n (.s .n (.s (.s .n (.l [(5, (.d (.int .i64)))] [] [0, 1] .n)) .n))) c_laws_eqInt64S x K = W_laws_eqInt64S x.1 x.2.1 K := by kernel_rfl
theorem k_laws_eqInt64S : okC Try.f18.ntmps (cutL [(6, 9)]) (bodyOf Try.f18) = true := by kernel_rfl
theorem m_laws_eqInt64S (a : List Int) (b : List Int) (hok : allP (okL c_laws_eqInt64S.args (a, b, ()))) (hpre : allP (c_laws_eqInt64S.pre (a, b, ()))) : W_laws_eqInt64S a b (fun r => r = c_laws_eqInt64S.res (a, b, ())) := by
  simp only [c_laws_eqInt64S, okL, T.oks, T.ok, ap, allP, true_and, and_true, implies_true] at hok hpre
  try dsimp only [T.den] at hok
  try dsimp only [T.den] at hpre
  unfold W_laws_eqInt64S
  refine cnd_of (fun hc => ?_) (fun hc => ?_)
  · simp only [c_laws_eqInt64S, Prod.mk.injEq, and_true]; rw [eqR_f]; rintro rfl; simp at hc
  have hl : a.length = b.length := by simp at hc; omega
  refine loop_of (fun (s : ((Int × Unit) × Unit)) => 0 ≤ s.1.1 ∧ s.1.1 ≤ a.length ∧ a.take s.1.1.toNat = b.take s.1.1.toNat) (fun (s : ((Int × Unit) × Unit)) => (a.length - s.1.1).toNat) ?_ (by simp)
  rintro ⟨⟨i, _⟩, _⟩ next ⟨h0, h1, h2⟩ hn hin
  simp only at h0 h1 h2 hn ⊢
  refine cnd_d (fun hc => ?_) (fun hc => ?_)
  · have ha := take_c a (0 : Int) h0 hc
    have hb := take_c b (0 : Int) h0 (by omega)
    refine ⟨by omega, by omega, by omega, by omega, cnd_of (fun hd => ?_) (fun hd => ?_)⟩
    · simp only [c_laws_eqInt64S, Prod.mk.injEq, and_true]; rw [eqR_f]; rintro rfl; simp at hd
    · refine ⟨by grind [cnd, nb_eq, inK64], hn _ ⟨(by first | omega | (dsimp only; omega)), (by first | omega | (dsimp only; omega)), ?_⟩ (by first | omega | (dsimp only; omega))⟩
      simp only [Bool.not_eq_false', eqR_iff, bne_eq_false_iff_eq] at hd
      simp only [ha, hb, h2, hd]
  · rw [take_n a (by omega), take_n b (by omega)] at h2
    simp [h2, c_laws_eqInt64S]
theorem ct_laws_eqInt64S : CtOk Try.prog 18 c_laws_eqInt64S :=
  ct_by (Φ := lkp []) good_nil tab_ok (by kernel_rfl) (fn := Try.f18) (c := bodyOf Try.f18) (by kernel_rfl) (by kernel_rfl) (by kernel_rfl) c_laws_eqInt64S rfl (.s .n (.s .n (.s (.s .n (.l [(5, (.d (.int .i64)))] [] [0, 1] .n)) .n))) (cutL [(6, 9)]) (by kernel_rfl) (by kernel_rfl) k_laws_eqInt64S (by decide) (fun x K => W_laws_eqInt64S x.1 x.2.1 K) w_laws_eqInt64S (fun x h1 h2 => m_laws_eqInt64S x.1 x.2.1 h1 h2)
def c_laws_eqInt64SS : Ct := ⟨[(.sl (.sl (.int .i64))), (.sl (.sl (.int .i64)))], [false, false], fun x => [], [(false, (.fz .bool))], fun x => (eqR (.sl (.sl (.int .i64))) x.1 x.2.1, ()), false, none⟩
def W_laws_eqInt64SS (a : List (List Int)) (b : List (List Int)) (K : Bool × Unit → Prop) : Prop := (cnd ((((List.length a) : Nat) : Int) != (((List.length b) : Nat) : Int)) (K (Bool.false, ())) (loopW (S := ((Int × Unit) × Unit)) (fun s => (fun next => ((inK IntKind.i64 s.1.1) → (cnd (decide (s.1.1 < (((List.length a) : Nat) : Int))) (((0 : Int) ≤ s.1.1) ∧ ((s.1.1 < (((List.length a) : Nat) : Int)) ∧ (((0 : Int) ≤ s.1.1) ∧ ((s.1.1 < (((List.length b) : Nat) : Int)) ∧ (cnd (!(eqR (T.sl (T.int IntKind.i64)) (List.getD a (Int.toNat s.1.1) ([] : List Int)) (List.getD b (Int.toNat s.1.1) ([] : List Int)))) (K (Bool.false, ())) ((inK IntKind.i64 (s.1.1 + (1 : Int))) ∧ (next (((s.1.1 + (1 : Int)), ()), ())))))))) (K (Bool.true, ())))))) (((0 : Int), ()), ())))
theorem w_laws_eqInt64SS (x : denL c_laws_eqInt64SS.args) (K : Bool × Unit → Prop) : evF tab (lkp [(18, c_laws_eqInt64S)]) (cutL [(6, 10)]) Try.f38 (bodyOf Try.f38) (.s .n (.s .n (.s (.s .n (.l [(5, (.d (.int .i64)))] [] [0, 1] .n)) .n))) c_laws_eqInt64SS x K = W_laws_eqInt64SS x.1 x.2.1 K := by kernel_rfl
theorem k_laws_eqInt64SS : okC Try.f38.ntmps (cutL [(6, 10)]) (bodyOf Try.f38) = true := by kernel_rfl
theorem m_laws_eqInt64SS (a : List (List Int)) (b : List (List Int)) (hok : allP (okL c_laws_eqInt64SS.args (a, b, ()))) (hpre : allP (c_laws_eqInt64SS.pre (a, b, ()))) : W_laws_eqInt64SS a b (fun r => r = c_laws_eqInt64SS.res (a, b, ())) := by
  simp only [c_laws_eqInt64SS, okL, T.oks, T.ok, ap, allP, true_and, and_true, implies_true] at hok hpre
  try dsimp only [T.den] at hok
  try dsimp only [T.den] at hpre
  unfold W_laws_eqInt64SS
  refine cnd_of (fun hc => ?_) (fun hc => ?_)
  · simp only [c_laws_eqInt64SS, Prod.mk.injEq, and_true]; rw [eqR_f]; rintro rfl; simp at hc
  have hl : a.length = b.length := by simp at hc; omega
  refine loop_of (fun (s : ((Int × Unit) × Unit)) => 0 ≤ s.1.1 ∧ s.1.1 ≤ a.length ∧ a.take s.1.1.toNat = b.take s.1.1.toNat) (fun (s : ((Int × Unit) × Unit)) => (a.length - s.1.1).toNat) ?_ (by simp)
  rintro ⟨⟨i, _⟩, _⟩ next ⟨h0, h1, h2⟩ hn hin
  simp only at h0 h1 h2 hn ⊢
  refine cnd_d (fun hc => ?_) (fun hc => ?_)
  · have ha := take_c a ([] : List Int) h0 hc
    have hb := take_c b ([] : List Int) h0 (by omega)
    refine ⟨by omega, by omega, by omega, by omega, cnd_of (fun hd => ?_) (fun hd => ?_)⟩
    · simp only [c_laws_eqInt64SS, Prod.mk.injEq, and_true]; rw [eqR_f]; rintro rfl; simp at hd
    · refine ⟨by grind [cnd, nb_eq, inK64], hn _ ⟨(by first | omega | (dsimp only; omega)), (by first | omega | (dsimp only; omega)), ?_⟩ (by first | omega | (dsimp only; omega))⟩
      simp only [Bool.not_eq_false', eqR_iff, bne_eq_false_iff_eq] at hd
      simp only [ha, hb, h2, hd]
  · rw [take_n a (by omega), take_n b (by omega)] at h2
    simp [h2, c_laws_eqInt64SS]
theorem ct_laws_eqInt64SS : CtOk Try.prog 38 c_laws_eqInt64SS :=
  ct_by (Φ := lkp [(18, c_laws_eqInt64S)]) (good_cons ct_laws_eqInt64S good_nil) tab_ok (by kernel_rfl) (fn := Try.f38) (c := bodyOf Try.f38) (by kernel_rfl) (by kernel_rfl) (by kernel_rfl) c_laws_eqInt64SS rfl (.s .n (.s .n (.s (.s .n (.l [(5, (.d (.int .i64)))] [] [0, 1] .n)) .n))) (cutL [(6, 10)]) (by kernel_rfl) (by kernel_rfl) k_laws_eqInt64SS (by decide) (fun x K => W_laws_eqInt64SS x.1 x.2.1 K) w_laws_eqInt64SS (fun x h1 h2 => m_laws_eqInt64SS x.1 x.2.1 h1 h2)
def c_laws_eqCategory : Ct := ⟨[CategoryT, CategoryT], [true, true], fun x => [], [(false, (.fz .bool))], fun x => (eqR CategoryT x.1 x.2.1, ()), false, none⟩
def W_laws_eqCategory (a : CategoryD) (b : CategoryD) (K : Bool × Unit → Prop) : Prop := (cnd (a.1 != b.1) (K (Bool.false, ())) (cnd (!(eqR (T.sl (T.int IntKind.i64)) a.2.1 b.2.1)) (K (Bool.false, ())) (cnd (!(eqR (T.sl (T.int IntKind.i64)) a.2.2.1 b.2.2.1)) (K (Bool.false, ())) (cnd (!(eqR (T.sl (T.int IntKind.i64)) a.2.2.2.1 b.2.2.2.1)) (K (Bool.false, ())) (cnd (!(eqR (T.sl (T.sl (T.int IntKind.i64))) a.2.2.2.2 b.2.2.2.2)) (K (Bool.false, ())) (K (Bool.true, ())))))))
theorem w_laws_eqCategory (x : denL c_laws_eqCategory.args) (K : Bool × Unit → Prop) : evF tab (lkp [(18, c_laws_eqInt64S), (38, c_laws_eqInt64SS)]) (cutL []) Try.f19 (bodyOf Try.f19) .n c_laws_eqCategory x K = W_laws_eqCategory x.1 x.2.1 K := by kernel_rfl
theorem k_laws_eqCategory : okC Try.f19.ntmps (cutL []) (bodyOf Try.f19) = true := by kernel_rfl
theorem m_laws_eqCategory (a : CategoryD) (b : CategoryD) (hok : allP (okL c_laws_eqCategory.args (a, b, ()))) (hpre : allP (c_laws_eqCategory.pre (a, b, ()))) : W_laws_eqCategory a b (fun r => r = c_laws_eqCategory.res (a, b, ())) := by
  simp only [c_laws_eqCategory, okL, T.oks, T.ok, ap, allP, true_and, and_true, implies_true] at hok hpre
  try dsimp only [T.den] at hok
  try dsimp only [T.den] at hpre
  unfold W_laws_eqCategory
  simp only [c_laws_eqCategory, eqR_p, eqR_int, eqR_bool]
  grind [cnd, nb_eq, inK64]
theorem ct_laws_eqCategory : CtOk Try.prog 19 c_laws_eqCategory :=
  ct_by (Φ := lkp [(18, c_laws_eqInt64S), (38, c_laws_eqInt64SS)]) (good_cons ct_laws_eqInt64S (good_cons ct_laws_eqInt64SS good_nil)) tab_ok (by kernel_rfl) (fn := Try.f19) (c := bodyOf Try.f19) (by kernel_rfl) (by kernel_rfl) (by kernel_rfl) c_laws_eqCategory rfl .n (cutL []) (by kernel_rfl) (by kernel_rfl) k_laws_eqCategory (by decide) (fun x K => W_laws_eqCategory x.1 x.2.1 K) w_laws_eqCategory (fun x h1 h2 => m_laws_eqCategory x.1 x.2.1 h1 h2)
def c_laws_heldInt64S : Ct := ⟨[(.sl (.int .i64)), (.int .i64)], [false, false], fun x => [0 ≤ x.2.1, x.2.1 + ckR (.sl (.int .i64)) x.1 ≤ 4611686018427387904], [(false, (.fz (.int .i64)))], fun x => (hdR (.sl (.int .i64)) x.1 x.2.1, ()), false, none⟩
def W_laws_heldInt64S (a : List Int) (k : Int) (K : Int × Unit → Prop) : Prop := (loopW (S := ((Int × (Int × Unit)) × Unit)) (fun s => (fun next => ((inK IntKind.i64 s.1.1) → ((inK IntKind.i64 s.1.2.1) → (cnd (decide (s.1.2.1 < (((List.length a) : Nat) : Int))) (((0 : Int) ≤ s.1.2.1) ∧ ((s.1.2.1 < (((List.length a) : Nat) : Int)) ∧ (cnd ((List.getD a (Int.toNat s.1.2.1) (0 : Int)) != s.1.1) (K ((-(1 : Int)), ())) ((inK IntKind.i64 (s.1.1 + (1 : Int))) ∧ ((inK IntKind.i64 (s.1.2.1 + (1 : Int))) ∧ (next (((s.1.1 + (1 : Int)), ((s.1.2.1 + (1 : Int)), ())), ()))))))) (K (s.1.1, ()))))))) ((k, ((0 : Int), ())), ()))
theorem w_laws_heldInt64S (x : denL c_laws_heldInt64S.args) (K : Int × Unit → Prop) : evF tab (lkp []) (cutL []) Try.f22 (bodyOf Try.f22) (.s .n (.s (.s .n (.l [(1, (.d (.int .i64))), (5, (.d (.int .i64)))] [] [0] .n)) .n)) c_laws_heldInt64S x K = W_laws_heldInt64S x.1 x.2.1 K := by kernel_rfl
theorem k_laws_heldInt64S : okC Try.f22.ntmps (cutL []) (bodyOf Try.f22) = true := by kernel_rfl
theorem m_laws_heldInt64S (a : List Int) (k : Int) (hok : allP (okL c_laws_heldInt64S.args (a, k, ()))) (hpre : allP (c_laws_heldInt64S.pre (a, k, ()))) : W_laws_heldInt64S a k (fun r => r = c_laws_heldInt64S.res (a, k, ())) := by
  simp only [c_laws_heldInt64S, okL, T.oks, T.ok, ap, allP, true_and, and_true, implies_true] at hok hpre
  try dsimp only [T.den] at hok
  try dsimp only [T.den] at hpre
  unfold W_laws_heldInt64S
  obtain ⟨h0, hb⟩ := hpre
  have hll : a.length ≤ 140737488355328 := by simp only [nb_eq] at hok; omega
  refine held_loop (e := .int .i64) (0 : Int) a k h0 hb (fun k i next i0 i1 k0 kb hbad hn h1 h2 => ?_) (fun i next hi h1 h2 => ?_)
  · try dsimp only
    simp only [ckR] at kb
    simp only [hd_int] at hbad hn
    refine cnd_d (fun _ => ⟨i0, i1, cnd_of (fun hx => ?_) (fun hx => ⟨by rw [inK64]; (try dsimp only); omega, by rw [inK64]; (try dsimp only); omega, ?_⟩)⟩) (fun h => absurd i1 h)
    · rw [bne_iff_ne] at hx
      rw [if_neg hx] at hbad
      simp only [c_laws_heldInt64S]; rw [hbad (by omega)]
    · rw [bne_eq_false_iff_eq] at hx
      rw [if_pos hx] at hn
      exact hn (by omega)
  · exact cnd_d (fun h => absurd h (by dsimp only; omega)) (fun _ => rfl)
theorem ct_laws_heldInt64S : CtOk Try.prog 22 c_laws_heldInt64S :=
  ct_by (Φ := lkp []) good_nil tab_ok (by kernel_rfl) (fn := Try.f22) (c := bodyOf Try.f22) (by kernel_rfl) (by kernel_rfl) (by kernel_rfl) c_laws_heldInt64S rfl (.s .n (.s (.s .n (.l [(1, (.d (.int .i64))), (5, (.d (.int .i64)))] [] [0] .n)) .n)) (cutL []) (by kernel_rfl) (by kernel_rfl) k_laws_heldInt64S (by decide) (fun x K => W_laws_heldInt64S x.1 x.2.1 K) w_laws_heldInt64S (fun x h1 h2 => m_laws_heldInt64S x.1 x.2.1 h1 h2)
def m0_laws_markInt64S : Mt := ⟨(.sl (.fz (.int .i64))), false, fun x k => [0 ≤ k, k + ckR (.sl (.int .i64)) x ≤ 4611686018427387904], fun x k => mkR (.sl (.int .i64)) x k⟩
def c_laws_markInt64S : Ct := mtCt m0_laws_markInt64S
def W_laws_markInt64S (a : List Int) (k : Int) (K : (List Int) → Int → Prop) : Prop := (loopW (S := ((Unit × (Int × (Int × Unit))) × ((List Int) × Unit))) (fun s => (fun next => ((inK IntKind.i64 s.1.2.1) → ((inK IntKind.i64 s.1.2.2.1) → ((T.ok (T.sl (T.int IntKind.i64)) s.2.1) → (cnd (decide (s.1.2.2.1 < (((List.length s.2.1) : Nat) : Int))) (((0 : Int) ≤ s.1.2.2.1) ∧ ((s.1.2.2.1 < (((List.length s.2.1) : Nat) : Int)) ∧ ((inK IntKind.i64 (s.1.2.1 + (1 : Int))) ∧ ((inK IntKind.i64 (s.1.2.2.1 + (1 : Int))) ∧ (next (((), ((s.1.2.1 + (1 : Int)), ((s.1.2.2.1 + (1 : Int)), ()))), ((List.set s.2.1 (Int.toNat s.1.2.2.1) s.1.2.1), ()))))))) (K s.2.1 s.1.2.1))))))) (((), (k, ((0 : Int), ()))), (a, ())))
theorem w_laws_markInt64S (a : List Int) (k : Int) (K : (List Int) → Int → Prop) : evFm tab (lkp []) (cutL []) Try.f21 (bodyOf Try.f21) (.s .n (.s (.s .n (.l [(0, (.ref 1000000 [])), (1, (.d (.int .i64))), (5, (.d (.int .i64)))] [(1000000, (.sl (.fz (.int .i64))))] [] .n)) .n)) m0_laws_markInt64S a k K = W_laws_markInt64S a k K := by kernel_rfl
theorem k_laws_markInt64S : okC Try.f21.ntmps (cutL []) (bodyOf Try.f21) = true := by kernel_rfl
theorem m_laws_markInt64S (a : List Int) (k : Int) (hok : allP (T.oks (.sl (.int .i64)) a)) (h0 : 0 ≤ k) (hpre : k + ckR (.sl (.int .i64)) a ≤ 4611686018427387904) : W_laws_markInt64S a k (fun y n => y = (mkR (.sl (.int .i64)) a k).1 ∧ n = (mkR (.sl (.int .i64)) a k).2) := by
  simp only [T.oks, T.ok, ap, allP, true_and, and_true, implies_true] at hok
  try dsimp only [T.den] at hok
  unfold W_laws_markInt64S
  refine mark_loop (e := .int .i64) (0 : Int) a k h0 hpre (fun k i l next i0 i1 hl hg k0 kb hn h1 h2 h3 => ?_) (fun i l next hi hl h1 h2 h3 => ?_)
  · try dsimp only
    simp only [ckR] at kb
    have hll := h3.1
    simp only [nb_eq] at hll
    exact cnd_d (fun _ => ⟨i0, i1, by rw [inK64]; (try dsimp only); omega, by rw [inK64]; (try dsimp only); omega, hn⟩) (fun h => absurd i1 h)
  · exact cnd_d (fun h => absurd h (by dsimp only; omega)) (fun _ => ⟨hl, rfl⟩)
theorem ct_laws_markInt64S : CtOk Try.prog 21 c_laws_markInt64S :=
  mt_of (Φ := lkp []) good_nil tab_ok (by kernel_rfl) (fn := Try.f21) (c := bodyOf Try.f21) (by kernel_rfl) (by kernel_rfl) (by kernel_rfl) m0_laws_markInt64S (.s .n (.s (.s .n (.l [(0, (.ref 1000000 [])), (1, (.d (.int .i64))), (5, (.d (.int .i64)))] [(1000000, (.sl (.fz (.int .i64))))] [] .n)) .n)) (cutL []) (by kernel_rfl) (by kernel_rfl) k_laws_markInt64S (by decide) (by kernel_rfl) (fun x k hk hok hp => (w_laws_markInt64S x k _).mpr (m_laws_markInt64S x k hok hp.1 hp.2.1))
def m0_laws_markInt64SS : Mt := ⟨(.sl (.sl (.fz (.int .i64)))), false, fun x k => [0 ≤ k, k + ckR (.sl (.sl (.int .i64))) x ≤ 4611686018427387904], fun x k => mkR (.sl (.sl (.int .i64))) x k⟩
def c_laws_markInt64SS : Ct := mtCt m0_laws_markInt64SS
def W_laws_markInt64SS (a : List (List Int)) (k : Int) (K : (List (List Int)) → Int → Prop) : Prop := (loopW (S := ((Unit × (Int × (Int × Unit))) × ((List (List Int)) × Unit))) (fun s => (fun next => ((inK IntKind.i64 s.1.2.1) → ((inK IntKind.i64 s.1.2.2.1) → ((T.ok (T.sl (T.sl (T.int IntKind.i64))) s.2.1) → (cnd (decide (s.1.2.2.1 < (((List.length s.2.1) : Nat) : Int))) (((0 : Int) ≤ s.1.2.2.1) ∧ ((s.1.2.2.1 < (((List.length s.2.1) : Nat) : Int)) ∧ (((0 : Int) ≤ s.1.2.1) ∧ (((s.1.2.1 + (((ckR (T.sl (T.int IntKind.i64)) (List.getD s.2.1 (Int.toNat s.1.2.2.1) ([] : List Int))) : Nat) : Int)) ≤ (4611686018427387904 : Int)) ∧ ((inK IntKind.i64 (s.1.2.2.1 + (1 : Int))) ∧ (next (((), ((mkR (T.sl (T.int IntKind.i64)) (List.getD s.2.1 (Int.toNat s.1.2.2.1) ([] : List Int)) s.1.2.1).2, ((s.1.2.2.1 + (1 : Int)), ()))), ((List.set s.2.1 (Int.toNat s.1.2.2.1) (mkR (T.sl (T.int IntKind.i64)) (List.getD s.2.1 (Int.toNat s.1.2.2.1) ([] : List Int)) s.1.2.1).1), ())))))))) (K s.2.1 s.1.2.1))))))) (((), (k, ((0 : Int), ()))), (a, ())))
theorem w_laws_markInt64SS (a : List (List Int)) (k : Int) (K : (List (List Int)) → Int → Prop) : evFm tab (lkp [(21, c_laws_markInt64S)]) (cutL []) Try.f46 (bodyOf Try.f46) (.s .n (.s (.s .n (.l [(0, (.ref 1000000 [])), (1, (.d (.int .i64))), (5, (.d (.int .i64)))] [(1000000, (.sl (.sl (.fz (.int .i64)))))] [] .n)) .n)) m0_laws_markInt64SS a k K = W_laws_markInt64SS a k K := by kernel_rfl
theorem k_laws_markInt64SS : okC Try.f46.ntmps (cutL []) (bodyOf Try.f46) = true := by kernel_rfl
theorem m_laws_markInt64SS (a : List (List Int)) (k : Int) (hok : allP (T.oks (.sl (.sl (.int .i64))) a)) (h0 : 0 ≤ k) (hpre : k + ckR (.sl (.sl (.int .i64))) a ≤ 4611686018427387904) : W_laws_markInt64SS a k (fun y n => y = (mkR (.sl (.sl (.int .i64))) a k).1 ∧ n = (mkR (.sl (.sl (.int .i64))) a k).2) := by
  simp only [T.oks, T.ok, ap, allP, true_and, and_true, implies_true] at hok
  try dsimp only [T.den] at hok
  unfold W_laws_markInt64SS
  refine mark_loop (e := (.sl (.int .i64))) ([] : List Int) a k h0 hpre (fun k i l next i0 i1 hl hg k0 kb hn h1 h2 h3 => ?_) (fun i l next hi hl h1 h2 h3 => ?_)
  · try dsimp only
    have hll := h3.1
    simp only [nb_eq] at hll
    rw [hg]
    exact cnd_d (fun _ => ⟨i0, i1, k0, kb, by rw [inK64]; (try dsimp only); omega, hn⟩) (fun h => absurd i1 h)
  · exact cnd_d (fun h => absurd h (by dsimp only; omega)) (fun _ => ⟨hl, rfl⟩)
theorem ct_laws_markInt64SS : CtOk Try.prog 46 c_laws_markInt64SS :=
  mt_of (Φ := lkp [(21, c_laws_markInt64S)]) (good_cons ct_laws_markInt64S good_nil) tab_ok (by kernel_rfl) (fn := Try.f46) (c := bodyOf Try.f46) (by kernel_rfl) (by kernel_rfl) (by kernel_rfl) m0_laws_markInt64SS (.s .n (.s (.s .n (.l [(0, (.ref 1000000 [])), (1, (.d (.int .i64))), (5, (.d (.int .i64)))] [(1000000, (.sl (.sl (.fz (.int .i64)))))] [] .n)) .n)) (cutL []) (by kernel_rfl) (by kernel_rfl) k_laws_markInt64SS (by decide) (by kernel_rfl) (fun x k hk hok hp => (w_laws_markInt64SS x k _).mpr (m_laws_markInt64SS x k hok hp.1 hp.2.1))
def m0_laws_markCategory : Mt := ⟨CategoryO, true, fun x k => [0 ≤ k, k + ctR CategoryT x ≤ 4611686018427387904], fun x k => mtR CategoryT x k⟩
def c_laws_markCategory : Ct := mtCt m0_laws_markCategory
def W_laws_markCategory (a : CategoryD) (k : Int) (K : CategoryD → Int → Prop) : Prop := (((0 : Int) ≤ k) ∧ (((k + (((ckR (T.sl (T.int IntKind.i64)) a.2.1) : Nat) : Int)) ≤ (4611686018427387904 : Int)) ∧ (((0 : Int) ≤ (mkR (T.sl (T.int IntKind.i64)) a.2.1 k).2) ∧ ((((mkR (T.sl (T.int IntKind.i64)) a.2.1 k).2 + (((ckR (T.sl (T.int IntKind.i64)) a.2.2.1) : Nat) : Int)) ≤ (4611686018427387904 : Int)) ∧ (((0 : Int) ≤ (mkR (T.sl (T.int IntKind.i64)) a.2.2.1 (mkR (T.sl (T.int IntKind.i64)) a.2.1 k).2).2) ∧ ((((mkR (T.sl (T.int IntKind.i64)) a.2.2.1 (mkR (T.sl (T.int IntKind.i64)) a.2.1 k).2).2 + (((ckR (T.sl (T.int IntKind.i64)) a.2.2.2.1) : Nat) : Int)) ≤ (4611686018427387904 : Int)) ∧ (((0 : Int) ≤ (mkR (T.sl (T.int IntKind.i64)) a.2.2.2.1 (mkR (T.sl (T.int IntKind.i64)) a.2.2.1 (mkR (T.sl (T.int IntKind.i64)) a.2.1 k).2).2).2) ∧ ((((mkR (T.sl (T.int IntKind.i64)) a.2.2.2.1 (mkR (T.sl (T.int IntKind.i64)) a.2.2.1 (mkR (T.sl (T.int IntKind.i64)) a.2.1 k).2).2).2 + (((ckR (T.sl (T.sl (T.int IntKind.i64))) a.2.2.2.2) : Nat) : Int)) ≤ (4611686018427387904 : Int)) ∧ (K (a.1, ((mkR (T.sl (T.int IntKind.i64)) a.2.1 k).1, ((mkR (T.sl (T.int IntKind.i64)) a.2.2.1 (mkR (T.sl (T.int IntKind.i64)) a.2.1 k).2).1, ((mkR (T.sl (T.int IntKind.i64)) a.2.2.2.1 (mkR (T.sl (T.int IntKind.i64)) a.2.2.1 (mkR (T.sl (T.int IntKind.i64)) a.2.1 k).2).2).1, (mkR (T.sl (T.sl (T.int IntKind.i64))) a.2.2.2.2 (mkR (T.sl (T.int IntKind.i64)) a.2.2.2.1 (mkR (T.sl (T.int IntKind.i64)) a.2.2.1 (mkR (T.sl (T.int IntKind.i64)) a.2.1 k).2).2).2).1)))) (mkR (T.sl (T.sl (T.int IntKind.i64))) a.2.2.2.2 (mkR (T.sl (T.int IntKind.i64)) a.2.2.2.1 (mkR (T.sl (T.int IntKind.i64)) a.2.2.1 (mkR (T.sl (T.int IntKind.i64)) a.2.1 k).2).2).2).2)))))))))
theorem w_laws_markCategory (a : CategoryD) (k : Int) (K : CategoryD → Int → Prop) : evFm tab (lkp [(21, c_laws_markInt64S), (46, c_laws_markInt64SS)]) (cutL []) Try.f20 (bodyOf Try.f20) .n m0_laws_markCategory a k K = W_laws_markCategory a k K := by kernel_rfl
theorem k_laws_markCategory : okC Try.f20.ntmps (cutL []) (bodyOf Try.f20) = true := by kernel_rfl
theorem m_laws_markCategory (a : CategoryD) (k : Int) (hok : allP (T.oks CategoryT a)) (h0 : 0 ≤ k) (hpre : k + ctR CategoryT a ≤ 4611686018427387904) : W_laws_markCategory a k (fun y n => y = (mtR CategoryT a k).1 ∧ n = (mtR CategoryT a k).2) := by
  simp only [T.oks, T.ok, ap, allP, true_and, and_true, implies_true] at hok
  try dsimp only [T.den] at hok
  unfold W_laws_markCategory
  simp only [ctR] at hpre
  repeat' apply And.intro
  all_goals first | rfl | ((try simp only [mk_num, mt_num, ctR]); omega)
theorem ct_laws_markCategory : CtOk Try.prog 20 c_laws_markCategory :=
  mt_of (Φ := lkp [(21, c_laws_markInt64S), (46, c_laws_markInt64SS)]) (good_cons ct_laws_markInt64S (good_cons ct_laws_markInt64SS good_nil)) tab_ok (by kernel_rfl) (fn := Try.f20) (c := bodyOf Try.f20) (by kernel_rfl) (by kernel_rfl) (by kernel_rfl) m0_laws_markCategory .n (cutL []) (by kernel_rfl) (by kernel_rfl) k_laws_markCategory (by decide) (by kernel_rfl) (fun x k hk hok hp => (w_laws_markCategory x k _).mpr (m_laws_markCategory x k hok hp.1 hp.2.1))
def c_laws_szInt64S : Ct := ⟨[(.sl (.int .i64)), (.int .i64)], [false, false], fun x => [-4611545280939032576 ≤ x.2.1], [(false, (.fz (.int .i64)))], fun x => (szR (wR (.sl (.int .i64)) x.1) x.2.1, ()), false, none⟩
def W_laws_szInt64S (a : List Int) (left : Int) (K : Int × Unit → Prop) : Prop := ((inK IntKind.i64 (left - (((List.length a) : Nat) : Int))) ∧ (cnd (decide ((left - (((List.length a) : Nat) : Int)) < (0 : Int))) (K ((-(1 : Int)), ())) (K ((left - (((List.length a) : Nat) : Int)), ()))))
theorem w_laws_szInt64S (x : denL c_laws_szInt64S.args) (K : Int × Unit → Prop) : evF tab (lkp []) (cutL []) Try.f54 (bodyOf Try.f54) .n c_laws_szInt64S x K = W_laws_szInt64S x.1 x.2.1 K := by kernel_rfl
theorem k_laws_szInt64S : okC Try.f54.ntmps (cutL []) (bodyOf Try.f54) = true := by kernel_rfl
theorem m_laws_szInt64S (a : List Int) (left : Int) (hok : allP (okL c_laws_szInt64S.args (a, left, ()))) (hpre : allP (c_laws_szInt64S.pre (a, left, ()))) : W_laws_szInt64S a left (fun r => r = c_laws_szInt64S.res (a, left, ())) := by
  simp only [c_laws_szInt64S, okL, T.oks, T.ok, ap, allP, true_and, and_true, implies_true] at hok hpre
  try dsimp only [T.den] at hok
  try dsimp only [T.den] at hpre
  unfold W_laws_szInt64S
  simp only [c_laws_szInt64S, wR_ints]
  grind [cnd, nb_eq, inK64, szR]
theorem ct_laws_szInt64S : CtOk Try.prog 54 c_laws_szInt64S :=
  ct_by (Φ := lkp []) good_nil tab_ok (by kernel_rfl) (fn := Try.f54) (c := bodyOf Try.f54) (by kernel_rfl) (by kernel_rfl) (by kernel_rfl) c_laws_szInt64S rfl .n (cutL []) (by kernel_rfl) (by kernel_rfl) k_laws_szInt64S (by decide) (fun x K => W_laws_szInt64S x.1 x.2.1 K) w_laws_szInt64S (fun x h1 h2 => m_laws_szInt64S x.1 x.2.1 h1 h2)
def c_laws_szInt64SS : Ct := ⟨[(.sl (.sl (.int .i64))), (.int .i64)], [false, false], fun x => [-4611404543450677248 ≤ x.2.1], [(false, (.fz (.int .i64)))], fun x => (szR (wR (.sl (.sl (.int .i64))) x.1) x.2.1, ()), false, none⟩
def W_laws_szInt64SS (a : List (List Int)) (left : Int) (K : Int × Unit → Prop) : Prop := ((inK IntKind.i64 (left - (((List.length a) : Nat) : Int))) ∧ (cnd (decide ((left - (((List.length a) : Nat) : Int)) < (0 : Int))) (K ((-(1 : Int)), ())) (loopW (S := ((Int × (Int × Unit)) × Unit)) (fun s => (fun next => ((inK IntKind.i64 s.1.1) → ((inK IntKind.i64 s.1.2.1) → (cnd (decide (s.1.2.1 < (((List.length a) : Nat) : Int))) (((0 : Int) ≤ s.1.2.1) ∧ ((s.1.2.1 < (((List.length a) : Nat) : Int)) ∧ (((-(4611545280939032576 : Int)) ≤ s.1.1) ∧ (cnd (decide ((szR (wR (T.sl (T.int IntKind.i64)) (List.getD a (Int.toNat s.1.2.1) ([] : List Int))) s.1.1) < (0 : Int))) (K ((-(1 : Int)), ())) ((inK IntKind.i64 (s.1.2.1 + (1 : Int))) ∧ (next (((szR (wR (T.sl (T.int IntKind.i64)) (List.getD a (Int.toNat s.1.2.1) ([] : List Int))) s.1.1), ((s.1.2.1 + (1 : Int)), ())), ()))))))) (K (s.1.1, ()))))))) (((left - (((List.length a) : Nat) : Int)), ((0 : Int), ())), ()))))
theorem w_laws_szInt64SS (x : denL c_laws_szInt64SS.args) (K : Int × Unit → Prop) : evF tab (lkp [(54, c_laws_szInt64S)]) (cutL []) Try.f32 (bodyOf Try.f32) (.s .n (.s .n (.s .n (.s (.s .n (.l [(1, (.d (.int .i64))), (5, (.d (.int .i64)))] [] [0] .n)) .n)))) c_laws_szInt64SS x K = W_laws_szInt64SS x.1 x.2.1 K := by kernel_rfl
theorem k_laws_szInt64SS : okC Try.f32.ntmps (cutL []) (bodyOf Try.f32) = true := by kernel_rfl
theorem m_laws_szInt64SS (a : List (List Int)) (left : Int) (hok : allP (okL c_laws_szInt64SS.args (a, left, ()))) (hpre : allP (c_laws_szInt64SS.pre (a, left, ()))) : W_laws_szInt64SS a left (fun r => r = c_laws_szInt64SS.res (a, left, ())) := by
  simp only [c_laws_szInt64SS, okL, T.oks, T.ok, ap, allP, true_and, and_true, implies_true] at hok hpre
  try dsimp only [T.den] at hok
  try dsimp only [T.den] at hpre
  unfold W_laws_szInt64SS
  have hr := szR_ge (x := a.length) (r := (a.map (wR (.sl (.int .i64)))).sum) (l := left)
  refine ⟨by grind [cnd, nb_eq, inK64], cnd_d (fun hc => ?_) (fun hc => ?_)⟩
  · simp only [c_laws_szInt64SS]; rw [wR_sl, szR_lt (x := a.length) (by omega)]
  replace hr := hr (by omega)
  rw [szR_val (x := a.length) (by omega)] at hr
  refine loop_of (fun (s : ((Int × (Int × Unit)) × Unit)) => 0 ≤ s.1.1 ∧ 0 ≤ s.1.2.1 ∧ s.1.2.1 ≤ a.length ∧ szR (wR (.sl (.sl (.int .i64))) a) left = szR ((a.drop s.1.2.1.toNat).map (wR (.sl (.int .i64)))).sum s.1.1) (fun (s : ((Int × (Int × Unit)) × Unit)) => (a.length - s.1.2.1).toNat) ?_ ⟨(by first | omega | (dsimp only; omega)), by simp, by simp, by rw [wR_sl]; simpa using hr⟩
  rintro ⟨⟨l, i, _⟩, _⟩ next ⟨h0, h1, h2, h3⟩ hn hin hl
  simp only at h0 h1 h2 h3 hn ⊢
  refine cnd_d (fun hc => ?_) (fun hc => ?_)
  · rw [drop_c a ([] : List Int) h1 hc, List.map_cons, List.sum_cons] at h3
    refine ⟨by omega, by omega, by omega, cnd_d (fun hd => ?_) (fun hd => ?_)⟩
    · rw [szR_neg] at hd
      rw [szR_lt hd] at h3
      simp only [c_laws_szInt64SS]; rw [h3]
    · rw [szR_neg] at hd
      rw [szR_ge hd] at h3
      exact ⟨by grind [cnd, nb_eq, inK64], hn _ ⟨by simp only; rw [szR_val hd]; omega, (by first | omega | (dsimp only; omega)), (by first | omega | (dsimp only; omega)), h3⟩ (by first | omega | (dsimp only; omega))⟩
  · rw [drop_n a (by omega)] at h3
    simp only [List.map_nil, List.sum_nil] at h3
    rw [szR_zero h0] at h3
    simp only [c_laws_szInt64SS]; rw [h3]
theorem ct_laws_szInt64SS : CtOk Try.prog 32 c_laws_szInt64SS :=
  ct_by (Φ := lkp [(54, c_laws_szInt64S)]) (good_cons ct_laws_szInt64S good_nil) tab_ok (by kernel_rfl) (fn := Try.f32) (c := bodyOf Try.f32) (by kernel_rfl) (by kernel_rfl) (by kernel_rfl) c_laws_szInt64SS rfl (.s .n (.s .n (.s .n (.s (.s .n (.l [(1, (.d (.int .i64))), (5, (.d (.int .i64)))] [] [0] .n)) .n)))) (cutL []) (by kernel_rfl) (by kernel_rfl) k_laws_szInt64SS (by decide) (fun x K => W_laws_szInt64SS x.1 x.2.1 K) w_laws_szInt64SS (fun x h1 h2 => m_laws_szInt64SS x.1 x.2.1 h1 h2)
def c_laws_szCategory : Ct := ⟨[CategoryT, (.int .i64)], [true, false], fun x => [-4611404543450677248 ≤ x.2.1], [(false, (.fz (.int .i64)))], fun x => (szR (wR CategoryT x.1) x.2.1, ()), false, none⟩
def W_laws_szCategory (a : CategoryD) (left : Int) (K : Int × Unit → Prop) : Prop := (((-(4611545280939032576 : Int)) ≤ left) ∧ (cnd (decide ((szR (wR (T.sl (T.int IntKind.i64)) a.2.1) left) < (0 : Int))) (K ((-(1 : Int)), ())) (((-(4611545280939032576 : Int)) ≤ (szR (wR (T.sl (T.int IntKind.i64)) a.2.1) left)) ∧ (cnd (decide ((szR (wR (T.sl (T.int IntKind.i64)) a.2.2.1) (szR (wR (T.sl (T.int IntKind.i64)) a.2.1) left)) < (0 : Int))) (K ((-(1 : Int)), ())) (((-(4611545280939032576 : Int)) ≤ (szR (wR (T.sl (T.int IntKind.i64)) a.2.2.1) (szR (wR (T.sl (T.int IntKind.i64)) a.2.1) left))) ∧ (cnd (decide ((szR (wR (T.sl (T.int IntKind.i64)) a.2.2.2.1) (szR (wR (T.sl (T.int IntKind.i64)) a.2.2.1) (szR (wR (T.sl (T.int IntKind.i64)) a.2.1) left))) < (0 : Int))) (K ((-(1 : Int)), ())) (((-(4611404543450677248 : Int)) ≤ (szR (wR (T.sl (T.int IntKind.i64)) a.2.2.2.1) (szR (wR (T.sl (T.int IntKind.i64)) a.2.2.1) (szR (wR (T.sl (T.int IntKind.i64)) a.2.1) left)))) ∧ (cnd (decide ((szR (wR (T.sl (T.sl (T.int IntKind.i64))) a.2.2.2.2) (szR (wR (T.sl (T.int IntKind.i64)) a.2.2.2.1) (szR (wR (T.sl (T.int IntKind.i64)) a.2.2.1) (szR (wR (T.sl (T.int IntKind.i64)) a.2.1) left)))) < (0 : Int))) (K ((-(1 : Int)), ())) (K ((szR (wR (T.sl (T.sl (T.int IntKind.i64))) a.2.2.2.2) (szR (wR (T.sl (T.int IntKind.i64)) a.2.2.2.1) (szR (wR (T.sl (T.int IntKind.i64)) a.2.2.1) (szR (wR (T.sl (T.int IntKind.i64)) a.2.1) left)))), ()))))))))))
theorem w_laws_szCategory (x : denL c_laws_szCategory.args) (K : Int × Unit → Prop) : evF tab (lkp [(54, c_laws_szInt64S), (32, c_laws_szInt64SS)]) (cutL []) Try.f13 (bodyOf Try.f13) .n c_laws_szCategory x K = W_laws_szCategory x.1 x.2.1 K := by kernel_rfl
theorem k_laws_szCategory : okC Try.f13.ntmps (cutL []) (bodyOf Try.f13) = true := by kernel_rfl
theorem m_laws_szCategory (a : CategoryD) (left : Int) (hok : allP (okL c_laws_szCategory.args (a, left, ()))) (hpre : allP (c_laws_szCategory.pre (a, left, ()))) : W_laws_szCategory a left (fun r => r = c_laws_szCategory.res (a, left, ())) := by
  simp only [c_laws_szCategory, okL, T.oks, T.ok, ap, allP, true_and, and_true, implies_true] at hok hpre
  try dsimp only [T.den] at hok
  try dsimp only [T.den] at hpre
  unfold W_laws_szCategory
  simp only [c_laws_szCategory, wR_p, wR_int, wR_bool, Nat.zero_add, Nat.add_zero]
  grind [cnd, nb_eq, inK64, szR]
theorem ct_laws_szCategory : CtOk Try.prog 13 c_laws_szCategory :=
  ct_by (Φ := lkp [(54, c_laws_szInt64S), (32, c_laws_szInt64SS)]) (good_cons ct_laws_szInt64S (good_cons ct_laws_szInt64SS good_nil)) tab_ok (by kernel_rfl) (fn := Try.f13) (c := bodyOf Try.f13) (by kernel_rfl) (by kernel_rfl) (by kernel_rfl) c_laws_szCategory rfl .n (cutL []) (by kernel_rfl) (by kernel_rfl) k_laws_szCategory (by decide) (fun x K => W_laws_szCategory x.1 x.2.1 K) w_laws_szCategory (fun x h1 h2 => m_laws_szCategory x.1 x.2.1 h1 h2)
def c_laws_toInt64S : Ct := ⟨[(.sl (.int .i64))], [false], fun x => [wR (.sl (.int .i64)) x.1 ≤ 1099511627776], [(false, (.sl (.fz (.int .i64))))], fun x => (x.1, ()), false, none⟩
def W_laws_toInt64S (a : List Int) (K : (List Int) × Unit → Prop) : Prop := (((0 : Int) ≤ (((List.length a) : Nat) : Int)) ∧ (((((List.length a) : Nat) : Int) ≤ (((List.length a) : Nat) : Int)) ∧ (((((List.length a) : Nat) : Int) ≤ ((140737488355328 : Nat) : Int)) ∧ ((((((List.length a) : Nat) : Int) * ((8 : Nat) : Int)) ≤ ((140737488355328 : Nat) : Int)) ∧ (loopW (S := ((Unit × (Int × Unit)) × ((List Int) × Unit))) (fun s => (fun next => ((inK IntKind.i64 s.1.2.1) → ((T.ok (T.sl (T.int IntKind.i64)) s.2.1) → (cnd (decide (s.1.2.1 < (((List.length a) : Nat) : Int))) (((0 : Int) ≤ s.1.2.1) ∧ ((s.1.2.1 < (((List.length a) : Nat) : Int)) ∧ (((0 : Int) ≤ s.1.2.1) ∧ ((s.1.2.1 < (((List.length s.2.1) : Nat) : Int)) ∧ ((inK IntKind.i64 (s.1.2.1 + (1 : Int))) ∧ (next (((), ((s.1.2.1 + (1 : Int)), ())), ((List.set s.2.1 (Int.toNat s.1.2.1) (List.getD a (Int.toNat s.1.2.1) (0 : Int))), ())))))))) (K (s.2.1, ()))))))) (((), ((0 : Int), ())), ((List.replicate (Int.toNat (((List.length a) : Nat) : Int)) (0 : Int)), ())))))))
theorem w_laws_toInt64S (x : denL c_laws_toInt64S.args) (K : (List Int) × Unit → Prop) : evF tab (lkp []) (cutL []) Try.f16 (bodyOf Try.f16) (.s .n (.s .n (.s (.s .n (.l [(3, (.ref 7 [])), (4, (.d (.int .i64)))] [(7, (.sl (.fz (.int .i64))))] [0] .n)) .n))) c_laws_toInt64S x K = W_laws_toInt64S x.1 K := by kernel_rfl
theorem k_laws_toInt64S : okC Try.f16.ntmps (cutL []) (bodyOf Try.f16) = true := by kernel_rfl
theorem m_laws_toInt64S (a : List Int) (hok : allP (okL c_laws_toInt64S.args (a, ()))) (hpre : allP (c_laws_toInt64S.pre (a, ()))) : W_laws_toInt64S a (fun r => r = c_laws_toInt64S.res (a, ())) := by
  simp only [c_laws_toInt64S, okL, T.oks, T.ok, ap, allP, true_and, and_true, implies_true] at hok hpre
  try dsimp only [T.den] at hok
  try dsimp only [T.den] at hpre
  unfold W_laws_toInt64S
  rw [wR_sl] at hpre
  refine ⟨by omega, by omega, by first | omega | (rw [nb_eq]; omega), by first | omega | (rw [nb_eq]; omega), ?_⟩
  refine loop_of (fun (s : ((Unit × (Int × Unit)) × ((List Int) × Unit))) => 0 ≤ s.1.2.1 ∧ s.1.2.1 ≤ a.length ∧ s.2.1.length = a.length ∧ s.2.1.take s.1.2.1.toNat = a.take s.1.2.1.toNat) (fun (s : ((Unit × (Int × Unit)) × ((List Int) × Unit))) => (a.length - s.1.2.1).toNat) ?_ (by simp)
  rintro ⟨⟨_, i, _⟩, l, _⟩ next ⟨h0, h1, h2, h3⟩ hn hin hl
  simp only at h0 h1 h2 h3 hn ⊢
  refine cnd_d (fun hc => ?_) (fun hc => ?_)
  · refine ⟨by omega, by omega, by omega, by omega, by grind [cnd, nb_eq, inK64], hn _ ⟨(by first | omega | (dsimp only; omega)), (by first | omega | (dsimp only; omega)), by simp [h2], ?_⟩ (by first | omega | (dsimp only; omega))⟩
    simp only
    rw [take_c a (0 : Int) h0 hc, ← h3]
    exact take_set l h0 (by omega) _
  · rw [take_n a (by omega), take_n l (by omega)] at h3
    simp [h3, c_laws_toInt64S]
theorem ct_laws_toInt64S : CtOk Try.prog 16 c_laws_toInt64S :=
  ct_by (Φ := lkp []) good_nil tab_ok (by kernel_rfl) (fn := Try.f16) (c := bodyOf Try.f16) (by kernel_rfl) (by kernel_rfl) (by kernel_rfl) c_laws_toInt64S rfl (.s .n (.s .n (.s (.s .n (.l [(3, (.ref 7 [])), (4, (.d (.int .i64)))] [(7, (.sl (.fz (.int .i64))))] [0] .n)) .n))) (cutL []) (by kernel_rfl) (by kernel_rfl) k_laws_toInt64S (by decide) (fun x K => W_laws_toInt64S x.1 K) w_laws_toInt64S (fun x h1 h2 => m_laws_toInt64S x.1 h1 h2)
def c_laws_toInt64SS : Ct := ⟨[(.sl (.sl (.int .i64)))], [false], fun x => [wR (.sl (.sl (.int .i64))) x.1 ≤ 1099511627776], [(false, (.sl (.sl (.fz (.int .i64)))))], fun x => (x.1, ()), false, none⟩
def W_laws_toInt64SS (a : List (List Int)) (K : (List (List Int)) × Unit → Prop) : Prop := (((0 : Int) ≤ (((List.length a) : Nat) : Int)) ∧ (((((List.length a) : Nat) : Int) ≤ (((List.length a) : Nat) : Int)) ∧ (((((List.length a) : Nat) : Int) ≤ ((140737488355328 : Nat) : Int)) ∧ ((((((List.length a) : Nat) : Int) * ((24 : Nat) : Int)) ≤ ((140737488355328 : Nat) : Int)) ∧ (loopW (S := ((Unit × (Int × Unit)) × ((List (List Int)) × Unit))) (fun s => (fun next => ((inK IntKind.i64 s.1.2.1) → ((T.ok (T.sl (T.sl (T.int IntKind.i64))) s.2.1) → (cnd (decide (s.1.2.1 < (((List.length a) : Nat) : Int))) (((0 : Int) ≤ s.1.2.1) ∧ ((s.1.2.1 < (((List.length a) : Nat) : Int)) ∧ (((wR (T.sl (T.int IntKind.i64)) (List.getD a (Int.toNat s.1.2.1) ([] : List Int))) ≤ 1099511627776) ∧ (((0 : Int) ≤ s.1.2.1) ∧ ((s.1.2.1 < (((List.length s.2.1) : Nat) : Int)) ∧ ((inK IntKind.i64 (s.1.2.1 + (1 : Int))) ∧ (next (((), ((s.1.2.1 + (1 : Int)), ())), ((List.set s.2.1 (Int.toNat s.1.2.1) (List.getD a (Int.toNat s.1.2.1) ([] : List Int))), ()))))))))) (K (s.2.1, ()))))))) (((), ((0 : Int), ())), ((List.replicate (Int.toNat (((List.length a) : Nat) : Int)) ([] : List Int)), ())))))))
theorem w_laws_toInt64SS (x : denL c_laws_toInt64SS.args) (K : (List (List Int)) × Unit → Prop) : evF tab (lkp [(16, c_laws_toInt64S)]) (cutL []) Try.f35 (bodyOf Try.f35) (.s .n (.s .n (.s (.s .n (.l [(3, (.ref 7 [])), (4, (.d (.int .i64)))] [(7, (.sl (.sl (.fz (.int .i64)))))] [0] .n)) .n))) c_laws_toInt64SS x K = W_laws_toInt64SS x.1 K := by kernel_rfl
theorem k_laws_toInt64SS : okC Try.f35.ntmps (cutL []) (bodyOf Try.f35) = true := by kernel_rfl
theorem m_laws_toInt64SS (a : List (List Int)) (hok : allP (okL c_laws_toInt64SS.args (a, ()))) (hpre : allP (c_laws_toInt64SS.pre (a, ()))) : W_laws_toInt64SS a (fun r => r = c_laws_toInt64SS.res (a, ())) := by
  simp only [c_laws_toInt64SS, okL, T.oks, T.ok, ap, allP, true_and, and_true, implies_true] at hok hpre
  try dsimp only [T.den] at hok
  try dsimp only [T.den] at hpre
  unfold W_laws_toInt64SS
  rw [wR_sl] at hpre
  refine ⟨by omega, by omega, by first | omega | (rw [nb_eq]; omega), by first | omega | (rw [nb_eq]; omega), ?_⟩
  refine loop_of (fun (s : ((Unit × (Int × Unit)) × ((List (List Int)) × Unit))) => 0 ≤ s.1.2.1 ∧ s.1.2.1 ≤ a.length ∧ s.2.1.length = a.length ∧ s.2.1.take s.1.2.1.toNat = a.take s.1.2.1.toNat) (fun (s : ((Unit × (Int × Unit)) × ((List (List Int)) × Unit))) => (a.length - s.1.2.1).toNat) ?_ (by simp)
  rintro ⟨⟨_, i, _⟩, l, _⟩ next ⟨h0, h1, h2, h3⟩ hn hin hl
  simp only at h0 h1 h2 h3 hn ⊢
  refine cnd_d (fun hc => ?_) (fun hc => ?_)
  · have hm := wR_mem (e := (.sl (.int .i64))) (getD_mem a ([] : List Int) h0 hc)
    refine ⟨by omega, by omega, by omega, by omega, by omega, by grind [cnd, nb_eq, inK64], hn _ ⟨(by first | omega | (dsimp only; omega)), (by first | omega | (dsimp only; omega)), by simp [h2], ?_⟩ (by first | omega | (dsimp only; omega))⟩
    simp only
    rw [take_c a ([] : List Int) h0 hc, ← h3]
    exact take_set l h0 (by omega) _
  · rw [take_n a (by omega), take_n l (by omega)] at h3
    simp [h3, c_laws_toInt64SS]
theorem ct_laws_toInt64SS : CtOk Try.prog 35 c_laws_toInt64SS :=
  ct_by (Φ := lkp [(16, c_laws_toInt64S)]) (good_cons ct_laws_toInt64S good_nil) tab_ok (by kernel_rfl) (fn := Try.f35) (c := bodyOf Try.f35) (by kernel_rfl) (by kernel_rfl) (by kernel_rfl) c_laws_toInt64SS rfl (.s .n (.s .n (.s (.s .n (.l [(3, (.ref 7 [])), (4, (.d (.int .i64)))] [(7, (.sl (.sl (.fz (.int .i64)))))] [0] .n)) .n))) (cutL []) (by kernel_rfl) (by kernel_rfl) k_laws_toInt64SS (by decide) (fun x K => W_laws_toInt64SS x.1 K) w_laws_toInt64SS (fun x h1 h2 => m_laws_toInt64SS x.1 h1 h2)
def c_laws_toCategory : Ct := ⟨[CategoryT], [true], fun x => [wR CategoryT x.1 ≤ 1099511627776], [(true, CategoryO)], fun x => (x.1, ()), false, none⟩
def W_laws_toCategory (a : CategoryD) (K : CategoryD × Unit → Prop) : Prop := (((wR (T.sl (T.int IntKind.i64)) a.2.1) ≤ 1099511627776) ∧ (((wR (T.sl (T.int IntKind.i64)) a.2.2.1) ≤ 1099511627776) ∧ (((wR (T.sl (T.int IntKind.i64)) a.2.2.2.1) ≤ 1099511627776) ∧ (((wR (T.sl (T.sl (T.int IntKind.i64))) a.2.2.2.2) ≤ 1099511627776) ∧ (K (a, ()))))))
theorem w_laws_toCategory (x : denL c_laws_toCategory.args) (K : CategoryD × Unit → Prop) : evF tab (lkp [(16, c_laws_toInt64S), (35, c_laws_toInt64SS)]) (cutL []) Try.f15 (bodyOf Try.f15) .n c_laws_toCategory x K = W_laws_toCategory x.1 K := by kernel_rfl
theorem k_laws_toCategory : okC Try.f15.ntmps (cutL []) (bodyOf Try.f15) = true := by kernel_rfl
theorem m_laws_toCategory (a : CategoryD) (hok : allP (okL c_laws_toCategory.args (a, ()))) (hpre : allP (c_laws_toCategory.pre (a, ()))) : W_laws_toCategory a (fun r => r = c_laws_toCategory.res (a, ())) := by
  simp only [c_laws_toCategory, okL, T.oks, T.ok, ap, allP, true_and, and_true, implies_true] at hok hpre
  try dsimp only [T.den] at hok
  try dsimp only [T.den] at hpre
  unfold W_laws_toCategory
  simp only [wR_p, wR_int, wR_bool] at hpre
  repeat' apply And.intro
  all_goals first | rfl | ((try simp only [wR_p, wR_int, wR_bool]); omega)
theorem ct_laws_toCategory : CtOk Try.prog 15 c_laws_toCategory :=
  ct_by (Φ := lkp [(16, c_laws_toInt64S), (35, c_laws_toInt64SS)]) (good_cons ct_laws_toInt64S (good_cons ct_laws_toInt64SS good_nil)) tab_ok (by kernel_rfl) (fn := Try.f15) (c := bodyOf Try.f15) (by kernel_rfl) (by kernel_rfl) (by kernel_rfl) c_laws_toCategory rfl .n (cutL []) (by kernel_rfl) (by kernel_rfl) k_laws_toCategory (by decide) (fun x K => W_laws_toCategory x.1 K) w_laws_toCategory (fun x h1 h2 => m_laws_toCategory x.1 h1 h2)
def c_spec_l01Has : Ct := ⟨[(.sl (.int .i64)), (.int .i64)], [false, false], fun x => [], [(false, (.fz .bool))], fun x => (hasR x.1 x.2.1, ()), false, none⟩
def W_spec_l01Has (list : List Int) (n : Int) (K : Bool × Unit → Prop) : Prop := (loopW (S := ((Int × Unit) × Unit)) (fun s => (fun next => ((inK IntKind.i64 s.1.1) → (cnd (decide (s.1.1 < (((List.length list) : Nat) : Int))) (((0 : Int) ≤ s.1.1) ∧ ((s.1.1 < (((List.length list) : Nat) : Int)) ∧ (cnd ((List.getD list (Int.toNat s.1.1) (0 : Int)) == n) (K (Bool.true, ())) ((inK IntKind.i64 (s.1.1 + (1 : Int))) ∧ (next (((s.1.1 + (1 : Int)), ()), ())))))) (K (Bool.false, ())))))) (((0 : Int), ()), ()))
theorem w_spec_l01Has (x : denL c_spec_l01Has.args) (K : Bool × Unit → Prop) : evF tab (lkp []) (cutL []) Try.f68 (bodyOf Try.f68) (.s .n (.s (.s .n (.l [(5, (.d (.int .i64)))] [] [0, 1] .n)) .n)) c_spec_l01Has x K = W_spec_l01Has x.1 x.2.1 K := by kernel_rfl
theorem k_spec_l01Has : okC Try.f68.ntmps (cutL []) (bodyOf Try.f68) = true := by kernel_rfl
theorem m_spec_l01Has (list : List Int) (n : Int) (hok : allP (okL c_spec_l01Has.args (list, n, ()))) (hpre : allP (c_spec_l01Has.pre (list, n, ()))) : W_spec_l01Has list n (fun r => r = c_spec_l01Has.res (list, n, ())) := by
  simp only [c_spec_l01Has, okL, T.oks, T.ok, ap, allP, true_and, and_true, implies_true] at hok hpre
  try dsimp only [T.den] at hok
  try dsimp only [T.den] at hpre
  unfold W_spec_l01Has
  refine loop_of (fun (s : ((Int × Unit) × Unit)) => 0 ≤ s.1.1 ∧ s.1.1 ≤ list.length ∧ hasR list n = hasR (list.drop s.1.1.toNat) n) (fun (s : ((Int × Unit) × Unit)) => (list.length - s.1.1).toNat) ?_ (by simp)
  rintro ⟨⟨i, _⟩, _⟩ next ⟨h0, h1, h2⟩ hn hin
  simp only at h0 h1 h2 hn ⊢
  refine cnd_d (fun hc => ?_) (fun hc => ?_)
  · rw [drop_c list 0 h0 hc] at h2
    simp only [hasR, List.any_cons] at h2
    grind [cnd, nb_eq, inK64, c_spec_l01Has, hasR]
  · rw [drop_n list (by omega)] at h2
    grind [cnd, nb_eq, inK64, c_spec_l01Has, hasR]
theorem ct_spec_l01Has : CtOk Try.prog 68 c_spec_l01Has :=
  ct_by (Φ := lkp []) good_nil tab_ok (by kernel_rfl) (fn := Try.f68) (c := bodyOf Try.f68) (by kernel_rfl) (by kernel_rfl) (by kernel_rfl) c_spec_l01Has rfl (.s .n (.s (.s .n (.l [(5, (.d (.int .i64)))] [] [0, 1] .n)) .n)) (cutL []) (by kernel_rfl) (by kernel_rfl) k_spec_l01Has (by decide) (fun x K => W_spec_l01Has x.1 x.2.1 K) w_spec_l01Has (fun x h1 h2 => m_spec_l01Has x.1 x.2.1 h1 h2)
def c_spec_l02Then : Ct := ⟨[CategoryT, (.int .i64), (.int .i64)], [true, false, false], fun x => [0 ≤ x.2.1, x.2.1 < x.1.2.2.2.2.length, 0 ≤ x.2.2.1, x.2.2.1 < (x.1.2.2.2.2.getD x.2.1.toNat []).length], [(false, (.fz (.int .i64)))], fun x => (compR x.1 x.2.1 x.2.2.1, ()), false, none⟩
def W_spec_l02Then (c : CategoryD) (f : Int) (g : Int) (K : Int × Unit → Prop) : Prop := (((0 : Int) ≤ f) ∧ ((f < (((List.length c.2.2.2.2) : Nat) : Int)) ∧ (((0 : Int) ≤ g) ∧ ((g < (((List.length (List.getD c.2.2.2.2 (Int.toNat f) ([] : List Int))) : Nat) : Int)) ∧ (K ((List.getD (List.getD c.2.2.2.2 (Int.toNat f) ([] : List Int)) (Int.toNat g) (0 : Int)), ()))))))
theorem w_spec_l02Then (x : denL c_spec_l02Then.args) (K : Int × Unit → Prop) : evF tab (lkp []) (cutL []) Try.f69 (bodyOf Try.f69) .n c_spec_l02Then x K = W_spec_l02Then x.1 x.2.1 x.2.2.1 K := by kernel_rfl
theorem k_spec_l02Then : okC Try.f69.ntmps (cutL []) (bodyOf Try.f69) = true := by kernel_rfl
theorem m_spec_l02Then (c : CategoryD) (f : Int) (g : Int) (hok : allP (okL c_spec_l02Then.args (c, f, g, ()))) (hpre : allP (c_spec_l02Then.pre (c, f, g, ()))) : W_spec_l02Then c f g (fun r => r = c_spec_l02Then.res (c, f, g, ())) := by
  simp only [c_spec_l02Then, okL, T.oks, T.ok, ap, allP, true_and, and_true, implies_true] at hok hpre
  try dsimp only [T.den] at hok
  try dsimp only [T.den] at hpre
  unfold W_spec_l02Then
  exact ⟨hpre.1, hpre.2.1, hpre.2.2.1, hpre.2.2.2, rfl⟩
theorem ct_spec_l02Then : CtOk Try.prog 69 c_spec_l02Then :=
  ct_by (Φ := lkp []) good_nil tab_ok (by kernel_rfl) (fn := Try.f69) (c := bodyOf Try.f69) (by kernel_rfl) (by kernel_rfl) (by kernel_rfl) c_spec_l02Then rfl .n (cutL []) (by kernel_rfl) (by kernel_rfl) k_spec_l02Then (by decide) (fun x K => W_spec_l02Then x.1 x.2.1 x.2.2.1 K) w_spec_l02Then (fun x h1 h2 => m_spec_l02Then x.1 x.2.1 x.2.2.1 h1 h2)
def c_spec_l01In : Ct := ⟨[(.int .i64), (.int .i64), (.int .i64)], [false, false, false], fun x => [], [(false, (.fz .bool))], fun x => (inR x.1 x.2.1 x.2.2.1, ()), false, none⟩
def W_spec_l01In (n : Int) (low : Int) (high : Int) (K : Bool × Unit → Prop) : Prop := (K (((decide (low ≤ n)) && (decide (n ≤ high))), ()))
theorem w_spec_l01In (x : denL c_spec_l01In.args) (K : Bool × Unit → Prop) : evF tab (lkp []) (cutL []) Try.f130 (bodyOf Try.f130) .n c_spec_l01In x K = W_spec_l01In x.1 x.2.1 x.2.2.1 K := by kernel_rfl
theorem k_spec_l01In : okC Try.f130.ntmps (cutL []) (bodyOf Try.f130) = true := by kernel_rfl
theorem m_spec_l01In (n : Int) (low : Int) (high : Int) (hok : allP (okL c_spec_l01In.args (n, low, high, ()))) (hpre : allP (c_spec_l01In.pre (n, low, high, ()))) : W_spec_l01In n low high (fun r => r = c_spec_l01In.res (n, low, high, ())) := by
  simp only [c_spec_l01In, okL, T.oks, T.ok, ap, allP, true_and, and_true, implies_true] at hok hpre
  try dsimp only [T.den] at hok
  try dsimp only [T.den] at hpre
  unfold W_spec_l01In
  grind [cnd, nb_eq, inK64, c_spec_l01In, inR]
theorem ct_spec_l01In : CtOk Try.prog 130 c_spec_l01In :=
  ct_by (Φ := lkp []) good_nil tab_ok (by kernel_rfl) (fn := Try.f130) (c := bodyOf Try.f130) (by kernel_rfl) (by kernel_rfl) (by kernel_rfl) c_spec_l01In rfl .n (cutL []) (by kernel_rfl) (by kernel_rfl) k_spec_l01In (by decide) (fun x K => W_spec_l01In x.1 x.2.1 x.2.2.1 K) w_spec_l01In (fun x h1 h2 => m_spec_l01In x.1 x.2.1 x.2.2.1 h1 h2)
def c_spec_l01Map : Ct := ⟨[(.int .i64), (.sl (.int .i64))], [false, false], fun x => [], [(false, (.fz .bool))], fun x => (withinR x.2.1 x.1, ()), false, none⟩
def W_spec_l01Map (n : Int) (f : List Int) (K : Bool × Unit → Prop) : Prop := (loopW (S := ((Int × Unit) × Unit)) (fun s => (fun next => ((inK IntKind.i64 s.1.1) → (cnd (decide (s.1.1 < (((List.length f) : Nat) : Int))) (((0 : Int) ≤ s.1.1) ∧ ((s.1.1 < (((List.length f) : Nat) : Int)) ∧ ((((decide ((List.getD f (Int.toNat s.1.1) (0 : Int)) < (0 : Int))) = Bool.false) → ((s.1.1 < (((List.length f) : Nat) : Int)) ∧ ((0 : Int) ≤ s.1.1))) ∧ (cnd ((decide ((List.getD f (Int.toNat s.1.1) (0 : Int)) < (0 : Int))) || (decide (n ≤ (List.getD f (Int.toNat s.1.1) (0 : Int))))) (K (Bool.false, ())) ((inK IntKind.i64 (s.1.1 + (1 : Int))) ∧ (next (((s.1.1 + (1 : Int)), ()), ()))))))) (K (Bool.true, ())))))) (((0 : Int), ()), ()))
theorem w_spec_l01Map (x : denL c_spec_l01Map.args) (K : Bool × Unit → Prop) : evF tab (lkp []) (cutL []) Try.f102 (bodyOf Try.f102) (.s .n (.s (.s .n (.l [(5, (.d (.int .i64)))] [] [0, 1] .n)) .n)) c_spec_l01Map x K = W_spec_l01Map x.1 x.2.1 K := by kernel_rfl
theorem k_spec_l01Map : okC Try.f102.ntmps (cutL []) (bodyOf Try.f102) = true := by kernel_rfl
theorem m_spec_l01Map (n : Int) (f : List Int) (hok : allP (okL c_spec_l01Map.args (n, f, ()))) (hpre : allP (c_spec_l01Map.pre (n, f, ()))) : W_spec_l01Map n f (fun r => r = c_spec_l01Map.res (n, f, ())) := by
  simp only [c_spec_l01Map, okL, T.oks, T.ok, ap, allP, true_and, and_true, implies_true] at hok hpre
  try dsimp only [T.den] at hok
  try dsimp only [T.den] at hpre
  unfold W_spec_l01Map
  refine loop_of (fun (s : ((Int × Unit) × Unit)) => 0 ≤ s.1.1 ∧ s.1.1 ≤ f.length ∧ withinR f n = withinR (f.drop s.1.1.toNat) n) (fun (s : ((Int × Unit) × Unit)) => (f.length - s.1.1).toNat) ?_ (by simp)
  rintro ⟨⟨i, _⟩, _⟩ next ⟨h0, h1, h2⟩ hn hin
  simp only at h0 h1 h2 hn ⊢
  refine cnd_d (fun hc => ?_) (fun hc => ?_)
  · rw [drop_c f 0 h0 hc] at h2
    simp only [withinR, List.all_cons] at h2
    grind [cnd, nb_eq, inK64, c_spec_l01Map, withinR, inR]
  · rw [drop_n f (by omega)] at h2
    grind [cnd, nb_eq, inK64, c_spec_l01Map, withinR]
theorem ct_spec_l01Map : CtOk Try.prog 102 c_spec_l01Map :=
  ct_by (Φ := lkp []) good_nil tab_ok (by kernel_rfl) (fn := Try.f102) (c := bodyOf Try.f102) (by kernel_rfl) (by kernel_rfl) (by kernel_rfl) c_spec_l01Map rfl (.s .n (.s (.s .n (.l [(5, (.d (.int .i64)))] [] [0, 1] .n)) .n)) (cutL []) (by kernel_rfl) (by kernel_rfl) k_spec_l01Map (by decide) (fun x K => W_spec_l01Map x.1 x.2.1 K) w_spec_l01Map (fun x h1 h2 => m_spec_l01Map x.1 x.2.1 h1 h2)
def c_spec_l02Ends : Ct := ⟨[(.sl (.int .i64)), (.int .i64), (.int .i64)], [false, false, false], fun x => [], [(false, (.fz .bool))], fun x => ((decide ((x.1.length : Int) = x.2.1) && withinR x.1 x.2.2.1), ()), false, none⟩
def W_spec_l02Ends (list : List Int) (length : Int) (objects : Int) (K : Bool × Unit → Prop) : Prop := (K ((((((List.length list) : Nat) : Int) == length) && (withinR list objects)), ()))
theorem w_spec_l02Ends (x : denL c_spec_l02Ends.args) (K : Bool × Unit → Prop) : evF tab (lkp [(102, c_spec_l01Map)]) (cutL []) Try.f131 (bodyOf Try.f131) .n c_spec_l02Ends x K = W_spec_l02Ends x.1 x.2.1 x.2.2.1 K := by kernel_rfl
theorem k_spec_l02Ends : okC Try.f131.ntmps (cutL []) (bodyOf Try.f131) = true := by kernel_rfl
theorem m_spec_l02Ends (list : List Int) (length : Int) (objects : Int) (hok : allP (okL c_spec_l02Ends.args (list, length, objects, ()))) (hpre : allP (c_spec_l02Ends.pre (list, length, objects, ()))) : W_spec_l02Ends list length objects (fun r => r = c_spec_l02Ends.res (list, length, objects, ())) := by
  simp only [c_spec_l02Ends, okL, T.oks, T.ok, ap, allP, true_and, and_true, implies_true] at hok hpre
  try dsimp only [T.den] at hok
  try dsimp only [T.den] at hpre
  unfold W_spec_l02Ends
  have : ((list.length : Int) == length) = decide ((list.length : Int) = length) := rfl
  simp only [c_spec_l02Ends, this]
theorem ct_spec_l02Ends : CtOk Try.prog 131 c_spec_l02Ends :=
  ct_by (Φ := lkp [(102, c_spec_l01Map)]) (good_cons ct_spec_l01Map good_nil) tab_ok (by kernel_rfl) (fn := Try.f131) (c := bodyOf Try.f131) (by kernel_rfl) (by kernel_rfl) (by kernel_rfl) c_spec_l02Ends rfl .n (cutL []) (by kernel_rfl) (by kernel_rfl) k_spec_l02Ends (by decide) (fun x K => W_spec_l02Ends x.1 x.2.1 x.2.2.1 K) w_spec_l02Ends (fun x h1 h2 => m_spec_l02Ends x.1 x.2.1 x.2.2.1 h1 h2)
def c_spec_IsShape : Ct := ⟨[CategoryT], [true], fun x => [], [(false, (.fz .bool))], fun x => (shapeR x.1, ()), false, none⟩
def W_spec_IsShape (c : CategoryD) (K : Bool × Unit → Prop) : Prop := (cnd (((((!(inR c.1 (0 : Int) (8 : Int))) || (decide ((40 : Int) < (((List.length c.2.1) : Nat) : Int)))) || (!((decide ((((List.length c.2.1) : Nat) : Int) = (((List.length c.2.1) : Nat) : Int))) && (withinR c.2.1 c.1)))) || (!((decide ((((List.length c.2.2.1) : Nat) : Int) = (((List.length c.2.1) : Nat) : Int))) && (withinR c.2.2.1 c.1)))) || ((((List.length c.2.2.2.2) : Nat) : Int) != (((List.length c.2.1) : Nat) : Int))) (K (Bool.false, ())) (cnd (((((List.length c.2.2.2.1) : Nat) : Int) != c.1) || (!(withinR c.2.2.2.1 (((List.length c.2.1) : Nat) : Int)))) (K (Bool.false, ())) (loopW (S := ((Int × Unit) × Unit)) (fun s => (fun next => ((inK IntKind.i64 s.1.1) → (cnd (decide (s.1.1 < c.1)) (((0 : Int) ≤ s.1.1) ∧ ((s.1.1 < (((List.length c.2.2.2.1) : Nat) : Int)) ∧ (((0 : Int) ≤ (List.getD c.2.2.2.1 (Int.toNat s.1.1) (0 : Int))) ∧ (((List.getD c.2.2.2.1 (Int.toNat s.1.1) (0 : Int)) < (((List.length c.2.1) : Nat) : Int)) ∧ (((((List.getD c.2.1 (Int.toNat (List.getD c.2.2.2.1 (Int.toNat s.1.1) (0 : Int))) (0 : Int)) != s.1.1) = Bool.false) → ((s.1.1 < (((List.length c.2.2.2.1) : Nat) : Int)) ∧ ((0 : Int) ≤ s.1.1))) ∧ (((((List.getD c.2.1 (Int.toNat (List.getD c.2.2.2.1 (Int.toNat s.1.1) (0 : Int))) (0 : Int)) != s.1.1) = Bool.false) → (((List.getD c.2.2.2.1 (Int.toNat s.1.1) (0 : Int)) < (((List.length c.2.2.1) : Nat) : Int)) ∧ ((0 : Int) ≤ (List.getD c.2.2.2.1 (Int.toNat s.1.1) (0 : Int))))) ∧ (cnd (((List.getD c.2.1 (Int.toNat (List.getD c.2.2.2.1 (Int.toNat s.1.1) (0 : Int))) (0 : Int)) != s.1.1) || ((List.getD c.2.2.1 (Int.toNat (List.getD c.2.2.2.1 (Int.toNat s.1.1) (0 : Int))) (0 : Int)) != s.1.1)) (K (Bool.false, ())) ((inK IntKind.i64 (s.1.1 + (1 : Int))) ∧ (next (((s.1.1 + (1 : Int)), ()), ())))))))))) (loopW (S := ((Int × Unit) × Unit)) (fun s1 => (fun next1 => ((inK IntKind.i64 s1.1.1) → (cnd (decide (s1.1.1 < (((List.length c.2.1) : Nat) : Int))) (((0 : Int) ≤ s1.1.1) ∧ ((s1.1.1 < (((List.length c.2.2.2.2) : Nat) : Int)) ∧ (cnd ((((List.length (List.getD c.2.2.2.2 (Int.toNat s1.1.1) ([] : List Int))) : Nat) : Int) != (((List.length c.2.1) : Nat) : Int)) (K (Bool.false, ())) (loopW (S := ((Int × Unit) × Unit)) (fun s2 => (fun next2 => ((inK IntKind.i64 s2.1.1) → (cnd (decide (s2.1.1 < (((List.length c.2.1) : Nat) : Int))) (joinW (S := (Unit × Unit)) (fun s3 => ((inK IntKind.i64 (s2.1.1 + (1 : Int))) ∧ (next2 (((s2.1.1 + (1 : Int)), ()), ())))) (fun k => (((0 : Int) ≤ s1.1.1) ∧ ((s1.1.1 < (((List.length c.2.2.2.2) : Nat) : Int)) ∧ (((0 : Int) ≤ s2.1.1) ∧ ((s2.1.1 < (((List.length (List.getD c.2.2.2.2 (Int.toNat s1.1.1) ([] : List Int))) : Nat) : Int)) ∧ (((0 : Int) ≤ s1.1.1) ∧ ((s1.1.1 < (((List.length c.2.2.1) : Nat) : Int)) ∧ (((0 : Int) ≤ s2.1.1) ∧ ((s2.1.1 < (((List.length c.2.1) : Nat) : Int)) ∧ (cnd ((List.getD c.2.2.1 (Int.toNat s1.1.1) (0 : Int)) != (List.getD c.2.1 (Int.toNat s2.1.1) (0 : Int))) (cnd ((List.getD (List.getD c.2.2.2.2 (Int.toNat s1.1.1) ([] : List Int)) (Int.toNat s2.1.1) (0 : Int)) != (-(1 : Int))) (K (Bool.false, ())) (k ((), ()))) (((((decide ((List.getD (List.getD c.2.2.2.2 (Int.toNat s1.1.1) ([] : List Int)) (Int.toNat s2.1.1) (0 : Int)) < (0 : Int))) || (decide ((((List.length c.2.1) : Nat) : Int) ≤ (List.getD (List.getD c.2.2.2.2 (Int.toNat s1.1.1) ([] : List Int)) (Int.toNat s2.1.1) (0 : Int))))) = Bool.false) → (((List.getD (List.getD c.2.2.2.2 (Int.toNat s1.1.1) ([] : List Int)) (Int.toNat s2.1.1) (0 : Int)) < (((List.length c.2.1) : Nat) : Int)) ∧ ((0 : Int) ≤ (List.getD (List.getD c.2.2.2.2 (Int.toNat s1.1.1) ([] : List Int)) (Int.toNat s2.1.1) (0 : Int))))) ∧ (((((decide ((List.getD (List.getD c.2.2.2.2 (Int.toNat s1.1.1) ([] : List Int)) (Int.toNat s2.1.1) (0 : Int)) < (0 : Int))) || (decide ((((List.length c.2.1) : Nat) : Int) ≤ (List.getD (List.getD c.2.2.2.2 (Int.toNat s1.1.1) ([] : List Int)) (Int.toNat s2.1.1) (0 : Int))))) = Bool.false) → ((s1.1.1 < (((List.length c.2.1) : Nat) : Int)) ∧ ((0 : Int) ≤ s1.1.1))) ∧ ((((((decide ((List.getD (List.getD c.2.2.2.2 (Int.toNat s1.1.1) ([] : List Int)) (Int.toNat s2.1.1) (0 : Int)) < (0 : Int))) || (decide ((((List.length c.2.1) : Nat) : Int) ≤ (List.getD (List.getD c.2.2.2.2 (Int.toNat s1.1.1) ([] : List Int)) (Int.toNat s2.1.1) (0 : Int))))) || ((List.getD c.2.1 (Int.toNat (List.getD (List.getD c.2.2.2.2 (Int.toNat s1.1.1) ([] : List Int)) (Int.toNat s2.1.1) (0 : Int))) (0 : Int)) != (List.getD c.2.1 (Int.toNat s1.1.1) (0 : Int)))) = Bool.false) → (((List.getD (List.getD c.2.2.2.2 (Int.toNat s1.1.1) ([] : List Int)) (Int.toNat s2.1.1) (0 : Int)) < (((List.length c.2.2.1) : Nat) : Int)) ∧ ((0 : Int) ≤ (List.getD (List.getD c.2.2.2.2 (Int.toNat s1.1.1) ([] : List Int)) (Int.toNat s2.1.1) (0 : Int))))) ∧ ((((((decide ((List.getD (List.getD c.2.2.2.2 (Int.toNat s1.1.1) ([] : List Int)) (Int.toNat s2.1.1) (0 : Int)) < (0 : Int))) || (decide ((((List.length c.2.1) : Nat) : Int) ≤ (List.getD (List.getD c.2.2.2.2 (Int.toNat s1.1.1) ([] : List Int)) (Int.toNat s2.1.1) (0 : Int))))) || ((List.getD c.2.1 (Int.toNat (List.getD (List.getD c.2.2.2.2 (Int.toNat s1.1.1) ([] : List Int)) (Int.toNat s2.1.1) (0 : Int))) (0 : Int)) != (List.getD c.2.1 (Int.toNat s1.1.1) (0 : Int)))) = Bool.false) → ((s2.1.1 < (((List.length c.2.2.1) : Nat) : Int)) ∧ ((0 : Int) ≤ s2.1.1))) ∧ (cnd ((((decide ((List.getD (List.getD c.2.2.2.2 (Int.toNat s1.1.1) ([] : List Int)) (Int.toNat s2.1.1) (0 : Int)) < (0 : Int))) || (decide ((((List.length c.2.1) : Nat) : Int) ≤ (List.getD (List.getD c.2.2.2.2 (Int.toNat s1.1.1) ([] : List Int)) (Int.toNat s2.1.1) (0 : Int))))) || ((List.getD c.2.1 (Int.toNat (List.getD (List.getD c.2.2.2.2 (Int.toNat s1.1.1) ([] : List Int)) (Int.toNat s2.1.1) (0 : Int))) (0 : Int)) != (List.getD c.2.1 (Int.toNat s1.1.1) (0 : Int)))) || ((List.getD c.2.2.1 (Int.toNat (List.getD (List.getD c.2.2.2.2 (Int.toNat s1.1.1) ([] : List Int)) (Int.toNat s2.1.1) (0 : Int))) (0 : Int)) != (List.getD c.2.2.1 (Int.toNat s2.1.1) (0 : Int)))) (K (Bool.false, ())) (k ((), ())))))))))))))))))) ((inK IntKind.i64 (s1.1.1 + (1 : Int))) ∧ (next1 (((s1.1.1 + (1 : Int)), ()), ()))))))) (((0 : Int), ()), ()))))) (K (Bool.true, ())))))) (((0 : Int), ()), ())))))) (((0 : Int), ()), ()))))
theorem w_spec_IsShape (x : denL c_spec_IsShape.args) (K : Bool × Unit → Prop) : evF tab (lkp [(130, c_spec_l01In), (102, c_spec_l01Map), (131, c_spec_l02Ends)]) (cutL [(20, 11), (23, 33), (9, 24)]) Try.f99 (bodyOf Try.f99) (.s .n (.s .n (.s .n (.s .n (.s (.s .n (.l [(4, (.d (.int .i64)))] [] [1, 3] .n)) (.s (.s .n (.l [(5, (.d (.int .i64)))] [] [1, 3] (.s .n (.s (.s .n (.s .n (.l [(6, (.d (.int .i64)))] [] [1, 3, 5] (.s .n (.s (.j [] [] [1, 3, 5, 6] .n) .n))))) .n)))) .n)))))) c_spec_IsShape x K = W_spec_IsShape x.1 K := by kernel_rfl
theorem k_spec_IsShape : okC Try.f99.ntmps (cutL [(20, 11), (23, 33), (9, 24)]) (bodyOf Try.f99) = true := by kernel_rfl
theorem m_spec_IsShape (c : CategoryD) (hok : allP (okL c_spec_IsShape.args (c, ()))) (hpre : allP (c_spec_IsShape.pre (c, ()))) : W_spec_IsShape c (fun r => r = c_spec_IsShape.res (c, ())) := by
  simp only [c_spec_IsShape, okL, T.oks, T.ok, ap, allP, true_and, and_true, implies_true] at hok hpre
  try dsimp only [T.den] at hok
  try dsimp only [T.den] at hpre
  unfold W_spec_IsShape
  have bad : ¬ ShapeP c → (false, ()) = c_spec_IsShape.res (c, ()) := fun h => by simp only [c_spec_IsShape]; rw [shape_f h]
  refine cnd_of (fun hc => bad fun h => ?_) (fun hc => cnd_of (fun hd => bad fun h => ?_) (fun hd => ?_))
  · have h1 := h.ob; have h2 := h.m; have h3 := h.lt; have h4 := h.fr; have h5 := h.to; have h6 := h.lc; simp only [inR] at hc; grind [cnd, nb_eq, inK64]
  · have h1 := h.li; have h2 := h.ids; grind [cnd, nb_eq, inK64]
  simp only [inR, Bool.or_eq_false_iff, Bool.not_eq_false', Bool.and_eq_true, decide_eq_true_eq, decide_eq_false_iff_not, bne_eq_false_iff_eq] at hc hd
  obtain ⟨⟨⟨⟨hob, hm⟩, _, hfr⟩, hlt, hto⟩, hlc⟩ := hc
  obtain ⟨hli, hids⟩ := hd
  refine loop_ix (n := c.1) (fun x => ∀ y : Int, 0 ≤ y → y < x → c.2.1.getD (c.2.2.2.1.getD y.toNat 0).toNat 0 = y ∧ c.2.2.1.getD (c.2.2.2.1.getD y.toNat 0).toNat 0 = y) (by omega) (by intro y h0 h1; omega) ?_ ?_
  · intro x next h0 h1 hP hn hin
    have hb := within_iff.1 hids x h0 (by omega)
    try dsimp only
    refine cnd_d (fun _ => ⟨h0, by omega, hb.1, hb.2, fun _ => by omega, fun _ => by omega, cnd_of (fun hx => bad fun h => ?_) (fun hx => ?_)⟩) (fun h => absurd h1 h)
    · have := h.idt x h0 (by omega)
      rw [this.1, this.2] at hx
      simp at hx
    · simp only [Bool.or_eq_false_iff, bne_eq_false_iff_eq] at hx
      refine ⟨by rw [inK64]; (try dsimp only); omega, hn fun y y0 y1 => ?_⟩
      by_cases e : y = x
      · rw [e]; exact hx
      · exact hP y y0 (by omega)
  intro next hidt hin
  refine cnd_d (fun h => absurd h (by dsimp only; omega)) (fun _ => ?_)
  refine loop_ix (n := c.2.1.length) (fun f => ∀ f' : Int, 0 ≤ f' → f' < f → (c.2.2.2.2.getD f'.toNat []).length = c.2.1.length ∧ ∀ g : Int, 0 ≤ g → g < c.2.1.length → cellR c f' g = true) (by omega) (by intro y h0 h1; omega) ?_ ?_
  · intro f next h0 h1 hP hn hin
    try dsimp only
    refine cnd_d (fun _ => ⟨h0, by omega, cnd_of (fun hx => bad fun h => ?_) (fun hx => ?_)⟩) (fun h => absurd h1 h)
    · have := h.row f h0 (by omega)
      rw [this] at hx
      simp at hx
    simp only [bne_eq_false_iff_eq] at hx
    refine loop_ix (n := c.2.1.length) (fun g => ∀ g' : Int, 0 ≤ g' → g' < g → cellR c f g' = true) (by omega) (by intro y h0 h1; omega) ?_ ?_
    · intro g next3 g0 g1 hP3 hn3 hin3
      try dsimp only
      refine cnd_d (fun _ => ?_) (fun h => absurd g1 h)
      refine join_of (fun _ => cellR c f g = true) (fun _ hcell => ⟨by rw [inK64]; (try dsimp only); omega, hn3 fun g' y0 y1 => ?_⟩) (fun k hk => ?_)
      · by_cases e : g' = g
        · rw [e]; exact hcell
        · exact hP3 g' y0 (by omega)
      have hcell : ∀ b, cellR c f g = b → b = false → ¬ ShapeP c := fun b h1 h2 h => by
        have := h.cell f g h0 (by omega) g0 (by omega)
        rw [h1, h2] at this; cases this
      have hk' := hk ((), ())
      obtain ⟨v, hv⟩ : ∃ v, (c.2.2.2.2.getD f.toNat []).getD g.toNat 0 = v := ⟨_, rfl⟩
      have hR : cellR c f g = cellQ c f g v := by unfold cellR compR; rw [hv]
      rw [hR] at hk'
      rw [hR] at hcell
      rw [hv]
      clear hP3 hn3 hP hn hk hR hv hidt hok
      refine ⟨h0, by omega, g0, by omega, h0, by omega, g0, by omega, cnd_of (fun ha => cnd_of (fun hb => bad ?_) (fun hb => hk' ?_)) (fun ha => ⟨fun hv => ?_, fun _ => ⟨by omega, h0⟩, fun hv => ?_, fun _ => ⟨by omega, g0⟩, cnd_of (fun hb => bad ?_) (fun hb => hk' ?_)⟩)⟩
      · exact hcell _ rfl (by grind [cnd, nb_eq, inK64, cellQ])
      · grind [cnd, nb_eq, inK64, cellQ]
      · simp only [Bool.or_eq_false_iff, decide_eq_false_iff_not] at hv; omega
      · simp only [Bool.or_eq_false_iff, decide_eq_false_iff_not] at hv; omega
      · exact hcell _ rfl (by grind [cnd, nb_eq, inK64, cellQ])
      · grind [cnd, nb_eq, inK64, cellQ]
    · intro next3 hP3 hin3
      refine cnd_d (fun h => absurd h (by dsimp only; omega)) (fun _ => ⟨by rw [inK64]; (try dsimp only); omega, hn fun f' y0 y1 => ?_⟩)
      by_cases e : f' = f
      · rw [e]; exact ⟨by omega, fun g g0 g1 => hP3 g g0 (by omega)⟩
      · exact hP f' y0 (by omega)
  · intro next2 hP2 hin2
    refine cnd_d (fun h => absurd h (by dsimp only; omega)) (fun _ => ?_)
    simp only [c_spec_IsShape]
    rw [shape_t ⟨hob, by omega, by omega, hfr, hto, by omega, hids, by omega, fun x a b => hidt x a (by omega), fun f a b => (hP2 f a (by omega)).1, fun f g a b d e => (hP2 f a (by omega)).2 g d e⟩]
theorem ct_spec_IsShape : CtOk Try.prog 99 c_spec_IsShape :=
  ct_by (Φ := lkp [(130, c_spec_l01In), (102, c_spec_l01Map), (131, c_spec_l02Ends)]) (good_cons ct_spec_l01In (good_cons ct_spec_l01Map (good_cons ct_spec_l02Ends good_nil))) tab_ok (by kernel_rfl) (fn := Try.f99) (c := bodyOf Try.f99) (by kernel_rfl) (by kernel_rfl) (by kernel_rfl) c_spec_IsShape rfl (.s .n (.s .n (.s .n (.s .n (.s (.s .n (.l [(4, (.d (.int .i64)))] [] [1, 3] .n)) (.s (.s .n (.l [(5, (.d (.int .i64)))] [] [1, 3] (.s .n (.s (.s .n (.s .n (.l [(6, (.d (.int .i64)))] [] [1, 3, 5] (.s .n (.s (.j [] [] [1, 3, 5, 6] .n) .n))))) .n)))) .n)))))) (cutL [(20, 11), (23, 33), (9, 24)]) (by kernel_rfl) (by kernel_rfl) k_spec_IsShape (by decide) (fun x K => W_spec_IsShape x.1 K) w_spec_IsShape (fun x h1 h2 => m_spec_IsShape x.1 h1 h2)
def c_spec_l02Fault : Ct := ⟨[CategoryT], [true], fun x => [ShapeP x.1], [(false, (.fz (.int .i64))), (false, (.fz (.int .i64))), (false, (.fz (.int .i64))), (false, (.fz (.int .i64)))], fun x => ((faultR x.1).1, (faultR x.1).2.1, (faultR x.1).2.2.1, (faultR x.1).2.2.2, ()), false, none⟩
def W_spec_l02Fault (c : CategoryD) (K : Int × Int × Int × Int × Unit → Prop) : Prop := (loopW (S := ((Int × Unit) × Unit)) (fun s => (fun next => ((inK IntKind.i64 s.1.1) → (cnd (decide (s.1.1 < (((List.length c.2.1) : Nat) : Int))) (((0 : Int) ≤ s.1.1) ∧ ((s.1.1 < (((List.length c.2.1) : Nat) : Int)) ∧ (((0 : Int) ≤ (List.getD c.2.1 (Int.toNat s.1.1) (0 : Int))) ∧ (((List.getD c.2.1 (Int.toNat s.1.1) (0 : Int)) < (((List.length c.2.2.2.1) : Nat) : Int)) ∧ (((0 : Int) ≤ (List.getD c.2.2.2.1 (Int.toNat (List.getD c.2.1 (Int.toNat s.1.1) (0 : Int))) (0 : Int))) ∧ (((List.getD c.2.2.2.1 (Int.toNat (List.getD c.2.1 (Int.toNat s.1.1) (0 : Int))) (0 : Int)) < (((List.length c.2.2.2.2) : Nat) : Int)) ∧ (((0 : Int) ≤ s.1.1) ∧ ((s.1.1 < (((List.length (List.getD c.2.2.2.2 (Int.toNat (List.getD c.2.2.2.1 (Int.toNat (List.getD c.2.1 (Int.toNat s.1.1) (0 : Int))) (0 : Int))) ([] : List Int))) : Nat) : Int)) ∧ (((((List.getD (List.getD c.2.2.2.2 (Int.toNat (List.getD c.2.2.2.1 (Int.toNat (List.getD c.2.1 (Int.toNat s.1.1) (0 : Int))) (0 : Int))) ([] : List Int)) (Int.toNat s.1.1) (0 : Int)) != s.1.1) = Bool.false) → ((s.1.1 < (((List.length c.2.2.2.2) : Nat) : Int)) ∧ ((0 : Int) ≤ s.1.1))) ∧ (((((List.getD (List.getD c.2.2.2.2 (Int.toNat (List.getD c.2.2.2.1 (Int.toNat (List.getD c.2.1 (Int.toNat s.1.1) (0 : Int))) (0 : Int))) ([] : List Int)) (Int.toNat s.1.1) (0 : Int)) != s.1.1) = Bool.false) → ((s.1.1 < (((List.length c.2.2.1) : Nat) : Int)) ∧ ((0 : Int) ≤ s.1.1))) ∧ (((((List.getD (List.getD c.2.2.2.2 (Int.toNat (List.getD c.2.2.2.1 (Int.toNat (List.getD c.2.1 (Int.toNat s.1.1) (0 : Int))) (0 : Int))) ([] : List Int)) (Int.toNat s.1.1) (0 : Int)) != s.1.1) = Bool.false) → (((List.getD c.2.2.1 (Int.toNat s.1.1) (0 : Int)) < (((List.length c.2.2.2.1) : Nat) : Int)) ∧ ((0 : Int) ≤ (List.getD c.2.2.1 (Int.toNat s.1.1) (0 : Int))))) ∧ (((((List.getD (List.getD c.2.2.2.2 (Int.toNat (List.getD c.2.2.2.1 (Int.toNat (List.getD c.2.1 (Int.toNat s.1.1) (0 : Int))) (0 : Int))) ([] : List Int)) (Int.toNat s.1.1) (0 : Int)) != s.1.1) = Bool.false) → (((List.getD c.2.2.2.1 (Int.toNat (List.getD c.2.2.1 (Int.toNat s.1.1) (0 : Int))) (0 : Int)) < (((List.length (List.getD c.2.2.2.2 (Int.toNat s.1.1) ([] : List Int))) : Nat) : Int)) ∧ ((0 : Int) ≤ (List.getD c.2.2.2.1 (Int.toNat (List.getD c.2.2.1 (Int.toNat s.1.1) (0 : Int))) (0 : Int))))) ∧ (cnd (((List.getD (List.getD c.2.2.2.2 (Int.toNat (List.getD c.2.2.2.1 (Int.toNat (List.getD c.2.1 (Int.toNat s.1.1) (0 : Int))) (0 : Int))) ([] : List Int)) (Int.toNat s.1.1) (0 : Int)) != s.1.1) || ((List.getD (List.getD c.2.2.2.2 (Int.toNat s.1.1) ([] : List Int)) (Int.toNat (List.getD c.2.2.2.1 (Int.toNat (List.getD c.2.2.1 (Int.toNat s.1.1) (0 : Int))) (0 : Int))) (0 : Int)) != s.1.1)) (K ((1 : Int), (s.1.1, ((0 : Int), ((0 : Int), ()))))) ((inK IntKind.i64 (s.1.1 + (1 : Int))) ∧ (next (((s.1.1 + (1 : Int)), ()), ())))))))))))))))) (loopW (S := ((Int × Unit) × Unit)) (fun s1 => (fun next1 => ((inK IntKind.i64 s1.1.1) → (cnd (decide (s1.1.1 < (((List.length c.2.1) : Nat) : Int))) (loopW (S := ((Int × Unit) × Unit)) (fun s2 => (fun next2 => ((inK IntKind.i64 s2.1.1) → (cnd (decide (s2.1.1 < (((List.length c.2.1) : Nat) : Int))) (joinW (S := (Unit × Unit)) (fun s3 => ((inK IntKind.i64 (s2.1.1 + (1 : Int))) ∧ (next2 (((s2.1.1 + (1 : Int)), ()), ())))) (fun k => (((0 : Int) ≤ s1.1.1) ∧ ((s1.1.1 < (((List.length c.2.2.1) : Nat) : Int)) ∧ (((0 : Int) ≤ s2.1.1) ∧ ((s2.1.1 < (((List.length c.2.1) : Nat) : Int)) ∧ (cnd ((List.getD c.2.2.1 (Int.toNat s1.1.1) (0 : Int)) != (List.getD c.2.1 (Int.toNat s2.1.1) (0 : Int))) (k ((), ())) (loopW (S := ((Int × Unit) × Unit)) (fun s3 => (fun next3 => ((inK IntKind.i64 s3.1.1) → (cnd (decide (s3.1.1 < (((List.length c.2.1) : Nat) : Int))) (((0 : Int) ≤ s2.1.1) ∧ ((s2.1.1 < (((List.length c.2.2.1) : Nat) : Int)) ∧ (((0 : Int) ≤ s3.1.1) ∧ ((s3.1.1 < (((List.length c.2.1) : Nat) : Int)) ∧ (((((List.getD c.2.2.1 (Int.toNat s2.1.1) (0 : Int)) == (List.getD c.2.1 (Int.toNat s3.1.1) (0 : Int))) = Bool.true) → ((s1.1.1 < (((List.length c.2.2.2.2) : Nat) : Int)) ∧ ((0 : Int) ≤ s1.1.1))) ∧ (((((List.getD c.2.2.1 (Int.toNat s2.1.1) (0 : Int)) == (List.getD c.2.1 (Int.toNat s3.1.1) (0 : Int))) = Bool.true) → ((s2.1.1 < (((List.length (List.getD c.2.2.2.2 (Int.toNat s1.1.1) ([] : List Int))) : Nat) : Int)) ∧ ((0 : Int) ≤ s2.1.1))) ∧ (((((List.getD c.2.2.1 (Int.toNat s2.1.1) (0 : Int)) == (List.getD c.2.1 (Int.toNat s3.1.1) (0 : Int))) = Bool.true) → (((List.getD (List.getD c.2.2.2.2 (Int.toNat s1.1.1) ([] : List Int)) (Int.toNat s2.1.1) (0 : Int)) < (((List.length c.2.2.2.2) : Nat) : Int)) ∧ ((0 : Int) ≤ (List.getD (List.getD c.2.2.2.2 (Int.toNat s1.1.1) ([] : List Int)) (Int.toNat s2.1.1) (0 : Int))))) ∧ (((((List.getD c.2.2.1 (Int.toNat s2.1.1) (0 : Int)) == (List.getD c.2.1 (Int.toNat s3.1.1) (0 : Int))) = Bool.true) → ((s3.1.1 < (((List.length (List.getD c.2.2.2.2 (Int.toNat (List.getD (List.getD c.2.2.2.2 (Int.toNat s1.1.1) ([] : List Int)) (Int.toNat s2.1.1) (0 : Int))) ([] : List Int))) : Nat) : Int)) ∧ ((0 : Int) ≤ s3.1.1))) ∧ (((((List.getD c.2.2.1 (Int.toNat s2.1.1) (0 : Int)) == (List.getD c.2.1 (Int.toNat s3.1.1) (0 : Int))) = Bool.true) → ((s1.1.1 < (((List.length c.2.2.2.2) : Nat) : Int)) ∧ ((0 : Int) ≤ s1.1.1))) ∧ (((((List.getD c.2.2.1 (Int.toNat s2.1.1) (0 : Int)) == (List.getD c.2.1 (Int.toNat s3.1.1) (0 : Int))) = Bool.true) → ((s2.1.1 < (((List.length c.2.2.2.2) : Nat) : Int)) ∧ ((0 : Int) ≤ s2.1.1))) ∧ (((((List.getD c.2.2.1 (Int.toNat s2.1.1) (0 : Int)) == (List.getD c.2.1 (Int.toNat s3.1.1) (0 : Int))) = Bool.true) → ((s3.1.1 < (((List.length (List.getD c.2.2.2.2 (Int.toNat s2.1.1) ([] : List Int))) : Nat) : Int)) ∧ ((0 : Int) ≤ s3.1.1))) ∧ (((((List.getD c.2.2.1 (Int.toNat s2.1.1) (0 : Int)) == (List.getD c.2.1 (Int.toNat s3.1.1) (0 : Int))) = Bool.true) → (((List.getD (List.getD c.2.2.2.2 (Int.toNat s2.1.1) ([] : List Int)) (Int.toNat s3.1.1) (0 : Int)) < (((List.length (List.getD c.2.2.2.2 (Int.toNat s1.1.1) ([] : List Int))) : Nat) : Int)) ∧ ((0 : Int) ≤ (List.getD (List.getD c.2.2.2.2 (Int.toNat s2.1.1) ([] : List Int)) (Int.toNat s3.1.1) (0 : Int))))) ∧ (cnd (((List.getD c.2.2.1 (Int.toNat s2.1.1) (0 : Int)) == (List.getD c.2.1 (Int.toNat s3.1.1) (0 : Int))) && ((List.getD (List.getD c.2.2.2.2 (Int.toNat (List.getD (List.getD c.2.2.2.2 (Int.toNat s1.1.1) ([] : List Int)) (Int.toNat s2.1.1) (0 : Int))) ([] : List Int)) (Int.toNat s3.1.1) (0 : Int)) != (List.getD (List.getD c.2.2.2.2 (Int.toNat s1.1.1) ([] : List Int)) (Int.toNat (List.getD (List.getD c.2.2.2.2 (Int.toNat s2.1.1) ([] : List Int)) (Int.toNat s3.1.1) (0 : Int))) (0 : Int)))) (K ((2 : Int), (s1.1.1, (s2.1.1, (s3.1.1, ()))))) ((inK IntKind.i64 (s3.1.1 + (1 : Int))) ∧ (next3 (((s3.1.1 + (1 : Int)), ()), ())))))))))))))))) (k ((), ())))))) (((0 : Int), ()), ()))))))))) ((inK IntKind.i64 (s1.1.1 + (1 : Int))) ∧ (next1 (((s1.1.1 + (1 : Int)), ()), ()))))))) (((0 : Int), ()), ())) (K ((0 : Int), ((0 : Int), ((0 : Int), ((0 : Int), ()))))))))) (((0 : Int), ()), ())))))) (((0 : Int), ()), ()))
theorem w_spec_l02Fault (x : denL c_spec_l02Fault.args) (K : Int × Int × Int × Int × Unit → Prop) : evF tab (lkp []) (cutL [(17, 44), (5, 38), (13, 11)]) Try.f100 (bodyOf Try.f100) (.s .n (.s .n (.s (.s .n (.l [(7, (.d (.int .i64)))] [] [1, 6] .n)) (.s (.s .n (.l [(8, (.d (.int .i64)))] [] [1, 6] (.s .n (.s (.s .n (.l [(9, (.d (.int .i64)))] [] [1, 6, 8] (.s .n (.s (.j [] [] [1, 6, 8, 9] (.s .n (.s .n (.l [(10, (.d (.int .i64)))] [] [1, 6, 8, 9] .n)))) .n)))) .n)))) .n)))) c_spec_l02Fault x K = W_spec_l02Fault x.1 K := by kernel_rfl
theorem k_spec_l02Fault : okC Try.f100.ntmps (cutL [(17, 44), (5, 38), (13, 11)]) (bodyOf Try.f100) = true := by kernel_rfl
theorem m_spec_l02Fault (c : CategoryD) (hok : allP (okL c_spec_l02Fault.args (c, ()))) (hpre : allP (c_spec_l02Fault.pre (c, ()))) : W_spec_l02Fault c (fun r => r = c_spec_l02Fault.res (c, ())) := by
  simp only [c_spec_l02Fault, okL, T.oks, T.ok, ap, allP, true_and, and_true, implies_true] at hok hpre
  try dsimp only [T.den] at hok
  try dsimp only [T.den] at hpre
  unfold W_spec_l02Fault
  have S : ShapeP c := hpre
  have hlt := S.lt
  have hli := S.li
  have hlc := S.lc
  have hmm := S.m
  have resq : ∀ a b d e, faultR c = (a, b, d, e) → (a, b, d, e, ()) = c_spec_l02Fault.res (c, ()) := fun a b d e h => by simp only [c_spec_l02Fault, h]
  have hcr : ∀ f g : Int, (c.2.2.2.2.getD f.toNat []).getD g.toNat 0 = compR c f g := fun _ _ => rfl
  simp only [hcr]
  refine loop_ix (n := c.2.1.length) (fun f => scanR (faultI c) c.2.1.length 0 = scanR (faultI c) ((c.2.1.length : Int) - f).toNat f) (by omega) scan_0 ?_ ?_
  · intro f next h0 h1 hP hn hin
    try dsimp only
    obtain ⟨a1, a2, a3, a4⟩ := S.frm h0 h1
    obtain ⟨b1, b2, _, _⟩ := S.idn a1 a2
    obtain ⟨d1, d2, _, _⟩ := S.idn a3 a4
    have r1 := S.row _ b1 b2
    have r2 := S.row f h0 h1
    refine cnd_d (fun _ => ⟨h0, h1, by omega, by omega, by omega, by omega, h0, by omega, fun _ => by omega, fun _ => by omega, fun _ => by omega, fun _ => by omega, cnd_of (fun hx => resq _ _ _ _ ?_) (fun hx => ⟨by rw [inK64]; (try dsimp only); omega, hn ?_⟩)⟩) (fun h => absurd h1 h)
    · have : faultI c f = some (1, f, 0, 0) := by unfold faultI; rw [if_pos]; simpa using hx
      unfold faultR; rw [hP, scan_s h1 this]; rfl
    · have : faultI c f = none := by unfold faultI; rw [if_neg]; simpa using hx
      rw [hP, scan_c h1 this]
  intro next hI hin
  rw [scan_n] at hI
  refine cnd_d (fun h => absurd h (by dsimp only; omega)) (fun _ => ?_)
  have hF : faultR c = orR (scanR (faultF c) c.2.1.length 0) (0, 0, 0, 0) := by unfold faultR; rw [hI]; rfl
  refine loop_ix (n := c.2.1.length) (fun f => scanR (faultF c) c.2.1.length 0 = scanR (faultF c) ((c.2.1.length : Int) - f).toNat f) (by omega) scan_0 ?_ ?_
  · intro f next h0 h1 hP hn hin
    try dsimp only
    refine cnd_d (fun _ => ?_) (fun h => absurd h1 h)
    have r1 := S.row f h0 h1
    refine loop_ix (n := c.2.1.length) (fun g => faultF c f = scanR (faultG c f) ((c.2.1.length : Int) - g).toNat g) (by omega) scan_0 ?_ ?_
    · intro g next3 g0 g1 hP3 hn3 hin3
      try dsimp only
      refine cnd_d (fun _ => ?_) (fun h => absurd g1 h)
      have r2 := S.row g g0 g1
      refine join_of (fun _ => faultG c f g = none) (fun _ hG => ⟨by rw [inK64]; (try dsimp only); omega, hn3 (by rw [hP3, scan_c g1 hG])⟩) (fun k hk => ?_)
      have hk' := hk ((), ())
      refine ⟨by omega, by omega, by omega, by omega, cnd_of (fun hx => hk' ?_) (fun hx => ?_)⟩
      · unfold faultG; rw [if_neg]; simpa using hx
      have hfg : c.2.2.1.getD f.toNat 0 = c.2.1.getD g.toNat 0 := by rw [bne_eq_false_iff_eq] at hx; exact hx
      obtain ⟨y1, y2, _, _⟩ := S.yes h0 h1 g0 g1 hfg
      refine loop_ix (n := c.2.1.length) (fun h => faultG c f g = scanR (faultH c f g) ((c.2.1.length : Int) - h).toNat h) (by omega) (by unfold faultG; rw [if_pos hfg]; exact scan_0) ?_ ?_
      · intro h next4 i0 i1 hP4 hn4 hin4
        try dsimp only
        refine cnd_d (fun _ => ?_) (fun h => absurd i1 h)
        have r3 := S.row _ y1 y2
        have cgh := S.comp g0 g1 i0 i1
        have ygh := @ShapeP.yes c S g h g0 g1 i0 i1
        refine ⟨by omega, by omega, by omega, by omega, fun _ => by omega, fun _ => by omega, fun _ => by omega, fun _ => by omega, fun _ => by omega, fun _ => by omega, fun _ => by omega, fun he => ?_, cnd_of (fun hx => resq _ _ _ _ ?_) (fun hx => ⟨by rw [inK64]; (try dsimp only); omega, hn4 ?_⟩)⟩
        · have := ygh (by simpa only [beq_iff_eq] using he); omega
        · have : faultH c f g h = some (2, f, g, h) := by unfold faultH; rw [if_pos]; simpa using hx
          have e1 : faultG c f g = some (2, f, g, h) := by rw [hP4, scan_s i1 this]
          have e2 : faultF c f = some (2, f, g, h) := by rw [hP3, scan_s g1 e1]
          rw [hF, hP, scan_s h1 e2]; rfl
        · have : faultH c f g h = none := by unfold faultH; rw [if_neg]; simpa using hx
          rw [hP4, scan_c i1 this]
      · intro next4 hP4 hin4
        rw [scan_n] at hP4
        exact cnd_d (fun h => absurd h (by dsimp only; omega)) (fun _ => hk' hP4)
    · intro next3 hP3 hin3
      rw [scan_n] at hP3
      exact cnd_d (fun h => absurd h (by dsimp only; omega)) (fun _ => ⟨by rw [inK64]; (try dsimp only); omega, hn (by rw [hP, scan_c h1 hP3])⟩)
  · intro next2 hP2 hin2
    rw [scan_n] at hP2
    refine cnd_d (fun h => absurd h (by dsimp only; omega)) (fun _ => resq _ _ _ _ ?_)
    rw [hF, hP2]; rfl
theorem ct_spec_l02Fault : CtOk Try.prog 100 c_spec_l02Fault :=
  ct_by (Φ := lkp []) good_nil tab_ok (by kernel_rfl) (fn := Try.f100) (c := bodyOf Try.f100) (by kernel_rfl) (by kernel_rfl) (by kernel_rfl) c_spec_l02Fault rfl (.s .n (.s .n (.s (.s .n (.l [(7, (.d (.int .i64)))] [] [1, 6] .n)) (.s (.s .n (.l [(8, (.d (.int .i64)))] [] [1, 6] (.s .n (.s (.s .n (.l [(9, (.d (.int .i64)))] [] [1, 6, 8] (.s .n (.s (.j [] [] [1, 6, 8, 9] (.s .n (.s .n (.l [(10, (.d (.int .i64)))] [] [1, 6, 8, 9] .n)))) .n)))) .n)))) .n)))) (cutL [(17, 44), (5, 38), (13, 11)]) (by kernel_rfl) (by kernel_rfl) k_spec_l02Fault (by decide) (fun x K => W_spec_l02Fault x.1 K) w_spec_l02Fault (fun x h1 h2 => m_spec_l02Fault x.1 h1 h2)
def c_spec_l02Is : Ct := ⟨[CategoryT], [true], fun x => [], [(false, (.fz .bool))], fun x => (catR x.1, ()), false, none⟩
def W_spec_l02Is (c : CategoryD) (K : Bool × Unit → Prop) : Prop := (cnd (!(shapeR c)) (K (Bool.false, ())) ((ShapeP c) ∧ (K (((faultR c).1 == (0 : Int)), ()))))
theorem w_spec_l02Is (x : denL c_spec_l02Is.args) (K : Bool × Unit → Prop) : evF tab (lkp [(99, c_spec_IsShape), (100, c_spec_l02Fault)]) (cutL []) Try.f62 (bodyOf Try.f62) .n c_spec_l02Is x K = W_spec_l02Is x.1 K := by kernel_rfl
theorem k_spec_l02Is : okC Try.f62.ntmps (cutL []) (bodyOf Try.f62) = true := by kernel_rfl
theorem m_spec_l02Is (c : CategoryD) (hok : allP (okL c_spec_l02Is.args (c, ()))) (hpre : allP (c_spec_l02Is.pre (c, ()))) : W_spec_l02Is c (fun r => r = c_spec_l02Is.res (c, ())) := by
  simp only [c_spec_l02Is, okL, T.oks, T.ok, ap, allP, true_and, and_true, implies_true] at hok hpre
  try dsimp only [T.den] at hok
  try dsimp only [T.den] at hpre
  unfold W_spec_l02Is
  simp only [c_spec_l02Is, catR]
  have := @shape_iff c
  grind [cnd, nb_eq, inK64]
theorem ct_spec_l02Is : CtOk Try.prog 62 c_spec_l02Is :=
  ct_by (Φ := lkp [(99, c_spec_IsShape), (100, c_spec_l02Fault)]) (good_cons ct_spec_IsShape (good_cons ct_spec_l02Fault good_nil)) tab_ok (by kernel_rfl) (fn := Try.f62) (c := bodyOf Try.f62) (by kernel_rfl) (by kernel_rfl) (by kernel_rfl) c_spec_l02Is rfl .n (cutL []) (by kernel_rfl) (by kernel_rfl) k_spec_l02Is (by decide) (fun x K => W_spec_l02Is x.1 K) w_spec_l02Is (fun x h1 h2 => m_spec_l02Is x.1 h1 h2)
def c_spec_l02Object : Ct := ⟨[CategoryT, (.int .i64)], [true, false], fun x => [], [(false, (.fz .bool))], fun x => ((decide (0 ≤ x.2.1) && decide (x.2.1 < x.1.1)), ()), false, none⟩
def W_spec_l02Object (c : CategoryD) (x : Int) (K : Bool × Unit → Prop) : Prop := (K (((decide ((0 : Int) ≤ x)) && (decide (x < c.1))), ()))
theorem w_spec_l02Object (x : denL c_spec_l02Object.args) (K : Bool × Unit → Prop) : evF tab (lkp []) (cutL []) Try.f79 (bodyOf Try.f79) .n c_spec_l02Object x K = W_spec_l02Object x.1 x.2.1 K := by kernel_rfl
theorem k_spec_l02Object : okC Try.f79.ntmps (cutL []) (bodyOf Try.f79) = true := by kernel_rfl
theorem m_spec_l02Object (c : CategoryD) (x : Int) (hok : allP (okL c_spec_l02Object.args (c, x, ()))) (hpre : allP (c_spec_l02Object.pre (c, x, ()))) : W_spec_l02Object c x (fun r => r = c_spec_l02Object.res (c, x, ())) := by
  simp only [c_spec_l02Object, okL, T.oks, T.ok, ap, allP, true_and, and_true, implies_true] at hok hpre
  try dsimp only [T.den] at hok
  try dsimp only [T.den] at hpre
  unfold W_spec_l02Object
  grind [cnd, nb_eq, inK64, c_spec_l02Object]
theorem ct_spec_l02Object : CtOk Try.prog 79 c_spec_l02Object :=
  ct_by (Φ := lkp []) good_nil tab_ok (by kernel_rfl) (fn := Try.f79) (c := bodyOf Try.f79) (by kernel_rfl) (by kernel_rfl) (by kernel_rfl) c_spec_l02Object rfl .n (cutL []) (by kernel_rfl) (by kernel_rfl) k_spec_l02Object (by decide) (fun x K => W_spec_l02Object x.1 x.2.1 K) w_spec_l02Object (fun x h1 h2 => m_spec_l02Object x.1 x.2.1 h1 h2)
def c_spec_l25Code : Ct := ⟨[CategoryT, (.int .i64)], [true, false], fun x => [], [(false, (.fz (.int .i64)))], fun x => (objCodeR x.1 [x.2.1], ()), false, none⟩
def W_spec_l25Code (c : CategoryD) (x : Int) (K : Int × Unit → Prop) : Prop := (cnd (!(catR c)) (K ((1 : Int), ())) (cnd (!((decide ((0 : Int) ≤ x)) && (decide (x < c.1)))) (K ((2 : Int), ())) (K ((0 : Int), ()))))
theorem w_spec_l25Code (x : denL c_spec_l25Code.args) (K : Int × Unit → Prop) : evF tab (lkp [(62, c_spec_l02Is), (79, c_spec_l02Object)]) (cutL []) Try.f55 (bodyOf Try.f55) .n c_spec_l25Code x K = W_spec_l25Code x.1 x.2.1 K := by kernel_rfl
theorem k_spec_l25Code : okC Try.f55.ntmps (cutL []) (bodyOf Try.f55) = true := by kernel_rfl
theorem m_spec_l25Code (c : CategoryD) (x : Int) (hok : allP (okL c_spec_l25Code.args (c, x, ()))) (hpre : allP (c_spec_l25Code.pre (c, x, ()))) : W_spec_l25Code c x (fun r => r = c_spec_l25Code.res (c, x, ())) := by
  simp only [c_spec_l25Code, okL, T.oks, T.ok, ap, allP, true_and, and_true, implies_true] at hok hpre
  try dsimp only [T.den] at hok
  try dsimp only [T.den] at hpre
  unfold W_spec_l25Code
  simp only [c_spec_l25Code, objCodeR, withinR, List.all_cons, List.all_nil, inR]
  grind [cnd, nb_eq, inK64]
theorem ct_spec_l25Code : CtOk Try.prog 55 c_spec_l25Code :=
  ct_by (Φ := lkp [(62, c_spec_l02Is), (79, c_spec_l02Object)]) (good_cons ct_spec_l02Is (good_cons ct_spec_l02Object good_nil)) tab_ok (by kernel_rfl) (fn := Try.f55) (c := bodyOf Try.f55) (by kernel_rfl) (by kernel_rfl) (by kernel_rfl) c_spec_l25Code rfl .n (cutL []) (by kernel_rfl) (by kernel_rfl) k_spec_l25Code (by decide) (fun x K => W_spec_l25Code x.1 x.2.1 K) w_spec_l25Code (fun x h1 h2 => m_spec_l25Code x.1 x.2.1 h1 h2)
def c_spec_l02Rises : Ct := ⟨[(.sl (.int .i64))], [false], fun x => [], [(false, (.fz .bool))], fun x => (risesR x.1, ()), false, none⟩
def W_spec_l02Rises (list : List Int) (K : Bool × Unit → Prop) : Prop := (loopW (S := ((Int × Unit) × Unit)) (fun s => (fun next => ((inK IntKind.i64 s.1.1) → (cnd (decide (s.1.1 < (((List.length list) : Nat) : Int))) (((0 : Int) ≤ s.1.1) ∧ ((s.1.1 < (((List.length list) : Nat) : Int)) ∧ ((inK IntKind.i64 (s.1.1 - (1 : Int))) ∧ (((0 : Int) ≤ (s.1.1 - (1 : Int))) ∧ (((s.1.1 - (1 : Int)) < (((List.length list) : Nat) : Int)) ∧ (cnd (decide ((List.getD list (Int.toNat s.1.1) (0 : Int)) ≤ (List.getD list (Int.toNat (s.1.1 - (1 : Int))) (0 : Int)))) (K (Bool.false, ())) ((inK IntKind.i64 (s.1.1 + (1 : Int))) ∧ (next (((s.1.1 + (1 : Int)), ()), ()))))))))) (K (Bool.true, ())))))) (((1 : Int), ()), ()))
theorem w_spec_l02Rises (x : denL c_spec_l02Rises.args) (K : Bool × Unit → Prop) : evF tab (lkp []) (cutL [(4, 10)]) Try.f101 (bodyOf Try.f101) (.s .n (.s (.s .n (.l [(3, (.d (.int .i64)))] [] [0] .n)) .n)) c_spec_l02Rises x K = W_spec_l02Rises x.1 K := by kernel_rfl
theorem k_spec_l02Rises : okC Try.f101.ntmps (cutL [(4, 10)]) (bodyOf Try.f101) = true := by kernel_rfl
theorem m_spec_l02Rises (list : List Int) (hok : allP (okL c_spec_l02Rises.args (list, ()))) (hpre : allP (c_spec_l02Rises.pre (list, ()))) : W_spec_l02Rises list (fun r => r = c_spec_l02Rises.res (list, ())) := by
  simp only [c_spec_l02Rises, okL, T.oks, T.ok, ap, allP, true_and, and_true, implies_true] at hok hpre
  try dsimp only [T.den] at hok
  try dsimp only [T.den] at hpre
  unfold W_spec_l02Rises
  have bad : ∀ i : Int, 1 ≤ i → i < list.length → list.getD i.toNat 0 ≤ list.getD (i - 1).toNat 0 → (false, ()) = c_spec_l02Rises.res (list, ()) := fun i h1 h2 h3 => by
    simp only [c_spec_l02Rises]
    cases h : risesR list with
    | false => rfl
    | true => have := rises_iff.1 h i h1 h2; omega
  refine loop_of (fun (s : ((Int × Unit) × Unit)) => 1 ≤ s.1.1 ∧ (s.1.1 ≤ list.length ∨ s.1.1 = 1) ∧ ∀ j : Int, 1 ≤ j → j < s.1.1 → list.getD (j - 1).toNat 0 < list.getD j.toNat 0) (fun (s : ((Int × Unit) × Unit)) => (list.length - s.1.1).toNat) ?_ ⟨by simp, by simp, fun j h1 h2 => by dsimp only at h2; omega⟩
  rintro ⟨⟨i, _⟩, _⟩ next ⟨h0, h1, h2⟩ hn hin
  try dsimp only at h0 h1 h2 hn ⊢
  have hin' : inK .i64 i := hin
  rw [inK64] at hin'
  have hl := hok.1
  rw [nb_eq] at hl
  refine cnd_d (fun hc => ⟨by omega, by omega, by rw [inK64]; (try dsimp only); omega, by omega, by omega, cnd_d (fun hx => bad i h0 hc hx) (fun hx => ⟨by rw [inK64]; (try dsimp only); omega, hn _ ⟨by dsimp only; omega, by dsimp only; omega, fun j j0 j1 => ?_⟩ (by dsimp only; omega)⟩)⟩) (fun hc => ?_)
  · by_cases e : j = i
    · rw [e]; omega
    · exact h2 j j0 (by dsimp only at j1; omega)
  · simp only [c_spec_l02Rises]
    rw [rises_iff.2 fun j j0 j1 => h2 j j0 (by omega)]
theorem ct_spec_l02Rises : CtOk Try.prog 101 c_spec_l02Rises :=
  ct_by (Φ := lkp []) good_nil tab_ok (by kernel_rfl) (fn := Try.f101) (c := bodyOf Try.f101) (by kernel_rfl) (by kernel_rfl) (by kernel_rfl) c_spec_l02Rises rfl (.s .n (.s (.s .n (.l [(3, (.d (.int .i64)))] [] [0] .n)) .n)) (cutL [(4, 10)]) (by kernel_rfl) (by kernel_rfl) k_spec_l02Rises (by decide) (fun x K => W_spec_l02Rises x.1 K) w_spec_l02Rises (fun x h1 h2 => m_spec_l02Rises x.1 h1 h2)
def c_spec_l25Sieve : Ct := ⟨[CategoryT, (.int .i64), (.sl (.int .i64))], [true, false, false], fun x => [ShapeP x.1], [(false, (.fz .bool))], fun x => (sieveR x.1 x.2.1 x.2.2.1, ()), false, none⟩
def W_spec_l25Sieve (c : CategoryD) (x : Int) (list : List Int) (K : Bool × Unit → Prop) : Prop := (cnd ((!(risesR list)) || (!(withinR list (((List.length c.2.1) : Nat) : Int)))) (K (Bool.false, ())) (loopW (S := ((Int × Unit) × Unit)) (fun s => (fun next => ((inK IntKind.i64 s.1.1) → (cnd (decide (s.1.1 < (((List.length list) : Nat) : Int))) (((0 : Int) ≤ s.1.1) ∧ ((s.1.1 < (((List.length list) : Nat) : Int)) ∧ (((0 : Int) ≤ (List.getD list (Int.toNat s.1.1) (0 : Int))) ∧ (((List.getD list (Int.toNat s.1.1) (0 : Int)) < (((List.length c.2.1) : Nat) : Int)) ∧ (cnd ((List.getD c.2.1 (Int.toNat (List.getD list (Int.toNat s.1.1) (0 : Int))) (0 : Int)) != x) (K (Bool.false, ())) (loopW (S := ((Int × Unit) × Unit)) (fun s1 => (fun next1 => ((inK IntKind.i64 s1.1.1) → (cnd (decide (s1.1.1 < (((List.length c.2.1) : Nat) : Int))) (((0 : Int) ≤ s.1.1) ∧ ((s.1.1 < (((List.length list) : Nat) : Int)) ∧ (((0 : Int) ≤ (List.getD list (Int.toNat s.1.1) (0 : Int))) ∧ (((List.getD list (Int.toNat s.1.1) (0 : Int)) < (((List.length c.2.2.1) : Nat) : Int)) ∧ (((0 : Int) ≤ s1.1.1) ∧ ((s1.1.1 < (((List.length c.2.1) : Nat) : Int)) ∧ (((((List.getD c.2.2.1 (Int.toNat (List.getD list (Int.toNat s.1.1) (0 : Int))) (0 : Int)) == (List.getD c.2.1 (Int.toNat s1.1.1) (0 : Int))) = Bool.true) → ((s.1.1 < (((List.length list) : Nat) : Int)) ∧ ((0 : Int) ≤ s.1.1))) ∧ (((((List.getD c.2.2.1 (Int.toNat (List.getD list (Int.toNat s.1.1) (0 : Int))) (0 : Int)) == (List.getD c.2.1 (Int.toNat s1.1.1) (0 : Int))) = Bool.true) → (((List.getD list (Int.toNat s.1.1) (0 : Int)) < (((List.length c.2.2.2.2) : Nat) : Int)) ∧ (((0 : Int) ≤ s1.1.1) ∧ ((s1.1.1 < (((List.length (List.getD c.2.2.2.2 (Int.toNat (List.getD list (Int.toNat s.1.1) (0 : Int))) ([] : List Int))) : Nat) : Int)) ∧ ((0 : Int) ≤ (List.getD list (Int.toNat s.1.1) (0 : Int))))))) ∧ (cnd (((List.getD c.2.2.1 (Int.toNat (List.getD list (Int.toNat s.1.1) (0 : Int))) (0 : Int)) == (List.getD c.2.1 (Int.toNat s1.1.1) (0 : Int))) && (!(hasR list (compR c (List.getD list (Int.toNat s.1.1) (0 : Int)) s1.1.1)))) (K (Bool.false, ())) ((inK IntKind.i64 (s1.1.1 + (1 : Int))) ∧ (next1 (((s1.1.1 + (1 : Int)), ()), ())))))))))))) ((inK IntKind.i64 (s.1.1 + (1 : Int))) ∧ (next (((s.1.1 + (1 : Int)), ()), ()))))))) (((0 : Int), ()), ()))))))) (K (Bool.true, ())))))) (((0 : Int), ()), ())))
theorem w_spec_l25Sieve (x : denL c_spec_l25Sieve.args) (K : Bool × Unit → Prop) : evF tab (lkp [(68, c_spec_l01Has), (102, c_spec_l01Map), (101, c_spec_l02Rises), (69, c_spec_l02Then)]) (cutL [(6, 10), (11, 26)]) Try.f63 (bodyOf Try.f63) (.s .n (.s .n (.s (.s .n (.l [(7, (.d (.int .i64)))] [] [1, 2, 3] (.s .n (.s (.s .n (.s .n (.l [(8, (.d (.int .i64)))] [] [1, 2, 3, 7] .n))) .n)))) .n))) c_spec_l25Sieve x K = W_spec_l25Sieve x.1 x.2.1 x.2.2.1 K := by kernel_rfl
theorem k_spec_l25Sieve : okC Try.f63.ntmps (cutL [(6, 10), (11, 26)]) (bodyOf Try.f63) = true := by kernel_rfl
theorem m_spec_l25Sieve (c : CategoryD) (x : Int) (list : List Int) (hok : allP (okL c_spec_l25Sieve.args (c, x, list, ()))) (hpre : allP (c_spec_l25Sieve.pre (c, x, list, ()))) : W_spec_l25Sieve c x list (fun r => r = c_spec_l25Sieve.res (c, x, list, ())) := by
  simp only [c_spec_l25Sieve, okL, T.oks, T.ok, ap, allP, true_and, and_true, implies_true] at hok hpre
  try dsimp only [T.den] at hok
  try dsimp only [T.den] at hpre
  unfold W_spec_l25Sieve
  have S : ShapeP c := hpre
  have hlt := S.lt
  have hlc := S.lc
  have hmm := S.m
  have hll : list.length ≤ 140737488355328 := by simp only [nb_eq] at hok; omega
  have bad : ¬ (sieveR c x list = true) → (false, ()) = c_spec_l25Sieve.res (c, x, list, ()) := fun h => by
    simp only [c_spec_l25Sieve]
    cases hs : sieveR c x list with
    | false => rfl
    | true => exact absurd hs h
  refine cnd_of (fun hc => bad fun h => ?_) (fun hc => ?_)
  · have := sieve_iff.1 h
    rw [this.1, this.2.1] at hc; cases hc
  simp only [Bool.or_eq_false_iff, Bool.not_eq_false'] at hc
  refine loop_ix (n := list.length) (fun i => ∀ j : Int, 0 ≤ j → j < i → c.2.1.getD (list.getD j.toNat 0).toNat 0 = x ∧ ∀ b : Int, 0 ≤ b → b < c.2.1.length → c.2.2.1.getD (list.getD j.toNat 0).toNat 0 = c.2.1.getD b.toNat 0 → hasR list (compR c (list.getD j.toNat 0) b) = true) (by omega) (by intro y h0 h1; omega) ?_ ?_
  · intro i next h0 h1 hP hn hin
    try dsimp only
    have hb := within_iff.1 hc.2 i h0 h1
    have hbad : ¬ (c.2.1.getD (list.getD i.toNat 0).toNat 0 = x ∧ ∀ b : Int, 0 ≤ b → b < c.2.1.length → c.2.2.1.getD (list.getD i.toNat 0).toNat 0 = c.2.1.getD b.toNat 0 → hasR list (compR c (list.getD i.toNat 0) b) = true) → (false, ()) = c_spec_l25Sieve.res (c, x, list, ()) := fun h => bad fun h2 => h ((sieve_iff.1 h2).2.2 i h0 h1)
    have hgood : (c.2.1.getD (list.getD i.toNat 0).toNat 0 = x ∧ ∀ b : Int, 0 ≤ b → b < c.2.1.length → c.2.2.1.getD (list.getD i.toNat 0).toNat 0 = c.2.1.getD b.toNat 0 → hasR list (compR c (list.getD i.toNat 0) b) = true) → next ((i + 1, ()), ()) := fun h => hn fun j j0 j1 => by
      by_cases e : j = i
      · rw [e]; exact h
      · exact hP j j0 (by omega)
    clear hn hP bad
    generalize list.getD i.toNat 0 = a at *
    have hrow := S.row a hb.1 hb.2
    refine cnd_d (fun _ => ⟨h0, h1, hb.1, hb.2, cnd_of (fun hx => hbad fun h => ?_) (fun hx => ?_)⟩) (fun h => absurd h1 h)
    · rw [h.1] at hx; simp at hx
    simp only [bne_eq_false_iff_eq] at hx
    refine loop_ix (n := c.2.1.length) (fun b => ∀ b' : Int, 0 ≤ b' → b' < b → c.2.2.1.getD a.toNat 0 = c.2.1.getD b'.toNat 0 → hasR list (compR c a b') = true) (by omega) (by intro y h0 h1; omega) ?_ ?_
    · intro b next2 b0 b1 hP2 hn2 hin2
      try dsimp only
      refine cnd_d (fun _ => ⟨h0, h1, hb.1, by omega, b0, b1, fun _ => ⟨h1, h0⟩, fun _ => ⟨by omega, b0, by omega, hb.1⟩, cnd_of (fun hy => hbad fun h => ?_) (fun hy => ⟨by rw [inK64]; (try dsimp only); omega, hn2 fun b' a0 a1 e => ?_⟩)⟩) (fun h => absurd b1 h)
      · simp only [Bool.and_eq_true, beq_iff_eq, Bool.not_eq_true'] at hy
        rw [h.2 b b0 b1 hy.1] at hy; cases hy.2
      · by_cases e2 : b' = b
        · subst e2
          rw [e] at hy
          simpa using hy
        · exact hP2 b' a0 (by omega) e
    · intro next2 hP2 hin2
      exact cnd_d (fun h => absurd h (by dsimp only; omega)) (fun _ => ⟨by rw [inK64]; (try dsimp only); omega, hgood ⟨hx, hP2⟩⟩)
  · intro next hP hin
    refine cnd_d (fun h => absurd h (by dsimp only; omega)) (fun _ => ?_)
    simp only [c_spec_l25Sieve]
    rw [sieve_iff.2 ⟨hc.1, hc.2, hP⟩]
theorem ct_spec_l25Sieve : CtOk Try.prog 63 c_spec_l25Sieve :=
  ct_by (Φ := lkp [(68, c_spec_l01Has), (102, c_spec_l01Map), (101, c_spec_l02Rises), (69, c_spec_l02Then)]) (good_cons ct_spec_l01Has (good_cons ct_spec_l01Map (good_cons ct_spec_l02Rises (good_cons ct_spec_l02Then good_nil)))) tab_ok (by kernel_rfl) (fn := Try.f63) (c := bodyOf Try.f63) (by kernel_rfl) (by kernel_rfl) (by kernel_rfl) c_spec_l25Sieve rfl (.s .n (.s .n (.s (.s .n (.l [(7, (.d (.int .i64)))] [] [1, 2, 3] (.s .n (.s (.s .n (.s .n (.l [(8, (.d (.int .i64)))] [] [1, 2, 3, 7] .n))) .n)))) .n))) (cutL [(6, 10), (11, 26)]) (by kernel_rfl) (by kernel_rfl) k_spec_l25Sieve (by decide) (fun x K => W_spec_l25Sieve x.1 x.2.1 x.2.2.1 K) w_spec_l25Sieve (fun x h1 h2 => m_spec_l25Sieve x.1 x.2.1 x.2.2.1 h1 h2)
def c_spec_ImplySieves : Ct := ⟨[CategoryT, (.int .i64), (.sl (.int .i64)), (.sl (.int .i64))], [true, false, false, false], fun x => [], [(false, (.sl (.fz (.int .i64)))), (false, (.fz (.int .i64)))], fun x => ((implySR x.1 x.2.1 x.2.2.1 x.2.2.2.1).1, (implySR x.1 x.2.1 x.2.2.1 x.2.2.2.1).2, ()), false, none⟩
def W_spec_ImplySieves (c : CategoryD) (x : Int) (s : List Int) (t : List Int) (K : (List Int) × Int × Unit → Prop) : Prop := (cnd ((objCodeR c (x :: ([] : List Int))) != (0 : Int)) (K (([] : List Int), ((objCodeR c (x :: ([] : List Int))), ()))) ((ShapeP c) ∧ ((((!(sieveR c x s)) = Bool.false) → (ShapeP c)) ∧ (cnd ((!(sieveR c x s)) || (!(sieveR c x t))) (K (([] : List Int), ((1 : Int), ()))) (loopW (S := ((Unit × (Int × Unit)) × ((List Int) × Unit))) (fun s1 => (fun next => ((inK IntKind.i64 s1.1.2.1) → ((T.ok (T.sl (T.int IntKind.i64)) s1.2.1) → (cnd (decide (s1.1.2.1 < (((List.length c.2.1) : Nat) : Int))) (((0 : Int) ≤ s1.1.2.1) ∧ ((s1.1.2.1 < (((List.length c.2.1) : Nat) : Int)) ∧ (loopW (S := ((Unit × (Bool × (Int × Unit))) × ((List Int) × Unit))) (fun s2 => (fun next1 => ((inK IntKind.i64 s2.1.2.2.1) → ((T.ok (T.sl (T.int IntKind.i64)) s2.2.1) → (cnd (s2.1.2.1 && (decide (s2.1.2.2.1 < (((List.length c.2.1) : Nat) : Int)))) (((0 : Int) ≤ s1.1.2.1) ∧ ((s1.1.2.1 < (((List.length c.2.2.1) : Nat) : Int)) ∧ (((0 : Int) ≤ s2.1.2.2.1) ∧ ((s2.1.2.2.1 < (((List.length c.2.1) : Nat) : Int)) ∧ (((((List.getD c.2.2.1 (Int.toNat s1.1.2.1) (0 : Int)) != (List.getD c.2.1 (Int.toNat s2.1.2.2.1) (0 : Int))) = Bool.false) → ((s1.1.2.1 < (((List.length c.2.2.2.2) : Nat) : Int)) ∧ (((0 : Int) ≤ s2.1.2.2.1) ∧ ((s2.1.2.2.1 < (((List.length (List.getD c.2.2.2.2 (Int.toNat s1.1.2.1) ([] : List Int))) : Nat) : Int)) ∧ ((0 : Int) ≤ s1.1.2.1))))) ∧ ((((((List.getD c.2.2.1 (Int.toNat s1.1.2.1) (0 : Int)) != (List.getD c.2.1 (Int.toNat s2.1.2.2.1) (0 : Int))) || (!(hasR s (compR c s1.1.2.1 s2.1.2.2.1)))) = Bool.false) → ((s1.1.2.1 < (((List.length c.2.2.2.2) : Nat) : Int)) ∧ (((0 : Int) ≤ s2.1.2.2.1) ∧ ((s2.1.2.2.1 < (((List.length (List.getD c.2.2.2.2 (Int.toNat s1.1.2.1) ([] : List Int))) : Nat) : Int)) ∧ ((0 : Int) ≤ s1.1.2.1))))) ∧ ((inK IntKind.i64 (s2.1.2.2.1 + (1 : Int))) ∧ (next1 (((), (((((List.getD c.2.2.1 (Int.toNat s1.1.2.1) (0 : Int)) != (List.getD c.2.1 (Int.toNat s2.1.2.2.1) (0 : Int))) || (!(hasR s (compR c s1.1.2.1 s2.1.2.2.1)))) || (hasR t (compR c s1.1.2.1 s2.1.2.2.1))), ((s2.1.2.2.1 + (1 : Int)), ()))), (s2.2.1, ())))))))))) (joinW (S := ((Unit × Unit) × ((List Int) × Unit))) (fun s3 => ((T.ok (T.sl (T.int IntKind.i64)) s3.2.1) → ((inK IntKind.i64 (s1.1.2.1 + (1 : Int))) ∧ (next (((), ((s1.1.2.1 + (1 : Int)), ())), (s3.2.1, ())))))) (fun k => (cnd s2.1.2.1 ((room (List.length s2.2.1) (List.length (s1.1.2.1 :: ([] : List Int))) 8) ∧ (k (((), ()), ((s2.2.1 ++ (s1.1.2.1 :: ([] : List Int))), ())))) (k (((), ()), (s2.2.1, ()))))))))))) (((), (((List.getD c.2.1 (Int.toNat s1.1.2.1) (0 : Int)) == x), ((0 : Int), ()))), (s1.2.1, ()))))) (K (s1.2.1, ((0 : Int), ())))))))) (((), ((0 : Int), ())), (([] : List Int), ())))))))
theorem w_spec_ImplySieves (x : denL c_spec_ImplySieves.args) (K : (List Int) × Int × Unit → Prop) : evF tab (lkp [(68, c_spec_l01Has), (69, c_spec_l02Then), (55, c_spec_l25Code), (63, c_spec_l25Sieve)]) (cutL [(14, 29)]) Try.f25 (bodyOf Try.f25) (.s .n (.s .n (.s .n (.s .n (.s .n (.s (.s .n (.l [(11, (.ref 800011 [])), (12, (.d (.int .i64)))] [(800011, (.sl (.fz (.int .i64))))] [1, 2, 3, 4] (.s .n (.s (.s .n (.s (.s .n (.l [(11, (.ref 800011 [])), (13, (.d .bool)), (14, (.d (.int .i64)))] [(800011, (.sl (.fz (.int .i64))))] [1, 2, 3, 4, 12] .n)) (.s .n (.j [(11, (.ref 800011 []))] [(800011, (.sl (.fz (.int .i64))))] [1, 2, 3, 4, 12] .n)))) .n)))) .n)))))) c_spec_ImplySieves x K = W_spec_ImplySieves x.1 x.2.1 x.2.2.1 x.2.2.2.1 K := by kernel_rfl
theorem k_spec_ImplySieves : okC Try.f25.ntmps (cutL [(14, 29)]) (bodyOf Try.f25) = true := by kernel_rfl
theorem m_spec_ImplySieves (c : CategoryD) (x : Int) (s : List Int) (t : List Int) (hok : allP (okL c_spec_ImplySieves.args (c, x, s, t, ()))) (hpre : allP (c_spec_ImplySieves.pre (c, x, s, t, ()))) : W_spec_ImplySieves c x s t (fun r => r = c_spec_ImplySieves.res (c, x, s, t, ())) := by
  simp only [c_spec_ImplySieves, okL, T.oks, T.ok, ap, allP, true_and, and_true, implies_true] at hok hpre
  try dsimp only [T.den] at hok
  try dsimp only [T.den] at hpre
  unfold W_spec_ImplySieves
  refine cnd_of (fun hc => ?_) (fun hc => ?_)
  · simp only [c_spec_ImplySieves, implySR]; rw [if_neg (by simpa using hc)]
  have hz : objCodeR c [x] = 0 := by simpa using hc
  have S := code_shape hz
  refine ⟨S, fun _ => S, cnd_of (fun hs => ?_) (fun hs => ?_)⟩
  · simp only [c_spec_ImplySieves, implySR]; rw [if_pos hz, if_neg ((by decide : ∀ p q : Bool, (!p || !q) = true → ¬ (p = true ∧ q = true)) _ _ hs)]
  have hlt := S.lt
  have hlc := S.lc
  have hmm := S.m
  have hcr : ∀ a b : Int, (c.2.2.2.2.getD a.toNat []).getD b.toNat 0 = compR c a b := fun _ _ => rfl
  simp only [hcr, c_spec_ImplySieves, implySR]
  rw [if_pos hz, if_pos ((by decide : ∀ p q : Bool, (!p || !q) = false → (p = true ∧ q = true)) _ _ hs)]
  simp only [implyR, outR, fil_sel, all_sel]
  generalize hq : (fun a => c.2.1.getD a.toNat 0 == x && allB c.2.1.length fun b => !(c.2.1.getD b.toNat 0 == c.2.2.1.getD a.toNat 0) || (!hasR s (compR c a b) || hasR t (compR c a b))) = q
  refine loop_ixa (fun i => selR i.toNat q) (n := c.2.1.length) (by omega) rfl ?_ ?_
  · intro i next i0 i1 hn _ _
    have hsl := sel_len (p := q) i.toNat
    have hrow := S.row _ i0 i1
    have ht := @sel_t q i i0
    have hf := @sel_f q i i0
    have hqi : q i = (c.2.1.getD i.toNat 0 == x && allB c.2.1.length fun b => !(c.2.1.getD b.toNat 0 == c.2.2.1.getD i.toNat 0) || (!hasR s (compR c i b) || hasR t (compR c i b))) := by rw [← hq]
    try dsimp only
    refine cnd_d (fun _ => ⟨i0, i1, ?_⟩) (fun h => absurd i1 h)
    refine loop_of (fun (s2 : ((Unit × (Bool × (Int × Unit))) × ((List Int) × Unit))) => s2.2.1 = selR i.toNat q ∧ 0 ≤ s2.1.2.2.1 ∧ s2.1.2.2.1 ≤ c.2.1.length ∧ ((s2.1.2.1 = false ∧ q i = false) ∨ (s2.1.2.1 = true ∧ c.2.1.getD i.toNat 0 = x ∧ allB s2.1.2.2.1.toNat (fun b => !(c.2.1.getD b.toNat 0 == c.2.2.1.getD i.toNat 0) || (!hasR s (compR c i b) || hasR t (compR c i b))) = true))) (fun (s2 : ((Unit × (Bool × (Int × Unit))) × ((List Int) × Unit))) => (c.2.1.length - s2.1.2.2.1).toNat) ?_ ⟨rfl, by simp, by simp, ?_⟩
    · rintro ⟨⟨_, b, j, _⟩, l, _⟩ next2 ⟨rfl, j0, j1, hP⟩ hn2 _ _
      try dsimp only at j0 j1 hP hn2 ⊢
      refine cnd_of (fun he => ?_) (fun he => ?_)
      · simp only [Bool.and_eq_true, decide_eq_true_eq] at he
        obtain ⟨hb, hj⟩ := he
        obtain ⟨hP1, hP2⟩ : c.2.1.getD i.toNat 0 = x ∧ allB j.toNat (fun b => !(c.2.1.getD b.toNat 0 == c.2.2.1.getD i.toNat 0) || (!hasR s (compR c i b) || hasR t (compR c i b))) = true := by
          rcases hP with h | h
          · rw [hb] at h; cases h.1
          · exact h.2
        refine ⟨i0, by omega, j0, hj, fun _ => ⟨by omega, j0, by omega, i0⟩, fun _ => ⟨by omega, j0, by omega, i0⟩, by rw [inK64]; (try dsimp only); omega, hn2 _ ⟨rfl, (by first | omega | (dsimp only; omega)), (by first | omega | (dsimp only; omega)), ?_⟩ (by first | omega | (dsimp only; omega))⟩
        try dsimp only
        have hs := @allB_s (fun b => !(c.2.1.getD b.toNat 0 == c.2.2.1.getD i.toNat 0) || (!hasR s (compR c i b) || hasR t (compR c i b))) j j0
        rw [hP2, Bool.true_and] at hs
        have heq : (((c.2.2.1.getD i.toNat 0 != c.2.1.getD j.toNat 0) || !hasR s (compR c i j)) || hasR t (compR c i j)) = (!(c.2.1.getD j.toNat 0 == c.2.2.1.getD i.toNat 0) || (!hasR s (compR c i j) || hasR t (compR c i j))) := by
          rw [bne, Bool.beq_comm, Bool.or_assoc]
        rw [heq]
        cases hv : (!(c.2.1.getD j.toNat 0 == c.2.2.1.getD i.toNat 0) || (!hasR s (compR c i j) || hasR t (compR c i j))) with
        | false =>
          refine .inl ⟨rfl, ?_⟩
          rw [hqi]
          cases hall : allB c.2.1.length (fun b => !(c.2.1.getD b.toNat 0 == c.2.2.1.getD i.toNat 0) || (!hasR s (compR c i b) || hasR t (compR c i b))) with
          | false => rw [Bool.and_false]
          | true => have := allB_iff.1 hall j j0 hj; rw [hv] at this; cases this
        | true => exact .inr ⟨rfl, hP1, by rw [hs]; exact hv⟩
      · have hqb : q i = b := by
          rcases hP with ⟨h1, h2⟩ | ⟨h1, h2, h3⟩
          · rw [h1, h2]
          · rw [h1, Bool.true_and, decide_eq_false_iff_not] at he
            have : j.toNat = c.2.1.length := by omega
            rw [this] at h3
            rw [hqi, h3, h2, h1]; simp
        refine join_of (fun s => s.2.1 = selR (i + 1).toNat q) (fun s hs _ => ⟨by rw [inK64]; (try dsimp only); omega, by rw [hs]; exact hn⟩) (fun k hk => cnd_of (fun hb => ⟨room_of (by simp only [List.length_cons, List.length_nil]; omega), hk _ (ht (hqb.trans hb)).symm⟩) (fun hb => hk _ (hf (hqb.trans hb)).symm))
    · try dsimp only
      cases hx : c.2.1.getD i.toNat 0 == x with
      | false => exact .inl ⟨rfl, by rw [hqi, hx, Bool.false_and]⟩
      | true => exact .inr ⟨rfl, by simpa using hx, rfl⟩
  · intro next _ _
    refine cnd_d (fun h => absurd h (by dsimp only; omega)) (fun _ => ?_)
    simp only [Int.toNat_natCast]
theorem ct_spec_ImplySieves : CtOk Try.prog 25 c_spec_ImplySieves :=
  ct_by (Φ := lkp [(68, c_spec_l01Has), (69, c_spec_l02Then), (55, c_spec_l25Code), (63, c_spec_l25Sieve)]) (good_cons ct_spec_l01Has (good_cons ct_spec_l02Then (good_cons ct_spec_l25Code (good_cons ct_spec_l25Sieve good_nil)))) tab_ok (by kernel_rfl) (fn := Try.f25) (c := bodyOf Try.f25) (by kernel_rfl) (by kernel_rfl) (by kernel_rfl) c_spec_ImplySieves rfl (.s .n (.s .n (.s .n (.s .n (.s .n (.s (.s .n (.l [(11, (.ref 800011 [])), (12, (.d (.int .i64)))] [(800011, (.sl (.fz (.int .i64))))] [1, 2, 3, 4] (.s .n (.s (.s .n (.s (.s .n (.l [(11, (.ref 800011 [])), (13, (.d .bool)), (14, (.d (.int .i64)))] [(800011, (.sl (.fz (.int .i64))))] [1, 2, 3, 4, 12] .n)) (.s .n (.j [(11, (.ref 800011 []))] [(800011, (.sl (.fz (.int .i64))))] [1, 2, 3, 4, 12] .n)))) .n)))) .n)))))) (cutL [(14, 29)]) (by kernel_rfl) (by kernel_rfl) k_spec_ImplySieves (by decide) (fun x K => W_spec_ImplySieves x.1 x.2.1 x.2.2.1 x.2.2.2.1 K) w_spec_ImplySieves (fun x h1 h2 => m_spec_ImplySieves x.1 x.2.1 x.2.2.1 x.2.2.2.1 h1 h2)
def c_laws_FnExactImplySieves : Ct := ⟨[CategoryT, (.int .i64), (.sl (.int .i64)), (.sl (.int .i64))], [true, false, false, false], fun x => [], [(false, (.fz .bool))], fun x => (true, ()), false, none⟩
def W_laws_FnExactImplySieves (aC : CategoryD) (aX : Int) (aS : List Int) (aT : List Int) (K : Bool × Unit → Prop) : Prop := (cnd (decide ((1048576 : Int) < (((List.length aS) : Nat) : Int))) (K (Bool.true, ())) (cnd (decide ((1048576 : Int) < (((List.length aT) : Nat) : Int))) (K (Bool.true, ())) (((-(4611404543450677248 : Int)) ≤ (1048576 : Int)) ∧ (cnd (decide ((szR (wR CategoryT aC) (1048576 : Int)) < (0 : Int))) (K (Bool.true, ())) (((wR CategoryT aC) ≤ 1099511627776) ∧ (((wR (T.sl (T.int IntKind.i64)) aS) ≤ 1099511627776) ∧ (((wR (T.sl (T.int IntKind.i64)) aT) ≤ 1099511627776) ∧ (((wR CategoryT aC) ≤ 1099511627776) ∧ (((wR (T.sl (T.int IntKind.i64)) aS) ≤ 1099511627776) ∧ (((wR (T.sl (T.int IntKind.i64)) aT) ≤ 1099511627776) ∧ (cnd ((!(eqR (T.sl (T.int IntKind.i64)) (implySR aC aX aS aT).1 (implySR aC aX aS aT).1)) || ((implySR aC aX aS aT).2 != (implySR aC aX aS aT).2)) (K (Bool.false, ())) (((wR CategoryT aC) ≤ 1099511627776) ∧ (cnd (!(eqR CategoryT aC aC)) (K (Bool.false, ())) (((wR (T.sl (T.int IntKind.i64)) aS) ≤ 1099511627776) ∧ (cnd (!(eqR (T.sl (T.int IntKind.i64)) aS aS)) (K (Bool.false, ())) (((wR (T.sl (T.int IntKind.i64)) aT) ≤ 1099511627776) ∧ (cnd (!(eqR (T.sl (T.int IntKind.i64)) aT aT)) (K (Bool.false, ())) (((0 : Int) ≤ (1 : Int)) ∧ ((((1 : Int) + (((ctR CategoryT aC) : Nat) : Int)) ≤ (4611686018427387904 : Int)) ∧ (((0 : Int) ≤ (mtR CategoryT aC (1 : Int)).2) ∧ ((((mtR CategoryT aC (1 : Int)).2 + (((ckR (T.sl (T.int IntKind.i64)) aS) : Nat) : Int)) ≤ (4611686018427387904 : Int)) ∧ (((0 : Int) ≤ (mkR (T.sl (T.int IntKind.i64)) aS (mtR CategoryT aC (1 : Int)).2).2) ∧ ((((mkR (T.sl (T.int IntKind.i64)) aS (mtR CategoryT aC (1 : Int)).2).2 + (((ckR (T.sl (T.int IntKind.i64)) aT) : Nat) : Int)) ≤ (4611686018427387904 : Int)) ∧ (cnd (((decide ((mkR (T.sl (T.int IntKind.i64)) aT (mkR (T.sl (T.int IntKind.i64)) aS (mtR CategoryT aC (1 : Int)).2).2).2 < (0 : Int))) || (!(eqR (T.sl (T.int IntKind.i64)) (implySR aC aX aS aT).1 (implySR aC aX aS aT).1))) || ((implySR aC aX aS aT).2 != (implySR aC aX aS aT).2)) (K (Bool.false, ())) (((0 : Int) ≤ (1 : Int)) ∧ ((((1 : Int) + (((ckR (T.sl (T.int IntKind.i64)) (implySR aC aX aS aT).1) : Nat) : Int)) ≤ (4611686018427387904 : Int)) ∧ (((0 : Int) ≤ (1 : Int)) ∧ ((((1 : Int) + (((ckR (T.sl (T.int IntKind.i64)) (mkR (T.sl (T.int IntKind.i64)) (implySR aC aX aS aT).1 (1 : Int)).1) : Nat) : Int)) ≤ (4611686018427387904 : Int)) ∧ (cnd (decide ((hdR (T.sl (T.int IntKind.i64)) (mkR (T.sl (T.int IntKind.i64)) (implySR aC aX aS aT).1 (1 : Int)).1 (1 : Int)) < (0 : Int))) (K (Bool.false, ())) (cnd ((hdR (T.sl (T.int IntKind.i64)) (mkR (T.sl (T.int IntKind.i64)) (implySR aC aX aS aT).1 (1 : Int)).1 (1 : Int)) != (mkR (T.sl (T.int IntKind.i64)) (implySR aC aX aS aT).1 (1 : Int)).2) (K (Bool.false, ())) (((wR CategoryT aC) ≤ 1099511627776) ∧ (((wR (T.sl (T.int IntKind.i64)) aS) ≤ 1099511627776) ∧ (((wR (T.sl (T.int IntKind.i64)) aT) ≤ 1099511627776) ∧ (cnd ((!(eqR (T.sl (T.int IntKind.i64)) (implySR aC aX aS aT).1 (implySR aC aX aS aT).1)) || ((implySR aC aX aS aT).2 != (implySR aC aX aS aT).2)) (K (Bool.false, ())) (((0 : Int) ≤ (1 : Int)) ∧ ((((1 : Int) + (((ckR (T.sl (T.int IntKind.i64)) (mkR (T.sl (T.int IntKind.i64)) (implySR aC aX aS aT).1 (1 : Int)).1) : Nat) : Int)) ≤ (4611686018427387904 : Int)) ∧ (cnd (decide ((hdR (T.sl (T.int IntKind.i64)) (mkR (T.sl (T.int IntKind.i64)) (implySR aC aX aS aT).1 (1 : Int)).1 (1 : Int)) < (0 : Int))) (K (Bool.false, ())) (cnd ((hdR (T.sl (T.int IntKind.i64)) (mkR (T.sl (T.int IntKind.i64)) (implySR aC aX aS aT).1 (1 : Int)).1 (1 : Int)) != (mkR (T.sl (T.int IntKind.i64)) (implySR aC aX aS aT).1 (1 : Int)).2) (K (Bool.false, ())) (K (Bool.true, ()))))))))))))))))))))))))))))))))))))))))
theorem w_laws_FnExactImplySieves (x : denL c_laws_FnExactImplySieves.args) (K : Bool × Unit → Prop) : evF tab (lkp [(26, c_impl_ImplySieves), (19, c_laws_eqCategory), (18, c_laws_eqInt64S), (22, c_laws_heldInt64S), (20, c_laws_markCategory), (21, c_laws_markInt64S), (13, c_laws_szCategory), (15, c_laws_toCategory), (16, c_laws_toInt64S), (25, c_spec_ImplySieves)]) (cutL [(16, 5)]) Try.f5 (bodyOf Try.f5) .n c_laws_FnExactImplySieves x K = W_laws_FnExactImplySieves x.1 x.2.1 x.2.2.1 x.2.2.2.1 K := by kernel_rfl
theorem k_laws_FnExactImplySieves : okC Try.f5.ntmps (cutL [(16, 5)]) (bodyOf Try.f5) = true := by kernel_rfl
theorem m_laws_FnExactImplySieves (aC : CategoryD) (aX : Int) (aS : List Int) (aT : List Int) (hok : allP (okL c_laws_FnExactImplySieves.args (aC, aX, aS, aT, ()))) (hpre : allP (c_laws_FnExactImplySieves.pre (aC, aX, aS, aT, ()))) : W_laws_FnExactImplySieves aC aX aS aT (fun r => r = c_laws_FnExactImplySieves.res (aC, aX, aS, aT, ())) := by
  simp only [c_laws_FnExactImplySieves, okL, T.oks, T.ok, ap, allP, true_and, and_true, implies_true] at hok hpre
  try dsimp only [T.den] at hok
  try dsimp only [T.den] at hpre
  unfold W_laws_FnExactImplySieves
  have hg : (implySR aC aX aS aT).1.length ≤ 40 := by
    unfold implySR
    split
    · rename_i h
      split
      · exact Nat.le_trans (List.length_filter_le _ _) (out_len (code_shape h) _)
      · simp
    · simp
  have e1 := ct_le CategoryT (by decide) aC
  rw [wR_ints, wR_ints]
  have e2 := @hd_mk1 (.sl (.int .i64)) (implySR aC aX aS aT).1 1
  simp only [Int.ofNat_one, Int.natCast_one] at e2
  simp only [eqR_self, mk_num, mt_num, ck_mk, e2, ck_ints, szR_neg]
  generalize wR CategoryT aC = n1 at *
  generalize ctR CategoryT aC = n2 at *
  generalize (implySR aC aX aS aT) = g at *
  clear hok
  repeat' (first | rfl | (refine cnd_d (fun _ => rfl) (fun h => ?_)) | (refine cnd_of (fun h => absurd h (by first | (simp; done) | (simp; omega))) (fun _ => ?_)) | (refine ⟨by omega, ?_⟩))
theorem ct_laws_FnExactImplySieves : CtOk Try.prog 5 c_laws_FnExactImplySieves :=
  ct_by (Φ := lkp [(26, c_impl_ImplySieves), (19, c_laws_eqCategory), (18, c_laws_eqInt64S), (22, c_laws_heldInt64S), (20, c_laws_markCategory), (21, c_laws_markInt64S), (13, c_laws_szCategory), (15, c_laws_toCategory), (16, c_laws_toInt64S), (25, c_spec_ImplySieves)]) (good_cons ct_impl_ImplySieves (good_cons ct_laws_eqCategory (good_cons ct_laws_eqInt64S (good_cons ct_laws_heldInt64S (good_cons ct_laws_markCategory (good_cons ct_laws_markInt64S (good_cons ct_laws_szCategory (good_cons ct_laws_toCategory (good_cons ct_laws_toInt64S (good_cons ct_spec_ImplySieves good_nil)))))))))) tab_ok (by kernel_rfl) (fn := Try.f5) (c := bodyOf Try.f5) (by kernel_rfl) (by kernel_rfl) (by kernel_rfl) c_laws_FnExactImplySieves rfl .n (cutL [(16, 5)]) (by kernel_rfl) (by kernel_rfl) k_laws_FnExactImplySieves (by decide) (fun x K => W_laws_FnExactImplySieves x.1 x.2.1 x.2.2.1 x.2.2.2.1 K) w_laws_FnExactImplySieves (fun x h1 h2 => m_laws_FnExactImplySieves x.1 x.2.1 x.2.2.1 x.2.2.2.1 h1 h2)
end Go.Bm
