/- What the functions that FnExactGeneratedPart reaches give: for each its contract, what it asks, and the proof. No condition. -/
import Derived.Test.YtfknijkkogmidaaTab
namespace Go.Bm
open Go.Proofs
set_option maxRecDepth 100000
set_option maxHeartbeats 1000000
set_option linter.unusedVariables false
set_option linter.unusedSimpArgs false
def c_impl_Category_arrows : Ct := ⟨[(.pt CategoryT)], [false], fun x => [], [(false, (.fz (.int .i64)))], fun x => ((x.1.2.1.length : Int), ()), false, none⟩
def W_impl_Category_arrows (c : CategoryD) (K : Int × Unit → Prop) : Prop := (K ((((List.length c.2.1) : Nat) : Int), ()))
theorem w_impl_Category_arrows (x : denL c_impl_Category_arrows.args) (K : Int × Unit → Prop) : evF tab (lkp []) (cutL []) Try.f38 (bodyOf Try.f38) .n c_impl_Category_arrows x K = W_impl_Category_arrows x.1 K := by kernel_rfl
theorem k_impl_Category_arrows : okC Try.f38.ntmps (cutL []) (bodyOf Try.f38) = true := by kernel_rfl
theorem m_impl_Category_arrows (c : CategoryD) (hok : allP (okL c_impl_Category_arrows.args (c, ()))) (hpre : allP (c_impl_Category_arrows.pre (c, ()))) : W_impl_Category_arrows c (fun r => r = c_impl_Category_arrows.res (c, ())) := by
  simp only [c_impl_Category_arrows, okL, T.oks, T.ok, ap, allP, true_and, and_true, implies_true] at hok hpre
  try dsimp only [T.den] at hok
  try dsimp only [T.den] at hpre
  unfold W_impl_Category_arrows
  rfl
theorem ct_impl_Category_arrows : CtOk Try.prog 38 c_impl_Category_arrows :=
  ct_by (Φ := lkp []) good_nil tab_ok (by kernel_rfl) (fn := Try.f38) (c := bodyOf Try.f38) (by kernel_rfl) (by kernel_rfl) (by kernel_rfl) c_impl_Category_arrows rfl .n (cutL []) (by kernel_rfl) (by kernel_rfl) k_impl_Category_arrows (by decide) (fun x K => W_impl_Category_arrows x.1 K) w_impl_Category_arrows (fun x h1 h2 => m_impl_Category_arrows x.1 h1 h2)
def compR (c : CategoryD) (f g : Int) : Int := (c.2.2.2.2.getD f.toNat []).getD g.toNat 0

def c_impl_Category_then : Ct := ⟨[(.pt CategoryT), (.int .i64), (.int .i64)], [false, false, false], fun x => [0 ≤ x.2.1, x.2.1 < x.1.2.2.2.2.length, 0 ≤ x.2.2.1, x.2.2.1 < (x.1.2.2.2.2.getD x.2.1.toNat []).length], [(false, (.fz (.int .i64)))], fun x => (compR x.1 x.2.1 x.2.2.1, ()), false, none⟩
def W_impl_Category_then (c : CategoryD) (f : Int) (g : Int) (K : Int × Unit → Prop) : Prop := (((0 : Int) ≤ f) ∧ ((f < (((List.length c.2.2.2.2) : Nat) : Int)) ∧ (((0 : Int) ≤ g) ∧ ((g < (((List.length (List.getD c.2.2.2.2 (Int.toNat f) ([] : List Int))) : Nat) : Int)) ∧ (K ((List.getD (List.getD c.2.2.2.2 (Int.toNat f) ([] : List Int)) (Int.toNat g) (0 : Int)), ()))))))
theorem w_impl_Category_then (x : denL c_impl_Category_then.args) (K : Int × Unit → Prop) : evF tab (lkp []) (cutL []) Try.f68 (bodyOf Try.f68) .n c_impl_Category_then x K = W_impl_Category_then x.1 x.2.1 x.2.2.1 K := by kernel_rfl
theorem k_impl_Category_then : okC Try.f68.ntmps (cutL []) (bodyOf Try.f68) = true := by kernel_rfl
theorem m_impl_Category_then (c : CategoryD) (f : Int) (g : Int) (hok : allP (okL c_impl_Category_then.args (c, f, g, ()))) (hpre : allP (c_impl_Category_then.pre (c, f, g, ()))) : W_impl_Category_then c f g (fun r => r = c_impl_Category_then.res (c, f, g, ())) := by
  simp only [c_impl_Category_then, okL, T.oks, T.ok, ap, allP, true_and, and_true, implies_true] at hok hpre
  try dsimp only [T.den] at hok
  try dsimp only [T.den] at hpre
  unfold W_impl_Category_then
  exact ⟨hpre.1, hpre.2.1, hpre.2.2.1, hpre.2.2.2, rfl⟩
theorem ct_impl_Category_then : CtOk Try.prog 68 c_impl_Category_then :=
  ct_by (Φ := lkp []) good_nil tab_ok (by kernel_rfl) (fn := Try.f68) (c := bodyOf Try.f68) (by kernel_rfl) (by kernel_rfl) (by kernel_rfl) c_impl_Category_then rfl .n (cutL []) (by kernel_rfl) (by kernel_rfl) k_impl_Category_then (by decide) (fun x K => W_impl_Category_then x.1 x.2.1 x.2.2.1 K) w_impl_Category_then (fun x h1 h2 => m_impl_Category_then x.1 x.2.1 x.2.2.1 h1 h2)
def c_impl_Category_ends : Ct := ⟨[(.pt CategoryT), (.int .i64)], [false, false], fun x => [0 ≤ x.2.1, x.2.1 < x.1.2.1.length, x.2.1 < x.1.2.2.1.length], [(true, (.fz endsT))], fun x => (((x.1.2.1.getD x.2.1.toNat 0, x.1.2.2.1.getD x.2.1.toNat 0) : Int × Int), ()), false, none⟩
def W_impl_Category_ends (c : CategoryD) (f : Int) (K : endsD × Unit → Prop) : Prop := (((0 : Int) ≤ f) ∧ ((f < (((List.length c.2.1) : Nat) : Int)) ∧ (((0 : Int) ≤ f) ∧ ((f < (((List.length c.2.2.1) : Nat) : Int)) ∧ (K (((List.getD c.2.1 (Int.toNat f) (0 : Int)), (List.getD c.2.2.1 (Int.toNat f) (0 : Int))), ()))))))
theorem w_impl_Category_ends (x : denL c_impl_Category_ends.args) (K : endsD × Unit → Prop) : evF tab (lkp []) (cutL [(1, 15)]) Try.f87 (bodyOf Try.f87) .n c_impl_Category_ends x K = W_impl_Category_ends x.1 x.2.1 K := by kernel_rfl
theorem k_impl_Category_ends : okC Try.f87.ntmps (cutL [(1, 15)]) (bodyOf Try.f87) = true := by kernel_rfl
theorem m_impl_Category_ends (c : CategoryD) (f : Int) (hok : allP (okL c_impl_Category_ends.args (c, f, ()))) (hpre : allP (c_impl_Category_ends.pre (c, f, ()))) : W_impl_Category_ends c f (fun r => r = c_impl_Category_ends.res (c, f, ())) := by
  simp only [c_impl_Category_ends, okL, T.oks, T.ok, ap, allP, true_and, and_true, implies_true] at hok hpre
  try dsimp only [T.den] at hok
  try dsimp only [T.den] at hpre
  unfold W_impl_Category_ends
  exact ⟨hpre.1, hpre.2.1, hpre.1, hpre.2.2, rfl⟩
theorem ct_impl_Category_ends : CtOk Try.prog 87 c_impl_Category_ends :=
  ct_by (Φ := lkp []) good_nil tab_ok (by kernel_rfl) (fn := Try.f87) (c := bodyOf Try.f87) (by kernel_rfl) (by kernel_rfl) (by kernel_rfl) c_impl_Category_ends rfl .n (cutL [(1, 15)]) (by kernel_rfl) (by kernel_rfl) k_impl_Category_ends (by decide) (fun x K => W_impl_Category_ends x.1 x.2.1 K) w_impl_Category_ends (fun x h1 h2 => m_impl_Category_ends x.1 x.2.1 h1 h2)
def c_impl_inRange : Ct := ⟨[(.int .i64), (.int .i64), (.int .i64)], [false, false, false], fun x => [], [(false, (.fz .bool))], fun x => (inR x.1 x.2.1 x.2.2.1, ()), false, none⟩
def W_impl_inRange (n : Int) (low : Int) (high : Int) (K : Bool × Unit → Prop) : Prop := (K (((decide (low ≤ n)) && (decide (n ≤ high))), ()))
theorem w_impl_inRange (x : denL c_impl_inRange.args) (K : Bool × Unit → Prop) : evF tab (lkp []) (cutL []) Try.f54 (bodyOf Try.f54) .n c_impl_inRange x K = W_impl_inRange x.1 x.2.1 x.2.2.1 K := by kernel_rfl
theorem k_impl_inRange : okC Try.f54.ntmps (cutL []) (bodyOf Try.f54) = true := by kernel_rfl
theorem m_impl_inRange (n : Int) (low : Int) (high : Int) (hok : allP (okL c_impl_inRange.args (n, low, high, ()))) (hpre : allP (c_impl_inRange.pre (n, low, high, ()))) : W_impl_inRange n low high (fun r => r = c_impl_inRange.res (n, low, high, ())) := by
  simp only [c_impl_inRange, okL, T.oks, T.ok, ap, allP, true_and, and_true, implies_true] at hok hpre
  try dsimp only [T.den] at hok
  try dsimp only [T.den] at hpre
  unfold W_impl_inRange
  grind [cnd, nb_eq, inK64, c_impl_inRange, inR]
theorem ct_impl_inRange : CtOk Try.prog 54 c_impl_inRange :=
  ct_by (Φ := lkp []) good_nil tab_ok (by kernel_rfl) (fn := Try.f54) (c := bodyOf Try.f54) (by kernel_rfl) (by kernel_rfl) (by kernel_rfl) c_impl_inRange rfl .n (cutL []) (by kernel_rfl) (by kernel_rfl) k_impl_inRange (by decide) (fun x K => W_impl_inRange x.1 x.2.1 x.2.2.1 K) w_impl_inRange (fun x h1 h2 => m_impl_inRange x.1 x.2.1 x.2.2.1 h1 h2)
def c_impl_within : Ct := ⟨[(.sl (.int .i64)), (.int .i64)], [false, false], fun x => [inK .i64 (x.2.1 - 1)], [(false, (.fz .bool))], fun x => (withinR x.1 x.2.1, ()), false, none⟩
def W_impl_within (list : List Int) (n : Int) (K : Bool × Unit → Prop) : Prop := (loopW (S := ((Int × Unit) × Unit)) (fun s => (fun next => ((inK IntKind.i64 s.1.1) → (cnd (decide (s.1.1 < (((List.length list) : Nat) : Int))) (((0 : Int) ≤ s.1.1) ∧ ((s.1.1 < (((List.length list) : Nat) : Int)) ∧ ((inK IntKind.i64 (n - (1 : Int))) ∧ (cnd (!(inR (List.getD list (Int.toNat s.1.1) (0 : Int)) (0 : Int) (n - (1 : Int)))) (K (Bool.false, ())) ((inK IntKind.i64 (s.1.1 + (1 : Int))) ∧ (next (((s.1.1 + (1 : Int)), ()), ()))))))) (K (Bool.true, ())))))) (((0 : Int), ()), ()))
theorem w_impl_within (x : denL c_impl_within.args) (K : Bool × Unit → Prop) : evF tab (lkp [(54, c_impl_inRange)]) (cutL []) Try.f63 (bodyOf Try.f63) (.s .n (.s (.s .n (.l [(9, (.d (.int .i64)))] [] [1, 7, 8] .n)) .n)) c_impl_within x K = W_impl_within x.1 x.2.1 K := by kernel_rfl
theorem k_impl_within : okC Try.f63.ntmps (cutL []) (bodyOf Try.f63) = true := by kernel_rfl
theorem m_impl_within (list : List Int) (n : Int) (hok : allP (okL c_impl_within.args (list, n, ()))) (hpre : allP (c_impl_within.pre (list, n, ()))) : W_impl_within list n (fun r => r = c_impl_within.res (list, n, ())) := by
  simp only [c_impl_within, okL, T.oks, T.ok, ap, allP, true_and, and_true, implies_true] at hok hpre
  try dsimp only [T.den] at hok
  try dsimp only [T.den] at hpre
  unfold W_impl_within
  refine loop_of (fun (s : ((Int × Unit) × Unit)) => 0 ≤ s.1.1 ∧ s.1.1 ≤ list.length ∧ withinR list n = withinR (list.drop s.1.1.toNat) n) (fun (s : ((Int × Unit) × Unit)) => (list.length - s.1.1).toNat) ?_ (by simp)
  rintro ⟨⟨i, _⟩, _⟩ next ⟨h0, h1, h2⟩ hn hin
  simp only at h0 h1 h2 hn ⊢
  refine cnd_d (fun hc => ?_) (fun hc => ?_)
  · rw [drop_c list 0 h0 hc] at h2
    simp only [withinR, List.all_cons] at h2
    grind [cnd, nb_eq, inK64, c_impl_within, withinR]
  · rw [drop_n list (by omega)] at h2
    grind [cnd, nb_eq, inK64, c_impl_within, withinR]
theorem ct_impl_within : CtOk Try.prog 63 c_impl_within :=
  ct_by (Φ := lkp [(54, c_impl_inRange)]) (good_cons ct_impl_inRange good_nil) tab_ok (by kernel_rfl) (fn := Try.f63) (c := bodyOf Try.f63) (by kernel_rfl) (by kernel_rfl) (by kernel_rfl) c_impl_within rfl (.s .n (.s (.s .n (.l [(9, (.d (.int .i64)))] [] [1, 7, 8] .n)) .n)) (cutL []) (by kernel_rfl) (by kernel_rfl) k_impl_within (by decide) (fun x K => W_impl_within x.1 x.2.1 K) w_impl_within (fun x h1 h2 => m_impl_within x.1 x.2.1 h1 h2)
/-- what a cell of the table must be -/
def cellQ (c : CategoryD) (f g v : Int) : Bool :=
  if c.2.2.1.getD f.toNat 0 = c.2.1.getD g.toNat 0 then decide (0 ≤ v ∧ v < c.2.1.length ∧ c.2.1.getD v.toNat 0 = c.2.1.getD f.toNat 0 ∧ c.2.2.1.getD v.toNat 0 = c.2.2.1.getD g.toNat 0)
  else decide (v = -1)
def cellR (c : CategoryD) (f g : Int) : Bool := cellQ c f g (compR c f g)
structure ShapeP (c : CategoryD) : Prop where
  ob : 0 ≤ c.1 ∧ c.1 ≤ 8
  m : c.2.1.length ≤ 40
  lt : c.2.2.1.length = c.2.1.length
  fr : withinR c.2.1 c.1 = true
  to : withinR c.2.2.1 c.1 = true
  li : (c.2.2.2.1.length : Int) = c.1
  ids : withinR c.2.2.2.1 c.2.1.length = true
  lc : c.2.2.2.2.length = c.2.1.length
  idt : ∀ x : Int, 0 ≤ x → x < c.1 → c.2.1.getD (c.2.2.2.1.getD x.toNat 0).toNat 0 = x ∧ c.2.2.1.getD (c.2.2.2.1.getD x.toNat 0).toNat 0 = x
  row : ∀ f : Int, 0 ≤ f → f < c.2.1.length → (c.2.2.2.2.getD f.toNat []).length = c.2.1.length
  cell : ∀ f g : Int, 0 ≤ f → f < c.2.1.length → 0 ≤ g → g < c.2.1.length → cellR c f g = true
def shapeR (c : CategoryD) : Bool := inR c.1 0 8 && decide (c.2.1.length ≤ 40) && decide (c.2.2.1.length = c.2.1.length) && withinR c.2.1 c.1 && withinR c.2.2.1 c.1 && decide ((c.2.2.2.1.length : Int) = c.1) && withinR c.2.2.2.1 c.2.1.length &&
  decide (c.2.2.2.2.length = c.2.1.length) && allB c.1.toNat (fun x => decide (c.2.1.getD (c.2.2.2.1.getD x.toNat 0).toNat 0 = x ∧ c.2.2.1.getD (c.2.2.2.1.getD x.toNat 0).toNat 0 = x)) &&
  allB c.2.1.length (fun f => decide ((c.2.2.2.2.getD f.toNat []).length = c.2.1.length)) && allB c.2.1.length (fun f => allB c.2.1.length fun g => cellR c f g)
theorem shape_iff {c : CategoryD} : shapeR c = true ↔ ShapeP c := by
  simp only [shapeR, Bool.and_eq_true, decide_eq_true_eq, inR, allB_iff]
  constructor
  · rintro ⟨⟨⟨⟨⟨⟨⟨⟨⟨⟨h0, h1⟩, h2⟩, h3⟩, h4⟩, h5⟩, h6⟩, h7⟩, h8⟩, h9⟩, h10⟩
    exact ⟨h0, h1, h2, h3, h4, h5, h6, h7, fun x a b => h8 x a (by omega), h9, fun f g a b d e => h10 f a b g d e⟩
  · intro h
    exact ⟨⟨⟨⟨⟨⟨⟨⟨⟨⟨h.ob, h.m⟩, h.lt⟩, h.fr⟩, h.to⟩, h.li⟩, h.ids⟩, h.lc⟩, fun x a b => h.idt x a (by have := h.ob; omega)⟩, h.row⟩, fun f a b g d e => h.cell f g a b d e⟩
theorem shape_f {c : CategoryD} (h : ¬ ShapeP c) : shapeR c = false := by
  cases hs : shapeR c with
  | false => rfl
  | true => exact absurd (shape_iff.1 hs) h
theorem shape_t {c : CategoryD} (h : ShapeP c) : shapeR c = true := shape_iff.2 h

def c_impl_Category_isShape : Ct := ⟨[(.pt CategoryT)], [false], fun x => [], [(false, (.fz .bool))], fun x => (shapeR x.1, ()), false, none⟩
def W_impl_Category_isShape (c : CategoryD) (K : Bool × Unit → Prop) : Prop := ((((((!(inR c.1 (0 : Int) (8 : Int))) || (decide ((40 : Int) < (((List.length c.2.1) : Nat) : Int)))) || ((((List.length c.2.2.1) : Nat) : Int) != (((List.length c.2.1) : Nat) : Int))) = Bool.false) → (inK IntKind.i64 (c.1 - (1 : Int)))) ∧ (((((((!(inR c.1 (0 : Int) (8 : Int))) || (decide ((40 : Int) < (((List.length c.2.1) : Nat) : Int)))) || ((((List.length c.2.2.1) : Nat) : Int) != (((List.length c.2.1) : Nat) : Int))) || (!(withinR c.2.1 c.1))) = Bool.false) → (inK IntKind.i64 (c.1 - (1 : Int)))) ∧ (cnd (((((!(inR c.1 (0 : Int) (8 : Int))) || (decide ((40 : Int) < (((List.length c.2.1) : Nat) : Int)))) || ((((List.length c.2.2.1) : Nat) : Int) != (((List.length c.2.1) : Nat) : Int))) || (!(withinR c.2.1 c.1))) || (!(withinR c.2.2.1 c.1))) (K (Bool.false, ())) (((((((List.length c.2.2.2.1) : Nat) : Int) != c.1) = Bool.false) → (inK IntKind.i64 ((((List.length c.2.1) : Nat) : Int) - (1 : Int)))) ∧ (cnd ((((((List.length c.2.2.2.1) : Nat) : Int) != c.1) || (!(withinR c.2.2.2.1 (((List.length c.2.1) : Nat) : Int)))) || ((((List.length c.2.2.2.2) : Nat) : Int) != (((List.length c.2.1) : Nat) : Int))) (K (Bool.false, ())) (loopW (S := ((Int × Unit) × Unit)) (fun s => (fun next => ((inK IntKind.i64 s.1.1) → (cnd (decide (s.1.1 < (((List.length c.2.2.2.1) : Nat) : Int))) (((0 : Int) ≤ s.1.1) ∧ ((s.1.1 < (((List.length c.2.2.2.1) : Nat) : Int)) ∧ (((0 : Int) ≤ (List.getD c.2.2.2.1 (Int.toNat s.1.1) (0 : Int))) ∧ (((List.getD c.2.2.2.1 (Int.toNat s.1.1) (0 : Int)) < (((List.length c.2.1) : Nat) : Int)) ∧ (((List.getD c.2.2.2.1 (Int.toNat s.1.1) (0 : Int)) < (((List.length c.2.2.1) : Nat) : Int)) ∧ (cnd (!(((List.getD c.2.1 (Int.toNat (List.getD c.2.2.2.1 (Int.toNat s.1.1) (0 : Int))) (0 : Int)) == s.1.1) && ((List.getD c.2.2.1 (Int.toNat (List.getD c.2.2.2.1 (Int.toNat s.1.1) (0 : Int))) (0 : Int)) == s.1.1))) (K (Bool.false, ())) ((inK IntKind.i64 (s.1.1 + (1 : Int))) ∧ (next (((s.1.1 + (1 : Int)), ()), ()))))))))) (loopW (S := ((Int × Unit) × Unit)) (fun s1 => (fun next1 => ((inK IntKind.i64 s1.1.1) → (cnd (decide (s1.1.1 < (((List.length c.2.2.2.2) : Nat) : Int))) (((0 : Int) ≤ s1.1.1) ∧ ((s1.1.1 < (((List.length c.2.2.2.2) : Nat) : Int)) ∧ (cnd ((((List.length (List.getD c.2.2.2.2 (Int.toNat s1.1.1) ([] : List Int))) : Nat) : Int) != (((List.length c.2.1) : Nat) : Int)) (K (Bool.false, ())) (loopW (S := ((Int × Unit) × Unit)) (fun s2 => (fun next2 => ((inK IntKind.i64 s2.1.1) → (cnd (decide (s2.1.1 < (((List.length (List.getD c.2.2.2.2 (Int.toNat s1.1.1) ([] : List Int))) : Nat) : Int))) (joinW (S := (Unit × Unit)) (fun s3 => ((inK IntKind.i64 (s2.1.1 + (1 : Int))) ∧ (next2 (((s2.1.1 + (1 : Int)), ()), ())))) (fun k => (((0 : Int) ≤ s2.1.1) ∧ ((s2.1.1 < (((List.length (List.getD c.2.2.2.2 (Int.toNat s1.1.1) ([] : List Int))) : Nat) : Int)) ∧ (((0 : Int) ≤ s1.1.1) ∧ ((s1.1.1 < (((List.length c.2.2.1) : Nat) : Int)) ∧ (((0 : Int) ≤ s2.1.1) ∧ ((s2.1.1 < (((List.length c.2.1) : Nat) : Int)) ∧ (cnd ((List.getD c.2.2.1 (Int.toNat s1.1.1) (0 : Int)) != (List.getD c.2.1 (Int.toNat s2.1.1) (0 : Int))) (cnd ((List.getD (List.getD c.2.2.2.2 (Int.toNat s1.1.1) ([] : List Int)) (Int.toNat s2.1.1) (0 : Int)) != (-(1 : Int))) (K (Bool.false, ())) (k ((), ()))) ((inK IntKind.i64 ((((List.length c.2.1) : Nat) : Int) - (1 : Int))) ∧ ((((!(inR (List.getD (List.getD c.2.2.2.2 (Int.toNat s1.1.1) ([] : List Int)) (Int.toNat s2.1.1) (0 : Int)) (0 : Int) ((((List.length c.2.1) : Nat) : Int) - (1 : Int)))) = Bool.false) → (((List.getD (List.getD c.2.2.2.2 (Int.toNat s1.1.1) ([] : List Int)) (Int.toNat s2.1.1) (0 : Int)) < (((List.length c.2.1) : Nat) : Int)) ∧ (((List.getD (List.getD c.2.2.2.2 (Int.toNat s1.1.1) ([] : List Int)) (Int.toNat s2.1.1) (0 : Int)) < (((List.length c.2.2.1) : Nat) : Int)) ∧ ((0 : Int) ≤ (List.getD (List.getD c.2.2.2.2 (Int.toNat s1.1.1) ([] : List Int)) (Int.toNat s2.1.1) (0 : Int)))))) ∧ ((((!(inR (List.getD (List.getD c.2.2.2.2 (Int.toNat s1.1.1) ([] : List Int)) (Int.toNat s2.1.1) (0 : Int)) (0 : Int) ((((List.length c.2.1) : Nat) : Int) - (1 : Int)))) = Bool.false) → ((s1.1.1 < (((List.length c.2.1) : Nat) : Int)) ∧ ((0 : Int) ≤ s1.1.1))) ∧ ((((!(inR (List.getD (List.getD c.2.2.2.2 (Int.toNat s1.1.1) ([] : List Int)) (Int.toNat s2.1.1) (0 : Int)) (0 : Int) ((((List.length c.2.1) : Nat) : Int) - (1 : Int)))) = Bool.false) → ((s2.1.1 < (((List.length c.2.2.1) : Nat) : Int)) ∧ ((0 : Int) ≤ s2.1.1))) ∧ (cnd ((!(inR (List.getD (List.getD c.2.2.2.2 (Int.toNat s1.1.1) ([] : List Int)) (Int.toNat s2.1.1) (0 : Int)) (0 : Int) ((((List.length c.2.1) : Nat) : Int) - (1 : Int)))) || (!(((List.getD c.2.1 (Int.toNat (List.getD (List.getD c.2.2.2.2 (Int.toNat s1.1.1) ([] : List Int)) (Int.toNat s2.1.1) (0 : Int))) (0 : Int)) == (List.getD c.2.1 (Int.toNat s1.1.1) (0 : Int))) && ((List.getD c.2.2.1 (Int.toNat (List.getD (List.getD c.2.2.2.2 (Int.toNat s1.1.1) ([] : List Int)) (Int.toNat s2.1.1) (0 : Int))) (0 : Int)) == (List.getD c.2.2.1 (Int.toNat s2.1.1) (0 : Int)))))) (K (Bool.false, ())) (k ((), ())))))))))))))))) ((inK IntKind.i64 (s1.1.1 + (1 : Int))) ∧ (next1 (((s1.1.1 + (1 : Int)), ()), ()))))))) (((0 : Int), ()), ()))))) (K (Bool.true, ())))))) (((0 : Int), ()), ())))))) (((0 : Int), ()), ())))))))
theorem w_impl_Category_isShape (x : denL c_impl_Category_isShape.args) (K : Bool × Unit → Prop) : evF tab (lkp [(38, c_impl_Category_arrows), (87, c_impl_Category_ends), (54, c_impl_inRange), (63, c_impl_within)]) (cutL [(2, 43), (20, 15), (4, 28), (23, 26)]) Try.f61 (bodyOf Try.f61) (.s .n (.s .n (.s .n (.s .n (.s (.s .n (.l [(88, (.d (.int .i64)))] [] [0, 3, 86, 87] .n)) (.s (.s .n (.l [(106, (.d (.int .i64)))] [] [0, 3, 104, 105] (.s .n (.s .n (.s (.s .n (.s .n (.s .n (.l [(117, (.d (.int .i64)))] [] [0, 3, 6, 104, 105, 106, 115, 116] (.s .n (.s .n (.s (.j [] [] [0, 3, 6, 104, 105, 106, 115, 116, 117] .n) .n))))))) .n))))) .n)))))) c_impl_Category_isShape x K = W_impl_Category_isShape x.1 K := by kernel_rfl
theorem k_impl_Category_isShape : okC Try.f61.ntmps (cutL [(2, 43), (20, 15), (4, 28), (23, 26)]) (bodyOf Try.f61) = true := by kernel_rfl
theorem m_impl_Category_isShape (c : CategoryD) (hok : allP (okL c_impl_Category_isShape.args (c, ()))) (hpre : allP (c_impl_Category_isShape.pre (c, ()))) : W_impl_Category_isShape c (fun r => r = c_impl_Category_isShape.res (c, ())) := by
  simp only [c_impl_Category_isShape, okL, T.oks, T.ok, ap, allP, true_and, and_true, implies_true] at hok hpre
  try dsimp only [T.den] at hok
  try dsimp only [T.den] at hpre
  unfold W_impl_Category_isShape
  refine ⟨by grind [cnd, nb_eq, inK64, inR], by grind [cnd, nb_eq, inK64, inR], cnd_of (fun hc => ?_) (fun hc => ⟨by rw [inK64]; have := hok.2.1.1; grind [cnd, nb_eq, inK64], cnd_of (fun hd => ?_) (fun hd => ?_)⟩)⟩
  · simp only [c_impl_Category_isShape]; rw [shape_f]; intro h; have h1 := h.ob; have h2 := h.m; have h3 := h.lt; have h4 := h.fr; have h5 := h.to; simp only [inR] at hc; grind [cnd, nb_eq, inK64]
  · simp only [c_impl_Category_isShape]; rw [shape_f]; intro h; have h1 := h.li; have h2 := h.ids; have h3 := h.lc; grind [cnd, nb_eq, inK64]
  simp only [inR, Bool.or_eq_false_iff, Bool.not_eq_false', Bool.and_eq_true, decide_eq_true_eq, decide_eq_false_iff_not, bne_eq_false_iff_eq] at hc hd
  obtain ⟨⟨⟨⟨hob, hm⟩, hlt⟩, hfr⟩, hto⟩ := hc
  obtain ⟨⟨hli, hids⟩, hlc⟩ := hd
  have bad : ¬ ShapeP c → (false, ()) = c_impl_Category_isShape.res (c, ()) := fun h => by simp only [c_impl_Category_isShape]; rw [shape_f h]
  refine loop_ix (n := c.2.2.2.1.length) (fun x => ∀ y : Int, 0 ≤ y → y < x → c.2.1.getD (c.2.2.2.1.getD y.toNat 0).toNat 0 = y ∧ c.2.2.1.getD (c.2.2.2.1.getD y.toNat 0).toNat 0 = y) (by omega) (by intro y h0 h1; omega) ?_ ?_
  · intro x next h0 h1 hP hn hin
    have hb := within_iff.1 hids x h0 h1
    try dsimp only
    refine cnd_d (fun _ => ⟨h0, h1, hb.1, hb.2, by omega, cnd_of (fun hx => bad fun h => ?_) (fun hx => ?_)⟩) (fun h => absurd h1 h)
    · have := h.idt x h0 (by omega)
      rw [this.1, this.2] at hx
      simp at hx
    · simp only [Bool.not_eq_false', Bool.and_eq_true, beq_iff_eq] at hx
      refine ⟨by rw [inK64]; (try dsimp only); omega, hn fun y y0 y1 => ?_⟩
      by_cases e : y = x
      · rw [e]; exact hx
      · exact hP y y0 (by omega)
  intro next hidt hin
  refine cnd_d (fun h => absurd h (by dsimp only; omega)) (fun _ => ?_)
  refine loop_ix (n := c.2.2.2.2.length) (fun f => ∀ f' : Int, 0 ≤ f' → f' < f → (c.2.2.2.2.getD f'.toNat []).length = c.2.1.length ∧ ∀ g : Int, 0 ≤ g → g < c.2.1.length → cellR c f' g = true) (by omega) (by intro y h0 h1; omega) ?_ ?_
  · intro f next h0 h1 hP hn hin
    try dsimp only
    refine cnd_d (fun _ => ⟨h0, h1, cnd_of (fun hx => bad fun h => ?_) (fun hx => ?_)⟩) (fun h => absurd h1 h)
    · have := h.row f h0 (by omega)
      rw [this] at hx
      simp at hx
    simp only [bne_eq_false_iff_eq] at hx
    refine loop_ix (n := (c.2.2.2.2.getD f.toNat []).length) (fun g => ∀ g' : Int, 0 ≤ g' → g' < g → cellR c f g' = true) (by omega) (by intro y h0 h1; omega) ?_ ?_
    · intro g next3 g0 g1 hP3 hn3 hin3
      try dsimp only
      refine cnd_d (fun _ => ?_) (fun h => absurd g1 h)
      refine join_of (fun _ => cellR c f g = true) (fun _ hcell => ⟨by rw [inK64]; (try dsimp only); omega, hn3 fun g' y0 y1 => ?_⟩) (fun k hk => ?_)
      · by_cases e : g' = g
        · rw [e]; exact hcell
        · exact hP3 g' y0 (by omega)
      have hcell : ∀ b, cellR c f g = b → b = false → ¬ ShapeP c := fun b h1 h2 h => by
        have := h.cell f g h0 (by omega) g0 (by omega)
        rw [h1, h2] at this; cases this
      have hk' := hk ((), ())
      obtain ⟨v, hv⟩ : ∃ v, (c.2.2.2.2.getD f.toNat []).getD g.toNat 0 = v := ⟨_, rfl⟩
      have hR : cellR c f g = cellQ c f g v := by unfold cellR compR; rw [hv]
      rw [hR] at hk'
      rw [hR] at hcell
      rw [hv]
      clear hP3 hn3 hP hn hk hR hv hidt hok
      refine ⟨g0, g1, h0, by omega, g0, by omega, cnd_of (fun ha => cnd_of (fun hb => bad ?_) (fun hb => hk' ?_)) (fun ha => ⟨by rw [inK64]; (try dsimp only); omega, fun hv => ?_, fun _ => ⟨by omega, h0⟩, fun _ => ⟨by omega, g0⟩, cnd_of (fun hb => bad ?_) (fun hb => hk' ?_)⟩)⟩
      · exact hcell _ rfl (by grind [cnd, nb_eq, inK64, cellQ])
      · grind [cnd, nb_eq, inK64, cellQ]
      · simp only [inR, Bool.not_eq_false', Bool.and_eq_true, decide_eq_true_eq] at hv; omega
      · exact hcell _ rfl (by simp only [inR] at hb; grind [cnd, nb_eq, inK64, cellQ])
      · simp only [inR] at hb; grind [cnd, nb_eq, inK64, cellQ]
    · intro next3 hP3 hin3
      refine cnd_d (fun h => absurd h (by dsimp only; omega)) (fun _ => ⟨by rw [inK64]; (try dsimp only); omega, hn fun f' y0 y1 => ?_⟩)
      by_cases e : f' = f
      · rw [e]; exact ⟨by omega, fun g g0 g1 => hP3 g g0 (by omega)⟩
      · exact hP f' y0 (by omega)
  · intro next2 hP2 hin2
    refine cnd_d (fun h => absurd h (by dsimp only; omega)) (fun _ => ?_)
    simp only [c_impl_Category_isShape]
    rw [shape_t ⟨hob, by omega, by omega, hfr, hto, by omega, hids, by omega, fun x a b => hidt x a (by omega), fun f a b => (hP2 f a (by omega)).1, fun f g a b d e => (hP2 f a (by omega)).2 g d e⟩]
theorem ct_impl_Category_isShape : CtOk Try.prog 61 c_impl_Category_isShape :=
  ct_by (Φ := lkp [(38, c_impl_Category_arrows), (87, c_impl_Category_ends), (54, c_impl_inRange), (63, c_impl_within)]) (good_cons ct_impl_Category_arrows (good_cons ct_impl_Category_ends (good_cons ct_impl_inRange (good_cons ct_impl_within good_nil)))) tab_ok (by kernel_rfl) (fn := Try.f61) (c := bodyOf Try.f61) (by kernel_rfl) (by kernel_rfl) (by kernel_rfl) c_impl_Category_isShape rfl (.s .n (.s .n (.s .n (.s .n (.s (.s .n (.l [(88, (.d (.int .i64)))] [] [0, 3, 86, 87] .n)) (.s (.s .n (.l [(106, (.d (.int .i64)))] [] [0, 3, 104, 105] (.s .n (.s .n (.s (.s .n (.s .n (.s .n (.l [(117, (.d (.int .i64)))] [] [0, 3, 6, 104, 105, 106, 115, 116] (.s .n (.s .n (.s (.j [] [] [0, 3, 6, 104, 105, 106, 115, 116, 117] .n) .n))))))) .n))))) .n)))))) (cutL [(2, 43), (20, 15), (4, 28), (23, 26)]) (by kernel_rfl) (by kernel_rfl) k_impl_Category_isShape (by decide) (fun x K => W_impl_Category_isShape x.1 K) w_impl_Category_isShape (fun x h1 h2 => m_impl_Category_isShape x.1 h1 h2)
theorem ShapeP.frm {c : CategoryD} (h : ShapeP c) {f : Int} (h0 : 0 ≤ f) (h1 : f < c.2.1.length) : 0 ≤ c.2.1.getD f.toNat 0 ∧ c.2.1.getD f.toNat 0 < c.1 ∧ 0 ≤ c.2.2.1.getD f.toNat 0 ∧ c.2.2.1.getD f.toNat 0 < c.1 := by
  have a := within_iff.1 h.fr f h0 h1
  have b := within_iff.1 h.to f h0 (by have := h.lt; omega)
  exact ⟨a.1, a.2, b.1, b.2⟩
theorem ShapeP.idn {c : CategoryD} (h : ShapeP c) {x : Int} (h0 : 0 ≤ x) (h1 : x < c.1) : 0 ≤ c.2.2.2.1.getD x.toNat 0 ∧ c.2.2.2.1.getD x.toNat 0 < c.2.1.length ∧ c.2.1.getD (c.2.2.2.1.getD x.toNat 0).toNat 0 = x ∧ c.2.2.1.getD (c.2.2.2.1.getD x.toNat 0).toNat 0 = x := by
  have a := within_iff.1 h.ids x h0 (by have := h.li; omega)
  have b := h.idt x h0 h1
  exact ⟨a.1, a.2, b.1, b.2⟩
theorem ShapeP.yes {c : CategoryD} (h : ShapeP c) {f g : Int} (h0 : 0 ≤ f) (h1 : f < c.2.1.length) (g0 : 0 ≤ g) (g1 : g < c.2.1.length) (e : c.2.2.1.getD f.toNat 0 = c.2.1.getD g.toNat 0) :
    0 ≤ compR c f g ∧ compR c f g < c.2.1.length ∧ c.2.1.getD (compR c f g).toNat 0 = c.2.1.getD f.toNat 0 ∧ c.2.2.1.getD (compR c f g).toNat 0 = c.2.2.1.getD g.toNat 0 := by
  have := h.cell f g h0 h1 g0 g1
  unfold cellR cellQ at this
  rw [if_pos e] at this
  simpa using this
theorem ShapeP.no {c : CategoryD} (h : ShapeP c) {f g : Int} (h0 : 0 ≤ f) (h1 : f < c.2.1.length) (g0 : 0 ≤ g) (g1 : g < c.2.1.length) (e : c.2.2.1.getD f.toNat 0 ≠ c.2.1.getD g.toNat 0) : compR c f g = -1 := by
  have := h.cell f g h0 h1 g0 g1
  unfold cellR cellQ at this
  rw [if_neg e] at this
  simpa using this
theorem ShapeP.comp {c : CategoryD} (h : ShapeP c) {f g : Int} (h0 : 0 ≤ f) (h1 : f < c.2.1.length) (g0 : 0 ≤ g) (g1 : g < c.2.1.length) : 0 ≤ compR c f g ↔ c.2.2.1.getD f.toNat 0 = c.2.1.getD g.toNat 0 := by
  constructor
  · intro h2
    by_cases e : c.2.2.1.getD f.toNat 0 = c.2.1.getD g.toNat 0
    · exact e
    · have := h.no h0 h1 g0 g1 e; omega
  · intro e; exact (h.yes h0 h1 g0 g1 e).1
def faultI (c : CategoryD) (f : Int) : Option (Int × Int × Int × Int) :=
  if compR c (c.2.2.2.1.getD (c.2.1.getD f.toNat 0).toNat 0) f ≠ f ∨ compR c f (c.2.2.2.1.getD (c.2.2.1.getD f.toNat 0).toNat 0) ≠ f then some (1, f, 0, 0) else none
def faultH (c : CategoryD) (f g h : Int) : Option (Int × Int × Int × Int) :=
  if c.2.2.1.getD g.toNat 0 = c.2.1.getD h.toNat 0 ∧ compR c (compR c f g) h ≠ compR c f (compR c g h) then some (2, f, g, h) else none
def faultG (c : CategoryD) (f g : Int) : Option (Int × Int × Int × Int) :=
  if c.2.2.1.getD f.toNat 0 = c.2.1.getD g.toNat 0 then scanR (faultH c f g) c.2.1.length 0 else none
def faultF (c : CategoryD) (f : Int) : Option (Int × Int × Int × Int) := scanR (faultG c f) c.2.1.length 0
def faultR (c : CategoryD) : Int × Int × Int × Int :=
  orR (scanR (faultI c) c.2.1.length 0) (orR (scanR (faultF c) c.2.1.length 0) (0, 0, 0, 0))

def c_impl_Category_fault : Ct := ⟨[(.pt CategoryT)], [false], fun x => [ShapeP x.1], [(false, (.fz (.int .i64))), (false, (.fz (.int .i64))), (false, (.fz (.int .i64))), (false, (.fz (.int .i64)))], fun x => ((faultR x.1).1, (faultR x.1).2.1, (faultR x.1).2.2.1, (faultR x.1).2.2.2, ()), false, none⟩
def W_impl_Category_fault (c : CategoryD) (K : Int × Int × Int × Int × Unit → Prop) : Prop := (loopW (S := ((Int × Unit) × Unit)) (fun s => (fun next => ((inK IntKind.i64 s.1.1) → (cnd (decide (s.1.1 < (((List.length c.2.1) : Nat) : Int))) (((0 : Int) ≤ s.1.1) ∧ ((s.1.1 < (((List.length c.2.1) : Nat) : Int)) ∧ (((0 : Int) ≤ (List.getD c.2.1 (Int.toNat s.1.1) (0 : Int))) ∧ (((List.getD c.2.1 (Int.toNat s.1.1) (0 : Int)) < (((List.length c.2.2.2.1) : Nat) : Int)) ∧ (((0 : Int) ≤ (List.getD c.2.2.2.1 (Int.toNat (List.getD c.2.1 (Int.toNat s.1.1) (0 : Int))) (0 : Int))) ∧ (((List.getD c.2.2.2.1 (Int.toNat (List.getD c.2.1 (Int.toNat s.1.1) (0 : Int))) (0 : Int)) < (((List.length c.2.2.2.2) : Nat) : Int)) ∧ (((0 : Int) ≤ s.1.1) ∧ ((s.1.1 < (((List.length (List.getD c.2.2.2.2 (Int.toNat (List.getD c.2.2.2.1 (Int.toNat (List.getD c.2.1 (Int.toNat s.1.1) (0 : Int))) (0 : Int))) ([] : List Int))) : Nat) : Int)) ∧ (((((compR c (List.getD c.2.2.2.1 (Int.toNat (List.getD c.2.1 (Int.toNat s.1.1) (0 : Int))) (0 : Int)) s.1.1) != s.1.1) = Bool.false) → ((s.1.1 < (((List.length c.2.2.1) : Nat) : Int)) ∧ ((0 : Int) ≤ s.1.1))) ∧ (((((compR c (List.getD c.2.2.2.1 (Int.toNat (List.getD c.2.1 (Int.toNat s.1.1) (0 : Int))) (0 : Int)) s.1.1) != s.1.1) = Bool.false) → (((List.getD c.2.2.1 (Int.toNat s.1.1) (0 : Int)) < (((List.length c.2.2.2.1) : Nat) : Int)) ∧ ((0 : Int) ≤ (List.getD c.2.2.1 (Int.toNat s.1.1) (0 : Int))))) ∧ (((((compR c (List.getD c.2.2.2.1 (Int.toNat (List.getD c.2.1 (Int.toNat s.1.1) (0 : Int))) (0 : Int)) s.1.1) != s.1.1) = Bool.false) → ((s.1.1 < (((List.length c.2.2.2.2) : Nat) : Int)) ∧ (((0 : Int) ≤ (List.getD c.2.2.2.1 (Int.toNat (List.getD c.2.2.1 (Int.toNat s.1.1) (0 : Int))) (0 : Int))) ∧ (((List.getD c.2.2.2.1 (Int.toNat (List.getD c.2.2.1 (Int.toNat s.1.1) (0 : Int))) (0 : Int)) < (((List.length (List.getD c.2.2.2.2 (Int.toNat s.1.1) ([] : List Int))) : Nat) : Int)) ∧ ((0 : Int) ≤ s.1.1))))) ∧ (cnd (((compR c (List.getD c.2.2.2.1 (Int.toNat (List.getD c.2.1 (Int.toNat s.1.1) (0 : Int))) (0 : Int)) s.1.1) != s.1.1) || ((compR c s.1.1 (List.getD c.2.2.2.1 (Int.toNat (List.getD c.2.2.1 (Int.toNat s.1.1) (0 : Int))) (0 : Int))) != s.1.1)) (K ((1 : Int), (s.1.1, ((0 : Int), ((0 : Int), ()))))) ((inK IntKind.i64 (s.1.1 + (1 : Int))) ∧ (next (((s.1.1 + (1 : Int)), ()), ()))))))))))))))) (loopW (S := ((Int × Unit) × Unit)) (fun s1 => (fun next1 => ((inK IntKind.i64 s1.1.1) → (cnd (decide (s1.1.1 < (((List.length c.2.1) : Nat) : Int))) (loopW (S := ((Int × Unit) × Unit)) (fun s2 => (fun next2 => ((inK IntKind.i64 s2.1.1) → (cnd (decide (s2.1.1 < (((List.length c.2.1) : Nat) : Int))) (joinW (S := (Unit × Unit)) (fun s3 => ((inK IntKind.i64 (s2.1.1 + (1 : Int))) ∧ (next2 (((s2.1.1 + (1 : Int)), ()), ())))) (fun k => (((0 : Int) ≤ s1.1.1) ∧ ((s1.1.1 < (((List.length c.2.2.2.2) : Nat) : Int)) ∧ (((0 : Int) ≤ s2.1.1) ∧ ((s2.1.1 < (((List.length (List.getD c.2.2.2.2 (Int.toNat s1.1.1) ([] : List Int))) : Nat) : Int)) ∧ (cnd (decide ((compR c s1.1.1 s2.1.1) < (0 : Int))) (k ((), ())) (loopW (S := ((Int × Unit) × Unit)) (fun s3 => (fun next3 => ((inK IntKind.i64 s3.1.1) → (cnd (decide (s3.1.1 < (((List.length c.2.1) : Nat) : Int))) (((0 : Int) ≤ s2.1.1) ∧ ((s2.1.1 < (((List.length c.2.2.2.2) : Nat) : Int)) ∧ (((0 : Int) ≤ s3.1.1) ∧ ((s3.1.1 < (((List.length (List.getD c.2.2.2.2 (Int.toNat s2.1.1) ([] : List Int))) : Nat) : Int)) ∧ ((((decide ((0 : Int) ≤ (compR c s2.1.1 s3.1.1))) = Bool.true) → ((s1.1.1 < (((List.length c.2.2.2.2) : Nat) : Int)) ∧ (((0 : Int) ≤ s2.1.1) ∧ ((s2.1.1 < (((List.length (List.getD c.2.2.2.2 (Int.toNat s1.1.1) ([] : List Int))) : Nat) : Int)) ∧ ((0 : Int) ≤ s1.1.1))))) ∧ ((((decide ((0 : Int) ≤ (compR c s2.1.1 s3.1.1))) = Bool.true) → (((compR c s1.1.1 s2.1.1) < (((List.length c.2.2.2.2) : Nat) : Int)) ∧ (((0 : Int) ≤ s3.1.1) ∧ ((s3.1.1 < (((List.length (List.getD c.2.2.2.2 (Int.toNat (compR c s1.1.1 s2.1.1)) ([] : List Int))) : Nat) : Int)) ∧ ((0 : Int) ≤ (compR c s1.1.1 s2.1.1)))))) ∧ ((((decide ((0 : Int) ≤ (compR c s2.1.1 s3.1.1))) = Bool.true) → ((s2.1.1 < (((List.length c.2.2.2.2) : Nat) : Int)) ∧ (((0 : Int) ≤ s3.1.1) ∧ ((s3.1.1 < (((List.length (List.getD c.2.2.2.2 (Int.toNat s2.1.1) ([] : List Int))) : Nat) : Int)) ∧ ((0 : Int) ≤ s2.1.1))))) ∧ ((((decide ((0 : Int) ≤ (compR c s2.1.1 s3.1.1))) = Bool.true) → ((s1.1.1 < (((List.length c.2.2.2.2) : Nat) : Int)) ∧ (((0 : Int) ≤ (compR c s2.1.1 s3.1.1)) ∧ (((compR c s2.1.1 s3.1.1) < (((List.length (List.getD c.2.2.2.2 (Int.toNat s1.1.1) ([] : List Int))) : Nat) : Int)) ∧ ((0 : Int) ≤ s1.1.1))))) ∧ (cnd ((decide ((0 : Int) ≤ (compR c s2.1.1 s3.1.1))) && ((compR c (compR c s1.1.1 s2.1.1) s3.1.1) != (compR c s1.1.1 (compR c s2.1.1 s3.1.1)))) (K ((2 : Int), (s1.1.1, (s2.1.1, (s3.1.1, ()))))) ((inK IntKind.i64 (s3.1.1 + (1 : Int))) ∧ (next3 (((s3.1.1 + (1 : Int)), ()), ())))))))))))) (k ((), ())))))) (((0 : Int), ()), ()))))))))) ((inK IntKind.i64 (s1.1.1 + (1 : Int))) ∧ (next1 (((s1.1.1 + (1 : Int)), ()), ()))))))) (((0 : Int), ()), ())) (K ((0 : Int), ((0 : Int), ((0 : Int), ((0 : Int), ()))))))))) (((0 : Int), ()), ())))))) (((0 : Int), ()), ()))
theorem w_impl_Category_fault (x : denL c_impl_Category_fault.args) (K : Int × Int × Int × Int × Unit → Prop) : evF tab (lkp [(38, c_impl_Category_arrows), (68, c_impl_Category_then)]) (cutL [(5, 38)]) Try.f62 (bodyOf Try.f62) (.s .n (.s .n (.s (.s .n (.l [(7, (.d (.int .i64)))] [] [0, 6] .n)) (.s (.s .n (.l [(8, (.d (.int .i64)))] [] [0, 6] (.s .n (.s (.s .n (.l [(9, (.d (.int .i64)))] [] [0, 6, 8] (.s .n (.s (.j [] [] [0, 6, 8, 9] (.s .n (.s .n (.l [(10, (.d (.int .i64)))] [] [0, 6, 8, 9] .n)))) .n)))) .n)))) .n)))) c_impl_Category_fault x K = W_impl_Category_fault x.1 K := by kernel_rfl
theorem k_impl_Category_fault : okC Try.f62.ntmps (cutL [(5, 38)]) (bodyOf Try.f62) = true := by kernel_rfl
theorem m_impl_Category_fault (c : CategoryD) (hok : allP (okL c_impl_Category_fault.args (c, ()))) (hpre : allP (c_impl_Category_fault.pre (c, ()))) : W_impl_Category_fault c (fun r => r = c_impl_Category_fault.res (c, ())) := by
  simp only [c_impl_Category_fault, okL, T.oks, T.ok, ap, allP, true_and, and_true, implies_true] at hok hpre
  try dsimp only [T.den] at hok
  try dsimp only [T.den] at hpre
  unfold W_impl_Category_fault
  have S : ShapeP c := hpre
  have hlt := S.lt
  have hli := S.li
  have hlc := S.lc
  have hmm := S.m
  have resq : ∀ a b d e, faultR c = (a, b, d, e) → (a, b, d, e, ()) = c_impl_Category_fault.res (c, ()) := fun a b d e h => by simp only [c_impl_Category_fault, h]
  refine loop_ix (n := c.2.1.length) (fun f => scanR (faultI c) c.2.1.length 0 = scanR (faultI c) ((c.2.1.length : Int) - f).toNat f) (by omega) scan_0 ?_ ?_
  · intro f next h0 h1 hP hn hin
    try dsimp only
    obtain ⟨a1, a2, a3, a4⟩ := S.frm h0 h1
    obtain ⟨b1, b2, _, _⟩ := S.idn a1 a2
    obtain ⟨d1, d2, _, _⟩ := S.idn a3 a4
    have r1 := S.row _ b1 b2
    have r2 := S.row f h0 h1
    refine cnd_d (fun _ => ⟨h0, h1, by omega, by omega, by omega, by omega, h0, by omega, fun _ => by omega, fun _ => by omega, fun _ => by omega, cnd_of (fun hx => resq _ _ _ _ ?_) (fun hx => ⟨by rw [inK64]; (try dsimp only); omega, hn ?_⟩)⟩) (fun h => absurd h1 h)
    · have : faultI c f = some (1, f, 0, 0) := by unfold faultI; rw [if_pos]; simpa using hx
      unfold faultR; rw [hP, scan_s h1 this]; rfl
    · have : faultI c f = none := by unfold faultI; rw [if_neg]; simpa using hx
      rw [hP, scan_c h1 this]
  intro next hI hin
  rw [scan_n] at hI
  refine cnd_d (fun h => absurd h (by dsimp only; omega)) (fun _ => ?_)
  have hF : faultR c = orR (scanR (faultF c) c.2.1.length 0) (0, 0, 0, 0) := by unfold faultR; rw [hI]; rfl
  refine loop_ix (n := c.2.1.length) (fun f => scanR (faultF c) c.2.1.length 0 = scanR (faultF c) ((c.2.1.length : Int) - f).toNat f) (by omega) scan_0 ?_ ?_
  · intro f next h0 h1 hP hn hin
    try dsimp only
    refine cnd_d (fun _ => ?_) (fun h => absurd h1 h)
    have r1 := S.row f h0 h1
    refine loop_ix (n := c.2.1.length) (fun g => faultF c f = scanR (faultG c f) ((c.2.1.length : Int) - g).toNat g) (by omega) scan_0 ?_ ?_
    · intro g next3 g0 g1 hP3 hn3 hin3
      try dsimp only
      refine cnd_d (fun _ => ?_) (fun h => absurd g1 h)
      have r2 := S.row g g0 g1
      refine join_of (fun _ => faultG c f g = none) (fun _ hG => ⟨by rw [inK64]; (try dsimp only); omega, hn3 (by rw [hP3, scan_c g1 hG])⟩) (fun k hk => ?_)
      have hk' := hk ((), ())
      refine ⟨by omega, by omega, by omega, by omega, cnd_d (fun hx => hk' ?_) (fun hx => ?_)⟩
      · unfold faultG; rw [if_neg]; intro e; have := (S.comp h0 h1 g0 g1).2 e; omega
      have hfg := (S.comp h0 h1 g0 g1).1 (by omega)
      obtain ⟨y1, y2, _, _⟩ := S.yes h0 h1 g0 g1 hfg
      refine loop_ix (n := c.2.1.length) (fun h => faultG c f g = scanR (faultH c f g) ((c.2.1.length : Int) - h).toNat h) (by omega) (by unfold faultG; rw [if_pos hfg]; exact scan_0) ?_ ?_
      · intro h next4 i0 i1 hP4 hn4 hin4
        try dsimp only
        refine cnd_d (fun _ => ?_) (fun h => absurd i1 h)
        have r3 := S.row _ y1 y2
        have cgh := S.comp g0 g1 i0 i1
        have ygh := @ShapeP.yes c S g h g0 g1 i0 i1
        refine ⟨by omega, by omega, by omega, by omega, fun _ => by omega, fun _ => by omega, fun _ => by omega, fun he => ?_, cnd_of (fun hx => resq _ _ _ _ ?_) (fun hx => ⟨by rw [inK64]; (try dsimp only); omega, hn4 ?_⟩)⟩
        · have := ygh (cgh.1 (by simpa using he)); omega
        · have : faultH c f g h = some (2, f, g, h) := by unfold faultH; rw [if_pos]; rw [← cgh]; simpa using hx
          have e1 : faultG c f g = some (2, f, g, h) := by rw [hP4, scan_s i1 this]
          have e2 : faultF c f = some (2, f, g, h) := by rw [hP3, scan_s g1 e1]
          rw [hF, hP, scan_s h1 e2]; rfl
        · have : faultH c f g h = none := by unfold faultH; rw [if_neg]; rw [← cgh]; simpa using hx
          rw [hP4, scan_c i1 this]
      · intro next4 hP4 hin4
        rw [scan_n] at hP4
        exact cnd_d (fun h => absurd h (by dsimp only; omega)) (fun _ => hk' hP4)
    · intro next3 hP3 hin3
      rw [scan_n] at hP3
      exact cnd_d (fun h => absurd h (by dsimp only; omega)) (fun _ => ⟨by rw [inK64]; (try dsimp only); omega, hn (by rw [hP, scan_c h1 hP3])⟩)
  · intro next2 hP2 hin2
    rw [scan_n] at hP2
    refine cnd_d (fun h => absurd h (by dsimp only; omega)) (fun _ => resq _ _ _ _ ?_)
    rw [hF, hP2]; rfl
theorem ct_impl_Category_fault : CtOk Try.prog 62 c_impl_Category_fault :=
  ct_by (Φ := lkp [(38, c_impl_Category_arrows), (68, c_impl_Category_then)]) (good_cons ct_impl_Category_arrows (good_cons ct_impl_Category_then good_nil)) tab_ok (by kernel_rfl) (fn := Try.f62) (c := bodyOf Try.f62) (by kernel_rfl) (by kernel_rfl) (by kernel_rfl) c_impl_Category_fault rfl (.s .n (.s .n (.s (.s .n (.l [(7, (.d (.int .i64)))] [] [0, 6] .n)) (.s (.s .n (.l [(8, (.d (.int .i64)))] [] [0, 6] (.s .n (.s (.s .n (.l [(9, (.d (.int .i64)))] [] [0, 6, 8] (.s .n (.s (.j [] [] [0, 6, 8, 9] (.s .n (.s .n (.l [(10, (.d (.int .i64)))] [] [0, 6, 8, 9] .n)))) .n)))) .n)))) .n)))) (cutL [(5, 38)]) (by kernel_rfl) (by kernel_rfl) k_impl_Category_fault (by decide) (fun x K => W_impl_Category_fault x.1 K) w_impl_Category_fault (fun x h1 h2 => m_impl_Category_fault x.1 h1 h2)
def catR (c : CategoryD) : Bool := shapeR c && (faultR c).1 == 0

def c_impl_Category_isCategory : Ct := ⟨[(.pt CategoryT)], [false], fun x => [], [(false, (.fz .bool))], fun x => (catR x.1, ()), false, none⟩
def W_impl_Category_isCategory (c : CategoryD) (K : Bool × Unit → Prop) : Prop := (cnd (!(shapeR c)) (K (Bool.false, ())) ((ShapeP c) ∧ (K (((faultR c).1 == (0 : Int)), ()))))
theorem w_impl_Category_isCategory (x : denL c_impl_Category_isCategory.args) (K : Bool × Unit → Prop) : evF tab (lkp [(62, c_impl_Category_fault), (61, c_impl_Category_isShape)]) (cutL []) Try.f36 (bodyOf Try.f36) .n c_impl_Category_isCategory x K = W_impl_Category_isCategory x.1 K := by kernel_rfl
theorem k_impl_Category_isCategory : okC Try.f36.ntmps (cutL []) (bodyOf Try.f36) = true := by kernel_rfl
theorem m_impl_Category_isCategory (c : CategoryD) (hok : allP (okL c_impl_Category_isCategory.args (c, ()))) (hpre : allP (c_impl_Category_isCategory.pre (c, ()))) : W_impl_Category_isCategory c (fun r => r = c_impl_Category_isCategory.res (c, ())) := by
  simp only [c_impl_Category_isCategory, okL, T.oks, T.ok, ap, allP, true_and, and_true, implies_true] at hok hpre
  try dsimp only [T.den] at hok
  try dsimp only [T.den] at hpre
  unfold W_impl_Category_isCategory
  simp only [c_impl_Category_isCategory, catR]
  have := @shape_iff c
  grind [cnd, nb_eq, inK64]
theorem ct_impl_Category_isCategory : CtOk Try.prog 36 c_impl_Category_isCategory :=
  ct_by (Φ := lkp [(62, c_impl_Category_fault), (61, c_impl_Category_isShape)]) (good_cons ct_impl_Category_fault (good_cons ct_impl_Category_isShape good_nil)) tab_ok (by kernel_rfl) (fn := Try.f36) (c := bodyOf Try.f36) (by kernel_rfl) (by kernel_rfl) (by kernel_rfl) c_impl_Category_isCategory rfl .n (cutL []) (by kernel_rfl) (by kernel_rfl) k_impl_Category_isCategory (by decide) (fun x K => W_impl_Category_isCategory x.1 K) w_impl_Category_isCategory (fun x h1 h2 => m_impl_Category_isCategory x.1 h1 h2)
def objCodeR (c : CategoryD) (l : List Int) : Int := if catR c = true then (if withinR l c.1 = true then 0 else 2) else 1
theorem cat_shape {c : CategoryD} (h : catR c = true) : ShapeP c := by
  simp only [catR, Bool.and_eq_true] at h; exact shape_iff.1 h.1

def c_impl_objectCode : Ct := ⟨[(.pt CategoryT), (.sl (.int .i64))], [false, false], fun x => [], [(false, (.fz (.int .i64)))], fun x => (objCodeR x.1 x.2.1, ()), false, none⟩
def W_impl_objectCode (c : CategoryD) (list : List Int) (K : Int × Unit → Prop) : Prop := (cnd (!(catR c)) (K ((1 : Int), ())) ((inK IntKind.i64 (c.1 - (1 : Int))) ∧ (cnd (!(withinR list c.1)) (K ((2 : Int), ())) (K ((0 : Int), ())))))
theorem w_impl_objectCode (x : denL c_impl_objectCode.args) (K : Int × Unit → Prop) : evF tab (lkp [(36, c_impl_Category_isCategory), (63, c_impl_within)]) (cutL []) Try.f44 (bodyOf Try.f44) .n c_impl_objectCode x K = W_impl_objectCode x.1 x.2.1 K := by kernel_rfl
theorem k_impl_objectCode : okC Try.f44.ntmps (cutL []) (bodyOf Try.f44) = true := by kernel_rfl
theorem m_impl_objectCode (c : CategoryD) (list : List Int) (hok : allP (okL c_impl_objectCode.args (c, list, ()))) (hpre : allP (c_impl_objectCode.pre (c, list, ()))) : W_impl_objectCode c list (fun r => r = c_impl_objectCode.res (c, list, ())) := by
  simp only [c_impl_objectCode, okL, T.oks, T.ok, ap, allP, true_and, and_true, implies_true] at hok hpre
  try dsimp only [T.den] at hok
  try dsimp only [T.den] at hpre
  unfold W_impl_objectCode
  simp only [c_impl_objectCode, objCodeR]
  have h1 := fun h => (cat_shape (c := c) h).ob
  grind [cnd, nb_eq, inK64]
theorem ct_impl_objectCode : CtOk Try.prog 44 c_impl_objectCode :=
  ct_by (Φ := lkp [(36, c_impl_Category_isCategory), (63, c_impl_within)]) (good_cons ct_impl_Category_isCategory (good_cons ct_impl_within good_nil)) tab_ok (by kernel_rfl) (fn := Try.f44) (c := bodyOf Try.f44) (by kernel_rfl) (by kernel_rfl) (by kernel_rfl) c_impl_objectCode rfl .n (cutL []) (by kernel_rfl) (by kernel_rfl) k_impl_objectCode (by decide) (fun x K => W_impl_objectCode x.1 x.2.1 K) w_impl_objectCode (fun x h1 h2 => m_impl_objectCode x.1 x.2.1 h1 h2)
/-- the arrows out of x -/
def outR (c : CategoryD) (x : Int) : List Int := selR c.2.1.length fun f => c.2.1.getD f.toNat 0 == x

def c_impl_Category_outOf : Ct := ⟨[(.pt CategoryT), (.int .i64)], [false, false], fun x => [x.1.2.1.length ≤ 40], [(false, (.sl (.fz (.int .i64))))], fun x => (outR x.1 x.2.1, ()), false, none⟩
def W_impl_Category_outOf (c : CategoryD) (x : Int) (K : (List Int) × Unit → Prop) : Prop := (loopW (S := ((Unit × (Int × Unit)) × ((List Int) × Unit))) (fun s => (fun next => ((inK IntKind.i64 s.1.2.1) → ((T.ok (T.sl (T.int IntKind.i64)) s.2.1) → (cnd (decide (s.1.2.1 < (((List.length c.2.1) : Nat) : Int))) (((0 : Int) ≤ s.1.2.1) ∧ ((s.1.2.1 < (((List.length c.2.1) : Nat) : Int)) ∧ (joinW (S := ((Unit × Unit) × ((List Int) × Unit))) (fun s1 => ((T.ok (T.sl (T.int IntKind.i64)) s1.2.1) → ((inK IntKind.i64 (s.1.2.1 + (1 : Int))) ∧ (next (((), ((s.1.2.1 + (1 : Int)), ())), (s1.2.1, ())))))) (fun k => (cnd ((List.getD c.2.1 (Int.toNat s.1.2.1) (0 : Int)) == x) ((room (List.length s.2.1) (List.length (s.1.2.1 :: ([] : List Int))) 8) ∧ (k (((), ()), ((s.2.1 ++ (s.1.2.1 :: ([] : List Int))), ())))) (k (((), ()), (s.2.1, ())))))))) (K (s.2.1, ()))))))) (((), ((0 : Int), ())), (([] : List Int), ())))
theorem w_impl_Category_outOf (x : denL c_impl_Category_outOf.args) (K : (List Int) × Unit → Prop) : evF tab (lkp []) (cutL []) Try.f45 (bodyOf Try.f45) (.s .n (.s .n (.s (.s .n (.l [(5, (.ref 800005 [])), (14, (.d (.int .i64)))] [(800005, (.sl (.fz (.int .i64))))] [1, 12, 13] (.s .n (.s .n (.s (.s .n (.s .n (.j [(5, (.ref 800005 []))] [(800005, (.sl (.fz (.int .i64))))] [1, 12, 13, 14] .n))) .n))))) .n))) c_impl_Category_outOf x K = W_impl_Category_outOf x.1 x.2.1 K := by kernel_rfl
theorem k_impl_Category_outOf : okC Try.f45.ntmps (cutL []) (bodyOf Try.f45) = true := by kernel_rfl
theorem m_impl_Category_outOf (c : CategoryD) (x : Int) (hok : allP (okL c_impl_Category_outOf.args (c, x, ()))) (hpre : allP (c_impl_Category_outOf.pre (c, x, ()))) : W_impl_Category_outOf c x (fun r => r = c_impl_Category_outOf.res (c, x, ())) := by
  simp only [c_impl_Category_outOf, okL, T.oks, T.ok, ap, allP, true_and, and_true, implies_true] at hok hpre
  try dsimp only [T.den] at hok
  try dsimp only [T.den] at hpre
  unfold W_impl_Category_outOf
  have hm : c.2.1.length ≤ 40 := hpre
  refine loop_of (fun (s : ((Unit × (Int × Unit)) × ((List Int) × Unit))) => 0 ≤ s.1.2.1 ∧ s.1.2.1 ≤ c.2.1.length ∧ s.2.1 = selR s.1.2.1.toNat fun f => c.2.1.getD f.toNat 0 == x) (fun (s : ((Unit × (Int × Unit)) × ((List Int) × Unit))) => (c.2.1.length - s.1.2.1).toNat) ?_ ⟨by simp, by simp, rfl⟩
  rintro ⟨⟨_, i, _⟩, l, _⟩ next ⟨h0, h1, h2⟩ hn hin hl
  try dsimp only at h0 h1 h2 hn ⊢
  subst h2
  refine cnd_d (fun hc => ⟨h0, hc, join_of (fun s1 => s1.2.1 = selR (i + 1).toNat fun f => c.2.1.getD f.toNat 0 == x) (fun s1 hs _ => ⟨by rw [inK64]; (try dsimp only); omega, hn _ ⟨(by first | omega | (dsimp only; omega)), (by first | omega | (dsimp only; omega)), hs⟩ (by first | omega | (dsimp only; omega))⟩) (fun k hk => cnd_of (fun hx => ⟨?_, hk _ ?_⟩) (fun hx => hk _ ?_))⟩) (fun hc => ?_)
  · have := sel_len (p := fun f => c.2.1.getD f.toNat 0 == x) i.toNat
    unfold room
    rw [nb_eq]
    have h3 : (i :: ([] : List Int)).length = 1 := rfl
    rw [h3]
    omega
  · exact (sel_t h0 hx).symm
  · exact (sel_f h0 hx).symm
  · have e : i.toNat = c.2.1.length := by omega
    simp only [c_impl_Category_outOf, outR]
    rw [e]
theorem ct_impl_Category_outOf : CtOk Try.prog 45 c_impl_Category_outOf :=
  ct_by (Φ := lkp []) good_nil tab_ok (by kernel_rfl) (fn := Try.f45) (c := bodyOf Try.f45) (by kernel_rfl) (by kernel_rfl) (by kernel_rfl) c_impl_Category_outOf rfl (.s .n (.s .n (.s (.s .n (.l [(5, (.ref 800005 [])), (14, (.d (.int .i64)))] [(800005, (.sl (.fz (.int .i64))))] [1, 12, 13] (.s .n (.s .n (.s (.s .n (.s .n (.j [(5, (.ref 800005 []))] [(800005, (.sl (.fz (.int .i64))))] [1, 12, 13, 14] .n))) .n))))) .n))) (cutL []) (by kernel_rfl) (by kernel_rfl) k_impl_Category_outOf (by decide) (fun x K => W_impl_Category_outOf x.1 x.2.1 K) w_impl_Category_outOf (fun x h1 h2 => m_impl_Category_outOf x.1 x.2.1 h1 h2)
def c_impl_SetFunctor_generated_1 : Ct := ⟨[(.int .i64), (.int .i64), (.pt (.mp (.p (.int .i64) (.int .i64)) .bool))], [false, false, false], fun x => [], [(false, (.fz .bool))], fun x => (mgetR (.p (.int .i64) (.int .i64)) .bool x.2.2.1 (x.1, x.2.1), ()), false, none⟩
def W_impl_SetFunctor_generated_1 (x : Int) (e : Int) (there : List ((Int × Int) × Bool)) (K : Bool × Unit → Prop) : Prop := (K ((mgetR endsT T.bool there (x, e)), ()))
theorem w_impl_SetFunctor_generated_1 (x : denL c_impl_SetFunctor_generated_1.args) (K : Bool × Unit → Prop) : evF tab (lkp []) (cutL []) Try.f83 (bodyOf Try.f83) .n c_impl_SetFunctor_generated_1 x K = W_impl_SetFunctor_generated_1 x.1 x.2.1 x.2.2.1 K := by kernel_rfl
theorem k_impl_SetFunctor_generated_1 : okC Try.f83.ntmps (cutL []) (bodyOf Try.f83) = true := by kernel_rfl
theorem m_impl_SetFunctor_generated_1 (x : Int) (e : Int) (there : List ((Int × Int) × Bool)) (hok : allP (okL c_impl_SetFunctor_generated_1.args (x, e, there, ()))) (hpre : allP (c_impl_SetFunctor_generated_1.pre (x, e, there, ()))) : W_impl_SetFunctor_generated_1 x e there (fun r => r = c_impl_SetFunctor_generated_1.res (x, e, there, ())) := by
  simp only [c_impl_SetFunctor_generated_1, okL, T.oks, T.ok, ap, allP, true_and, and_true, implies_true] at hok hpre
  try dsimp only [T.den] at hok
  try dsimp only [T.den] at hpre
  unfold W_impl_SetFunctor_generated_1
  rfl
theorem ct_impl_SetFunctor_generated_1 : CtOk Try.prog 83 c_impl_SetFunctor_generated_1 :=
  ct_by (Φ := lkp []) good_nil tab_ok (by kernel_rfl) (fn := Try.f83) (c := bodyOf Try.f83) (by kernel_rfl) (by kernel_rfl) (by kernel_rfl) c_impl_SetFunctor_generated_1 rfl .n (cutL []) (by kernel_rfl) (by kernel_rfl) k_impl_SetFunctor_generated_1 (by decide) (fun x K => W_impl_SetFunctor_generated_1 x.1 x.2.1 x.2.2.1 K) w_impl_SetFunctor_generated_1 (fun x h1 h2 => m_impl_SetFunctor_generated_1 x.1 x.2.1 x.2.2.1 h1 h2)
def c_impl_isMapOf : Ct := ⟨[(.sl (.int .i64)), (.int .i64), (.int .i64)], [false, false, false], fun x => [inK .i64 (x.2.2.1 - 1)], [(false, (.fz .bool))], fun x => ((decide ((x.1.length : Int) = x.2.1) && withinR x.1 x.2.2.1), ()), false, none⟩
def W_impl_isMapOf (f : List Int) (m : Int) (n : Int) (K : Bool × Unit → Prop) : Prop := (((((((List.length f) : Nat) : Int) == m) = Bool.true) → (inK IntKind.i64 (n - (1 : Int)))) ∧ (K ((((((List.length f) : Nat) : Int) == m) && (withinR f n)), ())))
theorem w_impl_isMapOf (x : denL c_impl_isMapOf.args) (K : Bool × Unit → Prop) : evF tab (lkp [(63, c_impl_within)]) (cutL []) Try.f91 (bodyOf Try.f91) .n c_impl_isMapOf x K = W_impl_isMapOf x.1 x.2.1 x.2.2.1 K := by kernel_rfl
theorem k_impl_isMapOf : okC Try.f91.ntmps (cutL []) (bodyOf Try.f91) = true := by kernel_rfl
theorem m_impl_isMapOf (f : List Int) (m : Int) (n : Int) (hok : allP (okL c_impl_isMapOf.args (f, m, n, ()))) (hpre : allP (c_impl_isMapOf.pre (f, m, n, ()))) : W_impl_isMapOf f m n (fun r => r = c_impl_isMapOf.res (f, m, n, ())) := by
  simp only [c_impl_isMapOf, okL, T.oks, T.ok, ap, allP, true_and, and_true, implies_true] at hok hpre
  try dsimp only [T.den] at hok
  try dsimp only [T.den] at hpre
  unfold W_impl_isMapOf
  simp only [c_impl_isMapOf]
  grind [cnd, nb_eq, inK64]
theorem ct_impl_isMapOf : CtOk Try.prog 91 c_impl_isMapOf :=
  ct_by (Φ := lkp [(63, c_impl_within)]) (good_cons ct_impl_within good_nil) tab_ok (by kernel_rfl) (fn := Try.f91) (c := bodyOf Try.f91) (by kernel_rfl) (by kernel_rfl) (by kernel_rfl) c_impl_isMapOf rfl .n (cutL []) (by kernel_rfl) (by kernel_rfl) k_impl_isMapOf (by decide) (fun x K => W_impl_isMapOf x.1 x.2.1 x.2.2.1 K) w_impl_isMapOf (fun x h1 h2 => m_impl_isMapOf x.1 x.2.1 x.2.2.1 h1 h2)
def sfActR (f : SetFunctorD) (a : Int) : Bool := decide (((f.2.2.getD a.toNat []).length : Int) = f.2.1.getD (f.1.2.1.getD a.toNat 0).toNat 0) && withinR (f.2.2.getD a.toNat []) (f.2.1.getD (f.1.2.2.1.getD a.toNat 0).toNat 0)
def sfShapeR (f : SetFunctorD) : Bool := catR f.1 && decide ((f.2.1.length : Int) = f.1.1) && withinR f.2.1 17 && decide (f.2.2.length = f.1.2.1.length) && allB f.2.2.length (sfActR f)
structure SfP (f : SetFunctorD) : Prop where
  cat : catR f.1 = true
  lz : (f.2.1.length : Int) = f.1.1
  wz : withinR f.2.1 17 = true
  la : f.2.2.length = f.1.2.1.length
  act : ∀ a : Int, 0 ≤ a → a < f.1.2.1.length → ((f.2.2.getD a.toNat []).length : Int) = f.2.1.getD (f.1.2.1.getD a.toNat 0).toNat 0 ∧ withinR (f.2.2.getD a.toNat []) (f.2.1.getD (f.1.2.2.1.getD a.toNat 0).toNat 0) = true
theorem sf_iff {f : SetFunctorD} : sfShapeR f = true ↔ SfP f := by
  simp only [sfShapeR, sfActR, Bool.and_eq_true, decide_eq_true_eq, allB_iff]
  constructor
  · rintro ⟨⟨⟨⟨h1, h2⟩, h3⟩, h4⟩, h5⟩
    exact ⟨h1, h2, h3, h4, fun a a0 a1 => h5 a a0 (by omega)⟩
  · rintro ⟨h1, h2, h3, h4, h5⟩
    exact ⟨⟨⟨⟨h1, h2⟩, h3⟩, h4⟩, fun a a0 a1 => h5 a a0 (by omega)⟩
theorem SfP.size {f : SetFunctorD} (S : SfP f) {x : Int} (h0 : 0 ≤ x) (h1 : x < f.1.1) : 0 ≤ f.2.1.getD x.toNat 0 ∧ f.2.1.getD x.toNat 0 ≤ 16 := by
  have := within_iff.1 S.wz x h0 (by have := S.lz; omega)
  exact ⟨this.1, by omega⟩
/-- what an arrow does to an element -/
def actR (f : SetFunctorD) (a e : Int) : Int := (f.2.2.getD a.toNat []).getD e.toNat 0
theorem SfP.at_ {f : SetFunctorD} (S : SfP f) {a e : Int} (h0 : 0 ≤ a) (h1 : a < f.1.2.1.length) (e0 : 0 ≤ e) (e1 : e < f.2.1.getD (f.1.2.1.getD a.toNat 0).toNat 0) :
    e < (f.2.2.getD a.toNat []).length ∧ 0 ≤ actR f a e ∧ actR f a e < f.2.1.getD (f.1.2.2.1.getD a.toNat 0).toNat 0 := by
  obtain ⟨k1, k2⟩ := S.act a h0 h1
  have := within_iff.1 k2 e e0 (by omega)
  exact ⟨by omega, this.1, this.2⟩

def c_impl_SetFunctor_isShape : Ct := ⟨[(.pt SetFunctorT)], [false], fun x => [], [(false, (.fz .bool))], fun x => (sfShapeR x.1, ()), false, none⟩
def W_impl_SetFunctor_isShape (f : SetFunctorD) (K : Bool × Unit → Prop) : Prop := (((((!(catR f.1)) || ((((List.length f.2.1) : Nat) : Int) != f.1.1)) = Bool.false) → (inK IntKind.i64 ((17 : Int) - (1 : Int)))) ∧ (cnd ((((!(catR f.1)) || ((((List.length f.2.1) : Nat) : Int) != f.1.1)) || (!(withinR f.2.1 (17 : Int)))) || ((((List.length f.2.2) : Nat) : Int) != (((List.length f.1.2.1) : Nat) : Int))) (K (Bool.false, ())) (loopW (S := ((Int × Unit) × Unit)) (fun s => (fun next => ((inK IntKind.i64 s.1.1) → (cnd (decide (s.1.1 < (((List.length f.2.2) : Nat) : Int))) (((0 : Int) ≤ s.1.1) ∧ ((s.1.1 < (((List.length f.2.2) : Nat) : Int)) ∧ (((0 : Int) ≤ s.1.1) ∧ ((s.1.1 < (((List.length f.1.2.1) : Nat) : Int)) ∧ (((0 : Int) ≤ (List.getD f.1.2.1 (Int.toNat s.1.1) (0 : Int))) ∧ (((List.getD f.1.2.1 (Int.toNat s.1.1) (0 : Int)) < (((List.length f.2.1) : Nat) : Int)) ∧ (((0 : Int) ≤ s.1.1) ∧ ((s.1.1 < (((List.length f.1.2.2.1) : Nat) : Int)) ∧ (((0 : Int) ≤ (List.getD f.1.2.2.1 (Int.toNat s.1.1) (0 : Int))) ∧ (((List.getD f.1.2.2.1 (Int.toNat s.1.1) (0 : Int)) < (((List.length f.2.1) : Nat) : Int)) ∧ ((inK IntKind.i64 ((List.getD f.2.1 (Int.toNat (List.getD f.1.2.2.1 (Int.toNat s.1.1) (0 : Int))) (0 : Int)) - (1 : Int))) ∧ (cnd (!((decide ((((List.length (List.getD f.2.2 (Int.toNat s.1.1) ([] : List Int))) : Nat) : Int) = (List.getD f.2.1 (Int.toNat (List.getD f.1.2.1 (Int.toNat s.1.1) (0 : Int))) (0 : Int)))) && (withinR (List.getD f.2.2 (Int.toNat s.1.1) ([] : List Int)) (List.getD f.2.1 (Int.toNat (List.getD f.1.2.2.1 (Int.toNat s.1.1) (0 : Int))) (0 : Int))))) (K (Bool.false, ())) ((inK IntKind.i64 (s.1.1 + (1 : Int))) ∧ (next (((s.1.1 + (1 : Int)), ()), ()))))))))))))))) (K (Bool.true, ())))))) (((0 : Int), ()), ()))))
theorem w_impl_SetFunctor_isShape (x : denL c_impl_SetFunctor_isShape.args) (K : Bool × Unit → Prop) : evF tab (lkp [(38, c_impl_Category_arrows), (36, c_impl_Category_isCategory), (91, c_impl_isMapOf), (63, c_impl_within)]) (cutL [(2, 33), (7, 29)]) Try.f80 (bodyOf Try.f80) (.s .n (.s .n (.s .n (.s (.s .n (.l [(47, (.d (.int .i64)))] [] [0, 3, 45, 46] .n)) .n)))) c_impl_SetFunctor_isShape x K = W_impl_SetFunctor_isShape x.1 K := by kernel_rfl
theorem k_impl_SetFunctor_isShape : okC Try.f80.ntmps (cutL [(2, 33), (7, 29)]) (bodyOf Try.f80) = true := by kernel_rfl
theorem m_impl_SetFunctor_isShape (f : SetFunctorD) (hok : allP (okL c_impl_SetFunctor_isShape.args (f, ()))) (hpre : allP (c_impl_SetFunctor_isShape.pre (f, ()))) : W_impl_SetFunctor_isShape f (fun r => r = c_impl_SetFunctor_isShape.res (f, ())) := by
  simp only [c_impl_SetFunctor_isShape, okL, T.oks, T.ok, ap, allP, true_and, and_true, implies_true] at hok hpre
  try dsimp only [T.den] at hok
  try dsimp only [T.den] at hpre
  unfold W_impl_SetFunctor_isShape
  have hv : sfShapeR f = (catR f.1 && decide ((f.2.1.length : Int) = f.1.1) && withinR f.2.1 17 && decide (f.2.2.length = f.1.2.1.length) && allB f.2.2.length (sfActR f)) := rfl
  have res : ∀ b, sfShapeR f = b → (b, ()) = c_impl_SetFunctor_isShape.res (f, ()) := fun b h => by simp only [c_impl_SetFunctor_isShape, h]
  refine ⟨fun _ => by rw [inK64]; (try dsimp only); omega, cnd_of (fun hc => res _ ?_) (fun hc => ?_)⟩
  · rw [hv]; revert hc
    cases catR f.1 <;> cases withinR f.2.1 17 <;> simp
    omega
  simp only [Bool.or_eq_false_iff, Bool.not_eq_false', bne_eq_false_iff_eq] at hc
  obtain ⟨⟨⟨h1, h2⟩, h3⟩, h4⟩ := hc
  have h4' : f.2.2.length = f.1.2.1.length := by omega
  rw [h1, decide_eq_true h2, h3, decide_eq_true h4'] at hv
  simp only [Bool.true_and] at hv
  have S := cat_shape h1
  have hlt := S.lt
  have hm := S.m
  refine loop_allB f.2.2.length (sfActR f) ?_ ?_
  · intro a next a0 a1 hno hyes _
    try dsimp only
    obtain ⟨k1, k2, k3, k4⟩ := S.frm a0 (by omega)
    have hz := within_iff.1 h3 _ k3 (by omega)
    refine cnd_d (fun _ => ⟨a0, a1, a0, by omega, k1, by omega, a0, by omega, k3, by omega, by rw [inK64]; (try dsimp only); omega, cnd_of (fun hx => res _ ?_) (fun hx => ⟨by rw [inK64]; (try dsimp only); omega, hyes ?_⟩)⟩) (fun h => absurd a1 h)
    · rw [hv]; refine hno ?_; unfold sfActR; revert hx; cases withinR (f.2.2.getD a.toNat []) (f.2.1.getD (f.1.2.2.1.getD a.toNat 0).toNat 0) <;> simp
    · unfold sfActR; simpa using hx
  · intro next h _
    exact cnd_d (fun h => absurd h (Int.lt_irrefl _)) (fun _ => res _ (by rw [hv, h]))
theorem ct_impl_SetFunctor_isShape : CtOk Try.prog 80 c_impl_SetFunctor_isShape :=
  ct_by (Φ := lkp [(38, c_impl_Category_arrows), (36, c_impl_Category_isCategory), (91, c_impl_isMapOf), (63, c_impl_within)]) (good_cons ct_impl_Category_arrows (good_cons ct_impl_Category_isCategory (good_cons ct_impl_isMapOf (good_cons ct_impl_within good_nil)))) tab_ok (by kernel_rfl) (fn := Try.f80) (c := bodyOf Try.f80) (by kernel_rfl) (by kernel_rfl) (by kernel_rfl) c_impl_SetFunctor_isShape rfl (.s .n (.s .n (.s .n (.s (.s .n (.l [(47, (.d (.int .i64)))] [] [0, 3, 45, 46] .n)) .n)))) (cutL [(2, 33), (7, 29)]) (by kernel_rfl) (by kernel_rfl) k_impl_SetFunctor_isShape (by decide) (fun x K => W_impl_SetFunctor_isShape x.1 K) w_impl_SetFunctor_isShape (fun x h1 h2 => m_impl_SetFunctor_isShape x.1 h1 h2)
def sfI (f : SetFunctorD) (x e : Int) : Option (Int × Int × Int × Int) := if actR f (f.1.2.2.2.1.getD x.toNat 0) e ≠ e then some (1, x, e, 0) else none
def sfIx (f : SetFunctorD) (x : Int) : Option (Int × Int × Int × Int) := scanR (sfI f x) (f.2.1.getD x.toNat 0).toNat 0
def sfC (f : SetFunctorD) (a b e : Int) : Option (Int × Int × Int × Int) := if actR f (compR f.1 a b) e ≠ actR f b (actR f a e) then some (2, a, b, e) else none
def sfCb (f : SetFunctorD) (a b : Int) : Option (Int × Int × Int × Int) := if f.1.2.2.1.getD a.toNat 0 = f.1.2.1.getD b.toNat 0 then scanR (sfC f a b) (f.2.1.getD (f.1.2.1.getD a.toNat 0).toNat 0).toNat 0 else none
def sfCa (f : SetFunctorD) (a : Int) : Option (Int × Int × Int × Int) := scanR (sfCb f a) f.1.2.1.length 0
def sfFaultR (f : SetFunctorD) : Int × Int × Int × Int := orR (scanR (sfIx f) f.1.1.toNat 0) (orR (scanR (sfCa f) f.1.2.1.length 0) (0, 0, 0, 0))

def c_impl_SetFunctor_fault : Ct := ⟨[(.pt SetFunctorT)], [false], fun x => [SfP x.1], [(false, (.fz (.int .i64))), (false, (.fz (.int .i64))), (false, (.fz (.int .i64))), (false, (.fz (.int .i64)))], fun x => ((sfFaultR x.1).1, (sfFaultR x.1).2.1, (sfFaultR x.1).2.2.1, (sfFaultR x.1).2.2.2, ()), false, none⟩
def W_impl_SetFunctor_fault (f : SetFunctorD) (K : Int × Int × Int × Int × Unit → Prop) : Prop := (loopW (S := ((Int × Unit) × Unit)) (fun s => (fun next => ((inK IntKind.i64 s.1.1) → (cnd (decide (s.1.1 < (((List.length f.1.2.2.2.1) : Nat) : Int))) (((0 : Int) ≤ s.1.1) ∧ ((s.1.1 < (((List.length f.1.2.2.2.1) : Nat) : Int)) ∧ (((0 : Int) ≤ (List.getD f.1.2.2.2.1 (Int.toNat s.1.1) (0 : Int))) ∧ (((List.getD f.1.2.2.2.1 (Int.toNat s.1.1) (0 : Int)) < (((List.length f.2.2) : Nat) : Int)) ∧ (loopW (S := ((Int × Unit) × Unit)) (fun s1 => (fun next1 => ((inK IntKind.i64 s1.1.1) → (cnd (decide (s1.1.1 < (((List.length (List.getD f.2.2 (Int.toNat (List.getD f.1.2.2.2.1 (Int.toNat s.1.1) (0 : Int))) ([] : List Int))) : Nat) : Int))) (((0 : Int) ≤ s1.1.1) ∧ ((s1.1.1 < (((List.length (List.getD f.2.2 (Int.toNat (List.getD f.1.2.2.2.1 (Int.toNat s.1.1) (0 : Int))) ([] : List Int))) : Nat) : Int)) ∧ (cnd ((List.getD (List.getD f.2.2 (Int.toNat (List.getD f.1.2.2.2.1 (Int.toNat s.1.1) (0 : Int))) ([] : List Int)) (Int.toNat s1.1.1) (0 : Int)) != s1.1.1) (K ((1 : Int), (s.1.1, (s1.1.1, ((0 : Int), ()))))) ((inK IntKind.i64 (s1.1.1 + (1 : Int))) ∧ (next1 (((s1.1.1 + (1 : Int)), ()), ())))))) ((inK IntKind.i64 (s.1.1 + (1 : Int))) ∧ (next (((s.1.1 + (1 : Int)), ()), ()))))))) (((0 : Int), ()), ())))))) (loopW (S := ((Int × Unit) × Unit)) (fun s1 => (fun next1 => ((inK IntKind.i64 s1.1.1) → (cnd (decide (s1.1.1 < (((List.length f.1.2.2.2.2) : Nat) : Int))) (((0 : Int) ≤ s1.1.1) ∧ ((s1.1.1 < (((List.length f.1.2.2.2.2) : Nat) : Int)) ∧ (loopW (S := ((Int × Unit) × Unit)) (fun s2 => (fun next2 => ((inK IntKind.i64 s2.1.1) → (cnd (decide (s2.1.1 < (((List.length (List.getD f.1.2.2.2.2 (Int.toNat s1.1.1) ([] : List Int))) : Nat) : Int))) (joinW (S := (Unit × Unit)) (fun s3 => ((inK IntKind.i64 (s2.1.1 + (1 : Int))) ∧ (next2 (((s2.1.1 + (1 : Int)), ()), ())))) (fun k => (((0 : Int) ≤ s2.1.1) ∧ ((s2.1.1 < (((List.length (List.getD f.1.2.2.2.2 (Int.toNat s1.1.1) ([] : List Int))) : Nat) : Int)) ∧ (cnd (decide ((List.getD (List.getD f.1.2.2.2.2 (Int.toNat s1.1.1) ([] : List Int)) (Int.toNat s2.1.1) (0 : Int)) < (0 : Int))) (k ((), ())) (((0 : Int) ≤ s1.1.1) ∧ ((s1.1.1 < (((List.length f.2.2) : Nat) : Int)) ∧ (loopW (S := ((Int × Unit) × Unit)) (fun s3 => (fun next3 => ((inK IntKind.i64 s3.1.1) → (cnd (decide (s3.1.1 < (((List.length (List.getD f.2.2 (Int.toNat s1.1.1) ([] : List Int))) : Nat) : Int))) (((0 : Int) ≤ s3.1.1) ∧ ((s3.1.1 < (((List.length (List.getD f.2.2 (Int.toNat s1.1.1) ([] : List Int))) : Nat) : Int)) ∧ (((0 : Int) ≤ (List.getD (List.getD f.1.2.2.2.2 (Int.toNat s1.1.1) ([] : List Int)) (Int.toNat s2.1.1) (0 : Int))) ∧ (((List.getD (List.getD f.1.2.2.2.2 (Int.toNat s1.1.1) ([] : List Int)) (Int.toNat s2.1.1) (0 : Int)) < (((List.length f.2.2) : Nat) : Int)) ∧ (((0 : Int) ≤ s3.1.1) ∧ ((s3.1.1 < (((List.length (List.getD f.2.2 (Int.toNat (List.getD (List.getD f.1.2.2.2.2 (Int.toNat s1.1.1) ([] : List Int)) (Int.toNat s2.1.1) (0 : Int))) ([] : List Int))) : Nat) : Int)) ∧ (((0 : Int) ≤ s2.1.1) ∧ ((s2.1.1 < (((List.length f.2.2) : Nat) : Int)) ∧ (((0 : Int) ≤ (List.getD (List.getD f.2.2 (Int.toNat s1.1.1) ([] : List Int)) (Int.toNat s3.1.1) (0 : Int))) ∧ (((List.getD (List.getD f.2.2 (Int.toNat s1.1.1) ([] : List Int)) (Int.toNat s3.1.1) (0 : Int)) < (((List.length (List.getD f.2.2 (Int.toNat s2.1.1) ([] : List Int))) : Nat) : Int)) ∧ (cnd ((List.getD (List.getD f.2.2 (Int.toNat (List.getD (List.getD f.1.2.2.2.2 (Int.toNat s1.1.1) ([] : List Int)) (Int.toNat s2.1.1) (0 : Int))) ([] : List Int)) (Int.toNat s3.1.1) (0 : Int)) != (List.getD (List.getD f.2.2 (Int.toNat s2.1.1) ([] : List Int)) (Int.toNat (List.getD (List.getD f.2.2 (Int.toNat s1.1.1) ([] : List Int)) (Int.toNat s3.1.1) (0 : Int))) (0 : Int))) (K ((2 : Int), (s1.1.1, (s2.1.1, (s3.1.1, ()))))) ((inK IntKind.i64 (s3.1.1 + (1 : Int))) ∧ (next3 (((s3.1.1 + (1 : Int)), ()), ())))))))))))))) (k ((), ())))))) (((0 : Int), ()), ()))))))))) ((inK IntKind.i64 (s1.1.1 + (1 : Int))) ∧ (next1 (((s1.1.1 + (1 : Int)), ()), ()))))))) (((0 : Int), ()), ())))) (K ((0 : Int), ((0 : Int), ((0 : Int), ((0 : Int), ()))))))))) (((0 : Int), ()), ())))))) (((0 : Int), ()), ()))
theorem w_impl_SetFunctor_fault (x : denL c_impl_SetFunctor_fault.args) (K : Int × Int × Int × Int × Unit → Prop) : evF tab (lkp []) (cutL [(22, 21)]) Try.f81 (bodyOf Try.f81) (.s .n (.s .n (.s (.s .n (.l [(25, (.d (.int .i64)))] [] [0, 6, 23, 24] (.s .n (.s .n (.s (.s .n (.s .n (.l [(38, (.d (.int .i64)))] [] [0, 6, 7, 23, 24, 25, 36, 37] .n))) .n))))) (.s (.s .n (.l [(55, (.d (.int .i64)))] [] [0, 53, 54] (.s .n (.s .n (.s (.s .n (.s .n (.l [(62, (.d (.int .i64)))] [] [0, 11, 53, 54, 55, 60, 61] (.s .n (.s .n (.s (.j [] [] [0, 11, 53, 54, 55, 60, 61, 62] (.s .n (.s .n (.s .n (.l [(77, (.d (.int .i64)))] [] [0, 11, 13, 14, 53, 54, 55, 60, 61, 62, 75, 76] .n))))) .n)))))) .n))))) .n)))) c_impl_SetFunctor_fault x K = W_impl_SetFunctor_fault x.1 K := by kernel_rfl
theorem k_impl_SetFunctor_fault : okC Try.f81.ntmps (cutL [(22, 21)]) (bodyOf Try.f81) = true := by kernel_rfl
theorem m_impl_SetFunctor_fault (f : SetFunctorD) (hok : allP (okL c_impl_SetFunctor_fault.args (f, ()))) (hpre : allP (c_impl_SetFunctor_fault.pre (f, ()))) : W_impl_SetFunctor_fault f (fun r => r = c_impl_SetFunctor_fault.res (f, ())) := by
  simp only [c_impl_SetFunctor_fault, okL, T.oks, T.ok, ap, allP, true_and, and_true, implies_true] at hok hpre
  try dsimp only [T.den] at hok
  try dsimp only [T.den] at hpre
  unfold W_impl_SetFunctor_fault
  have P : SfP f := hpre
  have S := cat_shape P.cat
  have hlt := S.lt
  have hli := S.li
  have hlc := S.lc
  have hmm := S.m
  have hob := S.ob
  have hlz := P.lz
  have hla := P.la
  have resq : ∀ a b d e, sfFaultR f = (a, b, d, e) → (a, b, d, e, ()) = c_impl_SetFunctor_fault.res (f, ()) := fun a b d e h => by simp only [c_impl_SetFunctor_fault, h]
  have hac : ∀ a e : Int, (f.2.2.getD a.toNat []).getD e.toNat 0 = actR f a e := fun _ _ => rfl
  have hcr : ∀ a b : Int, (f.1.2.2.2.2.getD a.toNat []).getD b.toNat 0 = compR f.1 a b := fun _ _ => rfl
  simp only [hac, hcr]
  refine loop_ix (n := f.1.1) (fun x => scanR (sfIx f) f.1.1.toNat 0 = scanR (sfIx f) (f.1.1 - x).toNat x) (by omega) (by rw [Int.sub_zero]) ?_ ?_
  · intro x next x0 x1 hP hn hin
    try dsimp only
    obtain ⟨b1, b2, b3, b4⟩ := S.idn x0 x1
    obtain ⟨z1, z2⟩ := P.size x0 x1
    obtain ⟨q1, q2⟩ := P.act _ b1 b2
    rw [b3] at q1
    refine cnd_d (fun _ => ⟨x0, by omega, b1, by omega, ?_⟩) (fun h => absurd h (by omega))
    refine loop_ix (n := f.2.1.getD x.toNat 0) (fun e => sfIx f x = scanR (sfI f x) (f.2.1.getD x.toNat 0 - e).toNat e) z1 (by unfold sfIx; rw [Int.sub_zero]) ?_ ?_
    · intro e next2 e0 e1 hP2 hn2 hin2
      try dsimp only
      refine cnd_d (fun _ => ⟨e0, by omega, cnd_of (fun hx => resq _ _ _ _ ?_) (fun hx => ⟨by rw [inK64]; (try dsimp only); omega, hn2 ?_⟩)⟩) (fun h => absurd h (by omega))
      · have k1 : sfI f x e = some (1, x, e, 0) := by unfold sfI; rw [if_pos]; simpa using hx
        have k2 : sfIx f x = some (1, x, e, 0) := by rw [hP2, scan_s e1 k1]
        unfold sfFaultR; rw [hP, scan_s x1 k2]; rfl
      · have k1 : sfI f x e = none := by unfold sfI; rw [if_neg]; simpa using hx
        rw [hP2, scan_c e1 k1]
    · intro next2 hP2 hin2
      try dsimp only
      rw [scan_n] at hP2
      exact cnd_d (fun h => absurd h (by omega)) (fun _ => ⟨by rw [inK64]; (try dsimp only); omega, hn (by rw [hP, scan_c x1 hP2])⟩)
  intro next hI hin
  rw [scan_n] at hI
  refine cnd_d (fun h => absurd h (by dsimp only; omega)) (fun _ => ?_)
  have hF : sfFaultR f = orR (scanR (sfCa f) f.1.2.1.length 0) (0, 0, 0, 0) := by unfold sfFaultR; rw [hI]; rfl
  refine loop_ix (n := f.1.2.1.length) (fun a => scanR (sfCa f) f.1.2.1.length 0 = scanR (sfCa f) ((f.1.2.1.length : Int) - a).toNat a) (by omega) scan_0 ?_ ?_
  · intro a next a0 a1 hP hn hin
    try dsimp only
    have r1 := S.row a a0 a1
    obtain ⟨q1, q2⟩ := P.act _ a0 a1
    obtain ⟨fa1, fa2, ta1, ta2⟩ := S.frm a0 a1
    obtain ⟨z1, z2⟩ := P.size fa1 fa2
    refine cnd_d (fun _ => ⟨a0, by omega, ?_⟩) (fun h => absurd h (by omega))
    refine loop_ix (n := f.1.2.1.length) (fun b => sfCa f a = scanR (sfCb f a) ((f.1.2.1.length : Int) - b).toNat b) (by omega) scan_0 ?_ ?_
    · intro b next2 b0 b1 hP2 hn2 hin2
      try dsimp only
      refine cnd_d (fun _ => ?_) (fun h => absurd h (by omega))
      refine join_of (fun _ => sfCb f a b = none) (fun _ hG => ⟨by rw [inK64]; (try dsimp only); omega, hn2 (by rw [hP2, scan_c b1 hG])⟩) (fun k hk => ?_)
      have hk' := hk ((), ())
      refine ⟨b0, by omega, cnd_d (fun hx => hk' ?_) (fun hx => ?_)⟩
      · unfold sfCb; rw [if_neg]; intro e; have := (S.comp a0 a1 b0 b1).2 e; omega
      have hab := (S.comp a0 a1 b0 b1).1 (by omega)
      obtain ⟨y1, y2, y3, y4⟩ := S.yes a0 a1 b0 b1 hab
      obtain ⟨p1, p2⟩ := P.act _ y1 y2
      rw [y3] at p1
      obtain ⟨p3, p4⟩ := P.act _ b0 b1
      rw [← hab] at p3
      refine ⟨a0, by omega, ?_⟩
      refine loop_ix (n := f.2.1.getD (f.1.2.1.getD a.toNat 0).toNat 0) (fun e => sfCb f a b = scanR (sfC f a b) (f.2.1.getD (f.1.2.1.getD a.toNat 0).toNat 0 - e).toNat e) z1 (by unfold sfCb; rw [if_pos hab, Int.sub_zero]) ?_ ?_
      · intro e next3 e0 e1 hP3 hn3 hin3
        try dsimp only
        obtain ⟨m1, m2, m3⟩ := P.at_ a0 a1 e0 e1
        refine cnd_d (fun _ => ⟨e0, by omega, y1, by omega, e0, by omega, b0, by omega, m2, by omega, cnd_of (fun hx => resq _ _ _ _ ?_) (fun hx => ⟨by rw [inK64]; (try dsimp only); omega, hn3 ?_⟩)⟩) (fun h => absurd h (by omega))
        · have k0 : sfC f a b e = some (2, a, b, e) := by unfold sfC; rw [if_pos]; simpa using hx
          have k1 : sfCb f a b = some (2, a, b, e) := by rw [hP3, scan_s e1 k0]
          have k2 : sfCa f a = some (2, a, b, e) := by rw [hP2, scan_s b1 k1]
          rw [hF, hP, scan_s a1 k2]; rfl
        · have k0 : sfC f a b e = none := by unfold sfC; rw [if_neg]; simpa using hx
          rw [hP3, scan_c e1 k0]
      · intro next3 hP3 hin3
        try dsimp only
        rw [scan_n] at hP3
        exact cnd_d (fun h => absurd h (by omega)) (fun _ => hk' hP3)
    · intro next2 hP2 hin2
      try dsimp only
      rw [scan_n] at hP2
      exact cnd_d (fun h => absurd h (by omega)) (fun _ => ⟨by rw [inK64]; (try dsimp only); omega, hn (by rw [hP, scan_c a1 hP2])⟩)
  · intro next2 hP2 hin2
    rw [scan_n] at hP2
    refine cnd_d (fun h => absurd h (by dsimp only; omega)) (fun _ => resq _ _ _ _ ?_)
    rw [hF, hP2]; rfl
theorem ct_impl_SetFunctor_fault : CtOk Try.prog 81 c_impl_SetFunctor_fault :=
  ct_by (Φ := lkp []) good_nil tab_ok (by kernel_rfl) (fn := Try.f81) (c := bodyOf Try.f81) (by kernel_rfl) (by kernel_rfl) (by kernel_rfl) c_impl_SetFunctor_fault rfl (.s .n (.s .n (.s (.s .n (.l [(25, (.d (.int .i64)))] [] [0, 6, 23, 24] (.s .n (.s .n (.s (.s .n (.s .n (.l [(38, (.d (.int .i64)))] [] [0, 6, 7, 23, 24, 25, 36, 37] .n))) .n))))) (.s (.s .n (.l [(55, (.d (.int .i64)))] [] [0, 53, 54] (.s .n (.s .n (.s (.s .n (.s .n (.l [(62, (.d (.int .i64)))] [] [0, 11, 53, 54, 55, 60, 61] (.s .n (.s .n (.s (.j [] [] [0, 11, 53, 54, 55, 60, 61, 62] (.s .n (.s .n (.s .n (.l [(77, (.d (.int .i64)))] [] [0, 11, 13, 14, 53, 54, 55, 60, 61, 62, 75, 76] .n))))) .n)))))) .n))))) .n)))) (cutL [(22, 21)]) (by kernel_rfl) (by kernel_rfl) k_impl_SetFunctor_fault (by decide) (fun x K => W_impl_SetFunctor_fault x.1 K) w_impl_SetFunctor_fault (fun x h1 h2 => m_impl_SetFunctor_fault x.1 h1 h2)
def setfR (f : SetFunctorD) : Bool := sfShapeR f && (sfFaultR f).1 == 0
theorem setf_sf {f : SetFunctorD} (h : setfR f = true) : SfP f := by
  simp only [setfR, Bool.and_eq_true] at h; exact sf_iff.1 h.1

def c_impl_SetFunctor_isSetFunctor : Ct := ⟨[(.pt SetFunctorT)], [false], fun x => [], [(false, (.fz .bool))], fun x => (setfR x.1, ()), false, none⟩
def W_impl_SetFunctor_isSetFunctor (f : SetFunctorD) (K : Bool × Unit → Prop) : Prop := (cnd (!(sfShapeR f)) (K (Bool.false, ())) ((SfP f) ∧ (K (((sfFaultR f).1 == (0 : Int)), ()))))
theorem w_impl_SetFunctor_isSetFunctor (x : denL c_impl_SetFunctor_isSetFunctor.args) (K : Bool × Unit → Prop) : evF tab (lkp [(81, c_impl_SetFunctor_fault), (80, c_impl_SetFunctor_isShape)]) (cutL []) Try.f53 (bodyOf Try.f53) .n c_impl_SetFunctor_isSetFunctor x K = W_impl_SetFunctor_isSetFunctor x.1 K := by kernel_rfl
theorem k_impl_SetFunctor_isSetFunctor : okC Try.f53.ntmps (cutL []) (bodyOf Try.f53) = true := by kernel_rfl
theorem m_impl_SetFunctor_isSetFunctor (f : SetFunctorD) (hok : allP (okL c_impl_SetFunctor_isSetFunctor.args (f, ()))) (hpre : allP (c_impl_SetFunctor_isSetFunctor.pre (f, ()))) : W_impl_SetFunctor_isSetFunctor f (fun r => r = c_impl_SetFunctor_isSetFunctor.res (f, ())) := by
  simp only [c_impl_SetFunctor_isSetFunctor, okL, T.oks, T.ok, ap, allP, true_and, and_true, implies_true] at hok hpre
  try dsimp only [T.den] at hok
  try dsimp only [T.den] at hpre
  unfold W_impl_SetFunctor_isSetFunctor
  have h1 := @sf_iff f
  simp only [c_impl_SetFunctor_isSetFunctor, setfR]
  grind [cnd, nb_eq, inK64]
theorem ct_impl_SetFunctor_isSetFunctor : CtOk Try.prog 53 c_impl_SetFunctor_isSetFunctor :=
  ct_by (Φ := lkp [(81, c_impl_SetFunctor_fault), (80, c_impl_SetFunctor_isShape)]) (good_cons ct_impl_SetFunctor_fault (good_cons ct_impl_SetFunctor_isShape good_nil)) tab_ok (by kernel_rfl) (fn := Try.f53) (c := bodyOf Try.f53) (by kernel_rfl) (by kernel_rfl) (by kernel_rfl) c_impl_SetFunctor_isSetFunctor rfl .n (cutL []) (by kernel_rfl) (by kernel_rfl) k_impl_SetFunctor_isSetFunctor (by decide) (fun x K => W_impl_SetFunctor_isSetFunctor x.1 K) w_impl_SetFunctor_isSetFunctor (fun x h1 h2 => m_impl_SetFunctor_isSetFunctor x.1 h1 h2)
def hasR (l : List Int) (n : Int) : Bool := l.any fun x => x == n

def risesR (l : List Int) : Bool := allB l.length fun i => decide (1 ≤ i → l.getD (i - 1).toNat 0 < l.getD i.toNat 0)
theorem rises_iff {l : List Int} : risesR l = true ↔ ∀ i : Int, 1 ≤ i → i < l.length → l.getD (i - 1).toNat 0 < l.getD i.toNat 0 := by
  simp only [risesR, allB_iff, decide_eq_true_eq]
  constructor
  · intro h i h1 h2; exact h i (by omega) h2 h1
  · intro h i h0 h1 h2; exact h i h2 h1


def mem2 (p : List (List Int)) (x e : Int) : Bool := hasR (p.getD x.toNat []) e
def prtX (f : SetFunctorD) (p : List (List Int)) (x : Int) : Bool := risesR (p.getD x.toNat []) && withinR (p.getD x.toNat []) (f.2.1.getD x.toNat 0)
def prtA (f : SetFunctorD) (p : List (List Int)) (a : Int) : Bool := (p.getD (f.1.2.1.getD a.toNat 0).toNat []).all fun e => mem2 p (f.1.2.2.1.getD a.toNat 0) (actR f a e)
def isPartR (f : SetFunctorD) (p : List (List Int)) : Bool := decide (p.length = f.2.1.length) && allB p.length (prtX f p) && allB f.2.2.length (prtA f p)
def bothR (f : SetFunctorD) (p q : List (List Int)) : Bool := setfR f && isPartR f p && isPartR f q
def codPR (b : Bool) : Int := if b = true then 0 else 1
theorem codP_t : codPR true = 0 := rfl
theorem codP_f : codPR false = 1 := rfl
/-- rows of elements -/
structure PrtP (f : SetFunctorD) (p : List (List Int)) : Prop where
  l : p.length = f.2.1.length
  w : ∀ x : Int, 0 ≤ x → x < f.1.1 → withinR (p.getD x.toNat []) (f.2.1.getD x.toNat 0) = true
def emptyR (f : SetFunctorD) : List (List Int) := tabN f.2.1.length fun _ => []
def impER (f : SetFunctorD) (p q : List (List Int)) (x e : Int) : Bool := allB f.1.2.1.length fun a => !(f.1.2.1.getD a.toNat 0 == x) || !mem2 p (f.1.2.2.1.getD a.toNat 0) (actR f a e) || mem2 q (f.1.2.2.1.getD a.toNat 0) (actR f a e)
def partOfR (f : SetFunctorD) (k : Int → Int → Bool) : List (List Int) := tabN f.2.1.length fun x => selR (f.2.1.getD x.toNat 0).toNat (k x)
def implyR (f : SetFunctorD) (p q : List (List Int)) : List (List Int) := partOfR f (impER f p q)
def joinPR (f : SetFunctorD) (p q : List (List Int)) : List (List Int) := partOfR f fun x e => mem2 p x e || mem2 q x e
def fullR (f : SetFunctorD) (p : List (List Int)) : Bool := allB p.length fun x => ((p.getD x.toNat []).length : Int) == f.2.1.getD x.toNat 0
def iPR (f : SetFunctorD) (p q : List (List Int)) : List (List Int) := if bothR f p q = true then implyR f p q else []
def nPR (f : SetFunctorD) (p : List (List Int)) : List (List Int) := if (setfR f && isPartR f p) = true then implyR f p (emptyR f) else []
theorem iPR_t {f : SetFunctorD} {p q : List (List Int)} (h : bothR f p q = true) : iPR f p q = implyR f p q := if_pos h
theorem iPR_f {f : SetFunctorD} {p q : List (List Int)} (h : bothR f p q = false) : iPR f p q = [] := if_neg (by rw [h]; simp)
theorem nPR_t {f : SetFunctorD} {p : List (List Int)} (h : (setfR f && isPartR f p) = true) : nPR f p = implyR f p (emptyR f) := if_pos h
theorem nPR_f {f : SetFunctorD} {p : List (List Int)} (h : (setfR f && isPartR f p) = false) : nPR f p = [] := if_neg (by rw [h]; simp)
theorem PrtP.of {f : SetFunctorD} (S : SfP f) (k : Int → Int → Bool) : PrtP f (partOfR f k) := by
  refine ⟨tabN_len _, fun x h0 h1 => ?_⟩
  unfold partOfR
  have hz := S.lz
  rw [tabN_get h0 (by omega), within_iff]
  intro i i0 i1
  have := getD_mem (selR (f.2.1.getD x.toNat 0).toNat (k x)) 0 i0 i1
  rw [sel_mem] at this
  omega
theorem partOf_ck {f : SetFunctorD} (S : SfP f) (k : Int → Int → Bool) : ctR PartT (partOfR f k) ≤ 128 := by
  have hlz := S.lz
  have hob := (cat_shape S.cat).ob
  have h := ck_rows (k := .i64) (B := 16) (partOfR f k) (fun r hr => by
    unfold partOfR at hr
    rw [tabN_mem] at hr
    obtain ⟨x, x0, x1, rfl⟩ := hr
    have := S.size x0 (by omega)
    have h2 := sel_len (p := k x) (f.2.1.getD x.toNat 0).toNat
    omega)
  have hl : (partOfR f k).length = f.2.1.length := tabN_len _
  rw [hl] at h
  show ckR (.sl (.sl (.int .i64))) (partOfR f k) ≤ 128
  omega
theorem nil_ck : ctR PartT [] = 0 := rfl
theorem isPart_prt {f : SetFunctorD} {p : List (List Int)} (S : SfP f) (h : isPartR f p = true) : PrtP f p := by
  simp only [isPartR, prtX, Bool.and_eq_true, decide_eq_true_eq, allB_iff] at h
  have hz := S.lz
  exact ⟨h.1.1, fun x h0 h1 => (h.1.2 x h0 (by omega)).2⟩
theorem empty_of (f : SetFunctorD) : partOfR f (fun _ _ => false) = emptyR f := by
  refine tabN_congr fun x _ _ => ?_
  rw [List.eq_nil_iff_forall_not_mem]
  intro a ha
  rw [sel_mem] at ha
  cases ha.2.2

def c_impl_partOf_gen : Ct := ⟨[(.pt SetFunctorT), (.fn 83 (.p (.pt (.mp (.p (.int .i64) (.int .i64)) .bool)) .u))], [false, false], fun x => [SfP x.1], [(true, PartO)], fun x => (partOfR x.1 fun y d => mgetR (.p (.int .i64) (.int .i64)) .bool x.2.1.1 (y, d), ()), false, none⟩
def W_impl_partOf_gen (f : SetFunctorD) (allowed : (List ((Int × Int) × Bool)) × Unit) (K : PartD × Unit → Prop) : Prop := (loopW (S := ((Unit × (Unit × (Int × Unit))) × ((List (List Int)) × ((List (List Int)) × Unit)))) (fun s => (fun next => ((inK IntKind.i64 s.1.2.2.1) → ((T.ok (T.sl (T.sl (T.int IntKind.i64))) s.2.1) → ((T.ok (T.sl (T.sl (T.int IntKind.i64))) s.2.2.1) → (cnd (decide (s.1.2.2.1 < (((List.length f.2.1) : Nat) : Int))) (((0 : Int) ≤ s.1.2.2.1) ∧ ((s.1.2.2.1 < (((List.length f.2.1) : Nat) : Int)) ∧ (loopW (S := ((Unit × (Unit × (Unit × (Int × Unit)))) × ((List (List Int)) × ((List (List Int)) × ((List Int) × Unit))))) (fun s1 => (fun next1 => ((inK IntKind.i64 s1.1.2.2.2.1) → ((T.ok (T.sl (T.sl (T.int IntKind.i64))) s1.2.1) → ((T.ok (T.sl (T.sl (T.int IntKind.i64))) s1.2.2.1) → ((T.ok (T.sl (T.int IntKind.i64)) s1.2.2.2.1) → (cnd (decide (s1.1.2.2.2.1 < (List.getD f.2.1 (Int.toNat s.1.2.2.1) (0 : Int)))) (joinW (S := ((Unit × (Unit × (Unit × Unit))) × ((List (List Int)) × ((List (List Int)) × ((List Int) × Unit))))) (fun s2 => ((T.ok (T.sl (T.sl (T.int IntKind.i64))) s2.2.1) → ((T.ok (T.sl (T.sl (T.int IntKind.i64))) s2.2.2.1) → ((T.ok (T.sl (T.int IntKind.i64)) s2.2.2.2.1) → ((inK IntKind.i64 (s1.1.2.2.2.1 + (1 : Int))) ∧ (next1 (((), ((), ((), ((s1.1.2.2.2.1 + (1 : Int)), ())))), (s2.2.1, (s2.2.2.1, (s2.2.2.2.1, ())))))))))) (fun k => (cnd (mgetR endsT T.bool allowed.1 (s.1.2.2.1, s1.1.2.2.2.1)) ((room (List.length s1.2.2.2.1) (List.length (s1.1.2.2.2.1 :: ([] : List Int))) 8) ∧ (k (((), ((), ((), ()))), (s1.2.1, (s1.2.2.1, ((s1.2.2.2.1 ++ (s1.1.2.2.2.1 :: ([] : List Int))), ())))))) (k (((), ((), ((), ()))), (s1.2.1, (s1.2.2.1, (s1.2.2.2.1, ())))))))) ((room (List.length s1.2.2.1) (List.length (s1.2.2.2.1 :: ([] : List (List Int)))) 24) ∧ ((inK IntKind.i64 (s.1.2.2.1 + (1 : Int))) ∧ (next (((), ((), ((s.1.2.2.1 + (1 : Int)), ()))), (s1.2.1, ((s1.2.2.1 ++ (s1.2.2.2.1 :: ([] : List (List Int)))), ()))))))))))))) (((), ((), ((), ((0 : Int), ())))), (s.2.1, (s.2.2.1, (([] : List Int), ()))))))) (K (s.2.2.1, ())))))))) (((), ((), ((0 : Int), ()))), (([] : List (List Int)), (([] : List (List Int)), ()))))
theorem w_impl_partOf_gen (x : denL c_impl_partOf_gen.args) (K : PartD × Unit → Prop) : evF tab (lkp [(83, c_impl_SetFunctor_generated_1)]) (cutL []) Try.f82 (bodyOf Try.f82) (.s .n (.s .n (.s (.s .n (.l [(4, (.ad 4 [.de])), (5, (.ad 5 [.de])), (16, (.d (.int .i64)))] [(4, (.pt (.sl (.sl (.fz (.int .i64)))))), (5, (.pt (.sl (.sl (.fz (.int .i64))))))] [1, 14, 15] (.s .n (.s .n (.s (.s .n (.s .n (.s (.s .n (.l [(4, (.ad 4 [.de])), (5, (.ad 5 [.de])), (8, (.ref 800008 [])), (23, (.d (.int .i64)))] [(4, (.pt (.sl (.sl (.fz (.int .i64)))))), (5, (.pt (.sl (.sl (.fz (.int .i64)))))), (800008, (.sl (.fz (.int .i64))))] [1, 6, 14, 15, 16, 22] (.s .n (.s .n (.s (.s .n (.s .n (.j [(4, (.ad 4 [.de])), (5, (.ad 5 [.de])), (8, (.ref 800008 []))] [(4, (.pt (.sl (.sl (.fz (.int .i64)))))), (5, (.pt (.sl (.sl (.fz (.int .i64)))))), (800008, (.sl (.fz (.int .i64))))] [1, 6, 14, 15, 16, 22, 23] .n))) .n))))) .n))) .n))))) .n))) c_impl_partOf_gen x K = W_impl_partOf_gen x.1 x.2.1 K := by kernel_rfl
theorem k_impl_partOf_gen : okC Try.f82.ntmps (cutL []) (bodyOf Try.f82) = true := by kernel_rfl
theorem m_impl_partOf_gen (f : SetFunctorD) (allowed : (List ((Int × Int) × Bool)) × Unit) (hok : allP (okL c_impl_partOf_gen.args (f, allowed, ()))) (hpre : allP (c_impl_partOf_gen.pre (f, allowed, ()))) : W_impl_partOf_gen f allowed (fun r => r = c_impl_partOf_gen.res (f, allowed, ())) := by
  simp only [c_impl_partOf_gen, okL, T.oks, T.ok, ap, allP, true_and, and_true, implies_true] at hok hpre
  try dsimp only [T.den] at hok
  try dsimp only [T.den] at hpre
  unfold W_impl_partOf_gen
  have S := hpre
  have hlz := S.lz
  have hob := (cat_shape S.cat).ob
  skip
  refine loop_of (fun (s : ((Unit × (Unit × (Int × Unit))) × ((List (List Int)) × ((List (List Int)) × Unit)))) => s.2.1 = [] ∧ 0 ≤ s.1.2.2.1 ∧ s.1.2.2.1 ≤ f.2.1.length ∧ s.2.2.1 = tabN s.1.2.2.1.toNat fun x => selR (f.2.1.getD x.toNat 0).toNat ((fun y d => mgetR (.p (.int .i64) (.int .i64)) .bool allowed.1 (y, d)) x)) (fun (s : ((Unit × (Unit × (Int × Unit))) × ((List (List Int)) × ((List (List Int)) × Unit)))) => (f.2.1.length - s.1.2.2.1).toNat) ?_ ⟨rfl, by simp, by simp, rfl⟩
  rintro ⟨⟨_, _, i, _⟩, L0, L, _⟩ next ⟨h0, h1, h2, h3⟩ hn hin hok1 hok2
  try dsimp only at h0 h1 h2 h3 hn ⊢
  subst h0
  refine cnd_d (fun hc => ⟨h1, hc, ?_⟩) (fun hc => ?_)
  · have hz := S.size h1 (by omega)
    have hL : L.length = i.toNat := by rw [h3, tabN_len]
    refine loop_of (fun (s : ((Unit × (Unit × (Unit × (Int × Unit)))) × ((List (List Int)) × ((List (List Int)) × ((List Int) × Unit))))) => s.2.1 = [] ∧ s.2.2.1 = L ∧ 0 ≤ s.1.2.2.2.1 ∧ s.1.2.2.2.1 ≤ f.2.1.getD i.toNat 0 ∧ s.2.2.2.1 = selR s.1.2.2.2.1.toNat ((fun y d => mgetR (.p (.int .i64) (.int .i64)) .bool allowed.1 (y, d)) i)) (fun (s : ((Unit × (Unit × (Unit × (Int × Unit)))) × ((List (List Int)) × ((List (List Int)) × ((List Int) × Unit))))) => (f.2.1.getD i.toNat 0 - s.1.2.2.2.1).toNat) ?_ ⟨rfl, rfl, by simp, hz.1, rfl⟩
    rintro ⟨⟨_, _, _, e, _⟩, L0, L', R, _⟩ next1 ⟨k0, k1, k2, k3, k4⟩ hn1 hin1 _ _ _
    try dsimp only at k0 k1 k2 k3 k4 hn1 ⊢
    subst k0; subst k1
    have hR : R.length ≤ e.toNat := by rw [k4]; exact sel_len e.toNat
    refine cnd_d (fun hd => ?_) (fun hd => ?_)
    · skip
      refine join_of (fun s => s.2.1 = [] ∧ s.2.2.1 = L' ∧ s.2.2.2.1 = selR (e + 1).toNat ((fun y d => mgetR (.p (.int .i64) (.int .i64)) .bool allowed.1 (y, d)) i)) (fun s ⟨q0, q1, q2⟩ _ _ _ => ⟨by rw [inK64]; (try dsimp only); omega, hn1 _ ⟨q0, q1, (by first | omega | (dsimp only; omega)), (by first | omega | (dsimp only; omega)), q2⟩ (by first | omega | (dsimp only; omega))⟩) (fun k hk => cnd_of (fun hx => ⟨room_of (by simp only [List.length_cons, List.length_nil]; omega), hk _ ⟨rfl, rfl, ?_⟩⟩) (fun hx => hk _ ⟨rfl, rfl, ?_⟩))
      · try dsimp only; rw [sel_t (p := (fun y d => mgetR (.p (.int .i64) (.int .i64)) .bool allowed.1 (y, d)) i) k2 hx, k4]
      · try dsimp only; rw [sel_f (p := (fun y d => mgetR (.p (.int .i64) (.int .i64)) .bool allowed.1 (y, d)) i) k2 hx, k4]
    · have he : e = f.2.1.getD i.toNat 0 := by omega
      refine ⟨room_of (by simp only [List.length_cons, List.length_nil]; omega), by rw [inK64]; (try dsimp only); omega, hn _ ⟨rfl, (by first | omega | (dsimp only; omega)), (by first | omega | (dsimp only; omega)), ?_⟩ (by first | omega | (dsimp only; omega))⟩
      try dsimp only; rw [tabN_s h1, ← h3, k4, he]
  · have hi : i = f.2.1.length := by omega
    simp only [c_impl_partOf_gen, partOfR]; rw [h3, hi]; simp
theorem ct_impl_partOf_gen : CtOk Try.prog 82 c_impl_partOf_gen :=
  ct_by (Φ := lkp [(83, c_impl_SetFunctor_generated_1)]) (good_cons ct_impl_SetFunctor_generated_1 good_nil) tab_ok (by kernel_rfl) (fn := Try.f82) (c := bodyOf Try.f82) (by kernel_rfl) (by kernel_rfl) (by kernel_rfl) c_impl_partOf_gen rfl (.s .n (.s .n (.s (.s .n (.l [(4, (.ad 4 [.de])), (5, (.ad 5 [.de])), (16, (.d (.int .i64)))] [(4, (.pt (.sl (.sl (.fz (.int .i64)))))), (5, (.pt (.sl (.sl (.fz (.int .i64))))))] [1, 14, 15] (.s .n (.s .n (.s (.s .n (.s .n (.s (.s .n (.l [(4, (.ad 4 [.de])), (5, (.ad 5 [.de])), (8, (.ref 800008 [])), (23, (.d (.int .i64)))] [(4, (.pt (.sl (.sl (.fz (.int .i64)))))), (5, (.pt (.sl (.sl (.fz (.int .i64)))))), (800008, (.sl (.fz (.int .i64))))] [1, 6, 14, 15, 16, 22] (.s .n (.s .n (.s (.s .n (.s .n (.j [(4, (.ad 4 [.de])), (5, (.ad 5 [.de])), (8, (.ref 800008 []))] [(4, (.pt (.sl (.sl (.fz (.int .i64)))))), (5, (.pt (.sl (.sl (.fz (.int .i64)))))), (800008, (.sl (.fz (.int .i64))))] [1, 6, 14, 15, 16, 22, 23] .n))) .n))))) .n))) .n))))) .n))) (cutL []) (by kernel_rfl) (by kernel_rfl) k_impl_partOf_gen (by decide) (fun x K => W_impl_partOf_gen x.1 x.2.1 K) w_impl_partOf_gen (fun x h1 h2 => m_impl_partOf_gen x.1 x.2.1 h1 h2)
def c_spec_l02Object : Ct := ⟨[CategoryT, (.int .i64)], [true, false], fun x => [], [(false, (.fz .bool))], fun x => ((decide (0 ≤ x.2.1) && decide (x.2.1 < x.1.1)), ()), false, none⟩
def W_spec_l02Object (c : CategoryD) (x : Int) (K : Bool × Unit → Prop) : Prop := (K (((decide ((0 : Int) ≤ x)) && (decide (x < c.1))), ()))
theorem w_spec_l02Object (x : denL c_spec_l02Object.args) (K : Bool × Unit → Prop) : evF tab (lkp []) (cutL []) Try.f41 (bodyOf Try.f41) .n c_spec_l02Object x K = W_spec_l02Object x.1 x.2.1 K := by kernel_rfl
theorem k_spec_l02Object : okC Try.f41.ntmps (cutL []) (bodyOf Try.f41) = true := by kernel_rfl
theorem m_spec_l02Object (c : CategoryD) (x : Int) (hok : allP (okL c_spec_l02Object.args (c, x, ()))) (hpre : allP (c_spec_l02Object.pre (c, x, ()))) : W_spec_l02Object c x (fun r => r = c_spec_l02Object.res (c, x, ())) := by
  simp only [c_spec_l02Object, okL, T.oks, T.ok, ap, allP, true_and, and_true, implies_true] at hok hpre
  try dsimp only [T.den] at hok
  try dsimp only [T.den] at hpre
  unfold W_spec_l02Object
  grind [cnd, nb_eq, inK64, c_spec_l02Object]
theorem ct_spec_l02Object : CtOk Try.prog 41 c_spec_l02Object :=
  ct_by (Φ := lkp []) good_nil tab_ok (by kernel_rfl) (fn := Try.f41) (c := bodyOf Try.f41) (by kernel_rfl) (by kernel_rfl) (by kernel_rfl) c_spec_l02Object rfl .n (cutL []) (by kernel_rfl) (by kernel_rfl) k_spec_l02Object (by decide) (fun x K => W_spec_l02Object x.1 x.2.1 K) w_spec_l02Object (fun x h1 h2 => m_spec_l02Object x.1 x.2.1 h1 h2)
def elemR (f : SetFunctorD) (x e : Int) : Bool := (decide (0 ≤ x) && decide (x < f.1.1)) && decide (0 ≤ e) && decide (e < f.2.1.getD x.toNat 0)

def c_spec_l19Element : Ct := ⟨[SetFunctorT, (.int .i64), (.int .i64)], [true, false, false], fun x => [SfP x.1], [(false, (.fz .bool))], fun x => (elemR x.1 x.2.1 x.2.2.1, ()), false, none⟩
def W_spec_l19Element (f : SetFunctorD) (x : Int) (e : Int) (K : Bool × Unit → Prop) : Prop := ((((((decide ((0 : Int) ≤ x)) && (decide (x < f.1.1))) && (decide ((0 : Int) ≤ e))) = Bool.true) → ((x < (((List.length f.2.1) : Nat) : Int)) ∧ ((0 : Int) ≤ x))) ∧ (K (((((decide ((0 : Int) ≤ x)) && (decide (x < f.1.1))) && (decide ((0 : Int) ≤ e))) && (decide (e < (List.getD f.2.1 (Int.toNat x) (0 : Int))))), ())))
theorem w_spec_l19Element (x : denL c_spec_l19Element.args) (K : Bool × Unit → Prop) : evF tab (lkp [(41, c_spec_l02Object)]) (cutL []) Try.f51 (bodyOf Try.f51) .n c_spec_l19Element x K = W_spec_l19Element x.1 x.2.1 x.2.2.1 K := by kernel_rfl
theorem k_spec_l19Element : okC Try.f51.ntmps (cutL []) (bodyOf Try.f51) = true := by kernel_rfl
theorem m_spec_l19Element (f : SetFunctorD) (x : Int) (e : Int) (hok : allP (okL c_spec_l19Element.args (f, x, e, ()))) (hpre : allP (c_spec_l19Element.pre (f, x, e, ()))) : W_spec_l19Element f x e (fun r => r = c_spec_l19Element.res (f, x, e, ())) := by
  simp only [c_spec_l19Element, okL, T.oks, T.ok, ap, allP, true_and, and_true, implies_true] at hok hpre
  try dsimp only [T.den] at hok
  try dsimp only [T.den] at hpre
  unfold W_spec_l19Element
  have S : SfP f := hpre
  have hlz := S.lz
  grind [cnd, nb_eq, inK64, c_spec_l19Element, elemR]
theorem ct_spec_l19Element : CtOk Try.prog 51 c_spec_l19Element :=
  ct_by (Φ := lkp [(41, c_spec_l02Object)]) (good_cons ct_spec_l02Object good_nil) tab_ok (by kernel_rfl) (fn := Try.f51) (c := bodyOf Try.f51) (by kernel_rfl) (by kernel_rfl) (by kernel_rfl) c_spec_l19Element rfl .n (cutL []) (by kernel_rfl) (by kernel_rfl) k_spec_l19Element (by decide) (fun x K => W_spec_l19Element x.1 x.2.1 x.2.2.1 K) w_spec_l19Element (fun x h1 h2 => m_spec_l19Element x.1 x.2.1 x.2.2.1 h1 h2)
def marksR (f : SetFunctorD) (p : List (List Int)) : List (List Bool) := tabN f.2.1.length fun x => tabN (f.2.1.getD x.toNat 0).toNat fun e => mem2 p x e
/-- rows, by their places -/
def tab2 {α : Type} (n : Nat) (z : Int → Int) (G : Int → Int → α) : List (List α) := tabN n fun x => tabN (z x).toNat (G x)
theorem tab2_row {α : Type} {n : Nat} {z : Int → Int} {G : Int → Int → α} {x : Int} (h0 : 0 ≤ x) (h1 : x < n) : (tab2 n z G).getD x.toNat [] = tabN (z x).toNat (G x) := tabN_get h0 h1
theorem tab2_get {α : Type} {n : Nat} {z : Int → Int} {G : Int → Int → α} {x e : Int} {d : α} (h0 : 0 ≤ x) (h1 : x < n) (e0 : 0 ≤ e) (e1 : e < z x) : ((tab2 n z G).getD x.toNat []).getD e.toNat d = G x e := by
  rw [tab2_row h0 h1]; exact tabN_get e0 (by omega)
theorem tab2_congr {α : Type} {n : Nat} {z : Int → Int} {G H : Int → Int → α} (h : ∀ x e : Int, 0 ≤ x → x < n → 0 ≤ e → e < z x → G x e = H x e) : tab2 n z G = tab2 n z H :=
  tabN_congr fun x h0 h1 => tabN_congr fun e e0 e1 => h x e h0 h1 e0 (by omega)
theorem tab2_set {α : Type} {n : Nat} {z : Int → Int} {G : Int → Int → α} {x e : Int} {b : α} (h0 : 0 ≤ x) (h1 : x < n) (e0 : 0 ≤ e) (e1 : e < z x) :
    (tab2 n z G).set x.toNat (((tab2 n z G).getD x.toNat []).set e.toNat b) = tab2 n z fun y d => if y = x ∧ d = e then b else G y d := by
  rw [tab2_row h0 h1, tab_set e0 (by omega)]
  unfold tab2
  rw [tab_set h0 h1]
  refine tabN_congr fun y _ _ => ?_
  by_cases hy : y = x
  · subst hy; rw [if_pos rfl]; exact tabN_congr fun d _ _ => by simp
  · rw [if_neg hy]; exact tabN_congr fun d _ _ => by simp [hy]
theorem tab2_len {α : Type} {n : Nat} {z : Int → Int} {G : Int → Int → α} : (tab2 n z G).length = n := tabN_len n

def c_spec_l26Marks : Ct := ⟨[SetFunctorT, (.sl (.sl (.int .i64)))], [true, false], fun x => [SfP x.1, PrtP x.1 x.2.1], [(false, (.sl (.sl (.fz .bool))))], fun x => (marksR x.1 x.2.1, ()), false, none⟩
def W_spec_l26Marks (f : SetFunctorD) (members : List (List Int)) (K : (List (List Bool)) × Unit → Prop) : Prop := (loopW (S := ((Unit × (Int × Unit)) × ((List (List Bool)) × Unit))) (fun s => (fun next => ((inK IntKind.i64 s.1.2.1) → ((T.ok (T.sl (T.sl T.bool)) s.2.1) → (cnd (decide (s.1.2.1 < (((List.length f.2.1) : Nat) : Int))) (((0 : Int) ≤ s.1.2.1) ∧ ((s.1.2.1 < (((List.length f.2.1) : Nat) : Int)) ∧ (((0 : Int) ≤ (List.getD f.2.1 (Int.toNat s.1.2.1) (0 : Int))) ∧ (((List.getD f.2.1 (Int.toNat s.1.2.1) (0 : Int)) ≤ (List.getD f.2.1 (Int.toNat s.1.2.1) (0 : Int))) ∧ (((List.getD f.2.1 (Int.toNat s.1.2.1) (0 : Int)) ≤ ((140737488355328 : Nat) : Int)) ∧ ((((List.getD f.2.1 (Int.toNat s.1.2.1) (0 : Int)) * ((1 : Nat) : Int)) ≤ ((140737488355328 : Nat) : Int)) ∧ (loopW (S := ((Unit × (Unit × (Int × Unit))) × ((List (List Bool)) × ((List Bool) × Unit)))) (fun s1 => (fun next1 => ((inK IntKind.i64 s1.1.2.2.1) → ((T.ok (T.sl (T.sl T.bool)) s1.2.1) → ((T.ok (T.sl T.bool) s1.2.2.1) → (((0 : Int) ≤ s.1.2.1) ∧ ((s.1.2.1 < (((List.length members) : Nat) : Int)) ∧ (cnd (decide (s1.1.2.2.1 < (((List.length (List.getD members (Int.toNat s.1.2.1) ([] : List Int))) : Nat) : Int))) (((0 : Int) ≤ s.1.2.1) ∧ ((s.1.2.1 < (((List.length members) : Nat) : Int)) ∧ (((0 : Int) ≤ s1.1.2.2.1) ∧ ((s1.1.2.2.1 < (((List.length (List.getD members (Int.toNat s.1.2.1) ([] : List Int))) : Nat) : Int)) ∧ (((0 : Int) ≤ (List.getD (List.getD members (Int.toNat s.1.2.1) ([] : List Int)) (Int.toNat s1.1.2.2.1) (0 : Int))) ∧ (((List.getD (List.getD members (Int.toNat s.1.2.1) ([] : List Int)) (Int.toNat s1.1.2.2.1) (0 : Int)) < (((List.length s1.2.2.1) : Nat) : Int)) ∧ ((inK IntKind.i64 (s1.1.2.2.1 + (1 : Int))) ∧ (next1 (((), ((), ((s1.1.2.2.1 + (1 : Int)), ()))), (s1.2.1, ((List.set s1.2.2.1 (Int.toNat (List.getD (List.getD members (Int.toNat s.1.2.1) ([] : List Int)) (Int.toNat s1.1.2.2.1) (0 : Int))) Bool.true), ()))))))))))) ((room (List.length s1.2.1) (List.length (s1.2.2.1 :: ([] : List (List Bool)))) 24) ∧ ((inK IntKind.i64 (s.1.2.1 + (1 : Int))) ∧ (next (((), ((s.1.2.1 + (1 : Int)), ())), ((s1.2.1 ++ (s1.2.2.1 :: ([] : List (List Bool)))), ()))))))))))))) (((), ((), ((0 : Int), ()))), (s.2.1, ((List.replicate (Int.toNat (List.getD f.2.1 (Int.toNat s.1.2.1) (0 : Int))) Bool.false), ())))))))))) (K (s.2.1, ()))))))) (((), ((0 : Int), ())), (([] : List (List Bool)), ())))
theorem w_spec_l26Marks (x : denL c_spec_l26Marks.args) (K : (List (List Bool)) × Unit → Prop) : evF tab (lkp []) (cutL []) Try.f76 (bodyOf Try.f76) (.s .n (.s .n (.s (.s .n (.l [(5, (.ref 800005 [])), (6, (.d (.int .i64)))] [(800005, (.sl (.sl (.fz .bool))))] [1, 2] (.s .n (.s (.s .n (.s (.s .n (.l [(5, (.ref 800005 [])), (7, (.ref 22 [])), (8, (.d (.int .i64)))] [(800005, (.sl (.sl (.fz .bool)))), (22, (.sl (.fz .bool)))] [1, 2, 6] .n)) .n)) .n)))) .n))) c_spec_l26Marks x K = W_spec_l26Marks x.1 x.2.1 K := by kernel_rfl
theorem k_spec_l26Marks : okC Try.f76.ntmps (cutL []) (bodyOf Try.f76) = true := by kernel_rfl
theorem m_spec_l26Marks (f : SetFunctorD) (members : List (List Int)) (hok : allP (okL c_spec_l26Marks.args (f, members, ()))) (hpre : allP (c_spec_l26Marks.pre (f, members, ()))) : W_spec_l26Marks f members (fun r => r = c_spec_l26Marks.res (f, members, ())) := by
  simp only [c_spec_l26Marks, okL, T.oks, T.ok, ap, allP, true_and, and_true, implies_true] at hok hpre
  try dsimp only [T.den] at hok
  try dsimp only [T.den] at hpre
  unfold W_spec_l26Marks
  obtain ⟨S, hp⟩ := hpre
  have hlz := S.lz
  have hob := (cat_shape S.cat).ob
  have hpl := hp.l
  refine loop_of (fun (s : ((Unit × (Int × Unit)) × ((List (List Bool)) × Unit))) => 0 ≤ s.1.2.1 ∧ s.1.2.1 ≤ f.2.1.length ∧ s.2.1 = tabN s.1.2.1.toNat fun x => tabN (f.2.1.getD x.toNat 0).toNat fun e => mem2 members x e) (fun (s : ((Unit × (Int × Unit)) × ((List (List Bool)) × Unit))) => (f.2.1.length - s.1.2.1).toNat) ?_ ⟨by simp, by simp, rfl⟩
  rintro ⟨⟨_, i, _⟩, L, _⟩ next ⟨h0, h1, h2⟩ hn hin _
  try dsimp only at h0 h1 h2 hn ⊢
  refine cnd_d (fun hc => ?_) (fun hc => ?_)
  · have hz := S.size h0 (by omega)
    have hL : L.length = i.toNat := by rw [h2, tabN_len]
    have hrow := (hok.2.2.2.2.2.2.2.2 _ (getD_mem members [] h0 (by omega))).1
    simp only [nb_eq] at hrow
    refine ⟨h0, hc, hz.1, Int.le_refl _, by omega, by omega, ?_⟩
    refine loop_of (fun (s : ((Unit × (Unit × (Int × Unit))) × ((List (List Bool)) × ((List Bool) × Unit)))) => s.2.1 = L ∧ 0 ≤ s.1.2.2.1 ∧ s.1.2.2.1 ≤ (members.getD i.toNat []).length ∧ s.2.2.1 = tabN (f.2.1.getD i.toNat 0).toNat fun e => ((members.getD i.toNat []).take s.1.2.2.1.toNat).any (fun y => y == e)) (fun (s : ((Unit × (Unit × (Int × Unit))) × ((List (List Bool)) × ((List Bool) × Unit)))) => ((members.getD i.toNat []).length - s.1.2.2.1).toNat) ?_ ⟨rfl, by simp, by simp, by simp [tab_rep]⟩
    rintro ⟨⟨_, _, j, _⟩, L', R, _⟩ next1 ⟨k0, k1, k2, k3⟩ hn1 hin1 _ _
    try dsimp only at k0 k1 k2 k3 hn1 ⊢
    subst k0
    refine ⟨h0, by omega, cnd_d (fun hd => ?_) (fun hd => ?_)⟩
    · have he := within_iff.1 (hp.w i h0 (by omega)) j k1 hd
      have hR : R.length = (f.2.1.getD i.toNat 0).toNat := by rw [k3, tabN_len]
      refine ⟨h0, by omega, k1, hd, he.1, by omega, by rw [inK64]; (try dsimp only); omega, hn1 _ ⟨rfl, (by first | omega | (dsimp only; omega)), (by first | omega | (dsimp only; omega)), ?_⟩ (by first | omega | (dsimp only; omega))⟩
      try dsimp only
      rw [k3, tab_mark he.1 (by omega)]
      refine tabN_congr fun e _ _ => ?_
      rw [any_take (p := fun y => y == e) (members.getD i.toNat []) 0 k1 hd]
    · refine ⟨room_of (by simp only [List.length_cons, List.length_nil]; omega), by rw [inK64]; (try dsimp only); omega, hn _ ⟨(by first | omega | (dsimp only; omega)), (by first | omega | (dsimp only; omega)), ?_⟩ (by first | omega | (dsimp only; omega))⟩
      try dsimp only
      rw [tabN_s h0, ← h2, k3, List.take_of_length_le (by omega)]
      rfl
  · have hi : i = f.2.1.length := by omega
    simp only [c_spec_l26Marks, marksR]; rw [h2, hi]; simp
theorem ct_spec_l26Marks : CtOk Try.prog 76 c_spec_l26Marks :=
  ct_by (Φ := lkp []) good_nil tab_ok (by kernel_rfl) (fn := Try.f76) (c := bodyOf Try.f76) (by kernel_rfl) (by kernel_rfl) (by kernel_rfl) c_spec_l26Marks rfl (.s .n (.s .n (.s (.s .n (.l [(5, (.ref 800005 [])), (6, (.d (.int .i64)))] [(800005, (.sl (.sl (.fz .bool))))] [1, 2] (.s .n (.s (.s .n (.s (.s .n (.l [(5, (.ref 800005 [])), (7, (.ref 22 [])), (8, (.d (.int .i64)))] [(800005, (.sl (.sl (.fz .bool)))), (22, (.sl (.fz .bool)))] [1, 2, 6] .n)) .n)) .n)))) .n))) (cutL []) (by kernel_rfl) (by kernel_rfl) k_spec_l26Marks (by decide) (fun x K => W_spec_l26Marks x.1 x.2.1 K) w_spec_l26Marks (fun x h1 h2 => m_spec_l26Marks x.1 x.2.1 h1 h2)
def orbB (f : SetFunctorD) (x e y d : Int) : Nat → Bool
  | 0 => false
  | n + 1 => orbB f x e y d n || (f.1.2.1.getD n 0 == x && f.1.2.2.1.getD n 0 == y && actR f n e == d)
theorem orb_s {f : SetFunctorD} {x e y d a : Int} (h0 : 0 ≤ a) : orbB f x e y d (a + 1).toNat = (orbB f x e y d a.toNat || (f.1.2.1.getD a.toNat 0 == x && f.1.2.2.1.getD a.toNat 0 == y && actR f a e == d)) := by
  rw [show (a + 1).toNat = a.toNat + 1 from by omega, orbB, show ((a.toNat : Nat) : Int) = a from by omega]
def orbTR (f : SetFunctorD) (x e : Int) : List (List Bool) := tab2 f.2.1.length (fun y => f.2.1.getD y.toNat 0) fun y d => orbB f x e y d f.2.2.length

def c_spec_l19Orbit : Ct := ⟨[SetFunctorT, (.int .i64), (.int .i64)], [true, false, false], fun x => [SfP x.1, elemR x.1 x.2.1 x.2.2.1 = true], [(false, (.sl (.sl (.fz .bool))))], fun x => (orbTR x.1 x.2.1 x.2.2.1, ()), false, none⟩
def W_spec_l19Orbit (f : SetFunctorD) (x : Int) (e : Int) (K : (List (List Bool)) × Unit → Prop) : Prop := (loopW (S := ((Unit × (Int × Unit)) × ((List (List Bool)) × Unit))) (fun s => (fun next => ((inK IntKind.i64 s.1.2.1) → ((T.ok (T.sl (T.sl T.bool)) s.2.1) → (cnd (decide (s.1.2.1 < f.1.1)) (((0 : Int) ≤ s.1.2.1) ∧ ((s.1.2.1 < (((List.length f.2.1) : Nat) : Int)) ∧ (((0 : Int) ≤ (List.getD f.2.1 (Int.toNat s.1.2.1) (0 : Int))) ∧ (((List.getD f.2.1 (Int.toNat s.1.2.1) (0 : Int)) ≤ (List.getD f.2.1 (Int.toNat s.1.2.1) (0 : Int))) ∧ (((List.getD f.2.1 (Int.toNat s.1.2.1) (0 : Int)) ≤ ((140737488355328 : Nat) : Int)) ∧ ((((List.getD f.2.1 (Int.toNat s.1.2.1) (0 : Int)) * ((1 : Nat) : Int)) ≤ ((140737488355328 : Nat) : Int)) ∧ ((room (List.length s.2.1) (List.length ((List.replicate (Int.toNat (List.getD f.2.1 (Int.toNat s.1.2.1) (0 : Int))) Bool.false) :: ([] : List (List Bool)))) 24) ∧ ((inK IntKind.i64 (s.1.2.1 + (1 : Int))) ∧ (next (((), ((s.1.2.1 + (1 : Int)), ())), ((s.2.1 ++ ((List.replicate (Int.toNat (List.getD f.2.1 (Int.toNat s.1.2.1) (0 : Int))) Bool.false) :: ([] : List (List Bool)))), ()))))))))))) (loopW (S := ((Unit × (Int × Unit)) × ((List (List Bool)) × Unit))) (fun s1 => (fun next1 => ((inK IntKind.i64 s1.1.2.1) → ((T.ok (T.sl (T.sl T.bool)) s1.2.1) → (cnd (decide (s1.1.2.1 < (((List.length f.2.2) : Nat) : Int))) (((0 : Int) ≤ s1.1.2.1) ∧ ((s1.1.2.1 < (((List.length f.1.2.1) : Nat) : Int)) ∧ (joinW (S := ((Unit × Unit) × ((List (List Bool)) × Unit))) (fun s2 => ((T.ok (T.sl (T.sl T.bool)) s2.2.1) → ((inK IntKind.i64 (s1.1.2.1 + (1 : Int))) ∧ (next1 (((), ((s1.1.2.1 + (1 : Int)), ())), (s2.2.1, ())))))) (fun k => (cnd ((List.getD f.1.2.1 (Int.toNat s1.1.2.1) (0 : Int)) == x) (((0 : Int) ≤ s1.1.2.1) ∧ ((s1.1.2.1 < (((List.length f.1.2.2.1) : Nat) : Int)) ∧ (((0 : Int) ≤ (List.getD f.1.2.2.1 (Int.toNat s1.1.2.1) (0 : Int))) ∧ (((List.getD f.1.2.2.1 (Int.toNat s1.1.2.1) (0 : Int)) < (((List.length s1.2.1) : Nat) : Int)) ∧ (((0 : Int) ≤ s1.1.2.1) ∧ ((s1.1.2.1 < (((List.length f.2.2) : Nat) : Int)) ∧ (((0 : Int) ≤ e) ∧ ((e < (((List.length (List.getD f.2.2 (Int.toNat s1.1.2.1) ([] : List Int))) : Nat) : Int)) ∧ (((0 : Int) ≤ (List.getD (List.getD f.2.2 (Int.toNat s1.1.2.1) ([] : List Int)) (Int.toNat e) (0 : Int))) ∧ (((List.getD (List.getD f.2.2 (Int.toNat s1.1.2.1) ([] : List Int)) (Int.toNat e) (0 : Int)) < (((List.length (List.getD s1.2.1 (Int.toNat (List.getD f.1.2.2.1 (Int.toNat s1.1.2.1) (0 : Int))) ([] : List Bool))) : Nat) : Int)) ∧ (k (((), ()), ((List.set s1.2.1 (Int.toNat (List.getD f.1.2.2.1 (Int.toNat s1.1.2.1) (0 : Int))) (List.set (List.getD s1.2.1 (Int.toNat (List.getD f.1.2.2.1 (Int.toNat s1.1.2.1) (0 : Int))) ([] : List Bool)) (Int.toNat (List.getD (List.getD f.2.2 (Int.toNat s1.1.2.1) ([] : List Int)) (Int.toNat e) (0 : Int))) Bool.true)), ()))))))))))))) (k (((), ()), (s1.2.1, ())))))))) (K (s1.2.1, ()))))))) (((), ((0 : Int), ())), (s.2.1, ())))))))) (((), ((0 : Int), ())), (([] : List (List Bool)), ())))
theorem w_spec_l19Orbit (x : denL c_spec_l19Orbit.args) (K : (List (List Bool)) × Unit → Prop) : evF tab (lkp []) (cutL [(10, 17)]) Try.f78 (bodyOf Try.f78) (.s .n (.s .n (.s (.s .n (.l [(7, (.ref 800007 [])), (8, (.d (.int .i64)))] [(800007, (.sl (.sl (.fz .bool))))] [1, 2, 3] .n)) (.s (.s .n (.l [(7, (.ref 800007 [])), (9, (.d (.int .i64)))] [(800007, (.sl (.sl (.fz .bool))))] [1, 2, 3] (.s .n (.s (.s .n (.j [(7, (.ref 800007 []))] [(800007, (.sl (.sl (.fz .bool))))] [1, 2, 3, 9] .n)) .n)))) .n)))) c_spec_l19Orbit x K = W_spec_l19Orbit x.1 x.2.1 x.2.2.1 K := by kernel_rfl
theorem k_spec_l19Orbit : okC Try.f78.ntmps (cutL [(10, 17)]) (bodyOf Try.f78) = true := by kernel_rfl
theorem m_spec_l19Orbit (f : SetFunctorD) (x : Int) (e : Int) (hok : allP (okL c_spec_l19Orbit.args (f, x, e, ()))) (hpre : allP (c_spec_l19Orbit.pre (f, x, e, ()))) : W_spec_l19Orbit f x e (fun r => r = c_spec_l19Orbit.res (f, x, e, ())) := by
  simp only [c_spec_l19Orbit, okL, T.oks, T.ok, ap, allP, true_and, and_true, implies_true] at hok hpre
  try dsimp only [T.den] at hok
  try dsimp only [T.den] at hpre
  unfold W_spec_l19Orbit
  obtain ⟨S, he⟩ := hpre
  simp only [elemR, Bool.and_eq_true, decide_eq_true_eq] at he
  obtain ⟨⟨⟨x0, x1⟩, e0⟩, e1⟩ := he
  have C := cat_shape S.cat
  have hob := C.ob
  have hmm := C.m
  have hlt := C.lt
  have hlz := S.lz
  have hla := S.la
  have hz := fun y y0 y1 => @SfP.size f S y y0 y1
  clear hok
  refine loop_of (fun (s : ((Unit × (Int × Unit)) × ((List (List Bool)) × Unit))) => 0 ≤ s.1.2.1 ∧ s.1.2.1 ≤ f.2.1.length ∧ s.2.1 = tabN s.1.2.1.toNat fun y => tabN (f.2.1.getD y.toNat 0).toNat fun _ => false) (fun (s : ((Unit × (Int × Unit)) × ((List (List Bool)) × Unit))) => (f.2.1.length - s.1.2.1).toNat) ?_ ⟨by simp, by simp, rfl⟩
  rintro ⟨⟨_, y, _⟩, L, _⟩ next ⟨y0, y1, hq⟩ hnx _ _
  try dsimp only at y0 y1 hq hnx ⊢
  subst hq
  refine cnd_d (fun hc => ?_) (fun hc => ?_)
  · have h := hz y y0 hc
    refine ⟨y0, by omega, h.1, Int.le_refl _, by omega, by omega, room_of (by rw [tabN_len]; simp only [List.length_cons, List.length_nil]; omega), by rw [inK64]; (try dsimp only); omega, hnx _ ⟨(by first | omega | (dsimp only; omega)), (by first | omega | (dsimp only; omega)), ?_⟩ (by first | omega | (dsimp only; omega))⟩
    try dsimp only; rw [tabN_s y0, tab_rep]
  have ey : y = f.2.1.length := by omega
  subst ey
  rw [Int.toNat_natCast]
  refine loop_ixa (fun a => tab2 f.2.1.length (fun y => f.2.1.getD y.toNat 0) fun y d => orbB f x e y d a.toNat) (n := f.2.2.length) (by omega) rfl ?_ ?_
  · intro a next a0 a1 hnx2 _ _
    try dsimp only
    simp only [orb_s a0] at hnx2
    have hfr := C.frm a0 (by omega)
    have hz2 := hz _ hfr.2.2.1 hfr.2.2.2
    have hact := S.act a a0 (by omega)
    refine cnd_d (fun _ => ⟨a0, by omega, ?_⟩) (fun h => absurd a1 h)
    refine join_of (fun s2 => s2.2.1 = tab2 f.2.1.length (fun y => f.2.1.getD y.toNat 0) fun y d => orbB f x e y d a.toNat || (f.1.2.1.getD a.toNat 0 == x && f.1.2.2.1.getD a.toNat 0 == y && actR f a e == d)) (fun s2 hs _ => ⟨by rw [inK64]; (try dsimp only); omega, by rw [hs]; exact hnx2⟩) (fun k hk => cnd_of (fun hx => ?_) (fun hx => hk _ ?_))
    · rw [beq_iff_eq] at hx
      have hl : e < (f.2.2.getD a.toNat []).length := by rw [hact.1, hx]; exact e1
      have hd := within_iff.1 hact.2 e e0 hl
      refine ⟨a0, by omega, hfr.2.2.1, by rw [tab2_len]; omega, a0, by omega, e0, hl, hd.1, by rw [tab2_row hfr.2.2.1 (by omega), tabN_len]; omega, hk _ ?_⟩
      try dsimp only
      rw [tab2_set hfr.2.2.1 (by omega) hd.1 hd.2]
      refine tab2_congr fun y d _ _ _ _ => ?_
      rw [hx, beq_self_eq_true, Bool.true_and]
      have ha : actR f a e = (f.2.2.getD a.toNat []).getD e.toNat 0 := rfl
      rw [ha]
      by_cases hh : y = f.1.2.2.1.getD a.toNat 0 ∧ d = (f.2.2.getD a.toNat []).getD e.toNat 0
      · rw [if_pos hh, hh.1, hh.2]; simp
      · rw [if_neg hh]
        have : (f.1.2.2.1.getD a.toNat 0 == y && (f.2.2.getD a.toNat []).getD e.toNat 0 == d) = false := by
          rw [Bool.and_eq_false_iff, beq_eq_false_iff_ne, beq_eq_false_iff_ne]
          by_cases h1 : f.1.2.2.1.getD a.toNat 0 = y
          · exact .inr fun h2 => hh ⟨h1.symm, h2.symm⟩
          · exact .inl h1
        rw [this, Bool.or_false]
    · exact tab2_congr fun y d _ _ _ _ => by rw [hx, Bool.false_and, Bool.false_and, Bool.or_false]
  · intro next _ _
    refine cnd_d (fun h => absurd h (Int.lt_irrefl _)) (fun _ => ?_)
    simp only [c_spec_l19Orbit, orbTR, Int.toNat_natCast]
theorem ct_spec_l19Orbit : CtOk Try.prog 78 c_spec_l19Orbit :=
  ct_by (Φ := lkp []) good_nil tab_ok (by kernel_rfl) (fn := Try.f78) (c := bodyOf Try.f78) (by kernel_rfl) (by kernel_rfl) (by kernel_rfl) c_spec_l19Orbit rfl (.s .n (.s .n (.s (.s .n (.l [(7, (.ref 800007 [])), (8, (.d (.int .i64)))] [(800007, (.sl (.sl (.fz .bool))))] [1, 2, 3] .n)) (.s (.s .n (.l [(7, (.ref 800007 [])), (9, (.d (.int .i64)))] [(800007, (.sl (.sl (.fz .bool))))] [1, 2, 3] (.s .n (.s (.s .n (.j [(7, (.ref 800007 []))] [(800007, (.sl (.sl (.fz .bool))))] [1, 2, 3, 9] .n)) .n)))) .n)))) (cutL [(10, 17)]) (by kernel_rfl) (by kernel_rfl) k_spec_l19Orbit (by decide) (fun x K => W_spec_l19Orbit x.1 x.2.1 x.2.2.1 K) w_spec_l19Orbit (fun x h1 h2 => m_spec_l19Orbit x.1 x.2.1 x.2.2.1 h1 h2)
def c_spec_l26Empty : Ct := ⟨[SetFunctorT], [true], fun x => [SfP x.1], [(false, (.sl (.sl (.fz (.int .i64)))))], fun x => (emptyR x.1, ()), false, none⟩
def W_spec_l26Empty (f : SetFunctorD) (K : (List (List Int)) × Unit → Prop) : Prop := (loopW (S := ((Unit × (Int × Unit)) × ((List (List Int)) × Unit))) (fun s => (fun next => ((inK IntKind.i64 s.1.2.1) → ((T.ok (T.sl (T.sl (T.int IntKind.i64))) s.2.1) → (cnd (decide (s.1.2.1 < (((List.length f.2.1) : Nat) : Int))) ((room (List.length s.2.1) (List.length (([] : List Int) :: ([] : List (List Int)))) 24) ∧ ((inK IntKind.i64 (s.1.2.1 + (1 : Int))) ∧ (next (((), ((s.1.2.1 + (1 : Int)), ())), ((s.2.1 ++ (([] : List Int) :: ([] : List (List Int)))), ()))))) (K (s.2.1, ()))))))) (((), ((0 : Int), ())), (([] : List (List Int)), ())))
theorem w_spec_l26Empty (x : denL c_spec_l26Empty.args) (K : (List (List Int)) × Unit → Prop) : evF tab (lkp []) (cutL []) Try.f77 (bodyOf Try.f77) (.s .n (.s .n (.s (.s .n (.l [(3, (.ref 800003 [])), (4, (.d (.int .i64)))] [(800003, (.sl (.sl (.fz (.int .i64)))))] [1] .n)) .n))) c_spec_l26Empty x K = W_spec_l26Empty x.1 K := by kernel_rfl
theorem k_spec_l26Empty : okC Try.f77.ntmps (cutL []) (bodyOf Try.f77) = true := by kernel_rfl
theorem m_spec_l26Empty (f : SetFunctorD) (hok : allP (okL c_spec_l26Empty.args (f, ()))) (hpre : allP (c_spec_l26Empty.pre (f, ()))) : W_spec_l26Empty f (fun r => r = c_spec_l26Empty.res (f, ())) := by
  simp only [c_spec_l26Empty, okL, T.oks, T.ok, ap, allP, true_and, and_true, implies_true] at hok hpre
  try dsimp only [T.den] at hok
  try dsimp only [T.den] at hpre
  unfold W_spec_l26Empty
  refine loop_of (fun (s : ((Unit × (Int × Unit)) × ((List (List Int)) × Unit))) => 0 ≤ s.1.2.1 ∧ s.1.2.1 ≤ f.2.1.length ∧ s.2.1 = tabN s.1.2.1.toNat fun _ => []) (fun (s : ((Unit × (Int × Unit)) × ((List (List Int)) × Unit))) => (f.2.1.length - s.1.2.1).toNat) ?_ ⟨by simp, by simp, rfl⟩
  rintro ⟨⟨_, i, _⟩, L, _⟩ next ⟨h0, h1, h2⟩ hn hin _
  try dsimp only at h0 h1 h2 hn ⊢
  have S : SfP f := hpre
  have hlz := S.lz
  have hob := (cat_shape S.cat).ob
  have hL : L.length = i.toNat := by rw [h2, tabN_len]
  refine cnd_d (fun hc => ⟨room_of (by simp only [List.length_cons, List.length_nil]; omega), by rw [inK64]; (try dsimp only); omega, hn _ ⟨(by first | omega | (dsimp only; omega)), (by first | omega | (dsimp only; omega)), ?_⟩ (by first | omega | (dsimp only; omega))⟩) (fun hc => ?_)
  · try dsimp only; rw [tabN_s h0, ← h2]
  · have hi : i = f.2.1.length := by omega
    simp only [c_spec_l26Empty, emptyR]; rw [h2, hi]; simp
theorem ct_spec_l26Empty : CtOk Try.prog 77 c_spec_l26Empty :=
  ct_by (Φ := lkp []) good_nil tab_ok (by kernel_rfl) (fn := Try.f77) (c := bodyOf Try.f77) (by kernel_rfl) (by kernel_rfl) (by kernel_rfl) c_spec_l26Empty rfl (.s .n (.s .n (.s (.s .n (.l [(3, (.ref 800003 [])), (4, (.d (.int .i64)))] [(800003, (.sl (.sl (.fz (.int .i64)))))] [1] .n)) .n))) (cutL []) (by kernel_rfl) (by kernel_rfl) k_spec_l26Empty (by decide) (fun x K => W_spec_l26Empty x.1 K) w_spec_l26Empty (fun x h1 h2 => m_spec_l26Empty x.1 h1 h2)
/-- few and short rows -/
structure SmallM (m : List (List Bool)) : Prop where
  l : m.length ≤ 1000
  r : ∀ r ∈ m, r.length ≤ 1000
def markedR (m : List (List Bool)) : List (List Int) := m.map fun r => selR r.length fun e => r.getD e.toNat false

def c_spec_l26Marked : Ct := ⟨[(.sl (.sl .bool))], [false], fun x => [SmallM x.1], [(false, (.sl (.sl (.fz (.int .i64)))))], fun x => (markedR x.1, ()), false, none⟩
def W_spec_l26Marked (marks : List (List Bool)) (K : (List (List Int)) × Unit → Prop) : Prop := (loopW (S := ((Unit × (Int × Unit)) × ((List (List Int)) × Unit))) (fun s => (fun next => ((inK IntKind.i64 s.1.2.1) → ((T.ok (T.sl (T.sl (T.int IntKind.i64))) s.2.1) → (cnd (decide (s.1.2.1 < (((List.length marks) : Nat) : Int))) (loopW (S := ((Unit × (Unit × (Int × Unit))) × ((List (List Int)) × ((List Int) × Unit)))) (fun s1 => (fun next1 => ((inK IntKind.i64 s1.1.2.2.1) → ((T.ok (T.sl (T.sl (T.int IntKind.i64))) s1.2.1) → ((T.ok (T.sl (T.int IntKind.i64)) s1.2.2.1) → (((0 : Int) ≤ s.1.2.1) ∧ ((s.1.2.1 < (((List.length marks) : Nat) : Int)) ∧ (cnd (decide (s1.1.2.2.1 < (((List.length (List.getD marks (Int.toNat s.1.2.1) ([] : List Bool))) : Nat) : Int))) (((0 : Int) ≤ s.1.2.1) ∧ ((s.1.2.1 < (((List.length marks) : Nat) : Int)) ∧ (((0 : Int) ≤ s1.1.2.2.1) ∧ ((s1.1.2.2.1 < (((List.length (List.getD marks (Int.toNat s.1.2.1) ([] : List Bool))) : Nat) : Int)) ∧ (joinW (S := ((Unit × (Unit × Unit)) × ((List (List Int)) × ((List Int) × Unit)))) (fun s2 => ((T.ok (T.sl (T.sl (T.int IntKind.i64))) s2.2.1) → ((T.ok (T.sl (T.int IntKind.i64)) s2.2.2.1) → ((inK IntKind.i64 (s1.1.2.2.1 + (1 : Int))) ∧ (next1 (((), ((), ((s1.1.2.2.1 + (1 : Int)), ()))), (s2.2.1, (s2.2.2.1, ())))))))) (fun k => (cnd (List.getD (List.getD marks (Int.toNat s.1.2.1) ([] : List Bool)) (Int.toNat s1.1.2.2.1) Bool.false) ((room (List.length s1.2.2.1) (List.length (s1.1.2.2.1 :: ([] : List Int))) 8) ∧ (k (((), ((), ())), (s1.2.1, ((s1.2.2.1 ++ (s1.1.2.2.1 :: ([] : List Int))), ()))))) (k (((), ((), ())), (s1.2.1, (s1.2.2.1, ()))))))))))) ((room (List.length s1.2.1) (List.length (s1.2.2.1 :: ([] : List (List Int)))) 24) ∧ ((inK IntKind.i64 (s.1.2.1 + (1 : Int))) ∧ (next (((), ((s.1.2.1 + (1 : Int)), ())), ((s1.2.1 ++ (s1.2.2.1 :: ([] : List (List Int)))), ()))))))))))))) (((), ((), ((0 : Int), ()))), (s.2.1, (([] : List Int), ())))) (K (s.2.1, ()))))))) (((), ((0 : Int), ())), (([] : List (List Int)), ())))
theorem w_spec_l26Marked (x : denL c_spec_l26Marked.args) (K : (List (List Int)) × Unit → Prop) : evF tab (lkp []) (cutL []) Try.f79 (bodyOf Try.f79) (.s .n (.s .n (.s (.s .n (.l [(3, (.ref 800003 [])), (4, (.d (.int .i64)))] [(800003, (.sl (.sl (.fz (.int .i64)))))] [0] (.s .n (.s (.s .n (.s (.s .n (.l [(3, (.ref 800003 [])), (5, (.ref 800005 [])), (6, (.d (.int .i64)))] [(800003, (.sl (.sl (.fz (.int .i64))))), (800005, (.sl (.fz (.int .i64))))] [0, 4] (.s .n (.s (.s .n (.j [(3, (.ref 800003 [])), (5, (.ref 800005 []))] [(800003, (.sl (.sl (.fz (.int .i64))))), (800005, (.sl (.fz (.int .i64))))] [0, 4, 6] .n)) .n)))) .n)) .n)))) .n))) c_spec_l26Marked x K = W_spec_l26Marked x.1 K := by kernel_rfl
theorem k_spec_l26Marked : okC Try.f79.ntmps (cutL []) (bodyOf Try.f79) = true := by kernel_rfl
theorem m_spec_l26Marked (marks : List (List Bool)) (hok : allP (okL c_spec_l26Marked.args (marks, ()))) (hpre : allP (c_spec_l26Marked.pre (marks, ()))) : W_spec_l26Marked marks (fun r => r = c_spec_l26Marked.res (marks, ())) := by
  simp only [c_spec_l26Marked, okL, T.oks, T.ok, ap, allP, true_and, and_true, implies_true] at hok hpre
  try dsimp only [T.den] at hok
  try dsimp only [T.den] at hpre
  unfold W_spec_l26Marked
  obtain ⟨hm, hr⟩ := hpre
  refine loop_of (fun (s : ((Unit × (Int × Unit)) × ((List (List Int)) × Unit))) => 0 ≤ s.1.2.1 ∧ s.1.2.1 ≤ marks.length ∧ s.2.1 = (marks.take s.1.2.1.toNat).map fun r => selR r.length fun e => r.getD e.toNat false) (fun (s : ((Unit × (Int × Unit)) × ((List (List Int)) × Unit))) => (marks.length - s.1.2.1).toNat) ?_ ⟨by simp, by simp, rfl⟩
  rintro ⟨⟨_, i, _⟩, L, _⟩ next ⟨h0, h1, h2⟩ hn hin _
  try dsimp only at h0 h1 h2 hn ⊢
  refine cnd_d (fun hc => ?_) (fun hc => ?_)
  · have hL : L.length ≤ 1000 := by rw [h2, List.length_map, List.length_take]; omega
    have hrow := hr _ (getD_mem marks [] h0 hc)
    have htk := take_c marks [] h0 hc
    generalize marks.getD i.toNat [] = r at *
    refine loop_of (fun (s : ((Unit × (Unit × (Int × Unit))) × ((List (List Int)) × ((List Int) × Unit)))) => s.2.1 = L ∧ 0 ≤ s.1.2.2.1 ∧ s.1.2.2.1 ≤ r.length ∧ s.2.2.1 = selR s.1.2.2.1.toNat fun e => r.getD e.toNat false) (fun (s : ((Unit × (Unit × (Int × Unit))) × ((List (List Int)) × ((List Int) × Unit)))) => (r.length - s.1.2.2.1).toNat) ?_ ⟨rfl, by simp, by simp, rfl⟩
    rintro ⟨⟨_, _, e, _⟩, L', R, _⟩ next1 ⟨k0, k1, k2, k3⟩ hn1 hin1 _ _
    try dsimp only at k0 k1 k2 k3 hn1 ⊢
    subst k0
    have hR : R.length ≤ e.toNat := by rw [k3]; exact sel_len e.toNat
    refine ⟨h0, by omega, cnd_d (fun hd => ?_) (fun hd => ?_)⟩
    · refine ⟨h0, by omega, k1, hd, ?_⟩
      refine join_of (fun s => s.2.1 = L' ∧ s.2.2.1 = selR (e + 1).toNat fun e => r.getD e.toNat false) (fun s ⟨q0, q1⟩ _ _ => ⟨by rw [inK64]; (try dsimp only); omega, hn1 _ ⟨q0, (by first | omega | (dsimp only; omega)), (by first | omega | (dsimp only; omega)), q1⟩ (by first | omega | (dsimp only; omega))⟩) (fun k hk => cnd_of (fun hx => ⟨room_of (by simp only [List.length_cons, List.length_nil]; omega), hk _ ⟨rfl, ?_⟩⟩) (fun hx => hk _ ⟨rfl, ?_⟩))
      · try dsimp only; rw [sel_t (p := fun e => r.getD e.toNat false) k1 hx, k3]
      · try dsimp only; rw [sel_f (p := fun e => r.getD e.toNat false) k1 hx, k3]
    · have he : e = r.length := by omega
      refine ⟨room_of (by simp only [List.length_cons, List.length_nil]; omega), by rw [inK64]; (try dsimp only); omega, hn _ ⟨(by first | omega | (dsimp only; omega)), (by first | omega | (dsimp only; omega)), ?_⟩ (by first | omega | (dsimp only; omega))⟩
      try dsimp only; rw [htk, List.map_append, ← h2, k3, he]; simp
  · simp only [c_spec_l26Marked, markedR]; rw [h2, List.take_of_length_le (by omega)]
theorem ct_spec_l26Marked : CtOk Try.prog 79 c_spec_l26Marked :=
  ct_by (Φ := lkp []) good_nil tab_ok (by kernel_rfl) (fn := Try.f79) (c := bodyOf Try.f79) (by kernel_rfl) (by kernel_rfl) (by kernel_rfl) c_spec_l26Marked rfl (.s .n (.s .n (.s (.s .n (.l [(3, (.ref 800003 [])), (4, (.d (.int .i64)))] [(800003, (.sl (.sl (.fz (.int .i64)))))] [0] (.s .n (.s (.s .n (.s (.s .n (.l [(3, (.ref 800003 [])), (5, (.ref 800005 [])), (6, (.d (.int .i64)))] [(800003, (.sl (.sl (.fz (.int .i64))))), (800005, (.sl (.fz (.int .i64))))] [0, 4] (.s .n (.s (.s .n (.j [(3, (.ref 800003 [])), (5, (.ref 800005 []))] [(800003, (.sl (.sl (.fz (.int .i64))))), (800005, (.sl (.fz (.int .i64))))] [0, 4, 6] .n)) .n)))) .n)) .n)))) .n))) (cutL []) (by kernel_rfl) (by kernel_rfl) k_spec_l26Marked (by decide) (fun x K => W_spec_l26Marked x.1 K) w_spec_l26Marked (fun x h1 h2 => m_spec_l26Marked x.1 h1 h2)
def impC (f : SetFunctorD) (p q : List (List Int)) (x e a : Int) : Bool := !(f.1.2.1.getD a.toNat 0 == x) || !mem2 p (f.1.2.2.1.getD a.toNat 0) (actR f a e) || mem2 q (f.1.2.2.1.getD a.toNat 0) (actR f a e)
theorem tabN_map {α β : Type} {f : Int → α} {g : α → β} : ∀ n : Nat, (tabN n f).map g = tabN n fun x => g (f x)
  | 0 => rfl
  | n + 1 => by rw [tabN, List.map_append, tabN_map n]; rfl
theorem marked_tab2 {n : Nat} {z : Int → Int} {G : Int → Int → Bool} : markedR (tab2 n z G) = tabN n fun x => selR (z x).toNat (G x) := by
  unfold markedR tab2
  rw [tabN_map]
  exact tabN_congr fun x _ _ => sel_tab

structure GenP (f : SetFunctorD) (l : List (List Int)) : Prop where
  n : l.length ≤ 1099511627776
  e : ∀ k : Int, 0 ≤ k → k < l.length → (l.getD k.toNat []).length = 2 ∧ elemR f ((l.getD k.toNat []).getD 0 0) ((l.getD k.toNat []).getD 1 0) = true
def genB (f : SetFunctorD) (l : List (List Int)) (y d : Int) : Nat → Bool
  | 0 => false
  | n + 1 => genB f l y d n || orbB f ((l.getD n []).getD 0 0) ((l.getD n []).getD 1 0) y d f.2.2.length
theorem gen_s {f : SetFunctorD} {l : List (List Int)} {y d k : Int} (h0 : 0 ≤ k) : genB f l y d (k + 1).toNat = (genB f l y d k.toNat || orbB f ((l.getD k.toNat []).getD 0 0) ((l.getD k.toNat []).getD 1 0) y d f.2.2.length) := by
  rw [show (k + 1).toNat = k.toNat + 1 from by omega, genB]
def genR (f : SetFunctorD) (l : List (List Int)) : List (List Int) := partOfR f fun y d => genB f l y d l.length

def c_spec_l26Close : Ct := ⟨[SetFunctorT, (.sl (.sl (.int .i64)))], [true, false], fun x => [SfP x.1, GenP x.1 x.2.1], [(false, (.sl (.sl (.fz (.int .i64)))))], fun x => (genR x.1 x.2.1, ()), false, none⟩
def W_spec_l26Close (f : SetFunctorD) (elements : List (List Int)) (K : (List (List Int)) × Unit → Prop) : Prop := ((SfP f) ∧ ((SfP f) ∧ ((PrtP f (emptyR f)) ∧ (loopW (S := ((Unit × (Int × Unit)) × ((List (List Bool)) × Unit))) (fun s => (fun next => ((inK IntKind.i64 s.1.2.1) → ((T.ok (T.sl (T.sl T.bool)) s.2.1) → (cnd (decide (s.1.2.1 < (((List.length elements) : Nat) : Int))) (((0 : Int) ≤ s.1.2.1) ∧ ((s.1.2.1 < (((List.length elements) : Nat) : Int)) ∧ (((0 : Int) ≤ (0 : Int)) ∧ (((0 : Int) < (((List.length (List.getD elements (Int.toNat s.1.2.1) ([] : List Int))) : Nat) : Int)) ∧ (((0 : Int) ≤ s.1.2.1) ∧ ((s.1.2.1 < (((List.length elements) : Nat) : Int)) ∧ (((0 : Int) ≤ (1 : Int)) ∧ (((1 : Int) < (((List.length (List.getD elements (Int.toNat s.1.2.1) ([] : List Int))) : Nat) : Int)) ∧ ((SfP f) ∧ (((elemR f (List.getD (List.getD elements (Int.toNat s.1.2.1) ([] : List Int)) (Int.toNat (0 : Int)) (0 : Int)) (List.getD (List.getD elements (Int.toNat s.1.2.1) ([] : List Int)) (Int.toNat (1 : Int)) (0 : Int))) = Bool.true) ∧ (loopW (S := ((Unit × (Int × Unit)) × ((List (List Bool)) × Unit))) (fun s1 => (fun next1 => ((inK IntKind.i64 s1.1.2.1) → ((T.ok (T.sl (T.sl T.bool)) s1.2.1) → (cnd (decide (s1.1.2.1 < (((List.length (orbTR f (List.getD (List.getD elements (Int.toNat s.1.2.1) ([] : List Int)) (Int.toNat (0 : Int)) (0 : Int)) (List.getD (List.getD elements (Int.toNat s.1.2.1) ([] : List Int)) (Int.toNat (1 : Int)) (0 : Int)))) : Nat) : Int))) (loopW (S := ((Unit × (Int × Unit)) × ((List (List Bool)) × Unit))) (fun s2 => (fun next2 => ((inK IntKind.i64 s2.1.2.1) → ((T.ok (T.sl (T.sl T.bool)) s2.2.1) → (((0 : Int) ≤ s1.1.2.1) ∧ ((s1.1.2.1 < (((List.length (orbTR f (List.getD (List.getD elements (Int.toNat s.1.2.1) ([] : List Int)) (Int.toNat (0 : Int)) (0 : Int)) (List.getD (List.getD elements (Int.toNat s.1.2.1) ([] : List Int)) (Int.toNat (1 : Int)) (0 : Int)))) : Nat) : Int)) ∧ (cnd (decide (s2.1.2.1 < (((List.length (List.getD (orbTR f (List.getD (List.getD elements (Int.toNat s.1.2.1) ([] : List Int)) (Int.toNat (0 : Int)) (0 : Int)) (List.getD (List.getD elements (Int.toNat s.1.2.1) ([] : List Int)) (Int.toNat (1 : Int)) (0 : Int))) (Int.toNat s1.1.2.1) ([] : List Bool))) : Nat) : Int))) (((0 : Int) ≤ s1.1.2.1) ∧ ((s1.1.2.1 < (((List.length s2.2.1) : Nat) : Int)) ∧ (((0 : Int) ≤ s1.1.2.1) ∧ ((s1.1.2.1 < (((List.length s2.2.1) : Nat) : Int)) ∧ (((0 : Int) ≤ s2.1.2.1) ∧ ((s2.1.2.1 < (((List.length (List.getD s2.2.1 (Int.toNat s1.1.2.1) ([] : List Bool))) : Nat) : Int)) ∧ ((((List.getD (List.getD s2.2.1 (Int.toNat s1.1.2.1) ([] : List Bool)) (Int.toNat s2.1.2.1) Bool.false) = Bool.false) → ((s1.1.2.1 < (((List.length (orbTR f (List.getD (List.getD elements (Int.toNat s.1.2.1) ([] : List Int)) (Int.toNat (0 : Int)) (0 : Int)) (List.getD (List.getD elements (Int.toNat s.1.2.1) ([] : List Int)) (Int.toNat (1 : Int)) (0 : Int)))) : Nat) : Int)) ∧ ((0 : Int) ≤ s1.1.2.1))) ∧ ((((List.getD (List.getD s2.2.1 (Int.toNat s1.1.2.1) ([] : List Bool)) (Int.toNat s2.1.2.1) Bool.false) = Bool.false) → ((s2.1.2.1 < (((List.length (List.getD (orbTR f (List.getD (List.getD elements (Int.toNat s.1.2.1) ([] : List Int)) (Int.toNat (0 : Int)) (0 : Int)) (List.getD (List.getD elements (Int.toNat s.1.2.1) ([] : List Int)) (Int.toNat (1 : Int)) (0 : Int))) (Int.toNat s1.1.2.1) ([] : List Bool))) : Nat) : Int)) ∧ ((0 : Int) ≤ s2.1.2.1))) ∧ (((0 : Int) ≤ s2.1.2.1) ∧ ((s2.1.2.1 < (((List.length (List.getD s2.2.1 (Int.toNat s1.1.2.1) ([] : List Bool))) : Nat) : Int)) ∧ ((inK IntKind.i64 (s2.1.2.1 + (1 : Int))) ∧ (next2 (((), ((s2.1.2.1 + (1 : Int)), ())), ((List.set s2.2.1 (Int.toNat s1.1.2.1) (List.set (List.getD s2.2.1 (Int.toNat s1.1.2.1) ([] : List Bool)) (Int.toNat s2.1.2.1) ((List.getD (List.getD s2.2.1 (Int.toNat s1.1.2.1) ([] : List Bool)) (Int.toNat s2.1.2.1) Bool.false) || (List.getD (List.getD (orbTR f (List.getD (List.getD elements (Int.toNat s.1.2.1) ([] : List Int)) (Int.toNat (0 : Int)) (0 : Int)) (List.getD (List.getD elements (Int.toNat s.1.2.1) ([] : List Int)) (Int.toNat (1 : Int)) (0 : Int))) (Int.toNat s1.1.2.1) ([] : List Bool)) (Int.toNat s2.1.2.1) Bool.false)))), ())))))))))))))) ((inK IntKind.i64 (s1.1.2.1 + (1 : Int))) ∧ (next1 (((), ((s1.1.2.1 + (1 : Int)), ())), (s2.2.1, ()))))))))))) (((), ((0 : Int), ())), (s1.2.1, ()))) ((inK IntKind.i64 (s.1.2.1 + (1 : Int))) ∧ (next (((), ((s.1.2.1 + (1 : Int)), ())), (s1.2.1, ()))))))))) (((), ((0 : Int), ())), (s.2.1, ()))))))))))))) ((SmallM s.2.1) ∧ (K ((markedR s.2.1), ())))))))) (((), ((0 : Int), ())), ((marksR f (emptyR f)), ()))))))
theorem w_spec_l26Close (x : denL c_spec_l26Close.args) (K : (List (List Int)) × Unit → Prop) : evF tab (lkp [(78, c_spec_l19Orbit), (77, c_spec_l26Empty), (79, c_spec_l26Marked), (76, c_spec_l26Marks)]) (cutL [(1, 503), (5, 13), (12, 21)]) Try.f52 (bodyOf Try.f52) (.s .n (.s .n (.s (.s .n (.l [(5, (.ref 101300 [])), (6, (.d (.int .i64)))] [(101300, (.sl (.sl (.fz .bool))))] [1, 2] (.s .n (.s (.s .n (.s .n (.l [(5, (.ref 101300 [])), (8, (.d (.int .i64)))] [(101300, (.sl (.sl (.fz .bool))))] [1, 2, 6, 7] (.s .n (.s (.s .n (.l [(5, (.ref 101300 [])), (9, (.d (.int .i64)))] [(101300, (.sl (.sl (.fz .bool))))] [1, 2, 6, 7, 8] .n)) .n))))) .n)))) .n))) c_spec_l26Close x K = W_spec_l26Close x.1 x.2.1 K := by kernel_rfl
theorem k_spec_l26Close : okC Try.f52.ntmps (cutL [(1, 503), (5, 13), (12, 21)]) (bodyOf Try.f52) = true := by kernel_rfl
theorem m_spec_l26Close (f : SetFunctorD) (elements : List (List Int)) (hok : allP (okL c_spec_l26Close.args (f, elements, ()))) (hpre : allP (c_spec_l26Close.pre (f, elements, ()))) : W_spec_l26Close f elements (fun r => r = c_spec_l26Close.res (f, elements, ())) := by
  simp only [c_spec_l26Close, okL, T.oks, T.ok, ap, allP, true_and, and_true, implies_true] at hok hpre
  try dsimp only [T.den] at hok
  try dsimp only [T.den] at hpre
  unfold W_spec_l26Close
  obtain ⟨S, P⟩ := hpre
  have C := cat_shape S.cat
  have hob := C.ob
  have hlz := S.lz
  have hel := P.n
  have hE : PrtP f (emptyR f) := by rw [← empty_of f]; exact PrtP.of S _
  clear hok
  have hM : marksR f (emptyR f) = tab2 f.2.1.length (fun y => f.2.1.getD y.toNat 0) fun y d => genB f elements y d (0 : Int).toNat := by
    unfold marksR tab2
    refine tabN_congr fun x x0 x1 => tabN_congr fun e _ _ => ?_
    unfold mem2 emptyR
    rw [tabN_get x0 x1]; rfl
  refine ⟨S, S, hE, ?_⟩
  rw [hM]
  refine loop_ixa (fun k => tab2 f.2.1.length (fun y => f.2.1.getD y.toNat 0) fun y d => genB f elements y d k.toNat) (n := elements.length) (by omega) rfl ?_ ?_
  · intro k next k0 k1 hnx _ _
    try dsimp only
    simp only [gen_s k0] at hnx
    have hek := P.e k k0 k1
    generalize elements.getD k.toNat [] = el at *
    generalize hG : (fun y d => genB f elements y d k.toNat) = G at *
    have hG' : ∀ y d, genB f elements y d k.toNat = G y d := fun y d => by rw [← hG]
    simp only [hG'] at hnx
    refine cnd_d (fun _ => ⟨k0, k1, Int.le_refl _, by omega, k0, k1, by omega, by omega, S, hek.2, ?_⟩) (fun h => absurd k1 h)
    change loopW _ _
    have hO : orbTR f (el.getD (0 : Int).toNat 0) (el.getD (1 : Int).toNat 0) = tab2 f.2.1.length (fun y => f.2.1.getD y.toNat 0) fun y d => orbB f (el.getD 0 0) (el.getD 1 0) y d f.2.2.length := rfl
    rw [hO]
    generalize hH : (fun y d => orbB f (el.getD 0 0) (el.getD 1 0) y d f.2.2.length) = H at *
    have hH' : ∀ y d, orbB f (el.getD 0 0) (el.getD 1 0) y d f.2.2.length = H y d := fun y d => by rw [← hH]
    simp only [hH'] at hnx
    simp only [tab2_len]
    refine loop_ixa (fun v => tab2 f.2.1.length (fun y => f.2.1.getD y.toNat 0) fun y d => G y d || (decide (y < v) && H y d)) (n := f.2.1.length) (by omega) (tab2_congr fun y d y0 _ _ _ => by rw [decide_eq_false (by omega), Bool.false_and, Bool.or_false]) ?_ ?_
    · intro v next1 v0 v1 hn1 _ _
      try dsimp only
      have hz := S.size v0 (by omega)
      refine cnd_d (fun _ => ?_) (fun h => absurd v1 h)
      have hrow : ((tab2 f.2.1.length (fun y => f.2.1.getD y.toNat 0) H).getD v.toNat []).length = (f.2.1.getD v.toNat 0).toNat := by rw [tab2_row v0 v1, tabN_len]
      refine loop_ixa (fun u => tab2 f.2.1.length (fun y => f.2.1.getD y.toNat 0) fun y d => G y d || (decide (y < v ∨ y = v ∧ d < u) && H y d)) (n := f.2.1.getD v.toNat 0) hz.1 (tab2_congr fun y d _ _ d0 _ => by rw [show decide (y < v ∨ y = v ∧ d < 0) = decide (y < v) from decide_eq_decide.2 (by omega)]) ?_ ?_
      · intro u next2 u0 u1 hn2 _ _
        try dsimp only
        have hr2 : ((tab2 f.2.1.length (fun y => f.2.1.getD y.toNat 0) fun y d => G y d || (decide (y < v ∨ y = v ∧ d < u) && H y d)).getD v.toNat []).length = (f.2.1.getD v.toNat 0).toNat := by rw [tab2_row v0 v1, tabN_len]
        refine ⟨v0, v1, cnd_d (fun _ => ⟨v0, by rw [tab2_len]; exact v1, v0, by rw [tab2_len]; exact v1, u0, by omega, fun _ => ⟨v1, v0⟩, fun _ => ⟨by omega, u0⟩, u0, by omega, by rw [inK64]; (try dsimp only); omega, ?_⟩) (fun h => absurd (by omega) h)⟩
        rw [tab2_get v0 v1 u0 u1, tab2_get v0 v1 u0 u1, tab2_set v0 v1 u0 u1]
        refine (congrArg (fun z => next2 (((), (u + 1, ())), (z, ()))) (tab2_congr fun y d _ _ _ _ => ?_)).mp hn2
        by_cases hh : y = v ∧ d = u
        · have e1 : decide (v < v ∨ v = v ∧ u < u) = false := decide_eq_false (by omega)
          have e2 : decide (v < v ∨ v = v ∧ u < u + 1) = true := decide_eq_true (by omega)
          rw [if_pos hh, hh.1, hh.2, e1, e2]
          cases G v u <;> cases H v u <;> rfl
        · rw [if_neg hh, show decide (y < v ∨ y = v ∧ d < u + 1) = decide (y < v ∨ y = v ∧ d < u) from decide_eq_decide.2 (by omega)]
      · intro next2 _ _
        try dsimp only
        refine ⟨v0, v1, cnd_d (fun h => absurd h (by omega)) (fun _ => ⟨by rw [inK64]; (try dsimp only); omega, ?_⟩)⟩
        refine (congrArg (fun z => next1 (((), (v + 1, ())), (z, ()))) (tab2_congr fun y d _ _ _ d1 => ?_)).mp hn1
        rw [show decide (y < v + 1) = decide (y < v ∨ y = v ∧ d < f.2.1.getD v.toNat 0) from decide_eq_decide.2 ⟨fun h => by
          by_cases e : y = v
          · exact .inr ⟨e, by rw [← e]; exact d1⟩
          · exact .inl (by omega), fun h => by omega⟩]
    · intro next1 _ _
      try dsimp only
      refine cnd_d (fun h => absurd h (Int.lt_irrefl _)) (fun _ => ⟨by rw [inK64]; (try dsimp only); omega, ?_⟩)
      refine (congrArg (fun z => next (((), (k + 1, ())), (z, ()))) (tab2_congr fun y d _ y1 _ _ => ?_)).mp hnx
      rw [decide_eq_true y1, Bool.true_and]
  · intro next _ _
    try dsimp only
    refine cnd_d (fun h => absurd h (Int.lt_irrefl _)) (fun _ => ⟨⟨by rw [tab2_len]; omega, fun r hr => ?_⟩, ?_⟩)
    · unfold tab2 at hr
      rw [tabN_mem] at hr
      obtain ⟨y, y0, y1, rfl⟩ := hr
      have := S.size y0 (by omega)
      simp only [tabN_len]; omega
    · simp only [c_spec_l26Close, genR, partOfR, marked_tab2, Int.toNat_natCast]
theorem ct_spec_l26Close : CtOk Try.prog 52 c_spec_l26Close :=
  ct_by (Φ := lkp [(78, c_spec_l19Orbit), (77, c_spec_l26Empty), (79, c_spec_l26Marked), (76, c_spec_l26Marks)]) (good_cons ct_spec_l19Orbit (good_cons ct_spec_l26Empty (good_cons ct_spec_l26Marked (good_cons ct_spec_l26Marks good_nil)))) tab_ok (by kernel_rfl) (fn := Try.f52) (c := bodyOf Try.f52) (by kernel_rfl) (by kernel_rfl) (by kernel_rfl) c_spec_l26Close rfl (.s .n (.s .n (.s (.s .n (.l [(5, (.ref 101300 [])), (6, (.d (.int .i64)))] [(101300, (.sl (.sl (.fz .bool))))] [1, 2] (.s .n (.s (.s .n (.s .n (.l [(5, (.ref 101300 [])), (8, (.d (.int .i64)))] [(101300, (.sl (.sl (.fz .bool))))] [1, 2, 6, 7] (.s .n (.s (.s .n (.l [(5, (.ref 101300 [])), (9, (.d (.int .i64)))] [(101300, (.sl (.sl (.fz .bool))))] [1, 2, 6, 7, 8] .n)) .n))))) .n)))) .n))) (cutL [(1, 503), (5, 13), (12, 21)]) (by kernel_rfl) (by kernel_rfl) k_spec_l26Close (by decide) (fun x K => W_spec_l26Close x.1 x.2.1 K) w_spec_l26Close (fun x h1 h2 => m_spec_l26Close x.1 x.2.1 h1 h2)
theorem orb_any {f : SetFunctorD} {x e y d : Int} : ∀ n : Nat, orbB f x e y d n = anyB n fun a => f.1.2.1.getD a.toNat 0 == x && (f.1.2.2.1.getD a.toNat 0 == y && actR f a e == d)
  | 0 => rfl
  | n + 1 => by
    have ih := @orb_any f x e y d n
    simp only [orbB, anyB, ih, Int.toNat_natCast, Bool.and_assoc]
theorem orb_out {f : SetFunctorD} {x e y d : Int} (h : f.2.2.length = f.1.2.1.length) : orbB f x e y d f.2.2.length = (outR f.1 x).any fun a => f.1.2.2.1.getD a.toNat 0 == y && actR f a e == d := by
  rw [orb_any, h]; unfold outR; rw [any_sel]
theorem out_el {c : CategoryD} {x v : Int} (h : v ∈ outR c x) : 0 ≤ v ∧ v < c.2.1.length ∧ c.2.1.getD v.toNat 0 = x := by
  unfold outR at h
  have := sel_mem.1 h
  exact ⟨this.1, this.2.1, by simpa using this.2.2⟩

def c_impl_SetFunctor_generated : Ct := ⟨[(.pt SetFunctorT), (.sl (.sl (.int .i64)))], [false, false], fun x => [SfP x.1, GenP x.1 x.2.1], [(true, PartO)], fun x => (genR x.1 x.2.1, ()), false, none⟩
def W_impl_SetFunctor_generated (f : SetFunctorD) (elements : List (List Int)) (K : PartD × Unit → Prop) : Prop := (loopW (S := ((Unit × (Unit × (Int × Unit))) × ((List (List Int)) × ((List ((Int × Int) × Bool)) × Unit)))) (fun s => (fun next => ((inK IntKind.i64 s.1.2.2.1) → ((T.ok (T.sl (T.sl (T.int IntKind.i64))) s.2.1) → ((T.ok (T.mp endsT T.bool) s.2.2.1) → (cnd (decide (s.1.2.2.1 < (((List.length elements) : Nat) : Int))) (((0 : Int) ≤ s.1.2.2.1) ∧ ((s.1.2.2.1 < (((List.length elements) : Nat) : Int)) ∧ (((0 : Int) ≤ (0 : Int)) ∧ (((0 : Int) < (((List.length (List.getD elements (Int.toNat s.1.2.2.1) ([] : List Int))) : Nat) : Int)) ∧ (((List.length f.1.2.1) ≤ 40) ∧ (loopW (S := ((Unit × (Unit × (Int × Unit))) × ((List (List Int)) × ((List ((Int × Int) × Bool)) × Unit)))) (fun s1 => (fun next1 => ((inK IntKind.i64 s1.1.2.2.1) → ((T.ok (T.sl (T.sl (T.int IntKind.i64))) s1.2.1) → ((T.ok (T.mp endsT T.bool) s1.2.2.1) → (cnd (decide (s1.1.2.2.1 < (((List.length (outR f.1 (List.getD (List.getD elements (Int.toNat s.1.2.2.1) ([] : List Int)) (Int.toNat (0 : Int)) (0 : Int)))) : Nat) : Int))) (((0 : Int) ≤ s1.1.2.2.1) ∧ ((s1.1.2.2.1 < (((List.length (outR f.1 (List.getD (List.getD elements (Int.toNat s.1.2.2.1) ([] : List Int)) (Int.toNat (0 : Int)) (0 : Int)))) : Nat) : Int)) ∧ (((0 : Int) ≤ (List.getD (outR f.1 (List.getD (List.getD elements (Int.toNat s.1.2.2.1) ([] : List Int)) (Int.toNat (0 : Int)) (0 : Int))) (Int.toNat s1.1.2.2.1) (0 : Int))) ∧ (((List.getD (outR f.1 (List.getD (List.getD elements (Int.toNat s.1.2.2.1) ([] : List Int)) (Int.toNat (0 : Int)) (0 : Int))) (Int.toNat s1.1.2.2.1) (0 : Int)) < (((List.length f.1.2.2.1) : Nat) : Int)) ∧ (((0 : Int) ≤ (List.getD (outR f.1 (List.getD (List.getD elements (Int.toNat s.1.2.2.1) ([] : List Int)) (Int.toNat (0 : Int)) (0 : Int))) (Int.toNat s1.1.2.2.1) (0 : Int))) ∧ (((List.getD (outR f.1 (List.getD (List.getD elements (Int.toNat s.1.2.2.1) ([] : List Int)) (Int.toNat (0 : Int)) (0 : Int))) (Int.toNat s1.1.2.2.1) (0 : Int)) < (((List.length f.2.2) : Nat) : Int)) ∧ (((0 : Int) ≤ (1 : Int)) ∧ (((1 : Int) < (((List.length (List.getD elements (Int.toNat s.1.2.2.1) ([] : List Int))) : Nat) : Int)) ∧ (((0 : Int) ≤ (List.getD (List.getD elements (Int.toNat s.1.2.2.1) ([] : List Int)) (Int.toNat (1 : Int)) (0 : Int))) ∧ (((List.getD (List.getD elements (Int.toNat s.1.2.2.1) ([] : List Int)) (Int.toNat (1 : Int)) (0 : Int)) < (((List.length (List.getD f.2.2 (Int.toNat (List.getD (outR f.1 (List.getD (List.getD elements (Int.toNat s.1.2.2.1) ([] : List Int)) (Int.toNat (0 : Int)) (0 : Int))) (Int.toNat s1.1.2.2.1) (0 : Int))) ([] : List Int))) : Nat) : Int)) ∧ ((room (List.length s1.2.2.1) 1 1) ∧ ((inK IntKind.i64 (s1.1.2.2.1 + (1 : Int))) ∧ (next1 (((), ((), ((s1.1.2.2.1 + (1 : Int)), ()))), (s1.2.1, ((msetR endsT T.bool s1.2.2.1 ((List.getD f.1.2.2.1 (Int.toNat (List.getD (outR f.1 (List.getD (List.getD elements (Int.toNat s.1.2.2.1) ([] : List Int)) (Int.toNat (0 : Int)) (0 : Int))) (Int.toNat s1.1.2.2.1) (0 : Int))) (0 : Int)), (List.getD (List.getD f.2.2 (Int.toNat (List.getD (outR f.1 (List.getD (List.getD elements (Int.toNat s.1.2.2.1) ([] : List Int)) (Int.toNat (0 : Int)) (0 : Int))) (Int.toNat s1.1.2.2.1) (0 : Int))) ([] : List Int)) (Int.toNat (List.getD (List.getD elements (Int.toNat s.1.2.2.1) ([] : List Int)) (Int.toNat (1 : Int)) (0 : Int))) (0 : Int))) Bool.true), ())))))))))))))))) ((inK IntKind.i64 (s.1.2.2.1 + (1 : Int))) ∧ (next (((), ((), ((s.1.2.2.1 + (1 : Int)), ()))), (s1.2.1, (s1.2.2.1, ()))))))))))) (((), ((), ((0 : Int), ()))), (s.2.1, (s.2.2.1, ()))))))))) ((SfP f) ∧ (K ((partOfR f (fun y => (fun d => (mgetR endsT T.bool s.2.2.1 (y, d))))), ()))))))))) (((), ((), ((0 : Int), ()))), (([] : List (List Int)), (([] : List ((Int × Int) × Bool)), ()))))
theorem w_impl_SetFunctor_generated (x : denL c_impl_SetFunctor_generated.args) (K : PartD × Unit → Prop) : evF tab (lkp [(45, c_impl_Category_outOf), (82, c_impl_partOf_gen)]) (cutL [(5, 509), (8, 22)]) Try.f55 (bodyOf Try.f55) (.s .n (.s .n (.s (.s .n (.l [(4, (.ad 4 [.de])), (5, (.ad 5 [.de])), (13, (.d (.int .i64)))] [(4, (.pt (.sl (.sl (.fz (.int .i64)))))), (5, (.pt (.mp (.p (.int .i64) (.int .i64)) .bool)))] [0, 11, 12] (.s .n (.s .n (.s (.s .n (.s .n (.l [(4, (.ad 4 [.de])), (5, (.ad 5 [.de])), (25, (.d (.int .i64)))] [(4, (.pt (.sl (.sl (.fz (.int .i64)))))), (5, (.pt (.mp (.p (.int .i64) (.int .i64)) .bool)))] [0, 7, 11, 12, 13, 23, 24] .n))) .n))))) .n))) c_impl_SetFunctor_generated x K = W_impl_SetFunctor_generated x.1 x.2.1 K := by kernel_rfl
theorem k_impl_SetFunctor_generated : okC Try.f55.ntmps (cutL [(5, 509), (8, 22)]) (bodyOf Try.f55) = true := by kernel_rfl
theorem m_impl_SetFunctor_generated (f : SetFunctorD) (elements : List (List Int)) (hok : allP (okL c_impl_SetFunctor_generated.args (f, elements, ()))) (hpre : allP (c_impl_SetFunctor_generated.pre (f, elements, ()))) : W_impl_SetFunctor_generated f elements (fun r => r = c_impl_SetFunctor_generated.res (f, elements, ())) := by
  simp only [c_impl_SetFunctor_generated, okL, T.oks, T.ok, ap, allP, true_and, and_true, implies_true] at hok hpre
  try dsimp only [T.den] at hok
  try dsimp only [T.den] at hpre
  unfold W_impl_SetFunctor_generated
  obtain ⟨S, P⟩ := hpre
  have C := cat_shape S.cat
  have hm := C.m
  have hlt := C.lt
  have hla := S.la
  have hel := P.n
  clear hok
  simp only [show Int.toNat 0 = 0 from rfl, show Int.toNat 1 = 1 from rfl]
  refine loop_of (fun (s : ((Unit × (Unit × (Int × Unit))) × ((List (List Int)) × ((List ((Int × Int) × Bool)) × Unit)))) => s.2.1 = [] ∧ 0 ≤ s.1.2.2.1 ∧ s.1.2.2.1 ≤ elements.length ∧ s.2.2.1.length ≤ s.1.2.2.1.toNat * 40 ∧ ∀ y d : Int, mgetR endsT .bool s.2.2.1 (y, d) = genB f elements y d s.1.2.2.1.toNat) (fun (s : ((Unit × (Unit × (Int × Unit))) × ((List (List Int)) × ((List ((Int × Int) × Bool)) × Unit)))) => (elements.length - s.1.2.2.1).toNat) ?_ ⟨rfl, by simp, by simp, by simp, fun y d => rfl⟩
  rintro ⟨⟨_, _, k, _⟩, L0, m, _⟩ next ⟨h0, k0, k1, hl, hg⟩ hn hin _ _
  try dsimp only at h0 k0 k1 hl hg hn ⊢
  subst h0
  refine cnd_d (fun hc => ?_) (fun hc => ?_)
  · have hek := P.e k k0 hc
    have gs : ∀ y d : Int, genB f elements y d (k + 1).toNat = _ := fun y d => gen_s k0
    generalize elements.getD k.toNat [] = el at *
    obtain ⟨he2, he⟩ := hek
    simp only [elemR, Bool.and_eq_true, decide_eq_true_eq] at he
    obtain ⟨⟨⟨x0, x1⟩, e0⟩, e1⟩ := he
    have hol : (outR f.1 (el.getD 0 0)).length ≤ 40 := Nat.le_trans (sel_len _) hm
    refine ⟨k0, hc, by omega, by omega, hm, ?_⟩
    refine loop_of (fun (s : ((Unit × (Unit × (Int × Unit))) × ((List (List Int)) × ((List ((Int × Int) × Bool)) × Unit)))) => s.2.1 = [] ∧ 0 ≤ s.1.2.2.1 ∧ s.1.2.2.1 ≤ (outR f.1 (el.getD 0 0)).length ∧ s.2.2.1.length ≤ k.toNat * 40 + s.1.2.2.1.toNat ∧ ∀ y d : Int, mgetR endsT .bool s.2.2.1 (y, d) = (genB f elements y d k.toNat || ((outR f.1 (el.getD 0 0)).take s.1.2.2.1.toNat).any fun a => f.1.2.2.1.getD a.toNat 0 == y && actR f a (el.getD 1 0) == d)) (fun (s : ((Unit × (Unit × (Int × Unit))) × ((List (List Int)) × ((List ((Int × Int) × Bool)) × Unit)))) => ((outR f.1 (el.getD 0 0)).length - s.1.2.2.1).toNat) ?_ ⟨rfl, by simp, by simp, by simpa using hl, fun y d => by simp [hg]⟩
    rintro ⟨⟨_, _, j, _⟩, L0, m1, _⟩ next1 ⟨h0, j0, j1, hl1, hg1⟩ hn1 hin1 _ _
    try dsimp only at h0 j0 j1 hl1 hg1 hn1 ⊢
    subst h0
    refine cnd_d (fun hd => ?_) (fun hd => ?_)
    · have hat := out_el (getD_mem (outR f.1 (el.getD 0 0)) 0 j0 hd)
      have ht := fun q => any_take (p := q) (outR f.1 (el.getD 0 0)) 0 j0 hd
      generalize (outR f.1 (el.getD 0 0)).getD j.toNat 0 = a at *
      obtain ⟨a0, a1, a2⟩ := hat
      have hs := S.at_ a0 a1 e0 (by rw [a2]; exact e1)
      have hsl := @mset_len endsT .bool (f.1.2.2.1.getD a.toNat 0, (f.2.2.getD a.toNat []).getD (el.getD 1 0).toNat 0) true m1
      refine ⟨j0, hd, a0, by omega, a0, by omega, by omega, by omega, e0, hs.1, by unfold room; rw [nb_eq]; omega, by rw [inK64]; (try dsimp only); omega, hn1 _ ⟨rfl, (by first | omega | (dsimp only; omega)), (by first | omega | (dsimp only; omega)), by dsimp only; omega, fun y d => ?_⟩ (by first | omega | (dsimp only; omega))⟩
      try dsimp only
      rw [mget_set, hg1, ht]
      have hact : actR f a (el.getD 1 0) = (f.2.2.getD a.toNat []).getD (el.getD 1 0).toNat 0 := rfl
      rw [hact]
      generalize (f.2.2.getD a.toNat []).getD (el.getD 1 0).toNat 0 = u
      generalize f.1.2.2.1.getD a.toNat 0 = t
      by_cases hh : (y, d) = (t, u)
      · rw [if_pos (eqR_iff.2 hh)]
        cases hh; simp
      · rw [if_neg (fun h => hh (eqR_iff.1 h))]
        have : (t == y && u == d) = false := by
          cases h : (t == y && u == d) with
          | false => rfl
          | true =>
            simp only [Bool.and_eq_true, beq_iff_eq] at h
            exact absurd (by rw [h.1, h.2]) hh
        rw [this]; simp
    · refine ⟨by rw [inK64]; (try dsimp only); omega, hn _ ⟨rfl, (by first | omega | (dsimp only; omega)), (by first | omega | (dsimp only; omega)), by dsimp only; omega, fun y d => ?_⟩ (by first | omega | (dsimp only; omega))⟩
      try dsimp only
      rw [hg1, gs, orb_out hla, take_n _ (by omega)]
  · refine ⟨S, ?_⟩
    simp only [c_impl_SetFunctor_generated, genR]
    have hk : k.toNat = elements.length := by omega
    rw [hk] at hg
    congr 2
    funext y d
    exact hg y d
theorem ct_impl_SetFunctor_generated : CtOk Try.prog 55 c_impl_SetFunctor_generated :=
  ct_by (Φ := lkp [(45, c_impl_Category_outOf), (82, c_impl_partOf_gen)]) (good_cons ct_impl_Category_outOf (good_cons ct_impl_partOf_gen good_nil)) tab_ok (by kernel_rfl) (fn := Try.f55) (c := bodyOf Try.f55) (by kernel_rfl) (by kernel_rfl) (by kernel_rfl) c_impl_SetFunctor_generated rfl (.s .n (.s .n (.s (.s .n (.l [(4, (.ad 4 [.de])), (5, (.ad 5 [.de])), (13, (.d (.int .i64)))] [(4, (.pt (.sl (.sl (.fz (.int .i64)))))), (5, (.pt (.mp (.p (.int .i64) (.int .i64)) .bool)))] [0, 11, 12] (.s .n (.s .n (.s (.s .n (.s .n (.l [(4, (.ad 4 [.de])), (5, (.ad 5 [.de])), (25, (.d (.int .i64)))] [(4, (.pt (.sl (.sl (.fz (.int .i64)))))), (5, (.pt (.mp (.p (.int .i64) (.int .i64)) .bool)))] [0, 7, 11, 12, 13, 23, 24] .n))) .n))))) .n))) (cutL [(5, 509), (8, 22)]) (by kernel_rfl) (by kernel_rfl) k_impl_SetFunctor_generated (by decide) (fun x K => W_impl_SetFunctor_generated x.1 x.2.1 K) w_impl_SetFunctor_generated (fun x h1 h2 => m_impl_SetFunctor_generated x.1 x.2.1 h1 h2)
def c_spec_l19Fault : Ct := ⟨[SetFunctorT], [true], fun x => [SfP x.1], [(false, (.fz (.int .i64))), (false, (.fz (.int .i64))), (false, (.fz (.int .i64))), (false, (.fz (.int .i64)))], fun x => ((sfFaultR x.1).1, (sfFaultR x.1).2.1, (sfFaultR x.1).2.2.1, (sfFaultR x.1).2.2.2, ()), false, none⟩
def W_spec_l19Fault (f : SetFunctorD) (K : Int × Int × Int × Int × Unit → Prop) : Prop := (loopW (S := ((Int × Unit) × Unit)) (fun s => (fun next => ((inK IntKind.i64 s.1.1) → (cnd (decide (s.1.1 < f.1.1)) (loopW (S := ((Int × Unit) × Unit)) (fun s1 => (fun next1 => ((inK IntKind.i64 s1.1.1) → (((0 : Int) ≤ s.1.1) ∧ ((s.1.1 < (((List.length f.2.1) : Nat) : Int)) ∧ (cnd (decide (s1.1.1 < (List.getD f.2.1 (Int.toNat s.1.1) (0 : Int)))) (((0 : Int) ≤ s.1.1) ∧ ((s.1.1 < (((List.length f.1.2.2.2.1) : Nat) : Int)) ∧ (((0 : Int) ≤ (List.getD f.1.2.2.2.1 (Int.toNat s.1.1) (0 : Int))) ∧ (((List.getD f.1.2.2.2.1 (Int.toNat s.1.1) (0 : Int)) < (((List.length f.2.2) : Nat) : Int)) ∧ (((0 : Int) ≤ s1.1.1) ∧ ((s1.1.1 < (((List.length (List.getD f.2.2 (Int.toNat (List.getD f.1.2.2.2.1 (Int.toNat s.1.1) (0 : Int))) ([] : List Int))) : Nat) : Int)) ∧ (cnd ((List.getD (List.getD f.2.2 (Int.toNat (List.getD f.1.2.2.2.1 (Int.toNat s.1.1) (0 : Int))) ([] : List Int)) (Int.toNat s1.1.1) (0 : Int)) != s1.1.1) (K ((1 : Int), (s.1.1, (s1.1.1, ((0 : Int), ()))))) ((inK IntKind.i64 (s1.1.1 + (1 : Int))) ∧ (next1 (((s1.1.1 + (1 : Int)), ()), ())))))))))) ((inK IntKind.i64 (s.1.1 + (1 : Int))) ∧ (next (((s.1.1 + (1 : Int)), ()), ()))))))))) (((0 : Int), ()), ())) (loopW (S := ((Int × Unit) × Unit)) (fun s1 => (fun next1 => ((inK IntKind.i64 s1.1.1) → (cnd (decide (s1.1.1 < (((List.length f.1.2.1) : Nat) : Int))) (loopW (S := ((Int × Unit) × Unit)) (fun s2 => (fun next2 => ((inK IntKind.i64 s2.1.1) → (cnd (decide (s2.1.1 < (((List.length f.1.2.1) : Nat) : Int))) (joinW (S := (Unit × Unit)) (fun s3 => ((inK IntKind.i64 (s2.1.1 + (1 : Int))) ∧ (next2 (((s2.1.1 + (1 : Int)), ()), ())))) (fun k => (((0 : Int) ≤ s1.1.1) ∧ ((s1.1.1 < (((List.length f.1.2.2.1) : Nat) : Int)) ∧ (((0 : Int) ≤ s2.1.1) ∧ ((s2.1.1 < (((List.length f.1.2.1) : Nat) : Int)) ∧ (cnd ((List.getD f.1.2.2.1 (Int.toNat s1.1.1) (0 : Int)) != (List.getD f.1.2.1 (Int.toNat s2.1.1) (0 : Int))) (k ((), ())) (loopW (S := ((Int × Unit) × Unit)) (fun s3 => (fun next3 => ((inK IntKind.i64 s3.1.1) → (((0 : Int) ≤ s1.1.1) ∧ ((s1.1.1 < (((List.length f.1.2.1) : Nat) : Int)) ∧ (((0 : Int) ≤ (List.getD f.1.2.1 (Int.toNat s1.1.1) (0 : Int))) ∧ (((List.getD f.1.2.1 (Int.toNat s1.1.1) (0 : Int)) < (((List.length f.2.1) : Nat) : Int)) ∧ (cnd (decide (s3.1.1 < (List.getD f.2.1 (Int.toNat (List.getD f.1.2.1 (Int.toNat s1.1.1) (0 : Int))) (0 : Int)))) (((0 : Int) ≤ s1.1.1) ∧ ((s1.1.1 < (((List.length f.1.2.2.2.2) : Nat) : Int)) ∧ (((0 : Int) ≤ s2.1.1) ∧ ((s2.1.1 < (((List.length (List.getD f.1.2.2.2.2 (Int.toNat s1.1.1) ([] : List Int))) : Nat) : Int)) ∧ (((0 : Int) ≤ (List.getD (List.getD f.1.2.2.2.2 (Int.toNat s1.1.1) ([] : List Int)) (Int.toNat s2.1.1) (0 : Int))) ∧ (((List.getD (List.getD f.1.2.2.2.2 (Int.toNat s1.1.1) ([] : List Int)) (Int.toNat s2.1.1) (0 : Int)) < (((List.length f.2.2) : Nat) : Int)) ∧ (((0 : Int) ≤ s3.1.1) ∧ ((s3.1.1 < (((List.length (List.getD f.2.2 (Int.toNat (List.getD (List.getD f.1.2.2.2.2 (Int.toNat s1.1.1) ([] : List Int)) (Int.toNat s2.1.1) (0 : Int))) ([] : List Int))) : Nat) : Int)) ∧ (((0 : Int) ≤ s2.1.1) ∧ ((s2.1.1 < (((List.length f.2.2) : Nat) : Int)) ∧ (((0 : Int) ≤ s1.1.1) ∧ ((s1.1.1 < (((List.length f.2.2) : Nat) : Int)) ∧ (((0 : Int) ≤ s3.1.1) ∧ ((s3.1.1 < (((List.length (List.getD f.2.2 (Int.toNat s1.1.1) ([] : List Int))) : Nat) : Int)) ∧ (((0 : Int) ≤ (List.getD (List.getD f.2.2 (Int.toNat s1.1.1) ([] : List Int)) (Int.toNat s3.1.1) (0 : Int))) ∧ (((List.getD (List.getD f.2.2 (Int.toNat s1.1.1) ([] : List Int)) (Int.toNat s3.1.1) (0 : Int)) < (((List.length (List.getD f.2.2 (Int.toNat s2.1.1) ([] : List Int))) : Nat) : Int)) ∧ (cnd ((List.getD (List.getD f.2.2 (Int.toNat (List.getD (List.getD f.1.2.2.2.2 (Int.toNat s1.1.1) ([] : List Int)) (Int.toNat s2.1.1) (0 : Int))) ([] : List Int)) (Int.toNat s3.1.1) (0 : Int)) != (List.getD (List.getD f.2.2 (Int.toNat s2.1.1) ([] : List Int)) (Int.toNat (List.getD (List.getD f.2.2 (Int.toNat s1.1.1) ([] : List Int)) (Int.toNat s3.1.1) (0 : Int))) (0 : Int))) (K ((2 : Int), (s1.1.1, (s2.1.1, (s3.1.1, ()))))) ((inK IntKind.i64 (s3.1.1 + (1 : Int))) ∧ (next3 (((s3.1.1 + (1 : Int)), ()), ())))))))))))))))))))) (k ((), ())))))))))) (((0 : Int), ()), ()))))))))) ((inK IntKind.i64 (s1.1.1 + (1 : Int))) ∧ (next1 (((s1.1.1 + (1 : Int)), ()), ()))))))) (((0 : Int), ()), ())) (K ((0 : Int), ((0 : Int), ((0 : Int), ((0 : Int), ()))))))))) (((0 : Int), ()), ())))))) (((0 : Int), ()), ()))
theorem w_spec_l19Fault (x : denL c_spec_l19Fault.args) (K : Int × Int × Int × Int × Unit → Prop) : evF tab (lkp []) (cutL [(16, 11), (18, 11), (20, 31), (8, 14)]) Try.f75 (bodyOf Try.f75) (.s .n (.s .n (.s (.s .n (.l [(7, (.d (.int .i64)))] [] [1, 6] (.s .n (.s (.s .n (.l [(8, (.d (.int .i64)))] [] [1, 6, 7] .n)) .n)))) (.s (.s .n (.l [(9, (.d (.int .i64)))] [] [1, 6] (.s .n (.s (.s .n (.l [(10, (.d (.int .i64)))] [] [1, 6, 9] (.s .n (.s (.j [] [] [1, 6, 9, 10] (.s .n (.s .n (.l [(11, (.d (.int .i64)))] [] [1, 6, 9, 10] .n)))) .n)))) .n)))) .n)))) c_spec_l19Fault x K = W_spec_l19Fault x.1 K := by kernel_rfl
theorem k_spec_l19Fault : okC Try.f75.ntmps (cutL [(16, 11), (18, 11), (20, 31), (8, 14)]) (bodyOf Try.f75) = true := by kernel_rfl
theorem m_spec_l19Fault (f : SetFunctorD) (hok : allP (okL c_spec_l19Fault.args (f, ()))) (hpre : allP (c_spec_l19Fault.pre (f, ()))) : W_spec_l19Fault f (fun r => r = c_spec_l19Fault.res (f, ())) := by
  simp only [c_spec_l19Fault, okL, T.oks, T.ok, ap, allP, true_and, and_true, implies_true] at hok hpre
  try dsimp only [T.den] at hok
  try dsimp only [T.den] at hpre
  unfold W_spec_l19Fault
  have P : SfP f := hpre
  have S := cat_shape P.cat
  have hlt := S.lt
  have hli := S.li
  have hlc := S.lc
  have hmm := S.m
  have hob := S.ob
  have hlz := P.lz
  have hla := P.la
  have resq : ∀ a b d e, sfFaultR f = (a, b, d, e) → (a, b, d, e, ()) = c_spec_l19Fault.res (f, ()) := fun a b d e h => by simp only [c_spec_l19Fault, h]
  have hac : ∀ a e : Int, (f.2.2.getD a.toNat []).getD e.toNat 0 = actR f a e := fun _ _ => rfl
  have hcr : ∀ a b : Int, (f.1.2.2.2.2.getD a.toNat []).getD b.toNat 0 = compR f.1 a b := fun _ _ => rfl
  simp only [hac, hcr]
  refine loop_ix (n := f.1.1) (fun x => scanR (sfIx f) f.1.1.toNat 0 = scanR (sfIx f) (f.1.1 - x).toNat x) (by omega) (by rw [Int.sub_zero]) ?_ ?_
  · intro x next x0 x1 hP hn hin
    try dsimp only
    obtain ⟨b1, b2, b3, b4⟩ := S.idn x0 x1
    obtain ⟨z1, z2⟩ := P.size x0 x1
    obtain ⟨q1, q2⟩ := P.act _ b1 b2
    rw [b3] at q1
    refine cnd_d (fun _ => ?_) (fun h => absurd h (by omega))
    refine loop_ix (n := f.2.1.getD x.toNat 0) (fun e => sfIx f x = scanR (sfI f x) (f.2.1.getD x.toNat 0 - e).toNat e) z1 (by unfold sfIx; rw [Int.sub_zero]) ?_ ?_
    · intro e next2 e0 e1 hP2 hn2 hin2
      try dsimp only
      refine ⟨x0, by omega, cnd_d (fun _ => ⟨x0, by omega, b1, by omega, e0, by omega, cnd_of (fun hx => resq _ _ _ _ ?_) (fun hx => ⟨by rw [inK64]; (try dsimp only); omega, hn2 ?_⟩)⟩) (fun h => absurd h (by omega))⟩
      · have k1 : sfI f x e = some (1, x, e, 0) := by unfold sfI; rw [if_pos]; simpa using hx
        have k2 : sfIx f x = some (1, x, e, 0) := by rw [hP2, scan_s e1 k1]
        unfold sfFaultR; rw [hP, scan_s x1 k2]; rfl
      · have k1 : sfI f x e = none := by unfold sfI; rw [if_neg]; simpa using hx
        rw [hP2, scan_c e1 k1]
    · intro next2 hP2 hin2
      try dsimp only
      rw [scan_n] at hP2
      exact ⟨x0, by omega, cnd_d (fun h => absurd h (by omega)) (fun _ => ⟨by rw [inK64]; (try dsimp only); omega, hn (by rw [hP, scan_c x1 hP2])⟩)⟩
  intro next hI hin
  rw [scan_n] at hI
  refine cnd_d (fun h => absurd h (by dsimp only; omega)) (fun _ => ?_)
  have hF : sfFaultR f = orR (scanR (sfCa f) f.1.2.1.length 0) (0, 0, 0, 0) := by unfold sfFaultR; rw [hI]; rfl
  refine loop_ix (n := f.1.2.1.length) (fun a => scanR (sfCa f) f.1.2.1.length 0 = scanR (sfCa f) ((f.1.2.1.length : Int) - a).toNat a) (by omega) scan_0 ?_ ?_
  · intro a next a0 a1 hP hn hin
    try dsimp only
    have r1 := S.row a a0 a1
    obtain ⟨q1, q2⟩ := P.act _ a0 a1
    obtain ⟨fa1, fa2, ta1, ta2⟩ := S.frm a0 a1
    obtain ⟨z1, z2⟩ := P.size fa1 fa2
    refine cnd_d (fun _ => ?_) (fun h => absurd h (by omega))
    refine loop_ix (n := f.1.2.1.length) (fun b => sfCa f a = scanR (sfCb f a) ((f.1.2.1.length : Int) - b).toNat b) (by omega) scan_0 ?_ ?_
    · intro b next2 b0 b1 hP2 hn2 hin2
      try dsimp only
      refine cnd_d (fun _ => ?_) (fun h => absurd h (by omega))
      refine join_of (fun _ => sfCb f a b = none) (fun _ hG => ⟨by rw [inK64]; (try dsimp only); omega, hn2 (by rw [hP2, scan_c b1 hG])⟩) (fun k hk => ?_)
      have hk' := hk ((), ())
      refine ⟨a0, by omega, b0, by omega, cnd_of (fun hx => hk' ?_) (fun hx => ?_)⟩
      · unfold sfCb; rw [if_neg]; simpa using hx
      have hab : f.1.2.2.1.getD a.toNat 0 = f.1.2.1.getD b.toNat 0 := by rw [bne_eq_false_iff_eq] at hx; exact hx
      obtain ⟨y1, y2, y3, y4⟩ := S.yes a0 a1 b0 b1 hab
      obtain ⟨p1, p2⟩ := P.act _ y1 y2
      rw [y3] at p1
      obtain ⟨p3, p4⟩ := P.act _ b0 b1
      rw [← hab] at p3
      
      refine loop_ix (n := f.2.1.getD (f.1.2.1.getD a.toNat 0).toNat 0) (fun e => sfCb f a b = scanR (sfC f a b) (f.2.1.getD (f.1.2.1.getD a.toNat 0).toNat 0 - e).toNat e) z1 (by unfold sfCb; rw [if_pos hab, Int.sub_zero]) ?_ ?_
      · intro e next3 e0 e1 hP3 hn3 hin3
        try dsimp only
        obtain ⟨m1, m2, m3⟩ := P.at_ a0 a1 e0 e1
        refine ⟨a0, by omega, fa1, by omega, cnd_d (fun _ => ⟨a0, by omega, b0, by omega, y1, by omega, e0, by omega, b0, by omega, a0, by omega, e0, by omega, m2, by omega, cnd_of (fun hx => resq _ _ _ _ ?_) (fun hx => ⟨by rw [inK64]; (try dsimp only); omega, hn3 ?_⟩)⟩) (fun h => absurd h (by omega))⟩
        · have k0 : sfC f a b e = some (2, a, b, e) := by unfold sfC; rw [if_pos]; simpa using hx
          have k1 : sfCb f a b = some (2, a, b, e) := by rw [hP3, scan_s e1 k0]
          have k2 : sfCa f a = some (2, a, b, e) := by rw [hP2, scan_s b1 k1]
          rw [hF, hP, scan_s a1 k2]; rfl
        · have k0 : sfC f a b e = none := by unfold sfC; rw [if_neg]; simpa using hx
          rw [hP3, scan_c e1 k0]
      · intro next3 hP3 hin3
        try dsimp only
        rw [scan_n] at hP3
        exact ⟨a0, by omega, fa1, by omega, cnd_d (fun h => absurd h (by omega)) (fun _ => hk' hP3)⟩
    · intro next2 hP2 hin2
      try dsimp only
      rw [scan_n] at hP2
      exact cnd_d (fun h => absurd h (by omega)) (fun _ => ⟨by rw [inK64]; (try dsimp only); omega, hn (by rw [hP, scan_c a1 hP2])⟩)
  · intro next2 hP2 hin2
    rw [scan_n] at hP2
    refine cnd_d (fun h => absurd h (by dsimp only; omega)) (fun _ => resq _ _ _ _ ?_)
    rw [hF, hP2]; rfl
theorem ct_spec_l19Fault : CtOk Try.prog 75 c_spec_l19Fault :=
  ct_by (Φ := lkp []) good_nil tab_ok (by kernel_rfl) (fn := Try.f75) (c := bodyOf Try.f75) (by kernel_rfl) (by kernel_rfl) (by kernel_rfl) c_spec_l19Fault rfl (.s .n (.s .n (.s (.s .n (.l [(7, (.d (.int .i64)))] [] [1, 6] (.s .n (.s (.s .n (.l [(8, (.d (.int .i64)))] [] [1, 6, 7] .n)) .n)))) (.s (.s .n (.l [(9, (.d (.int .i64)))] [] [1, 6] (.s .n (.s (.s .n (.l [(10, (.d (.int .i64)))] [] [1, 6, 9] (.s .n (.s (.j [] [] [1, 6, 9, 10] (.s .n (.s .n (.l [(11, (.d (.int .i64)))] [] [1, 6, 9, 10] .n)))) .n)))) .n)))) .n)))) (cutL [(16, 11), (18, 11), (20, 31), (8, 14)]) (by kernel_rfl) (by kernel_rfl) k_spec_l19Fault (by decide) (fun x K => W_spec_l19Fault x.1 K) w_spec_l19Fault (fun x h1 h2 => m_spec_l19Fault x.1 h1 h2)
def c_spec_l01In : Ct := ⟨[(.int .i64), (.int .i64), (.int .i64)], [false, false, false], fun x => [], [(false, (.fz .bool))], fun x => (inR x.1 x.2.1 x.2.2.1, ()), false, none⟩
def W_spec_l01In (n : Int) (low : Int) (high : Int) (K : Bool × Unit → Prop) : Prop := (K (((decide (low ≤ n)) && (decide (n ≤ high))), ()))
theorem w_spec_l01In (x : denL c_spec_l01In.args) (K : Bool × Unit → Prop) : evF tab (lkp []) (cutL []) Try.f84 (bodyOf Try.f84) .n c_spec_l01In x K = W_spec_l01In x.1 x.2.1 x.2.2.1 K := by kernel_rfl
theorem k_spec_l01In : okC Try.f84.ntmps (cutL []) (bodyOf Try.f84) = true := by kernel_rfl
theorem m_spec_l01In (n : Int) (low : Int) (high : Int) (hok : allP (okL c_spec_l01In.args (n, low, high, ()))) (hpre : allP (c_spec_l01In.pre (n, low, high, ()))) : W_spec_l01In n low high (fun r => r = c_spec_l01In.res (n, low, high, ())) := by
  simp only [c_spec_l01In, okL, T.oks, T.ok, ap, allP, true_and, and_true, implies_true] at hok hpre
  try dsimp only [T.den] at hok
  try dsimp only [T.den] at hpre
  unfold W_spec_l01In
  grind [cnd, nb_eq, inK64, c_spec_l01In, inR]
theorem ct_spec_l01In : CtOk Try.prog 84 c_spec_l01In :=
  ct_by (Φ := lkp []) good_nil tab_ok (by kernel_rfl) (fn := Try.f84) (c := bodyOf Try.f84) (by kernel_rfl) (by kernel_rfl) (by kernel_rfl) c_spec_l01In rfl .n (cutL []) (by kernel_rfl) (by kernel_rfl) k_spec_l01In (by decide) (fun x K => W_spec_l01In x.1 x.2.1 x.2.2.1 K) w_spec_l01In (fun x h1 h2 => m_spec_l01In x.1 x.2.1 x.2.2.1 h1 h2)
def c_spec_l01Map : Ct := ⟨[(.int .i64), (.sl (.int .i64))], [false, false], fun x => [], [(false, (.fz .bool))], fun x => (withinR x.2.1 x.1, ()), false, none⟩
def W_spec_l01Map (n : Int) (f : List Int) (K : Bool × Unit → Prop) : Prop := (loopW (S := ((Int × Unit) × Unit)) (fun s => (fun next => ((inK IntKind.i64 s.1.1) → (cnd (decide (s.1.1 < (((List.length f) : Nat) : Int))) (((0 : Int) ≤ s.1.1) ∧ ((s.1.1 < (((List.length f) : Nat) : Int)) ∧ ((((decide ((List.getD f (Int.toNat s.1.1) (0 : Int)) < (0 : Int))) = Bool.false) → ((s.1.1 < (((List.length f) : Nat) : Int)) ∧ ((0 : Int) ≤ s.1.1))) ∧ (cnd ((decide ((List.getD f (Int.toNat s.1.1) (0 : Int)) < (0 : Int))) || (decide (n ≤ (List.getD f (Int.toNat s.1.1) (0 : Int))))) (K (Bool.false, ())) ((inK IntKind.i64 (s.1.1 + (1 : Int))) ∧ (next (((s.1.1 + (1 : Int)), ()), ()))))))) (K (Bool.true, ())))))) (((0 : Int), ()), ()))
theorem w_spec_l01Map (x : denL c_spec_l01Map.args) (K : Bool × Unit → Prop) : evF tab (lkp []) (cutL []) Try.f58 (bodyOf Try.f58) (.s .n (.s (.s .n (.l [(5, (.d (.int .i64)))] [] [0, 1] .n)) .n)) c_spec_l01Map x K = W_spec_l01Map x.1 x.2.1 K := by kernel_rfl
theorem k_spec_l01Map : okC Try.f58.ntmps (cutL []) (bodyOf Try.f58) = true := by kernel_rfl
theorem m_spec_l01Map (n : Int) (f : List Int) (hok : allP (okL c_spec_l01Map.args (n, f, ()))) (hpre : allP (c_spec_l01Map.pre (n, f, ()))) : W_spec_l01Map n f (fun r => r = c_spec_l01Map.res (n, f, ())) := by
  simp only [c_spec_l01Map, okL, T.oks, T.ok, ap, allP, true_and, and_true, implies_true] at hok hpre
  try dsimp only [T.den] at hok
  try dsimp only [T.den] at hpre
  unfold W_spec_l01Map
  refine loop_of (fun (s : ((Int × Unit) × Unit)) => 0 ≤ s.1.1 ∧ s.1.1 ≤ f.length ∧ withinR f n = withinR (f.drop s.1.1.toNat) n) (fun (s : ((Int × Unit) × Unit)) => (f.length - s.1.1).toNat) ?_ (by simp)
  rintro ⟨⟨i, _⟩, _⟩ next ⟨h0, h1, h2⟩ hn hin
  simp only at h0 h1 h2 hn ⊢
  refine cnd_d (fun hc => ?_) (fun hc => ?_)
  · rw [drop_c f 0 h0 hc] at h2
    simp only [withinR, List.all_cons] at h2
    grind [cnd, nb_eq, inK64, c_spec_l01Map, withinR, inR]
  · rw [drop_n f (by omega)] at h2
    grind [cnd, nb_eq, inK64, c_spec_l01Map, withinR]
theorem ct_spec_l01Map : CtOk Try.prog 58 c_spec_l01Map :=
  ct_by (Φ := lkp []) good_nil tab_ok (by kernel_rfl) (fn := Try.f58) (c := bodyOf Try.f58) (by kernel_rfl) (by kernel_rfl) (by kernel_rfl) c_spec_l01Map rfl (.s .n (.s (.s .n (.l [(5, (.d (.int .i64)))] [] [0, 1] .n)) .n)) (cutL []) (by kernel_rfl) (by kernel_rfl) k_spec_l01Map (by decide) (fun x K => W_spec_l01Map x.1 x.2.1 K) w_spec_l01Map (fun x h1 h2 => m_spec_l01Map x.1 x.2.1 h1 h2)
def c_spec_l02Ends : Ct := ⟨[(.sl (.int .i64)), (.int .i64), (.int .i64)], [false, false, false], fun x => [], [(false, (.fz .bool))], fun x => ((decide ((x.1.length : Int) = x.2.1) && withinR x.1 x.2.2.1), ()), false, none⟩
def W_spec_l02Ends (list : List Int) (length : Int) (objects : Int) (K : Bool × Unit → Prop) : Prop := (K ((((((List.length list) : Nat) : Int) == length) && (withinR list objects)), ()))
theorem w_spec_l02Ends (x : denL c_spec_l02Ends.args) (K : Bool × Unit → Prop) : evF tab (lkp [(58, c_spec_l01Map)]) (cutL []) Try.f85 (bodyOf Try.f85) .n c_spec_l02Ends x K = W_spec_l02Ends x.1 x.2.1 x.2.2.1 K := by kernel_rfl
theorem k_spec_l02Ends : okC Try.f85.ntmps (cutL []) (bodyOf Try.f85) = true := by kernel_rfl
theorem m_spec_l02Ends (list : List Int) (length : Int) (objects : Int) (hok : allP (okL c_spec_l02Ends.args (list, length, objects, ()))) (hpre : allP (c_spec_l02Ends.pre (list, length, objects, ()))) : W_spec_l02Ends list length objects (fun r => r = c_spec_l02Ends.res (list, length, objects, ())) := by
  simp only [c_spec_l02Ends, okL, T.oks, T.ok, ap, allP, true_and, and_true, implies_true] at hok hpre
  try dsimp only [T.den] at hok
  try dsimp only [T.den] at hpre
  unfold W_spec_l02Ends
  have : ((list.length : Int) == length) = decide ((list.length : Int) = length) := rfl
  simp only [c_spec_l02Ends, this]
theorem ct_spec_l02Ends : CtOk Try.prog 85 c_spec_l02Ends :=
  ct_by (Φ := lkp [(58, c_spec_l01Map)]) (good_cons ct_spec_l01Map good_nil) tab_ok (by kernel_rfl) (fn := Try.f85) (c := bodyOf Try.f85) (by kernel_rfl) (by kernel_rfl) (by kernel_rfl) c_spec_l02Ends rfl .n (cutL []) (by kernel_rfl) (by kernel_rfl) k_spec_l02Ends (by decide) (fun x K => W_spec_l02Ends x.1 x.2.1 x.2.2.1 K) w_spec_l02Ends (fun x h1 h2 => m_spec_l02Ends x.1 x.2.1 x.2.2.1 h1 h2)
def c_spec_IsShape : Ct := ⟨[CategoryT], [true], fun x => [], [(false, (.fz .bool))], fun x => (shapeR x.1, ()), false, none⟩
def W_spec_IsShape (c : CategoryD) (K : Bool × Unit → Prop) : Prop := (cnd (((((!(inR c.1 (0 : Int) (8 : Int))) || (decide ((40 : Int) < (((List.length c.2.1) : Nat) : Int)))) || (!((decide ((((List.length c.2.1) : Nat) : Int) = (((List.length c.2.1) : Nat) : Int))) && (withinR c.2.1 c.1)))) || (!((decide ((((List.length c.2.2.1) : Nat) : Int) = (((List.length c.2.1) : Nat) : Int))) && (withinR c.2.2.1 c.1)))) || ((((List.length c.2.2.2.2) : Nat) : Int) != (((List.length c.2.1) : Nat) : Int))) (K (Bool.false, ())) (cnd (((((List.length c.2.2.2.1) : Nat) : Int) != c.1) || (!(withinR c.2.2.2.1 (((List.length c.2.1) : Nat) : Int)))) (K (Bool.false, ())) (loopW (S := ((Int × Unit) × Unit)) (fun s => (fun next => ((inK IntKind.i64 s.1.1) → (cnd (decide (s.1.1 < c.1)) (((0 : Int) ≤ s.1.1) ∧ ((s.1.1 < (((List.length c.2.2.2.1) : Nat) : Int)) ∧ (((0 : Int) ≤ (List.getD c.2.2.2.1 (Int.toNat s.1.1) (0 : Int))) ∧ (((List.getD c.2.2.2.1 (Int.toNat s.1.1) (0 : Int)) < (((List.length c.2.1) : Nat) : Int)) ∧ (((((List.getD c.2.1 (Int.toNat (List.getD c.2.2.2.1 (Int.toNat s.1.1) (0 : Int))) (0 : Int)) != s.1.1) = Bool.false) → ((s.1.1 < (((List.length c.2.2.2.1) : Nat) : Int)) ∧ ((0 : Int) ≤ s.1.1))) ∧ (((((List.getD c.2.1 (Int.toNat (List.getD c.2.2.2.1 (Int.toNat s.1.1) (0 : Int))) (0 : Int)) != s.1.1) = Bool.false) → (((List.getD c.2.2.2.1 (Int.toNat s.1.1) (0 : Int)) < (((List.length c.2.2.1) : Nat) : Int)) ∧ ((0 : Int) ≤ (List.getD c.2.2.2.1 (Int.toNat s.1.1) (0 : Int))))) ∧ (cnd (((List.getD c.2.1 (Int.toNat (List.getD c.2.2.2.1 (Int.toNat s.1.1) (0 : Int))) (0 : Int)) != s.1.1) || ((List.getD c.2.2.1 (Int.toNat (List.getD c.2.2.2.1 (Int.toNat s.1.1) (0 : Int))) (0 : Int)) != s.1.1)) (K (Bool.false, ())) ((inK IntKind.i64 (s.1.1 + (1 : Int))) ∧ (next (((s.1.1 + (1 : Int)), ()), ())))))))))) (loopW (S := ((Int × Unit) × Unit)) (fun s1 => (fun next1 => ((inK IntKind.i64 s1.1.1) → (cnd (decide (s1.1.1 < (((List.length c.2.1) : Nat) : Int))) (((0 : Int) ≤ s1.1.1) ∧ ((s1.1.1 < (((List.length c.2.2.2.2) : Nat) : Int)) ∧ (cnd ((((List.length (List.getD c.2.2.2.2 (Int.toNat s1.1.1) ([] : List Int))) : Nat) : Int) != (((List.length c.2.1) : Nat) : Int)) (K (Bool.false, ())) (loopW (S := ((Int × Unit) × Unit)) (fun s2 => (fun next2 => ((inK IntKind.i64 s2.1.1) → (cnd (decide (s2.1.1 < (((List.length c.2.1) : Nat) : Int))) (joinW (S := (Unit × Unit)) (fun s3 => ((inK IntKind.i64 (s2.1.1 + (1 : Int))) ∧ (next2 (((s2.1.1 + (1 : Int)), ()), ())))) (fun k => (((0 : Int) ≤ s1.1.1) ∧ ((s1.1.1 < (((List.length c.2.2.2.2) : Nat) : Int)) ∧ (((0 : Int) ≤ s2.1.1) ∧ ((s2.1.1 < (((List.length (List.getD c.2.2.2.2 (Int.toNat s1.1.1) ([] : List Int))) : Nat) : Int)) ∧ (((0 : Int) ≤ s1.1.1) ∧ ((s1.1.1 < (((List.length c.2.2.1) : Nat) : Int)) ∧ (((0 : Int) ≤ s2.1.1) ∧ ((s2.1.1 < (((List.length c.2.1) : Nat) : Int)) ∧ (cnd ((List.getD c.2.2.1 (Int.toNat s1.1.1) (0 : Int)) != (List.getD c.2.1 (Int.toNat s2.1.1) (0 : Int))) (cnd ((List.getD (List.getD c.2.2.2.2 (Int.toNat s1.1.1) ([] : List Int)) (Int.toNat s2.1.1) (0 : Int)) != (-(1 : Int))) (K (Bool.false, ())) (k ((), ()))) (((((decide ((List.getD (List.getD c.2.2.2.2 (Int.toNat s1.1.1) ([] : List Int)) (Int.toNat s2.1.1) (0 : Int)) < (0 : Int))) || (decide ((((List.length c.2.1) : Nat) : Int) ≤ (List.getD (List.getD c.2.2.2.2 (Int.toNat s1.1.1) ([] : List Int)) (Int.toNat s2.1.1) (0 : Int))))) = Bool.false) → (((List.getD (List.getD c.2.2.2.2 (Int.toNat s1.1.1) ([] : List Int)) (Int.toNat s2.1.1) (0 : Int)) < (((List.length c.2.1) : Nat) : Int)) ∧ ((0 : Int) ≤ (List.getD (List.getD c.2.2.2.2 (Int.toNat s1.1.1) ([] : List Int)) (Int.toNat s2.1.1) (0 : Int))))) ∧ (((((decide ((List.getD (List.getD c.2.2.2.2 (Int.toNat s1.1.1) ([] : List Int)) (Int.toNat s2.1.1) (0 : Int)) < (0 : Int))) || (decide ((((List.length c.2.1) : Nat) : Int) ≤ (List.getD (List.getD c.2.2.2.2 (Int.toNat s1.1.1) ([] : List Int)) (Int.toNat s2.1.1) (0 : Int))))) = Bool.false) → ((s1.1.1 < (((List.length c.2.1) : Nat) : Int)) ∧ ((0 : Int) ≤ s1.1.1))) ∧ ((((((decide ((List.getD (List.getD c.2.2.2.2 (Int.toNat s1.1.1) ([] : List Int)) (Int.toNat s2.1.1) (0 : Int)) < (0 : Int))) || (decide ((((List.length c.2.1) : Nat) : Int) ≤ (List.getD (List.getD c.2.2.2.2 (Int.toNat s1.1.1) ([] : List Int)) (Int.toNat s2.1.1) (0 : Int))))) || ((List.getD c.2.1 (Int.toNat (List.getD (List.getD c.2.2.2.2 (Int.toNat s1.1.1) ([] : List Int)) (Int.toNat s2.1.1) (0 : Int))) (0 : Int)) != (List.getD c.2.1 (Int.toNat s1.1.1) (0 : Int)))) = Bool.false) → (((List.getD (List.getD c.2.2.2.2 (Int.toNat s1.1.1) ([] : List Int)) (Int.toNat s2.1.1) (0 : Int)) < (((List.length c.2.2.1) : Nat) : Int)) ∧ ((0 : Int) ≤ (List.getD (List.getD c.2.2.2.2 (Int.toNat s1.1.1) ([] : List Int)) (Int.toNat s2.1.1) (0 : Int))))) ∧ ((((((decide ((List.getD (List.getD c.2.2.2.2 (Int.toNat s1.1.1) ([] : List Int)) (Int.toNat s2.1.1) (0 : Int)) < (0 : Int))) || (decide ((((List.length c.2.1) : Nat) : Int) ≤ (List.getD (List.getD c.2.2.2.2 (Int.toNat s1.1.1) ([] : List Int)) (Int.toNat s2.1.1) (0 : Int))))) || ((List.getD c.2.1 (Int.toNat (List.getD (List.getD c.2.2.2.2 (Int.toNat s1.1.1) ([] : List Int)) (Int.toNat s2.1.1) (0 : Int))) (0 : Int)) != (List.getD c.2.1 (Int.toNat s1.1.1) (0 : Int)))) = Bool.false) → ((s2.1.1 < (((List.length c.2.2.1) : Nat) : Int)) ∧ ((0 : Int) ≤ s2.1.1))) ∧ (cnd ((((decide ((List.getD (List.getD c.2.2.2.2 (Int.toNat s1.1.1) ([] : List Int)) (Int.toNat s2.1.1) (0 : Int)) < (0 : Int))) || (decide ((((List.length c.2.1) : Nat) : Int) ≤ (List.getD (List.getD c.2.2.2.2 (Int.toNat s1.1.1) ([] : List Int)) (Int.toNat s2.1.1) (0 : Int))))) || ((List.getD c.2.1 (Int.toNat (List.getD (List.getD c.2.2.2.2 (Int.toNat s1.1.1) ([] : List Int)) (Int.toNat s2.1.1) (0 : Int))) (0 : Int)) != (List.getD c.2.1 (Int.toNat s1.1.1) (0 : Int)))) || ((List.getD c.2.2.1 (Int.toNat (List.getD (List.getD c.2.2.2.2 (Int.toNat s1.1.1) ([] : List Int)) (Int.toNat s2.1.1) (0 : Int))) (0 : Int)) != (List.getD c.2.2.1 (Int.toNat s2.1.1) (0 : Int)))) (K (Bool.false, ())) (k ((), ())))))))))))))))))) ((inK IntKind.i64 (s1.1.1 + (1 : Int))) ∧ (next1 (((s1.1.1 + (1 : Int)), ()), ()))))))) (((0 : Int), ()), ()))))) (K (Bool.true, ())))))) (((0 : Int), ()), ())))))) (((0 : Int), ()), ()))))
theorem w_spec_IsShape (x : denL c_spec_IsShape.args) (K : Bool × Unit → Prop) : evF tab (lkp [(84, c_spec_l01In), (58, c_spec_l01Map), (85, c_spec_l02Ends)]) (cutL [(20, 11), (23, 33), (9, 24)]) Try.f56 (bodyOf Try.f56) (.s .n (.s .n (.s .n (.s .n (.s (.s .n (.l [(4, (.d (.int .i64)))] [] [1, 3] .n)) (.s (.s .n (.l [(5, (.d (.int .i64)))] [] [1, 3] (.s .n (.s (.s .n (.s .n (.l [(6, (.d (.int .i64)))] [] [1, 3, 5] (.s .n (.s (.j [] [] [1, 3, 5, 6] .n) .n))))) .n)))) .n)))))) c_spec_IsShape x K = W_spec_IsShape x.1 K := by kernel_rfl
theorem k_spec_IsShape : okC Try.f56.ntmps (cutL [(20, 11), (23, 33), (9, 24)]) (bodyOf Try.f56) = true := by kernel_rfl
theorem m_spec_IsShape (c : CategoryD) (hok : allP (okL c_spec_IsShape.args (c, ()))) (hpre : allP (c_spec_IsShape.pre (c, ()))) : W_spec_IsShape c (fun r => r = c_spec_IsShape.res (c, ())) := by
  simp only [c_spec_IsShape, okL, T.oks, T.ok, ap, allP, true_and, and_true, implies_true] at hok hpre
  try dsimp only [T.den] at hok
  try dsimp only [T.den] at hpre
  unfold W_spec_IsShape
  have bad : ¬ ShapeP c → (false, ()) = c_spec_IsShape.res (c, ()) := fun h => by simp only [c_spec_IsShape]; rw [shape_f h]
  refine cnd_of (fun hc => bad fun h => ?_) (fun hc => cnd_of (fun hd => bad fun h => ?_) (fun hd => ?_))
  · have h1 := h.ob; have h2 := h.m; have h3 := h.lt; have h4 := h.fr; have h5 := h.to; have h6 := h.lc; simp only [inR] at hc; grind [cnd, nb_eq, inK64]
  · have h1 := h.li; have h2 := h.ids; grind [cnd, nb_eq, inK64]
  simp only [inR, Bool.or_eq_false_iff, Bool.not_eq_false', Bool.and_eq_true, decide_eq_true_eq, decide_eq_false_iff_not, bne_eq_false_iff_eq] at hc hd
  obtain ⟨⟨⟨⟨hob, hm⟩, _, hfr⟩, hlt, hto⟩, hlc⟩ := hc
  obtain ⟨hli, hids⟩ := hd
  refine loop_ix (n := c.1) (fun x => ∀ y : Int, 0 ≤ y → y < x → c.2.1.getD (c.2.2.2.1.getD y.toNat 0).toNat 0 = y ∧ c.2.2.1.getD (c.2.2.2.1.getD y.toNat 0).toNat 0 = y) (by omega) (by intro y h0 h1; omega) ?_ ?_
  · intro x next h0 h1 hP hn hin
    have hb := within_iff.1 hids x h0 (by omega)
    try dsimp only
    refine cnd_d (fun _ => ⟨h0, by omega, hb.1, hb.2, fun _ => by omega, fun _ => by omega, cnd_of (fun hx => bad fun h => ?_) (fun hx => ?_)⟩) (fun h => absurd h1 h)
    · have := h.idt x h0 (by omega)
      rw [this.1, this.2] at hx
      simp at hx
    · simp only [Bool.or_eq_false_iff, bne_eq_false_iff_eq] at hx
      refine ⟨by rw [inK64]; (try dsimp only); omega, hn fun y y0 y1 => ?_⟩
      by_cases e : y = x
      · rw [e]; exact hx
      · exact hP y y0 (by omega)
  intro next hidt hin
  refine cnd_d (fun h => absurd h (by dsimp only; omega)) (fun _ => ?_)
  refine loop_ix (n := c.2.1.length) (fun f => ∀ f' : Int, 0 ≤ f' → f' < f → (c.2.2.2.2.getD f'.toNat []).length = c.2.1.length ∧ ∀ g : Int, 0 ≤ g → g < c.2.1.length → cellR c f' g = true) (by omega) (by intro y h0 h1; omega) ?_ ?_
  · intro f next h0 h1 hP hn hin
    try dsimp only
    refine cnd_d (fun _ => ⟨h0, by omega, cnd_of (fun hx => bad fun h => ?_) (fun hx => ?_)⟩) (fun h => absurd h1 h)
    · have := h.row f h0 (by omega)
      rw [this] at hx
      simp at hx
    simp only [bne_eq_false_iff_eq] at hx
    refine loop_ix (n := c.2.1.length) (fun g => ∀ g' : Int, 0 ≤ g' → g' < g → cellR c f g' = true) (by omega) (by intro y h0 h1; omega) ?_ ?_
    · intro g next3 g0 g1 hP3 hn3 hin3
      try dsimp only
      refine cnd_d (fun _ => ?_) (fun h => absurd g1 h)
      refine join_of (fun _ => cellR c f g = true) (fun _ hcell => ⟨by rw [inK64]; (try dsimp only); omega, hn3 fun g' y0 y1 => ?_⟩) (fun k hk => ?_)
      · by_cases e : g' = g
        · rw [e]; exact hcell
        · exact hP3 g' y0 (by omega)
      have hcell : ∀ b, cellR c f g = b → b = false → ¬ ShapeP c := fun b h1 h2 h => by
        have := h.cell f g h0 (by omega) g0 (by omega)
        rw [h1, h2] at this; cases this
      have hk' := hk ((), ())
      obtain ⟨v, hv⟩ : ∃ v, (c.2.2.2.2.getD f.toNat []).getD g.toNat 0 = v := ⟨_, rfl⟩
      have hR : cellR c f g = cellQ c f g v := by unfold cellR compR; rw [hv]
      rw [hR] at hk'
      rw [hR] at hcell
      rw [hv]
      clear hP3 hn3 hP hn hk hR hv hidt hok
      refine ⟨h0, by omega, g0, by omega, h0, by omega, g0, by omega, cnd_of (fun ha => cnd_of (fun hb => bad ?_) (fun hb => hk' ?_)) (fun ha => ⟨fun hv => ?_, fun _ => ⟨by omega, h0⟩, fun hv => ?_, fun _ => ⟨by omega, g0⟩, cnd_of (fun hb => bad ?_) (fun hb => hk' ?_)⟩)⟩
      · exact hcell _ rfl (by grind [cnd, nb_eq, inK64, cellQ])
      · grind [cnd, nb_eq, inK64, cellQ]
      · simp only [Bool.or_eq_false_iff, decide_eq_false_iff_not] at hv; omega
      · simp only [Bool.or_eq_false_iff, decide_eq_false_iff_not] at hv; omega
      · exact hcell _ rfl (by grind [cnd, nb_eq, inK64, cellQ])
      · grind [cnd, nb_eq, inK64, cellQ]
    · intro next3 hP3 hin3
      refine cnd_d (fun h => absurd h (by dsimp only; omega)) (fun _ => ⟨by rw [inK64]; (try dsimp only); omega, hn fun f' y0 y1 => ?_⟩)
      by_cases e : f' = f
      · rw [e]; exact ⟨by omega, fun g g0 g1 => hP3 g g0 (by omega)⟩
      · exact hP f' y0 (by omega)
  · intro next2 hP2 hin2
    refine cnd_d (fun h => absurd h (by dsimp only; omega)) (fun _ => ?_)
    simp only [c_spec_IsShape]
    rw [shape_t ⟨hob, by omega, by omega, hfr, hto, by omega, hids, by omega, fun x a b => hidt x a (by omega), fun f a b => (hP2 f a (by omega)).1, fun f g a b d e => (hP2 f a (by omega)).2 g d e⟩]
theorem ct_spec_IsShape : CtOk Try.prog 56 c_spec_IsShape :=
  ct_by (Φ := lkp [(84, c_spec_l01In), (58, c_spec_l01Map), (85, c_spec_l02Ends)]) (good_cons ct_spec_l01In (good_cons ct_spec_l01Map (good_cons ct_spec_l02Ends good_nil))) tab_ok (by kernel_rfl) (fn := Try.f56) (c := bodyOf Try.f56) (by kernel_rfl) (by kernel_rfl) (by kernel_rfl) c_spec_IsShape rfl (.s .n (.s .n (.s .n (.s .n (.s (.s .n (.l [(4, (.d (.int .i64)))] [] [1, 3] .n)) (.s (.s .n (.l [(5, (.d (.int .i64)))] [] [1, 3] (.s .n (.s (.s .n (.s .n (.l [(6, (.d (.int .i64)))] [] [1, 3, 5] (.s .n (.s (.j [] [] [1, 3, 5, 6] .n) .n))))) .n)))) .n)))))) (cutL [(20, 11), (23, 33), (9, 24)]) (by kernel_rfl) (by kernel_rfl) k_spec_IsShape (by decide) (fun x K => W_spec_IsShape x.1 K) w_spec_IsShape (fun x h1 h2 => m_spec_IsShape x.1 h1 h2)
def c_spec_l02Fault : Ct := ⟨[CategoryT], [true], fun x => [ShapeP x.1], [(false, (.fz (.int .i64))), (false, (.fz (.int .i64))), (false, (.fz (.int .i64))), (false, (.fz (.int .i64)))], fun x => ((faultR x.1).1, (faultR x.1).2.1, (faultR x.1).2.2.1, (faultR x.1).2.2.2, ()), false, none⟩
def W_spec_l02Fault (c : CategoryD) (K : Int × Int × Int × Int × Unit → Prop) : Prop := (loopW (S := ((Int × Unit) × Unit)) (fun s => (fun next => ((inK IntKind.i64 s.1.1) → (cnd (decide (s.1.1 < (((List.length c.2.1) : Nat) : Int))) (((0 : Int) ≤ s.1.1) ∧ ((s.1.1 < (((List.length c.2.1) : Nat) : Int)) ∧ (((0 : Int) ≤ (List.getD c.2.1 (Int.toNat s.1.1) (0 : Int))) ∧ (((List.getD c.2.1 (Int.toNat s.1.1) (0 : Int)) < (((List.length c.2.2.2.1) : Nat) : Int)) ∧ (((0 : Int) ≤ (List.getD c.2.2.2.1 (Int.toNat (List.getD c.2.1 (Int.toNat s.1.1) (0 : Int))) (0 : Int))) ∧ (((List.getD c.2.2.2.1 (Int.toNat (List.getD c.2.1 (Int.toNat s.1.1) (0 : Int))) (0 : Int)) < (((List.length c.2.2.2.2) : Nat) : Int)) ∧ (((0 : Int) ≤ s.1.1) ∧ ((s.1.1 < (((List.length (List.getD c.2.2.2.2 (Int.toNat (List.getD c.2.2.2.1 (Int.toNat (List.getD c.2.1 (Int.toNat s.1.1) (0 : Int))) (0 : Int))) ([] : List Int))) : Nat) : Int)) ∧ (((((List.getD (List.getD c.2.2.2.2 (Int.toNat (List.getD c.2.2.2.1 (Int.toNat (List.getD c.2.1 (Int.toNat s.1.1) (0 : Int))) (0 : Int))) ([] : List Int)) (Int.toNat s.1.1) (0 : Int)) != s.1.1) = Bool.false) → ((s.1.1 < (((List.length c.2.2.2.2) : Nat) : Int)) ∧ ((0 : Int) ≤ s.1.1))) ∧ (((((List.getD (List.getD c.2.2.2.2 (Int.toNat (List.getD c.2.2.2.1 (Int.toNat (List.getD c.2.1 (Int.toNat s.1.1) (0 : Int))) (0 : Int))) ([] : List Int)) (Int.toNat s.1.1) (0 : Int)) != s.1.1) = Bool.false) → ((s.1.1 < (((List.length c.2.2.1) : Nat) : Int)) ∧ ((0 : Int) ≤ s.1.1))) ∧ (((((List.getD (List.getD c.2.2.2.2 (Int.toNat (List.getD c.2.2.2.1 (Int.toNat (List.getD c.2.1 (Int.toNat s.1.1) (0 : Int))) (0 : Int))) ([] : List Int)) (Int.toNat s.1.1) (0 : Int)) != s.1.1) = Bool.false) → (((List.getD c.2.2.1 (Int.toNat s.1.1) (0 : Int)) < (((List.length c.2.2.2.1) : Nat) : Int)) ∧ ((0 : Int) ≤ (List.getD c.2.2.1 (Int.toNat s.1.1) (0 : Int))))) ∧ (((((List.getD (List.getD c.2.2.2.2 (Int.toNat (List.getD c.2.2.2.1 (Int.toNat (List.getD c.2.1 (Int.toNat s.1.1) (0 : Int))) (0 : Int))) ([] : List Int)) (Int.toNat s.1.1) (0 : Int)) != s.1.1) = Bool.false) → (((List.getD c.2.2.2.1 (Int.toNat (List.getD c.2.2.1 (Int.toNat s.1.1) (0 : Int))) (0 : Int)) < (((List.length (List.getD c.2.2.2.2 (Int.toNat s.1.1) ([] : List Int))) : Nat) : Int)) ∧ ((0 : Int) ≤ (List.getD c.2.2.2.1 (Int.toNat (List.getD c.2.2.1 (Int.toNat s.1.1) (0 : Int))) (0 : Int))))) ∧ (cnd (((List.getD (List.getD c.2.2.2.2 (Int.toNat (List.getD c.2.2.2.1 (Int.toNat (List.getD c.2.1 (Int.toNat s.1.1) (0 : Int))) (0 : Int))) ([] : List Int)) (Int.toNat s.1.1) (0 : Int)) != s.1.1) || ((List.getD (List.getD c.2.2.2.2 (Int.toNat s.1.1) ([] : List Int)) (Int.toNat (List.getD c.2.2.2.1 (Int.toNat (List.getD c.2.2.1 (Int.toNat s.1.1) (0 : Int))) (0 : Int))) (0 : Int)) != s.1.1)) (K ((1 : Int), (s.1.1, ((0 : Int), ((0 : Int), ()))))) ((inK IntKind.i64 (s.1.1 + (1 : Int))) ∧ (next (((s.1.1 + (1 : Int)), ()), ())))))))))))))))) (loopW (S := ((Int × Unit) × Unit)) (fun s1 => (fun next1 => ((inK IntKind.i64 s1.1.1) → (cnd (decide (s1.1.1 < (((List.length c.2.1) : Nat) : Int))) (loopW (S := ((Int × Unit) × Unit)) (fun s2 => (fun next2 => ((inK IntKind.i64 s2.1.1) → (cnd (decide (s2.1.1 < (((List.length c.2.1) : Nat) : Int))) (joinW (S := (Unit × Unit)) (fun s3 => ((inK IntKind.i64 (s2.1.1 + (1 : Int))) ∧ (next2 (((s2.1.1 + (1 : Int)), ()), ())))) (fun k => (((0 : Int) ≤ s1.1.1) ∧ ((s1.1.1 < (((List.length c.2.2.1) : Nat) : Int)) ∧ (((0 : Int) ≤ s2.1.1) ∧ ((s2.1.1 < (((List.length c.2.1) : Nat) : Int)) ∧ (cnd ((List.getD c.2.2.1 (Int.toNat s1.1.1) (0 : Int)) != (List.getD c.2.1 (Int.toNat s2.1.1) (0 : Int))) (k ((), ())) (loopW (S := ((Int × Unit) × Unit)) (fun s3 => (fun next3 => ((inK IntKind.i64 s3.1.1) → (cnd (decide (s3.1.1 < (((List.length c.2.1) : Nat) : Int))) (((0 : Int) ≤ s2.1.1) ∧ ((s2.1.1 < (((List.length c.2.2.1) : Nat) : Int)) ∧ (((0 : Int) ≤ s3.1.1) ∧ ((s3.1.1 < (((List.length c.2.1) : Nat) : Int)) ∧ (((((List.getD c.2.2.1 (Int.toNat s2.1.1) (0 : Int)) == (List.getD c.2.1 (Int.toNat s3.1.1) (0 : Int))) = Bool.true) → ((s1.1.1 < (((List.length c.2.2.2.2) : Nat) : Int)) ∧ ((0 : Int) ≤ s1.1.1))) ∧ (((((List.getD c.2.2.1 (Int.toNat s2.1.1) (0 : Int)) == (List.getD c.2.1 (Int.toNat s3.1.1) (0 : Int))) = Bool.true) → ((s2.1.1 < (((List.length (List.getD c.2.2.2.2 (Int.toNat s1.1.1) ([] : List Int))) : Nat) : Int)) ∧ ((0 : Int) ≤ s2.1.1))) ∧ (((((List.getD c.2.2.1 (Int.toNat s2.1.1) (0 : Int)) == (List.getD c.2.1 (Int.toNat s3.1.1) (0 : Int))) = Bool.true) → (((List.getD (List.getD c.2.2.2.2 (Int.toNat s1.1.1) ([] : List Int)) (Int.toNat s2.1.1) (0 : Int)) < (((List.length c.2.2.2.2) : Nat) : Int)) ∧ ((0 : Int) ≤ (List.getD (List.getD c.2.2.2.2 (Int.toNat s1.1.1) ([] : List Int)) (Int.toNat s2.1.1) (0 : Int))))) ∧ (((((List.getD c.2.2.1 (Int.toNat s2.1.1) (0 : Int)) == (List.getD c.2.1 (Int.toNat s3.1.1) (0 : Int))) = Bool.true) → ((s3.1.1 < (((List.length (List.getD c.2.2.2.2 (Int.toNat (List.getD (List.getD c.2.2.2.2 (Int.toNat s1.1.1) ([] : List Int)) (Int.toNat s2.1.1) (0 : Int))) ([] : List Int))) : Nat) : Int)) ∧ ((0 : Int) ≤ s3.1.1))) ∧ (((((List.getD c.2.2.1 (Int.toNat s2.1.1) (0 : Int)) == (List.getD c.2.1 (Int.toNat s3.1.1) (0 : Int))) = Bool.true) → ((s1.1.1 < (((List.length c.2.2.2.2) : Nat) : Int)) ∧ ((0 : Int) ≤ s1.1.1))) ∧ (((((List.getD c.2.2.1 (Int.toNat s2.1.1) (0 : Int)) == (List.getD c.2.1 (Int.toNat s3.1.1) (0 : Int))) = Bool.true) → ((s2.1.1 < (((List.length c.2.2.2.2) : Nat) : Int)) ∧ ((0 : Int) ≤ s2.1.1))) ∧ (((((List.getD c.2.2.1 (Int.toNat s2.1.1) (0 : Int)) == (List.getD c.2.1 (Int.toNat s3.1.1) (0 : Int))) = Bool.true) → ((s3.1.1 < (((List.length (List.getD c.2.2.2.2 (Int.toNat s2.1.1) ([] : List Int))) : Nat) : Int)) ∧ ((0 : Int) ≤ s3.1.1))) ∧ (((((List.getD c.2.2.1 (Int.toNat s2.1.1) (0 : Int)) == (List.getD c.2.1 (Int.toNat s3.1.1) (0 : Int))) = Bool.true) → (((List.getD (List.getD c.2.2.2.2 (Int.toNat s2.1.1) ([] : List Int)) (Int.toNat s3.1.1) (0 : Int)) < (((List.length (List.getD c.2.2.2.2 (Int.toNat s1.1.1) ([] : List Int))) : Nat) : Int)) ∧ ((0 : Int) ≤ (List.getD (List.getD c.2.2.2.2 (Int.toNat s2.1.1) ([] : List Int)) (Int.toNat s3.1.1) (0 : Int))))) ∧ (cnd (((List.getD c.2.2.1 (Int.toNat s2.1.1) (0 : Int)) == (List.getD c.2.1 (Int.toNat s3.1.1) (0 : Int))) && ((List.getD (List.getD c.2.2.2.2 (Int.toNat (List.getD (List.getD c.2.2.2.2 (Int.toNat s1.1.1) ([] : List Int)) (Int.toNat s2.1.1) (0 : Int))) ([] : List Int)) (Int.toNat s3.1.1) (0 : Int)) != (List.getD (List.getD c.2.2.2.2 (Int.toNat s1.1.1) ([] : List Int)) (Int.toNat (List.getD (List.getD c.2.2.2.2 (Int.toNat s2.1.1) ([] : List Int)) (Int.toNat s3.1.1) (0 : Int))) (0 : Int)))) (K ((2 : Int), (s1.1.1, (s2.1.1, (s3.1.1, ()))))) ((inK IntKind.i64 (s3.1.1 + (1 : Int))) ∧ (next3 (((s3.1.1 + (1 : Int)), ()), ())))))))))))))))) (k ((), ())))))) (((0 : Int), ()), ()))))))))) ((inK IntKind.i64 (s1.1.1 + (1 : Int))) ∧ (next1 (((s1.1.1 + (1 : Int)), ()), ()))))))) (((0 : Int), ()), ())) (K ((0 : Int), ((0 : Int), ((0 : Int), ((0 : Int), ()))))))))) (((0 : Int), ()), ())))))) (((0 : Int), ()), ()))
theorem w_spec_l02Fault (x : denL c_spec_l02Fault.args) (K : Int × Int × Int × Int × Unit → Prop) : evF tab (lkp []) (cutL [(17, 44), (5, 38), (13, 11)]) Try.f57 (bodyOf Try.f57) (.s .n (.s .n (.s (.s .n (.l [(7, (.d (.int .i64)))] [] [1, 6] .n)) (.s (.s .n (.l [(8, (.d (.int .i64)))] [] [1, 6] (.s .n (.s (.s .n (.l [(9, (.d (.int .i64)))] [] [1, 6, 8] (.s .n (.s (.j [] [] [1, 6, 8, 9] (.s .n (.s .n (.l [(10, (.d (.int .i64)))] [] [1, 6, 8, 9] .n)))) .n)))) .n)))) .n)))) c_spec_l02Fault x K = W_spec_l02Fault x.1 K := by kernel_rfl
theorem k_spec_l02Fault : okC Try.f57.ntmps (cutL [(17, 44), (5, 38), (13, 11)]) (bodyOf Try.f57) = true := by kernel_rfl
theorem m_spec_l02Fault (c : CategoryD) (hok : allP (okL c_spec_l02Fault.args (c, ()))) (hpre : allP (c_spec_l02Fault.pre (c, ()))) : W_spec_l02Fault c (fun r => r = c_spec_l02Fault.res (c, ())) := by
  simp only [c_spec_l02Fault, okL, T.oks, T.ok, ap, allP, true_and, and_true, implies_true] at hok hpre
  try dsimp only [T.den] at hok
  try dsimp only [T.den] at hpre
  unfold W_spec_l02Fault
  have S : ShapeP c := hpre
  have hlt := S.lt
  have hli := S.li
  have hlc := S.lc
  have hmm := S.m
  have resq : ∀ a b d e, faultR c = (a, b, d, e) → (a, b, d, e, ()) = c_spec_l02Fault.res (c, ()) := fun a b d e h => by simp only [c_spec_l02Fault, h]
  have hcr : ∀ f g : Int, (c.2.2.2.2.getD f.toNat []).getD g.toNat 0 = compR c f g := fun _ _ => rfl
  simp only [hcr]
  refine loop_ix (n := c.2.1.length) (fun f => scanR (faultI c) c.2.1.length 0 = scanR (faultI c) ((c.2.1.length : Int) - f).toNat f) (by omega) scan_0 ?_ ?_
  · intro f next h0 h1 hP hn hin
    try dsimp only
    obtain ⟨a1, a2, a3, a4⟩ := S.frm h0 h1
    obtain ⟨b1, b2, _, _⟩ := S.idn a1 a2
    obtain ⟨d1, d2, _, _⟩ := S.idn a3 a4
    have r1 := S.row _ b1 b2
    have r2 := S.row f h0 h1
    refine cnd_d (fun _ => ⟨h0, h1, by omega, by omega, by omega, by omega, h0, by omega, fun _ => by omega, fun _ => by omega, fun _ => by omega, fun _ => by omega, cnd_of (fun hx => resq _ _ _ _ ?_) (fun hx => ⟨by rw [inK64]; (try dsimp only); omega, hn ?_⟩)⟩) (fun h => absurd h1 h)
    · have : faultI c f = some (1, f, 0, 0) := by unfold faultI; rw [if_pos]; simpa using hx
      unfold faultR; rw [hP, scan_s h1 this]; rfl
    · have : faultI c f = none := by unfold faultI; rw [if_neg]; simpa using hx
      rw [hP, scan_c h1 this]
  intro next hI hin
  rw [scan_n] at hI
  refine cnd_d (fun h => absurd h (by dsimp only; omega)) (fun _ => ?_)
  have hF : faultR c = orR (scanR (faultF c) c.2.1.length 0) (0, 0, 0, 0) := by unfold faultR; rw [hI]; rfl
  refine loop_ix (n := c.2.1.length) (fun f => scanR (faultF c) c.2.1.length 0 = scanR (faultF c) ((c.2.1.length : Int) - f).toNat f) (by omega) scan_0 ?_ ?_
  · intro f next h0 h1 hP hn hin
    try dsimp only
    refine cnd_d (fun _ => ?_) (fun h => absurd h1 h)
    have r1 := S.row f h0 h1
    refine loop_ix (n := c.2.1.length) (fun g => faultF c f = scanR (faultG c f) ((c.2.1.length : Int) - g).toNat g) (by omega) scan_0 ?_ ?_
    · intro g next3 g0 g1 hP3 hn3 hin3
      try dsimp only
      refine cnd_d (fun _ => ?_) (fun h => absurd g1 h)
      have r2 := S.row g g0 g1
      refine join_of (fun _ => faultG c f g = none) (fun _ hG => ⟨by rw [inK64]; (try dsimp only); omega, hn3 (by rw [hP3, scan_c g1 hG])⟩) (fun k hk => ?_)
      have hk' := hk ((), ())
      refine ⟨by omega, by omega, by omega, by omega, cnd_of (fun hx => hk' ?_) (fun hx => ?_)⟩
      · unfold faultG; rw [if_neg]; simpa using hx
      have hfg : c.2.2.1.getD f.toNat 0 = c.2.1.getD g.toNat 0 := by rw [bne_eq_false_iff_eq] at hx; exact hx
      obtain ⟨y1, y2, _, _⟩ := S.yes h0 h1 g0 g1 hfg
      refine loop_ix (n := c.2.1.length) (fun h => faultG c f g = scanR (faultH c f g) ((c.2.1.length : Int) - h).toNat h) (by omega) (by unfold faultG; rw [if_pos hfg]; exact scan_0) ?_ ?_
      · intro h next4 i0 i1 hP4 hn4 hin4
        try dsimp only
        refine cnd_d (fun _ => ?_) (fun h => absurd i1 h)
        have r3 := S.row _ y1 y2
        have cgh := S.comp g0 g1 i0 i1
        have ygh := @ShapeP.yes c S g h g0 g1 i0 i1
        refine ⟨by omega, by omega, by omega, by omega, fun _ => by omega, fun _ => by omega, fun _ => by omega, fun _ => by omega, fun _ => by omega, fun _ => by omega, fun _ => by omega, fun he => ?_, cnd_of (fun hx => resq _ _ _ _ ?_) (fun hx => ⟨by rw [inK64]; (try dsimp only); omega, hn4 ?_⟩)⟩
        · have := ygh (by simpa only [beq_iff_eq] using he); omega
        · have : faultH c f g h = some (2, f, g, h) := by unfold faultH; rw [if_pos]; simpa using hx
          have e1 : faultG c f g = some (2, f, g, h) := by rw [hP4, scan_s i1 this]
          have e2 : faultF c f = some (2, f, g, h) := by rw [hP3, scan_s g1 e1]
          rw [hF, hP, scan_s h1 e2]; rfl
        · have : faultH c f g h = none := by unfold faultH; rw [if_neg]; simpa using hx
          rw [hP4, scan_c i1 this]
      · intro next4 hP4 hin4
        rw [scan_n] at hP4
        exact cnd_d (fun h => absurd h (by dsimp only; omega)) (fun _ => hk' hP4)
    · intro next3 hP3 hin3
      rw [scan_n] at hP3
      exact cnd_d (fun h => absurd h (by dsimp only; omega)) (fun _ => ⟨by rw [inK64]; (try dsimp only); omega, hn (by rw [hP, scan_c h1 hP3])⟩)
  · intro next2 hP2 hin2
    rw [scan_n] at hP2
    refine cnd_d (fun h => absurd h (by dsimp only; omega)) (fun _ => resq _ _ _ _ ?_)
    rw [hF, hP2]; rfl
theorem ct_spec_l02Fault : CtOk Try.prog 57 c_spec_l02Fault :=
  ct_by (Φ := lkp []) good_nil tab_ok (by kernel_rfl) (fn := Try.f57) (c := bodyOf Try.f57) (by kernel_rfl) (by kernel_rfl) (by kernel_rfl) c_spec_l02Fault rfl (.s .n (.s .n (.s (.s .n (.l [(7, (.d (.int .i64)))] [] [1, 6] .n)) (.s (.s .n (.l [(8, (.d (.int .i64)))] [] [1, 6] (.s .n (.s (.s .n (.l [(9, (.d (.int .i64)))] [] [1, 6, 8] (.s .n (.s (.j [] [] [1, 6, 8, 9] (.s .n (.s .n (.l [(10, (.d (.int .i64)))] [] [1, 6, 8, 9] .n)))) .n)))) .n)))) .n)))) (cutL [(17, 44), (5, 38), (13, 11)]) (by kernel_rfl) (by kernel_rfl) k_spec_l02Fault (by decide) (fun x K => W_spec_l02Fault x.1 K) w_spec_l02Fault (fun x h1 h2 => m_spec_l02Fault x.1 h1 h2)
def c_spec_l02Is : Ct := ⟨[CategoryT], [true], fun x => [], [(false, (.fz .bool))], fun x => (catR x.1, ()), false, none⟩
def W_spec_l02Is (c : CategoryD) (K : Bool × Unit → Prop) : Prop := (cnd (!(shapeR c)) (K (Bool.false, ())) ((ShapeP c) ∧ (K (((faultR c).1 == (0 : Int)), ()))))
theorem w_spec_l02Is (x : denL c_spec_l02Is.args) (K : Bool × Unit → Prop) : evF tab (lkp [(56, c_spec_IsShape), (57, c_spec_l02Fault)]) (cutL []) Try.f33 (bodyOf Try.f33) .n c_spec_l02Is x K = W_spec_l02Is x.1 K := by kernel_rfl
theorem k_spec_l02Is : okC Try.f33.ntmps (cutL []) (bodyOf Try.f33) = true := by kernel_rfl
theorem m_spec_l02Is (c : CategoryD) (hok : allP (okL c_spec_l02Is.args (c, ()))) (hpre : allP (c_spec_l02Is.pre (c, ()))) : W_spec_l02Is c (fun r => r = c_spec_l02Is.res (c, ())) := by
  simp only [c_spec_l02Is, okL, T.oks, T.ok, ap, allP, true_and, and_true, implies_true] at hok hpre
  try dsimp only [T.den] at hok
  try dsimp only [T.den] at hpre
  unfold W_spec_l02Is
  simp only [c_spec_l02Is, catR]
  have := @shape_iff c
  grind [cnd, nb_eq, inK64]
theorem ct_spec_l02Is : CtOk Try.prog 33 c_spec_l02Is :=
  ct_by (Φ := lkp [(56, c_spec_IsShape), (57, c_spec_l02Fault)]) (good_cons ct_spec_IsShape (good_cons ct_spec_l02Fault good_nil)) tab_ok (by kernel_rfl) (fn := Try.f33) (c := bodyOf Try.f33) (by kernel_rfl) (by kernel_rfl) (by kernel_rfl) c_spec_l02Is rfl .n (cutL []) (by kernel_rfl) (by kernel_rfl) k_spec_l02Is (by decide) (fun x K => W_spec_l02Is x.1 K) w_spec_l02Is (fun x h1 h2 => m_spec_l02Is x.1 h1 h2)
def c_spec_l19Shape : Ct := ⟨[SetFunctorT], [true], fun x => [], [(false, (.fz .bool))], fun x => (sfShapeR x.1, ()), false, none⟩
def W_spec_l19Shape (f : SetFunctorD) (K : Bool × Unit → Prop) : Prop := (cnd (((!(catR f.1)) || ((((List.length f.2.1) : Nat) : Int) != f.1.1)) || ((((List.length f.2.2) : Nat) : Int) != (((List.length f.1.2.1) : Nat) : Int))) (K (Bool.false, ())) (loopW (S := ((Int × Unit) × Unit)) (fun s => (fun next => ((inK IntKind.i64 s.1.1) → (cnd (decide (s.1.1 < (((List.length f.2.1) : Nat) : Int))) (((0 : Int) ≤ s.1.1) ∧ ((s.1.1 < (((List.length f.2.1) : Nat) : Int)) ∧ (cnd (!(inR (List.getD f.2.1 (Int.toNat s.1.1) (0 : Int)) (0 : Int) (16 : Int))) (K (Bool.false, ())) ((inK IntKind.i64 (s.1.1 + (1 : Int))) ∧ (next (((s.1.1 + (1 : Int)), ()), ())))))) (loopW (S := ((Int × Unit) × Unit)) (fun s1 => (fun next1 => ((inK IntKind.i64 s1.1.1) → (cnd (decide (s1.1.1 < (((List.length f.2.2) : Nat) : Int))) (((0 : Int) ≤ s1.1.1) ∧ ((s1.1.1 < (((List.length f.2.2) : Nat) : Int)) ∧ (((0 : Int) ≤ s1.1.1) ∧ ((s1.1.1 < (((List.length f.1.2.1) : Nat) : Int)) ∧ (((0 : Int) ≤ (List.getD f.1.2.1 (Int.toNat s1.1.1) (0 : Int))) ∧ (((List.getD f.1.2.1 (Int.toNat s1.1.1) (0 : Int)) < (((List.length f.2.1) : Nat) : Int)) ∧ (((((((List.length (List.getD f.2.2 (Int.toNat s1.1.1) ([] : List Int))) : Nat) : Int) != (List.getD f.2.1 (Int.toNat (List.getD f.1.2.1 (Int.toNat s1.1.1) (0 : Int))) (0 : Int))) = Bool.false) → ((s1.1.1 < (((List.length f.1.2.2.1) : Nat) : Int)) ∧ ((0 : Int) ≤ s1.1.1))) ∧ (((((((List.length (List.getD f.2.2 (Int.toNat s1.1.1) ([] : List Int))) : Nat) : Int) != (List.getD f.2.1 (Int.toNat (List.getD f.1.2.1 (Int.toNat s1.1.1) (0 : Int))) (0 : Int))) = Bool.false) → (((List.getD f.1.2.2.1 (Int.toNat s1.1.1) (0 : Int)) < (((List.length f.2.1) : Nat) : Int)) ∧ ((0 : Int) ≤ (List.getD f.1.2.2.1 (Int.toNat s1.1.1) (0 : Int))))) ∧ (((((((List.length (List.getD f.2.2 (Int.toNat s1.1.1) ([] : List Int))) : Nat) : Int) != (List.getD f.2.1 (Int.toNat (List.getD f.1.2.1 (Int.toNat s1.1.1) (0 : Int))) (0 : Int))) = Bool.false) → ((s1.1.1 < (((List.length f.2.2) : Nat) : Int)) ∧ ((0 : Int) ≤ s1.1.1))) ∧ (cnd (((((List.length (List.getD f.2.2 (Int.toNat s1.1.1) ([] : List Int))) : Nat) : Int) != (List.getD f.2.1 (Int.toNat (List.getD f.1.2.1 (Int.toNat s1.1.1) (0 : Int))) (0 : Int))) || (!(withinR (List.getD f.2.2 (Int.toNat s1.1.1) ([] : List Int)) (List.getD f.2.1 (Int.toNat (List.getD f.1.2.2.1 (Int.toNat s1.1.1) (0 : Int))) (0 : Int))))) (K (Bool.false, ())) ((inK IntKind.i64 (s1.1.1 + (1 : Int))) ∧ (next1 (((s1.1.1 + (1 : Int)), ()), ()))))))))))))) (K (Bool.true, ())))))) (((0 : Int), ()), ())))))) (((0 : Int), ()), ())))
theorem w_spec_l19Shape (x : denL c_spec_l19Shape.args) (K : Bool × Unit → Prop) : evF tab (lkp [(84, c_spec_l01In), (58, c_spec_l01Map), (33, c_spec_l02Is)]) (cutL [(11, 36)]) Try.f74 (bodyOf Try.f74) (.s .n (.s .n (.s (.s .n (.l [(3, (.d (.int .i64)))] [] [1] .n)) (.s (.s .n (.l [(4, (.d (.int .i64)))] [] [1] .n)) .n)))) c_spec_l19Shape x K = W_spec_l19Shape x.1 K := by kernel_rfl
theorem k_spec_l19Shape : okC Try.f74.ntmps (cutL [(11, 36)]) (bodyOf Try.f74) = true := by kernel_rfl
theorem m_spec_l19Shape (f : SetFunctorD) (hok : allP (okL c_spec_l19Shape.args (f, ()))) (hpre : allP (c_spec_l19Shape.pre (f, ()))) : W_spec_l19Shape f (fun r => r = c_spec_l19Shape.res (f, ())) := by
  simp only [c_spec_l19Shape, okL, T.oks, T.ok, ap, allP, true_and, and_true, implies_true] at hok hpre
  try dsimp only [T.den] at hok
  try dsimp only [T.den] at hpre
  unfold W_spec_l19Shape
  have hv : sfShapeR f = (catR f.1 && decide ((f.2.1.length : Int) = f.1.1) && withinR f.2.1 17 && decide (f.2.2.length = f.1.2.1.length) && allB f.2.2.length (sfActR f)) := rfl
  have res : ∀ b, sfShapeR f = b → (b, ()) = c_spec_l19Shape.res (f, ()) := fun b h => by simp only [c_spec_l19Shape, h]
  refine cnd_of (fun hc => res _ ?_) (fun hc => ?_)
  · rw [hv]; revert hc
    cases catR f.1 <;> simp
    omega
  simp only [Bool.or_eq_false_iff, Bool.not_eq_false', bne_eq_false_iff_eq] at hc
  obtain ⟨⟨h1, h2⟩, h4⟩ := hc
  have h4' : f.2.2.length = f.1.2.1.length := by omega
  have hw : withinR f.2.1 17 = f.2.1.all fun y => inR y 0 16 := rfl
  rw [h1, decide_eq_true h2, hw, decide_eq_true h4'] at hv
  simp only [Bool.true_and, Bool.and_true] at hv
  have S := cat_shape h1
  have hlt := S.lt
  have hm := S.m
  have hob := S.ob
  refine loop_all f.2.1 0 (fun y => inR y 0 16) ?_ ?_
  · intro x next x0 x1 hno hyes _
    try dsimp only
    refine cnd_d (fun _ => ⟨x0, x1, cnd_of (fun hx => res _ ?_) (fun hx => ⟨by rw [inK64]; (try dsimp only); omega, hyes ?_⟩)⟩) (fun h => absurd x1 h)
    · rw [hv, hno (by simpa using hx)]; rfl
    · simpa using hx
  intro next h _
  refine cnd_d (fun h => absurd h (Int.lt_irrefl _)) (fun _ => ?_)
  rw [h, Bool.true_and] at hv
  rw [← hw] at h
  refine loop_allB f.2.2.length (sfActR f) ?_ ?_
  · intro a next a0 a1 hno hyes _
    try dsimp only
    obtain ⟨k1, k2, k3, k4⟩ := S.frm a0 (by omega)
    have hz := within_iff.1 h _ k3 (by omega)
    refine cnd_d (fun _ => ⟨a0, a1, a0, by omega, k1, by omega, fun _ => by omega, fun _ => by omega, fun _ => by omega, cnd_of (fun hx => res _ ?_) (fun hx => ⟨by rw [inK64]; (try dsimp only); omega, hyes ?_⟩)⟩) (fun h => absurd a1 h)
    · rw [hv]; refine hno ?_; unfold sfActR; revert hx; cases withinR (f.2.2.getD a.toNat []) (f.2.1.getD (f.1.2.2.1.getD a.toNat 0).toNat 0) <;> simp
    · unfold sfActR; revert hx; cases withinR (f.2.2.getD a.toNat []) (f.2.1.getD (f.1.2.2.1.getD a.toNat 0).toNat 0) <;> simp
  · intro next h _
    exact cnd_d (fun h => absurd h (Int.lt_irrefl _)) (fun _ => res _ (by rw [hv, h]))
theorem ct_spec_l19Shape : CtOk Try.prog 74 c_spec_l19Shape :=
  ct_by (Φ := lkp [(84, c_spec_l01In), (58, c_spec_l01Map), (33, c_spec_l02Is)]) (good_cons ct_spec_l01In (good_cons ct_spec_l01Map (good_cons ct_spec_l02Is good_nil))) tab_ok (by kernel_rfl) (fn := Try.f74) (c := bodyOf Try.f74) (by kernel_rfl) (by kernel_rfl) (by kernel_rfl) c_spec_l19Shape rfl (.s .n (.s .n (.s (.s .n (.l [(3, (.d (.int .i64)))] [] [1] .n)) (.s (.s .n (.l [(4, (.d (.int .i64)))] [] [1] .n)) .n)))) (cutL [(11, 36)]) (by kernel_rfl) (by kernel_rfl) k_spec_l19Shape (by decide) (fun x K => W_spec_l19Shape x.1 K) w_spec_l19Shape (fun x h1 h2 => m_spec_l19Shape x.1 h1 h2)
def c_spec_l19Is : Ct := ⟨[SetFunctorT], [true], fun x => [], [(false, (.fz .bool))], fun x => (setfR x.1, ()), false, none⟩
def W_spec_l19Is (f : SetFunctorD) (K : Bool × Unit → Prop) : Prop := (cnd (!(sfShapeR f)) (K (Bool.false, ())) ((SfP f) ∧ (K (((sfFaultR f).1 == (0 : Int)), ()))))
theorem w_spec_l19Is (x : denL c_spec_l19Is.args) (K : Bool × Unit → Prop) : evF tab (lkp [(75, c_spec_l19Fault), (74, c_spec_l19Shape)]) (cutL []) Try.f50 (bodyOf Try.f50) .n c_spec_l19Is x K = W_spec_l19Is x.1 K := by kernel_rfl
theorem k_spec_l19Is : okC Try.f50.ntmps (cutL []) (bodyOf Try.f50) = true := by kernel_rfl
theorem m_spec_l19Is (f : SetFunctorD) (hok : allP (okL c_spec_l19Is.args (f, ()))) (hpre : allP (c_spec_l19Is.pre (f, ()))) : W_spec_l19Is f (fun r => r = c_spec_l19Is.res (f, ())) := by
  simp only [c_spec_l19Is, okL, T.oks, T.ok, ap, allP, true_and, and_true, implies_true] at hok hpre
  try dsimp only [T.den] at hok
  try dsimp only [T.den] at hpre
  unfold W_spec_l19Is
  have h1 := @sf_iff f
  simp only [c_spec_l19Is, setfR]
  grind [cnd, nb_eq, inK64]
theorem ct_spec_l19Is : CtOk Try.prog 50 c_spec_l19Is :=
  ct_by (Φ := lkp [(75, c_spec_l19Fault), (74, c_spec_l19Shape)]) (good_cons ct_spec_l19Fault (good_cons ct_spec_l19Shape good_nil)) tab_ok (by kernel_rfl) (fn := Try.f50) (c := bodyOf Try.f50) (by kernel_rfl) (by kernel_rfl) (by kernel_rfl) c_spec_l19Is rfl .n (cutL []) (by kernel_rfl) (by kernel_rfl) k_spec_l19Is (by decide) (fun x K => W_spec_l19Is x.1 K) w_spec_l19Is (fun x h1 h2 => m_spec_l19Is x.1 h1 h2)
def genOk1 (f : SetFunctorD) (p : List Int) : Bool := decide (p.length = 2) && elemR f (p.getD 0 0) (p.getD 1 0)
def genOkR (f : SetFunctorD) (l : List (List Int)) : Bool := l.all (genOk1 f)
def genPR (f : SetFunctorD) (l : List (List Int)) : List (List Int) × Int := if setfR f = true then (if genOkR f l = true then (genR f l, 0) else ([], 2)) else ([], 1)
theorem genP_of {f : SetFunctorD} {l : List (List Int)} (hl : l.length ≤ 1099511627776) (h : genOkR f l = true) : GenP f l := by
  refine ⟨hl, fun k k0 k1 => ?_⟩
  have := List.all_eq_true.1 h _ (getD_mem l [] k0 k1)
  simpa [genOk1] using this

def c_spec_GeneratedPart : Ct := ⟨[SetFunctorT, (.sl (.sl (.int .i64)))], [true, false], fun x => [x.2.1.length ≤ 1099511627776], [(true, PartO), (false, (.fz (.int .i64)))], fun x => ((genPR x.1 x.2.1).1, (genPR x.1 x.2.1).2, ()), false, none⟩
def W_spec_GeneratedPart (f : SetFunctorD) (elements : List (List Int)) (K : PartD × Int × Unit → Prop) : Prop := (cnd (!(setfR f)) (K (([] : List (List Int)), ((1 : Int), ()))) (loopW (S := ((Unit × (Int × Unit)) × ((List (List Int)) × Unit))) (fun s => (fun next => ((inK IntKind.i64 s.1.2.1) → ((T.ok (T.sl (T.sl (T.int IntKind.i64))) s.2.1) → (cnd (decide (s.1.2.1 < (((List.length elements) : Nat) : Int))) (((0 : Int) ≤ s.1.2.1) ∧ ((s.1.2.1 < (((List.length elements) : Nat) : Int)) ∧ (((((((List.length (List.getD elements (Int.toNat s.1.2.1) ([] : List Int))) : Nat) : Int) != (2 : Int)) = Bool.false) → ((s.1.2.1 < (((List.length elements) : Nat) : Int)) ∧ ((0 : Int) ≤ s.1.2.1))) ∧ (((((((List.length (List.getD elements (Int.toNat s.1.2.1) ([] : List Int))) : Nat) : Int) != (2 : Int)) = Bool.false) → (((0 : Int) < (((List.length (List.getD elements (Int.toNat s.1.2.1) ([] : List Int))) : Nat) : Int)) ∧ ((0 : Int) ≤ (0 : Int)))) ∧ (((((((List.length (List.getD elements (Int.toNat s.1.2.1) ([] : List Int))) : Nat) : Int) != (2 : Int)) = Bool.false) → ((s.1.2.1 < (((List.length elements) : Nat) : Int)) ∧ ((0 : Int) ≤ s.1.2.1))) ∧ (((((((List.length (List.getD elements (Int.toNat s.1.2.1) ([] : List Int))) : Nat) : Int) != (2 : Int)) = Bool.false) → (((1 : Int) < (((List.length (List.getD elements (Int.toNat s.1.2.1) ([] : List Int))) : Nat) : Int)) ∧ ((0 : Int) ≤ (1 : Int)))) ∧ (((((((List.length (List.getD elements (Int.toNat s.1.2.1) ([] : List Int))) : Nat) : Int) != (2 : Int)) = Bool.false) → (SfP f)) ∧ (cnd (((((List.length (List.getD elements (Int.toNat s.1.2.1) ([] : List Int))) : Nat) : Int) != (2 : Int)) || (!(elemR f (List.getD (List.getD elements (Int.toNat s.1.2.1) ([] : List Int)) (Int.toNat (0 : Int)) (0 : Int)) (List.getD (List.getD elements (Int.toNat s.1.2.1) ([] : List Int)) (Int.toNat (1 : Int)) (0 : Int))))) (K (([] : List (List Int)), ((2 : Int), ()))) ((inK IntKind.i64 (s.1.2.1 + (1 : Int))) ∧ (next (((), ((s.1.2.1 + (1 : Int)), ())), (s.2.1, ())))))))))))) ((SfP f) ∧ ((GenP f elements) ∧ (K ((genR f elements), ((0 : Int), ())))))))))) (((), ((0 : Int), ())), (([] : List (List Int)), ()))))
theorem w_spec_GeneratedPart (x : denL c_spec_GeneratedPart.args) (K : PartD × Int × Unit → Prop) : evF tab (lkp [(51, c_spec_l19Element), (50, c_spec_l19Is), (52, c_spec_l26Close)]) (cutL [(6, 20)]) Try.f23 (bodyOf Try.f23) (.s .n (.s .n (.s (.s .n (.l [(4, (.ad 4 [.de])), (6, (.d (.int .i64)))] [(4, (.pt (.sl (.sl (.fz (.int .i64))))))] [1, 2] .n)) .n))) c_spec_GeneratedPart x K = W_spec_GeneratedPart x.1 x.2.1 K := by kernel_rfl
theorem k_spec_GeneratedPart : okC Try.f23.ntmps (cutL [(6, 20)]) (bodyOf Try.f23) = true := by kernel_rfl
theorem m_spec_GeneratedPart (f : SetFunctorD) (elements : List (List Int)) (hok : allP (okL c_spec_GeneratedPart.args (f, elements, ()))) (hpre : allP (c_spec_GeneratedPart.pre (f, elements, ()))) : W_spec_GeneratedPart f elements (fun r => r = c_spec_GeneratedPart.res (f, elements, ())) := by
  simp only [c_spec_GeneratedPart, okL, T.oks, T.ok, ap, allP, true_and, and_true, implies_true] at hok hpre
  try dsimp only [T.den] at hok
  try dsimp only [T.den] at hpre
  unfold W_spec_GeneratedPart
  have hpre : elements.length ≤ 1099511627776 := hpre
  refine cnd_of (fun hx => ?_) (fun hx => ?_)
  · simp only [c_spec_GeneratedPart, genPR]; rw [if_neg (by simpa using hx)]
  have hf : setfR f = true := by simpa using hx
  have S := setf_sf hf
  clear hok
  simp only [show Int.toNat 0 = 0 from rfl, show Int.toNat 1 = 1 from rfl]
  refine loop_of (fun (s : ((Unit × (Int × Unit)) × ((List (List Int)) × Unit))) => s.2.1 = [] ∧ 0 ≤ s.1.2.1 ∧ s.1.2.1 ≤ elements.length ∧ (elements.take s.1.2.1.toNat).all (genOk1 f) = true) (fun (s : ((Unit × (Int × Unit)) × ((List (List Int)) × Unit))) => (elements.length - s.1.2.1).toNat) ?_ ⟨rfl, by simp, by simp, by simp⟩
  rintro ⟨⟨_, k, _⟩, L0, _⟩ next ⟨h0, k0, k1, ha⟩ hn hin _
  try dsimp only at h0 k0 k1 ha hn ⊢
  subst h0
  refine cnd_d (fun hc => ?_) (fun hc => ?_)
  · have hat := all_take (p := genOk1 f) elements [] k0 hc
    have hmem := getD_mem elements [] k0 hc
    have hno : genOk1 f (elements.getD k.toNat []) = false → genOkR f elements = false := fun h => by
      cases hg : genOkR f elements with
      | false => rfl
      | true => rw [List.all_eq_true.1 hg _ hmem] at h; cases h
    generalize elements.getD k.toNat [] = el at *
    refine ⟨k0, hc, fun _ => ⟨hc, k0⟩, fun h => ?_, fun _ => ⟨hc, k0⟩, fun h => ?_, fun _ => S, ?_⟩
    · simp at h; omega
    · simp at h; omega
    have hv : ((((el.length : Nat) : Int) != 2) || (!(elemR f (el.getD 0 0) (el.getD 1 0)))) = !(genOk1 f el) := by
      unfold genOk1
      cases elemR f (el.getD 0 0) (el.getD 1 0) <;> cases h : decide (el.length = 2) <;> simp_all <;> omega
    rw [hv]
    refine cnd_of (fun h => ?_) (fun h => ⟨by rw [inK64]; (try dsimp only); omega, hn _ ⟨rfl, (by first | omega | (dsimp only; omega)), (by first | omega | (dsimp only; omega)), ?_⟩ (by first | omega | (dsimp only; omega))⟩)
    · simp only [c_spec_GeneratedPart, genPR]; rw [if_pos hf, if_neg]; rw [hno (by simpa using h)]; simp
    · try dsimp only
      rw [hat, ha]; simpa using h
  · rw [take_n _ (by omega)] at ha
    have hg : genOkR f elements = true := ha
    refine ⟨S, genP_of hpre hg, ?_⟩
    simp only [c_spec_GeneratedPart, genPR]; rw [if_pos hf, if_pos hg]
theorem ct_spec_GeneratedPart : CtOk Try.prog 23 c_spec_GeneratedPart :=
  ct_by (Φ := lkp [(51, c_spec_l19Element), (50, c_spec_l19Is), (52, c_spec_l26Close)]) (good_cons ct_spec_l19Element (good_cons ct_spec_l19Is (good_cons ct_spec_l26Close good_nil))) tab_ok (by kernel_rfl) (fn := Try.f23) (c := bodyOf Try.f23) (by kernel_rfl) (by kernel_rfl) (by kernel_rfl) c_spec_GeneratedPart rfl (.s .n (.s .n (.s (.s .n (.l [(4, (.ad 4 [.de])), (6, (.d (.int .i64)))] [(4, (.pt (.sl (.sl (.fz (.int .i64))))))] [1, 2] .n)) .n))) (cutL [(6, 20)]) (by kernel_rfl) (by kernel_rfl) k_spec_GeneratedPart (by decide) (fun x K => W_spec_GeneratedPart x.1 x.2.1 K) w_spec_GeneratedPart (fun x h1 h2 => m_spec_GeneratedPart x.1 x.2.1 h1 h2)
def c_impl_GeneratedPart : Ct := ⟨[SetFunctorT, (.sl (.sl (.int .i64)))], [true, false], fun x => [x.2.1.length ≤ 1099511627776], [(true, PartO), (false, (.fz (.int .i64)))], fun x => ((genPR x.1 x.2.1).1, (genPR x.1 x.2.1).2, ()), false, none⟩
def W_impl_GeneratedPart (f : SetFunctorD) (elements : List (List Int)) (K : PartD × Int × Unit → Prop) : Prop := (cnd (!(setfR f)) (K (([] : List (List Int)), ((1 : Int), ()))) (loopW (S := ((Unit × (Int × Unit)) × ((List (List Int)) × Unit))) (fun s => (fun next => ((inK IntKind.i64 s.1.2.1) → ((T.ok (T.sl (T.sl (T.int IntKind.i64))) s.2.1) → (cnd (decide (s.1.2.1 < (((List.length elements) : Nat) : Int))) (((0 : Int) ≤ s.1.2.1) ∧ ((s.1.2.1 < (((List.length elements) : Nat) : Int)) ∧ (((((((List.length (List.getD elements (Int.toNat s.1.2.1) ([] : List Int))) : Nat) : Int) != (2 : Int)) = Bool.false) → (((0 : Int) < (((List.length (List.getD elements (Int.toNat s.1.2.1) ([] : List Int))) : Nat) : Int)) ∧ ((0 : Int) ≤ (0 : Int)))) ∧ (((((((List.length (List.getD elements (Int.toNat s.1.2.1) ([] : List Int))) : Nat) : Int) != (2 : Int)) = Bool.false) → (inK IntKind.i64 (f.1.1 - (1 : Int)))) ∧ ((((((((List.length (List.getD elements (Int.toNat s.1.2.1) ([] : List Int))) : Nat) : Int) != (2 : Int)) || (!(inR (List.getD (List.getD elements (Int.toNat s.1.2.1) ([] : List Int)) (Int.toNat (0 : Int)) (0 : Int)) (0 : Int) (f.1.1 - (1 : Int))))) = Bool.false) → (((1 : Int) < (((List.length (List.getD elements (Int.toNat s.1.2.1) ([] : List Int))) : Nat) : Int)) ∧ ((0 : Int) ≤ (1 : Int)))) ∧ ((((((((List.length (List.getD elements (Int.toNat s.1.2.1) ([] : List Int))) : Nat) : Int) != (2 : Int)) || (!(inR (List.getD (List.getD elements (Int.toNat s.1.2.1) ([] : List Int)) (Int.toNat (0 : Int)) (0 : Int)) (0 : Int) (f.1.1 - (1 : Int))))) = Bool.false) → (((0 : Int) < (((List.length (List.getD elements (Int.toNat s.1.2.1) ([] : List Int))) : Nat) : Int)) ∧ ((0 : Int) ≤ (0 : Int)))) ∧ ((((((((List.length (List.getD elements (Int.toNat s.1.2.1) ([] : List Int))) : Nat) : Int) != (2 : Int)) || (!(inR (List.getD (List.getD elements (Int.toNat s.1.2.1) ([] : List Int)) (Int.toNat (0 : Int)) (0 : Int)) (0 : Int) (f.1.1 - (1 : Int))))) = Bool.false) → (((List.getD (List.getD elements (Int.toNat s.1.2.1) ([] : List Int)) (Int.toNat (0 : Int)) (0 : Int)) < (((List.length f.2.1) : Nat) : Int)) ∧ ((0 : Int) ≤ (List.getD (List.getD elements (Int.toNat s.1.2.1) ([] : List Int)) (Int.toNat (0 : Int)) (0 : Int))))) ∧ ((((((((List.length (List.getD elements (Int.toNat s.1.2.1) ([] : List Int))) : Nat) : Int) != (2 : Int)) || (!(inR (List.getD (List.getD elements (Int.toNat s.1.2.1) ([] : List Int)) (Int.toNat (0 : Int)) (0 : Int)) (0 : Int) (f.1.1 - (1 : Int))))) = Bool.false) → (inK IntKind.i64 ((List.getD f.2.1 (Int.toNat (List.getD (List.getD elements (Int.toNat s.1.2.1) ([] : List Int)) (Int.toNat (0 : Int)) (0 : Int))) (0 : Int)) - (1 : Int)))) ∧ (cnd ((((((List.length (List.getD elements (Int.toNat s.1.2.1) ([] : List Int))) : Nat) : Int) != (2 : Int)) || (!(inR (List.getD (List.getD elements (Int.toNat s.1.2.1) ([] : List Int)) (Int.toNat (0 : Int)) (0 : Int)) (0 : Int) (f.1.1 - (1 : Int))))) || (!(inR (List.getD (List.getD elements (Int.toNat s.1.2.1) ([] : List Int)) (Int.toNat (1 : Int)) (0 : Int)) (0 : Int) ((List.getD f.2.1 (Int.toNat (List.getD (List.getD elements (Int.toNat s.1.2.1) ([] : List Int)) (Int.toNat (0 : Int)) (0 : Int))) (0 : Int)) - (1 : Int))))) (K (([] : List (List Int)), ((2 : Int), ()))) ((inK IntKind.i64 (s.1.2.1 + (1 : Int))) ∧ (next (((), ((s.1.2.1 + (1 : Int)), ())), (s.2.1, ()))))))))))))) ((SfP f) ∧ ((GenP f elements) ∧ (K ((genR f elements), ((0 : Int), ())))))))))) (((), ((0 : Int), ())), (([] : List (List Int)), ()))))
theorem w_impl_GeneratedPart (x : denL c_impl_GeneratedPart.args) (K : PartD × Int × Unit → Prop) : evF tab (lkp [(55, c_impl_SetFunctor_generated), (53, c_impl_SetFunctor_isSetFunctor), (54, c_impl_inRange)]) (cutL [(6, 26)]) Try.f26 (bodyOf Try.f26) (.s .n (.s .n (.s (.s .n (.l [(4, (.ad 4 [.de])), (13, (.d (.int .i64)))] [(4, (.pt (.sl (.sl (.fz (.int .i64))))))] [1, 2, 11, 12] .n)) .n))) c_impl_GeneratedPart x K = W_impl_GeneratedPart x.1 x.2.1 K := by kernel_rfl
theorem k_impl_GeneratedPart : okC Try.f26.ntmps (cutL [(6, 26)]) (bodyOf Try.f26) = true := by kernel_rfl
theorem m_impl_GeneratedPart (f : SetFunctorD) (elements : List (List Int)) (hok : allP (okL c_impl_GeneratedPart.args (f, elements, ()))) (hpre : allP (c_impl_GeneratedPart.pre (f, elements, ()))) : W_impl_GeneratedPart f elements (fun r => r = c_impl_GeneratedPart.res (f, elements, ())) := by
  simp only [c_impl_GeneratedPart, okL, T.oks, T.ok, ap, allP, true_and, and_true, implies_true] at hok hpre
  try dsimp only [T.den] at hok
  try dsimp only [T.den] at hpre
  unfold W_impl_GeneratedPart
  have hpre : elements.length ≤ 1099511627776 := hpre
  refine cnd_of (fun hx => ?_) (fun hx => ?_)
  · simp only [c_impl_GeneratedPart, genPR]; rw [if_neg (by simpa using hx)]
  have hf : setfR f = true := by simpa using hx
  have S := setf_sf hf
  have hob := (cat_shape S.cat).ob
  have hlz := S.lz
  clear hok
  simp only [show Int.toNat 0 = 0 from rfl, show Int.toNat 1 = 1 from rfl]
  refine loop_of (fun (s : ((Unit × (Int × Unit)) × ((List (List Int)) × Unit))) => s.2.1 = [] ∧ 0 ≤ s.1.2.1 ∧ s.1.2.1 ≤ elements.length ∧ (elements.take s.1.2.1.toNat).all (genOk1 f) = true) (fun (s : ((Unit × (Int × Unit)) × ((List (List Int)) × Unit))) => (elements.length - s.1.2.1).toNat) ?_ ⟨rfl, by simp, by simp, by simp⟩
  rintro ⟨⟨_, k, _⟩, L0, _⟩ next ⟨h0, k0, k1, ha⟩ hn hin _
  try dsimp only at h0 k0 k1 ha hn ⊢
  subst h0
  refine cnd_d (fun hc => ?_) (fun hc => ?_)
  · have hat := all_take (p := genOk1 f) elements [] k0 hc
    have hmem := getD_mem elements [] k0 hc
    have hno : genOk1 f (elements.getD k.toNat []) = false → genOkR f elements = false := fun h => by
      cases hg : genOkR f elements with
      | false => rfl
      | true => rw [List.all_eq_true.1 hg _ hmem] at h; cases h
    generalize elements.getD k.toNat [] = el at *
    have hq : ∀ {b : Bool}, (((((el.length : Nat) : Int) != 2) || (!(inR (el.getD 0 0) 0 (f.1.1 - 1)))) = false) → el.length = 2 ∧ 0 ≤ el.getD 0 0 ∧ el.getD 0 0 < f.1.1 := fun h => by
      simp only [Bool.or_eq_false_iff, bne_eq_false_iff_eq, Bool.not_eq_false'] at h
      have := inR_iff.1 h.2
      exact ⟨by omega, by omega, by omega⟩
    refine ⟨k0, hc, fun h => ?_, fun _ => by rw [inK64]; (try dsimp only); omega, fun h => ?_, fun h => ?_, fun h => ?_, fun h => ?_, ?_⟩
    · simp at h; omega
    · have := @hq true h; omega
    · have := @hq true h; omega
    · have := @hq true h; omega
    · have := @hq true h
      have := S.size this.2.1 this.2.2
      rw [inK64]; omega
    have hv : (((((el.length : Nat) : Int) != 2) || (!(inR (el.getD 0 0) 0 (f.1.1 - 1)))) || (!(inR (el.getD 1 0) 0 (f.2.1.getD (el.getD 0 0).toNat 0 - 1)))) = !(genOk1 f el) := by
      unfold genOk1 elemR
      rw [Bool.eq_iff_iff]
      simp only [Bool.or_eq_true, bne_iff_ne, Bool.not_eq_true', Bool.and_eq_false_iff, decide_eq_false_iff_not, ne_eq]
      have h1 : ∀ n lo hi : Int, inR n lo hi = false ↔ ¬ (lo ≤ n ∧ n ≤ hi) := fun n lo hi => by
        rw [← inR_iff]; simp
      simp only [h1]
      omega
    rw [hv]
    refine cnd_of (fun h => ?_) (fun h => ⟨by rw [inK64]; (try dsimp only); omega, hn _ ⟨rfl, (by first | omega | (dsimp only; omega)), (by first | omega | (dsimp only; omega)), ?_⟩ (by first | omega | (dsimp only; omega))⟩)
    · simp only [c_impl_GeneratedPart, genPR]; rw [if_pos hf, if_neg]; rw [hno (by simpa using h)]; simp
    · try dsimp only
      rw [hat, ha]; simpa using h
  · rw [take_n _ (by omega)] at ha
    have hg : genOkR f elements = true := ha
    refine ⟨S, genP_of hpre hg, ?_⟩
    simp only [c_impl_GeneratedPart, genPR]; rw [if_pos hf, if_pos hg]
theorem ct_impl_GeneratedPart : CtOk Try.prog 26 c_impl_GeneratedPart :=
  ct_by (Φ := lkp [(55, c_impl_SetFunctor_generated), (53, c_impl_SetFunctor_isSetFunctor), (54, c_impl_inRange)]) (good_cons ct_impl_SetFunctor_generated (good_cons ct_impl_SetFunctor_isSetFunctor (good_cons ct_impl_inRange good_nil))) tab_ok (by kernel_rfl) (fn := Try.f26) (c := bodyOf Try.f26) (by kernel_rfl) (by kernel_rfl) (by kernel_rfl) c_impl_GeneratedPart rfl (.s .n (.s .n (.s (.s .n (.l [(4, (.ad 4 [.de])), (13, (.d (.int .i64)))] [(4, (.pt (.sl (.sl (.fz (.int .i64))))))] [1, 2, 11, 12] .n)) .n))) (cutL [(6, 26)]) (by kernel_rfl) (by kernel_rfl) k_impl_GeneratedPart (by decide) (fun x K => W_impl_GeneratedPart x.1 x.2.1 K) w_impl_GeneratedPart (fun x h1 h2 => m_impl_GeneratedPart x.1 x.2.1 h1 h2)
def c_laws_eqInt64S : Ct := ⟨[(.sl (.int .i64)), (.sl (.int .i64))], [false, false], fun x => [], [(false, (.fz .bool))], fun x => (eqR (.sl (.int .i64)) x.1 x.2.1, ()), false, none⟩
def W_laws_eqInt64S (a : List Int) (b : List Int) (K : Bool × Unit → Prop) : Prop := (cnd ((((List.length a) : Nat) : Int) != (((List.length b) : Nat) : Int)) (K (Bool.false, ())) (loopW (S := ((Int × Unit) × Unit)) (fun s => (fun next => ((inK IntKind.i64 s.1.1) → (cnd (decide (s.1.1 < (((List.length a) : Nat) : Int))) (((0 : Int) ≤ s.1.1) ∧ ((s.1.1 < (((List.length a) : Nat) : Int)) ∧ (((0 : Int) ≤ s.1.1) ∧ ((s.1.1 < (((List.length b) : Nat) : Int)) ∧ (cnd ((List.getD a (Int.toNat s.1.1) (0 : Int)) != (List.getD b (Int.toNat s.1.1) (0 : Int))) (K (Bool.false, ())) ((inK IntKind.i64 (s.1.1 + (1 : Int))) ∧ (next (((s.1.1 + (1 : Int)), ()), ())))))))) (K (Bool.true, ())))))) (((0 : Int), ()), ())))
theorem w_laws_eqInt64S (x : denL c_laws_eqInt64S.args) (K : Bool × Unit → Prop) : evF tab (lkp []) (cutL [(6, 9)]) Try.f12 (bodyOf Try.f12) (.s .n (.s .n (.s (.s .n (.l [(5, (.d (.int .i64)))] [] [0, 1] .n)) .n))) c_laws_eqInt64S x K = W_laws_eqInt64S x.1 x.2.1 K := by kernel_rfl
theorem k_laws_eqInt64S : okC Try.f12.ntmps (cutL [(6, 9)]) (bodyOf Try.f12) = true := by kernel_rfl
theorem m_laws_eqInt64S (a : List Int) (b : List Int) (hok : allP (okL c_laws_eqInt64S.args (a, b, ()))) (hpre : allP (c_laws_eqInt64S.pre (a, b, ()))) : W_laws_eqInt64S a b (fun r => r = c_laws_eqInt64S.res (a, b, ())) := by
  simp only [c_laws_eqInt64S, okL, T.oks, T.ok, ap, allP, true_and, and_true, implies_true] at hok hpre
  try dsimp only [T.den] at hok
  try dsimp only [T.den] at hpre
  unfold W_laws_eqInt64S
  refine cnd_of (fun hc => ?_) (fun hc => ?_)
  · simp only [c_laws_eqInt64S, Prod.mk.injEq, and_true]; rw [eqR_f]; rintro rfl; simp at hc
  have hl : a.length = b.length := by simp at hc; omega
  refine loop_of (fun (s : ((Int × Unit) × Unit)) => 0 ≤ s.1.1 ∧ s.1.1 ≤ a.length ∧ a.take s.1.1.toNat = b.take s.1.1.toNat) (fun (s : ((Int × Unit) × Unit)) => (a.length - s.1.1).toNat) ?_ (by simp)
  rintro ⟨⟨i, _⟩, _⟩ next ⟨h0, h1, h2⟩ hn hin
  simp only at h0 h1 h2 hn ⊢
  refine cnd_d (fun hc => ?_) (fun hc => ?_)
  · have ha := take_c a (0 : Int) h0 hc
    have hb := take_c b (0 : Int) h0 (by omega)
    refine ⟨by omega, by omega, by omega, by omega, cnd_of (fun hd => ?_) (fun hd => ?_)⟩
    · simp only [c_laws_eqInt64S, Prod.mk.injEq, and_true]; rw [eqR_f]; rintro rfl; simp at hd
    · refine ⟨by grind [cnd, nb_eq, inK64], hn _ ⟨(by first | omega | (dsimp only; omega)), (by first | omega | (dsimp only; omega)), ?_⟩ (by first | omega | (dsimp only; omega))⟩
      simp only [Bool.not_eq_false', eqR_iff, bne_eq_false_iff_eq] at hd
      simp only [ha, hb, h2, hd]
  · rw [take_n a (by omega), take_n b (by omega)] at h2
    simp [h2, c_laws_eqInt64S]
theorem ct_laws_eqInt64S : CtOk Try.prog 12 c_laws_eqInt64S :=
  ct_by (Φ := lkp []) good_nil tab_ok (by kernel_rfl) (fn := Try.f12) (c := bodyOf Try.f12) (by kernel_rfl) (by kernel_rfl) (by kernel_rfl) c_laws_eqInt64S rfl (.s .n (.s .n (.s (.s .n (.l [(5, (.d (.int .i64)))] [] [0, 1] .n)) .n))) (cutL [(6, 9)]) (by kernel_rfl) (by kernel_rfl) k_laws_eqInt64S (by decide) (fun x K => W_laws_eqInt64S x.1 x.2.1 K) w_laws_eqInt64S (fun x h1 h2 => m_laws_eqInt64S x.1 x.2.1 h1 h2)
def c_laws_eqInt64SS : Ct := ⟨[(.sl (.sl (.int .i64))), (.sl (.sl (.int .i64)))], [false, false], fun x => [], [(false, (.fz .bool))], fun x => (eqR (.sl (.sl (.int .i64))) x.1 x.2.1, ()), false, none⟩
def W_laws_eqInt64SS (a : List (List Int)) (b : List (List Int)) (K : Bool × Unit → Prop) : Prop := (cnd ((((List.length a) : Nat) : Int) != (((List.length b) : Nat) : Int)) (K (Bool.false, ())) (loopW (S := ((Int × Unit) × Unit)) (fun s => (fun next => ((inK IntKind.i64 s.1.1) → (cnd (decide (s.1.1 < (((List.length a) : Nat) : Int))) (((0 : Int) ≤ s.1.1) ∧ ((s.1.1 < (((List.length a) : Nat) : Int)) ∧ (((0 : Int) ≤ s.1.1) ∧ ((s.1.1 < (((List.length b) : Nat) : Int)) ∧ (cnd (!(eqR (T.sl (T.int IntKind.i64)) (List.getD a (Int.toNat s.1.1) ([] : List Int)) (List.getD b (Int.toNat s.1.1) ([] : List Int)))) (K (Bool.false, ())) ((inK IntKind.i64 (s.1.1 + (1 : Int))) ∧ (next (((s.1.1 + (1 : Int)), ()), ())))))))) (K (Bool.true, ())))))) (((0 : Int), ()), ())))
theorem w_laws_eqInt64SS (x : denL c_laws_eqInt64SS.args) (K : Bool × Unit → Prop) : evF tab (lkp [(12, c_laws_eqInt64S)]) (cutL [(6, 10)]) Try.f18 (bodyOf Try.f18) (.s .n (.s .n (.s (.s .n (.l [(5, (.d (.int .i64)))] [] [0, 1] .n)) .n))) c_laws_eqInt64SS x K = W_laws_eqInt64SS x.1 x.2.1 K := by kernel_rfl
theorem k_laws_eqInt64SS : okC Try.f18.ntmps (cutL [(6, 10)]) (bodyOf Try.f18) = true := by kernel_rfl
theorem m_laws_eqInt64SS (a : List (List Int)) (b : List (List Int)) (hok : allP (okL c_laws_eqInt64SS.args (a, b, ()))) (hpre : allP (c_laws_eqInt64SS.pre (a, b, ()))) : W_laws_eqInt64SS a b (fun r => r = c_laws_eqInt64SS.res (a, b, ())) := by
  simp only [c_laws_eqInt64SS, okL, T.oks, T.ok, ap, allP, true_and, and_true, implies_true] at hok hpre
  try dsimp only [T.den] at hok
  try dsimp only [T.den] at hpre
  unfold W_laws_eqInt64SS
  refine cnd_of (fun hc => ?_) (fun hc => ?_)
  · simp only [c_laws_eqInt64SS, Prod.mk.injEq, and_true]; rw [eqR_f]; rintro rfl; simp at hc
  have hl : a.length = b.length := by simp at hc; omega
  refine loop_of (fun (s : ((Int × Unit) × Unit)) => 0 ≤ s.1.1 ∧ s.1.1 ≤ a.length ∧ a.take s.1.1.toNat = b.take s.1.1.toNat) (fun (s : ((Int × Unit) × Unit)) => (a.length - s.1.1).toNat) ?_ (by simp)
  rintro ⟨⟨i, _⟩, _⟩ next ⟨h0, h1, h2⟩ hn hin
  simp only at h0 h1 h2 hn ⊢
  refine cnd_d (fun hc => ?_) (fun hc => ?_)
  · have ha := take_c a ([] : List Int) h0 hc
    have hb := take_c b ([] : List Int) h0 (by omega)
    refine ⟨by omega, by omega, by omega, by omega, cnd_of (fun hd => ?_) (fun hd => ?_)⟩
    · simp only [c_laws_eqInt64SS, Prod.mk.injEq, and_true]; rw [eqR_f]; rintro rfl; simp at hd
    · refine ⟨by grind [cnd, nb_eq, inK64], hn _ ⟨(by first | omega | (dsimp only; omega)), (by first | omega | (dsimp only; omega)), ?_⟩ (by first | omega | (dsimp only; omega))⟩
      simp only [Bool.not_eq_false', eqR_iff, bne_eq_false_iff_eq] at hd
      simp only [ha, hb, h2, hd]
  · rw [take_n a (by omega), take_n b (by omega)] at h2
    simp [h2, c_laws_eqInt64SS]
theorem ct_laws_eqInt64SS : CtOk Try.prog 18 c_laws_eqInt64SS :=
  ct_by (Φ := lkp [(12, c_laws_eqInt64S)]) (good_cons ct_laws_eqInt64S good_nil) tab_ok (by kernel_rfl) (fn := Try.f18) (c := bodyOf Try.f18) (by kernel_rfl) (by kernel_rfl) (by kernel_rfl) c_laws_eqInt64SS rfl (.s .n (.s .n (.s (.s .n (.l [(5, (.d (.int .i64)))] [] [0, 1] .n)) .n))) (cutL [(6, 10)]) (by kernel_rfl) (by kernel_rfl) k_laws_eqInt64SS (by decide) (fun x K => W_laws_eqInt64SS x.1 x.2.1 K) w_laws_eqInt64SS (fun x h1 h2 => m_laws_eqInt64SS x.1 x.2.1 h1 h2)
def c_laws_eqPart : Ct := ⟨[PartT, PartT], [true, true], fun x => [], [(false, (.fz .bool))], fun x => (eqR PartT x.1 x.2.1, ()), false, none⟩
def W_laws_eqPart (a : PartD) (b : PartD) (K : Bool × Unit → Prop) : Prop := (cnd (!(eqR (T.sl (T.sl (T.int IntKind.i64))) a b)) (K (Bool.false, ())) (K (Bool.true, ())))
theorem w_laws_eqPart (x : denL c_laws_eqPart.args) (K : Bool × Unit → Prop) : evF tab (lkp [(18, c_laws_eqInt64SS)]) (cutL []) Try.f27 (bodyOf Try.f27) .n c_laws_eqPart x K = W_laws_eqPart x.1 x.2.1 K := by kernel_rfl
theorem k_laws_eqPart : okC Try.f27.ntmps (cutL []) (bodyOf Try.f27) = true := by kernel_rfl
theorem m_laws_eqPart (a : PartD) (b : PartD) (hok : allP (okL c_laws_eqPart.args (a, b, ()))) (hpre : allP (c_laws_eqPart.pre (a, b, ()))) : W_laws_eqPart a b (fun r => r = c_laws_eqPart.res (a, b, ())) := by
  simp only [c_laws_eqPart, okL, T.oks, T.ok, ap, allP, true_and, and_true, implies_true] at hok hpre
  try dsimp only [T.den] at hok
  try dsimp only [T.den] at hpre
  unfold W_laws_eqPart
  simp only [c_laws_eqPart, eqR_p, eqR_int, eqR_bool]
  grind [cnd, nb_eq, inK64]
theorem ct_laws_eqPart : CtOk Try.prog 27 c_laws_eqPart :=
  ct_by (Φ := lkp [(18, c_laws_eqInt64SS)]) (good_cons ct_laws_eqInt64SS good_nil) tab_ok (by kernel_rfl) (fn := Try.f27) (c := bodyOf Try.f27) (by kernel_rfl) (by kernel_rfl) (by kernel_rfl) c_laws_eqPart rfl .n (cutL []) (by kernel_rfl) (by kernel_rfl) k_laws_eqPart (by decide) (fun x K => W_laws_eqPart x.1 x.2.1 K) w_laws_eqPart (fun x h1 h2 => m_laws_eqPart x.1 x.2.1 h1 h2)
def c_laws_eqCategory : Ct := ⟨[CategoryT, CategoryT], [true, true], fun x => [], [(false, (.fz .bool))], fun x => (eqR CategoryT x.1 x.2.1, ()), false, none⟩
def W_laws_eqCategory (a : CategoryD) (b : CategoryD) (K : Bool × Unit → Prop) : Prop := (cnd (a.1 != b.1) (K (Bool.false, ())) (cnd (!(eqR (T.sl (T.int IntKind.i64)) a.2.1 b.2.1)) (K (Bool.false, ())) (cnd (!(eqR (T.sl (T.int IntKind.i64)) a.2.2.1 b.2.2.1)) (K (Bool.false, ())) (cnd (!(eqR (T.sl (T.int IntKind.i64)) a.2.2.2.1 b.2.2.2.1)) (K (Bool.false, ())) (cnd (!(eqR (T.sl (T.sl (T.int IntKind.i64))) a.2.2.2.2 b.2.2.2.2)) (K (Bool.false, ())) (K (Bool.true, ())))))))
theorem w_laws_eqCategory (x : denL c_laws_eqCategory.args) (K : Bool × Unit → Prop) : evF tab (lkp [(12, c_laws_eqInt64S), (18, c_laws_eqInt64SS)]) (cutL []) Try.f11 (bodyOf Try.f11) .n c_laws_eqCategory x K = W_laws_eqCategory x.1 x.2.1 K := by kernel_rfl
theorem k_laws_eqCategory : okC Try.f11.ntmps (cutL []) (bodyOf Try.f11) = true := by kernel_rfl
theorem m_laws_eqCategory (a : CategoryD) (b : CategoryD) (hok : allP (okL c_laws_eqCategory.args (a, b, ()))) (hpre : allP (c_laws_eqCategory.pre (a, b, ()))) : W_laws_eqCategory a b (fun r => r = c_laws_eqCategory.res (a, b, ())) := by
  simp only [c_laws_eqCategory, okL, T.oks, T.ok, ap, allP, true_and, and_true, implies_true] at hok hpre
  try dsimp only [T.den] at hok
  try dsimp only [T.den] at hpre
  unfold W_laws_eqCategory
  simp only [c_laws_eqCategory, eqR_p, eqR_int, eqR_bool]
  grind [cnd, nb_eq, inK64]
theorem ct_laws_eqCategory : CtOk Try.prog 11 c_laws_eqCategory :=
  ct_by (Φ := lkp [(12, c_laws_eqInt64S), (18, c_laws_eqInt64SS)]) (good_cons ct_laws_eqInt64S (good_cons ct_laws_eqInt64SS good_nil)) tab_ok (by kernel_rfl) (fn := Try.f11) (c := bodyOf Try.f11) (by kernel_rfl) (by kernel_rfl) (by kernel_rfl) c_laws_eqCategory rfl .n (cutL []) (by kernel_rfl) (by kernel_rfl) k_laws_eqCategory (by decide) (fun x K => W_laws_eqCategory x.1 x.2.1 K) w_laws_eqCategory (fun x h1 h2 => m_laws_eqCategory x.1 x.2.1 h1 h2)
def c_laws_eqSetFunctor : Ct := ⟨[SetFunctorT, SetFunctorT], [true, true], fun x => [], [(false, (.fz .bool))], fun x => (eqR SetFunctorT x.1 x.2.1, ()), false, none⟩
def W_laws_eqSetFunctor (a : SetFunctorD) (b : SetFunctorD) (K : Bool × Unit → Prop) : Prop := (cnd (!(eqR CategoryT a.1 b.1)) (K (Bool.false, ())) (cnd (!(eqR (T.sl (T.int IntKind.i64)) a.2.1 b.2.1)) (K (Bool.false, ())) (cnd (!(eqR (T.sl (T.sl (T.int IntKind.i64))) a.2.2 b.2.2)) (K (Bool.false, ())) (K (Bool.true, ())))))
theorem w_laws_eqSetFunctor (x : denL c_laws_eqSetFunctor.args) (K : Bool × Unit → Prop) : evF tab (lkp [(11, c_laws_eqCategory), (12, c_laws_eqInt64S), (18, c_laws_eqInt64SS)]) (cutL []) Try.f28 (bodyOf Try.f28) .n c_laws_eqSetFunctor x K = W_laws_eqSetFunctor x.1 x.2.1 K := by kernel_rfl
theorem k_laws_eqSetFunctor : okC Try.f28.ntmps (cutL []) (bodyOf Try.f28) = true := by kernel_rfl
theorem m_laws_eqSetFunctor (a : SetFunctorD) (b : SetFunctorD) (hok : allP (okL c_laws_eqSetFunctor.args (a, b, ()))) (hpre : allP (c_laws_eqSetFunctor.pre (a, b, ()))) : W_laws_eqSetFunctor a b (fun r => r = c_laws_eqSetFunctor.res (a, b, ())) := by
  simp only [c_laws_eqSetFunctor, okL, T.oks, T.ok, ap, allP, true_and, and_true, implies_true] at hok hpre
  try dsimp only [T.den] at hok
  try dsimp only [T.den] at hpre
  unfold W_laws_eqSetFunctor
  simp only [c_laws_eqSetFunctor, eqR_p, eqR_int, eqR_bool]
  grind [cnd, nb_eq, inK64]
theorem ct_laws_eqSetFunctor : CtOk Try.prog 28 c_laws_eqSetFunctor :=
  ct_by (Φ := lkp [(11, c_laws_eqCategory), (12, c_laws_eqInt64S), (18, c_laws_eqInt64SS)]) (good_cons ct_laws_eqCategory (good_cons ct_laws_eqInt64S (good_cons ct_laws_eqInt64SS good_nil))) tab_ok (by kernel_rfl) (fn := Try.f28) (c := bodyOf Try.f28) (by kernel_rfl) (by kernel_rfl) (by kernel_rfl) c_laws_eqSetFunctor rfl .n (cutL []) (by kernel_rfl) (by kernel_rfl) k_laws_eqSetFunctor (by decide) (fun x K => W_laws_eqSetFunctor x.1 x.2.1 K) w_laws_eqSetFunctor (fun x h1 h2 => m_laws_eqSetFunctor x.1 x.2.1 h1 h2)
def c_laws_heldInt64S : Ct := ⟨[(.sl (.int .i64)), (.int .i64)], [false, false], fun x => [0 ≤ x.2.1, x.2.1 + ckR (.sl (.int .i64)) x.1 ≤ 4611686018427387904], [(false, (.fz (.int .i64)))], fun x => (hdR (.sl (.int .i64)) x.1 x.2.1, ()), false, none⟩
def W_laws_heldInt64S (a : List Int) (k : Int) (K : Int × Unit → Prop) : Prop := (loopW (S := ((Int × (Int × Unit)) × Unit)) (fun s => (fun next => ((inK IntKind.i64 s.1.1) → ((inK IntKind.i64 s.1.2.1) → (cnd (decide (s.1.2.1 < (((List.length a) : Nat) : Int))) (((0 : Int) ≤ s.1.2.1) ∧ ((s.1.2.1 < (((List.length a) : Nat) : Int)) ∧ (cnd ((List.getD a (Int.toNat s.1.2.1) (0 : Int)) != s.1.1) (K ((-(1 : Int)), ())) ((inK IntKind.i64 (s.1.1 + (1 : Int))) ∧ ((inK IntKind.i64 (s.1.2.1 + (1 : Int))) ∧ (next (((s.1.1 + (1 : Int)), ((s.1.2.1 + (1 : Int)), ())), ()))))))) (K (s.1.1, ()))))))) ((k, ((0 : Int), ())), ()))
theorem w_laws_heldInt64S (x : denL c_laws_heldInt64S.args) (K : Int × Unit → Prop) : evF tab (lkp []) (cutL []) Try.f40 (bodyOf Try.f40) (.s .n (.s (.s .n (.l [(1, (.d (.int .i64))), (5, (.d (.int .i64)))] [] [0] .n)) .n)) c_laws_heldInt64S x K = W_laws_heldInt64S x.1 x.2.1 K := by kernel_rfl
theorem k_laws_heldInt64S : okC Try.f40.ntmps (cutL []) (bodyOf Try.f40) = true := by kernel_rfl
theorem m_laws_heldInt64S (a : List Int) (k : Int) (hok : allP (okL c_laws_heldInt64S.args (a, k, ()))) (hpre : allP (c_laws_heldInt64S.pre (a, k, ()))) : W_laws_heldInt64S a k (fun r => r = c_laws_heldInt64S.res (a, k, ())) := by
  simp only [c_laws_heldInt64S, okL, T.oks, T.ok, ap, allP, true_and, and_true, implies_true] at hok hpre
  try dsimp only [T.den] at hok
  try dsimp only [T.den] at hpre
  unfold W_laws_heldInt64S
  obtain ⟨h0, hb⟩ := hpre
  have hll : a.length ≤ 140737488355328 := by simp only [nb_eq] at hok; omega
  refine held_loop (e := .int .i64) (0 : Int) a k h0 hb (fun k i next i0 i1 k0 kb hbad hn h1 h2 => ?_) (fun i next hi h1 h2 => ?_)
  · try dsimp only
    simp only [ckR] at kb
    simp only [hd_int] at hbad hn
    refine cnd_d (fun _ => ⟨i0, i1, cnd_of (fun hx => ?_) (fun hx => ⟨by rw [inK64]; (try dsimp only); omega, by rw [inK64]; (try dsimp only); omega, ?_⟩)⟩) (fun h => absurd i1 h)
    · rw [bne_iff_ne] at hx
      rw [if_neg hx] at hbad
      simp only [c_laws_heldInt64S]; rw [hbad (by omega)]
    · rw [bne_eq_false_iff_eq] at hx
      rw [if_pos hx] at hn
      exact hn (by omega)
  · exact cnd_d (fun h => absurd h (by dsimp only; omega)) (fun _ => rfl)
theorem ct_laws_heldInt64S : CtOk Try.prog 40 c_laws_heldInt64S :=
  ct_by (Φ := lkp []) good_nil tab_ok (by kernel_rfl) (fn := Try.f40) (c := bodyOf Try.f40) (by kernel_rfl) (by kernel_rfl) (by kernel_rfl) c_laws_heldInt64S rfl (.s .n (.s (.s .n (.l [(1, (.d (.int .i64))), (5, (.d (.int .i64)))] [] [0] .n)) .n)) (cutL []) (by kernel_rfl) (by kernel_rfl) k_laws_heldInt64S (by decide) (fun x K => W_laws_heldInt64S x.1 x.2.1 K) w_laws_heldInt64S (fun x h1 h2 => m_laws_heldInt64S x.1 x.2.1 h1 h2)
def c_laws_heldInt64SS : Ct := ⟨[(.sl (.sl (.int .i64))), (.int .i64)], [false, false], fun x => [0 ≤ x.2.1, x.2.1 + ckR (.sl (.sl (.int .i64))) x.1 ≤ 4611686018427387904], [(false, (.fz (.int .i64)))], fun x => (hdR (.sl (.sl (.int .i64))) x.1 x.2.1, ()), false, none⟩
def W_laws_heldInt64SS (a : List (List Int)) (k : Int) (K : Int × Unit → Prop) : Prop := (loopW (S := ((Int × (Int × Unit)) × Unit)) (fun s => (fun next => ((inK IntKind.i64 s.1.1) → ((inK IntKind.i64 s.1.2.1) → (cnd (decide (s.1.2.1 < (((List.length a) : Nat) : Int))) (((0 : Int) ≤ s.1.2.1) ∧ ((s.1.2.1 < (((List.length a) : Nat) : Int)) ∧ (((0 : Int) ≤ s.1.1) ∧ (((s.1.1 + (((ckR (T.sl (T.int IntKind.i64)) (List.getD a (Int.toNat s.1.2.1) ([] : List Int))) : Nat) : Int)) ≤ (4611686018427387904 : Int)) ∧ (cnd (decide ((hdR (T.sl (T.int IntKind.i64)) (List.getD a (Int.toNat s.1.2.1) ([] : List Int)) s.1.1) < (0 : Int))) (K ((-(1 : Int)), ())) ((inK IntKind.i64 (s.1.2.1 + (1 : Int))) ∧ (next (((hdR (T.sl (T.int IntKind.i64)) (List.getD a (Int.toNat s.1.2.1) ([] : List Int)) s.1.1), ((s.1.2.1 + (1 : Int)), ())), ())))))))) (K (s.1.1, ()))))))) ((k, ((0 : Int), ())), ()))
theorem w_laws_heldInt64SS (x : denL c_laws_heldInt64SS.args) (K : Int × Unit → Prop) : evF tab (lkp [(40, c_laws_heldInt64S)]) (cutL []) Try.f20 (bodyOf Try.f20) (.s .n (.s (.s .n (.l [(1, (.d (.int .i64))), (5, (.d (.int .i64)))] [] [0] .n)) .n)) c_laws_heldInt64SS x K = W_laws_heldInt64SS x.1 x.2.1 K := by kernel_rfl
theorem k_laws_heldInt64SS : okC Try.f20.ntmps (cutL []) (bodyOf Try.f20) = true := by kernel_rfl
theorem m_laws_heldInt64SS (a : List (List Int)) (k : Int) (hok : allP (okL c_laws_heldInt64SS.args (a, k, ()))) (hpre : allP (c_laws_heldInt64SS.pre (a, k, ()))) : W_laws_heldInt64SS a k (fun r => r = c_laws_heldInt64SS.res (a, k, ())) := by
  simp only [c_laws_heldInt64SS, okL, T.oks, T.ok, ap, allP, true_and, and_true, implies_true] at hok hpre
  try dsimp only [T.den] at hok
  try dsimp only [T.den] at hpre
  unfold W_laws_heldInt64SS
  obtain ⟨h0, hb⟩ := hpre
  have hll : a.length ≤ 140737488355328 := by simp only [nb_eq] at hok; omega
  refine held_loop (e := (.sl (.int .i64))) ([] : List Int) a k h0 hb (fun k i next i0 i1 k0 kb hbad hn h1 h2 => ?_) (fun i next hi h1 h2 => ?_)
  · try dsimp only
    refine cnd_d (fun _ => ⟨i0, i1, k0, kb, cnd_d (fun hx => ?_) (fun hx => ⟨by rw [inK64]; (try dsimp only); omega, hn hx⟩)⟩) (fun h => absurd i1 h)
    simp only [c_laws_heldInt64SS]; rw [hbad hx]
  · exact cnd_d (fun h => absurd h (by dsimp only; omega)) (fun _ => rfl)
theorem ct_laws_heldInt64SS : CtOk Try.prog 20 c_laws_heldInt64SS :=
  ct_by (Φ := lkp [(40, c_laws_heldInt64S)]) (good_cons ct_laws_heldInt64S good_nil) tab_ok (by kernel_rfl) (fn := Try.f20) (c := bodyOf Try.f20) (by kernel_rfl) (by kernel_rfl) (by kernel_rfl) c_laws_heldInt64SS rfl (.s .n (.s (.s .n (.l [(1, (.d (.int .i64))), (5, (.d (.int .i64)))] [] [0] .n)) .n)) (cutL []) (by kernel_rfl) (by kernel_rfl) k_laws_heldInt64SS (by decide) (fun x K => W_laws_heldInt64SS x.1 x.2.1 K) w_laws_heldInt64SS (fun x h1 h2 => m_laws_heldInt64SS x.1 x.2.1 h1 h2)
def c_laws_heldPart : Ct := ⟨[PartT, (.int .i64)], [true, false], fun x => [0 ≤ x.2.1, x.2.1 + ctR PartT x.1 ≤ 4611686018427387904], [(false, (.fz (.int .i64)))], fun x => (htR PartT x.1 x.2.1, ()), false, none⟩
def W_laws_heldPart (a : PartD) (k : Int) (K : Int × Unit → Prop) : Prop := (((0 : Int) ≤ k) ∧ (((k + (((ckR (T.sl (T.sl (T.int IntKind.i64))) a) : Nat) : Int)) ≤ (4611686018427387904 : Int)) ∧ (cnd (decide ((hdR (T.sl (T.sl (T.int IntKind.i64))) a k) < (0 : Int))) (K ((-(1 : Int)), ())) (K ((hdR (T.sl (T.sl (T.int IntKind.i64))) a k), ())))))
theorem w_laws_heldPart (x : denL c_laws_heldPart.args) (K : Int × Unit → Prop) : evF tab (lkp [(20, c_laws_heldInt64SS)]) (cutL []) Try.f31 (bodyOf Try.f31) .n c_laws_heldPart x K = W_laws_heldPart x.1 x.2.1 K := by kernel_rfl
theorem k_laws_heldPart : okC Try.f31.ntmps (cutL []) (bodyOf Try.f31) = true := by kernel_rfl
theorem m_laws_heldPart (a : PartD) (k : Int) (hok : allP (okL c_laws_heldPart.args (a, k, ()))) (hpre : allP (c_laws_heldPart.pre (a, k, ()))) : W_laws_heldPart a k (fun r => r = c_laws_heldPart.res (a, k, ())) := by
  simp only [c_laws_heldPart, okL, T.oks, T.ok, ap, allP, true_and, and_true, implies_true] at hok hpre
  try dsimp only [T.den] at hok
  try dsimp only [T.den] at hpre
  unfold W_laws_heldPart
  obtain ⟨h0, hb⟩ := hpre
  simp only [ctR] at hb
  simp only [c_laws_heldPart, htR]
  grind [cnd, hd_val, ht_val, ctR]
theorem ct_laws_heldPart : CtOk Try.prog 31 c_laws_heldPart :=
  ct_by (Φ := lkp [(20, c_laws_heldInt64SS)]) (good_cons ct_laws_heldInt64SS good_nil) tab_ok (by kernel_rfl) (fn := Try.f31) (c := bodyOf Try.f31) (by kernel_rfl) (by kernel_rfl) (by kernel_rfl) c_laws_heldPart rfl .n (cutL []) (by kernel_rfl) (by kernel_rfl) k_laws_heldPart (by decide) (fun x K => W_laws_heldPart x.1 x.2.1 K) w_laws_heldPart (fun x h1 h2 => m_laws_heldPart x.1 x.2.1 h1 h2)
def m0_laws_markInt64S : Mt := ⟨(.sl (.fz (.int .i64))), false, fun x k => [0 ≤ k, k + ckR (.sl (.int .i64)) x ≤ 4611686018427387904], fun x k => mkR (.sl (.int .i64)) x k⟩
def c_laws_markInt64S : Ct := mtCt m0_laws_markInt64S
def W_laws_markInt64S (a : List Int) (k : Int) (K : (List Int) → Int → Prop) : Prop := (loopW (S := ((Unit × (Int × (Int × Unit))) × ((List Int) × Unit))) (fun s => (fun next => ((inK IntKind.i64 s.1.2.1) → ((inK IntKind.i64 s.1.2.2.1) → ((T.ok (T.sl (T.int IntKind.i64)) s.2.1) → (cnd (decide (s.1.2.2.1 < (((List.length s.2.1) : Nat) : Int))) (((0 : Int) ≤ s.1.2.2.1) ∧ ((s.1.2.2.1 < (((List.length s.2.1) : Nat) : Int)) ∧ ((inK IntKind.i64 (s.1.2.1 + (1 : Int))) ∧ ((inK IntKind.i64 (s.1.2.2.1 + (1 : Int))) ∧ (next (((), ((s.1.2.1 + (1 : Int)), ((s.1.2.2.1 + (1 : Int)), ()))), ((List.set s.2.1 (Int.toNat s.1.2.2.1) s.1.2.1), ()))))))) (K s.2.1 s.1.2.1))))))) (((), (k, ((0 : Int), ()))), (a, ())))
theorem w_laws_markInt64S (a : List Int) (k : Int) (K : (List Int) → Int → Prop) : evFm tab (lkp []) (cutL []) Try.f14 (bodyOf Try.f14) (.s .n (.s (.s .n (.l [(0, (.ref 1000000 [])), (1, (.d (.int .i64))), (5, (.d (.int .i64)))] [(1000000, (.sl (.fz (.int .i64))))] [] .n)) .n)) m0_laws_markInt64S a k K = W_laws_markInt64S a k K := by kernel_rfl
theorem k_laws_markInt64S : okC Try.f14.ntmps (cutL []) (bodyOf Try.f14) = true := by kernel_rfl
theorem m_laws_markInt64S (a : List Int) (k : Int) (hok : allP (T.oks (.sl (.int .i64)) a)) (h0 : 0 ≤ k) (hpre : k + ckR (.sl (.int .i64)) a ≤ 4611686018427387904) : W_laws_markInt64S a k (fun y n => y = (mkR (.sl (.int .i64)) a k).1 ∧ n = (mkR (.sl (.int .i64)) a k).2) := by
  simp only [T.oks, T.ok, ap, allP, true_and, and_true, implies_true] at hok
  try dsimp only [T.den] at hok
  unfold W_laws_markInt64S
  refine mark_loop (e := .int .i64) (0 : Int) a k h0 hpre (fun k i l next i0 i1 hl hg k0 kb hn h1 h2 h3 => ?_) (fun i l next hi hl h1 h2 h3 => ?_)
  · try dsimp only
    simp only [ckR] at kb
    have hll := h3.1
    simp only [nb_eq] at hll
    exact cnd_d (fun _ => ⟨i0, i1, by rw [inK64]; (try dsimp only); omega, by rw [inK64]; (try dsimp only); omega, hn⟩) (fun h => absurd i1 h)
  · exact cnd_d (fun h => absurd h (by dsimp only; omega)) (fun _ => ⟨hl, rfl⟩)
theorem ct_laws_markInt64S : CtOk Try.prog 14 c_laws_markInt64S :=
  mt_of (Φ := lkp []) good_nil tab_ok (by kernel_rfl) (fn := Try.f14) (c := bodyOf Try.f14) (by kernel_rfl) (by kernel_rfl) (by kernel_rfl) m0_laws_markInt64S (.s .n (.s (.s .n (.l [(0, (.ref 1000000 [])), (1, (.d (.int .i64))), (5, (.d (.int .i64)))] [(1000000, (.sl (.fz (.int .i64))))] [] .n)) .n)) (cutL []) (by kernel_rfl) (by kernel_rfl) k_laws_markInt64S (by decide) (by kernel_rfl) (fun x k hk hok hp => (w_laws_markInt64S x k _).mpr (m_laws_markInt64S x k hok hp.1 hp.2.1))
def m0_laws_markInt64SS : Mt := ⟨(.sl (.sl (.fz (.int .i64)))), false, fun x k => [0 ≤ k, k + ckR (.sl (.sl (.int .i64))) x ≤ 4611686018427387904], fun x k => mkR (.sl (.sl (.int .i64))) x k⟩
def c_laws_markInt64SS : Ct := mtCt m0_laws_markInt64SS
def W_laws_markInt64SS (a : List (List Int)) (k : Int) (K : (List (List Int)) → Int → Prop) : Prop := (loopW (S := ((Unit × (Int × (Int × Unit))) × ((List (List Int)) × Unit))) (fun s => (fun next => ((inK IntKind.i64 s.1.2.1) → ((inK IntKind.i64 s.1.2.2.1) → ((T.ok (T.sl (T.sl (T.int IntKind.i64))) s.2.1) → (cnd (decide (s.1.2.2.1 < (((List.length s.2.1) : Nat) : Int))) (((0 : Int) ≤ s.1.2.2.1) ∧ ((s.1.2.2.1 < (((List.length s.2.1) : Nat) : Int)) ∧ (((0 : Int) ≤ s.1.2.1) ∧ (((s.1.2.1 + (((ckR (T.sl (T.int IntKind.i64)) (List.getD s.2.1 (Int.toNat s.1.2.2.1) ([] : List Int))) : Nat) : Int)) ≤ (4611686018427387904 : Int)) ∧ ((inK IntKind.i64 (s.1.2.2.1 + (1 : Int))) ∧ (next (((), ((mkR (T.sl (T.int IntKind.i64)) (List.getD s.2.1 (Int.toNat s.1.2.2.1) ([] : List Int)) s.1.2.1).2, ((s.1.2.2.1 + (1 : Int)), ()))), ((List.set s.2.1 (Int.toNat s.1.2.2.1) (mkR (T.sl (T.int IntKind.i64)) (List.getD s.2.1 (Int.toNat s.1.2.2.1) ([] : List Int)) s.1.2.1).1), ())))))))) (K s.2.1 s.1.2.1))))))) (((), (k, ((0 : Int), ()))), (a, ())))
theorem w_laws_markInt64SS (a : List (List Int)) (k : Int) (K : (List (List Int)) → Int → Prop) : evFm tab (lkp [(14, c_laws_markInt64S)]) (cutL []) Try.f19 (bodyOf Try.f19) (.s .n (.s (.s .n (.l [(0, (.ref 1000000 [])), (1, (.d (.int .i64))), (5, (.d (.int .i64)))] [(1000000, (.sl (.sl (.fz (.int .i64)))))] [] .n)) .n)) m0_laws_markInt64SS a k K = W_laws_markInt64SS a k K := by kernel_rfl
theorem k_laws_markInt64SS : okC Try.f19.ntmps (cutL []) (bodyOf Try.f19) = true := by kernel_rfl
theorem m_laws_markInt64SS (a : List (List Int)) (k : Int) (hok : allP (T.oks (.sl (.sl (.int .i64))) a)) (h0 : 0 ≤ k) (hpre : k + ckR (.sl (.sl (.int .i64))) a ≤ 4611686018427387904) : W_laws_markInt64SS a k (fun y n => y = (mkR (.sl (.sl (.int .i64))) a k).1 ∧ n = (mkR (.sl (.sl (.int .i64))) a k).2) := by
  simp only [T.oks, T.ok, ap, allP, true_and, and_true, implies_true] at hok
  try dsimp only [T.den] at hok
  unfold W_laws_markInt64SS
  refine mark_loop (e := (.sl (.int .i64))) ([] : List Int) a k h0 hpre (fun k i l next i0 i1 hl hg k0 kb hn h1 h2 h3 => ?_) (fun i l next hi hl h1 h2 h3 => ?_)
  · try dsimp only
    have hll := h3.1
    simp only [nb_eq] at hll
    rw [hg]
    exact cnd_d (fun _ => ⟨i0, i1, k0, kb, by rw [inK64]; (try dsimp only); omega, hn⟩) (fun h => absurd i1 h)
  · exact cnd_d (fun h => absurd h (by dsimp only; omega)) (fun _ => ⟨hl, rfl⟩)
theorem ct_laws_markInt64SS : CtOk Try.prog 19 c_laws_markInt64SS :=
  mt_of (Φ := lkp [(14, c_laws_markInt64S)]) (good_cons ct_laws_markInt64S good_nil) tab_ok (by kernel_rfl) (fn := Try.f19) (c := bodyOf Try.f19) (by kernel_rfl) (by kernel_rfl) (by kernel_rfl) m0_laws_markInt64SS (.s .n (.s (.s .n (.l [(0, (.ref 1000000 [])), (1, (.d (.int .i64))), (5, (.d (.int .i64)))] [(1000000, (.sl (.sl (.fz (.int .i64)))))] [] .n)) .n)) (cutL []) (by kernel_rfl) (by kernel_rfl) k_laws_markInt64SS (by decide) (by kernel_rfl) (fun x k hk hok hp => (w_laws_markInt64SS x k _).mpr (m_laws_markInt64SS x k hok hp.1 hp.2.1))
def m0_laws_markPart : Mt := ⟨PartO, true, fun x k => [0 ≤ k, k + ctR PartT x ≤ 4611686018427387904], fun x k => mtR PartT x k⟩
def c_laws_markPart : Ct := mtCt m0_laws_markPart
def W_laws_markPart (a : PartD) (k : Int) (K : PartD → Int → Prop) : Prop := (((0 : Int) ≤ k) ∧ (((k + (((ckR (T.sl (T.sl (T.int IntKind.i64))) a) : Nat) : Int)) ≤ (4611686018427387904 : Int)) ∧ (K (mkR (T.sl (T.sl (T.int IntKind.i64))) a k).1 (mkR (T.sl (T.sl (T.int IntKind.i64))) a k).2)))
theorem w_laws_markPart (a : PartD) (k : Int) (K : PartD → Int → Prop) : evFm tab (lkp [(19, c_laws_markInt64SS)]) (cutL []) Try.f30 (bodyOf Try.f30) .n m0_laws_markPart a k K = W_laws_markPart a k K := by kernel_rfl
theorem k_laws_markPart : okC Try.f30.ntmps (cutL []) (bodyOf Try.f30) = true := by kernel_rfl
theorem m_laws_markPart (a : PartD) (k : Int) (hok : allP (T.oks PartT a)) (h0 : 0 ≤ k) (hpre : k + ctR PartT a ≤ 4611686018427387904) : W_laws_markPart a k (fun y n => y = (mtR PartT a k).1 ∧ n = (mtR PartT a k).2) := by
  simp only [T.oks, T.ok, ap, allP, true_and, and_true, implies_true] at hok
  try dsimp only [T.den] at hok
  unfold W_laws_markPart
  simp only [ctR] at hpre
  repeat' apply And.intro
  all_goals first | rfl | ((try simp only [mk_num, mt_num, ctR]); omega)
theorem ct_laws_markPart : CtOk Try.prog 30 c_laws_markPart :=
  mt_of (Φ := lkp [(19, c_laws_markInt64SS)]) (good_cons ct_laws_markInt64SS good_nil) tab_ok (by kernel_rfl) (fn := Try.f30) (c := bodyOf Try.f30) (by kernel_rfl) (by kernel_rfl) (by kernel_rfl) m0_laws_markPart .n (cutL []) (by kernel_rfl) (by kernel_rfl) k_laws_markPart (by decide) (by kernel_rfl) (fun x k hk hok hp => (w_laws_markPart x k _).mpr (m_laws_markPart x k hok hp.1 hp.2.1))
def m0_laws_markCategory : Mt := ⟨CategoryO, true, fun x k => [0 ≤ k, k + ctR CategoryT x ≤ 4611686018427387904], fun x k => mtR CategoryT x k⟩
def c_laws_markCategory : Ct := mtCt m0_laws_markCategory
def W_laws_markCategory (a : CategoryD) (k : Int) (K : CategoryD → Int → Prop) : Prop := (((0 : Int) ≤ k) ∧ (((k + (((ckR (T.sl (T.int IntKind.i64)) a.2.1) : Nat) : Int)) ≤ (4611686018427387904 : Int)) ∧ (((0 : Int) ≤ (mkR (T.sl (T.int IntKind.i64)) a.2.1 k).2) ∧ ((((mkR (T.sl (T.int IntKind.i64)) a.2.1 k).2 + (((ckR (T.sl (T.int IntKind.i64)) a.2.2.1) : Nat) : Int)) ≤ (4611686018427387904 : Int)) ∧ (((0 : Int) ≤ (mkR (T.sl (T.int IntKind.i64)) a.2.2.1 (mkR (T.sl (T.int IntKind.i64)) a.2.1 k).2).2) ∧ ((((mkR (T.sl (T.int IntKind.i64)) a.2.2.1 (mkR (T.sl (T.int IntKind.i64)) a.2.1 k).2).2 + (((ckR (T.sl (T.int IntKind.i64)) a.2.2.2.1) : Nat) : Int)) ≤ (4611686018427387904 : Int)) ∧ (((0 : Int) ≤ (mkR (T.sl (T.int IntKind.i64)) a.2.2.2.1 (mkR (T.sl (T.int IntKind.i64)) a.2.2.1 (mkR (T.sl (T.int IntKind.i64)) a.2.1 k).2).2).2) ∧ ((((mkR (T.sl (T.int IntKind.i64)) a.2.2.2.1 (mkR (T.sl (T.int IntKind.i64)) a.2.2.1 (mkR (T.sl (T.int IntKind.i64)) a.2.1 k).2).2).2 + (((ckR (T.sl (T.sl (T.int IntKind.i64))) a.2.2.2.2) : Nat) : Int)) ≤ (4611686018427387904 : Int)) ∧ (K (a.1, ((mkR (T.sl (T.int IntKind.i64)) a.2.1 k).1, ((mkR (T.sl (T.int IntKind.i64)) a.2.2.1 (mkR (T.sl (T.int IntKind.i64)) a.2.1 k).2).1, ((mkR (T.sl (T.int IntKind.i64)) a.2.2.2.1 (mkR (T.sl (T.int IntKind.i64)) a.2.2.1 (mkR (T.sl (T.int IntKind.i64)) a.2.1 k).2).2).1, (mkR (T.sl (T.sl (T.int IntKind.i64))) a.2.2.2.2 (mkR (T.sl (T.int IntKind.i64)) a.2.2.2.1 (mkR (T.sl (T.int IntKind.i64)) a.2.2.1 (mkR (T.sl (T.int IntKind.i64)) a.2.1 k).2).2).2).1)))) (mkR (T.sl (T.sl (T.int IntKind.i64))) a.2.2.2.2 (mkR (T.sl (T.int IntKind.i64)) a.2.2.2.1 (mkR (T.sl (T.int IntKind.i64)) a.2.2.1 (mkR (T.sl (T.int IntKind.i64)) a.2.1 k).2).2).2).2)))))))))
theorem w_laws_markCategory (a : CategoryD) (k : Int) (K : CategoryD → Int → Prop) : evFm tab (lkp [(14, c_laws_markInt64S), (19, c_laws_markInt64SS)]) (cutL []) Try.f13 (bodyOf Try.f13) .n m0_laws_markCategory a k K = W_laws_markCategory a k K := by kernel_rfl
theorem k_laws_markCategory : okC Try.f13.ntmps (cutL []) (bodyOf Try.f13) = true := by kernel_rfl
theorem m_laws_markCategory (a : CategoryD) (k : Int) (hok : allP (T.oks CategoryT a)) (h0 : 0 ≤ k) (hpre : k + ctR CategoryT a ≤ 4611686018427387904) : W_laws_markCategory a k (fun y n => y = (mtR CategoryT a k).1 ∧ n = (mtR CategoryT a k).2) := by
  simp only [T.oks, T.ok, ap, allP, true_and, and_true, implies_true] at hok
  try dsimp only [T.den] at hok
  unfold W_laws_markCategory
  simp only [ctR] at hpre
  repeat' apply And.intro
  all_goals first | rfl | ((try simp only [mk_num, mt_num, ctR]); omega)
theorem ct_laws_markCategory : CtOk Try.prog 13 c_laws_markCategory :=
  mt_of (Φ := lkp [(14, c_laws_markInt64S), (19, c_laws_markInt64SS)]) (good_cons ct_laws_markInt64S (good_cons ct_laws_markInt64SS good_nil)) tab_ok (by kernel_rfl) (fn := Try.f13) (c := bodyOf Try.f13) (by kernel_rfl) (by kernel_rfl) (by kernel_rfl) m0_laws_markCategory .n (cutL []) (by kernel_rfl) (by kernel_rfl) k_laws_markCategory (by decide) (by kernel_rfl) (fun x k hk hok hp => (w_laws_markCategory x k _).mpr (m_laws_markCategory x k hok hp.1 hp.2.1))
def m0_laws_markSetFunctor : Mt := ⟨SetFunctorO, true, fun x k => [0 ≤ k, k + ctR SetFunctorT x ≤ 4611686018427387904], fun x k => mtR SetFunctorT x k⟩
def c_laws_markSetFunctor : Ct := mtCt m0_laws_markSetFunctor
def W_laws_markSetFunctor (a : SetFunctorD) (k : Int) (K : SetFunctorD → Int → Prop) : Prop := (((0 : Int) ≤ k) ∧ (((k + (((ctR CategoryT a.1) : Nat) : Int)) ≤ (4611686018427387904 : Int)) ∧ (((0 : Int) ≤ (mtR CategoryT a.1 k).2) ∧ ((((mtR CategoryT a.1 k).2 + (((ckR (T.sl (T.int IntKind.i64)) a.2.1) : Nat) : Int)) ≤ (4611686018427387904 : Int)) ∧ (((0 : Int) ≤ (mkR (T.sl (T.int IntKind.i64)) a.2.1 (mtR CategoryT a.1 k).2).2) ∧ ((((mkR (T.sl (T.int IntKind.i64)) a.2.1 (mtR CategoryT a.1 k).2).2 + (((ckR (T.sl (T.sl (T.int IntKind.i64))) a.2.2) : Nat) : Int)) ≤ (4611686018427387904 : Int)) ∧ (K ((a.1.1, (mtR CategoryT a.1 k).1.2), ((mkR (T.sl (T.int IntKind.i64)) a.2.1 (mtR CategoryT a.1 k).2).1, (mkR (T.sl (T.sl (T.int IntKind.i64))) a.2.2 (mkR (T.sl (T.int IntKind.i64)) a.2.1 (mtR CategoryT a.1 k).2).2).1)) (mkR (T.sl (T.sl (T.int IntKind.i64))) a.2.2 (mkR (T.sl (T.int IntKind.i64)) a.2.1 (mtR CategoryT a.1 k).2).2).2)))))))
theorem w_laws_markSetFunctor (a : SetFunctorD) (k : Int) (K : SetFunctorD → Int → Prop) : evFm tab (lkp [(13, c_laws_markCategory), (14, c_laws_markInt64S), (19, c_laws_markInt64SS)]) (cutL []) Try.f29 (bodyOf Try.f29) .n m0_laws_markSetFunctor a k K = W_laws_markSetFunctor a k K := by kernel_rfl
theorem k_laws_markSetFunctor : okC Try.f29.ntmps (cutL []) (bodyOf Try.f29) = true := by kernel_rfl
theorem m_laws_markSetFunctor (a : SetFunctorD) (k : Int) (hok : allP (T.oks SetFunctorT a)) (h0 : 0 ≤ k) (hpre : k + ctR SetFunctorT a ≤ 4611686018427387904) : W_laws_markSetFunctor a k (fun y n => y = (mtR SetFunctorT a k).1 ∧ n = (mtR SetFunctorT a k).2) := by
  simp only [T.oks, T.ok, ap, allP, true_and, and_true, implies_true] at hok
  try dsimp only [T.den] at hok
  unfold W_laws_markSetFunctor
  simp only [ctR] at hpre
  repeat' apply And.intro
  all_goals first | rfl | ((try simp only [mk_num, mt_num, ctR]); omega)
theorem ct_laws_markSetFunctor : CtOk Try.prog 29 c_laws_markSetFunctor :=
  mt_of (Φ := lkp [(13, c_laws_markCategory), (14, c_laws_markInt64S), (19, c_laws_markInt64SS)]) (good_cons ct_laws_markCategory (good_cons ct_laws_markInt64S (good_cons ct_laws_markInt64SS good_nil))) tab_ok (by kernel_rfl) (fn := Try.f29) (c := bodyOf Try.f29) (by kernel_rfl) (by kernel_rfl) (by kernel_rfl) m0_laws_markSetFunctor .n (cutL []) (by kernel_rfl) (by kernel_rfl) k_laws_markSetFunctor (by decide) (by kernel_rfl) (fun x k hk hok hp => (w_laws_markSetFunctor x k _).mpr (m_laws_markSetFunctor x k hok hp.1 hp.2.1))
def c_laws_szInt64S : Ct := ⟨[(.sl (.int .i64)), (.int .i64)], [false, false], fun x => [-4611545280939032576 ≤ x.2.1], [(false, (.fz (.int .i64)))], fun x => (szR (wR (.sl (.int .i64)) x.1) x.2.1, ()), false, none⟩
def W_laws_szInt64S (a : List Int) (left : Int) (K : Int × Unit → Prop) : Prop := ((inK IntKind.i64 (left - (((List.length a) : Nat) : Int))) ∧ (cnd (decide ((left - (((List.length a) : Nat) : Int)) < (0 : Int))) (K ((-(1 : Int)), ())) (K ((left - (((List.length a) : Nat) : Int)), ()))))
theorem w_laws_szInt64S (x : denL c_laws_szInt64S.args) (K : Int × Unit → Prop) : evF tab (lkp []) (cutL []) Try.f32 (bodyOf Try.f32) .n c_laws_szInt64S x K = W_laws_szInt64S x.1 x.2.1 K := by kernel_rfl
theorem k_laws_szInt64S : okC Try.f32.ntmps (cutL []) (bodyOf Try.f32) = true := by kernel_rfl
theorem m_laws_szInt64S (a : List Int) (left : Int) (hok : allP (okL c_laws_szInt64S.args (a, left, ()))) (hpre : allP (c_laws_szInt64S.pre (a, left, ()))) : W_laws_szInt64S a left (fun r => r = c_laws_szInt64S.res (a, left, ())) := by
  simp only [c_laws_szInt64S, okL, T.oks, T.ok, ap, allP, true_and, and_true, implies_true] at hok hpre
  try dsimp only [T.den] at hok
  try dsimp only [T.den] at hpre
  unfold W_laws_szInt64S
  simp only [c_laws_szInt64S, wR_ints]
  grind [cnd, nb_eq, inK64, szR]
theorem ct_laws_szInt64S : CtOk Try.prog 32 c_laws_szInt64S :=
  ct_by (Φ := lkp []) good_nil tab_ok (by kernel_rfl) (fn := Try.f32) (c := bodyOf Try.f32) (by kernel_rfl) (by kernel_rfl) (by kernel_rfl) c_laws_szInt64S rfl .n (cutL []) (by kernel_rfl) (by kernel_rfl) k_laws_szInt64S (by decide) (fun x K => W_laws_szInt64S x.1 x.2.1 K) w_laws_szInt64S (fun x h1 h2 => m_laws_szInt64S x.1 x.2.1 h1 h2)
def c_laws_szInt64SS : Ct := ⟨[(.sl (.sl (.int .i64))), (.int .i64)], [false, false], fun x => [-4611404543450677248 ≤ x.2.1], [(false, (.fz (.int .i64)))], fun x => (szR (wR (.sl (.sl (.int .i64))) x.1) x.2.1, ()), false, none⟩
def W_laws_szInt64SS (a : List (List Int)) (left : Int) (K : Int × Unit → Prop) : Prop := ((inK IntKind.i64 (left - (((List.length a) : Nat) : Int))) ∧ (cnd (decide ((left - (((List.length a) : Nat) : Int)) < (0 : Int))) (K ((-(1 : Int)), ())) (loopW (S := ((Int × (Int × Unit)) × Unit)) (fun s => (fun next => ((inK IntKind.i64 s.1.1) → ((inK IntKind.i64 s.1.2.1) → (cnd (decide (s.1.2.1 < (((List.length a) : Nat) : Int))) (((0 : Int) ≤ s.1.2.1) ∧ ((s.1.2.1 < (((List.length a) : Nat) : Int)) ∧ (((-(4611545280939032576 : Int)) ≤ s.1.1) ∧ (cnd (decide ((szR (wR (T.sl (T.int IntKind.i64)) (List.getD a (Int.toNat s.1.2.1) ([] : List Int))) s.1.1) < (0 : Int))) (K ((-(1 : Int)), ())) ((inK IntKind.i64 (s.1.2.1 + (1 : Int))) ∧ (next (((szR (wR (T.sl (T.int IntKind.i64)) (List.getD a (Int.toNat s.1.2.1) ([] : List Int))) s.1.1), ((s.1.2.1 + (1 : Int)), ())), ()))))))) (K (s.1.1, ()))))))) (((left - (((List.length a) : Nat) : Int)), ((0 : Int), ())), ()))))
theorem w_laws_szInt64SS (x : denL c_laws_szInt64SS.args) (K : Int × Unit → Prop) : evF tab (lkp [(32, c_laws_szInt64S)]) (cutL []) Try.f22 (bodyOf Try.f22) (.s .n (.s .n (.s .n (.s (.s .n (.l [(1, (.d (.int .i64))), (5, (.d (.int .i64)))] [] [0] .n)) .n)))) c_laws_szInt64SS x K = W_laws_szInt64SS x.1 x.2.1 K := by kernel_rfl
theorem k_laws_szInt64SS : okC Try.f22.ntmps (cutL []) (bodyOf Try.f22) = true := by kernel_rfl
theorem m_laws_szInt64SS (a : List (List Int)) (left : Int) (hok : allP (okL c_laws_szInt64SS.args (a, left, ()))) (hpre : allP (c_laws_szInt64SS.pre (a, left, ()))) : W_laws_szInt64SS a left (fun r => r = c_laws_szInt64SS.res (a, left, ())) := by
  simp only [c_laws_szInt64SS, okL, T.oks, T.ok, ap, allP, true_and, and_true, implies_true] at hok hpre
  try dsimp only [T.den] at hok
  try dsimp only [T.den] at hpre
  unfold W_laws_szInt64SS
  have hr := szR_ge (x := a.length) (r := (a.map (wR (.sl (.int .i64)))).sum) (l := left)
  refine ⟨by grind [cnd, nb_eq, inK64], cnd_d (fun hc => ?_) (fun hc => ?_)⟩
  · simp only [c_laws_szInt64SS]; rw [wR_sl, szR_lt (x := a.length) (by omega)]
  replace hr := hr (by omega)
  rw [szR_val (x := a.length) (by omega)] at hr
  refine loop_of (fun (s : ((Int × (Int × Unit)) × Unit)) => 0 ≤ s.1.1 ∧ 0 ≤ s.1.2.1 ∧ s.1.2.1 ≤ a.length ∧ szR (wR (.sl (.sl (.int .i64))) a) left = szR ((a.drop s.1.2.1.toNat).map (wR (.sl (.int .i64)))).sum s.1.1) (fun (s : ((Int × (Int × Unit)) × Unit)) => (a.length - s.1.2.1).toNat) ?_ ⟨(by first | omega | (dsimp only; omega)), by simp, by simp, by rw [wR_sl]; simpa using hr⟩
  rintro ⟨⟨l, i, _⟩, _⟩ next ⟨h0, h1, h2, h3⟩ hn hin hl
  simp only at h0 h1 h2 h3 hn ⊢
  refine cnd_d (fun hc => ?_) (fun hc => ?_)
  · rw [drop_c a ([] : List Int) h1 hc, List.map_cons, List.sum_cons] at h3
    refine ⟨by omega, by omega, by omega, cnd_d (fun hd => ?_) (fun hd => ?_)⟩
    · rw [szR_neg] at hd
      rw [szR_lt hd] at h3
      simp only [c_laws_szInt64SS]; rw [h3]
    · rw [szR_neg] at hd
      rw [szR_ge hd] at h3
      exact ⟨by grind [cnd, nb_eq, inK64], hn _ ⟨by simp only; rw [szR_val hd]; omega, (by first | omega | (dsimp only; omega)), (by first | omega | (dsimp only; omega)), h3⟩ (by first | omega | (dsimp only; omega))⟩
  · rw [drop_n a (by omega)] at h3
    simp only [List.map_nil, List.sum_nil] at h3
    rw [szR_zero h0] at h3
    simp only [c_laws_szInt64SS]; rw [h3]
theorem ct_laws_szInt64SS : CtOk Try.prog 22 c_laws_szInt64SS :=
  ct_by (Φ := lkp [(32, c_laws_szInt64S)]) (good_cons ct_laws_szInt64S good_nil) tab_ok (by kernel_rfl) (fn := Try.f22) (c := bodyOf Try.f22) (by kernel_rfl) (by kernel_rfl) (by kernel_rfl) c_laws_szInt64SS rfl (.s .n (.s .n (.s .n (.s (.s .n (.l [(1, (.d (.int .i64))), (5, (.d (.int .i64)))] [] [0] .n)) .n)))) (cutL []) (by kernel_rfl) (by kernel_rfl) k_laws_szInt64SS (by decide) (fun x K => W_laws_szInt64SS x.1 x.2.1 K) w_laws_szInt64SS (fun x h1 h2 => m_laws_szInt64SS x.1 x.2.1 h1 h2)
def c_laws_szCategory : Ct := ⟨[CategoryT, (.int .i64)], [true, false], fun x => [-4611404543450677248 ≤ x.2.1], [(false, (.fz (.int .i64)))], fun x => (szR (wR CategoryT x.1) x.2.1, ()), false, none⟩
def W_laws_szCategory (a : CategoryD) (left : Int) (K : Int × Unit → Prop) : Prop := (((-(4611545280939032576 : Int)) ≤ left) ∧ (cnd (decide ((szR (wR (T.sl (T.int IntKind.i64)) a.2.1) left) < (0 : Int))) (K ((-(1 : Int)), ())) (((-(4611545280939032576 : Int)) ≤ (szR (wR (T.sl (T.int IntKind.i64)) a.2.1) left)) ∧ (cnd (decide ((szR (wR (T.sl (T.int IntKind.i64)) a.2.2.1) (szR (wR (T.sl (T.int IntKind.i64)) a.2.1) left)) < (0 : Int))) (K ((-(1 : Int)), ())) (((-(4611545280939032576 : Int)) ≤ (szR (wR (T.sl (T.int IntKind.i64)) a.2.2.1) (szR (wR (T.sl (T.int IntKind.i64)) a.2.1) left))) ∧ (cnd (decide ((szR (wR (T.sl (T.int IntKind.i64)) a.2.2.2.1) (szR (wR (T.sl (T.int IntKind.i64)) a.2.2.1) (szR (wR (T.sl (T.int IntKind.i64)) a.2.1) left))) < (0 : Int))) (K ((-(1 : Int)), ())) (((-(4611404543450677248 : Int)) ≤ (szR (wR (T.sl (T.int IntKind.i64)) a.2.2.2.1) (szR (wR (T.sl (T.int IntKind.i64)) a.2.2.1) (szR (wR (T.sl (T.int IntKind.i64)) a.2.1) left)))) ∧ (cnd (decide ((szR (wR (T.sl (T.sl (T.int IntKind.i64))) a.2.2.2.2) (szR (wR (T.sl (T.int IntKind.i64)) a.2.2.2.1) (szR (wR (T.sl (T.int IntKind.i64)) a.2.2.1) (szR (wR (T.sl (T.int IntKind.i64)) a.2.1) left)))) < (0 : Int))) (K ((-(1 : Int)), ())) (K ((szR (wR (T.sl (T.sl (T.int IntKind.i64))) a.2.2.2.2) (szR (wR (T.sl (T.int IntKind.i64)) a.2.2.2.1) (szR (wR (T.sl (T.int IntKind.i64)) a.2.2.1) (szR (wR (T.sl (T.int IntKind.i64)) a.2.1) left)))), ()))))))))))
theorem w_laws_szCategory (x : denL c_laws_szCategory.args) (K : Int × Unit → Prop) : evF tab (lkp [(32, c_laws_szInt64S), (22, c_laws_szInt64SS)]) (cutL []) Try.f6 (bodyOf Try.f6) .n c_laws_szCategory x K = W_laws_szCategory x.1 x.2.1 K := by kernel_rfl
theorem k_laws_szCategory : okC Try.f6.ntmps (cutL []) (bodyOf Try.f6) = true := by kernel_rfl
theorem m_laws_szCategory (a : CategoryD) (left : Int) (hok : allP (okL c_laws_szCategory.args (a, left, ()))) (hpre : allP (c_laws_szCategory.pre (a, left, ()))) : W_laws_szCategory a left (fun r => r = c_laws_szCategory.res (a, left, ())) := by
  simp only [c_laws_szCategory, okL, T.oks, T.ok, ap, allP, true_and, and_true, implies_true] at hok hpre
  try dsimp only [T.den] at hok
  try dsimp only [T.den] at hpre
  unfold W_laws_szCategory
  simp only [c_laws_szCategory, wR_p, wR_int, wR_bool, Nat.zero_add, Nat.add_zero]
  grind [cnd, nb_eq, inK64, szR]
theorem ct_laws_szCategory : CtOk Try.prog 6 c_laws_szCategory :=
  ct_by (Φ := lkp [(32, c_laws_szInt64S), (22, c_laws_szInt64SS)]) (good_cons ct_laws_szInt64S (good_cons ct_laws_szInt64SS good_nil)) tab_ok (by kernel_rfl) (fn := Try.f6) (c := bodyOf Try.f6) (by kernel_rfl) (by kernel_rfl) (by kernel_rfl) c_laws_szCategory rfl .n (cutL []) (by kernel_rfl) (by kernel_rfl) k_laws_szCategory (by decide) (fun x K => W_laws_szCategory x.1 x.2.1 K) w_laws_szCategory (fun x h1 h2 => m_laws_szCategory x.1 x.2.1 h1 h2)
def c_laws_szSetFunctor : Ct := ⟨[SetFunctorT, (.int .i64)], [true, false], fun x => [-4611404543450677248 ≤ x.2.1], [(false, (.fz (.int .i64)))], fun x => (szR (wR SetFunctorT x.1) x.2.1, ()), false, none⟩
def W_laws_szSetFunctor (a : SetFunctorD) (left : Int) (K : Int × Unit → Prop) : Prop := (((-(4611404543450677248 : Int)) ≤ left) ∧ (cnd (decide ((szR (wR CategoryT a.1) left) < (0 : Int))) (K ((-(1 : Int)), ())) (((-(4611545280939032576 : Int)) ≤ (szR (wR CategoryT a.1) left)) ∧ (cnd (decide ((szR (wR (T.sl (T.int IntKind.i64)) a.2.1) (szR (wR CategoryT a.1) left)) < (0 : Int))) (K ((-(1 : Int)), ())) (((-(4611404543450677248 : Int)) ≤ (szR (wR (T.sl (T.int IntKind.i64)) a.2.1) (szR (wR CategoryT a.1) left))) ∧ (cnd (decide ((szR (wR (T.sl (T.sl (T.int IntKind.i64))) a.2.2) (szR (wR (T.sl (T.int IntKind.i64)) a.2.1) (szR (wR CategoryT a.1) left))) < (0 : Int))) (K ((-(1 : Int)), ())) (K ((szR (wR (T.sl (T.sl (T.int IntKind.i64))) a.2.2) (szR (wR (T.sl (T.int IntKind.i64)) a.2.1) (szR (wR CategoryT a.1) left))), ()))))))))
theorem w_laws_szSetFunctor (x : denL c_laws_szSetFunctor.args) (K : Int × Unit → Prop) : evF tab (lkp [(6, c_laws_szCategory), (32, c_laws_szInt64S), (22, c_laws_szInt64SS)]) (cutL []) Try.f21 (bodyOf Try.f21) .n c_laws_szSetFunctor x K = W_laws_szSetFunctor x.1 x.2.1 K := by kernel_rfl
theorem k_laws_szSetFunctor : okC Try.f21.ntmps (cutL []) (bodyOf Try.f21) = true := by kernel_rfl
theorem m_laws_szSetFunctor (a : SetFunctorD) (left : Int) (hok : allP (okL c_laws_szSetFunctor.args (a, left, ()))) (hpre : allP (c_laws_szSetFunctor.pre (a, left, ()))) : W_laws_szSetFunctor a left (fun r => r = c_laws_szSetFunctor.res (a, left, ())) := by
  simp only [c_laws_szSetFunctor, okL, T.oks, T.ok, ap, allP, true_and, and_true, implies_true] at hok hpre
  try dsimp only [T.den] at hok
  try dsimp only [T.den] at hpre
  unfold W_laws_szSetFunctor
  simp only [c_laws_szSetFunctor, wR_p, wR_int, wR_bool, Nat.zero_add, Nat.add_zero]
  grind [cnd, nb_eq, inK64, szR]
theorem ct_laws_szSetFunctor : CtOk Try.prog 21 c_laws_szSetFunctor :=
  ct_by (Φ := lkp [(6, c_laws_szCategory), (32, c_laws_szInt64S), (22, c_laws_szInt64SS)]) (good_cons ct_laws_szCategory (good_cons ct_laws_szInt64S (good_cons ct_laws_szInt64SS good_nil))) tab_ok (by kernel_rfl) (fn := Try.f21) (c := bodyOf Try.f21) (by kernel_rfl) (by kernel_rfl) (by kernel_rfl) c_laws_szSetFunctor rfl .n (cutL []) (by kernel_rfl) (by kernel_rfl) k_laws_szSetFunctor (by decide) (fun x K => W_laws_szSetFunctor x.1 x.2.1 K) w_laws_szSetFunctor (fun x h1 h2 => m_laws_szSetFunctor x.1 x.2.1 h1 h2)
def c_laws_toInt64S : Ct := ⟨[(.sl (.int .i64))], [false], fun x => [wR (.sl (.int .i64)) x.1 ≤ 1099511627776], [(false, (.sl (.fz (.int .i64))))], fun x => (x.1, ()), false, none⟩
def W_laws_toInt64S (a : List Int) (K : (List Int) × Unit → Prop) : Prop := (((0 : Int) ≤ (((List.length a) : Nat) : Int)) ∧ (((((List.length a) : Nat) : Int) ≤ (((List.length a) : Nat) : Int)) ∧ (((((List.length a) : Nat) : Int) ≤ ((140737488355328 : Nat) : Int)) ∧ ((((((List.length a) : Nat) : Int) * ((8 : Nat) : Int)) ≤ ((140737488355328 : Nat) : Int)) ∧ (loopW (S := ((Unit × (Int × Unit)) × ((List Int) × Unit))) (fun s => (fun next => ((inK IntKind.i64 s.1.2.1) → ((T.ok (T.sl (T.int IntKind.i64)) s.2.1) → (cnd (decide (s.1.2.1 < (((List.length a) : Nat) : Int))) (((0 : Int) ≤ s.1.2.1) ∧ ((s.1.2.1 < (((List.length a) : Nat) : Int)) ∧ (((0 : Int) ≤ s.1.2.1) ∧ ((s.1.2.1 < (((List.length s.2.1) : Nat) : Int)) ∧ ((inK IntKind.i64 (s.1.2.1 + (1 : Int))) ∧ (next (((), ((s.1.2.1 + (1 : Int)), ())), ((List.set s.2.1 (Int.toNat s.1.2.1) (List.getD a (Int.toNat s.1.2.1) (0 : Int))), ())))))))) (K (s.2.1, ()))))))) (((), ((0 : Int), ())), ((List.replicate (Int.toNat (((List.length a) : Nat) : Int)) (0 : Int)), ())))))))
theorem w_laws_toInt64S (x : denL c_laws_toInt64S.args) (K : (List Int) × Unit → Prop) : evF tab (lkp []) (cutL []) Try.f9 (bodyOf Try.f9) (.s .n (.s .n (.s (.s .n (.l [(3, (.ref 7 [])), (4, (.d (.int .i64)))] [(7, (.sl (.fz (.int .i64))))] [0] .n)) .n))) c_laws_toInt64S x K = W_laws_toInt64S x.1 K := by kernel_rfl
theorem k_laws_toInt64S : okC Try.f9.ntmps (cutL []) (bodyOf Try.f9) = true := by kernel_rfl
theorem m_laws_toInt64S (a : List Int) (hok : allP (okL c_laws_toInt64S.args (a, ()))) (hpre : allP (c_laws_toInt64S.pre (a, ()))) : W_laws_toInt64S a (fun r => r = c_laws_toInt64S.res (a, ())) := by
  simp only [c_laws_toInt64S, okL, T.oks, T.ok, ap, allP, true_and, and_true, implies_true] at hok hpre
  try dsimp only [T.den] at hok
  try dsimp only [T.den] at hpre
  unfold W_laws_toInt64S
  rw [wR_sl] at hpre
  refine ⟨by omega, by omega, by first | omega | (rw [nb_eq]; omega), by first | omega | (rw [nb_eq]; omega), ?_⟩
  refine loop_of (fun (s : ((Unit × (Int × Unit)) × ((List Int) × Unit))) => 0 ≤ s.1.2.1 ∧ s.1.2.1 ≤ a.length ∧ s.2.1.length = a.length ∧ s.2.1.take s.1.2.1.toNat = a.take s.1.2.1.toNat) (fun (s : ((Unit × (Int × Unit)) × ((List Int) × Unit))) => (a.length - s.1.2.1).toNat) ?_ (by simp)
  rintro ⟨⟨_, i, _⟩, l, _⟩ next ⟨h0, h1, h2, h3⟩ hn hin hl
  simp only at h0 h1 h2 h3 hn ⊢
  refine cnd_d (fun hc => ?_) (fun hc => ?_)
  · refine ⟨by omega, by omega, by omega, by omega, by grind [cnd, nb_eq, inK64], hn _ ⟨(by first | omega | (dsimp only; omega)), (by first | omega | (dsimp only; omega)), by simp [h2], ?_⟩ (by first | omega | (dsimp only; omega))⟩
    simp only
    rw [take_c a (0 : Int) h0 hc, ← h3]
    exact take_set l h0 (by omega) _
  · rw [take_n a (by omega), take_n l (by omega)] at h3
    simp [h3, c_laws_toInt64S]
theorem ct_laws_toInt64S : CtOk Try.prog 9 c_laws_toInt64S :=
  ct_by (Φ := lkp []) good_nil tab_ok (by kernel_rfl) (fn := Try.f9) (c := bodyOf Try.f9) (by kernel_rfl) (by kernel_rfl) (by kernel_rfl) c_laws_toInt64S rfl (.s .n (.s .n (.s (.s .n (.l [(3, (.ref 7 [])), (4, (.d (.int .i64)))] [(7, (.sl (.fz (.int .i64))))] [0] .n)) .n))) (cutL []) (by kernel_rfl) (by kernel_rfl) k_laws_toInt64S (by decide) (fun x K => W_laws_toInt64S x.1 K) w_laws_toInt64S (fun x h1 h2 => m_laws_toInt64S x.1 h1 h2)
def c_laws_toInt64SS : Ct := ⟨[(.sl (.sl (.int .i64)))], [false], fun x => [wR (.sl (.sl (.int .i64))) x.1 ≤ 1099511627776], [(false, (.sl (.sl (.fz (.int .i64)))))], fun x => (x.1, ()), false, none⟩
def W_laws_toInt64SS (a : List (List Int)) (K : (List (List Int)) × Unit → Prop) : Prop := (((0 : Int) ≤ (((List.length a) : Nat) : Int)) ∧ (((((List.length a) : Nat) : Int) ≤ (((List.length a) : Nat) : Int)) ∧ (((((List.length a) : Nat) : Int) ≤ ((140737488355328 : Nat) : Int)) ∧ ((((((List.length a) : Nat) : Int) * ((24 : Nat) : Int)) ≤ ((140737488355328 : Nat) : Int)) ∧ (loopW (S := ((Unit × (Int × Unit)) × ((List (List Int)) × Unit))) (fun s => (fun next => ((inK IntKind.i64 s.1.2.1) → ((T.ok (T.sl (T.sl (T.int IntKind.i64))) s.2.1) → (cnd (decide (s.1.2.1 < (((List.length a) : Nat) : Int))) (((0 : Int) ≤ s.1.2.1) ∧ ((s.1.2.1 < (((List.length a) : Nat) : Int)) ∧ (((wR (T.sl (T.int IntKind.i64)) (List.getD a (Int.toNat s.1.2.1) ([] : List Int))) ≤ 1099511627776) ∧ (((0 : Int) ≤ s.1.2.1) ∧ ((s.1.2.1 < (((List.length s.2.1) : Nat) : Int)) ∧ ((inK IntKind.i64 (s.1.2.1 + (1 : Int))) ∧ (next (((), ((s.1.2.1 + (1 : Int)), ())), ((List.set s.2.1 (Int.toNat s.1.2.1) (List.getD a (Int.toNat s.1.2.1) ([] : List Int))), ()))))))))) (K (s.2.1, ()))))))) (((), ((0 : Int), ())), ((List.replicate (Int.toNat (((List.length a) : Nat) : Int)) ([] : List Int)), ())))))))
theorem w_laws_toInt64SS (x : denL c_laws_toInt64SS.args) (K : (List (List Int)) × Unit → Prop) : evF tab (lkp [(9, c_laws_toInt64S)]) (cutL []) Try.f25 (bodyOf Try.f25) (.s .n (.s .n (.s (.s .n (.l [(3, (.ref 7 [])), (4, (.d (.int .i64)))] [(7, (.sl (.sl (.fz (.int .i64)))))] [0] .n)) .n))) c_laws_toInt64SS x K = W_laws_toInt64SS x.1 K := by kernel_rfl
theorem k_laws_toInt64SS : okC Try.f25.ntmps (cutL []) (bodyOf Try.f25) = true := by kernel_rfl
theorem m_laws_toInt64SS (a : List (List Int)) (hok : allP (okL c_laws_toInt64SS.args (a, ()))) (hpre : allP (c_laws_toInt64SS.pre (a, ()))) : W_laws_toInt64SS a (fun r => r = c_laws_toInt64SS.res (a, ())) := by
  simp only [c_laws_toInt64SS, okL, T.oks, T.ok, ap, allP, true_and, and_true, implies_true] at hok hpre
  try dsimp only [T.den] at hok
  try dsimp only [T.den] at hpre
  unfold W_laws_toInt64SS
  rw [wR_sl] at hpre
  refine ⟨by omega, by omega, by first | omega | (rw [nb_eq]; omega), by first | omega | (rw [nb_eq]; omega), ?_⟩
  refine loop_of (fun (s : ((Unit × (Int × Unit)) × ((List (List Int)) × Unit))) => 0 ≤ s.1.2.1 ∧ s.1.2.1 ≤ a.length ∧ s.2.1.length = a.length ∧ s.2.1.take s.1.2.1.toNat = a.take s.1.2.1.toNat) (fun (s : ((Unit × (Int × Unit)) × ((List (List Int)) × Unit))) => (a.length - s.1.2.1).toNat) ?_ (by simp)
  rintro ⟨⟨_, i, _⟩, l, _⟩ next ⟨h0, h1, h2, h3⟩ hn hin hl
  simp only at h0 h1 h2 h3 hn ⊢
  refine cnd_d (fun hc => ?_) (fun hc => ?_)
  · have hm := wR_mem (e := (.sl (.int .i64))) (getD_mem a ([] : List Int) h0 hc)
    refine ⟨by omega, by omega, by omega, by omega, by omega, by grind [cnd, nb_eq, inK64], hn _ ⟨(by first | omega | (dsimp only; omega)), (by first | omega | (dsimp only; omega)), by simp [h2], ?_⟩ (by first | omega | (dsimp only; omega))⟩
    simp only
    rw [take_c a ([] : List Int) h0 hc, ← h3]
    exact take_set l h0 (by omega) _
  · rw [take_n a (by omega), take_n l (by omega)] at h3
    simp [h3, c_laws_toInt64SS]
theorem ct_laws_toInt64SS : CtOk Try.prog 25 c_laws_toInt64SS :=
  ct_by (Φ := lkp [(9, c_laws_toInt64S)]) (good_cons ct_laws_toInt64S good_nil) tab_ok (by kernel_rfl) (fn := Try.f25) (c := bodyOf Try.f25) (by kernel_rfl) (by kernel_rfl) (by kernel_rfl) c_laws_toInt64SS rfl (.s .n (.s .n (.s (.s .n (.l [(3, (.ref 7 [])), (4, (.d (.int .i64)))] [(7, (.sl (.sl (.fz (.int .i64)))))] [0] .n)) .n))) (cutL []) (by kernel_rfl) (by kernel_rfl) k_laws_toInt64SS (by decide) (fun x K => W_laws_toInt64SS x.1 K) w_laws_toInt64SS (fun x h1 h2 => m_laws_toInt64SS x.1 h1 h2)
def c_laws_toCategory : Ct := ⟨[CategoryT], [true], fun x => [wR CategoryT x.1 ≤ 1099511627776], [(true, CategoryO)], fun x => (x.1, ()), false, none⟩
def W_laws_toCategory (a : CategoryD) (K : CategoryD × Unit → Prop) : Prop := (((wR (T.sl (T.int IntKind.i64)) a.2.1) ≤ 1099511627776) ∧ (((wR (T.sl (T.int IntKind.i64)) a.2.2.1) ≤ 1099511627776) ∧ (((wR (T.sl (T.int IntKind.i64)) a.2.2.2.1) ≤ 1099511627776) ∧ (((wR (T.sl (T.sl (T.int IntKind.i64))) a.2.2.2.2) ≤ 1099511627776) ∧ (K (a, ()))))))
theorem w_laws_toCategory (x : denL c_laws_toCategory.args) (K : CategoryD × Unit → Prop) : evF tab (lkp [(9, c_laws_toInt64S), (25, c_laws_toInt64SS)]) (cutL []) Try.f8 (bodyOf Try.f8) .n c_laws_toCategory x K = W_laws_toCategory x.1 K := by kernel_rfl
theorem k_laws_toCategory : okC Try.f8.ntmps (cutL []) (bodyOf Try.f8) = true := by kernel_rfl
theorem m_laws_toCategory (a : CategoryD) (hok : allP (okL c_laws_toCategory.args (a, ()))) (hpre : allP (c_laws_toCategory.pre (a, ()))) : W_laws_toCategory a (fun r => r = c_laws_toCategory.res (a, ())) := by
  simp only [c_laws_toCategory, okL, T.oks, T.ok, ap, allP, true_and, and_true, implies_true] at hok hpre
  try dsimp only [T.den] at hok
  try dsimp only [T.den] at hpre
  unfold W_laws_toCategory
  simp only [wR_p, wR_int, wR_bool] at hpre
  repeat' apply And.intro
  all_goals first | rfl | ((try simp only [wR_p, wR_int, wR_bool]); omega)
theorem ct_laws_toCategory : CtOk Try.prog 8 c_laws_toCategory :=
  ct_by (Φ := lkp [(9, c_laws_toInt64S), (25, c_laws_toInt64SS)]) (good_cons ct_laws_toInt64S (good_cons ct_laws_toInt64SS good_nil)) tab_ok (by kernel_rfl) (fn := Try.f8) (c := bodyOf Try.f8) (by kernel_rfl) (by kernel_rfl) (by kernel_rfl) c_laws_toCategory rfl .n (cutL []) (by kernel_rfl) (by kernel_rfl) k_laws_toCategory (by decide) (fun x K => W_laws_toCategory x.1 K) w_laws_toCategory (fun x h1 h2 => m_laws_toCategory x.1 h1 h2)
def c_laws_toSetFunctor : Ct := ⟨[SetFunctorT], [true], fun x => [wR SetFunctorT x.1 ≤ 1099511627776], [(true, SetFunctorO)], fun x => (x.1, ()), false, none⟩
def W_laws_toSetFunctor (a : SetFunctorD) (K : SetFunctorD × Unit → Prop) : Prop := (((wR CategoryT a.1) ≤ 1099511627776) ∧ (((wR (T.sl (T.int IntKind.i64)) a.2.1) ≤ 1099511627776) ∧ (((wR (T.sl (T.sl (T.int IntKind.i64))) a.2.2) ≤ 1099511627776) ∧ (K (a, ())))))
theorem w_laws_toSetFunctor (x : denL c_laws_toSetFunctor.args) (K : SetFunctorD × Unit → Prop) : evF tab (lkp [(8, c_laws_toCategory), (9, c_laws_toInt64S), (25, c_laws_toInt64SS)]) (cutL []) Try.f24 (bodyOf Try.f24) .n c_laws_toSetFunctor x K = W_laws_toSetFunctor x.1 K := by kernel_rfl
theorem k_laws_toSetFunctor : okC Try.f24.ntmps (cutL []) (bodyOf Try.f24) = true := by kernel_rfl
theorem m_laws_toSetFunctor (a : SetFunctorD) (hok : allP (okL c_laws_toSetFunctor.args (a, ()))) (hpre : allP (c_laws_toSetFunctor.pre (a, ()))) : W_laws_toSetFunctor a (fun r => r = c_laws_toSetFunctor.res (a, ())) := by
  simp only [c_laws_toSetFunctor, okL, T.oks, T.ok, ap, allP, true_and, and_true, implies_true] at hok hpre
  try dsimp only [T.den] at hok
  try dsimp only [T.den] at hpre
  unfold W_laws_toSetFunctor
  simp only [wR_p, wR_int, wR_bool] at hpre
  repeat' apply And.intro
  all_goals first | rfl | ((try simp only [wR_p, wR_int, wR_bool]); omega)
theorem ct_laws_toSetFunctor : CtOk Try.prog 24 c_laws_toSetFunctor :=
  ct_by (Φ := lkp [(8, c_laws_toCategory), (9, c_laws_toInt64S), (25, c_laws_toInt64SS)]) (good_cons ct_laws_toCategory (good_cons ct_laws_toInt64S (good_cons ct_laws_toInt64SS good_nil))) tab_ok (by kernel_rfl) (fn := Try.f24) (c := bodyOf Try.f24) (by kernel_rfl) (by kernel_rfl) (by kernel_rfl) c_laws_toSetFunctor rfl .n (cutL []) (by kernel_rfl) (by kernel_rfl) k_laws_toSetFunctor (by decide) (fun x K => W_laws_toSetFunctor x.1 K) w_laws_toSetFunctor (fun x h1 h2 => m_laws_toSetFunctor x.1 h1 h2)
end Go.Bm
