/- What the functions that FnExactRenumberCategory reaches give: for each its contract, what it asks, and the proof. No condition. -/
import Derived.Test.YtfknijkkogmidaaTab
namespace Go.Bm
open Go.Proofs
set_option maxRecDepth 100000
set_option maxHeartbeats 1000000
set_option linter.unusedVariables false
set_option linter.unusedSimpArgs false
def c_impl_Category_arrows : Ct := ⟨[(.pt CategoryT)], [false], fun x => [], [(false, (.fz (.int .i64)))], fun x => ((x.1.2.1.length : Int), ()), false, none⟩
def W_impl_Category_arrows (c : CategoryD) (K : Int × Unit → Prop) : Prop := (K ((((List.length c.2.1) : Nat) : Int), ()))
theorem w_impl_Category_arrows (x : denL c_impl_Category_arrows.args) (K : Int × Unit → Prop) : evF tab (lkp []) (cutL []) Try.f38 (bodyOf Try.f38) .n c_impl_Category_arrows x K = W_impl_Category_arrows x.1 K := by kernel_rfl
theorem k_impl_Category_arrows : okC Try.f38.ntmps (cutL []) (bodyOf Try.f38) = true := by kernel_rfl
theorem m_impl_Category_arrows (c : CategoryD) (hok : allP (okL c_impl_Category_arrows.args (c, ()))) (hpre : allP (c_impl_Category_arrows.pre (c, ()))) : W_impl_Category_arrows c (fun r => r = c_impl_Category_arrows.res (c, ())) := by
  simp only [c_impl_Category_arrows, okL, T.oks, T.ok, ap, allP, true_and, and_true, implies_true] at hok hpre
  try dsimp only [T.den] at hok
  try dsimp only [T.den] at hpre
  unfold W_impl_Category_arrows
  rfl
theorem ct_impl_Category_arrows : CtOk Try.prog 38 c_impl_Category_arrows :=
  ct_by (Φ := lkp []) good_nil tab_ok (by kernel_rfl) (fn := Try.f38) (c := bodyOf Try.f38) (by kernel_rfl) (by kernel_rfl) (by kernel_rfl) c_impl_Category_arrows rfl .n (cutL []) (by kernel_rfl) (by kernel_rfl) k_impl_Category_arrows (by decide) (fun x K => W_impl_Category_arrows x.1 K) w_impl_Category_arrows (fun x h1 h2 => m_impl_Category_arrows x.1 h1 h2)
def compR (c : CategoryD) (f g : Int) : Int := (c.2.2.2.2.getD f.toNat []).getD g.toNat 0

def c_impl_Category_then : Ct := ⟨[(.pt CategoryT), (.int .i64), (.int .i64)], [false, false, false], fun x => [0 ≤ x.2.1, x.2.1 < x.1.2.2.2.2.length, 0 ≤ x.2.2.1, x.2.2.1 < (x.1.2.2.2.2.getD x.2.1.toNat []).length], [(false, (.fz (.int .i64)))], fun x => (compR x.1 x.2.1 x.2.2.1, ()), false, none⟩
def W_impl_Category_then (c : CategoryD) (f : Int) (g : Int) (K : Int × Unit → Prop) : Prop := (((0 : Int) ≤ f) ∧ ((f < (((List.length c.2.2.2.2) : Nat) : Int)) ∧ (((0 : Int) ≤ g) ∧ ((g < (((List.length (List.getD c.2.2.2.2 (Int.toNat f) ([] : List Int))) : Nat) : Int)) ∧ (K ((List.getD (List.getD c.2.2.2.2 (Int.toNat f) ([] : List Int)) (Int.toNat g) (0 : Int)), ()))))))
theorem w_impl_Category_then (x : denL c_impl_Category_then.args) (K : Int × Unit → Prop) : evF tab (lkp []) (cutL []) Try.f68 (bodyOf Try.f68) .n c_impl_Category_then x K = W_impl_Category_then x.1 x.2.1 x.2.2.1 K := by kernel_rfl
theorem k_impl_Category_then : okC Try.f68.ntmps (cutL []) (bodyOf Try.f68) = true := by kernel_rfl
theorem m_impl_Category_then (c : CategoryD) (f : Int) (g : Int) (hok : allP (okL c_impl_Category_then.args (c, f, g, ()))) (hpre : allP (c_impl_Category_then.pre (c, f, g, ()))) : W_impl_Category_then c f g (fun r => r = c_impl_Category_then.res (c, f, g, ())) := by
  simp only [c_impl_Category_then, okL, T.oks, T.ok, ap, allP, true_and, and_true, implies_true] at hok hpre
  try dsimp only [T.den] at hok
  try dsimp only [T.den] at hpre
  unfold W_impl_Category_then
  exact ⟨hpre.1, hpre.2.1, hpre.2.2.1, hpre.2.2.2, rfl⟩
theorem ct_impl_Category_then : CtOk Try.prog 68 c_impl_Category_then :=
  ct_by (Φ := lkp []) good_nil tab_ok (by kernel_rfl) (fn := Try.f68) (c := bodyOf Try.f68) (by kernel_rfl) (by kernel_rfl) (by kernel_rfl) c_impl_Category_then rfl .n (cutL []) (by kernel_rfl) (by kernel_rfl) k_impl_Category_then (by decide) (fun x K => W_impl_Category_then x.1 x.2.1 x.2.2.1 K) w_impl_Category_then (fun x h1 h2 => m_impl_Category_then x.1 x.2.1 x.2.2.1 h1 h2)
def c_impl_Category_ends : Ct := ⟨[(.pt CategoryT), (.int .i64)], [false, false], fun x => [0 ≤ x.2.1, x.2.1 < x.1.2.1.length, x.2.1 < x.1.2.2.1.length], [(true, (.fz endsT))], fun x => (((x.1.2.1.getD x.2.1.toNat 0, x.1.2.2.1.getD x.2.1.toNat 0) : Int × Int), ()), false, none⟩
def W_impl_Category_ends (c : CategoryD) (f : Int) (K : endsD × Unit → Prop) : Prop := (((0 : Int) ≤ f) ∧ ((f < (((List.length c.2.1) : Nat) : Int)) ∧ (((0 : Int) ≤ f) ∧ ((f < (((List.length c.2.2.1) : Nat) : Int)) ∧ (K (((List.getD c.2.1 (Int.toNat f) (0 : Int)), (List.getD c.2.2.1 (Int.toNat f) (0 : Int))), ()))))))
theorem w_impl_Category_ends (x : denL c_impl_Category_ends.args) (K : endsD × Unit → Prop) : evF tab (lkp []) (cutL [(1, 15)]) Try.f87 (bodyOf Try.f87) .n c_impl_Category_ends x K = W_impl_Category_ends x.1 x.2.1 K := by kernel_rfl
theorem k_impl_Category_ends : okC Try.f87.ntmps (cutL [(1, 15)]) (bodyOf Try.f87) = true := by kernel_rfl
theorem m_impl_Category_ends (c : CategoryD) (f : Int) (hok : allP (okL c_impl_Category_ends.args (c, f, ()))) (hpre : allP (c_impl_Category_ends.pre (c, f, ()))) : W_impl_Category_ends c f (fun r => r = c_impl_Category_ends.res (c, f, ())) := by
  simp only [c_impl_Category_ends, okL, T.oks, T.ok, ap, allP, true_and, and_true, implies_true] at hok hpre
  try dsimp only [T.den] at hok
  try dsimp only [T.den] at hpre
  unfold W_impl_Category_ends
  exact ⟨hpre.1, hpre.2.1, hpre.1, hpre.2.2, rfl⟩
theorem ct_impl_Category_ends : CtOk Try.prog 87 c_impl_Category_ends :=
  ct_by (Φ := lkp []) good_nil tab_ok (by kernel_rfl) (fn := Try.f87) (c := bodyOf Try.f87) (by kernel_rfl) (by kernel_rfl) (by kernel_rfl) c_impl_Category_ends rfl .n (cutL [(1, 15)]) (by kernel_rfl) (by kernel_rfl) k_impl_Category_ends (by decide) (fun x K => W_impl_Category_ends x.1 x.2.1 K) w_impl_Category_ends (fun x h1 h2 => m_impl_Category_ends x.1 x.2.1 h1 h2)
def c_impl_inRange : Ct := ⟨[(.int .i64), (.int .i64), (.int .i64)], [false, false, false], fun x => [], [(false, (.fz .bool))], fun x => (inR x.1 x.2.1 x.2.2.1, ()), false, none⟩
def W_impl_inRange (n : Int) (low : Int) (high : Int) (K : Bool × Unit → Prop) : Prop := (K (((decide (low ≤ n)) && (decide (n ≤ high))), ()))
theorem w_impl_inRange (x : denL c_impl_inRange.args) (K : Bool × Unit → Prop) : evF tab (lkp []) (cutL []) Try.f54 (bodyOf Try.f54) .n c_impl_inRange x K = W_impl_inRange x.1 x.2.1 x.2.2.1 K := by kernel_rfl
theorem k_impl_inRange : okC Try.f54.ntmps (cutL []) (bodyOf Try.f54) = true := by kernel_rfl
theorem m_impl_inRange (n : Int) (low : Int) (high : Int) (hok : allP (okL c_impl_inRange.args (n, low, high, ()))) (hpre : allP (c_impl_inRange.pre (n, low, high, ()))) : W_impl_inRange n low high (fun r => r = c_impl_inRange.res (n, low, high, ())) := by
  simp only [c_impl_inRange, okL, T.oks, T.ok, ap, allP, true_and, and_true, implies_true] at hok hpre
  try dsimp only [T.den] at hok
  try dsimp only [T.den] at hpre
  unfold W_impl_inRange
  grind [cnd, nb_eq, inK64, c_impl_inRange, inR]
theorem ct_impl_inRange : CtOk Try.prog 54 c_impl_inRange :=
  ct_by (Φ := lkp []) good_nil tab_ok (by kernel_rfl) (fn := Try.f54) (c := bodyOf Try.f54) (by kernel_rfl) (by kernel_rfl) (by kernel_rfl) c_impl_inRange rfl .n (cutL []) (by kernel_rfl) (by kernel_rfl) k_impl_inRange (by decide) (fun x K => W_impl_inRange x.1 x.2.1 x.2.2.1 K) w_impl_inRange (fun x h1 h2 => m_impl_inRange x.1 x.2.1 x.2.2.1 h1 h2)
def c_impl_within : Ct := ⟨[(.sl (.int .i64)), (.int .i64)], [false, false], fun x => [inK .i64 (x.2.1 - 1)], [(false, (.fz .bool))], fun x => (withinR x.1 x.2.1, ()), false, none⟩
def W_impl_within (list : List Int) (n : Int) (K : Bool × Unit → Prop) : Prop := (loopW (S := ((Int × Unit) × Unit)) (fun s => (fun next => ((inK IntKind.i64 s.1.1) → (cnd (decide (s.1.1 < (((List.length list) : Nat) : Int))) (((0 : Int) ≤ s.1.1) ∧ ((s.1.1 < (((List.length list) : Nat) : Int)) ∧ ((inK IntKind.i64 (n - (1 : Int))) ∧ (cnd (!(inR (List.getD list (Int.toNat s.1.1) (0 : Int)) (0 : Int) (n - (1 : Int)))) (K (Bool.false, ())) ((inK IntKind.i64 (s.1.1 + (1 : Int))) ∧ (next (((s.1.1 + (1 : Int)), ()), ()))))))) (K (Bool.true, ())))))) (((0 : Int), ()), ()))
theorem w_impl_within (x : denL c_impl_within.args) (K : Bool × Unit → Prop) : evF tab (lkp [(54, c_impl_inRange)]) (cutL []) Try.f63 (bodyOf Try.f63) (.s .n (.s (.s .n (.l [(9, (.d (.int .i64)))] [] [1, 7, 8] .n)) .n)) c_impl_within x K = W_impl_within x.1 x.2.1 K := by kernel_rfl
theorem k_impl_within : okC Try.f63.ntmps (cutL []) (bodyOf Try.f63) = true := by kernel_rfl
theorem m_impl_within (list : List Int) (n : Int) (hok : allP (okL c_impl_within.args (list, n, ()))) (hpre : allP (c_impl_within.pre (list, n, ()))) : W_impl_within list n (fun r => r = c_impl_within.res (list, n, ())) := by
  simp only [c_impl_within, okL, T.oks, T.ok, ap, allP, true_and, and_true, implies_true] at hok hpre
  try dsimp only [T.den] at hok
  try dsimp only [T.den] at hpre
  unfold W_impl_within
  refine loop_of (fun (s : ((Int × Unit) × Unit)) => 0 ≤ s.1.1 ∧ s.1.1 ≤ list.length ∧ withinR list n = withinR (list.drop s.1.1.toNat) n) (fun (s : ((Int × Unit) × Unit)) => (list.length - s.1.1).toNat) ?_ (by simp)
  rintro ⟨⟨i, _⟩, _⟩ next ⟨h0, h1, h2⟩ hn hin
  simp only at h0 h1 h2 hn ⊢
  refine cnd_d (fun hc => ?_) (fun hc => ?_)
  · rw [drop_c list 0 h0 hc] at h2
    simp only [withinR, List.all_cons] at h2
    grind [cnd, nb_eq, inK64, c_impl_within, withinR]
  · rw [drop_n list (by omega)] at h2
    grind [cnd, nb_eq, inK64, c_impl_within, withinR]
theorem ct_impl_within : CtOk Try.prog 63 c_impl_within :=
  ct_by (Φ := lkp [(54, c_impl_inRange)]) (good_cons ct_impl_inRange good_nil) tab_ok (by kernel_rfl) (fn := Try.f63) (c := bodyOf Try.f63) (by kernel_rfl) (by kernel_rfl) (by kernel_rfl) c_impl_within rfl (.s .n (.s (.s .n (.l [(9, (.d (.int .i64)))] [] [1, 7, 8] .n)) .n)) (cutL []) (by kernel_rfl) (by kernel_rfl) k_impl_within (by decide) (fun x K => W_impl_within x.1 x.2.1 K) w_impl_within (fun x h1 h2 => m_impl_within x.1 x.2.1 h1 h2)
/-- what a cell of the table must be -/
def cellQ (c : CategoryD) (f g v : Int) : Bool :=
  if c.2.2.1.getD f.toNat 0 = c.2.1.getD g.toNat 0 then decide (0 ≤ v ∧ v < c.2.1.length ∧ c.2.1.getD v.toNat 0 = c.2.1.getD f.toNat 0 ∧ c.2.2.1.getD v.toNat 0 = c.2.2.1.getD g.toNat 0)
  else decide (v = -1)
def cellR (c : CategoryD) (f g : Int) : Bool := cellQ c f g (compR c f g)
structure ShapeP (c : CategoryD) : Prop where
  ob : 0 ≤ c.1 ∧ c.1 ≤ 8
  m : c.2.1.length ≤ 40
  lt : c.2.2.1.length = c.2.1.length
  fr : withinR c.2.1 c.1 = true
  to : withinR c.2.2.1 c.1 = true
  li : (c.2.2.2.1.length : Int) = c.1
  ids : withinR c.2.2.2.1 c.2.1.length = true
  lc : c.2.2.2.2.length = c.2.1.length
  idt : ∀ x : Int, 0 ≤ x → x < c.1 → c.2.1.getD (c.2.2.2.1.getD x.toNat 0).toNat 0 = x ∧ c.2.2.1.getD (c.2.2.2.1.getD x.toNat 0).toNat 0 = x
  row : ∀ f : Int, 0 ≤ f → f < c.2.1.length → (c.2.2.2.2.getD f.toNat []).length = c.2.1.length
  cell : ∀ f g : Int, 0 ≤ f → f < c.2.1.length → 0 ≤ g → g < c.2.1.length → cellR c f g = true
def shapeR (c : CategoryD) : Bool := inR c.1 0 8 && decide (c.2.1.length ≤ 40) && decide (c.2.2.1.length = c.2.1.length) && withinR c.2.1 c.1 && withinR c.2.2.1 c.1 && decide ((c.2.2.2.1.length : Int) = c.1) && withinR c.2.2.2.1 c.2.1.length &&
  decide (c.2.2.2.2.length = c.2.1.length) && allB c.1.toNat (fun x => decide (c.2.1.getD (c.2.2.2.1.getD x.toNat 0).toNat 0 = x ∧ c.2.2.1.getD (c.2.2.2.1.getD x.toNat 0).toNat 0 = x)) &&
  allB c.2.1.length (fun f => decide ((c.2.2.2.2.getD f.toNat []).length = c.2.1.length)) && allB c.2.1.length (fun f => allB c.2.1.length fun g => cellR c f g)
theorem shape_iff {c : CategoryD} : shapeR c = true ↔ ShapeP c := by
  simp only [shapeR, Bool.and_eq_true, decide_eq_true_eq, inR, allB_iff]
  constructor
  · rintro ⟨⟨⟨⟨⟨⟨⟨⟨⟨⟨h0, h1⟩, h2⟩, h3⟩, h4⟩, h5⟩, h6⟩, h7⟩, h8⟩, h9⟩, h10⟩
    exact ⟨h0, h1, h2, h3, h4, h5, h6, h7, fun x a b => h8 x a (by omega), h9, fun f g a b d e => h10 f a b g d e⟩
  · intro h
    exact ⟨⟨⟨⟨⟨⟨⟨⟨⟨⟨h.ob, h.m⟩, h.lt⟩, h.fr⟩, h.to⟩, h.li⟩, h.ids⟩, h.lc⟩, fun x a b => h.idt x a (by have := h.ob; omega)⟩, h.row⟩, fun f a b g d e => h.cell f g a b d e⟩
theorem shape_f {c : CategoryD} (h : ¬ ShapeP c) : shapeR c = false := by
  cases hs : shapeR c with
  | false => rfl
  | true => exact absurd (shape_iff.1 hs) h
theorem shape_t {c : CategoryD} (h : ShapeP c) : shapeR c = true := shape_iff.2 h

def c_impl_Category_isShape : Ct := ⟨[(.pt CategoryT)], [false], fun x => [], [(false, (.fz .bool))], fun x => (shapeR x.1, ()), false, none⟩
def W_impl_Category_isShape (c : CategoryD) (K : Bool × Unit → Prop) : Prop := ((((((!(inR c.1 (0 : Int) (8 : Int))) || (decide ((40 : Int) < (((List.length c.2.1) : Nat) : Int)))) || ((((List.length c.2.2.1) : Nat) : Int) != (((List.length c.2.1) : Nat) : Int))) = Bool.false) → (inK IntKind.i64 (c.1 - (1 : Int)))) ∧ (((((((!(inR c.1 (0 : Int) (8 : Int))) || (decide ((40 : Int) < (((List.length c.2.1) : Nat) : Int)))) || ((((List.length c.2.2.1) : Nat) : Int) != (((List.length c.2.1) : Nat) : Int))) || (!(withinR c.2.1 c.1))) = Bool.false) → (inK IntKind.i64 (c.1 - (1 : Int)))) ∧ (cnd (((((!(inR c.1 (0 : Int) (8 : Int))) || (decide ((40 : Int) < (((List.length c.2.1) : Nat) : Int)))) || ((((List.length c.2.2.1) : Nat) : Int) != (((List.length c.2.1) : Nat) : Int))) || (!(withinR c.2.1 c.1))) || (!(withinR c.2.2.1 c.1))) (K (Bool.false, ())) (((((((List.length c.2.2.2.1) : Nat) : Int) != c.1) = Bool.false) → (inK IntKind.i64 ((((List.length c.2.1) : Nat) : Int) - (1 : Int)))) ∧ (cnd ((((((List.length c.2.2.2.1) : Nat) : Int) != c.1) || (!(withinR c.2.2.2.1 (((List.length c.2.1) : Nat) : Int)))) || ((((List.length c.2.2.2.2) : Nat) : Int) != (((List.length c.2.1) : Nat) : Int))) (K (Bool.false, ())) (loopW (S := ((Int × Unit) × Unit)) (fun s => (fun next => ((inK IntKind.i64 s.1.1) → (cnd (decide (s.1.1 < (((List.length c.2.2.2.1) : Nat) : Int))) (((0 : Int) ≤ s.1.1) ∧ ((s.1.1 < (((List.length c.2.2.2.1) : Nat) : Int)) ∧ (((0 : Int) ≤ (List.getD c.2.2.2.1 (Int.toNat s.1.1) (0 : Int))) ∧ (((List.getD c.2.2.2.1 (Int.toNat s.1.1) (0 : Int)) < (((List.length c.2.1) : Nat) : Int)) ∧ (((List.getD c.2.2.2.1 (Int.toNat s.1.1) (0 : Int)) < (((List.length c.2.2.1) : Nat) : Int)) ∧ (cnd (!(((List.getD c.2.1 (Int.toNat (List.getD c.2.2.2.1 (Int.toNat s.1.1) (0 : Int))) (0 : Int)) == s.1.1) && ((List.getD c.2.2.1 (Int.toNat (List.getD c.2.2.2.1 (Int.toNat s.1.1) (0 : Int))) (0 : Int)) == s.1.1))) (K (Bool.false, ())) ((inK IntKind.i64 (s.1.1 + (1 : Int))) ∧ (next (((s.1.1 + (1 : Int)), ()), ()))))))))) (loopW (S := ((Int × Unit) × Unit)) (fun s1 => (fun next1 => ((inK IntKind.i64 s1.1.1) → (cnd (decide (s1.1.1 < (((List.length c.2.2.2.2) : Nat) : Int))) (((0 : Int) ≤ s1.1.1) ∧ ((s1.1.1 < (((List.length c.2.2.2.2) : Nat) : Int)) ∧ (cnd ((((List.length (List.getD c.2.2.2.2 (Int.toNat s1.1.1) ([] : List Int))) : Nat) : Int) != (((List.length c.2.1) : Nat) : Int)) (K (Bool.false, ())) (loopW (S := ((Int × Unit) × Unit)) (fun s2 => (fun next2 => ((inK IntKind.i64 s2.1.1) → (cnd (decide (s2.1.1 < (((List.length (List.getD c.2.2.2.2 (Int.toNat s1.1.1) ([] : List Int))) : Nat) : Int))) (joinW (S := (Unit × Unit)) (fun s3 => ((inK IntKind.i64 (s2.1.1 + (1 : Int))) ∧ (next2 (((s2.1.1 + (1 : Int)), ()), ())))) (fun k => (((0 : Int) ≤ s2.1.1) ∧ ((s2.1.1 < (((List.length (List.getD c.2.2.2.2 (Int.toNat s1.1.1) ([] : List Int))) : Nat) : Int)) ∧ (((0 : Int) ≤ s1.1.1) ∧ ((s1.1.1 < (((List.length c.2.2.1) : Nat) : Int)) ∧ (((0 : Int) ≤ s2.1.1) ∧ ((s2.1.1 < (((List.length c.2.1) : Nat) : Int)) ∧ (cnd ((List.getD c.2.2.1 (Int.toNat s1.1.1) (0 : Int)) != (List.getD c.2.1 (Int.toNat s2.1.1) (0 : Int))) (cnd ((List.getD (List.getD c.2.2.2.2 (Int.toNat s1.1.1) ([] : List Int)) (Int.toNat s2.1.1) (0 : Int)) != (-(1 : Int))) (K (Bool.false, ())) (k ((), ()))) ((inK IntKind.i64 ((((List.length c.2.1) : Nat) : Int) - (1 : Int))) ∧ ((((!(inR (List.getD (List.getD c.2.2.2.2 (Int.toNat s1.1.1) ([] : List Int)) (Int.toNat s2.1.1) (0 : Int)) (0 : Int) ((((List.length c.2.1) : Nat) : Int) - (1 : Int)))) = Bool.false) → (((List.getD (List.getD c.2.2.2.2 (Int.toNat s1.1.1) ([] : List Int)) (Int.toNat s2.1.1) (0 : Int)) < (((List.length c.2.1) : Nat) : Int)) ∧ (((List.getD (List.getD c.2.2.2.2 (Int.toNat s1.1.1) ([] : List Int)) (Int.toNat s2.1.1) (0 : Int)) < (((List.length c.2.2.1) : Nat) : Int)) ∧ ((0 : Int) ≤ (List.getD (List.getD c.2.2.2.2 (Int.toNat s1.1.1) ([] : List Int)) (Int.toNat s2.1.1) (0 : Int)))))) ∧ ((((!(inR (List.getD (List.getD c.2.2.2.2 (Int.toNat s1.1.1) ([] : List Int)) (Int.toNat s2.1.1) (0 : Int)) (0 : Int) ((((List.length c.2.1) : Nat) : Int) - (1 : Int)))) = Bool.false) → ((s1.1.1 < (((List.length c.2.1) : Nat) : Int)) ∧ ((0 : Int) ≤ s1.1.1))) ∧ ((((!(inR (List.getD (List.getD c.2.2.2.2 (Int.toNat s1.1.1) ([] : List Int)) (Int.toNat s2.1.1) (0 : Int)) (0 : Int) ((((List.length c.2.1) : Nat) : Int) - (1 : Int)))) = Bool.false) → ((s2.1.1 < (((List.length c.2.2.1) : Nat) : Int)) ∧ ((0 : Int) ≤ s2.1.1))) ∧ (cnd ((!(inR (List.getD (List.getD c.2.2.2.2 (Int.toNat s1.1.1) ([] : List Int)) (Int.toNat s2.1.1) (0 : Int)) (0 : Int) ((((List.length c.2.1) : Nat) : Int) - (1 : Int)))) || (!(((List.getD c.2.1 (Int.toNat (List.getD (List.getD c.2.2.2.2 (Int.toNat s1.1.1) ([] : List Int)) (Int.toNat s2.1.1) (0 : Int))) (0 : Int)) == (List.getD c.2.1 (Int.toNat s1.1.1) (0 : Int))) && ((List.getD c.2.2.1 (Int.toNat (List.getD (List.getD c.2.2.2.2 (Int.toNat s1.1.1) ([] : List Int)) (Int.toNat s2.1.1) (0 : Int))) (0 : Int)) == (List.getD c.2.2.1 (Int.toNat s2.1.1) (0 : Int)))))) (K (Bool.false, ())) (k ((), ())))))))))))))))) ((inK IntKind.i64 (s1.1.1 + (1 : Int))) ∧ (next1 (((s1.1.1 + (1 : Int)), ()), ()))))))) (((0 : Int), ()), ()))))) (K (Bool.true, ())))))) (((0 : Int), ()), ())))))) (((0 : Int), ()), ())))))))
theorem w_impl_Category_isShape (x : denL c_impl_Category_isShape.args) (K : Bool × Unit → Prop) : evF tab (lkp [(38, c_impl_Category_arrows), (87, c_impl_Category_ends), (54, c_impl_inRange), (63, c_impl_within)]) (cutL [(2, 43), (20, 15), (4, 28), (23, 26)]) Try.f61 (bodyOf Try.f61) (.s .n (.s .n (.s .n (.s .n (.s (.s .n (.l [(88, (.d (.int .i64)))] [] [0, 3, 86, 87] .n)) (.s (.s .n (.l [(106, (.d (.int .i64)))] [] [0, 3, 104, 105] (.s .n (.s .n (.s (.s .n (.s .n (.s .n (.l [(117, (.d (.int .i64)))] [] [0, 3, 6, 104, 105, 106, 115, 116] (.s .n (.s .n (.s (.j [] [] [0, 3, 6, 104, 105, 106, 115, 116, 117] .n) .n))))))) .n))))) .n)))))) c_impl_Category_isShape x K = W_impl_Category_isShape x.1 K := by kernel_rfl
theorem k_impl_Category_isShape : okC Try.f61.ntmps (cutL [(2, 43), (20, 15), (4, 28), (23, 26)]) (bodyOf Try.f61) = true := by kernel_rfl
theorem m_impl_Category_isShape (c : CategoryD) (hok : allP (okL c_impl_Category_isShape.args (c, ()))) (hpre : allP (c_impl_Category_isShape.pre (c, ()))) : W_impl_Category_isShape c (fun r => r = c_impl_Category_isShape.res (c, ())) := by
  simp only [c_impl_Category_isShape, okL, T.oks, T.ok, ap, allP, true_and, and_true, implies_true] at hok hpre
  try dsimp only [T.den] at hok
  try dsimp only [T.den] at hpre
  unfold W_impl_Category_isShape
  refine ⟨by grind [cnd, nb_eq, inK64, inR], by grind [cnd, nb_eq, inK64, inR], cnd_of (fun hc => ?_) (fun hc => ⟨by rw [inK64]; have := hok.2.1.1; grind [cnd, nb_eq, inK64], cnd_of (fun hd => ?_) (fun hd => ?_)⟩)⟩
  · simp only [c_impl_Category_isShape]; rw [shape_f]; intro h; have h1 := h.ob; have h2 := h.m; have h3 := h.lt; have h4 := h.fr; have h5 := h.to; simp only [inR] at hc; grind [cnd, nb_eq, inK64]
  · simp only [c_impl_Category_isShape]; rw [shape_f]; intro h; have h1 := h.li; have h2 := h.ids; have h3 := h.lc; grind [cnd, nb_eq, inK64]
  simp only [inR, Bool.or_eq_false_iff, Bool.not_eq_false', Bool.and_eq_true, decide_eq_true_eq, decide_eq_false_iff_not, bne_eq_false_iff_eq] at hc hd
  obtain ⟨⟨⟨⟨hob, hm⟩, hlt⟩, hfr⟩, hto⟩ := hc
  obtain ⟨⟨hli, hids⟩, hlc⟩ := hd
  have bad : ¬ ShapeP c → (false, ()) = c_impl_Category_isShape.res (c, ()) := fun h => by simp only [c_impl_Category_isShape]; rw [shape_f h]
  refine loop_ix (n := c.2.2.2.1.length) (fun x => ∀ y : Int, 0 ≤ y → y < x → c.2.1.getD (c.2.2.2.1.getD y.toNat 0).toNat 0 = y ∧ c.2.2.1.getD (c.2.2.2.1.getD y.toNat 0).toNat 0 = y) (by omega) (by intro y h0 h1; omega) ?_ ?_
  · intro x next h0 h1 hP hn hin
    have hb := within_iff.1 hids x h0 h1
    try dsimp only
    refine cnd_d (fun _ => ⟨h0, h1, hb.1, hb.2, by omega, cnd_of (fun hx => bad fun h => ?_) (fun hx => ?_)⟩) (fun h => absurd h1 h)
    · have := h.idt x h0 (by omega)
      rw [this.1, this.2] at hx
      simp at hx
    · simp only [Bool.not_eq_false', Bool.and_eq_true, beq_iff_eq] at hx
      refine ⟨by rw [inK64]; (try dsimp only); omega, hn fun y y0 y1 => ?_⟩
      by_cases e : y = x
      · rw [e]; exact hx
      · exact hP y y0 (by omega)
  intro next hidt hin
  refine cnd_d (fun h => absurd h (by dsimp only; omega)) (fun _ => ?_)
  refine loop_ix (n := c.2.2.2.2.length) (fun f => ∀ f' : Int, 0 ≤ f' → f' < f → (c.2.2.2.2.getD f'.toNat []).length = c.2.1.length ∧ ∀ g : Int, 0 ≤ g → g < c.2.1.length → cellR c f' g = true) (by omega) (by intro y h0 h1; omega) ?_ ?_
  · intro f next h0 h1 hP hn hin
    try dsimp only
    refine cnd_d (fun _ => ⟨h0, h1, cnd_of (fun hx => bad fun h => ?_) (fun hx => ?_)⟩) (fun h => absurd h1 h)
    · have := h.row f h0 (by omega)
      rw [this] at hx
      simp at hx
    simp only [bne_eq_false_iff_eq] at hx
    refine loop_ix (n := (c.2.2.2.2.getD f.toNat []).length) (fun g => ∀ g' : Int, 0 ≤ g' → g' < g → cellR c f g' = true) (by omega) (by intro y h0 h1; omega) ?_ ?_
    · intro g next3 g0 g1 hP3 hn3 hin3
      try dsimp only
      refine cnd_d (fun _ => ?_) (fun h => absurd g1 h)
      refine join_of (fun _ => cellR c f g = true) (fun _ hcell => ⟨by rw [inK64]; (try dsimp only); omega, hn3 fun g' y0 y1 => ?_⟩) (fun k hk => ?_)
      · by_cases e : g' = g
        · rw [e]; exact hcell
        · exact hP3 g' y0 (by omega)
      have hcell : ∀ b, cellR c f g = b → b = false → ¬ ShapeP c := fun b h1 h2 h => by
        have := h.cell f g h0 (by omega) g0 (by omega)
        rw [h1, h2] at this; cases this
      have hk' := hk ((), ())
      obtain ⟨v, hv⟩ : ∃ v, (c.2.2.2.2.getD f.toNat []).getD g.toNat 0 = v := ⟨_, rfl⟩
      have hR : cellR c f g = cellQ c f g v := by unfold cellR compR; rw [hv]
      rw [hR] at hk'
      rw [hR] at hcell
      rw [hv]
      clear hP3 hn3 hP hn hk hR hv hidt hok
      refine ⟨g0, g1, h0, by omega, g0, by omega, cnd_of (fun ha => cnd_of (fun hb => bad ?_) (fun hb => hk' ?_)) (fun ha => ⟨by rw [inK64]; (try dsimp only); omega, fun hv => ?_, fun _ => ⟨by omega, h0⟩, fun _ => ⟨by omega, g0⟩, cnd_of (fun hb => bad ?_) (fun hb => hk' ?_)⟩)⟩
      · exact hcell _ rfl (by grind [cnd, nb_eq, inK64, cellQ])
      · grind [cnd, nb_eq, inK64, cellQ]
      · simp only [inR, Bool.not_eq_false', Bool.and_eq_true, decide_eq_true_eq] at hv; omega
      · exact hcell _ rfl (by simp only [inR] at hb; grind [cnd, nb_eq, inK64, cellQ])
      · simp only [inR] at hb; grind [cnd, nb_eq, inK64, cellQ]
    · intro next3 hP3 hin3
      refine cnd_d (fun h => absurd h (by dsimp only; omega)) (fun _ => ⟨by rw [inK64]; (try dsimp only); omega, hn fun f' y0 y1 => ?_⟩)
      by_cases e : f' = f
      · rw [e]; exact ⟨by omega, fun g g0 g1 => hP3 g g0 (by omega)⟩
      · exact hP f' y0 (by omega)
  · intro next2 hP2 hin2
    refine cnd_d (fun h => absurd h (by dsimp only; omega)) (fun _ => ?_)
    simp only [c_impl_Category_isShape]
    rw [shape_t ⟨hob, by omega, by omega, hfr, hto, by omega, hids, by omega, fun x a b => hidt x a (by omega), fun f a b => (hP2 f a (by omega)).1, fun f g a b d e => (hP2 f a (by omega)).2 g d e⟩]
theorem ct_impl_Category_isShape : CtOk Try.prog 61 c_impl_Category_isShape :=
  ct_by (Φ := lkp [(38, c_impl_Category_arrows), (87, c_impl_Category_ends), (54, c_impl_inRange), (63, c_impl_within)]) (good_cons ct_impl_Category_arrows (good_cons ct_impl_Category_ends (good_cons ct_impl_inRange (good_cons ct_impl_within good_nil)))) tab_ok (by kernel_rfl) (fn := Try.f61) (c := bodyOf Try.f61) (by kernel_rfl) (by kernel_rfl) (by kernel_rfl) c_impl_Category_isShape rfl (.s .n (.s .n (.s .n (.s .n (.s (.s .n (.l [(88, (.d (.int .i64)))] [] [0, 3, 86, 87] .n)) (.s (.s .n (.l [(106, (.d (.int .i64)))] [] [0, 3, 104, 105] (.s .n (.s .n (.s (.s .n (.s .n (.s .n (.l [(117, (.d (.int .i64)))] [] [0, 3, 6, 104, 105, 106, 115, 116] (.s .n (.s .n (.s (.j [] [] [0, 3, 6, 104, 105, 106, 115, 116, 117] .n) .n))))))) .n))))) .n)))))) (cutL [(2, 43), (20, 15), (4, 28), (23, 26)]) (by kernel_rfl) (by kernel_rfl) k_impl_Category_isShape (by decide) (fun x K => W_impl_Category_isShape x.1 K) w_impl_Category_isShape (fun x h1 h2 => m_impl_Category_isShape x.1 h1 h2)
theorem ShapeP.frm {c : CategoryD} (h : ShapeP c) {f : Int} (h0 : 0 ≤ f) (h1 : f < c.2.1.length) : 0 ≤ c.2.1.getD f.toNat 0 ∧ c.2.1.getD f.toNat 0 < c.1 ∧ 0 ≤ c.2.2.1.getD f.toNat 0 ∧ c.2.2.1.getD f.toNat 0 < c.1 := by
  have a := within_iff.1 h.fr f h0 h1
  have b := within_iff.1 h.to f h0 (by have := h.lt; omega)
  exact ⟨a.1, a.2, b.1, b.2⟩
theorem ShapeP.idn {c : CategoryD} (h : ShapeP c) {x : Int} (h0 : 0 ≤ x) (h1 : x < c.1) : 0 ≤ c.2.2.2.1.getD x.toNat 0 ∧ c.2.2.2.1.getD x.toNat 0 < c.2.1.length ∧ c.2.1.getD (c.2.2.2.1.getD x.toNat 0).toNat 0 = x ∧ c.2.2.1.getD (c.2.2.2.1.getD x.toNat 0).toNat 0 = x := by
  have a := within_iff.1 h.ids x h0 (by have := h.li; omega)
  have b := h.idt x h0 h1
  exact ⟨a.1, a.2, b.1, b.2⟩
theorem ShapeP.yes {c : CategoryD} (h : ShapeP c) {f g : Int} (h0 : 0 ≤ f) (h1 : f < c.2.1.length) (g0 : 0 ≤ g) (g1 : g < c.2.1.length) (e : c.2.2.1.getD f.toNat 0 = c.2.1.getD g.toNat 0) :
    0 ≤ compR c f g ∧ compR c f g < c.2.1.length ∧ c.2.1.getD (compR c f g).toNat 0 = c.2.1.getD f.toNat 0 ∧ c.2.2.1.getD (compR c f g).toNat 0 = c.2.2.1.getD g.toNat 0 := by
  have := h.cell f g h0 h1 g0 g1
  unfold cellR cellQ at this
  rw [if_pos e] at this
  simpa using this
theorem ShapeP.no {c : CategoryD} (h : ShapeP c) {f g : Int} (h0 : 0 ≤ f) (h1 : f < c.2.1.length) (g0 : 0 ≤ g) (g1 : g < c.2.1.length) (e : c.2.2.1.getD f.toNat 0 ≠ c.2.1.getD g.toNat 0) : compR c f g = -1 := by
  have := h.cell f g h0 h1 g0 g1
  unfold cellR cellQ at this
  rw [if_neg e] at this
  simpa using this
theorem ShapeP.comp {c : CategoryD} (h : ShapeP c) {f g : Int} (h0 : 0 ≤ f) (h1 : f < c.2.1.length) (g0 : 0 ≤ g) (g1 : g < c.2.1.length) : 0 ≤ compR c f g ↔ c.2.2.1.getD f.toNat 0 = c.2.1.getD g.toNat 0 := by
  constructor
  · intro h2
    by_cases e : c.2.2.1.getD f.toNat 0 = c.2.1.getD g.toNat 0
    · exact e
    · have := h.no h0 h1 g0 g1 e; omega
  · intro e; exact (h.yes h0 h1 g0 g1 e).1
def faultI (c : CategoryD) (f : Int) : Option (Int × Int × Int × Int) :=
  if compR c (c.2.2.2.1.getD (c.2.1.getD f.toNat 0).toNat 0) f ≠ f ∨ compR c f (c.2.2.2.1.getD (c.2.2.1.getD f.toNat 0).toNat 0) ≠ f then some (1, f, 0, 0) else none
def faultH (c : CategoryD) (f g h : Int) : Option (Int × Int × Int × Int) :=
  if c.2.2.1.getD g.toNat 0 = c.2.1.getD h.toNat 0 ∧ compR c (compR c f g) h ≠ compR c f (compR c g h) then some (2, f, g, h) else none
def faultG (c : CategoryD) (f g : Int) : Option (Int × Int × Int × Int) :=
  if c.2.2.1.getD f.toNat 0 = c.2.1.getD g.toNat 0 then scanR (faultH c f g) c.2.1.length 0 else none
def faultF (c : CategoryD) (f : Int) : Option (Int × Int × Int × Int) := scanR (faultG c f) c.2.1.length 0
def faultR (c : CategoryD) : Int × Int × Int × Int :=
  orR (scanR (faultI c) c.2.1.length 0) (orR (scanR (faultF c) c.2.1.length 0) (0, 0, 0, 0))

def c_impl_Category_fault : Ct := ⟨[(.pt CategoryT)], [false], fun x => [ShapeP x.1], [(false, (.fz (.int .i64))), (false, (.fz (.int .i64))), (false, (.fz (.int .i64))), (false, (.fz (.int .i64)))], fun x => ((faultR x.1).1, (faultR x.1).2.1, (faultR x.1).2.2.1, (faultR x.1).2.2.2, ()), false, none⟩
def W_impl_Category_fault (c : CategoryD) (K : Int × Int × Int × Int × Unit → Prop) : Prop := (loopW (S := ((Int × Unit) × Unit)) (fun s => (fun next => ((inK IntKind.i64 s.1.1) → (cnd (decide (s.1.1 < (((List.length c.2.1) : Nat) : Int))) (((0 : Int) ≤ s.1.1) ∧ ((s.1.1 < (((List.length c.2.1) : Nat) : Int)) ∧ (((0 : Int) ≤ (List.getD c.2.1 (Int.toNat s.1.1) (0 : Int))) ∧ (((List.getD c.2.1 (Int.toNat s.1.1) (0 : Int)) < (((List.length c.2.2.2.1) : Nat) : Int)) ∧ (((0 : Int) ≤ (List.getD c.2.2.2.1 (Int.toNat (List.getD c.2.1 (Int.toNat s.1.1) (0 : Int))) (0 : Int))) ∧ (((List.getD c.2.2.2.1 (Int.toNat (List.getD c.2.1 (Int.toNat s.1.1) (0 : Int))) (0 : Int)) < (((List.length c.2.2.2.2) : Nat) : Int)) ∧ (((0 : Int) ≤ s.1.1) ∧ ((s.1.1 < (((List.length (List.getD c.2.2.2.2 (Int.toNat (List.getD c.2.2.2.1 (Int.toNat (List.getD c.2.1 (Int.toNat s.1.1) (0 : Int))) (0 : Int))) ([] : List Int))) : Nat) : Int)) ∧ (((((compR c (List.getD c.2.2.2.1 (Int.toNat (List.getD c.2.1 (Int.toNat s.1.1) (0 : Int))) (0 : Int)) s.1.1) != s.1.1) = Bool.false) → ((s.1.1 < (((List.length c.2.2.1) : Nat) : Int)) ∧ ((0 : Int) ≤ s.1.1))) ∧ (((((compR c (List.getD c.2.2.2.1 (Int.toNat (List.getD c.2.1 (Int.toNat s.1.1) (0 : Int))) (0 : Int)) s.1.1) != s.1.1) = Bool.false) → (((List.getD c.2.2.1 (Int.toNat s.1.1) (0 : Int)) < (((List.length c.2.2.2.1) : Nat) : Int)) ∧ ((0 : Int) ≤ (List.getD c.2.2.1 (Int.toNat s.1.1) (0 : Int))))) ∧ (((((compR c (List.getD c.2.2.2.1 (Int.toNat (List.getD c.2.1 (Int.toNat s.1.1) (0 : Int))) (0 : Int)) s.1.1) != s.1.1) = Bool.false) → ((s.1.1 < (((List.length c.2.2.2.2) : Nat) : Int)) ∧ (((0 : Int) ≤ (List.getD c.2.2.2.1 (Int.toNat (List.getD c.2.2.1 (Int.toNat s.1.1) (0 : Int))) (0 : Int))) ∧ (((List.getD c.2.2.2.1 (Int.toNat (List.getD c.2.2.1 (Int.toNat s.1.1) (0 : Int))) (0 : Int)) < (((List.length (List.getD c.2.2.2.2 (Int.toNat s.1.1) ([] : List Int))) : Nat) : Int)) ∧ ((0 : Int) ≤ s.1.1))))) ∧ (cnd (((compR c (List.getD c.2.2.2.1 (Int.toNat (List.getD c.2.1 (Int.toNat s.1.1) (0 : Int))) (0 : Int)) s.1.1) != s.1.1) || ((compR c s.1.1 (List.getD c.2.2.2.1 (Int.toNat (List.getD c.2.2.1 (Int.toNat s.1.1) (0 : Int))) (0 : Int))) != s.1.1)) (K ((1 : Int), (s.1.1, ((0 : Int), ((0 : Int), ()))))) ((inK IntKind.i64 (s.1.1 + (1 : Int))) ∧ (next (((s.1.1 + (1 : Int)), ()), ()))))))))))))))) (loopW (S := ((Int × Unit) × Unit)) (fun s1 => (fun next1 => ((inK IntKind.i64 s1.1.1) → (cnd (decide (s1.1.1 < (((List.length c.2.1) : Nat) : Int))) (loopW (S := ((Int × Unit) × Unit)) (fun s2 => (fun next2 => ((inK IntKind.i64 s2.1.1) → (cnd (decide (s2.1.1 < (((List.length c.2.1) : Nat) : Int))) (joinW (S := (Unit × Unit)) (fun s3 => ((inK IntKind.i64 (s2.1.1 + (1 : Int))) ∧ (next2 (((s2.1.1 + (1 : Int)), ()), ())))) (fun k => (((0 : Int) ≤ s1.1.1) ∧ ((s1.1.1 < (((List.length c.2.2.2.2) : Nat) : Int)) ∧ (((0 : Int) ≤ s2.1.1) ∧ ((s2.1.1 < (((List.length (List.getD c.2.2.2.2 (Int.toNat s1.1.1) ([] : List Int))) : Nat) : Int)) ∧ (cnd (decide ((compR c s1.1.1 s2.1.1) < (0 : Int))) (k ((), ())) (loopW (S := ((Int × Unit) × Unit)) (fun s3 => (fun next3 => ((inK IntKind.i64 s3.1.1) → (cnd (decide (s3.1.1 < (((List.length c.2.1) : Nat) : Int))) (((0 : Int) ≤ s2.1.1) ∧ ((s2.1.1 < (((List.length c.2.2.2.2) : Nat) : Int)) ∧ (((0 : Int) ≤ s3.1.1) ∧ ((s3.1.1 < (((List.length (List.getD c.2.2.2.2 (Int.toNat s2.1.1) ([] : List Int))) : Nat) : Int)) ∧ ((((decide ((0 : Int) ≤ (compR c s2.1.1 s3.1.1))) = Bool.true) → ((s1.1.1 < (((List.length c.2.2.2.2) : Nat) : Int)) ∧ (((0 : Int) ≤ s2.1.1) ∧ ((s2.1.1 < (((List.length (List.getD c.2.2.2.2 (Int.toNat s1.1.1) ([] : List Int))) : Nat) : Int)) ∧ ((0 : Int) ≤ s1.1.1))))) ∧ ((((decide ((0 : Int) ≤ (compR c s2.1.1 s3.1.1))) = Bool.true) → (((compR c s1.1.1 s2.1.1) < (((List.length c.2.2.2.2) : Nat) : Int)) ∧ (((0 : Int) ≤ s3.1.1) ∧ ((s3.1.1 < (((List.length (List.getD c.2.2.2.2 (Int.toNat (compR c s1.1.1 s2.1.1)) ([] : List Int))) : Nat) : Int)) ∧ ((0 : Int) ≤ (compR c s1.1.1 s2.1.1)))))) ∧ ((((decide ((0 : Int) ≤ (compR c s2.1.1 s3.1.1))) = Bool.true) → ((s2.1.1 < (((List.length c.2.2.2.2) : Nat) : Int)) ∧ (((0 : Int) ≤ s3.1.1) ∧ ((s3.1.1 < (((List.length (List.getD c.2.2.2.2 (Int.toNat s2.1.1) ([] : List Int))) : Nat) : Int)) ∧ ((0 : Int) ≤ s2.1.1))))) ∧ ((((decide ((0 : Int) ≤ (compR c s2.1.1 s3.1.1))) = Bool.true) → ((s1.1.1 < (((List.length c.2.2.2.2) : Nat) : Int)) ∧ (((0 : Int) ≤ (compR c s2.1.1 s3.1.1)) ∧ (((compR c s2.1.1 s3.1.1) < (((List.length (List.getD c.2.2.2.2 (Int.toNat s1.1.1) ([] : List Int))) : Nat) : Int)) ∧ ((0 : Int) ≤ s1.1.1))))) ∧ (cnd ((decide ((0 : Int) ≤ (compR c s2.1.1 s3.1.1))) && ((compR c (compR c s1.1.1 s2.1.1) s3.1.1) != (compR c s1.1.1 (compR c s2.1.1 s3.1.1)))) (K ((2 : Int), (s1.1.1, (s2.1.1, (s3.1.1, ()))))) ((inK IntKind.i64 (s3.1.1 + (1 : Int))) ∧ (next3 (((s3.1.1 + (1 : Int)), ()), ())))))))))))) (k ((), ())))))) (((0 : Int), ()), ()))))))))) ((inK IntKind.i64 (s1.1.1 + (1 : Int))) ∧ (next1 (((s1.1.1 + (1 : Int)), ()), ()))))))) (((0 : Int), ()), ())) (K ((0 : Int), ((0 : Int), ((0 : Int), ((0 : Int), ()))))))))) (((0 : Int), ()), ())))))) (((0 : Int), ()), ()))
theorem w_impl_Category_fault (x : denL c_impl_Category_fault.args) (K : Int × Int × Int × Int × Unit → Prop) : evF tab (lkp [(38, c_impl_Category_arrows), (68, c_impl_Category_then)]) (cutL [(5, 38)]) Try.f62 (bodyOf Try.f62) (.s .n (.s .n (.s (.s .n (.l [(7, (.d (.int .i64)))] [] [0, 6] .n)) (.s (.s .n (.l [(8, (.d (.int .i64)))] [] [0, 6] (.s .n (.s (.s .n (.l [(9, (.d (.int .i64)))] [] [0, 6, 8] (.s .n (.s (.j [] [] [0, 6, 8, 9] (.s .n (.s .n (.l [(10, (.d (.int .i64)))] [] [0, 6, 8, 9] .n)))) .n)))) .n)))) .n)))) c_impl_Category_fault x K = W_impl_Category_fault x.1 K := by kernel_rfl
theorem k_impl_Category_fault : okC Try.f62.ntmps (cutL [(5, 38)]) (bodyOf Try.f62) = true := by kernel_rfl
theorem m_impl_Category_fault (c : CategoryD) (hok : allP (okL c_impl_Category_fault.args (c, ()))) (hpre : allP (c_impl_Category_fault.pre (c, ()))) : W_impl_Category_fault c (fun r => r = c_impl_Category_fault.res (c, ())) := by
  simp only [c_impl_Category_fault, okL, T.oks, T.ok, ap, allP, true_and, and_true, implies_true] at hok hpre
  try dsimp only [T.den] at hok
  try dsimp only [T.den] at hpre
  unfold W_impl_Category_fault
  have S : ShapeP c := hpre
  have hlt := S.lt
  have hli := S.li
  have hlc := S.lc
  have hmm := S.m
  have resq : ∀ a b d e, faultR c = (a, b, d, e) → (a, b, d, e, ()) = c_impl_Category_fault.res (c, ()) := fun a b d e h => by simp only [c_impl_Category_fault, h]
  refine loop_ix (n := c.2.1.length) (fun f => scanR (faultI c) c.2.1.length 0 = scanR (faultI c) ((c.2.1.length : Int) - f).toNat f) (by omega) scan_0 ?_ ?_
  · intro f next h0 h1 hP hn hin
    try dsimp only
    obtain ⟨a1, a2, a3, a4⟩ := S.frm h0 h1
    obtain ⟨b1, b2, _, _⟩ := S.idn a1 a2
    obtain ⟨d1, d2, _, _⟩ := S.idn a3 a4
    have r1 := S.row _ b1 b2
    have r2 := S.row f h0 h1
    refine cnd_d (fun _ => ⟨h0, h1, by omega, by omega, by omega, by omega, h0, by omega, fun _ => by omega, fun _ => by omega, fun _ => by omega, cnd_of (fun hx => resq _ _ _ _ ?_) (fun hx => ⟨by rw [inK64]; (try dsimp only); omega, hn ?_⟩)⟩) (fun h => absurd h1 h)
    · have : faultI c f = some (1, f, 0, 0) := by unfold faultI; rw [if_pos]; simpa using hx
      unfold faultR; rw [hP, scan_s h1 this]; rfl
    · have : faultI c f = none := by unfold faultI; rw [if_neg]; simpa using hx
      rw [hP, scan_c h1 this]
  intro next hI hin
  rw [scan_n] at hI
  refine cnd_d (fun h => absurd h (by dsimp only; omega)) (fun _ => ?_)
  have hF : faultR c = orR (scanR (faultF c) c.2.1.length 0) (0, 0, 0, 0) := by unfold faultR; rw [hI]; rfl
  refine loop_ix (n := c.2.1.length) (fun f => scanR (faultF c) c.2.1.length 0 = scanR (faultF c) ((c.2.1.length : Int) - f).toNat f) (by omega) scan_0 ?_ ?_
  · intro f next h0 h1 hP hn hin
    try dsimp only
    refine cnd_d (fun _ => ?_) (fun h => absurd h1 h)
    have r1 := S.row f h0 h1
    refine loop_ix (n := c.2.1.length) (fun g => faultF c f = scanR (faultG c f) ((c.2.1.length : Int) - g).toNat g) (by omega) scan_0 ?_ ?_
    · intro g next3 g0 g1 hP3 hn3 hin3
      try dsimp only
      refine cnd_d (fun _ => ?_) (fun h => absurd g1 h)
      have r2 := S.row g g0 g1
      refine join_of (fun _ => faultG c f g = none) (fun _ hG => ⟨by rw [inK64]; (try dsimp only); omega, hn3 (by rw [hP3, scan_c g1 hG])⟩) (fun k hk => ?_)
      have hk' := hk ((), ())
      refine ⟨by omega, by omega, by omega, by omega, cnd_d (fun hx => hk' ?_) (fun hx => ?_)⟩
      · unfold faultG; rw [if_neg]; intro e; have := (S.comp h0 h1 g0 g1).2 e; omega
      have hfg := (S.comp h0 h1 g0 g1).1 (by omega)
      obtain ⟨y1, y2, _, _⟩ := S.yes h0 h1 g0 g1 hfg
      refine loop_ix (n := c.2.1.length) (fun h => faultG c f g = scanR (faultH c f g) ((c.2.1.length : Int) - h).toNat h) (by omega) (by unfold faultG; rw [if_pos hfg]; exact scan_0) ?_ ?_
      · intro h next4 i0 i1 hP4 hn4 hin4
        try dsimp only
        refine cnd_d (fun _ => ?_) (fun h => absurd i1 h)
        have r3 := S.row _ y1 y2
        have cgh := S.comp g0 g1 i0 i1
        have ygh := @ShapeP.yes c S g h g0 g1 i0 i1
        refine ⟨by omega, by omega, by omega, by omega, fun _ => by omega, fun _ => by omega, fun _ => by omega, fun he => ?_, cnd_of (fun hx => resq _ _ _ _ ?_) (fun hx => ⟨by rw [inK64]; (try dsimp only); omega, hn4 ?_⟩)⟩
        · have := ygh (cgh.1 (by simpa using he)); omega
        · have : faultH c f g h = some (2, f, g, h) := by unfold faultH; rw [if_pos]; rw [← cgh]; simpa using hx
          have e1 : faultG c f g = some (2, f, g, h) := by rw [hP4, scan_s i1 this]
          have e2 : faultF c f = some (2, f, g, h) := by rw [hP3, scan_s g1 e1]
          rw [hF, hP, scan_s h1 e2]; rfl
        · have : faultH c f g h = none := by unfold faultH; rw [if_neg]; rw [← cgh]; simpa using hx
          rw [hP4, scan_c i1 this]
      · intro next4 hP4 hin4
        rw [scan_n] at hP4
        exact cnd_d (fun h => absurd h (by dsimp only; omega)) (fun _ => hk' hP4)
    · intro next3 hP3 hin3
      rw [scan_n] at hP3
      exact cnd_d (fun h => absurd h (by dsimp only; omega)) (fun _ => ⟨by rw [inK64]; (try dsimp only); omega, hn (by rw [hP, scan_c h1 hP3])⟩)
  · intro next2 hP2 hin2
    rw [scan_n] at hP2
    refine cnd_d (fun h => absurd h (by dsimp only; omega)) (fun _ => resq _ _ _ _ ?_)
    rw [hF, hP2]; rfl
theorem ct_impl_Category_fault : CtOk Try.prog 62 c_impl_Category_fault :=
  ct_by (Φ := lkp [(38, c_impl_Category_arrows), (68, c_impl_Category_then)]) (good_cons ct_impl_Category_arrows (good_cons ct_impl_Category_then good_nil)) tab_ok (by kernel_rfl) (fn := Try.f62) (c := bodyOf Try.f62) (by kernel_rfl) (by kernel_rfl) (by kernel_rfl) c_impl_Category_fault rfl (.s .n (.s .n (.s (.s .n (.l [(7, (.d (.int .i64)))] [] [0, 6] .n)) (.s (.s .n (.l [(8, (.d (.int .i64)))] [] [0, 6] (.s .n (.s (.s .n (.l [(9, (.d (.int .i64)))] [] [0, 6, 8] (.s .n (.s (.j [] [] [0, 6, 8, 9] (.s .n (.s .n (.l [(10, (.d (.int .i64)))] [] [0, 6, 8, 9] .n)))) .n)))) .n)))) .n)))) (cutL [(5, 38)]) (by kernel_rfl) (by kernel_rfl) k_impl_Category_fault (by decide) (fun x K => W_impl_Category_fault x.1 K) w_impl_Category_fault (fun x h1 h2 => m_impl_Category_fault x.1 h1 h2)
def catR (c : CategoryD) : Bool := shapeR c && (faultR c).1 == 0

def c_impl_Category_isCategory : Ct := ⟨[(.pt CategoryT)], [false], fun x => [], [(false, (.fz .bool))], fun x => (catR x.1, ()), false, none⟩
def W_impl_Category_isCategory (c : CategoryD) (K : Bool × Unit → Prop) : Prop := (cnd (!(shapeR c)) (K (Bool.false, ())) ((ShapeP c) ∧ (K (((faultR c).1 == (0 : Int)), ()))))
theorem w_impl_Category_isCategory (x : denL c_impl_Category_isCategory.args) (K : Bool × Unit → Prop) : evF tab (lkp [(62, c_impl_Category_fault), (61, c_impl_Category_isShape)]) (cutL []) Try.f36 (bodyOf Try.f36) .n c_impl_Category_isCategory x K = W_impl_Category_isCategory x.1 K := by kernel_rfl
theorem k_impl_Category_isCategory : okC Try.f36.ntmps (cutL []) (bodyOf Try.f36) = true := by kernel_rfl
theorem m_impl_Category_isCategory (c : CategoryD) (hok : allP (okL c_impl_Category_isCategory.args (c, ()))) (hpre : allP (c_impl_Category_isCategory.pre (c, ()))) : W_impl_Category_isCategory c (fun r => r = c_impl_Category_isCategory.res (c, ())) := by
  simp only [c_impl_Category_isCategory, okL, T.oks, T.ok, ap, allP, true_and, and_true, implies_true] at hok hpre
  try dsimp only [T.den] at hok
  try dsimp only [T.den] at hpre
  unfold W_impl_Category_isCategory
  simp only [c_impl_Category_isCategory, catR]
  have := @shape_iff c
  grind [cnd, nb_eq, inK64]
theorem ct_impl_Category_isCategory : CtOk Try.prog 36 c_impl_Category_isCategory :=
  ct_by (Φ := lkp [(62, c_impl_Category_fault), (61, c_impl_Category_isShape)]) (good_cons ct_impl_Category_fault (good_cons ct_impl_Category_isShape good_nil)) tab_ok (by kernel_rfl) (fn := Try.f36) (c := bodyOf Try.f36) (by kernel_rfl) (by kernel_rfl) (by kernel_rfl) c_impl_Category_isCategory rfl .n (cutL []) (by kernel_rfl) (by kernel_rfl) k_impl_Category_isCategory (by decide) (fun x K => W_impl_Category_isCategory x.1 K) w_impl_Category_isCategory (fun x h1 h2 => m_impl_Category_isCategory x.1 h1 h2)
def renFR (a : List Int) (c : CategoryD) (b : List Int) (f g : Int) : Int := a.getD (compR c (b.getD f.toNat 0) (b.getD g.toNat 0)).toNat 0

def c_impl_Category_renumber_1 : Ct := ⟨[(.int .i64), (.int .i64), (.pt (.sl (.int .i64))), (.pt (.pt CategoryT)), (.pt (.sl (.int .i64)))], [false, false, false, false, false], fun x => [ShapeP x.2.2.2.1, x.2.2.2.2.1.length = x.2.2.2.1.2.1.length, withinR x.2.2.2.2.1 x.2.2.2.1.2.1.length = true, x.2.2.1.length = x.2.2.2.1.2.1.length, 0 ≤ x.1, x.1 < x.2.2.2.1.2.1.length, 0 ≤ x.2.1, x.2.1 < x.2.2.2.1.2.1.length, x.2.2.2.1.2.2.1.getD (x.2.2.2.2.1.getD x.1.toNat 0).toNat 0 = x.2.2.2.1.2.1.getD (x.2.2.2.2.1.getD x.2.1.toNat 0).toNat 0], [(false, (.fz (.int .i64)))], fun x => (renFR x.2.2.1 x.2.2.2.1 x.2.2.2.2.1 x.1 x.2.1, ()), false, none⟩
def W_impl_Category_renumber_1 (f : Int) (g : Int) (arrows : List Int) (c : CategoryD) (back : List Int) (K : Int × Unit → Prop) : Prop := (((0 : Int) ≤ f) ∧ ((f < (((List.length back) : Nat) : Int)) ∧ (((0 : Int) ≤ g) ∧ ((g < (((List.length back) : Nat) : Int)) ∧ (((0 : Int) ≤ (List.getD back (Int.toNat f) (0 : Int))) ∧ (((List.getD back (Int.toNat f) (0 : Int)) < (((List.length c.2.2.2.2) : Nat) : Int)) ∧ (((0 : Int) ≤ (List.getD back (Int.toNat g) (0 : Int))) ∧ (((List.getD back (Int.toNat g) (0 : Int)) < (((List.length (List.getD c.2.2.2.2 (Int.toNat (List.getD back (Int.toNat f) (0 : Int))) ([] : List Int))) : Nat) : Int)) ∧ (((0 : Int) ≤ (compR c (List.getD back (Int.toNat f) (0 : Int)) (List.getD back (Int.toNat g) (0 : Int)))) ∧ (((compR c (List.getD back (Int.toNat f) (0 : Int)) (List.getD back (Int.toNat g) (0 : Int))) < (((List.length arrows) : Nat) : Int)) ∧ (K ((List.getD arrows (Int.toNat (compR c (List.getD back (Int.toNat f) (0 : Int)) (List.getD back (Int.toNat g) (0 : Int)))) (0 : Int)), ()))))))))))))
theorem w_impl_Category_renumber_1 (x : denL c_impl_Category_renumber_1.args) (K : Int × Unit → Prop) : evF tab (lkp [(68, c_impl_Category_then)]) (cutL [(1, 11)]) Try.f67 (bodyOf Try.f67) .n c_impl_Category_renumber_1 x K = W_impl_Category_renumber_1 x.1 x.2.1 x.2.2.1 x.2.2.2.1 x.2.2.2.2.1 K := by kernel_rfl
theorem k_impl_Category_renumber_1 : okC Try.f67.ntmps (cutL [(1, 11)]) (bodyOf Try.f67) = true := by kernel_rfl
theorem m_impl_Category_renumber_1 (f : Int) (g : Int) (arrows : List Int) (c : CategoryD) (back : List Int) (hok : allP (okL c_impl_Category_renumber_1.args (f, g, arrows, c, back, ()))) (hpre : allP (c_impl_Category_renumber_1.pre (f, g, arrows, c, back, ()))) : W_impl_Category_renumber_1 f g arrows c back (fun r => r = c_impl_Category_renumber_1.res (f, g, arrows, c, back, ())) := by
  simp only [c_impl_Category_renumber_1, okL, T.oks, T.ok, ap, allP, true_and, and_true, implies_true] at hok hpre
  try dsimp only [T.den] at hok
  try dsimp only [T.den] at hpre
  unfold W_impl_Category_renumber_1
  obtain ⟨S, hb, hw, ha, f0, f1, g0, g1, he⟩ := hpre
  have hf := within_iff.1 hw f f0 (by omega)
  have hg := within_iff.1 hw g g0 (by omega)
  have y := S.yes hf.1 hf.2 hg.1 hg.2 he
  have hlc := S.lc
  have hr := S.row _ hf.1 hf.2
  exact ⟨f0, by omega, g0, by omega, hf.1, by omega, hg.1, by omega, y.1, by omega, rfl⟩
theorem ct_impl_Category_renumber_1 : CtOk Try.prog 67 c_impl_Category_renumber_1 :=
  ct_by (Φ := lkp [(68, c_impl_Category_then)]) (good_cons ct_impl_Category_then good_nil) tab_ok (by kernel_rfl) (fn := Try.f67) (c := bodyOf Try.f67) (by kernel_rfl) (by kernel_rfl) (by kernel_rfl) c_impl_Category_renumber_1 rfl .n (cutL [(1, 11)]) (by kernel_rfl) (by kernel_rfl) k_impl_Category_renumber_1 (by decide) (fun x K => W_impl_Category_renumber_1 x.1 x.2.1 x.2.2.1 x.2.2.2.1 x.2.2.2.2.1 K) w_impl_Category_renumber_1 (fun x h1 h2 => m_impl_Category_renumber_1 x.1 x.2.1 x.2.2.1 x.2.2.2.1 x.2.2.2.2.1 h1 h2)
structure TabRP (o : CategoryD) (a : List Int) (c : CategoryD) (b : List Int) : Prop where
  sh : ShapeP c
  lb : b.length = c.2.1.length
  wb : withinR b c.2.1.length = true
  la : a.length = c.2.1.length
  lo : o.2.1.length = c.2.1.length
  lt : o.2.2.1.length = c.2.1.length
  co : ∀ f g : Int, 0 ≤ f → f < c.2.1.length → 0 ≤ g → g < c.2.1.length → o.2.2.1.getD f.toNat 0 = o.2.1.getD g.toNat 0 → c.2.2.1.getD (b.getD f.toNat 0).toNat 0 = c.2.1.getD (b.getD g.toNat 0).toNat 0
def tabFR (o : CategoryD) (F : Int → Int → Int) (f g : Int) : Int := if o.2.2.1.getD f.toNat 0 = o.2.1.getD g.toNat 0 then F f g else -1
def tableR (o : CategoryD) (F : Int → Int → Int) : List (List Int) := tabN o.2.1.length fun f => tabN o.2.1.length fun g => tabFR o F f g
def tbT (F : Int → Int → Int) (n : Nat) (i j : Int) : List (List Int) := tabN n fun e => if e = i then (tabN n fun g => if g < j then F i g else 0) else if e < i then tabN n (F e) else []
theorem tbT_len {F : Int → Int → Int} {n : Nat} {i j : Int} : (tbT F n i j).length = n := tabN_len _
theorem tbT_row {F : Int → Int → Int} {n : Nat} {i j : Int} (i0 : 0 ≤ i) (i1 : i < n) : (tbT F n i j).getD i.toNat [] = tabN n fun g => if g < j then F i g else 0 := by
  unfold tbT; rw [tabN_get i0 i1, if_pos rfl]
theorem tbT_s {F : Int → Int → Int} {n : Nat} {i j : Int} (i0 : 0 ≤ i) (i1 : i < n) (j0 : 0 ≤ j) (j1 : j < n) : (tbT F n i j).set i.toNat (((tbT F n i j).getD i.toNat []).set j.toNat (F i j)) = tbT F n i (j + 1) := by
  rw [tbT_row i0 i1, tab_set j0 j1]
  unfold tbT
  rw [tab_set i0 i1]
  refine tabN_congr fun e _ _ => ?_
  by_cases h : e = i
  · rw [if_pos h, if_pos h]
    refine tabN_congr fun g _ _ => ?_
    by_cases hg : g = j
    · rw [if_pos hg, if_pos (by omega), hg]
    · rw [if_neg hg]
      by_cases h2 : g < j
      · rw [if_pos h2, if_pos (by omega)]
      · rw [if_neg h2, if_neg (by omega)]
  · rw [if_neg h, if_neg h, if_neg h]
theorem set_twice {A : List (List Int)} {i j : Nat} {w v : Int} (h : i < A.length) : (A.set i ((A.getD i []).set j w)).set i (((A.set i ((A.getD i []).set j w)).getD i []).set j v) = A.set i ((A.getD i []).set j v) := by
  rw [set_getD _ _ _ _ _ h, if_pos rfl, List.set_set, List.set_set]
theorem tbT_0 {F : Int → Int → Int} {n : Nat} {i : Int} (i0 : 0 ≤ i) (i1 : i < n) : (tabN n fun e => if e < i then tabN n (F e) else []).set i.toNat (tabN n fun _ => 0) = tbT F n i 0 := by
  rw [tab_set i0 i1]
  unfold tbT
  refine tabN_congr fun e _ _ => ?_
  by_cases h : e = i
  · rw [if_pos h, if_pos h]; exact tabN_congr fun g g0 _ => by rw [if_neg (by omega)]
  · rw [if_neg h, if_neg h]
theorem tbT_n {F : Int → Int → Int} {n : Nat} {i : Int} : tbT F n i n = tabN n fun e => if e < i + 1 then tabN n (F e) else [] := by
  unfold tbT
  refine tabN_congr fun e _ _ => ?_
  by_cases h : e = i
  · rw [if_pos h, if_pos (by omega), h]; exact tabN_congr fun g _ g1 => by rw [if_pos g1]
  · rw [if_neg h]
    by_cases h2 : e < i
    · rw [if_pos h2, if_pos (by omega)]
    · rw [if_neg h2, if_neg (by omega)]

def w0_impl_Category_table_ren : Wt := ⟨(.pt CategoryO), [(.fn 67 (.p (.pt (.sl (.int .i64))) (.p (.pt (.pt CategoryT)) (.p (.pt (.sl (.int .i64))) .u))))], [false], fun x y => [TabRP x y.1.1 y.1.2.1 y.1.2.2.1], fun x y => (x.1, x.2.1, x.2.2.1, x.2.2.2.1, tableR x (renFR y.1.1 y.1.2.1 y.1.2.2.1)), [], fun x y => (())⟩
def c_impl_Category_table_ren : Ct := wtCt w0_impl_Category_table_ren
def W_impl_Category_table_ren (c : CategoryD) (composite : (List Int) × (CategoryD × ((List Int) × Unit))) (K : CategoryD → (Unit) → Prop) : Prop := (((0 : Int) ≤ (((List.length c.2.1) : Nat) : Int)) ∧ (((((List.length c.2.1) : Nat) : Int) ≤ (((List.length c.2.1) : Nat) : Int)) ∧ (((((List.length c.2.1) : Nat) : Int) ≤ ((140737488355328 : Nat) : Int)) ∧ ((((((List.length c.2.1) : Nat) : Int) * ((24 : Nat) : Int)) ≤ ((140737488355328 : Nat) : Int)) ∧ (loopW (S := ((Unit × (Int × Unit)) × ((Int × ((List Int) × ((List Int) × ((List Int) × (List (List Int)))))) × Unit))) (fun s => (fun next => ((inK IntKind.i64 s.1.2.1) → ((inK IntKind.i64 s.2.1.1) → ((T.ok (T.sl (T.int IntKind.i64)) s.2.1.2.1) → ((T.ok (T.sl (T.int IntKind.i64)) s.2.1.2.2.1) → ((T.ok (T.sl (T.int IntKind.i64)) s.2.1.2.2.2.1) → ((T.ok (T.sl (T.sl (T.int IntKind.i64))) s.2.1.2.2.2.2) → (cnd (decide (s.1.2.1 < (((List.length (List.replicate (Int.toNat (((List.length c.2.1) : Nat) : Int)) ([] : List Int))) : Nat) : Int))) (((0 : Int) ≤ (((List.length c.2.1) : Nat) : Int)) ∧ (((((List.length c.2.1) : Nat) : Int) ≤ (((List.length c.2.1) : Nat) : Int)) ∧ (((((List.length c.2.1) : Nat) : Int) ≤ ((140737488355328 : Nat) : Int)) ∧ ((((((List.length c.2.1) : Nat) : Int) * ((8 : Nat) : Int)) ≤ ((140737488355328 : Nat) : Int)) ∧ (((0 : Int) ≤ s.1.2.1) ∧ ((s.1.2.1 < (((List.length s.2.1.2.2.2.2) : Nat) : Int)) ∧ (((0 : Int) ≤ s.1.2.1) ∧ ((s.1.2.1 < (((List.length (List.set s.2.1.2.2.2.2 (Int.toNat s.1.2.1) (List.replicate (Int.toNat (((List.length c.2.1) : Nat) : Int)) (0 : Int)))) : Nat) : Int)) ∧ (loopW (S := ((Unit × (Int × Unit)) × ((Int × ((List Int) × ((List Int) × ((List Int) × (List (List Int)))))) × Unit))) (fun s1 => (fun next1 => ((inK IntKind.i64 s1.1.2.1) → ((inK IntKind.i64 s1.2.1.1) → ((T.ok (T.sl (T.int IntKind.i64)) s1.2.1.2.1) → ((T.ok (T.sl (T.int IntKind.i64)) s1.2.1.2.2.1) → ((T.ok (T.sl (T.int IntKind.i64)) s1.2.1.2.2.2.1) → ((T.ok (T.sl (T.sl (T.int IntKind.i64))) s1.2.1.2.2.2.2) → (cnd (decide (s1.1.2.1 < (((List.length (List.getD (List.set s.2.1.2.2.2.2 (Int.toNat s.1.2.1) (List.replicate (Int.toNat (((List.length c.2.1) : Nat) : Int)) (0 : Int))) (Int.toNat s.1.2.1) ([] : List Int))) : Nat) : Int))) (((0 : Int) ≤ s.1.2.1) ∧ ((s.1.2.1 < (((List.length s1.2.1.2.2.2.2) : Nat) : Int)) ∧ (((0 : Int) ≤ s1.1.2.1) ∧ ((s1.1.2.1 < (((List.length (List.getD s1.2.1.2.2.2.2 (Int.toNat s.1.2.1) ([] : List Int))) : Nat) : Int)) ∧ (((0 : Int) ≤ s.1.2.1) ∧ ((s.1.2.1 < (((List.length s1.2.1.2.2.1) : Nat) : Int)) ∧ (((0 : Int) ≤ s1.1.2.1) ∧ ((s1.1.2.1 < (((List.length s1.2.1.2.1) : Nat) : Int)) ∧ (joinW (S := ((Unit × Unit) × ((Int × ((List Int) × ((List Int) × ((List Int) × (List (List Int)))))) × Unit))) (fun s2 => ((inK IntKind.i64 s2.2.1.1) → ((T.ok (T.sl (T.int IntKind.i64)) s2.2.1.2.1) → ((T.ok (T.sl (T.int IntKind.i64)) s2.2.1.2.2.1) → ((T.ok (T.sl (T.int IntKind.i64)) s2.2.1.2.2.2.1) → ((T.ok (T.sl (T.sl (T.int IntKind.i64))) s2.2.1.2.2.2.2) → ((inK IntKind.i64 (s1.1.2.1 + (1 : Int))) ∧ (next1 (((), ((s1.1.2.1 + (1 : Int)), ())), (s2.2.1, ())))))))))) (fun k => (cnd ((List.getD s1.2.1.2.2.1 (Int.toNat s.1.2.1) (0 : Int)) == (List.getD s1.2.1.2.1 (Int.toNat s1.1.2.1) (0 : Int))) (((0 : Int) ≤ s.1.2.1) ∧ ((s.1.2.1 < (((List.length (List.set s1.2.1.2.2.2.2 (Int.toNat s.1.2.1) (List.set (List.getD s1.2.1.2.2.2.2 (Int.toNat s.1.2.1) ([] : List Int)) (Int.toNat s1.1.2.1) (-(1 : Int))))) : Nat) : Int)) ∧ ((ShapeP composite.2.1) ∧ (((List.length composite.2.2.1) = (List.length composite.2.1.2.1)) ∧ (((withinR composite.2.2.1 (((List.length composite.2.1.2.1) : Nat) : Int)) = Bool.true) ∧ (((List.length composite.1) = (List.length composite.2.1.2.1)) ∧ (((0 : Int) ≤ s.1.2.1) ∧ ((s.1.2.1 < (((List.length composite.2.1.2.1) : Nat) : Int)) ∧ (((0 : Int) ≤ s1.1.2.1) ∧ ((s1.1.2.1 < (((List.length composite.2.1.2.1) : Nat) : Int)) ∧ (((List.getD composite.2.1.2.2.1 (Int.toNat (List.getD composite.2.2.1 (Int.toNat s.1.2.1) (0 : Int))) (0 : Int)) = (List.getD composite.2.1.2.1 (Int.toNat (List.getD composite.2.2.1 (Int.toNat s1.1.2.1) (0 : Int))) (0 : Int))) ∧ (((0 : Int) ≤ s1.1.2.1) ∧ ((s1.1.2.1 < (((List.length (List.getD (List.set s1.2.1.2.2.2.2 (Int.toNat s.1.2.1) (List.set (List.getD s1.2.1.2.2.2.2 (Int.toNat s.1.2.1) ([] : List Int)) (Int.toNat s1.1.2.1) (-(1 : Int)))) (Int.toNat s.1.2.1) ([] : List Int))) : Nat) : Int)) ∧ (k (((), ()), ((s1.2.1.1, (s1.2.1.2.1, (s1.2.1.2.2.1, (s1.2.1.2.2.2.1, (List.set (List.set s1.2.1.2.2.2.2 (Int.toNat s.1.2.1) (List.set (List.getD s1.2.1.2.2.2.2 (Int.toNat s.1.2.1) ([] : List Int)) (Int.toNat s1.1.2.1) (-(1 : Int)))) (Int.toNat s.1.2.1) (List.set (List.getD (List.set s1.2.1.2.2.2.2 (Int.toNat s.1.2.1) (List.set (List.getD s1.2.1.2.2.2.2 (Int.toNat s.1.2.1) ([] : List Int)) (Int.toNat s1.1.2.1) (-(1 : Int)))) (Int.toNat s.1.2.1) ([] : List Int)) (Int.toNat s1.1.2.1) (renFR composite.1 composite.2.1 composite.2.2.1 s.1.2.1 s1.1.2.1))))))), ())))))))))))))))) (k (((), ()), ((s1.2.1.1, (s1.2.1.2.1, (s1.2.1.2.2.1, (s1.2.1.2.2.2.1, (List.set s1.2.1.2.2.2.2 (Int.toNat s.1.2.1) (List.set (List.getD s1.2.1.2.2.2.2 (Int.toNat s.1.2.1) ([] : List Int)) (Int.toNat s1.1.2.1) (-(1 : Int)))))))), ())))))))))))))) ((inK IntKind.i64 (s.1.2.1 + (1 : Int))) ∧ (next (((), ((s.1.2.1 + (1 : Int)), ())), (s1.2.1, ()))))))))))))) (((), ((0 : Int), ())), ((s.2.1.1, (s.2.1.2.1, (s.2.1.2.2.1, (s.2.1.2.2.2.1, (List.set s.2.1.2.2.2.2 (Int.toNat s.1.2.1) (List.replicate (Int.toNat (((List.length c.2.1) : Nat) : Int)) (0 : Int))))))), ()))))))))))) (K s.2.1 ())))))))))) (((), ((0 : Int), ())), ((c.1, (c.2.1, (c.2.2.1, (c.2.2.2.1, (List.replicate (Int.toNat (((List.length c.2.1) : Nat) : Int)) ([] : List Int)))))), ())))))))
theorem w_impl_Category_table_ren (x : w0_impl_Category_table_ren.o.strip.den) (y : denL w0_impl_Category_table_ren.as) (K : CategoryD → (Unit) → Prop) : evFw tab (lkp [(38, c_impl_Category_arrows), (67, c_impl_Category_renumber_1)]) (cutL [(5, 507), (10, 14), (11, 12)]) Try.f66 (bodyOf Try.f66) (.s .n (.s .n (.s .n (.l [(0, (.ad 1000000 [.de])), (19, (.d (.int .i64)))] [(1000000, (.pt (.p (.fz (.int .i64)) (.p (.sl (.fz (.int .i64))) (.p (.sl (.fz (.int .i64))) (.p (.sl (.fz (.int .i64))) (.sl (.sl (.fz (.int .i64))))))))))] [1, 4, 18] (.s .n (.s .n (.s (.s .n (.s .n (.s .n (.l [(0, (.ad 1000000 [.de])), (38, (.d (.int .i64)))] [(1000000, (.pt (.p (.fz (.int .i64)) (.p (.sl (.fz (.int .i64))) (.p (.sl (.fz (.int .i64))) (.p (.sl (.fz (.int .i64))) (.sl (.sl (.fz (.int .i64))))))))))] [1, 4, 5, 18, 19, 37] (.s .n (.s .n (.s (.s .n (.s .n (.s .n (.j [(0, (.ad 1000000 [.de]))] [(1000000, (.pt (.p (.fz (.int .i64)) (.p (.sl (.fz (.int .i64))) (.p (.sl (.fz (.int .i64))) (.p (.sl (.fz (.int .i64))) (.sl (.sl (.fz (.int .i64))))))))))] [1, 4, 5, 18, 19, 37, 38] .n)))) .n))))))) .n))))))) w0_impl_Category_table_ren x y K = W_impl_Category_table_ren x y.1 K := by kernel_rfl
theorem k_impl_Category_table_ren : okC Try.f66.ntmps (cutL [(5, 507), (10, 14), (11, 12)]) (bodyOf Try.f66) = true := by kernel_rfl
theorem m_impl_Category_table_ren (c : CategoryD) (composite : (List Int) × (CategoryD × ((List Int) × Unit))) (hok : allP (w0_impl_Category_table_ren.o.strip.oks c)) (hok2 : allP (okL w0_impl_Category_table_ren.as (composite, ()))) (hpre : allP (w0_impl_Category_table_ren.pre c (composite, ()))) : W_impl_Category_table_ren c composite (fun z r => z = w0_impl_Category_table_ren.new c (composite, ()) ∧ r = w0_impl_Category_table_ren.res c (composite, ())) := by
  simp only [w0_impl_Category_table_ren, O.strip, okL, T.oks, T.ok, ap, allP, true_and, and_true, implies_true] at hok hok2 hpre
  try dsimp only [T.den] at hok
  try dsimp only [T.den] at hok2
  try dsimp only [T.den] at hpre
  unfold W_impl_Category_table_ren
  obtain ⟨a, d, b, u⟩ := composite
  have P : TabRP c a d b := hpre
  have S := P.sh
  have hmm := S.m
  have hlo := P.lo
  have hlt := P.lt
  have hlb := P.lb
  have hnew : ∀ z, z = tableR c (renFR a d b) → (c.1, c.2.1, c.2.2.1, c.2.2.2.1, z) = (c.1, c.2.1, c.2.2.1, c.2.2.2.1, tableR c (renFR a d b)) := fun z h => by rw [h]
  clear hok hpre
  try dsimp only
  have hR : tableR c (renFR a d b) = tabN c.2.1.length fun e => tabN c.2.1.length (tabFR c (renFR a d b) e) := rfl
  refine ⟨by omega, by omega, by omega, by omega, ?_⟩
  simp only [Int.toNat_natCast, tab_rep, tabN_len]
  generalize hn : c.2.1.length = n at *
  generalize hF : tabFR c (renFR a d b) = F at *
  refine loop_ixa (fun i => (c.1, c.2.1, c.2.2.1, c.2.2.2.1, tabN n fun e => if e < i then tabN n (F e) else [])) (n := n) (by omega) (congrArg (fun z => (c.1, c.2.1, c.2.2.1, c.2.2.2.1, z)) (tabN_congr fun e h0 _ => by rw [if_neg (by omega)])) ?_ ?_
  · intro i next i0 i1 hnx _ _ _ _ _ _
    try dsimp only
    refine cnd_d (fun _ => ⟨by omega, by omega, by omega, by omega, i0, by rw [tabN_len]; exact i1, i0, by rw [List.length_set, tabN_len]; exact i1, ?_⟩) (fun h => absurd i1 h)
    rw [tbT_0 i0 i1, tbT_row i0 i1, tabN_len]
    refine loop_ixa (fun j => (c.1, c.2.1, c.2.2.1, c.2.2.2.1, tbT F n i j)) (n := n) (by omega) rfl ?_ ?_
    · intro j next2 j0 j1 hn2 _ _ _ _ _ _
      try dsimp only
      have hr : ((tbT F n i j).getD i.toNat []).length = n := by rw [tbT_row i0 i1, tabN_len]
      have hA : i.toNat < (tbT F n i j).length := by rw [tbT_len]; omega
      have hs2 := @set_twice (tbT F n i j) i.toNat j.toNat (-1) (F i j) hA
      have hs1 := @tbT_s F n i j i0 i1 j0 j1
      have hrow : (((tbT F n i j).set i.toNat (((tbT F n i j).getD i.toNat []).set j.toNat (-1))).getD i.toNat []).length = n := by rw [set_getD _ _ _ _ _ hA, if_pos rfl, List.length_set, hr]
      refine cnd_d (fun _ => ⟨i0, by rw [tbT_len]; exact i1, j0, by rw [hr]; exact j1, i0, by omega, j0, by omega, ?_⟩) (fun h => absurd j1 h)
      refine join_of (fun s2 => s2.2.1 = (c.1, c.2.1, c.2.2.1, c.2.2.2.1, tbT F n i (j + 1))) (fun s2 hs _ _ _ _ _ => ⟨by rw [inK64]; (try dsimp only); omega, by rw [hs]; exact hn2⟩) (fun k hk => cnd_of (fun he => ?_) (fun he => hk _ ?_))
      · rw [beq_iff_eq] at he
        have hv : renFR a d b i j = F i j := by rw [← hF]; unfold tabFR; rw [if_pos he]
        refine ⟨i0, by rw [List.length_set, tbT_len]; exact i1, S, P.lb, P.wb, P.la, i0, by omega, j0, by omega, P.co i j i0 (by omega) j0 (by omega) he, j0, by rw [hrow]; exact j1, hk _ ?_⟩
        try dsimp only
        rw [hv, hs2, hs1]
      · have hv : F i j = -1 := by rw [← hF]; unfold tabFR; rw [if_neg (by intro h; rw [h] at he; simp at he)]
        try dsimp only
        rw [← hv, hs1]
    · intro next2 _ _ _ _ _ _
      try dsimp only
      refine cnd_d (fun h => absurd h (Int.lt_irrefl _)) (fun _ => ⟨by rw [inK64]; (try dsimp only); omega, ?_⟩)
      rw [tbT_n]; exact hnx
  · intro next _ _ _ _ _ _
    try dsimp only
    refine cnd_d (fun h => absurd h (Int.lt_irrefl _)) (fun _ => ⟨hnew _ ?_, rfl⟩)
    rw [hR]; exact tabN_congr fun e _ e1 => by rw [if_pos e1]
theorem ct_impl_Category_table_ren : CtOk Try.prog 66 c_impl_Category_table_ren :=
  wt_of (Φ := lkp [(38, c_impl_Category_arrows), (67, c_impl_Category_renumber_1)]) (good_cons ct_impl_Category_arrows (good_cons ct_impl_Category_renumber_1 good_nil)) tab_ok (by kernel_rfl) (fn := Try.f66) (c := bodyOf Try.f66) (by kernel_rfl) (by kernel_rfl) (by kernel_rfl) w0_impl_Category_table_ren (.s .n (.s .n (.s .n (.l [(0, (.ad 1000000 [.de])), (19, (.d (.int .i64)))] [(1000000, (.pt (.p (.fz (.int .i64)) (.p (.sl (.fz (.int .i64))) (.p (.sl (.fz (.int .i64))) (.p (.sl (.fz (.int .i64))) (.sl (.sl (.fz (.int .i64))))))))))] [1, 4, 18] (.s .n (.s .n (.s (.s .n (.s .n (.s .n (.l [(0, (.ad 1000000 [.de])), (38, (.d (.int .i64)))] [(1000000, (.pt (.p (.fz (.int .i64)) (.p (.sl (.fz (.int .i64))) (.p (.sl (.fz (.int .i64))) (.p (.sl (.fz (.int .i64))) (.sl (.sl (.fz (.int .i64))))))))))] [1, 4, 5, 18, 19, 37] (.s .n (.s .n (.s (.s .n (.s .n (.s .n (.j [(0, (.ad 1000000 [.de]))] [(1000000, (.pt (.p (.fz (.int .i64)) (.p (.sl (.fz (.int .i64))) (.p (.sl (.fz (.int .i64))) (.p (.sl (.fz (.int .i64))) (.sl (.sl (.fz (.int .i64))))))))))] [1, 4, 5, 18, 19, 37, 38] .n)))) .n))))))) .n))))))) (cutL [(5, 507), (10, 14), (11, 12)]) (by kernel_rfl) (by kernel_rfl) k_impl_Category_table_ren (by decide) (by kernel_rfl) (fun x y h1 h2 h3 => (w_impl_Category_table_ren x y _).mpr (m_impl_Category_table_ren x y.1 h1 h2 h3))
/-- where a number stands last -/
def lastR (l : List Int) (y : Int) : Nat → Int
  | 0 => 0
  | n + 1 => if l.getD n 0 = y then n else lastR l y n
def backR (l : List Int) : List Int := tabN l.length fun y => lastR l y l.length
theorem last_s {l : List Int} {y i : Int} (h0 : 0 ≤ i) : lastR l y (i + 1).toNat = if l.getD i.toNat 0 = y then i else lastR l y i.toNat := by
  rw [show (i + 1).toNat = i.toNat + 1 from by omega, lastR]
  split
  · omega
  · rfl

def c_impl_backwards : Ct := ⟨[(.sl (.int .i64))], [false], fun x => [x.1.length ≤ 40, withinR x.1 x.1.length = true], [(false, (.sl (.fz (.int .i64))))], fun x => (backR x.1, ()), false, none⟩
def W_impl_backwards (list : List Int) (K : (List Int) × Unit → Prop) : Prop := (((0 : Int) ≤ (((List.length list) : Nat) : Int)) ∧ (((((List.length list) : Nat) : Int) ≤ (((List.length list) : Nat) : Int)) ∧ (((((List.length list) : Nat) : Int) ≤ ((140737488355328 : Nat) : Int)) ∧ ((((((List.length list) : Nat) : Int) * ((8 : Nat) : Int)) ≤ ((140737488355328 : Nat) : Int)) ∧ (loopW (S := ((Unit × (Int × Unit)) × ((List Int) × Unit))) (fun s => (fun next => ((inK IntKind.i64 s.1.2.1) → ((T.ok (T.sl (T.int IntKind.i64)) s.2.1) → (cnd (decide (s.1.2.1 < (((List.length list) : Nat) : Int))) (((0 : Int) ≤ s.1.2.1) ∧ ((s.1.2.1 < (((List.length list) : Nat) : Int)) ∧ (((0 : Int) ≤ (List.getD list (Int.toNat s.1.2.1) (0 : Int))) ∧ (((List.getD list (Int.toNat s.1.2.1) (0 : Int)) < (((List.length s.2.1) : Nat) : Int)) ∧ ((inK IntKind.i64 (s.1.2.1 + (1 : Int))) ∧ (next (((), ((s.1.2.1 + (1 : Int)), ())), ((List.set s.2.1 (Int.toNat (List.getD list (Int.toNat s.1.2.1) (0 : Int))) s.1.2.1), ())))))))) (K (s.2.1, ()))))))) (((), ((0 : Int), ())), ((List.replicate (Int.toNat (((List.length list) : Nat) : Int)) (0 : Int)), ())))))))
theorem w_impl_backwards (x : denL c_impl_backwards.args) (K : (List Int) × Unit → Prop) : evF tab (lkp []) (cutL []) Try.f65 (bodyOf Try.f65) (.s .n (.s .n (.s (.s .n (.l [(3, (.ref 8 [])), (11, (.d (.int .i64)))] [(8, (.sl (.fz (.int .i64))))] [9, 10] .n)) .n))) c_impl_backwards x K = W_impl_backwards x.1 K := by kernel_rfl
theorem k_impl_backwards : okC Try.f65.ntmps (cutL []) (bodyOf Try.f65) = true := by kernel_rfl
theorem m_impl_backwards (list : List Int) (hok : allP (okL c_impl_backwards.args (list, ()))) (hpre : allP (c_impl_backwards.pre (list, ()))) : W_impl_backwards list (fun r => r = c_impl_backwards.res (list, ())) := by
  simp only [c_impl_backwards, okL, T.oks, T.ok, ap, allP, true_and, and_true, implies_true] at hok hpre
  try dsimp only [T.den] at hok
  try dsimp only [T.den] at hpre
  unfold W_impl_backwards
  obtain ⟨hl, hw⟩ := hpre
  have hw := within_iff.1 hw
  clear hok
  generalize hn : list.length = n at *
  refine ⟨by omega, by omega, by omega, by omega, ?_⟩
  simp only [Int.toNat_natCast, tab_rep]
  refine loop_ixa (fun i => tabN n fun y => lastR list y i.toNat) (n := n) (by omega) rfl ?_ ?_
  · intro i next i0 i1 hnx _ _
    try dsimp only
    have hy := hw i i0 i1
    simp only [last_s i0] at hnx
    refine cnd_d (fun _ => ⟨i0, by omega, hy.1, by rw [tabN_len]; exact hy.2, by rw [inK64]; (try dsimp only); omega, ?_⟩) (fun h => absurd i1 h)
    rw [tab_set hy.1 hy.2]
    refine (congrArg (fun z => next (((), (i + 1, ())), (z, ()))) (tabN_congr fun y _ _ => ?_)).mp hnx
    try dsimp only
    by_cases e : list.getD i.toNat 0 = y
    · rw [if_pos e, if_pos e.symm]
    · rw [if_neg e, if_neg fun h => e h.symm]
  · intro next _ _
    refine cnd_d (fun h => absurd h (by dsimp only; omega)) (fun _ => ?_)
    simp only [c_impl_backwards, backR, hn]
    rw [Int.toNat_natCast]
theorem ct_impl_backwards : CtOk Try.prog 65 c_impl_backwards :=
  ct_by (Φ := lkp []) good_nil tab_ok (by kernel_rfl) (fn := Try.f65) (c := bodyOf Try.f65) (by kernel_rfl) (by kernel_rfl) (by kernel_rfl) c_impl_backwards rfl (.s .n (.s .n (.s (.s .n (.l [(3, (.ref 8 [])), (11, (.d (.int .i64)))] [(8, (.sl (.fz (.int .i64))))] [9, 10] .n)) .n))) (cutL []) (by kernel_rfl) (by kernel_rfl) k_impl_backwards (by decide) (fun x K => W_impl_backwards x.1 K) w_impl_backwards (fun x h1 h2 => m_impl_backwards x.1 h1 h2)
def c_spec_l19Back : Ct := ⟨[(.sl (.int .i64))], [false], fun x => [x.1.length ≤ 40, withinR x.1 x.1.length = true], [(false, (.sl (.fz (.int .i64))))], fun x => (backR x.1, ()), false, none⟩
def W_spec_l19Back (part : List Int) (K : (List Int) × Unit → Prop) : Prop := (((0 : Int) ≤ (((List.length part) : Nat) : Int)) ∧ (((((List.length part) : Nat) : Int) ≤ (((List.length part) : Nat) : Int)) ∧ (((((List.length part) : Nat) : Int) ≤ ((140737488355328 : Nat) : Int)) ∧ ((((((List.length part) : Nat) : Int) * ((8 : Nat) : Int)) ≤ ((140737488355328 : Nat) : Int)) ∧ (loopW (S := ((Unit × (Int × Unit)) × ((List Int) × Unit))) (fun s => (fun next => ((inK IntKind.i64 s.1.2.1) → ((T.ok (T.sl (T.int IntKind.i64)) s.2.1) → (cnd (decide (s.1.2.1 < (((List.length part) : Nat) : Int))) (((0 : Int) ≤ s.1.2.1) ∧ ((s.1.2.1 < (((List.length part) : Nat) : Int)) ∧ (((0 : Int) ≤ (List.getD part (Int.toNat s.1.2.1) (0 : Int))) ∧ (((List.getD part (Int.toNat s.1.2.1) (0 : Int)) < (((List.length s.2.1) : Nat) : Int)) ∧ ((inK IntKind.i64 (s.1.2.1 + (1 : Int))) ∧ (next (((), ((s.1.2.1 + (1 : Int)), ())), ((List.set s.2.1 (Int.toNat (List.getD part (Int.toNat s.1.2.1) (0 : Int))) s.1.2.1), ())))))))) (K (s.2.1, ()))))))) (((), ((0 : Int), ())), ((List.replicate (Int.toNat (((List.length part) : Nat) : Int)) (0 : Int)), ())))))))
theorem w_spec_l19Back (x : denL c_spec_l19Back.args) (K : (List Int) × Unit → Prop) : evF tab (lkp []) (cutL []) Try.f60 (bodyOf Try.f60) (.s .n (.s .n (.s (.s .n (.l [(3, (.ref 7 [])), (4, (.d (.int .i64)))] [(7, (.sl (.fz (.int .i64))))] [0] .n)) .n))) c_spec_l19Back x K = W_spec_l19Back x.1 K := by kernel_rfl
theorem k_spec_l19Back : okC Try.f60.ntmps (cutL []) (bodyOf Try.f60) = true := by kernel_rfl
theorem m_spec_l19Back (part : List Int) (hok : allP (okL c_spec_l19Back.args (part, ()))) (hpre : allP (c_spec_l19Back.pre (part, ()))) : W_spec_l19Back part (fun r => r = c_spec_l19Back.res (part, ())) := by
  simp only [c_spec_l19Back, okL, T.oks, T.ok, ap, allP, true_and, and_true, implies_true] at hok hpre
  try dsimp only [T.den] at hok
  try dsimp only [T.den] at hpre
  unfold W_spec_l19Back
  obtain ⟨hl, hw⟩ := hpre
  have hw := within_iff.1 hw
  clear hok
  generalize hn : part.length = n at *
  refine ⟨by omega, by omega, by omega, by omega, ?_⟩
  simp only [Int.toNat_natCast, tab_rep]
  refine loop_ixa (fun i => tabN n fun y => lastR part y i.toNat) (n := n) (by omega) rfl ?_ ?_
  · intro i next i0 i1 hnx _ _
    try dsimp only
    have hy := hw i i0 i1
    simp only [last_s i0] at hnx
    refine cnd_d (fun _ => ⟨i0, by omega, hy.1, by rw [tabN_len]; exact hy.2, by rw [inK64]; (try dsimp only); omega, ?_⟩) (fun h => absurd i1 h)
    rw [tab_set hy.1 hy.2]
    refine (congrArg (fun z => next (((), (i + 1, ())), (z, ()))) (tabN_congr fun y _ _ => ?_)).mp hnx
    try dsimp only
    by_cases e : part.getD i.toNat 0 = y
    · rw [if_pos e, if_pos e.symm]
    · rw [if_neg e, if_neg fun h => e h.symm]
  · intro next _ _
    refine cnd_d (fun h => absurd h (by dsimp only; omega)) (fun _ => ?_)
    simp only [c_spec_l19Back, backR, hn]
    rw [Int.toNat_natCast]
theorem ct_spec_l19Back : CtOk Try.prog 60 c_spec_l19Back :=
  ct_by (Φ := lkp []) good_nil tab_ok (by kernel_rfl) (fn := Try.f60) (c := bodyOf Try.f60) (by kernel_rfl) (by kernel_rfl) (by kernel_rfl) c_spec_l19Back rfl (.s .n (.s .n (.s (.s .n (.l [(3, (.ref 7 [])), (4, (.d (.int .i64)))] [(7, (.sl (.fz (.int .i64))))] [0] .n)) .n))) (cutL []) (by kernel_rfl) (by kernel_rfl) k_spec_l19Back (by decide) (fun x K => W_spec_l19Back x.1 K) w_spec_l19Back (fun x h1 h2 => m_spec_l19Back x.1 h1 h2)
def c_impl_marked : Ct := ⟨[(.sl .bool)], [false], fun x => [x.1.length ≤ 1099511627776], [(false, (.sl (.fz (.int .i64))))], fun x => (selR x.1.length (fun i => x.1.getD i.toNat false), ()), false, none⟩
def W_impl_marked (there : List Bool) (K : (List Int) × Unit → Prop) : Prop := (loopW (S := ((Unit × (Int × Unit)) × ((List Int) × Unit))) (fun s => (fun next => ((inK IntKind.i64 s.1.2.1) → ((T.ok (T.sl (T.int IntKind.i64)) s.2.1) → (cnd (decide (s.1.2.1 < (((List.length there) : Nat) : Int))) (((0 : Int) ≤ s.1.2.1) ∧ ((s.1.2.1 < (((List.length there) : Nat) : Int)) ∧ (joinW (S := ((Unit × Unit) × ((List Int) × Unit))) (fun s1 => ((T.ok (T.sl (T.int IntKind.i64)) s1.2.1) → ((inK IntKind.i64 (s.1.2.1 + (1 : Int))) ∧ (next (((), ((s.1.2.1 + (1 : Int)), ())), (s1.2.1, ())))))) (fun k => (cnd (List.getD there (Int.toNat s.1.2.1) Bool.false) ((room (List.length s.2.1) (List.length (s.1.2.1 :: ([] : List Int))) 8) ∧ (k (((), ()), ((s.2.1 ++ (s.1.2.1 :: ([] : List Int))), ())))) (k (((), ()), (s.2.1, ())))))))) (K (s.2.1, ()))))))) (((), ((0 : Int), ())), (([] : List Int), ())))
theorem w_impl_marked (x : denL c_impl_marked.args) (K : (List Int) × Unit → Prop) : evF tab (lkp []) (cutL []) Try.f88 (bodyOf Try.f88) (.s .n (.s .n (.s (.s .n (.l [(3, (.ref 800003 [])), (9, (.d (.int .i64)))] [(800003, (.sl (.fz (.int .i64))))] [7, 8] (.s .n (.s .n (.s (.s .n (.s .n (.j [(3, (.ref 800003 []))] [(800003, (.sl (.fz (.int .i64))))] [7, 8, 9] .n))) .n))))) .n))) c_impl_marked x K = W_impl_marked x.1 K := by kernel_rfl
theorem k_impl_marked : okC Try.f88.ntmps (cutL []) (bodyOf Try.f88) = true := by kernel_rfl
theorem m_impl_marked (there : List Bool) (hok : allP (okL c_impl_marked.args (there, ()))) (hpre : allP (c_impl_marked.pre (there, ()))) : W_impl_marked there (fun r => r = c_impl_marked.res (there, ())) := by
  simp only [c_impl_marked, okL, T.oks, T.ok, ap, allP, true_and, and_true, implies_true] at hok hpre
  try dsimp only [T.den] at hok
  try dsimp only [T.den] at hpre
  unfold W_impl_marked
  have hm : there.length ≤ 1099511627776 := hpre
  refine loop_of (fun (s : ((Unit × (Int × Unit)) × ((List Int) × Unit))) => 0 ≤ s.1.2.1 ∧ s.1.2.1 ≤ there.length ∧ s.2.1 = selR s.1.2.1.toNat fun i => there.getD i.toNat false) (fun (s : ((Unit × (Int × Unit)) × ((List Int) × Unit))) => (there.length - s.1.2.1).toNat) ?_ ⟨by simp, by simp, rfl⟩
  rintro ⟨⟨_, i, _⟩, l, _⟩ next ⟨h0, h1, h2⟩ hn hin hl
  try dsimp only at h0 h1 h2 hn ⊢
  subst h2
  refine cnd_d (fun hc => ⟨h0, hc, join_of (fun s1 => s1.2.1 = selR (i + 1).toNat fun i => there.getD i.toNat false) (fun s1 hs _ => ⟨by rw [inK64]; (try dsimp only); omega, hn _ ⟨(by first | omega | (dsimp only; omega)), (by first | omega | (dsimp only; omega)), hs⟩ (by first | omega | (dsimp only; omega))⟩) (fun k hk => cnd_of (fun hx => ⟨?_, hk _ ?_⟩) (fun hx => hk _ ?_))⟩) (fun hc => ?_)
  · have := sel_len (p := fun i => there.getD i.toNat false) i.toNat
    unfold room
    rw [nb_eq]
    have h3 : (i :: ([] : List Int)).length = 1 := rfl
    rw [h3]
    omega
  · exact (sel_t h0 hx).symm
  · exact (sel_f h0 hx).symm
  · have e1 : i.toNat = there.length := by omega
    simp only [c_impl_marked]
    rw [e1]
theorem ct_impl_marked : CtOk Try.prog 88 c_impl_marked :=
  ct_by (Φ := lkp []) good_nil tab_ok (by kernel_rfl) (fn := Try.f88) (c := bodyOf Try.f88) (by kernel_rfl) (by kernel_rfl) (by kernel_rfl) c_impl_marked rfl (.s .n (.s .n (.s (.s .n (.l [(3, (.ref 800003 [])), (9, (.d (.int .i64)))] [(800003, (.sl (.fz (.int .i64))))] [7, 8] (.s .n (.s .n (.s (.s .n (.s .n (.j [(3, (.ref 800003 []))] [(800003, (.sl (.fz (.int .i64))))] [7, 8, 9] .n))) .n))))) .n))) (cutL []) (by kernel_rfl) (by kernel_rfl) k_impl_marked (by decide) (fun x K => W_impl_marked x.1 K) w_impl_marked (fun x h1 h2 => m_impl_marked x.1 h1 h2)
def hasR (l : List Int) (n : Int) : Bool := l.any fun x => x == n

def imageR (n : Int) (l : List Int) : List Int := selR n.toNat fun y => hasR l y
theorem has_app {l r : List Int} {y : Int} : hasR (l ++ r) y = (hasR l y || hasR r y) := by simp [hasR]

def c_impl_image : Ct := ⟨[(.int .i64), (.sl (.int .i64))], [false, false], fun x => [0 ≤ x.1, x.1 ≤ 256, withinR x.2.1 x.1 = true], [(false, (.sl (.fz (.int .i64))))], fun x => (imageR x.1 x.2.1, ()), false, none⟩
def W_impl_image (n : Int) (f : List Int) (K : (List Int) × Unit → Prop) : Prop := (((0 : Int) ≤ n) ∧ ((n ≤ n) ∧ ((n ≤ ((140737488355328 : Nat) : Int)) ∧ (((n * ((1 : Nat) : Int)) ≤ ((140737488355328 : Nat) : Int)) ∧ (loopW (S := ((Unit × (Int × Unit)) × ((List Bool) × Unit))) (fun s => (fun next => ((inK IntKind.i64 s.1.2.1) → ((T.ok (T.sl T.bool) s.2.1) → (cnd (decide (s.1.2.1 < (((List.length f) : Nat) : Int))) (((0 : Int) ≤ s.1.2.1) ∧ ((s.1.2.1 < (((List.length f) : Nat) : Int)) ∧ (((0 : Int) ≤ (List.getD f (Int.toNat s.1.2.1) (0 : Int))) ∧ (((List.getD f (Int.toNat s.1.2.1) (0 : Int)) < (((List.length s.2.1) : Nat) : Int)) ∧ ((inK IntKind.i64 (s.1.2.1 + (1 : Int))) ∧ (next (((), ((s.1.2.1 + (1 : Int)), ())), ((List.set s.2.1 (Int.toNat (List.getD f (Int.toNat s.1.2.1) (0 : Int))) Bool.true), ())))))))) (((List.length s.2.1) ≤ 1099511627776) ∧ (K ((selR (List.length s.2.1) (fun i => (List.getD s.2.1 (Int.toNat i) Bool.false))), ())))))))) (((), ((0 : Int), ())), ((List.replicate (Int.toNat n) Bool.false), ())))))))
theorem w_impl_image (x : denL c_impl_image.args) (K : (List Int) × Unit → Prop) : evF tab (lkp [(88, c_impl_marked)]) (cutL []) Try.f64 (bodyOf Try.f64) (.s .n (.s .n (.s (.s .n (.l [(5, (.ref 9 [])), (12, (.d (.int .i64)))] [(9, (.sl (.fz .bool)))] [10, 11] .n)) .n))) c_impl_image x K = W_impl_image x.1 x.2.1 K := by kernel_rfl
theorem k_impl_image : okC Try.f64.ntmps (cutL []) (bodyOf Try.f64) = true := by kernel_rfl
theorem m_impl_image (n : Int) (f : List Int) (hok : allP (okL c_impl_image.args (n, f, ()))) (hpre : allP (c_impl_image.pre (n, f, ()))) : W_impl_image n f (fun r => r = c_impl_image.res (n, f, ())) := by
  simp only [c_impl_image, okL, T.oks, T.ok, ap, allP, true_and, and_true, implies_true] at hok hpre
  try dsimp only [T.den] at hok
  try dsimp only [T.den] at hpre
  unfold W_impl_image
  have hn0 : 0 ≤ n := hpre.1
  have hn1 : n ≤ 256 := hpre.2.1
  have hw := within_iff.1 hpre.2.2
  have hl : f.length ≤ 140737488355328 := by simp only [nb_eq] at hok; omega
  refine ⟨hn0, Int.le_refl _, by omega, by omega, ?_⟩
  refine loop_of (fun (s : ((Unit × (Int × Unit)) × ((List Bool) × Unit))) => 0 ≤ s.1.2.1 ∧ s.1.2.1 ≤ f.length ∧ s.2.1.length = n.toNat ∧ ∀ y : Int, 0 ≤ y → y < n → s.2.1.getD y.toNat false = hasR (f.take s.1.2.1.toNat) y) (fun (s : ((Unit × (Int × Unit)) × ((List Bool) × Unit))) => (f.length - s.1.2.1).toNat) ?_ ⟨by simp, by simp, by simp, fun y y0 y1 => ?_⟩
  · rintro ⟨⟨_, i, _⟩, l, _⟩ next ⟨h0, h1, h2, h3⟩ hn hin hok2
    try dsimp only at h0 h1 h2 h3 hn ⊢
    refine cnd_d (fun hc => ?_) (fun hc => ?_)
    · have hf := hw i h0 hc
      refine ⟨h0, hc, hf.1, by omega, by rw [inK64]; (try dsimp only); omega, hn _ ⟨(by first | omega | (dsimp only; omega)), (by first | omega | (dsimp only; omega)), by simp [h2], fun y y0 y1 => ?_⟩ (by first | omega | (dsimp only; omega))⟩
      try dsimp only
      rw [set_getD _ _ _ _ _ (by omega), take_c f 0 h0 hc, has_app, ← h3 y y0 y1]
      by_cases e : f.getD i.toNat 0 = y
      · rw [if_pos (by rw [e])]; simp only [hasR, List.any_cons, List.any_nil, e, beq_self_eq_true, Bool.true_or, Bool.or_true]
      · rw [if_neg (by omega)]; simp only [hasR, List.any_cons, List.any_nil, beq_eq_false_iff_ne.2 e, Bool.or_false]
    · rw [take_n f (by omega)] at h3
      refine ⟨by omega, ?_⟩
      simp only [c_impl_image, imageR, h2]
      rw [sel_congr fun i i0 i1 => h3 i i0 (by omega)]
  · try dsimp only
    rw [List.getD_eq_getElem?_getD, List.getElem?_replicate]
    simp only [hasR]
    split <;> simp
theorem ct_impl_image : CtOk Try.prog 64 c_impl_image :=
  ct_by (Φ := lkp [(88, c_impl_marked)]) (good_cons ct_impl_marked good_nil) tab_ok (by kernel_rfl) (fn := Try.f64) (c := bodyOf Try.f64) (by kernel_rfl) (by kernel_rfl) (by kernel_rfl) c_impl_image rfl (.s .n (.s .n (.s (.s .n (.l [(5, (.ref 9 [])), (12, (.d (.int .i64)))] [(9, (.sl (.fz .bool)))] [10, 11] .n)) .n))) (cutL []) (by kernel_rfl) (by kernel_rfl) k_impl_image (by decide) (fun x K => W_impl_image x.1 x.2.1 K) w_impl_image (fun x h1 h2 => m_impl_image x.1 x.2.1 h1 h2)
def bijR (l : List Int) (n : Int) : Bool := ((l.length : Int) == n) && withinR l n && (((imageR n l).length : Int) == n)

def c_impl_isBijective : Ct := ⟨[(.sl (.int .i64)), (.int .i64)], [false, false], fun x => [0 ≤ x.2.1, x.2.1 ≤ 256], [(false, (.fz .bool))], fun x => (bijR x.1 x.2.1, ()), false, none⟩
def W_impl_isBijective (list : List Int) (n : Int) (K : Bool × Unit → Prop) : Prop := (((((((List.length list) : Nat) : Int) == n) = Bool.true) → (inK IntKind.i64 (n - (1 : Int)))) ∧ ((((((((List.length list) : Nat) : Int) == n) && (withinR list n)) = Bool.true) → ((n ≤ (256 : Int)) ∧ (((withinR list n) = Bool.true) ∧ ((0 : Int) ≤ n)))) ∧ (K (((((((List.length list) : Nat) : Int) == n) && (withinR list n)) && ((((List.length (imageR n list)) : Nat) : Int) == n)), ()))))
theorem w_impl_isBijective (x : denL c_impl_isBijective.args) (K : Bool × Unit → Prop) : evF tab (lkp [(64, c_impl_image), (63, c_impl_within)]) (cutL []) Try.f37 (bodyOf Try.f37) .n c_impl_isBijective x K = W_impl_isBijective x.1 x.2.1 K := by kernel_rfl
theorem k_impl_isBijective : okC Try.f37.ntmps (cutL []) (bodyOf Try.f37) = true := by kernel_rfl
theorem m_impl_isBijective (list : List Int) (n : Int) (hok : allP (okL c_impl_isBijective.args (list, n, ()))) (hpre : allP (c_impl_isBijective.pre (list, n, ()))) : W_impl_isBijective list n (fun r => r = c_impl_isBijective.res (list, n, ())) := by
  simp only [c_impl_isBijective, okL, T.oks, T.ok, ap, allP, true_and, and_true, implies_true] at hok hpre
  try dsimp only [T.den] at hok
  try dsimp only [T.den] at hpre
  unfold W_impl_isBijective
  have hn0 : 0 ≤ n := hpre.1
  have hn1 : n ≤ 256 := hpre.2
  exact ⟨fun _ => by rw [inK64]; (try dsimp only); omega, fun h => ⟨hn1, (Bool.and_eq_true _ _ ▸ h).2, hn0⟩, rfl⟩
theorem ct_impl_isBijective : CtOk Try.prog 37 c_impl_isBijective :=
  ct_by (Φ := lkp [(64, c_impl_image), (63, c_impl_within)]) (good_cons ct_impl_image (good_cons ct_impl_within good_nil)) tab_ok (by kernel_rfl) (fn := Try.f37) (c := bodyOf Try.f37) (by kernel_rfl) (by kernel_rfl) (by kernel_rfl) c_impl_isBijective rfl .n (cutL []) (by kernel_rfl) (by kernel_rfl) k_impl_isBijective (by decide) (fun x K => W_impl_isBijective x.1 x.2.1 K) w_impl_isBijective (fun x h1 h2 => m_impl_isBijective x.1 x.2.1 h1 h2)
theorem last_hit {l : List Int} {y : Int} : ∀ {m : Nat}, (∃ i : Nat, i < m ∧ l.getD i 0 = y) → 0 ≤ lastR l y m ∧ lastR l y m < m ∧ l.getD (lastR l y m).toNat 0 = y
  | 0, ⟨i, h, _⟩ => by omega
  | m + 1, ⟨i, h, e⟩ => by
    unfold lastR
    by_cases h1 : l.getD m 0 = y
    · rw [if_pos h1]; exact ⟨by omega, by omega, by rw [Int.toNat_natCast]; exact h1⟩
    · rw [if_neg h1]
      have hi : i < m := by
        rcases Nat.lt_or_ge i m with h2 | h2
        · exact h2
        · exact absurd (by rw [show m = i from by omega]; exact e) h1
      have := last_hit (l := l) (y := y) (m := m) ⟨i, hi, e⟩
      exact ⟨this.1, by have h2 := this.2.1; omega, this.2.2⟩
theorem sel_full {p : Int → Bool} : ∀ {n : Nat}, (selR n p).length = n → ∀ y : Int, 0 ≤ y → y < n → p y = true
  | 0, _, y, h0, h1 => by omega
  | n + 1, h, y, h0, h1 => by
    have hl := sel_len (p := p) n
    unfold selR at h
    split at h
    · rename_i hp
      rw [List.length_append] at h
      simp only [List.length_cons, List.length_nil] at h
      by_cases e : y = n
      · rw [e]; exact hp
      · exact sel_full (n := n) (by omega) y h0 (by omega)
    · omega
theorem bij_len {l : List Int} {n : Int} (h : bijR l n = true) : (l.length : Int) = n ∧ withinR l n = true := by
  simp only [bijR, Bool.and_eq_true, beq_iff_eq] at h; exact h.1
theorem bij_hit {l : List Int} {n : Int} (h : bijR l n = true) {y : Int} (y0 : 0 ≤ y) (y1 : y < n) : ∃ i : Nat, i < l.length ∧ l.getD i 0 = y := by
  simp only [bijR, Bool.and_eq_true, beq_iff_eq] at h
  have hs := sel_full (p := fun y => hasR l y) (n := n.toNat) (by have := h.2; unfold imageR at this; omega) y y0 (by omega)
  have hm : y ∈ l := by simpa [hasR] using hs
  obtain ⟨i, hi, e⟩ := List.getElem_of_mem hm
  exact ⟨i, hi, by rw [List.getD_eq_getElem?_getD, List.getElem?_eq_getElem hi]; exact e⟩
def renB (a : List Int) (k : Int) : Int := (backR a).getD k.toNat 0
theorem ren_hit {l : List Int} {n : Int} (h : bijR l n = true) {y : Int} (y0 : 0 ≤ y) (y1 : y < n) : 0 ≤ renB l y ∧ renB l y < n ∧ l.getD (renB l y).toNat 0 = y := by
  have hl := (bij_len h).1
  have := last_hit (m := l.length) (bij_hit h y0 y1)
  unfold renB backR
  rw [tabN_get y0 (by omega)]
  exact ⟨this.1, by omega, this.2.2⟩
def renCR (a : List Int) (c : CategoryD) (f g : Int) : Int := if 0 ≤ compR c (renB a f) (renB a g) then a.getD (compR c (renB a f) (renB a g)).toNat 0 else compR c (renB a f) (renB a g)
def renumR (c : CategoryD) (o a : List Int) : CategoryD := (c.1, (tabN a.length fun k => o.getD (c.2.1.getD (renB a k).toNat 0).toNat 0), (tabN a.length fun k => o.getD (c.2.2.1.getD (renB a k).toNat 0).toNat 0), (tabN o.length fun x => a.getD (c.2.2.2.1.getD (renB o x).toNat 0).toNat 0), tabN a.length fun f => tabN a.length fun g => renCR a c f g)

def c_spec_l10Renumber : Ct := ⟨[CategoryT, (.sl (.int .i64)), (.sl (.int .i64))], [true, false, false], fun x => [ShapeP x.1, bijR x.2.1 x.1.1 = true, bijR x.2.2.1 x.1.2.1.length = true], [(true, CategoryO)], fun x => (renumR x.1 x.2.1 x.2.2.1, ()), false, none⟩
def W_spec_l10Renumber (c : CategoryD) (objects : List Int) (arrows : List Int) (K : CategoryD × Unit → Prop) : Prop := (((List.length objects) ≤ 40) ∧ (((withinR objects (((List.length objects) : Nat) : Int)) = Bool.true) ∧ (((List.length arrows) ≤ 40) ∧ (((withinR arrows (((List.length arrows) : Nat) : Int)) = Bool.true) ∧ (loopW (S := ((Unit × (Unit × (Int × Unit))) × ((Int × ((List Int) × ((List Int) × ((List Int) × (List (List Int)))))) × ((Int × ((List Int) × ((List Int) × ((List Int) × (List (List Int)))))) × Unit)))) (fun s => (fun next => ((inK IntKind.i64 s.1.2.2.1) → ((inK IntKind.i64 s.2.1.1) → ((T.ok (T.sl (T.int IntKind.i64)) s.2.1.2.1) → ((T.ok (T.sl (T.int IntKind.i64)) s.2.1.2.2.1) → ((T.ok (T.sl (T.int IntKind.i64)) s.2.1.2.2.2.1) → ((T.ok (T.sl (T.sl (T.int IntKind.i64))) s.2.1.2.2.2.2) → ((inK IntKind.i64 s.2.2.1.1) → ((T.ok (T.sl (T.int IntKind.i64)) s.2.2.1.2.1) → ((T.ok (T.sl (T.int IntKind.i64)) s.2.2.1.2.2.1) → ((T.ok (T.sl (T.int IntKind.i64)) s.2.2.1.2.2.2.1) → ((T.ok (T.sl (T.sl (T.int IntKind.i64))) s.2.2.1.2.2.2.2) → (cnd (decide (s.1.2.2.1 < (((List.length (backR objects)) : Nat) : Int))) (((0 : Int) ≤ s.1.2.2.1) ∧ ((s.1.2.2.1 < (((List.length (backR objects)) : Nat) : Int)) ∧ (((0 : Int) ≤ (List.getD (backR objects) (Int.toNat s.1.2.2.1) (0 : Int))) ∧ (((List.getD (backR objects) (Int.toNat s.1.2.2.1) (0 : Int)) < (((List.length c.2.2.2.1) : Nat) : Int)) ∧ (((0 : Int) ≤ (List.getD c.2.2.2.1 (Int.toNat (List.getD (backR objects) (Int.toNat s.1.2.2.1) (0 : Int))) (0 : Int))) ∧ (((List.getD c.2.2.2.1 (Int.toNat (List.getD (backR objects) (Int.toNat s.1.2.2.1) (0 : Int))) (0 : Int)) < (((List.length arrows) : Nat) : Int)) ∧ ((room (List.length s.2.2.1.2.2.2.1) (List.length ((List.getD arrows (Int.toNat (List.getD c.2.2.2.1 (Int.toNat (List.getD (backR objects) (Int.toNat s.1.2.2.1) (0 : Int))) (0 : Int))) (0 : Int)) :: ([] : List Int))) 8) ∧ ((inK IntKind.i64 (s.1.2.2.1 + (1 : Int))) ∧ (next (((), ((), ((s.1.2.2.1 + (1 : Int)), ()))), (s.2.1, ((s.2.2.1.1, (s.2.2.1.2.1, (s.2.2.1.2.2.1, ((s.2.2.1.2.2.2.1 ++ ((List.getD arrows (Int.toNat (List.getD c.2.2.2.1 (Int.toNat (List.getD (backR objects) (Int.toNat s.1.2.2.1) (0 : Int))) (0 : Int))) (0 : Int)) :: ([] : List Int))), s.2.2.1.2.2.2.2)))), ())))))))))))) (loopW (S := ((Unit × (Unit × (Int × Unit))) × ((Int × ((List Int) × ((List Int) × ((List Int) × (List (List Int)))))) × ((Int × ((List Int) × ((List Int) × ((List Int) × (List (List Int)))))) × Unit)))) (fun s1 => (fun next1 => ((inK IntKind.i64 s1.1.2.2.1) → ((inK IntKind.i64 s1.2.1.1) → ((T.ok (T.sl (T.int IntKind.i64)) s1.2.1.2.1) → ((T.ok (T.sl (T.int IntKind.i64)) s1.2.1.2.2.1) → ((T.ok (T.sl (T.int IntKind.i64)) s1.2.1.2.2.2.1) → ((T.ok (T.sl (T.sl (T.int IntKind.i64))) s1.2.1.2.2.2.2) → ((inK IntKind.i64 s1.2.2.1.1) → ((T.ok (T.sl (T.int IntKind.i64)) s1.2.2.1.2.1) → ((T.ok (T.sl (T.int IntKind.i64)) s1.2.2.1.2.2.1) → ((T.ok (T.sl (T.int IntKind.i64)) s1.2.2.1.2.2.2.1) → ((T.ok (T.sl (T.sl (T.int IntKind.i64))) s1.2.2.1.2.2.2.2) → (cnd (decide (s1.1.2.2.1 < (((List.length (backR arrows)) : Nat) : Int))) (((0 : Int) ≤ s1.1.2.2.1) ∧ ((s1.1.2.2.1 < (((List.length (backR arrows)) : Nat) : Int)) ∧ (((0 : Int) ≤ (List.getD (backR arrows) (Int.toNat s1.1.2.2.1) (0 : Int))) ∧ (((List.getD (backR arrows) (Int.toNat s1.1.2.2.1) (0 : Int)) < (((List.length c.2.1) : Nat) : Int)) ∧ (((0 : Int) ≤ (List.getD c.2.1 (Int.toNat (List.getD (backR arrows) (Int.toNat s1.1.2.2.1) (0 : Int))) (0 : Int))) ∧ (((List.getD c.2.1 (Int.toNat (List.getD (backR arrows) (Int.toNat s1.1.2.2.1) (0 : Int))) (0 : Int)) < (((List.length objects) : Nat) : Int)) ∧ ((room (List.length s1.2.2.1.2.1) (List.length ((List.getD objects (Int.toNat (List.getD c.2.1 (Int.toNat (List.getD (backR arrows) (Int.toNat s1.1.2.2.1) (0 : Int))) (0 : Int))) (0 : Int)) :: ([] : List Int))) 8) ∧ (((0 : Int) ≤ s1.1.2.2.1) ∧ ((s1.1.2.2.1 < (((List.length (backR arrows)) : Nat) : Int)) ∧ (((0 : Int) ≤ (List.getD (backR arrows) (Int.toNat s1.1.2.2.1) (0 : Int))) ∧ (((List.getD (backR arrows) (Int.toNat s1.1.2.2.1) (0 : Int)) < (((List.length c.2.2.1) : Nat) : Int)) ∧ (((0 : Int) ≤ (List.getD c.2.2.1 (Int.toNat (List.getD (backR arrows) (Int.toNat s1.1.2.2.1) (0 : Int))) (0 : Int))) ∧ (((List.getD c.2.2.1 (Int.toNat (List.getD (backR arrows) (Int.toNat s1.1.2.2.1) (0 : Int))) (0 : Int)) < (((List.length objects) : Nat) : Int)) ∧ ((room (List.length s1.2.2.1.2.2.1) (List.length ((List.getD objects (Int.toNat (List.getD c.2.2.1 (Int.toNat (List.getD (backR arrows) (Int.toNat s1.1.2.2.1) (0 : Int))) (0 : Int))) (0 : Int)) :: ([] : List Int))) 8) ∧ (loopW (S := ((Unit × (Unit × (Unit × (Int × Unit)))) × ((Int × ((List Int) × ((List Int) × ((List Int) × (List (List Int)))))) × ((Int × ((List Int) × ((List Int) × ((List Int) × (List (List Int)))))) × ((List Int) × Unit))))) (fun s2 => (fun next2 => ((inK IntKind.i64 s2.1.2.2.2.1) → ((inK IntKind.i64 s2.2.1.1) → ((T.ok (T.sl (T.int IntKind.i64)) s2.2.1.2.1) → ((T.ok (T.sl (T.int IntKind.i64)) s2.2.1.2.2.1) → ((T.ok (T.sl (T.int IntKind.i64)) s2.2.1.2.2.2.1) → ((T.ok (T.sl (T.sl (T.int IntKind.i64))) s2.2.1.2.2.2.2) → ((inK IntKind.i64 s2.2.2.1.1) → ((T.ok (T.sl (T.int IntKind.i64)) s2.2.2.1.2.1) → ((T.ok (T.sl (T.int IntKind.i64)) s2.2.2.1.2.2.1) → ((T.ok (T.sl (T.int IntKind.i64)) s2.2.2.1.2.2.2.1) → ((T.ok (T.sl (T.sl (T.int IntKind.i64))) s2.2.2.1.2.2.2.2) → ((T.ok (T.sl (T.int IntKind.i64)) s2.2.2.2.1) → (cnd (decide (s2.1.2.2.2.1 < (((List.length (backR arrows)) : Nat) : Int))) (((0 : Int) ≤ s1.1.2.2.1) ∧ ((s1.1.2.2.1 < (((List.length (backR arrows)) : Nat) : Int)) ∧ (((0 : Int) ≤ (List.getD (backR arrows) (Int.toNat s1.1.2.2.1) (0 : Int))) ∧ (((List.getD (backR arrows) (Int.toNat s1.1.2.2.1) (0 : Int)) < (((List.length c.2.2.2.2) : Nat) : Int)) ∧ (((0 : Int) ≤ s2.1.2.2.2.1) ∧ ((s2.1.2.2.2.1 < (((List.length (backR arrows)) : Nat) : Int)) ∧ (((0 : Int) ≤ (List.getD (backR arrows) (Int.toNat s2.1.2.2.2.1) (0 : Int))) ∧ (((List.getD (backR arrows) (Int.toNat s2.1.2.2.2.1) (0 : Int)) < (((List.length (List.getD c.2.2.2.2 (Int.toNat (List.getD (backR arrows) (Int.toNat s1.1.2.2.1) (0 : Int))) ([] : List Int))) : Nat) : Int)) ∧ (joinW (S := ((Unit × (Unit × (Unit × (Int × Unit)))) × ((Int × ((List Int) × ((List Int) × ((List Int) × (List (List Int)))))) × ((Int × ((List Int) × ((List Int) × ((List Int) × (List (List Int)))))) × ((List Int) × Unit))))) (fun s3 => ((inK IntKind.i64 s3.1.2.2.2.1) → ((inK IntKind.i64 s3.2.1.1) → ((T.ok (T.sl (T.int IntKind.i64)) s3.2.1.2.1) → ((T.ok (T.sl (T.int IntKind.i64)) s3.2.1.2.2.1) → ((T.ok (T.sl (T.int IntKind.i64)) s3.2.1.2.2.2.1) → ((T.ok (T.sl (T.sl (T.int IntKind.i64))) s3.2.1.2.2.2.2) → ((inK IntKind.i64 s3.2.2.1.1) → ((T.ok (T.sl (T.int IntKind.i64)) s3.2.2.1.2.1) → ((T.ok (T.sl (T.int IntKind.i64)) s3.2.2.1.2.2.1) → ((T.ok (T.sl (T.int IntKind.i64)) s3.2.2.1.2.2.2.1) → ((T.ok (T.sl (T.sl (T.int IntKind.i64))) s3.2.2.1.2.2.2.2) → ((T.ok (T.sl (T.int IntKind.i64)) s3.2.2.2.1) → ((room (List.length s3.2.2.2.1) (List.length (s3.1.2.2.2.1 :: ([] : List Int))) 8) ∧ ((inK IntKind.i64 (s2.1.2.2.2.1 + (1 : Int))) ∧ (next2 (((), ((), ((), ((s2.1.2.2.2.1 + (1 : Int)), ())))), (s3.2.1, (s3.2.2.1, ((s3.2.2.2.1 ++ (s3.1.2.2.2.1 :: ([] : List Int))), ())))))))))))))))))))) (fun k => (cnd (decide ((0 : Int) ≤ (List.getD (List.getD c.2.2.2.2 (Int.toNat (List.getD (backR arrows) (Int.toNat s1.1.2.2.1) (0 : Int))) ([] : List Int)) (Int.toNat (List.getD (backR arrows) (Int.toNat s2.1.2.2.2.1) (0 : Int))) (0 : Int)))) (((0 : Int) ≤ (List.getD (List.getD c.2.2.2.2 (Int.toNat (List.getD (backR arrows) (Int.toNat s1.1.2.2.1) (0 : Int))) ([] : List Int)) (Int.toNat (List.getD (backR arrows) (Int.toNat s2.1.2.2.2.1) (0 : Int))) (0 : Int))) ∧ (((List.getD (List.getD c.2.2.2.2 (Int.toNat (List.getD (backR arrows) (Int.toNat s1.1.2.2.1) (0 : Int))) ([] : List Int)) (Int.toNat (List.getD (backR arrows) (Int.toNat s2.1.2.2.2.1) (0 : Int))) (0 : Int)) < (((List.length arrows) : Nat) : Int)) ∧ (k (((), ((), ((), ((List.getD arrows (Int.toNat (List.getD (List.getD c.2.2.2.2 (Int.toNat (List.getD (backR arrows) (Int.toNat s1.1.2.2.1) (0 : Int))) ([] : List Int)) (Int.toNat (List.getD (backR arrows) (Int.toNat s2.1.2.2.2.1) (0 : Int))) (0 : Int))) (0 : Int)), ())))), (s2.2.1, (s2.2.2.1, (s2.2.2.2.1, ()))))))) (k (((), ((), ((), ((List.getD (List.getD c.2.2.2.2 (Int.toNat (List.getD (backR arrows) (Int.toNat s1.1.2.2.1) (0 : Int))) ([] : List Int)) (Int.toNat (List.getD (backR arrows) (Int.toNat s2.1.2.2.2.1) (0 : Int))) (0 : Int)), ())))), (s2.2.1, (s2.2.2.1, (s2.2.2.2.1, ())))))))))))))))) ((room (List.length s2.2.2.1.2.2.2.2) (List.length (s2.2.2.2.1 :: ([] : List (List Int)))) 24) ∧ ((inK IntKind.i64 (s1.1.2.2.1 + (1 : Int))) ∧ (next1 (((), ((), ((s1.1.2.2.1 + (1 : Int)), ()))), (s2.2.1, ((s2.2.2.1.1, (s2.2.2.1.2.1, (s2.2.2.1.2.2.1, (s2.2.2.1.2.2.2.1, (s2.2.2.1.2.2.2.2 ++ (s2.2.2.2.1 :: ([] : List (List Int)))))))), ()))))))))))))))))))))) (((), ((), ((), ((0 : Int), ())))), (s1.2.1, ((s1.2.2.1.1, ((s1.2.2.1.2.1 ++ ((List.getD objects (Int.toNat (List.getD c.2.1 (Int.toNat (List.getD (backR arrows) (Int.toNat s1.1.2.2.1) (0 : Int))) (0 : Int))) (0 : Int)) :: ([] : List Int))), ((s1.2.2.1.2.2.1 ++ ((List.getD objects (Int.toNat (List.getD c.2.2.1 (Int.toNat (List.getD (backR arrows) (Int.toNat s1.1.2.2.1) (0 : Int))) (0 : Int))) (0 : Int)) :: ([] : List Int))), s1.2.2.1.2.2.2))), (([] : List Int), ()))))))))))))))))))) (K (s1.2.2.1, ())))))))))))))))) (((), ((), ((0 : Int), ()))), (s.2.1, (s.2.2.1, ())))))))))))))))))) (((), ((), ((0 : Int), ()))), (((0 : Int), (([] : List Int), (([] : List Int), (([] : List Int), ([] : List (List Int)))))), ((c.1, (([] : List Int), (([] : List Int), (([] : List Int), ([] : List (List Int)))))), ()))))))))
theorem w_spec_l10Renumber (x : denL c_spec_l10Renumber.args) (K : CategoryD × Unit → Prop) : evF tab (lkp [(60, c_spec_l19Back)]) (cutL [(16, 12), (6, 14), (10, 14), (11, 14)]) Try.f35 (bodyOf Try.f35) (.s .n (.s .n (.s .n (.s (.s .n (.l [(6, (.ad 6 [.de])), (9, (.ad 9 [.de])), (10, (.d (.int .i64)))] [(6, (.pt (.p (.fz (.int .i64)) (.p (.sl (.fz (.int .i64))) (.p (.sl (.fz (.int .i64))) (.p (.sl (.fz (.int .i64))) (.sl (.sl (.fz (.int .i64)))))))))), (9, (.pt (.p (.fz (.int .i64)) (.p (.sl (.fz (.int .i64))) (.p (.sl (.fz (.int .i64))) (.p (.sl (.fz (.int .i64))) (.sl (.sl (.fz (.int .i64))))))))))] [1, 2, 3, 7, 8] .n)) (.s (.s .n (.l [(6, (.ad 6 [.de])), (9, (.ad 9 [.de])), (11, (.d (.int .i64)))] [(6, (.pt (.p (.fz (.int .i64)) (.p (.sl (.fz (.int .i64))) (.p (.sl (.fz (.int .i64))) (.p (.sl (.fz (.int .i64))) (.sl (.sl (.fz (.int .i64)))))))))), (9, (.pt (.p (.fz (.int .i64)) (.p (.sl (.fz (.int .i64))) (.p (.sl (.fz (.int .i64))) (.p (.sl (.fz (.int .i64))) (.sl (.sl (.fz (.int .i64))))))))))] [1, 2, 3, 8] (.s .n (.s (.s .n (.s .n (.s .n (.s (.s .n (.l [(6, (.ad 6 [.de])), (9, (.ad 9 [.de])), (12, (.ref 800012 [])), (13, (.d (.int .i64)))] [(6, (.pt (.p (.fz (.int .i64)) (.p (.sl (.fz (.int .i64))) (.p (.sl (.fz (.int .i64))) (.p (.sl (.fz (.int .i64))) (.sl (.sl (.fz (.int .i64)))))))))), (9, (.pt (.p (.fz (.int .i64)) (.p (.sl (.fz (.int .i64))) (.p (.sl (.fz (.int .i64))) (.p (.sl (.fz (.int .i64))) (.sl (.sl (.fz (.int .i64)))))))))), (800012, (.sl (.fz (.int .i64))))] [1, 2, 3, 8, 11] (.s .n (.s (.s .n (.s (.s .n (.j [(6, (.ad 6 [.de])), (9, (.ad 9 [.de])), (12, (.ref 800012 [])), (14, (.d (.int .i64)))] [(6, (.pt (.p (.fz (.int .i64)) (.p (.sl (.fz (.int .i64))) (.p (.sl (.fz (.int .i64))) (.p (.sl (.fz (.int .i64))) (.sl (.sl (.fz (.int .i64)))))))))), (9, (.pt (.p (.fz (.int .i64)) (.p (.sl (.fz (.int .i64))) (.p (.sl (.fz (.int .i64))) (.p (.sl (.fz (.int .i64))) (.sl (.sl (.fz (.int .i64)))))))))), (800012, (.sl (.fz (.int .i64))))] [1, 2, 3, 8, 11, 13] .n)) .n)) .n)))) .n)))) .n)))) .n))))) c_spec_l10Renumber x K = W_spec_l10Renumber x.1 x.2.1 x.2.2.1 K := by kernel_rfl
theorem k_spec_l10Renumber : okC Try.f35.ntmps (cutL [(16, 12), (6, 14), (10, 14), (11, 14)]) (bodyOf Try.f35) = true := by kernel_rfl
theorem m_spec_l10Renumber (c : CategoryD) (objects : List Int) (arrows : List Int) (hok : allP (okL c_spec_l10Renumber.args (c, objects, arrows, ()))) (hpre : allP (c_spec_l10Renumber.pre (c, objects, arrows, ()))) : W_spec_l10Renumber c objects arrows (fun r => r = c_spec_l10Renumber.res (c, objects, arrows, ())) := by
  simp only [c_spec_l10Renumber, okL, T.oks, T.ok, ap, allP, true_and, and_true, implies_true] at hok hpre
  try dsimp only [T.den] at hok
  try dsimp only [T.den] at hpre
  unfold W_spec_l10Renumber
  obtain ⟨S, ho, ha⟩ := hpre
  obtain ⟨lo, wo⟩ := bij_len ho
  obtain ⟨la, wa⟩ := bij_len ha
  have hob := S.ob
  have hmm := S.m
  have hlt := S.lt
  have hli := S.li
  have hlc := S.lc
  have hla : arrows.length = c.2.1.length := by omega
  have wo' : withinR objects objects.length = true := by rw [lo]; exact wo
  have wa' : withinR arrows arrows.length = true := by rw [la]; exact wa
  have hbo : (backR objects).length = objects.length := tabN_len _
  have hba : (backR arrows).length = arrows.length := tabN_len _
  have hx : ∀ x : Int, 0 ≤ x → x < objects.length → 0 ≤ renB objects x ∧ renB objects x < c.2.2.2.1.length ∧ 0 ≤ c.2.2.2.1.getD (renB objects x).toNat 0 ∧ c.2.2.2.1.getD (renB objects x).toNat 0 < arrows.length := fun x x0 x1 => by
    have h := ren_hit ho x0 (by omega)
    have h2 := S.idn h.1 h.2.1
    exact ⟨h.1, by omega, h2.1, by omega⟩
  have hf : ∀ k : Int, 0 ≤ k → k < arrows.length → 0 ≤ renB arrows k ∧ renB arrows k < c.2.1.length ∧ 0 ≤ c.2.1.getD (renB arrows k).toNat 0 ∧ c.2.1.getD (renB arrows k).toNat 0 < objects.length ∧ 0 ≤ c.2.2.1.getD (renB arrows k).toNat 0 ∧ c.2.2.1.getD (renB arrows k).toNat 0 < objects.length := fun k k0 k1 => by
    have h := ren_hit ha k0 (by omega)
    have h2 := S.frm h.1 h.2.1
    exact ⟨h.1, h.2.1, h2.1, by omega, h2.2.2.1, by omega⟩
  have hB1 : ∀ k : Int, (backR objects).getD k.toNat 0 = renB objects k := fun _ => rfl
  have hB2 : ∀ k : Int, (backR arrows).getD k.toNat 0 = renB arrows k := fun _ => rfl
  clear hok
  simp only [hB1, hB2, hbo, hba]
  have hone : ∀ v : Int, ([v] : List Int).length = 1 := fun _ => rfl
  have hone2 : ∀ v : List Int, ([v] : List (List Int)).length = 1 := fun _ => rfl
  refine ⟨by omega, wo', by omega, wa', ?_⟩
  refine loop_of (fun (s : ((Unit × (Unit × (Int × Unit))) × ((Int × ((List Int) × ((List Int) × ((List Int) × (List (List Int)))))) × ((Int × ((List Int) × ((List Int) × ((List Int) × (List (List Int)))))) × Unit)))) => 0 ≤ s.1.2.2.1 ∧ s.1.2.2.1 ≤ objects.length ∧ s.2.2.1 = (c.1, [], [], (tabN s.1.2.2.1.toNat fun x => arrows.getD (c.2.2.2.1.getD (renB objects x).toNat 0).toNat 0), [])) (fun (s : ((Unit × (Unit × (Int × Unit))) × ((Int × ((List Int) × ((List Int) × ((List Int) × (List (List Int)))))) × ((Int × ((List Int) × ((List Int) × ((List Int) × (List (List Int)))))) × Unit)))) => (objects.length - s.1.2.2.1).toNat) ?_ ⟨by simp, by simp, rfl⟩
  rintro ⟨⟨_, _, x, _⟩, z, out, _⟩ next ⟨x0, x1, hq⟩ hnx _ _ _ _ _ _ _ _ _ _ _
  try dsimp only at x0 x1 hq hnx ⊢
  subst hq
  refine cnd_d (fun hc => ?_) (fun hc => ?_)
  · have h := hx x x0 hc
    refine ⟨x0, hc, h.1, h.2.1, h.2.2.1, h.2.2.2, room_of (by dsimp only; rw [tabN_len, hone]; omega), by rw [inK64]; (try dsimp only); omega, hnx _ ⟨(by first | omega | (dsimp only; omega)), (by first | omega | (dsimp only; omega)), ?_⟩ (by first | omega | (dsimp only; omega))⟩
    try dsimp only; rw [tabN_s x0]
  have ex : x = objects.length := by omega
  subst ex
  try dsimp only
  rw [Int.toNat_natCast]
  refine loop_of (fun (s : ((Unit × (Unit × (Int × Unit))) × ((Int × ((List Int) × ((List Int) × ((List Int) × (List (List Int)))))) × ((Int × ((List Int) × ((List Int) × ((List Int) × (List (List Int)))))) × Unit)))) => 0 ≤ s.1.2.2.1 ∧ s.1.2.2.1 ≤ arrows.length ∧ s.2.2.1 = (c.1, (tabN s.1.2.2.1.toNat fun k => objects.getD (c.2.1.getD (renB arrows k).toNat 0).toNat 0), (tabN s.1.2.2.1.toNat fun k => objects.getD (c.2.2.1.getD (renB arrows k).toNat 0).toNat 0), (tabN objects.length fun x => arrows.getD (c.2.2.2.1.getD (renB objects x).toNat 0).toNat 0), tabN s.1.2.2.1.toNat fun f => tabN arrows.length fun g => renCR arrows c f g)) (fun (s : ((Unit × (Unit × (Int × Unit))) × ((Int × ((List Int) × ((List Int) × ((List Int) × (List (List Int)))))) × ((Int × ((List Int) × ((List Int) × ((List Int) × (List (List Int)))))) × Unit)))) => (arrows.length - s.1.2.2.1).toNat) ?_ ⟨by simp, by simp, rfl⟩
  rintro ⟨⟨_, _, f, _⟩, z2, out, _⟩ next1 ⟨f0, f1, hq⟩ hn1 _ _ _ _ _ _ _ _ _ _ _
  try dsimp only at f0 f1 hq hn1 ⊢
  subst hq
  refine cnd_d (fun hc => ?_) (fun hc => ?_)
  · have h := hf f f0 hc
    refine ⟨f0, hc, h.1, h.2.1, h.2.2.1, h.2.2.2.1, room_of (by dsimp only; rw [tabN_len, hone]; omega), f0, hc, h.1, by omega, h.2.2.2.2.1, h.2.2.2.2.2, room_of (by dsimp only; rw [tabN_len, hone]; omega), ?_⟩
    refine loop_of (fun (s2 : ((Unit × (Unit × (Unit × (Int × Unit)))) × ((Int × ((List Int) × ((List Int) × ((List Int) × (List (List Int)))))) × ((Int × ((List Int) × ((List Int) × ((List Int) × (List (List Int)))))) × ((List Int) × Unit))))) => 0 ≤ s2.1.2.2.2.1 ∧ s2.1.2.2.2.1 ≤ arrows.length ∧ s2.2.2.1 = (c.1, (tabN (f + 1).toNat fun k => objects.getD (c.2.1.getD (renB arrows k).toNat 0).toNat 0), (tabN (f + 1).toNat fun k => objects.getD (c.2.2.1.getD (renB arrows k).toNat 0).toNat 0), (tabN objects.length fun x => arrows.getD (c.2.2.2.1.getD (renB objects x).toNat 0).toNat 0), tabN f.toNat fun f => tabN arrows.length fun g => renCR arrows c f g) ∧ s2.2.2.2.1 = tabN s2.1.2.2.2.1.toNat fun g => renCR arrows c f g) (fun (s2 : ((Unit × (Unit × (Unit × (Int × Unit)))) × ((Int × ((List Int) × ((List Int) × ((List Int) × (List (List Int)))))) × ((Int × ((List Int) × ((List Int) × ((List Int) × (List (List Int)))))) × ((List Int) × Unit))))) => (arrows.length - s2.1.2.2.2.1).toNat) ?_ ⟨by simp, by simp, by dsimp only; rw [tabN_s f0, tabN_s f0], rfl⟩
    rintro ⟨⟨_, _, _, g, _⟩, z3, out, row, _⟩ next2 ⟨g0, g1, hq, hr⟩ hn2 _ _ _ _ _ _ _ _ _ _ _ _
    try dsimp only at g0 g1 hq hr hn2 ⊢
    subst hq; subst hr
    refine cnd_d (fun hg => ?_) (fun hg => ?_)
    · have hg2 := hf g g0 hg
      have hrw := S.row _ h.1 h.2.1
      have hcmp : ∀ u v : Int, (c.2.2.2.2.getD u.toNat []).getD v.toNat 0 = compR c u v := fun _ _ => rfl
      refine ⟨f0, hc, h.1, by omega, g0, hg, hg2.1, by omega, join_of (fun s3 => s3.1.2.2.2.1 = renCR arrows c f g ∧ s3.2.2.1 = (c.1, (tabN (f + 1).toNat fun k => objects.getD (c.2.1.getD (renB arrows k).toNat 0).toNat 0), (tabN (f + 1).toNat fun k => objects.getD (c.2.2.1.getD (renB arrows k).toNat 0).toNat 0), (tabN objects.length fun x => arrows.getD (c.2.2.2.1.getD (renB objects x).toNat 0).toNat 0), tabN f.toNat fun f => tabN arrows.length fun g => renCR arrows c f g) ∧ s3.2.2.2.1 = tabN g.toNat fun g => renCR arrows c f g) (fun s3 ⟨q1, q2, q3⟩ _ _ _ _ _ _ _ _ _ _ _ _ => ⟨room_of (by rw [q3, tabN_len, hone]; omega), by rw [inK64]; (try dsimp only); omega, hn2 _ ⟨(by first | omega | (dsimp only; omega)), (by first | omega | (dsimp only; omega)), q2, ?_⟩ (by first | omega | (dsimp only; omega))⟩) (fun k hk => ?_)⟩
      · try dsimp only; rw [q3, q1, tabN_s g0]
      · simp only [hcmp]
        refine cnd_d (fun hh => ⟨hh, ?_, hk _ ⟨?_, rfl, rfl⟩⟩) (fun hh => hk _ ⟨?_, rfl, rfl⟩)
        · have y := S.yes h.1 h.2.1 hg2.1 hg2.2.1 ((S.comp h.1 h.2.1 hg2.1 hg2.2.1).1 hh); omega
        · try dsimp only; unfold renCR; rw [if_pos hh]
        · try dsimp only; unfold renCR; rw [if_neg hh]
    · have eg : g = arrows.length := by omega
      subst eg
      refine ⟨room_of (by dsimp only; rw [tabN_len, hone2]; omega), by rw [inK64]; (try dsimp only); omega, hn1 _ ⟨(by first | omega | (dsimp only; omega)), (by first | omega | (dsimp only; omega)), ?_⟩ (by first | omega | (dsimp only; omega))⟩
      try dsimp only; rw [Int.toNat_natCast, tabN_s (f := fun f => tabN arrows.length fun g => renCR arrows c f g) f0]
  · have ef : f = arrows.length := by omega
    subst ef
    simp only [c_spec_l10Renumber, renumR, Int.toNat_natCast]
theorem ct_spec_l10Renumber : CtOk Try.prog 35 c_spec_l10Renumber :=
  ct_by (Φ := lkp [(60, c_spec_l19Back)]) (good_cons ct_spec_l19Back good_nil) tab_ok (by kernel_rfl) (fn := Try.f35) (c := bodyOf Try.f35) (by kernel_rfl) (by kernel_rfl) (by kernel_rfl) c_spec_l10Renumber rfl (.s .n (.s .n (.s .n (.s (.s .n (.l [(6, (.ad 6 [.de])), (9, (.ad 9 [.de])), (10, (.d (.int .i64)))] [(6, (.pt (.p (.fz (.int .i64)) (.p (.sl (.fz (.int .i64))) (.p (.sl (.fz (.int .i64))) (.p (.sl (.fz (.int .i64))) (.sl (.sl (.fz (.int .i64)))))))))), (9, (.pt (.p (.fz (.int .i64)) (.p (.sl (.fz (.int .i64))) (.p (.sl (.fz (.int .i64))) (.p (.sl (.fz (.int .i64))) (.sl (.sl (.fz (.int .i64))))))))))] [1, 2, 3, 7, 8] .n)) (.s (.s .n (.l [(6, (.ad 6 [.de])), (9, (.ad 9 [.de])), (11, (.d (.int .i64)))] [(6, (.pt (.p (.fz (.int .i64)) (.p (.sl (.fz (.int .i64))) (.p (.sl (.fz (.int .i64))) (.p (.sl (.fz (.int .i64))) (.sl (.sl (.fz (.int .i64)))))))))), (9, (.pt (.p (.fz (.int .i64)) (.p (.sl (.fz (.int .i64))) (.p (.sl (.fz (.int .i64))) (.p (.sl (.fz (.int .i64))) (.sl (.sl (.fz (.int .i64))))))))))] [1, 2, 3, 8] (.s .n (.s (.s .n (.s .n (.s .n (.s (.s .n (.l [(6, (.ad 6 [.de])), (9, (.ad 9 [.de])), (12, (.ref 800012 [])), (13, (.d (.int .i64)))] [(6, (.pt (.p (.fz (.int .i64)) (.p (.sl (.fz (.int .i64))) (.p (.sl (.fz (.int .i64))) (.p (.sl (.fz (.int .i64))) (.sl (.sl (.fz (.int .i64)))))))))), (9, (.pt (.p (.fz (.int .i64)) (.p (.sl (.fz (.int .i64))) (.p (.sl (.fz (.int .i64))) (.p (.sl (.fz (.int .i64))) (.sl (.sl (.fz (.int .i64)))))))))), (800012, (.sl (.fz (.int .i64))))] [1, 2, 3, 8, 11] (.s .n (.s (.s .n (.s (.s .n (.j [(6, (.ad 6 [.de])), (9, (.ad 9 [.de])), (12, (.ref 800012 [])), (14, (.d (.int .i64)))] [(6, (.pt (.p (.fz (.int .i64)) (.p (.sl (.fz (.int .i64))) (.p (.sl (.fz (.int .i64))) (.p (.sl (.fz (.int .i64))) (.sl (.sl (.fz (.int .i64)))))))))), (9, (.pt (.p (.fz (.int .i64)) (.p (.sl (.fz (.int .i64))) (.p (.sl (.fz (.int .i64))) (.p (.sl (.fz (.int .i64))) (.sl (.sl (.fz (.int .i64)))))))))), (800012, (.sl (.fz (.int .i64))))] [1, 2, 3, 8, 11, 13] .n)) .n)) .n)))) .n)))) .n)))) .n))))) (cutL [(16, 12), (6, 14), (10, 14), (11, 14)]) (by kernel_rfl) (by kernel_rfl) k_spec_l10Renumber (by decide) (fun x K => W_spec_l10Renumber x.1 x.2.1 x.2.2.1 K) w_spec_l10Renumber (fun x h1 h2 => m_spec_l10Renumber x.1 x.2.1 x.2.2.1 h1 h2)
def c_spec_l01Map : Ct := ⟨[(.int .i64), (.sl (.int .i64))], [false, false], fun x => [], [(false, (.fz .bool))], fun x => (withinR x.2.1 x.1, ()), false, none⟩
def W_spec_l01Map (n : Int) (f : List Int) (K : Bool × Unit → Prop) : Prop := (loopW (S := ((Int × Unit) × Unit)) (fun s => (fun next => ((inK IntKind.i64 s.1.1) → (cnd (decide (s.1.1 < (((List.length f) : Nat) : Int))) (((0 : Int) ≤ s.1.1) ∧ ((s.1.1 < (((List.length f) : Nat) : Int)) ∧ ((((decide ((List.getD f (Int.toNat s.1.1) (0 : Int)) < (0 : Int))) = Bool.false) → ((s.1.1 < (((List.length f) : Nat) : Int)) ∧ ((0 : Int) ≤ s.1.1))) ∧ (cnd ((decide ((List.getD f (Int.toNat s.1.1) (0 : Int)) < (0 : Int))) || (decide (n ≤ (List.getD f (Int.toNat s.1.1) (0 : Int))))) (K (Bool.false, ())) ((inK IntKind.i64 (s.1.1 + (1 : Int))) ∧ (next (((s.1.1 + (1 : Int)), ()), ()))))))) (K (Bool.true, ())))))) (((0 : Int), ()), ()))
theorem w_spec_l01Map (x : denL c_spec_l01Map.args) (K : Bool × Unit → Prop) : evF tab (lkp []) (cutL []) Try.f58 (bodyOf Try.f58) (.s .n (.s (.s .n (.l [(5, (.d (.int .i64)))] [] [0, 1] .n)) .n)) c_spec_l01Map x K = W_spec_l01Map x.1 x.2.1 K := by kernel_rfl
theorem k_spec_l01Map : okC Try.f58.ntmps (cutL []) (bodyOf Try.f58) = true := by kernel_rfl
theorem m_spec_l01Map (n : Int) (f : List Int) (hok : allP (okL c_spec_l01Map.args (n, f, ()))) (hpre : allP (c_spec_l01Map.pre (n, f, ()))) : W_spec_l01Map n f (fun r => r = c_spec_l01Map.res (n, f, ())) := by
  simp only [c_spec_l01Map, okL, T.oks, T.ok, ap, allP, true_and, and_true, implies_true] at hok hpre
  try dsimp only [T.den] at hok
  try dsimp only [T.den] at hpre
  unfold W_spec_l01Map
  refine loop_of (fun (s : ((Int × Unit) × Unit)) => 0 ≤ s.1.1 ∧ s.1.1 ≤ f.length ∧ withinR f n = withinR (f.drop s.1.1.toNat) n) (fun (s : ((Int × Unit) × Unit)) => (f.length - s.1.1).toNat) ?_ (by simp)
  rintro ⟨⟨i, _⟩, _⟩ next ⟨h0, h1, h2⟩ hn hin
  simp only at h0 h1 h2 hn ⊢
  refine cnd_d (fun hc => ?_) (fun hc => ?_)
  · rw [drop_c f 0 h0 hc] at h2
    simp only [withinR, List.all_cons] at h2
    grind [cnd, nb_eq, inK64, c_spec_l01Map, withinR, inR]
  · rw [drop_n f (by omega)] at h2
    grind [cnd, nb_eq, inK64, c_spec_l01Map, withinR]
theorem ct_spec_l01Map : CtOk Try.prog 58 c_spec_l01Map :=
  ct_by (Φ := lkp []) good_nil tab_ok (by kernel_rfl) (fn := Try.f58) (c := bodyOf Try.f58) (by kernel_rfl) (by kernel_rfl) (by kernel_rfl) c_spec_l01Map rfl (.s .n (.s (.s .n (.l [(5, (.d (.int .i64)))] [] [0, 1] .n)) .n)) (cutL []) (by kernel_rfl) (by kernel_rfl) k_spec_l01Map (by decide) (fun x K => W_spec_l01Map x.1 x.2.1 K) w_spec_l01Map (fun x h1 h2 => m_spec_l01Map x.1 x.2.1 h1 h2)
def c_spec_l01Has : Ct := ⟨[(.sl (.int .i64)), (.int .i64)], [false, false], fun x => [], [(false, (.fz .bool))], fun x => (hasR x.1 x.2.1, ()), false, none⟩
def W_spec_l01Has (list : List Int) (n : Int) (K : Bool × Unit → Prop) : Prop := (loopW (S := ((Int × Unit) × Unit)) (fun s => (fun next => ((inK IntKind.i64 s.1.1) → (cnd (decide (s.1.1 < (((List.length list) : Nat) : Int))) (((0 : Int) ≤ s.1.1) ∧ ((s.1.1 < (((List.length list) : Nat) : Int)) ∧ (cnd ((List.getD list (Int.toNat s.1.1) (0 : Int)) == n) (K (Bool.true, ())) ((inK IntKind.i64 (s.1.1 + (1 : Int))) ∧ (next (((s.1.1 + (1 : Int)), ()), ())))))) (K (Bool.false, ())))))) (((0 : Int), ()), ()))
theorem w_spec_l01Has (x : denL c_spec_l01Has.args) (K : Bool × Unit → Prop) : evF tab (lkp []) (cutL []) Try.f86 (bodyOf Try.f86) (.s .n (.s (.s .n (.l [(5, (.d (.int .i64)))] [] [0, 1] .n)) .n)) c_spec_l01Has x K = W_spec_l01Has x.1 x.2.1 K := by kernel_rfl
theorem k_spec_l01Has : okC Try.f86.ntmps (cutL []) (bodyOf Try.f86) = true := by kernel_rfl
theorem m_spec_l01Has (list : List Int) (n : Int) (hok : allP (okL c_spec_l01Has.args (list, n, ()))) (hpre : allP (c_spec_l01Has.pre (list, n, ()))) : W_spec_l01Has list n (fun r => r = c_spec_l01Has.res (list, n, ())) := by
  simp only [c_spec_l01Has, okL, T.oks, T.ok, ap, allP, true_and, and_true, implies_true] at hok hpre
  try dsimp only [T.den] at hok
  try dsimp only [T.den] at hpre
  unfold W_spec_l01Has
  refine loop_of (fun (s : ((Int × Unit) × Unit)) => 0 ≤ s.1.1 ∧ s.1.1 ≤ list.length ∧ hasR list n = hasR (list.drop s.1.1.toNat) n) (fun (s : ((Int × Unit) × Unit)) => (list.length - s.1.1).toNat) ?_ (by simp)
  rintro ⟨⟨i, _⟩, _⟩ next ⟨h0, h1, h2⟩ hn hin
  simp only at h0 h1 h2 hn ⊢
  refine cnd_d (fun hc => ?_) (fun hc => ?_)
  · rw [drop_c list 0 h0 hc] at h2
    simp only [hasR, List.any_cons] at h2
    grind [cnd, nb_eq, inK64, c_spec_l01Has, hasR]
  · rw [drop_n list (by omega)] at h2
    grind [cnd, nb_eq, inK64, c_spec_l01Has, hasR]
theorem ct_spec_l01Has : CtOk Try.prog 86 c_spec_l01Has :=
  ct_by (Φ := lkp []) good_nil tab_ok (by kernel_rfl) (fn := Try.f86) (c := bodyOf Try.f86) (by kernel_rfl) (by kernel_rfl) (by kernel_rfl) c_spec_l01Has rfl (.s .n (.s (.s .n (.l [(5, (.d (.int .i64)))] [] [0, 1] .n)) .n)) (cutL []) (by kernel_rfl) (by kernel_rfl) k_spec_l01Has (by decide) (fun x K => W_spec_l01Has x.1 x.2.1 K) w_spec_l01Has (fun x h1 h2 => m_spec_l01Has x.1 x.2.1 h1 h2)
/-- no number stands twice -/
def injR (l : List Int) : Bool := decide l.Nodup

def c_spec_l19Injective : Ct := ⟨[(.sl (.int .i64))], [false], fun x => [], [(false, (.fz .bool))], fun x => (injR x.1, ()), false, none⟩
def W_spec_l19Injective (list : List Int) (K : Bool × Unit → Prop) : Prop := (loopW (S := ((Int × Unit) × Unit)) (fun s => (fun next => ((inK IntKind.i64 s.1.1) → (cnd (decide (s.1.1 < (((List.length list) : Nat) : Int))) (((0 : Int) ≤ s.1.1) ∧ ((s.1.1 ≤ (((List.length list) : Nat) : Int)) ∧ (((0 : Int) ≤ s.1.1) ∧ ((s.1.1 < (((List.length list) : Nat) : Int)) ∧ (cnd (hasR (List.take (Int.toNat s.1.1) list) (List.getD list (Int.toNat s.1.1) (0 : Int))) (K (Bool.false, ())) ((inK IntKind.i64 (s.1.1 + (1 : Int))) ∧ (next (((s.1.1 + (1 : Int)), ()), ())))))))) (K (Bool.true, ())))))) (((0 : Int), ()), ()))
theorem w_spec_l19Injective (x : denL c_spec_l19Injective.args) (K : Bool × Unit → Prop) : evF tab (lkp [(86, c_spec_l01Has)]) (cutL [(4, 8)]) Try.f59 (bodyOf Try.f59) (.s .n (.s (.s .n (.l [(3, (.d (.int .i64)))] [] [0] .n)) .n)) c_spec_l19Injective x K = W_spec_l19Injective x.1 K := by kernel_rfl
theorem k_spec_l19Injective : okC Try.f59.ntmps (cutL [(4, 8)]) (bodyOf Try.f59) = true := by kernel_rfl
theorem m_spec_l19Injective (list : List Int) (hok : allP (okL c_spec_l19Injective.args (list, ()))) (hpre : allP (c_spec_l19Injective.pre (list, ()))) : W_spec_l19Injective list (fun r => r = c_spec_l19Injective.res (list, ())) := by
  simp only [c_spec_l19Injective, okL, T.oks, T.ok, ap, allP, true_and, and_true, implies_true] at hok hpre
  try dsimp only [T.den] at hok
  try dsimp only [T.den] at hpre
  unfold W_spec_l19Injective
  have hl : list.length ≤ 140737488355328 := by simp only [nb_eq] at hok; omega
  have res : ∀ b, injR list = b → (b, ()) = c_spec_l19Injective.res (list, ()) := fun b h => by simp only [c_spec_l19Injective, h]
  refine loop_ix (n := list.length) (fun i => (list.take i.toNat).Nodup) (by omega) (by simp) ?_ ?_
  · intro i next i0 i1 hP hn hin
    try dsimp only
    have hd : (list.take (i + 1).toNat).Nodup ↔ hasR (list.take i.toNat) (list.getD i.toNat 0) = false := by
      rw [take_c list 0 i0 i1, List.nodup_append]
      simp only [hP, true_and, hasR, List.any_eq_false, beq_iff_eq, List.mem_singleton, List.nodup_cons, List.not_mem_nil, not_false_eq_true, List.nodup_nil]
      constructor
      · intro h a ha; exact fun e => h a ha _ rfl e
      · intro h a ha b hb e; subst hb; exact h a ha e
    refine cnd_d (fun _ => ⟨i0, by omega, i0, i1, cnd_of (fun hx => res _ ?_) (fun hx => ⟨by rw [inK64]; (try dsimp only); omega, hn (hd.2 hx)⟩)⟩) (fun h => absurd i1 h)
    refine decide_eq_false fun hN => ?_
    rw [hd.1 (hN.sublist (List.take_sublist _ _))] at hx
    cases hx
  · intro next hP hin
    rw [take_n _ (Int.le_refl _)] at hP
    exact cnd_d (fun h => absurd h (by dsimp only; omega)) (fun _ => res _ (decide_eq_true hP))
theorem ct_spec_l19Injective : CtOk Try.prog 59 c_spec_l19Injective :=
  ct_by (Φ := lkp [(86, c_spec_l01Has)]) (good_cons ct_spec_l01Has good_nil) tab_ok (by kernel_rfl) (fn := Try.f59) (c := bodyOf Try.f59) (by kernel_rfl) (by kernel_rfl) (by kernel_rfl) c_spec_l19Injective rfl (.s .n (.s (.s .n (.l [(3, (.d (.int .i64)))] [] [0] .n)) .n)) (cutL [(4, 8)]) (by kernel_rfl) (by kernel_rfl) k_spec_l19Injective (by decide) (fun x K => W_spec_l19Injective x.1 K) w_spec_l19Injective (fun x h1 h2 => m_spec_l19Injective x.1 h1 h2)
theorem sel_one {p : Int → Bool} {a : Int} (a0 : 0 ≤ a) : ∀ {n : Nat}, a < n → p a = false → (selR n fun y => p y || a == y).length = (selR n p).length + 1
  | 0, h, _ => by omega
  | n + 1, h, hp => by
    by_cases e : a = n
    · subst e
      have e1 : (selR n fun y => p y || (n : Int) == y) = selR n p := sel_congr fun i i0 i1 => by rw [beq_eq_false_iff_ne.2 (by omega), Bool.or_false]
      unfold selR
      rw [e1, if_pos (by simp), if_neg (by rw [hp]; simp), List.length_append]; rfl
    · have ih := sel_one a0 (n := n) (by omega) hp
      have e2 : (p (n : Int) || a == (n : Int)) = p n := by rw [beq_eq_false_iff_ne.2 e, Bool.or_false]
      unfold selR
      simp only [e2]
      split
      · rw [List.length_append, List.length_append, ih]; simp
      · exact ih
theorem image_cons {n a : Int} {r : List Int} : imageR n (a :: r) = selR n.toNat fun y => hasR r y || a == y := sel_congr fun y _ _ => by simp only [hasR, List.any_cons, Bool.or_comm]
theorem image_nodup {n : Int} : ∀ {l : List Int}, withinR l n = true → (imageR n l).length ≤ l.length ∧ ((imageR n l).length = l.length ↔ l.Nodup)
  | [], _ => by
    have : imageR n [] = [] := List.eq_nil_iff_forall_not_mem.2 fun y h => by have := (sel_mem.1 h).2.2; simp [hasR] at this
    rw [this]; simp
  | a :: r, h => by
    simp only [withinR, List.all_cons, Bool.and_eq_true, inR_iff] at h
    obtain ⟨i1, i2⟩ := image_nodup (n := n) (l := r) h.2
    rw [image_cons, List.nodup_cons, List.length_cons]
    have hm : hasR r a = true ↔ a ∈ r := by simp [hasR]
    cases hh : hasR r a with
    | true =>
      have e : (selR n.toNat fun y => hasR r y || a == y) = imageR n r := sel_congr fun y _ _ => by
        by_cases e : a = y
        · subst e; rw [hh, Bool.true_or]
        · rw [beq_eq_false_iff_ne.2 e, Bool.or_false]
      rw [e]
      refine ⟨by omega, by omega, fun h1 => absurd (hm.1 hh) h1.1⟩
    | false =>
      have e : (selR n.toNat fun y => hasR r y || a == y).length = (imageR n r).length + 1 := sel_one h.1.1 (by omega) hh
      rw [e]
      refine ⟨by omega, ?_⟩
      rw [← i2]
      have : a ∉ r := fun h1 => by rw [hm.2 h1] at hh; cases hh
      constructor
      · intro h1; exact ⟨this, by omega⟩
      · intro h1; omega
theorem bij_inj {l : List Int} {n : Int} (n0 : 0 ≤ n) : bijR l n = (((l.length : Int) == n) && (withinR l n && injR l)) := by
  unfold bijR injR
  cases h1 : (l.length : Int) == n with
  | false => rfl
  | true =>
    cases h2 : withinR l n with
    | false => rfl
    | true =>
      have := (image_nodup h2).2
      rw [beq_iff_eq] at h1
      simp only [Bool.true_and]
      rw [Bool.eq_iff_iff, beq_iff_eq, decide_eq_true_eq, ← this]; omega

def c_spec_l10Bijection : Ct := ⟨[(.int .i64), (.sl (.int .i64))], [false, false], fun x => [0 ≤ x.1, x.1 ≤ 256], [(false, (.fz .bool))], fun x => (bijR x.2.1 x.1, ()), false, none⟩
def W_spec_l10Bijection (n : Int) (list : List Int) (K : Bool × Unit → Prop) : Prop := (K (((((((List.length list) : Nat) : Int) == n) && (withinR list n)) && (injR list)), ()))
theorem w_spec_l10Bijection (x : denL c_spec_l10Bijection.args) (K : Bool × Unit → Prop) : evF tab (lkp [(58, c_spec_l01Map), (59, c_spec_l19Injective)]) (cutL []) Try.f34 (bodyOf Try.f34) .n c_spec_l10Bijection x K = W_spec_l10Bijection x.1 x.2.1 K := by kernel_rfl
theorem k_spec_l10Bijection : okC Try.f34.ntmps (cutL []) (bodyOf Try.f34) = true := by kernel_rfl
theorem m_spec_l10Bijection (n : Int) (list : List Int) (hok : allP (okL c_spec_l10Bijection.args (n, list, ()))) (hpre : allP (c_spec_l10Bijection.pre (n, list, ()))) : W_spec_l10Bijection n list (fun r => r = c_spec_l10Bijection.res (n, list, ())) := by
  simp only [c_spec_l10Bijection, okL, T.oks, T.ok, ap, allP, true_and, and_true, implies_true] at hok hpre
  try dsimp only [T.den] at hok
  try dsimp only [T.den] at hpre
  unfold W_spec_l10Bijection
  have hn0 : 0 ≤ n := hpre.1
  simp only [c_spec_l10Bijection, bij_inj hn0, Bool.and_assoc]
theorem ct_spec_l10Bijection : CtOk Try.prog 34 c_spec_l10Bijection :=
  ct_by (Φ := lkp [(58, c_spec_l01Map), (59, c_spec_l19Injective)]) (good_cons ct_spec_l01Map (good_cons ct_spec_l19Injective good_nil)) tab_ok (by kernel_rfl) (fn := Try.f34) (c := bodyOf Try.f34) (by kernel_rfl) (by kernel_rfl) (by kernel_rfl) c_spec_l10Bijection rfl .n (cutL []) (by kernel_rfl) (by kernel_rfl) k_spec_l10Bijection (by decide) (fun x K => W_spec_l10Bijection x.1 x.2.1 K) w_spec_l10Bijection (fun x h1 h2 => m_spec_l10Bijection x.1 x.2.1 h1 h2)
theorem bij_sep {l : List Int} {n : Int} (h : bijR l n = true) {u v : Int} (u0 : 0 ≤ u) (u1 : u < l.length) (v0 : 0 ≤ v) (v1 : v < l.length) (e : l.getD u.toNat 0 = l.getD v.toNat 0) : u = v := by
  have hl := bij_len h
  have hn : l.Nodup := by
    refine (image_nodup hl.2).2.1 ?_
    simp only [bijR, Bool.and_eq_true, beq_iff_eq] at h
    omega
  have hp := List.pairwise_iff_getElem.1 hn
  have hu : u.toNat < l.length := by omega
  have hv : v.toNat < l.length := by omega
  rw [List.getD_eq_getElem?_getD, List.getD_eq_getElem?_getD, List.getElem?_eq_getElem hu, List.getElem?_eq_getElem hv] at e
  rcases Nat.lt_trichotomy u.toNat v.toNat with h1 | h1 | h1
  · exact absurd e (hp _ _ hu hv h1)
  · omega
  · exact absurd e.symm (hp _ _ hv hu h1)
def hitR (l : List Int) (k : Int) : Nat → Bool
  | 0 => false
  | n + 1 => hitR l k n || l.getD n 0 == k
theorem hit_s {l : List Int} {k i : Int} (h0 : 0 ≤ i) : hitR l k (i + 1).toNat = (hitR l k i.toNat || l.getD i.toNat 0 == k) := by
  rw [show (i + 1).toNat = i.toNat + 1 from by omega, hitR]
theorem hit_of {l : List Int} {k : Int} : ∀ {m : Nat}, (∃ i : Nat, i < m ∧ l.getD i 0 = k) → hitR l k m = true
  | 0, ⟨i, h, _⟩ => by omega
  | m + 1, ⟨i, h, e⟩ => by
    unfold hitR
    by_cases hi : i = m
    · subst hi; rw [e]; simp
    · rw [hit_of (m := m) ⟨i, by omega, e⟩, Bool.true_or]
def putT (l : List Int) (v : Int → Int) (n : Nat) (i : Int) : List Int := tabN n fun k => if hitR l k i.toNat = true then v (lastR l k i.toNat) else 0
theorem putT_len {l : List Int} {v : Int → Int} {n : Nat} {i : Int} : (putT l v n i).length = n := tabN_len _
theorem putT_0 {l : List Int} {v : Int → Int} {n : Nat} : putT l v n 0 = List.replicate n 0 := by rw [tab_rep]; rfl
theorem putT_s {l : List Int} {v : Int → Int} {n : Nat} {i : Int} (i0 : 0 ≤ i) (y0 : 0 ≤ l.getD i.toNat 0) (y1 : l.getD i.toNat 0 < n) : (putT l v n i).set (l.getD i.toNat 0).toNat (v i) = putT l v n (i + 1) := by
  unfold putT
  rw [tab_set y0 y1]
  refine tabN_congr fun k _ _ => ?_
  rw [hit_s i0, last_s i0]
  by_cases e : l.getD i.toNat 0 = k
  · rw [if_pos e.symm, if_pos e, if_pos (by rw [e]; simp)]
  · rw [if_neg fun h => e h.symm, if_neg e, beq_eq_false_iff_ne.2 e, Bool.or_false]
theorem putT_n {l : List Int} {v : Int → Int} {m : Int} (h : bijR l m = true) {n : Nat} (hn : (n : Int) = m) : putT l v n l.length = tabN n fun k => v (renB l k) := by
  have hl := (bij_len h).1
  unfold putT
  refine tabN_congr fun k k0 k1 => ?_
  rw [Int.toNat_natCast, if_pos (hit_of (bij_hit h k0 (by omega)))]
  unfold renB backR
  rw [tabN_get k0 (by omega)]
def renV (o l : List Int) (f : Int) : Int := o.getD (l.getD f.toNat 0).toNat 0

def c_impl_Category_renumber : Ct := ⟨[(.pt CategoryT), (.sl (.int .i64)), (.sl (.int .i64))], [false, false, false], fun x => [ShapeP x.1, bijR x.2.1 x.1.1 = true, bijR x.2.2.1 x.1.2.1.length = true], [(true, CategoryO)], fun x => (renumR x.1 x.2.1 x.2.2.1, ()), false, none⟩
def W_impl_Category_renumber (c : CategoryD) (objects : List Int) (arrows : List Int) (K : CategoryD × Unit → Prop) : Prop := (((0 : Int) ≤ (((List.length c.2.1) : Nat) : Int)) ∧ (((((List.length c.2.1) : Nat) : Int) ≤ (((List.length c.2.1) : Nat) : Int)) ∧ (((((List.length c.2.1) : Nat) : Int) ≤ ((140737488355328 : Nat) : Int)) ∧ ((((((List.length c.2.1) : Nat) : Int) * ((8 : Nat) : Int)) ≤ ((140737488355328 : Nat) : Int)) ∧ (((0 : Int) ≤ (((List.length c.2.1) : Nat) : Int)) ∧ (((((List.length c.2.1) : Nat) : Int) ≤ (((List.length c.2.1) : Nat) : Int)) ∧ (((((List.length c.2.1) : Nat) : Int) ≤ ((140737488355328 : Nat) : Int)) ∧ ((((((List.length c.2.1) : Nat) : Int) * ((8 : Nat) : Int)) ≤ ((140737488355328 : Nat) : Int)) ∧ (((0 : Int) ≤ c.1) ∧ ((c.1 ≤ c.1) ∧ ((c.1 ≤ ((140737488355328 : Nat) : Int)) ∧ (((c.1 * ((8 : Nat) : Int)) ≤ ((140737488355328 : Nat) : Int)) ∧ (loopW (S := ((Unit × (Unit × (Int × Unit))) × ((Int × ((List Int) × ((List Int) × ((List Int) × (List (List Int)))))) × ((Int × ((List Int) × ((List Int) × ((List Int) × (List (List Int)))))) × Unit)))) (fun s => (fun next => ((inK IntKind.i64 s.1.2.2.1) → ((inK IntKind.i64 s.2.1.1) → ((T.ok (T.sl (T.int IntKind.i64)) s.2.1.2.1) → ((T.ok (T.sl (T.int IntKind.i64)) s.2.1.2.2.1) → ((T.ok (T.sl (T.int IntKind.i64)) s.2.1.2.2.2.1) → ((T.ok (T.sl (T.sl (T.int IntKind.i64))) s.2.1.2.2.2.2) → ((inK IntKind.i64 s.2.2.1.1) → ((T.ok (T.sl (T.int IntKind.i64)) s.2.2.1.2.1) → ((T.ok (T.sl (T.int IntKind.i64)) s.2.2.1.2.2.1) → ((T.ok (T.sl (T.int IntKind.i64)) s.2.2.1.2.2.2.1) → ((T.ok (T.sl (T.sl (T.int IntKind.i64))) s.2.2.1.2.2.2.2) → (cnd (decide (s.1.2.2.1 < (((List.length arrows) : Nat) : Int))) (((0 : Int) ≤ s.1.2.2.1) ∧ ((s.1.2.2.1 < (((List.length arrows) : Nat) : Int)) ∧ (((0 : Int) ≤ s.1.2.2.1) ∧ ((s.1.2.2.1 < (((List.length c.2.1) : Nat) : Int)) ∧ (((0 : Int) ≤ (List.getD c.2.1 (Int.toNat s.1.2.2.1) (0 : Int))) ∧ (((List.getD c.2.1 (Int.toNat s.1.2.2.1) (0 : Int)) < (((List.length objects) : Nat) : Int)) ∧ (((0 : Int) ≤ (List.getD arrows (Int.toNat s.1.2.2.1) (0 : Int))) ∧ (((List.getD arrows (Int.toNat s.1.2.2.1) (0 : Int)) < (((List.length s.2.2.1.2.1) : Nat) : Int)) ∧ (((0 : Int) ≤ s.1.2.2.1) ∧ ((s.1.2.2.1 < (((List.length c.2.2.1) : Nat) : Int)) ∧ (((0 : Int) ≤ (List.getD c.2.2.1 (Int.toNat s.1.2.2.1) (0 : Int))) ∧ (((List.getD c.2.2.1 (Int.toNat s.1.2.2.1) (0 : Int)) < (((List.length objects) : Nat) : Int)) ∧ (((0 : Int) ≤ (List.getD arrows (Int.toNat s.1.2.2.1) (0 : Int))) ∧ (((List.getD arrows (Int.toNat s.1.2.2.1) (0 : Int)) < (((List.length s.2.2.1.2.2.1) : Nat) : Int)) ∧ ((inK IntKind.i64 (s.1.2.2.1 + (1 : Int))) ∧ (next (((), ((), ((s.1.2.2.1 + (1 : Int)), ()))), (s.2.1, ((s.2.2.1.1, ((List.set s.2.2.1.2.1 (Int.toNat (List.getD arrows (Int.toNat s.1.2.2.1) (0 : Int))) (List.getD objects (Int.toNat (List.getD c.2.1 (Int.toNat s.1.2.2.1) (0 : Int))) (0 : Int))), ((List.set s.2.2.1.2.2.1 (Int.toNat (List.getD arrows (Int.toNat s.1.2.2.1) (0 : Int))) (List.getD objects (Int.toNat (List.getD c.2.2.1 (Int.toNat s.1.2.2.1) (0 : Int))) (0 : Int))), s.2.2.1.2.2.2))), ()))))))))))))))))))) (loopW (S := ((Unit × (Unit × (Int × Unit))) × ((Int × ((List Int) × ((List Int) × ((List Int) × (List (List Int)))))) × ((Int × ((List Int) × ((List Int) × ((List Int) × (List (List Int)))))) × Unit)))) (fun s1 => (fun next1 => ((inK IntKind.i64 s1.1.2.2.1) → ((inK IntKind.i64 s1.2.1.1) → ((T.ok (T.sl (T.int IntKind.i64)) s1.2.1.2.1) → ((T.ok (T.sl (T.int IntKind.i64)) s1.2.1.2.2.1) → ((T.ok (T.sl (T.int IntKind.i64)) s1.2.1.2.2.2.1) → ((T.ok (T.sl (T.sl (T.int IntKind.i64))) s1.2.1.2.2.2.2) → ((inK IntKind.i64 s1.2.2.1.1) → ((T.ok (T.sl (T.int IntKind.i64)) s1.2.2.1.2.1) → ((T.ok (T.sl (T.int IntKind.i64)) s1.2.2.1.2.2.1) → ((T.ok (T.sl (T.int IntKind.i64)) s1.2.2.1.2.2.2.1) → ((T.ok (T.sl (T.sl (T.int IntKind.i64))) s1.2.2.1.2.2.2.2) → (cnd (decide (s1.1.2.2.1 < (((List.length c.2.2.2.1) : Nat) : Int))) (((0 : Int) ≤ s1.1.2.2.1) ∧ ((s1.1.2.2.1 < (((List.length c.2.2.2.1) : Nat) : Int)) ∧ (((0 : Int) ≤ s1.1.2.2.1) ∧ ((s1.1.2.2.1 < (((List.length objects) : Nat) : Int)) ∧ (((0 : Int) ≤ (List.getD c.2.2.2.1 (Int.toNat s1.1.2.2.1) (0 : Int))) ∧ (((List.getD c.2.2.2.1 (Int.toNat s1.1.2.2.1) (0 : Int)) < (((List.length arrows) : Nat) : Int)) ∧ (((0 : Int) ≤ (List.getD objects (Int.toNat s1.1.2.2.1) (0 : Int))) ∧ (((List.getD objects (Int.toNat s1.1.2.2.1) (0 : Int)) < (((List.length s1.2.2.1.2.2.2.1) : Nat) : Int)) ∧ ((inK IntKind.i64 (s1.1.2.2.1 + (1 : Int))) ∧ (next1 (((), ((), ((s1.1.2.2.1 + (1 : Int)), ()))), (s1.2.1, ((s1.2.2.1.1, (s1.2.2.1.2.1, (s1.2.2.1.2.2.1, ((List.set s1.2.2.1.2.2.2.1 (Int.toNat (List.getD objects (Int.toNat s1.1.2.2.1) (0 : Int))) (List.getD arrows (Int.toNat (List.getD c.2.2.2.1 (Int.toNat s1.1.2.2.1) (0 : Int))) (0 : Int))), s1.2.2.1.2.2.2.2)))), ()))))))))))))) (((List.length arrows) ≤ 40) ∧ (((withinR arrows (((List.length arrows) : Nat) : Int)) = Bool.true) ∧ ((TabRP s1.2.2.1 arrows c (backR arrows)) ∧ (K ((s1.2.2.1.1, (s1.2.2.1.2.1, (s1.2.2.1.2.2.1, (s1.2.2.1.2.2.2.1, (tableR s1.2.2.1 (renFR arrows c (backR arrows))))))), ()))))))))))))))))))) (((), ((), ((0 : Int), ()))), (s.2.1, (s.2.2.1, ())))))))))))))))))) (((), ((), ((0 : Int), ()))), (((0 : Int), (([] : List Int), (([] : List Int), (([] : List Int), ([] : List (List Int)))))), ((c.1, ((List.replicate (Int.toNat (((List.length c.2.1) : Nat) : Int)) (0 : Int)), ((List.replicate (Int.toNat (((List.length c.2.1) : Nat) : Int)) (0 : Int)), ((List.replicate (Int.toNat c.1) (0 : Int)), ([] : List (List Int)))))), ()))))))))))))))))
theorem w_impl_Category_renumber (x : denL c_impl_Category_renumber.args) (K : CategoryD × Unit → Prop) : evF tab (lkp [(38, c_impl_Category_arrows), (66, c_impl_Category_table_ren), (65, c_impl_backwards)]) (cutL [(2, 515), (6, 13), (7, 13), (12, 10)]) Try.f39 (bodyOf Try.f39) (.s .n (.s .n (.s .n (.s (.s .n (.l [(6, (.ad 6 [.de])), (8, (.ad 8 [.de])), (32, (.d (.int .i64)))] [(6, (.pt (.p (.fz (.int .i64)) (.p (.sl (.fz (.int .i64))) (.p (.sl (.fz (.int .i64))) (.p (.sl (.fz (.int .i64))) (.sl (.sl (.fz (.int .i64)))))))))), (8, (.pt (.p (.fz (.int .i64)) (.p (.sl (.fz (.int .i64))) (.p (.sl (.fz (.int .i64))) (.p (.sl (.fz (.int .i64))) (.sl (.sl (.fz (.int .i64))))))))))] [1, 3, 5, 30, 31] .n)) (.s (.s .n (.l [(6, (.ad 6 [.de])), (8, (.ad 8 [.de])), (71, (.d (.int .i64)))] [(6, (.pt (.p (.fz (.int .i64)) (.p (.sl (.fz (.int .i64))) (.p (.sl (.fz (.int .i64))) (.p (.sl (.fz (.int .i64))) (.sl (.sl (.fz (.int .i64)))))))))), (8, (.pt (.p (.fz (.int .i64)) (.p (.sl (.fz (.int .i64))) (.p (.sl (.fz (.int .i64))) (.p (.sl (.fz (.int .i64))) (.sl (.sl (.fz (.int .i64))))))))))] [1, 3, 5, 69, 70] .n)) .n))))) c_impl_Category_renumber x K = W_impl_Category_renumber x.1 x.2.1 x.2.2.1 K := by kernel_rfl
theorem k_impl_Category_renumber : okC Try.f39.ntmps (cutL [(2, 515), (6, 13), (7, 13), (12, 10)]) (bodyOf Try.f39) = true := by kernel_rfl
theorem m_impl_Category_renumber (c : CategoryD) (objects : List Int) (arrows : List Int) (hok : allP (okL c_impl_Category_renumber.args (c, objects, arrows, ()))) (hpre : allP (c_impl_Category_renumber.pre (c, objects, arrows, ()))) : W_impl_Category_renumber c objects arrows (fun r => r = c_impl_Category_renumber.res (c, objects, arrows, ())) := by
  simp only [c_impl_Category_renumber, okL, T.oks, T.ok, ap, allP, true_and, and_true, implies_true] at hok hpre
  try dsimp only [T.den] at hok
  try dsimp only [T.den] at hpre
  unfold W_impl_Category_renumber
  obtain ⟨S, ho, ha⟩ := hpre
  obtain ⟨lo, wo⟩ := bij_len ho
  obtain ⟨la, wa⟩ := bij_len ha
  have hob := S.ob
  have hmm := S.m
  have hlt := S.lt
  have hli := S.li
  have hlc := S.lc
  have hla : arrows.length = c.2.1.length := by omega
  have wo' : withinR objects objects.length = true := by rw [lo]; exact wo
  have wa' : withinR arrows arrows.length = true := by rw [la]; exact wa
  have hbo : (backR objects).length = objects.length := tabN_len _
  have hba : (backR arrows).length = arrows.length := tabN_len _
  have hx : ∀ x : Int, 0 ≤ x → x < objects.length → 0 ≤ renB objects x ∧ renB objects x < c.2.2.2.1.length ∧ 0 ≤ c.2.2.2.1.getD (renB objects x).toNat 0 ∧ c.2.2.2.1.getD (renB objects x).toNat 0 < arrows.length := fun x x0 x1 => by
    have h := ren_hit ho x0 (by omega)
    have h2 := S.idn h.1 h.2.1
    exact ⟨h.1, by omega, h2.1, by omega⟩
  have hf : ∀ k : Int, 0 ≤ k → k < arrows.length → 0 ≤ renB arrows k ∧ renB arrows k < c.2.1.length ∧ 0 ≤ c.2.1.getD (renB arrows k).toNat 0 ∧ c.2.1.getD (renB arrows k).toNat 0 < objects.length ∧ 0 ≤ c.2.2.1.getD (renB arrows k).toNat 0 ∧ c.2.2.1.getD (renB arrows k).toNat 0 < objects.length := fun k k0 k1 => by
    have h := ren_hit ha k0 (by omega)
    have h2 := S.frm h.1 h.2.1
    exact ⟨h.1, h.2.1, h2.1, by omega, h2.2.2.1, by omega⟩
  have hB1 : ∀ k : Int, (backR objects).getD k.toNat 0 = renB objects k := fun _ => rfl
  have hB2 : ∀ k : Int, (backR arrows).getD k.toNat 0 = renB arrows k := fun _ => rfl
  clear hok
  have inj := fun u v u0 u1 v0 v1 => @bij_sep objects c.1 ho u v u0 u1 v0 v1
  have hwa := within_iff.1 wa'
  have hwo := within_iff.1 wo'
  refine ⟨by omega, by omega, by omega, by omega, by omega, by omega, by omega, by omega, by omega, by omega, by omega, by omega, ?_⟩
  refine loop_of (fun (s : ((Unit × (Unit × (Int × Unit))) × ((Int × ((List Int) × ((List Int) × ((List Int) × (List (List Int)))))) × ((Int × ((List Int) × ((List Int) × ((List Int) × (List (List Int)))))) × Unit)))) => 0 ≤ s.1.2.2.1 ∧ s.1.2.2.1 ≤ arrows.length ∧ s.2.2.1 = (c.1, putT arrows (renV objects c.2.1) c.2.1.length s.1.2.2.1, putT arrows (renV objects c.2.2.1) c.2.1.length s.1.2.2.1, List.replicate c.1.toNat 0, [])) (fun (s : ((Unit × (Unit × (Int × Unit))) × ((Int × ((List Int) × ((List Int) × ((List Int) × (List (List Int)))))) × ((Int × ((List Int) × ((List Int) × ((List Int) × (List (List Int)))))) × Unit)))) => (arrows.length - s.1.2.2.1).toNat) ?_ ⟨by simp, by simp, by simp only [putT_0, Int.toNat_natCast]⟩
  rintro ⟨⟨_, _, f, _⟩, z, out, _⟩ next ⟨f0, f1, hq⟩ hnx _ _ _ _ _ _ _ _ _ _ _
  try dsimp only at f0 f1 hq hnx ⊢
  subst hq
  refine cnd_d (fun hc => ?_) (fun hc => ?_)
  · have h := S.frm f0 (by omega)
    have hy := hwa f f0 hc
    refine ⟨f0, hc, f0, by omega, h.1, by omega, hy.1, by dsimp only; rw [putT_len]; omega, f0, by omega, h.2.2.1, by omega, hy.1, by dsimp only; rw [putT_len]; omega, by rw [inK64]; (try dsimp only); omega, hnx _ ⟨(by first | omega | (dsimp only; omega)), (by first | omega | (dsimp only; omega)), ?_⟩ (by first | omega | (dsimp only; omega))⟩
    try dsimp only
    rw [← putT_s f0 hy.1 (by omega), ← putT_s f0 hy.1 (by omega)]; rfl
  have ef : f = arrows.length := by omega
  subst ef
  try dsimp only
  rw [putT_n ha (by omega), putT_n ha (by omega)]
  refine loop_of (fun (s : ((Unit × (Unit × (Int × Unit))) × ((Int × ((List Int) × ((List Int) × ((List Int) × (List (List Int)))))) × ((Int × ((List Int) × ((List Int) × ((List Int) × (List (List Int)))))) × Unit)))) => 0 ≤ s.1.2.2.1 ∧ s.1.2.2.1 ≤ objects.length ∧ s.2.2.1 = (c.1, (tabN c.2.1.length fun k => renV objects c.2.1 (renB arrows k)), (tabN c.2.1.length fun k => renV objects c.2.2.1 (renB arrows k)), putT objects (renV arrows c.2.2.2.1) c.1.toNat s.1.2.2.1, [])) (fun (s : ((Unit × (Unit × (Int × Unit))) × ((Int × ((List Int) × ((List Int) × ((List Int) × (List (List Int)))))) × ((Int × ((List Int) × ((List Int) × ((List Int) × (List (List Int)))))) × Unit)))) => (objects.length - s.1.2.2.1).toNat) ?_ ⟨by simp, by simp, by dsimp only; rw [putT_0]⟩
  rintro ⟨⟨_, _, x, _⟩, z2, out, _⟩ next1 ⟨x0, x1, hq⟩ hn1 _ _ _ _ _ _ _ _ _ _ _
  try dsimp only at x0 x1 hq hn1 ⊢
  subst hq
  refine cnd_d (fun hc => ?_) (fun hc => ?_)
  · have h := S.idn x0 (by omega)
    have hy := hwo x x0 (by omega)
    refine ⟨x0, hc, x0, by omega, h.1, by omega, hy.1, by dsimp only; rw [putT_len]; omega, by rw [inK64]; (try dsimp only); omega, hn1 _ ⟨(by first | omega | (dsimp only; omega)), (by first | omega | (dsimp only; omega)), ?_⟩ (by first | omega | (dsimp only; omega))⟩
    try dsimp only
    rw [← putT_s x0 hy.1 (by omega)]; rfl
  have ex : x = objects.length := by omega
  subst ex
  try dsimp only
  rw [putT_n ho (by omega)]
  have hto : ∀ f : Int, 0 ≤ f → f < c.2.1.length → (tabN c.2.1.length fun k => renV objects c.2.2.1 (renB arrows k)).getD f.toNat 0 = objects.getD (c.2.2.1.getD (renB arrows f).toNat 0).toNat 0 := fun f f0 f1 => by rw [tabN_get f0 f1]; rfl
  have hfr : ∀ f : Int, 0 ≤ f → f < c.2.1.length → (tabN c.2.1.length fun k => renV objects c.2.1 (renB arrows k)).getD f.toNat 0 = objects.getD (c.2.1.getD (renB arrows f).toNat 0).toNat 0 := fun f f0 f1 => by rw [tabN_get f0 f1]; rfl
  have hco : ∀ f g : Int, 0 ≤ f → f < c.2.1.length → 0 ≤ g → g < c.2.1.length → (tabN c.2.1.length fun k => renV objects c.2.2.1 (renB arrows k)).getD f.toNat 0 = (tabN c.2.1.length fun k => renV objects c.2.1 (renB arrows k)).getD g.toNat 0 → c.2.2.1.getD (renB arrows f).toNat 0 = c.2.1.getD (renB arrows g).toNat 0 := fun f g f0 f1 g0 g1 he => by
    rw [hto f f0 f1, hfr g g0 g1] at he
    have h1 := hf f f0 (by omega)
    have h2 := hf g g0 (by omega)
    exact inj _ _ h1.2.2.2.2.1 h1.2.2.2.2.2 h2.2.2.1 h2.2.2.2.1 he
  have hwb : withinR (backR arrows) c.2.1.length = true := within_iff.2 fun k k0 k1 => by
    have h := hf k k0 (by omega)
    exact ⟨h.1, h.2.1⟩
  refine ⟨by omega, wa', ⟨S, by rw [hba]; exact hla, hwb, hla, tabN_len _, tabN_len _, hco⟩, ?_⟩
  have hT : tableR (c.1, (tabN c.2.1.length fun k => renV objects c.2.1 (renB arrows k)), (tabN c.2.1.length fun k => renV objects c.2.2.1 (renB arrows k)), (tabN c.1.toNat fun k => renV arrows c.2.2.2.1 (renB objects k)), []) (renFR arrows c (backR arrows)) = tabN c.2.1.length fun f => tabN c.2.1.length fun g => renCR arrows c f g := by
    unfold tableR
    try dsimp only
    rw [tabN_len]
    refine tabN_congr fun f f0 f1 => tabN_congr fun g g0 g1 => ?_
    have h1 := hf f f0 (by omega)
    have h2 := hf g g0 (by omega)
    unfold tabFR renCR
    try dsimp only
    by_cases he : (tabN c.2.1.length fun k => renV objects c.2.2.1 (renB arrows k)).getD f.toNat 0 = (tabN c.2.1.length fun k => renV objects c.2.1 (renB arrows k)).getD g.toNat 0
    · rw [if_pos he, if_pos ((S.comp h1.1 h1.2.1 h2.1 h2.2.1).2 (hco f g f0 f1 g0 g1 he))]; rfl
    · have hne : c.2.2.1.getD (renB arrows f).toNat 0 ≠ c.2.1.getD (renB arrows g).toNat 0 := fun e => he (by rw [hto f f0 f1, hfr g g0 g1, e])
      rw [if_neg he, S.no h1.1 h1.2.1 h2.1 h2.2.1 hne, if_neg (by omega)]
  rw [hT]
  have e1 : c.2.1.length = arrows.length := hla.symm
  have e2 : c.1.toNat = objects.length := by omega
  simp only [c_impl_Category_renumber, renumR, e1, e2]
  rfl
theorem ct_impl_Category_renumber : CtOk Try.prog 39 c_impl_Category_renumber :=
  ct_by (Φ := lkp [(38, c_impl_Category_arrows), (66, c_impl_Category_table_ren), (65, c_impl_backwards)]) (good_cons ct_impl_Category_arrows (good_cons ct_impl_Category_table_ren (good_cons ct_impl_backwards good_nil))) tab_ok (by kernel_rfl) (fn := Try.f39) (c := bodyOf Try.f39) (by kernel_rfl) (by kernel_rfl) (by kernel_rfl) c_impl_Category_renumber rfl (.s .n (.s .n (.s .n (.s (.s .n (.l [(6, (.ad 6 [.de])), (8, (.ad 8 [.de])), (32, (.d (.int .i64)))] [(6, (.pt (.p (.fz (.int .i64)) (.p (.sl (.fz (.int .i64))) (.p (.sl (.fz (.int .i64))) (.p (.sl (.fz (.int .i64))) (.sl (.sl (.fz (.int .i64)))))))))), (8, (.pt (.p (.fz (.int .i64)) (.p (.sl (.fz (.int .i64))) (.p (.sl (.fz (.int .i64))) (.p (.sl (.fz (.int .i64))) (.sl (.sl (.fz (.int .i64))))))))))] [1, 3, 5, 30, 31] .n)) (.s (.s .n (.l [(6, (.ad 6 [.de])), (8, (.ad 8 [.de])), (71, (.d (.int .i64)))] [(6, (.pt (.p (.fz (.int .i64)) (.p (.sl (.fz (.int .i64))) (.p (.sl (.fz (.int .i64))) (.p (.sl (.fz (.int .i64))) (.sl (.sl (.fz (.int .i64)))))))))), (8, (.pt (.p (.fz (.int .i64)) (.p (.sl (.fz (.int .i64))) (.p (.sl (.fz (.int .i64))) (.p (.sl (.fz (.int .i64))) (.sl (.sl (.fz (.int .i64))))))))))] [1, 3, 5, 69, 70] .n)) .n))))) (cutL [(2, 515), (6, 13), (7, 13), (12, 10)]) (by kernel_rfl) (by kernel_rfl) k_impl_Category_renumber (by decide) (fun x K => W_impl_Category_renumber x.1 x.2.1 x.2.2.1 K) w_impl_Category_renumber (fun x h1 h2 => m_impl_Category_renumber x.1 x.2.1 x.2.2.1 h1 h2)
def objCodeR (c : CategoryD) (l : List Int) : Int := if catR c = true then (if withinR l c.1 = true then 0 else 2) else 1
theorem cat_shape {c : CategoryD} (h : catR c = true) : ShapeP c := by
  simp only [catR, Bool.and_eq_true] at h; exact shape_iff.1 h.1

def c_impl_objectCode : Ct := ⟨[(.pt CategoryT), (.sl (.int .i64))], [false, false], fun x => [], [(false, (.fz (.int .i64)))], fun x => (objCodeR x.1 x.2.1, ()), false, none⟩
def W_impl_objectCode (c : CategoryD) (list : List Int) (K : Int × Unit → Prop) : Prop := (cnd (!(catR c)) (K ((1 : Int), ())) ((inK IntKind.i64 (c.1 - (1 : Int))) ∧ (cnd (!(withinR list c.1)) (K ((2 : Int), ())) (K ((0 : Int), ())))))
theorem w_impl_objectCode (x : denL c_impl_objectCode.args) (K : Int × Unit → Prop) : evF tab (lkp [(36, c_impl_Category_isCategory), (63, c_impl_within)]) (cutL []) Try.f44 (bodyOf Try.f44) .n c_impl_objectCode x K = W_impl_objectCode x.1 x.2.1 K := by kernel_rfl
theorem k_impl_objectCode : okC Try.f44.ntmps (cutL []) (bodyOf Try.f44) = true := by kernel_rfl
theorem m_impl_objectCode (c : CategoryD) (list : List Int) (hok : allP (okL c_impl_objectCode.args (c, list, ()))) (hpre : allP (c_impl_objectCode.pre (c, list, ()))) : W_impl_objectCode c list (fun r => r = c_impl_objectCode.res (c, list, ())) := by
  simp only [c_impl_objectCode, okL, T.oks, T.ok, ap, allP, true_and, and_true, implies_true] at hok hpre
  try dsimp only [T.den] at hok
  try dsimp only [T.den] at hpre
  unfold W_impl_objectCode
  simp only [c_impl_objectCode, objCodeR]
  have h1 := fun h => (cat_shape (c := c) h).ob
  grind [cnd, nb_eq, inK64]
theorem ct_impl_objectCode : CtOk Try.prog 44 c_impl_objectCode :=
  ct_by (Φ := lkp [(36, c_impl_Category_isCategory), (63, c_impl_within)]) (good_cons ct_impl_Category_isCategory (good_cons ct_impl_within good_nil)) tab_ok (by kernel_rfl) (fn := Try.f44) (c := bodyOf Try.f44) (by kernel_rfl) (by kernel_rfl) (by kernel_rfl) c_impl_objectCode rfl .n (cutL []) (by kernel_rfl) (by kernel_rfl) k_impl_objectCode (by decide) (fun x K => W_impl_objectCode x.1 x.2.1 K) w_impl_objectCode (fun x h1 h2 => m_impl_objectCode x.1 x.2.1 h1 h2)
def renCatR (c : CategoryD) (o a : List Int) : CategoryD × Int := if catR c = true then (if (bijR o c.1 && bijR a c.2.1.length) = true then (renumR c o a, 0) else (T.dflt CategoryT, 2)) else (T.dflt CategoryT, 1)

def c_impl_RenumberCategory : Ct := ⟨[CategoryT, (.sl (.int .i64)), (.sl (.int .i64))], [true, false, false], fun x => [], [(true, CategoryO), (false, (.fz (.int .i64)))], fun x => ((renCatR x.1 x.2.1 x.2.2.1).1, (renCatR x.1 x.2.1 x.2.2.1).2, ()), false, none⟩
def W_impl_RenumberCategory (c : CategoryD) (objects : List Int) (arrows : List Int) (K : CategoryD × Int × Unit → Prop) : Prop := (cnd (!(catR c)) (K (((0 : Int), (([] : List Int), (([] : List Int), (([] : List Int), ([] : List (List Int)))))), ((1 : Int), ()))) (((0 : Int) ≤ c.1) ∧ ((c.1 ≤ (256 : Int)) ∧ ((((!(bijR objects c.1)) = Bool.false) → (((((List.length c.2.1) : Nat) : Int) ≤ (256 : Int)) ∧ ((0 : Int) ≤ (((List.length c.2.1) : Nat) : Int)))) ∧ (cnd ((!(bijR objects c.1)) || (!(bijR arrows (((List.length c.2.1) : Nat) : Int)))) (K (((0 : Int), (([] : List Int), (([] : List Int), (([] : List Int), ([] : List (List Int)))))), ((2 : Int), ()))) ((ShapeP c) ∧ (((bijR objects c.1) = Bool.true) ∧ (((bijR arrows (((List.length c.2.1) : Nat) : Int)) = Bool.true) ∧ (K ((renumR c objects arrows), ((0 : Int), ())))))))))))
theorem w_impl_RenumberCategory (x : denL c_impl_RenumberCategory.args) (K : CategoryD × Int × Unit → Prop) : evF tab (lkp [(38, c_impl_Category_arrows), (36, c_impl_Category_isCategory), (39, c_impl_Category_renumber), (37, c_impl_isBijective)]) (cutL []) Try.f10 (bodyOf Try.f10) .n c_impl_RenumberCategory x K = W_impl_RenumberCategory x.1 x.2.1 x.2.2.1 K := by kernel_rfl
theorem k_impl_RenumberCategory : okC Try.f10.ntmps (cutL []) (bodyOf Try.f10) = true := by kernel_rfl
theorem m_impl_RenumberCategory (c : CategoryD) (objects : List Int) (arrows : List Int) (hok : allP (okL c_impl_RenumberCategory.args (c, objects, arrows, ()))) (hpre : allP (c_impl_RenumberCategory.pre (c, objects, arrows, ()))) : W_impl_RenumberCategory c objects arrows (fun r => r = c_impl_RenumberCategory.res (c, objects, arrows, ())) := by
  simp only [c_impl_RenumberCategory, okL, T.oks, T.ok, ap, allP, true_and, and_true, implies_true] at hok hpre
  try dsimp only [T.den] at hok
  try dsimp only [T.den] at hpre
  unfold W_impl_RenumberCategory
  have hcat : catR c = false → (T.dflt CategoryT : CategoryD) = (0, [], [], [], []) := fun _ => rfl
  refine cnd_of (fun hx => ?_) (fun hx => ?_)
  · have h : catR c = false := by rw [Bool.not_eq_true'] at hx; exact hx
    simp only [c_impl_RenumberCategory, renCatR]; rw [if_neg (by rw [h]; simp)]; rfl
  have h : catR c = true := by rw [Bool.not_eq_false'] at hx; exact hx
  have S := cat_shape h
  have hob := S.ob
  have hmm := S.m
  refine ⟨by omega, by omega, fun _ => by omega, cnd_of (fun hy => ?_) (fun hy => ?_)⟩
  · have hb : (bijR objects c.1 && bijR arrows c.2.1.length) = false := (by decide : ∀ a b : Bool, (!a || !b) = true → (a && b) = false) _ _ hy
    simp only [c_impl_RenumberCategory, renCatR]; rw [if_pos h, if_neg (by rw [hb]; simp)]; rfl
  · have hb : (bijR objects c.1 && bijR arrows c.2.1.length) = true := (by decide : ∀ a b : Bool, (!a || !b) = false → (a && b) = true) _ _ hy
    have hb2 := hb
    rw [Bool.and_eq_true] at hb2
    refine ⟨S, hb2.1, hb2.2, ?_⟩
    simp only [c_impl_RenumberCategory, renCatR]; rw [if_pos h, if_pos hb]
theorem ct_impl_RenumberCategory : CtOk Try.prog 10 c_impl_RenumberCategory :=
  ct_by (Φ := lkp [(38, c_impl_Category_arrows), (36, c_impl_Category_isCategory), (39, c_impl_Category_renumber), (37, c_impl_isBijective)]) (good_cons ct_impl_Category_arrows (good_cons ct_impl_Category_isCategory (good_cons ct_impl_Category_renumber (good_cons ct_impl_isBijective good_nil)))) tab_ok (by kernel_rfl) (fn := Try.f10) (c := bodyOf Try.f10) (by kernel_rfl) (by kernel_rfl) (by kernel_rfl) c_impl_RenumberCategory rfl .n (cutL []) (by kernel_rfl) (by kernel_rfl) k_impl_RenumberCategory (by decide) (fun x K => W_impl_RenumberCategory x.1 x.2.1 x.2.2.1 K) w_impl_RenumberCategory (fun x h1 h2 => m_impl_RenumberCategory x.1 x.2.1 x.2.2.1 h1 h2)
def c_laws_eqInt64S : Ct := ⟨[(.sl (.int .i64)), (.sl (.int .i64))], [false, false], fun x => [], [(false, (.fz .bool))], fun x => (eqR (.sl (.int .i64)) x.1 x.2.1, ()), false, none⟩
def W_laws_eqInt64S (a : List Int) (b : List Int) (K : Bool × Unit → Prop) : Prop := (cnd ((((List.length a) : Nat) : Int) != (((List.length b) : Nat) : Int)) (K (Bool.false, ())) (loopW (S := ((Int × Unit) × Unit)) (fun s => (fun next => ((inK IntKind.i64 s.1.1) → (cnd (decide (s.1.1 < (((List.length a) : Nat) : Int))) (((0 : Int) ≤ s.1.1) ∧ ((s.1.1 < (((List.length a) : Nat) : Int)) ∧ (((0 : Int) ≤ s.1.1) ∧ ((s.1.1 < (((List.length b) : Nat) : Int)) ∧ (cnd ((List.getD a (Int.toNat s.1.1) (0 : Int)) != (List.getD b (Int.toNat s.1.1) (0 : Int))) (K (Bool.false, ())) ((inK IntKind.i64 (s.1.1 + (1 : Int))) ∧ (next (((s.1.1 + (1 : Int)), ()), ())))))))) (K (Bool.true, ())))))) (((0 : Int), ()), ())))
theorem w_laws_eqInt64S (x : denL c_laws_eqInt64S.args) (K : Bool × Unit → Prop) : evF tab (lkp []) (cutL [(6, 9)]) Try.f12 (bodyOf Try.f12) (.s .n (.s .n (.s (.s .n (.l [(5, (.d (.int .i64)))] [] [0, 1] .n)) .n))) c_laws_eqInt64S x K = W_laws_eqInt64S x.1 x.2.1 K := by kernel_rfl
theorem k_laws_eqInt64S : okC Try.f12.ntmps (cutL [(6, 9)]) (bodyOf Try.f12) = true := by kernel_rfl
theorem m_laws_eqInt64S (a : List Int) (b : List Int) (hok : allP (okL c_laws_eqInt64S.args (a, b, ()))) (hpre : allP (c_laws_eqInt64S.pre (a, b, ()))) : W_laws_eqInt64S a b (fun r => r = c_laws_eqInt64S.res (a, b, ())) := by
  simp only [c_laws_eqInt64S, okL, T.oks, T.ok, ap, allP, true_and, and_true, implies_true] at hok hpre
  try dsimp only [T.den] at hok
  try dsimp only [T.den] at hpre
  unfold W_laws_eqInt64S
  refine cnd_of (fun hc => ?_) (fun hc => ?_)
  · simp only [c_laws_eqInt64S, Prod.mk.injEq, and_true]; rw [eqR_f]; rintro rfl; simp at hc
  have hl : a.length = b.length := by simp at hc; omega
  refine loop_of (fun (s : ((Int × Unit) × Unit)) => 0 ≤ s.1.1 ∧ s.1.1 ≤ a.length ∧ a.take s.1.1.toNat = b.take s.1.1.toNat) (fun (s : ((Int × Unit) × Unit)) => (a.length - s.1.1).toNat) ?_ (by simp)
  rintro ⟨⟨i, _⟩, _⟩ next ⟨h0, h1, h2⟩ hn hin
  simp only at h0 h1 h2 hn ⊢
  refine cnd_d (fun hc => ?_) (fun hc => ?_)
  · have ha := take_c a (0 : Int) h0 hc
    have hb := take_c b (0 : Int) h0 (by omega)
    refine ⟨by omega, by omega, by omega, by omega, cnd_of (fun hd => ?_) (fun hd => ?_)⟩
    · simp only [c_laws_eqInt64S, Prod.mk.injEq, and_true]; rw [eqR_f]; rintro rfl; simp at hd
    · refine ⟨by grind [cnd, nb_eq, inK64], hn _ ⟨(by first | omega | (dsimp only; omega)), (by first | omega | (dsimp only; omega)), ?_⟩ (by first | omega | (dsimp only; omega))⟩
      simp only [Bool.not_eq_false', eqR_iff, bne_eq_false_iff_eq] at hd
      simp only [ha, hb, h2, hd]
  · rw [take_n a (by omega), take_n b (by omega)] at h2
    simp [h2, c_laws_eqInt64S]
theorem ct_laws_eqInt64S : CtOk Try.prog 12 c_laws_eqInt64S :=
  ct_by (Φ := lkp []) good_nil tab_ok (by kernel_rfl) (fn := Try.f12) (c := bodyOf Try.f12) (by kernel_rfl) (by kernel_rfl) (by kernel_rfl) c_laws_eqInt64S rfl (.s .n (.s .n (.s (.s .n (.l [(5, (.d (.int .i64)))] [] [0, 1] .n)) .n))) (cutL [(6, 9)]) (by kernel_rfl) (by kernel_rfl) k_laws_eqInt64S (by decide) (fun x K => W_laws_eqInt64S x.1 x.2.1 K) w_laws_eqInt64S (fun x h1 h2 => m_laws_eqInt64S x.1 x.2.1 h1 h2)
def c_laws_eqInt64SS : Ct := ⟨[(.sl (.sl (.int .i64))), (.sl (.sl (.int .i64)))], [false, false], fun x => [], [(false, (.fz .bool))], fun x => (eqR (.sl (.sl (.int .i64))) x.1 x.2.1, ()), false, none⟩
def W_laws_eqInt64SS (a : List (List Int)) (b : List (List Int)) (K : Bool × Unit → Prop) : Prop := (cnd ((((List.length a) : Nat) : Int) != (((List.length b) : Nat) : Int)) (K (Bool.false, ())) (loopW (S := ((Int × Unit) × Unit)) (fun s => (fun next => ((inK IntKind.i64 s.1.1) → (cnd (decide (s.1.1 < (((List.length a) : Nat) : Int))) (((0 : Int) ≤ s.1.1) ∧ ((s.1.1 < (((List.length a) : Nat) : Int)) ∧ (((0 : Int) ≤ s.1.1) ∧ ((s.1.1 < (((List.length b) : Nat) : Int)) ∧ (cnd (!(eqR (T.sl (T.int IntKind.i64)) (List.getD a (Int.toNat s.1.1) ([] : List Int)) (List.getD b (Int.toNat s.1.1) ([] : List Int)))) (K (Bool.false, ())) ((inK IntKind.i64 (s.1.1 + (1 : Int))) ∧ (next (((s.1.1 + (1 : Int)), ()), ())))))))) (K (Bool.true, ())))))) (((0 : Int), ()), ())))
theorem w_laws_eqInt64SS (x : denL c_laws_eqInt64SS.args) (K : Bool × Unit → Prop) : evF tab (lkp [(12, c_laws_eqInt64S)]) (cutL [(6, 10)]) Try.f18 (bodyOf Try.f18) (.s .n (.s .n (.s (.s .n (.l [(5, (.d (.int .i64)))] [] [0, 1] .n)) .n))) c_laws_eqInt64SS x K = W_laws_eqInt64SS x.1 x.2.1 K := by kernel_rfl
theorem k_laws_eqInt64SS : okC Try.f18.ntmps (cutL [(6, 10)]) (bodyOf Try.f18) = true := by kernel_rfl
theorem m_laws_eqInt64SS (a : List (List Int)) (b : List (List Int)) (hok : allP (okL c_laws_eqInt64SS.args (a, b, ()))) (hpre : allP (c_laws_eqInt64SS.pre (a, b, ()))) : W_laws_eqInt64SS a b (fun r => r = c_laws_eqInt64SS.res (a, b, ())) := by
  simp only [c_laws_eqInt64SS, okL, T.oks, T.ok, ap, allP, true_and, and_true, implies_true] at hok hpre
  try dsimp only [T.den] at hok
  try dsimp only [T.den] at hpre
  unfold W_laws_eqInt64SS
  refine cnd_of (fun hc => ?_) (fun hc => ?_)
  · simp only [c_laws_eqInt64SS, Prod.mk.injEq, and_true]; rw [eqR_f]; rintro rfl; simp at hc
  have hl : a.length = b.length := by simp at hc; omega
  refine loop_of (fun (s : ((Int × Unit) × Unit)) => 0 ≤ s.1.1 ∧ s.1.1 ≤ a.length ∧ a.take s.1.1.toNat = b.take s.1.1.toNat) (fun (s : ((Int × Unit) × Unit)) => (a.length - s.1.1).toNat) ?_ (by simp)
  rintro ⟨⟨i, _⟩, _⟩ next ⟨h0, h1, h2⟩ hn hin
  simp only at h0 h1 h2 hn ⊢
  refine cnd_d (fun hc => ?_) (fun hc => ?_)
  · have ha := take_c a ([] : List Int) h0 hc
    have hb := take_c b ([] : List Int) h0 (by omega)
    refine ⟨by omega, by omega, by omega, by omega, cnd_of (fun hd => ?_) (fun hd => ?_)⟩
    · simp only [c_laws_eqInt64SS, Prod.mk.injEq, and_true]; rw [eqR_f]; rintro rfl; simp at hd
    · refine ⟨by grind [cnd, nb_eq, inK64], hn _ ⟨(by first | omega | (dsimp only; omega)), (by first | omega | (dsimp only; omega)), ?_⟩ (by first | omega | (dsimp only; omega))⟩
      simp only [Bool.not_eq_false', eqR_iff, bne_eq_false_iff_eq] at hd
      simp only [ha, hb, h2, hd]
  · rw [take_n a (by omega), take_n b (by omega)] at h2
    simp [h2, c_laws_eqInt64SS]
theorem ct_laws_eqInt64SS : CtOk Try.prog 18 c_laws_eqInt64SS :=
  ct_by (Φ := lkp [(12, c_laws_eqInt64S)]) (good_cons ct_laws_eqInt64S good_nil) tab_ok (by kernel_rfl) (fn := Try.f18) (c := bodyOf Try.f18) (by kernel_rfl) (by kernel_rfl) (by kernel_rfl) c_laws_eqInt64SS rfl (.s .n (.s .n (.s (.s .n (.l [(5, (.d (.int .i64)))] [] [0, 1] .n)) .n))) (cutL [(6, 10)]) (by kernel_rfl) (by kernel_rfl) k_laws_eqInt64SS (by decide) (fun x K => W_laws_eqInt64SS x.1 x.2.1 K) w_laws_eqInt64SS (fun x h1 h2 => m_laws_eqInt64SS x.1 x.2.1 h1 h2)
def c_laws_eqCategory : Ct := ⟨[CategoryT, CategoryT], [true, true], fun x => [], [(false, (.fz .bool))], fun x => (eqR CategoryT x.1 x.2.1, ()), false, none⟩
def W_laws_eqCategory (a : CategoryD) (b : CategoryD) (K : Bool × Unit → Prop) : Prop := (cnd (a.1 != b.1) (K (Bool.false, ())) (cnd (!(eqR (T.sl (T.int IntKind.i64)) a.2.1 b.2.1)) (K (Bool.false, ())) (cnd (!(eqR (T.sl (T.int IntKind.i64)) a.2.2.1 b.2.2.1)) (K (Bool.false, ())) (cnd (!(eqR (T.sl (T.int IntKind.i64)) a.2.2.2.1 b.2.2.2.1)) (K (Bool.false, ())) (cnd (!(eqR (T.sl (T.sl (T.int IntKind.i64))) a.2.2.2.2 b.2.2.2.2)) (K (Bool.false, ())) (K (Bool.true, ())))))))
theorem w_laws_eqCategory (x : denL c_laws_eqCategory.args) (K : Bool × Unit → Prop) : evF tab (lkp [(12, c_laws_eqInt64S), (18, c_laws_eqInt64SS)]) (cutL []) Try.f11 (bodyOf Try.f11) .n c_laws_eqCategory x K = W_laws_eqCategory x.1 x.2.1 K := by kernel_rfl
theorem k_laws_eqCategory : okC Try.f11.ntmps (cutL []) (bodyOf Try.f11) = true := by kernel_rfl
theorem m_laws_eqCategory (a : CategoryD) (b : CategoryD) (hok : allP (okL c_laws_eqCategory.args (a, b, ()))) (hpre : allP (c_laws_eqCategory.pre (a, b, ()))) : W_laws_eqCategory a b (fun r => r = c_laws_eqCategory.res (a, b, ())) := by
  simp only [c_laws_eqCategory, okL, T.oks, T.ok, ap, allP, true_and, and_true, implies_true] at hok hpre
  try dsimp only [T.den] at hok
  try dsimp only [T.den] at hpre
  unfold W_laws_eqCategory
  simp only [c_laws_eqCategory, eqR_p, eqR_int, eqR_bool]
  grind [cnd, nb_eq, inK64]
theorem ct_laws_eqCategory : CtOk Try.prog 11 c_laws_eqCategory :=
  ct_by (Φ := lkp [(12, c_laws_eqInt64S), (18, c_laws_eqInt64SS)]) (good_cons ct_laws_eqInt64S (good_cons ct_laws_eqInt64SS good_nil)) tab_ok (by kernel_rfl) (fn := Try.f11) (c := bodyOf Try.f11) (by kernel_rfl) (by kernel_rfl) (by kernel_rfl) c_laws_eqCategory rfl .n (cutL []) (by kernel_rfl) (by kernel_rfl) k_laws_eqCategory (by decide) (fun x K => W_laws_eqCategory x.1 x.2.1 K) w_laws_eqCategory (fun x h1 h2 => m_laws_eqCategory x.1 x.2.1 h1 h2)
def c_laws_heldInt64S : Ct := ⟨[(.sl (.int .i64)), (.int .i64)], [false, false], fun x => [0 ≤ x.2.1, x.2.1 + ckR (.sl (.int .i64)) x.1 ≤ 4611686018427387904], [(false, (.fz (.int .i64)))], fun x => (hdR (.sl (.int .i64)) x.1 x.2.1, ()), false, none⟩
def W_laws_heldInt64S (a : List Int) (k : Int) (K : Int × Unit → Prop) : Prop := (loopW (S := ((Int × (Int × Unit)) × Unit)) (fun s => (fun next => ((inK IntKind.i64 s.1.1) → ((inK IntKind.i64 s.1.2.1) → (cnd (decide (s.1.2.1 < (((List.length a) : Nat) : Int))) (((0 : Int) ≤ s.1.2.1) ∧ ((s.1.2.1 < (((List.length a) : Nat) : Int)) ∧ (cnd ((List.getD a (Int.toNat s.1.2.1) (0 : Int)) != s.1.1) (K ((-(1 : Int)), ())) ((inK IntKind.i64 (s.1.1 + (1 : Int))) ∧ ((inK IntKind.i64 (s.1.2.1 + (1 : Int))) ∧ (next (((s.1.1 + (1 : Int)), ((s.1.2.1 + (1 : Int)), ())), ()))))))) (K (s.1.1, ()))))))) ((k, ((0 : Int), ())), ()))
theorem w_laws_heldInt64S (x : denL c_laws_heldInt64S.args) (K : Int × Unit → Prop) : evF tab (lkp []) (cutL []) Try.f40 (bodyOf Try.f40) (.s .n (.s (.s .n (.l [(1, (.d (.int .i64))), (5, (.d (.int .i64)))] [] [0] .n)) .n)) c_laws_heldInt64S x K = W_laws_heldInt64S x.1 x.2.1 K := by kernel_rfl
theorem k_laws_heldInt64S : okC Try.f40.ntmps (cutL []) (bodyOf Try.f40) = true := by kernel_rfl
theorem m_laws_heldInt64S (a : List Int) (k : Int) (hok : allP (okL c_laws_heldInt64S.args (a, k, ()))) (hpre : allP (c_laws_heldInt64S.pre (a, k, ()))) : W_laws_heldInt64S a k (fun r => r = c_laws_heldInt64S.res (a, k, ())) := by
  simp only [c_laws_heldInt64S, okL, T.oks, T.ok, ap, allP, true_and, and_true, implies_true] at hok hpre
  try dsimp only [T.den] at hok
  try dsimp only [T.den] at hpre
  unfold W_laws_heldInt64S
  obtain ⟨h0, hb⟩ := hpre
  have hll : a.length ≤ 140737488355328 := by simp only [nb_eq] at hok; omega
  refine held_loop (e := .int .i64) (0 : Int) a k h0 hb (fun k i next i0 i1 k0 kb hbad hn h1 h2 => ?_) (fun i next hi h1 h2 => ?_)
  · try dsimp only
    simp only [ckR] at kb
    simp only [hd_int] at hbad hn
    refine cnd_d (fun _ => ⟨i0, i1, cnd_of (fun hx => ?_) (fun hx => ⟨by rw [inK64]; (try dsimp only); omega, by rw [inK64]; (try dsimp only); omega, ?_⟩)⟩) (fun h => absurd i1 h)
    · rw [bne_iff_ne] at hx
      rw [if_neg hx] at hbad
      simp only [c_laws_heldInt64S]; rw [hbad (by omega)]
    · rw [bne_eq_false_iff_eq] at hx
      rw [if_pos hx] at hn
      exact hn (by omega)
  · exact cnd_d (fun h => absurd h (by dsimp only; omega)) (fun _ => rfl)
theorem ct_laws_heldInt64S : CtOk Try.prog 40 c_laws_heldInt64S :=
  ct_by (Φ := lkp []) good_nil tab_ok (by kernel_rfl) (fn := Try.f40) (c := bodyOf Try.f40) (by kernel_rfl) (by kernel_rfl) (by kernel_rfl) c_laws_heldInt64S rfl (.s .n (.s (.s .n (.l [(1, (.d (.int .i64))), (5, (.d (.int .i64)))] [] [0] .n)) .n)) (cutL []) (by kernel_rfl) (by kernel_rfl) k_laws_heldInt64S (by decide) (fun x K => W_laws_heldInt64S x.1 x.2.1 K) w_laws_heldInt64S (fun x h1 h2 => m_laws_heldInt64S x.1 x.2.1 h1 h2)
def c_laws_heldInt64SS : Ct := ⟨[(.sl (.sl (.int .i64))), (.int .i64)], [false, false], fun x => [0 ≤ x.2.1, x.2.1 + ckR (.sl (.sl (.int .i64))) x.1 ≤ 4611686018427387904], [(false, (.fz (.int .i64)))], fun x => (hdR (.sl (.sl (.int .i64))) x.1 x.2.1, ()), false, none⟩
def W_laws_heldInt64SS (a : List (List Int)) (k : Int) (K : Int × Unit → Prop) : Prop := (loopW (S := ((Int × (Int × Unit)) × Unit)) (fun s => (fun next => ((inK IntKind.i64 s.1.1) → ((inK IntKind.i64 s.1.2.1) → (cnd (decide (s.1.2.1 < (((List.length a) : Nat) : Int))) (((0 : Int) ≤ s.1.2.1) ∧ ((s.1.2.1 < (((List.length a) : Nat) : Int)) ∧ (((0 : Int) ≤ s.1.1) ∧ (((s.1.1 + (((ckR (T.sl (T.int IntKind.i64)) (List.getD a (Int.toNat s.1.2.1) ([] : List Int))) : Nat) : Int)) ≤ (4611686018427387904 : Int)) ∧ (cnd (decide ((hdR (T.sl (T.int IntKind.i64)) (List.getD a (Int.toNat s.1.2.1) ([] : List Int)) s.1.1) < (0 : Int))) (K ((-(1 : Int)), ())) ((inK IntKind.i64 (s.1.2.1 + (1 : Int))) ∧ (next (((hdR (T.sl (T.int IntKind.i64)) (List.getD a (Int.toNat s.1.2.1) ([] : List Int)) s.1.1), ((s.1.2.1 + (1 : Int)), ())), ())))))))) (K (s.1.1, ()))))))) ((k, ((0 : Int), ())), ()))
theorem w_laws_heldInt64SS (x : denL c_laws_heldInt64SS.args) (K : Int × Unit → Prop) : evF tab (lkp [(40, c_laws_heldInt64S)]) (cutL []) Try.f20 (bodyOf Try.f20) (.s .n (.s (.s .n (.l [(1, (.d (.int .i64))), (5, (.d (.int .i64)))] [] [0] .n)) .n)) c_laws_heldInt64SS x K = W_laws_heldInt64SS x.1 x.2.1 K := by kernel_rfl
theorem k_laws_heldInt64SS : okC Try.f20.ntmps (cutL []) (bodyOf Try.f20) = true := by kernel_rfl
theorem m_laws_heldInt64SS (a : List (List Int)) (k : Int) (hok : allP (okL c_laws_heldInt64SS.args (a, k, ()))) (hpre : allP (c_laws_heldInt64SS.pre (a, k, ()))) : W_laws_heldInt64SS a k (fun r => r = c_laws_heldInt64SS.res (a, k, ())) := by
  simp only [c_laws_heldInt64SS, okL, T.oks, T.ok, ap, allP, true_and, and_true, implies_true] at hok hpre
  try dsimp only [T.den] at hok
  try dsimp only [T.den] at hpre
  unfold W_laws_heldInt64SS
  obtain ⟨h0, hb⟩ := hpre
  have hll : a.length ≤ 140737488355328 := by simp only [nb_eq] at hok; omega
  refine held_loop (e := (.sl (.int .i64))) ([] : List Int) a k h0 hb (fun k i next i0 i1 k0 kb hbad hn h1 h2 => ?_) (fun i next hi h1 h2 => ?_)
  · try dsimp only
    refine cnd_d (fun _ => ⟨i0, i1, k0, kb, cnd_d (fun hx => ?_) (fun hx => ⟨by rw [inK64]; (try dsimp only); omega, hn hx⟩)⟩) (fun h => absurd i1 h)
    simp only [c_laws_heldInt64SS]; rw [hbad hx]
  · exact cnd_d (fun h => absurd h (by dsimp only; omega)) (fun _ => rfl)
theorem ct_laws_heldInt64SS : CtOk Try.prog 20 c_laws_heldInt64SS :=
  ct_by (Φ := lkp [(40, c_laws_heldInt64S)]) (good_cons ct_laws_heldInt64S good_nil) tab_ok (by kernel_rfl) (fn := Try.f20) (c := bodyOf Try.f20) (by kernel_rfl) (by kernel_rfl) (by kernel_rfl) c_laws_heldInt64SS rfl (.s .n (.s (.s .n (.l [(1, (.d (.int .i64))), (5, (.d (.int .i64)))] [] [0] .n)) .n)) (cutL []) (by kernel_rfl) (by kernel_rfl) k_laws_heldInt64SS (by decide) (fun x K => W_laws_heldInt64SS x.1 x.2.1 K) w_laws_heldInt64SS (fun x h1 h2 => m_laws_heldInt64SS x.1 x.2.1 h1 h2)
def c_laws_heldCategory : Ct := ⟨[CategoryT, (.int .i64)], [true, false], fun x => [0 ≤ x.2.1, x.2.1 + ctR CategoryT x.1 ≤ 4611686018427387904], [(false, (.fz (.int .i64)))], fun x => (htR CategoryT x.1 x.2.1, ()), false, none⟩
def W_laws_heldCategory (a : CategoryD) (k : Int) (K : Int × Unit → Prop) : Prop := (((0 : Int) ≤ k) ∧ (((k + (((ckR (T.sl (T.int IntKind.i64)) a.2.1) : Nat) : Int)) ≤ (4611686018427387904 : Int)) ∧ (cnd (decide ((hdR (T.sl (T.int IntKind.i64)) a.2.1 k) < (0 : Int))) (K ((-(1 : Int)), ())) (((0 : Int) ≤ (hdR (T.sl (T.int IntKind.i64)) a.2.1 k)) ∧ ((((hdR (T.sl (T.int IntKind.i64)) a.2.1 k) + (((ckR (T.sl (T.int IntKind.i64)) a.2.2.1) : Nat) : Int)) ≤ (4611686018427387904 : Int)) ∧ (cnd (decide ((hdR (T.sl (T.int IntKind.i64)) a.2.2.1 (hdR (T.sl (T.int IntKind.i64)) a.2.1 k)) < (0 : Int))) (K ((-(1 : Int)), ())) (((0 : Int) ≤ (hdR (T.sl (T.int IntKind.i64)) a.2.2.1 (hdR (T.sl (T.int IntKind.i64)) a.2.1 k))) ∧ ((((hdR (T.sl (T.int IntKind.i64)) a.2.2.1 (hdR (T.sl (T.int IntKind.i64)) a.2.1 k)) + (((ckR (T.sl (T.int IntKind.i64)) a.2.2.2.1) : Nat) : Int)) ≤ (4611686018427387904 : Int)) ∧ (cnd (decide ((hdR (T.sl (T.int IntKind.i64)) a.2.2.2.1 (hdR (T.sl (T.int IntKind.i64)) a.2.2.1 (hdR (T.sl (T.int IntKind.i64)) a.2.1 k))) < (0 : Int))) (K ((-(1 : Int)), ())) (((0 : Int) ≤ (hdR (T.sl (T.int IntKind.i64)) a.2.2.2.1 (hdR (T.sl (T.int IntKind.i64)) a.2.2.1 (hdR (T.sl (T.int IntKind.i64)) a.2.1 k)))) ∧ ((((hdR (T.sl (T.int IntKind.i64)) a.2.2.2.1 (hdR (T.sl (T.int IntKind.i64)) a.2.2.1 (hdR (T.sl (T.int IntKind.i64)) a.2.1 k))) + (((ckR (T.sl (T.sl (T.int IntKind.i64))) a.2.2.2.2) : Nat) : Int)) ≤ (4611686018427387904 : Int)) ∧ (cnd (decide ((hdR (T.sl (T.sl (T.int IntKind.i64))) a.2.2.2.2 (hdR (T.sl (T.int IntKind.i64)) a.2.2.2.1 (hdR (T.sl (T.int IntKind.i64)) a.2.2.1 (hdR (T.sl (T.int IntKind.i64)) a.2.1 k)))) < (0 : Int))) (K ((-(1 : Int)), ())) (K ((hdR (T.sl (T.sl (T.int IntKind.i64))) a.2.2.2.2 (hdR (T.sl (T.int IntKind.i64)) a.2.2.2.1 (hdR (T.sl (T.int IntKind.i64)) a.2.2.1 (hdR (T.sl (T.int IntKind.i64)) a.2.1 k)))), ()))))))))))))))
theorem w_laws_heldCategory (x : denL c_laws_heldCategory.args) (K : Int × Unit → Prop) : evF tab (lkp [(40, c_laws_heldInt64S), (20, c_laws_heldInt64SS)]) (cutL []) Try.f15 (bodyOf Try.f15) .n c_laws_heldCategory x K = W_laws_heldCategory x.1 x.2.1 K := by kernel_rfl
theorem k_laws_heldCategory : okC Try.f15.ntmps (cutL []) (bodyOf Try.f15) = true := by kernel_rfl
theorem m_laws_heldCategory (a : CategoryD) (k : Int) (hok : allP (okL c_laws_heldCategory.args (a, k, ()))) (hpre : allP (c_laws_heldCategory.pre (a, k, ()))) : W_laws_heldCategory a k (fun r => r = c_laws_heldCategory.res (a, k, ())) := by
  simp only [c_laws_heldCategory, okL, T.oks, T.ok, ap, allP, true_and, and_true, implies_true] at hok hpre
  try dsimp only [T.den] at hok
  try dsimp only [T.den] at hpre
  unfold W_laws_heldCategory
  obtain ⟨h0, hb⟩ := hpre
  simp only [ctR] at hb
  simp only [c_laws_heldCategory, htR]
  grind [cnd, hd_val, ht_val, ctR]
theorem ct_laws_heldCategory : CtOk Try.prog 15 c_laws_heldCategory :=
  ct_by (Φ := lkp [(40, c_laws_heldInt64S), (20, c_laws_heldInt64SS)]) (good_cons ct_laws_heldInt64S (good_cons ct_laws_heldInt64SS good_nil)) tab_ok (by kernel_rfl) (fn := Try.f15) (c := bodyOf Try.f15) (by kernel_rfl) (by kernel_rfl) (by kernel_rfl) c_laws_heldCategory rfl .n (cutL []) (by kernel_rfl) (by kernel_rfl) k_laws_heldCategory (by decide) (fun x K => W_laws_heldCategory x.1 x.2.1 K) w_laws_heldCategory (fun x h1 h2 => m_laws_heldCategory x.1 x.2.1 h1 h2)
def m0_laws_markInt64S : Mt := ⟨(.sl (.fz (.int .i64))), false, fun x k => [0 ≤ k, k + ckR (.sl (.int .i64)) x ≤ 4611686018427387904], fun x k => mkR (.sl (.int .i64)) x k⟩
def c_laws_markInt64S : Ct := mtCt m0_laws_markInt64S
def W_laws_markInt64S (a : List Int) (k : Int) (K : (List Int) → Int → Prop) : Prop := (loopW (S := ((Unit × (Int × (Int × Unit))) × ((List Int) × Unit))) (fun s => (fun next => ((inK IntKind.i64 s.1.2.1) → ((inK IntKind.i64 s.1.2.2.1) → ((T.ok (T.sl (T.int IntKind.i64)) s.2.1) → (cnd (decide (s.1.2.2.1 < (((List.length s.2.1) : Nat) : Int))) (((0 : Int) ≤ s.1.2.2.1) ∧ ((s.1.2.2.1 < (((List.length s.2.1) : Nat) : Int)) ∧ ((inK IntKind.i64 (s.1.2.1 + (1 : Int))) ∧ ((inK IntKind.i64 (s.1.2.2.1 + (1 : Int))) ∧ (next (((), ((s.1.2.1 + (1 : Int)), ((s.1.2.2.1 + (1 : Int)), ()))), ((List.set s.2.1 (Int.toNat s.1.2.2.1) s.1.2.1), ()))))))) (K s.2.1 s.1.2.1))))))) (((), (k, ((0 : Int), ()))), (a, ())))
theorem w_laws_markInt64S (a : List Int) (k : Int) (K : (List Int) → Int → Prop) : evFm tab (lkp []) (cutL []) Try.f14 (bodyOf Try.f14) (.s .n (.s (.s .n (.l [(0, (.ref 1000000 [])), (1, (.d (.int .i64))), (5, (.d (.int .i64)))] [(1000000, (.sl (.fz (.int .i64))))] [] .n)) .n)) m0_laws_markInt64S a k K = W_laws_markInt64S a k K := by kernel_rfl
theorem k_laws_markInt64S : okC Try.f14.ntmps (cutL []) (bodyOf Try.f14) = true := by kernel_rfl
theorem m_laws_markInt64S (a : List Int) (k : Int) (hok : allP (T.oks (.sl (.int .i64)) a)) (h0 : 0 ≤ k) (hpre : k + ckR (.sl (.int .i64)) a ≤ 4611686018427387904) : W_laws_markInt64S a k (fun y n => y = (mkR (.sl (.int .i64)) a k).1 ∧ n = (mkR (.sl (.int .i64)) a k).2) := by
  simp only [T.oks, T.ok, ap, allP, true_and, and_true, implies_true] at hok
  try dsimp only [T.den] at hok
  unfold W_laws_markInt64S
  refine mark_loop (e := .int .i64) (0 : Int) a k h0 hpre (fun k i l next i0 i1 hl hg k0 kb hn h1 h2 h3 => ?_) (fun i l next hi hl h1 h2 h3 => ?_)
  · try dsimp only
    simp only [ckR] at kb
    have hll := h3.1
    simp only [nb_eq] at hll
    exact cnd_d (fun _ => ⟨i0, i1, by rw [inK64]; (try dsimp only); omega, by rw [inK64]; (try dsimp only); omega, hn⟩) (fun h => absurd i1 h)
  · exact cnd_d (fun h => absurd h (by dsimp only; omega)) (fun _ => ⟨hl, rfl⟩)
theorem ct_laws_markInt64S : CtOk Try.prog 14 c_laws_markInt64S :=
  mt_of (Φ := lkp []) good_nil tab_ok (by kernel_rfl) (fn := Try.f14) (c := bodyOf Try.f14) (by kernel_rfl) (by kernel_rfl) (by kernel_rfl) m0_laws_markInt64S (.s .n (.s (.s .n (.l [(0, (.ref 1000000 [])), (1, (.d (.int .i64))), (5, (.d (.int .i64)))] [(1000000, (.sl (.fz (.int .i64))))] [] .n)) .n)) (cutL []) (by kernel_rfl) (by kernel_rfl) k_laws_markInt64S (by decide) (by kernel_rfl) (fun x k hk hok hp => (w_laws_markInt64S x k _).mpr (m_laws_markInt64S x k hok hp.1 hp.2.1))
def m0_laws_markInt64SS : Mt := ⟨(.sl (.sl (.fz (.int .i64)))), false, fun x k => [0 ≤ k, k + ckR (.sl (.sl (.int .i64))) x ≤ 4611686018427387904], fun x k => mkR (.sl (.sl (.int .i64))) x k⟩
def c_laws_markInt64SS : Ct := mtCt m0_laws_markInt64SS
def W_laws_markInt64SS (a : List (List Int)) (k : Int) (K : (List (List Int)) → Int → Prop) : Prop := (loopW (S := ((Unit × (Int × (Int × Unit))) × ((List (List Int)) × Unit))) (fun s => (fun next => ((inK IntKind.i64 s.1.2.1) → ((inK IntKind.i64 s.1.2.2.1) → ((T.ok (T.sl (T.sl (T.int IntKind.i64))) s.2.1) → (cnd (decide (s.1.2.2.1 < (((List.length s.2.1) : Nat) : Int))) (((0 : Int) ≤ s.1.2.2.1) ∧ ((s.1.2.2.1 < (((List.length s.2.1) : Nat) : Int)) ∧ (((0 : Int) ≤ s.1.2.1) ∧ (((s.1.2.1 + (((ckR (T.sl (T.int IntKind.i64)) (List.getD s.2.1 (Int.toNat s.1.2.2.1) ([] : List Int))) : Nat) : Int)) ≤ (4611686018427387904 : Int)) ∧ ((inK IntKind.i64 (s.1.2.2.1 + (1 : Int))) ∧ (next (((), ((mkR (T.sl (T.int IntKind.i64)) (List.getD s.2.1 (Int.toNat s.1.2.2.1) ([] : List Int)) s.1.2.1).2, ((s.1.2.2.1 + (1 : Int)), ()))), ((List.set s.2.1 (Int.toNat s.1.2.2.1) (mkR (T.sl (T.int IntKind.i64)) (List.getD s.2.1 (Int.toNat s.1.2.2.1) ([] : List Int)) s.1.2.1).1), ())))))))) (K s.2.1 s.1.2.1))))))) (((), (k, ((0 : Int), ()))), (a, ())))
theorem w_laws_markInt64SS (a : List (List Int)) (k : Int) (K : (List (List Int)) → Int → Prop) : evFm tab (lkp [(14, c_laws_markInt64S)]) (cutL []) Try.f19 (bodyOf Try.f19) (.s .n (.s (.s .n (.l [(0, (.ref 1000000 [])), (1, (.d (.int .i64))), (5, (.d (.int .i64)))] [(1000000, (.sl (.sl (.fz (.int .i64)))))] [] .n)) .n)) m0_laws_markInt64SS a k K = W_laws_markInt64SS a k K := by kernel_rfl
theorem k_laws_markInt64SS : okC Try.f19.ntmps (cutL []) (bodyOf Try.f19) = true := by kernel_rfl
theorem m_laws_markInt64SS (a : List (List Int)) (k : Int) (hok : allP (T.oks (.sl (.sl (.int .i64))) a)) (h0 : 0 ≤ k) (hpre : k + ckR (.sl (.sl (.int .i64))) a ≤ 4611686018427387904) : W_laws_markInt64SS a k (fun y n => y = (mkR (.sl (.sl (.int .i64))) a k).1 ∧ n = (mkR (.sl (.sl (.int .i64))) a k).2) := by
  simp only [T.oks, T.ok, ap, allP, true_and, and_true, implies_true] at hok
  try dsimp only [T.den] at hok
  unfold W_laws_markInt64SS
  refine mark_loop (e := (.sl (.int .i64))) ([] : List Int) a k h0 hpre (fun k i l next i0 i1 hl hg k0 kb hn h1 h2 h3 => ?_) (fun i l next hi hl h1 h2 h3 => ?_)
  · try dsimp only
    have hll := h3.1
    simp only [nb_eq] at hll
    rw [hg]
    exact cnd_d (fun _ => ⟨i0, i1, k0, kb, by rw [inK64]; (try dsimp only); omega, hn⟩) (fun h => absurd i1 h)
  · exact cnd_d (fun h => absurd h (by dsimp only; omega)) (fun _ => ⟨hl, rfl⟩)
theorem ct_laws_markInt64SS : CtOk Try.prog 19 c_laws_markInt64SS :=
  mt_of (Φ := lkp [(14, c_laws_markInt64S)]) (good_cons ct_laws_markInt64S good_nil) tab_ok (by kernel_rfl) (fn := Try.f19) (c := bodyOf Try.f19) (by kernel_rfl) (by kernel_rfl) (by kernel_rfl) m0_laws_markInt64SS (.s .n (.s (.s .n (.l [(0, (.ref 1000000 [])), (1, (.d (.int .i64))), (5, (.d (.int .i64)))] [(1000000, (.sl (.sl (.fz (.int .i64)))))] [] .n)) .n)) (cutL []) (by kernel_rfl) (by kernel_rfl) k_laws_markInt64SS (by decide) (by kernel_rfl) (fun x k hk hok hp => (w_laws_markInt64SS x k _).mpr (m_laws_markInt64SS x k hok hp.1 hp.2.1))
def m0_laws_markCategory : Mt := ⟨CategoryO, true, fun x k => [0 ≤ k, k + ctR CategoryT x ≤ 4611686018427387904], fun x k => mtR CategoryT x k⟩
def c_laws_markCategory : Ct := mtCt m0_laws_markCategory
def W_laws_markCategory (a : CategoryD) (k : Int) (K : CategoryD → Int → Prop) : Prop := (((0 : Int) ≤ k) ∧ (((k + (((ckR (T.sl (T.int IntKind.i64)) a.2.1) : Nat) : Int)) ≤ (4611686018427387904 : Int)) ∧ (((0 : Int) ≤ (mkR (T.sl (T.int IntKind.i64)) a.2.1 k).2) ∧ ((((mkR (T.sl (T.int IntKind.i64)) a.2.1 k).2 + (((ckR (T.sl (T.int IntKind.i64)) a.2.2.1) : Nat) : Int)) ≤ (4611686018427387904 : Int)) ∧ (((0 : Int) ≤ (mkR (T.sl (T.int IntKind.i64)) a.2.2.1 (mkR (T.sl (T.int IntKind.i64)) a.2.1 k).2).2) ∧ ((((mkR (T.sl (T.int IntKind.i64)) a.2.2.1 (mkR (T.sl (T.int IntKind.i64)) a.2.1 k).2).2 + (((ckR (T.sl (T.int IntKind.i64)) a.2.2.2.1) : Nat) : Int)) ≤ (4611686018427387904 : Int)) ∧ (((0 : Int) ≤ (mkR (T.sl (T.int IntKind.i64)) a.2.2.2.1 (mkR (T.sl (T.int IntKind.i64)) a.2.2.1 (mkR (T.sl (T.int IntKind.i64)) a.2.1 k).2).2).2) ∧ ((((mkR (T.sl (T.int IntKind.i64)) a.2.2.2.1 (mkR (T.sl (T.int IntKind.i64)) a.2.2.1 (mkR (T.sl (T.int IntKind.i64)) a.2.1 k).2).2).2 + (((ckR (T.sl (T.sl (T.int IntKind.i64))) a.2.2.2.2) : Nat) : Int)) ≤ (4611686018427387904 : Int)) ∧ (K (a.1, ((mkR (T.sl (T.int IntKind.i64)) a.2.1 k).1, ((mkR (T.sl (T.int IntKind.i64)) a.2.2.1 (mkR (T.sl (T.int IntKind.i64)) a.2.1 k).2).1, ((mkR (T.sl (T.int IntKind.i64)) a.2.2.2.1 (mkR (T.sl (T.int IntKind.i64)) a.2.2.1 (mkR (T.sl (T.int IntKind.i64)) a.2.1 k).2).2).1, (mkR (T.sl (T.sl (T.int IntKind.i64))) a.2.2.2.2 (mkR (T.sl (T.int IntKind.i64)) a.2.2.2.1 (mkR (T.sl (T.int IntKind.i64)) a.2.2.1 (mkR (T.sl (T.int IntKind.i64)) a.2.1 k).2).2).2).1)))) (mkR (T.sl (T.sl (T.int IntKind.i64))) a.2.2.2.2 (mkR (T.sl (T.int IntKind.i64)) a.2.2.2.1 (mkR (T.sl (T.int IntKind.i64)) a.2.2.1 (mkR (T.sl (T.int IntKind.i64)) a.2.1 k).2).2).2).2)))))))))
theorem w_laws_markCategory (a : CategoryD) (k : Int) (K : CategoryD → Int → Prop) : evFm tab (lkp [(14, c_laws_markInt64S), (19, c_laws_markInt64SS)]) (cutL []) Try.f13 (bodyOf Try.f13) .n m0_laws_markCategory a k K = W_laws_markCategory a k K := by kernel_rfl
theorem k_laws_markCategory : okC Try.f13.ntmps (cutL []) (bodyOf Try.f13) = true := by kernel_rfl
theorem m_laws_markCategory (a : CategoryD) (k : Int) (hok : allP (T.oks CategoryT a)) (h0 : 0 ≤ k) (hpre : k + ctR CategoryT a ≤ 4611686018427387904) : W_laws_markCategory a k (fun y n => y = (mtR CategoryT a k).1 ∧ n = (mtR CategoryT a k).2) := by
  simp only [T.oks, T.ok, ap, allP, true_and, and_true, implies_true] at hok
  try dsimp only [T.den] at hok
  unfold W_laws_markCategory
  simp only [ctR] at hpre
  repeat' apply And.intro
  all_goals first | rfl | ((try simp only [mk_num, mt_num, ctR]); omega)
theorem ct_laws_markCategory : CtOk Try.prog 13 c_laws_markCategory :=
  mt_of (Φ := lkp [(14, c_laws_markInt64S), (19, c_laws_markInt64SS)]) (good_cons ct_laws_markInt64S (good_cons ct_laws_markInt64SS good_nil)) tab_ok (by kernel_rfl) (fn := Try.f13) (c := bodyOf Try.f13) (by kernel_rfl) (by kernel_rfl) (by kernel_rfl) m0_laws_markCategory .n (cutL []) (by kernel_rfl) (by kernel_rfl) k_laws_markCategory (by decide) (by kernel_rfl) (fun x k hk hok hp => (w_laws_markCategory x k _).mpr (m_laws_markCategory x k hok hp.1 hp.2.1))
def c_laws_szInt64S : Ct := ⟨[(.sl (.int .i64)), (.int .i64)], [false, false], fun x => [-4611545280939032576 ≤ x.2.1], [(false, (.fz (.int .i64)))], fun x => (szR (wR (.sl (.int .i64)) x.1) x.2.1, ()), false, none⟩
def W_laws_szInt64S (a : List Int) (left : Int) (K : Int × Unit → Prop) : Prop := ((inK IntKind.i64 (left - (((List.length a) : Nat) : Int))) ∧ (cnd (decide ((left - (((List.length a) : Nat) : Int)) < (0 : Int))) (K ((-(1 : Int)), ())) (K ((left - (((List.length a) : Nat) : Int)), ()))))
theorem w_laws_szInt64S (x : denL c_laws_szInt64S.args) (K : Int × Unit → Prop) : evF tab (lkp []) (cutL []) Try.f32 (bodyOf Try.f32) .n c_laws_szInt64S x K = W_laws_szInt64S x.1 x.2.1 K := by kernel_rfl
theorem k_laws_szInt64S : okC Try.f32.ntmps (cutL []) (bodyOf Try.f32) = true := by kernel_rfl
theorem m_laws_szInt64S (a : List Int) (left : Int) (hok : allP (okL c_laws_szInt64S.args (a, left, ()))) (hpre : allP (c_laws_szInt64S.pre (a, left, ()))) : W_laws_szInt64S a left (fun r => r = c_laws_szInt64S.res (a, left, ())) := by
  simp only [c_laws_szInt64S, okL, T.oks, T.ok, ap, allP, true_and, and_true, implies_true] at hok hpre
  try dsimp only [T.den] at hok
  try dsimp only [T.den] at hpre
  unfold W_laws_szInt64S
  simp only [c_laws_szInt64S, wR_ints]
  grind [cnd, nb_eq, inK64, szR]
theorem ct_laws_szInt64S : CtOk Try.prog 32 c_laws_szInt64S :=
  ct_by (Φ := lkp []) good_nil tab_ok (by kernel_rfl) (fn := Try.f32) (c := bodyOf Try.f32) (by kernel_rfl) (by kernel_rfl) (by kernel_rfl) c_laws_szInt64S rfl .n (cutL []) (by kernel_rfl) (by kernel_rfl) k_laws_szInt64S (by decide) (fun x K => W_laws_szInt64S x.1 x.2.1 K) w_laws_szInt64S (fun x h1 h2 => m_laws_szInt64S x.1 x.2.1 h1 h2)
def c_laws_szInt64SS : Ct := ⟨[(.sl (.sl (.int .i64))), (.int .i64)], [false, false], fun x => [-4611404543450677248 ≤ x.2.1], [(false, (.fz (.int .i64)))], fun x => (szR (wR (.sl (.sl (.int .i64))) x.1) x.2.1, ()), false, none⟩
def W_laws_szInt64SS (a : List (List Int)) (left : Int) (K : Int × Unit → Prop) : Prop := ((inK IntKind.i64 (left - (((List.length a) : Nat) : Int))) ∧ (cnd (decide ((left - (((List.length a) : Nat) : Int)) < (0 : Int))) (K ((-(1 : Int)), ())) (loopW (S := ((Int × (Int × Unit)) × Unit)) (fun s => (fun next => ((inK IntKind.i64 s.1.1) → ((inK IntKind.i64 s.1.2.1) → (cnd (decide (s.1.2.1 < (((List.length a) : Nat) : Int))) (((0 : Int) ≤ s.1.2.1) ∧ ((s.1.2.1 < (((List.length a) : Nat) : Int)) ∧ (((-(4611545280939032576 : Int)) ≤ s.1.1) ∧ (cnd (decide ((szR (wR (T.sl (T.int IntKind.i64)) (List.getD a (Int.toNat s.1.2.1) ([] : List Int))) s.1.1) < (0 : Int))) (K ((-(1 : Int)), ())) ((inK IntKind.i64 (s.1.2.1 + (1 : Int))) ∧ (next (((szR (wR (T.sl (T.int IntKind.i64)) (List.getD a (Int.toNat s.1.2.1) ([] : List Int))) s.1.1), ((s.1.2.1 + (1 : Int)), ())), ()))))))) (K (s.1.1, ()))))))) (((left - (((List.length a) : Nat) : Int)), ((0 : Int), ())), ()))))
theorem w_laws_szInt64SS (x : denL c_laws_szInt64SS.args) (K : Int × Unit → Prop) : evF tab (lkp [(32, c_laws_szInt64S)]) (cutL []) Try.f22 (bodyOf Try.f22) (.s .n (.s .n (.s .n (.s (.s .n (.l [(1, (.d (.int .i64))), (5, (.d (.int .i64)))] [] [0] .n)) .n)))) c_laws_szInt64SS x K = W_laws_szInt64SS x.1 x.2.1 K := by kernel_rfl
theorem k_laws_szInt64SS : okC Try.f22.ntmps (cutL []) (bodyOf Try.f22) = true := by kernel_rfl
theorem m_laws_szInt64SS (a : List (List Int)) (left : Int) (hok : allP (okL c_laws_szInt64SS.args (a, left, ()))) (hpre : allP (c_laws_szInt64SS.pre (a, left, ()))) : W_laws_szInt64SS a left (fun r => r = c_laws_szInt64SS.res (a, left, ())) := by
  simp only [c_laws_szInt64SS, okL, T.oks, T.ok, ap, allP, true_and, and_true, implies_true] at hok hpre
  try dsimp only [T.den] at hok
  try dsimp only [T.den] at hpre
  unfold W_laws_szInt64SS
  have hr := szR_ge (x := a.length) (r := (a.map (wR (.sl (.int .i64)))).sum) (l := left)
  refine ⟨by grind [cnd, nb_eq, inK64], cnd_d (fun hc => ?_) (fun hc => ?_)⟩
  · simp only [c_laws_szInt64SS]; rw [wR_sl, szR_lt (x := a.length) (by omega)]
  replace hr := hr (by omega)
  rw [szR_val (x := a.length) (by omega)] at hr
  refine loop_of (fun (s : ((Int × (Int × Unit)) × Unit)) => 0 ≤ s.1.1 ∧ 0 ≤ s.1.2.1 ∧ s.1.2.1 ≤ a.length ∧ szR (wR (.sl (.sl (.int .i64))) a) left = szR ((a.drop s.1.2.1.toNat).map (wR (.sl (.int .i64)))).sum s.1.1) (fun (s : ((Int × (Int × Unit)) × Unit)) => (a.length - s.1.2.1).toNat) ?_ ⟨(by first | omega | (dsimp only; omega)), by simp, by simp, by rw [wR_sl]; simpa using hr⟩
  rintro ⟨⟨l, i, _⟩, _⟩ next ⟨h0, h1, h2, h3⟩ hn hin hl
  simp only at h0 h1 h2 h3 hn ⊢
  refine cnd_d (fun hc => ?_) (fun hc => ?_)
  · rw [drop_c a ([] : List Int) h1 hc, List.map_cons, List.sum_cons] at h3
    refine ⟨by omega, by omega, by omega, cnd_d (fun hd => ?_) (fun hd => ?_)⟩
    · rw [szR_neg] at hd
      rw [szR_lt hd] at h3
      simp only [c_laws_szInt64SS]; rw [h3]
    · rw [szR_neg] at hd
      rw [szR_ge hd] at h3
      exact ⟨by grind [cnd, nb_eq, inK64], hn _ ⟨by simp only; rw [szR_val hd]; omega, (by first | omega | (dsimp only; omega)), (by first | omega | (dsimp only; omega)), h3⟩ (by first | omega | (dsimp only; omega))⟩
  · rw [drop_n a (by omega)] at h3
    simp only [List.map_nil, List.sum_nil] at h3
    rw [szR_zero h0] at h3
    simp only [c_laws_szInt64SS]; rw [h3]
theorem ct_laws_szInt64SS : CtOk Try.prog 22 c_laws_szInt64SS :=
  ct_by (Φ := lkp [(32, c_laws_szInt64S)]) (good_cons ct_laws_szInt64S good_nil) tab_ok (by kernel_rfl) (fn := Try.f22) (c := bodyOf Try.f22) (by kernel_rfl) (by kernel_rfl) (by kernel_rfl) c_laws_szInt64SS rfl (.s .n (.s .n (.s .n (.s (.s .n (.l [(1, (.d (.int .i64))), (5, (.d (.int .i64)))] [] [0] .n)) .n)))) (cutL []) (by kernel_rfl) (by kernel_rfl) k_laws_szInt64SS (by decide) (fun x K => W_laws_szInt64SS x.1 x.2.1 K) w_laws_szInt64SS (fun x h1 h2 => m_laws_szInt64SS x.1 x.2.1 h1 h2)
def c_laws_szCategory : Ct := ⟨[CategoryT, (.int .i64)], [true, false], fun x => [-4611404543450677248 ≤ x.2.1], [(false, (.fz (.int .i64)))], fun x => (szR (wR CategoryT x.1) x.2.1, ()), false, none⟩
def W_laws_szCategory (a : CategoryD) (left : Int) (K : Int × Unit → Prop) : Prop := (((-(4611545280939032576 : Int)) ≤ left) ∧ (cnd (decide ((szR (wR (T.sl (T.int IntKind.i64)) a.2.1) left) < (0 : Int))) (K ((-(1 : Int)), ())) (((-(4611545280939032576 : Int)) ≤ (szR (wR (T.sl (T.int IntKind.i64)) a.2.1) left)) ∧ (cnd (decide ((szR (wR (T.sl (T.int IntKind.i64)) a.2.2.1) (szR (wR (T.sl (T.int IntKind.i64)) a.2.1) left)) < (0 : Int))) (K ((-(1 : Int)), ())) (((-(4611545280939032576 : Int)) ≤ (szR (wR (T.sl (T.int IntKind.i64)) a.2.2.1) (szR (wR (T.sl (T.int IntKind.i64)) a.2.1) left))) ∧ (cnd (decide ((szR (wR (T.sl (T.int IntKind.i64)) a.2.2.2.1) (szR (wR (T.sl (T.int IntKind.i64)) a.2.2.1) (szR (wR (T.sl (T.int IntKind.i64)) a.2.1) left))) < (0 : Int))) (K ((-(1 : Int)), ())) (((-(4611404543450677248 : Int)) ≤ (szR (wR (T.sl (T.int IntKind.i64)) a.2.2.2.1) (szR (wR (T.sl (T.int IntKind.i64)) a.2.2.1) (szR (wR (T.sl (T.int IntKind.i64)) a.2.1) left)))) ∧ (cnd (decide ((szR (wR (T.sl (T.sl (T.int IntKind.i64))) a.2.2.2.2) (szR (wR (T.sl (T.int IntKind.i64)) a.2.2.2.1) (szR (wR (T.sl (T.int IntKind.i64)) a.2.2.1) (szR (wR (T.sl (T.int IntKind.i64)) a.2.1) left)))) < (0 : Int))) (K ((-(1 : Int)), ())) (K ((szR (wR (T.sl (T.sl (T.int IntKind.i64))) a.2.2.2.2) (szR (wR (T.sl (T.int IntKind.i64)) a.2.2.2.1) (szR (wR (T.sl (T.int IntKind.i64)) a.2.2.1) (szR (wR (T.sl (T.int IntKind.i64)) a.2.1) left)))), ()))))))))))
theorem w_laws_szCategory (x : denL c_laws_szCategory.args) (K : Int × Unit → Prop) : evF tab (lkp [(32, c_laws_szInt64S), (22, c_laws_szInt64SS)]) (cutL []) Try.f6 (bodyOf Try.f6) .n c_laws_szCategory x K = W_laws_szCategory x.1 x.2.1 K := by kernel_rfl
theorem k_laws_szCategory : okC Try.f6.ntmps (cutL []) (bodyOf Try.f6) = true := by kernel_rfl
theorem m_laws_szCategory (a : CategoryD) (left : Int) (hok : allP (okL c_laws_szCategory.args (a, left, ()))) (hpre : allP (c_laws_szCategory.pre (a, left, ()))) : W_laws_szCategory a left (fun r => r = c_laws_szCategory.res (a, left, ())) := by
  simp only [c_laws_szCategory, okL, T.oks, T.ok, ap, allP, true_and, and_true, implies_true] at hok hpre
  try dsimp only [T.den] at hok
  try dsimp only [T.den] at hpre
  unfold W_laws_szCategory
  simp only [c_laws_szCategory, wR_p, wR_int, wR_bool, Nat.zero_add, Nat.add_zero]
  grind [cnd, nb_eq, inK64, szR]
theorem ct_laws_szCategory : CtOk Try.prog 6 c_laws_szCategory :=
  ct_by (Φ := lkp [(32, c_laws_szInt64S), (22, c_laws_szInt64SS)]) (good_cons ct_laws_szInt64S (good_cons ct_laws_szInt64SS good_nil)) tab_ok (by kernel_rfl) (fn := Try.f6) (c := bodyOf Try.f6) (by kernel_rfl) (by kernel_rfl) (by kernel_rfl) c_laws_szCategory rfl .n (cutL []) (by kernel_rfl) (by kernel_rfl) k_laws_szCategory (by decide) (fun x K => W_laws_szCategory x.1 x.2.1 K) w_laws_szCategory (fun x h1 h2 => m_laws_szCategory x.1 x.2.1 h1 h2)
def c_laws_toInt64S : Ct := ⟨[(.sl (.int .i64))], [false], fun x => [wR (.sl (.int .i64)) x.1 ≤ 1099511627776], [(false, (.sl (.fz (.int .i64))))], fun x => (x.1, ()), false, none⟩
def W_laws_toInt64S (a : List Int) (K : (List Int) × Unit → Prop) : Prop := (((0 : Int) ≤ (((List.length a) : Nat) : Int)) ∧ (((((List.length a) : Nat) : Int) ≤ (((List.length a) : Nat) : Int)) ∧ (((((List.length a) : Nat) : Int) ≤ ((140737488355328 : Nat) : Int)) ∧ ((((((List.length a) : Nat) : Int) * ((8 : Nat) : Int)) ≤ ((140737488355328 : Nat) : Int)) ∧ (loopW (S := ((Unit × (Int × Unit)) × ((List Int) × Unit))) (fun s => (fun next => ((inK IntKind.i64 s.1.2.1) → ((T.ok (T.sl (T.int IntKind.i64)) s.2.1) → (cnd (decide (s.1.2.1 < (((List.length a) : Nat) : Int))) (((0 : Int) ≤ s.1.2.1) ∧ ((s.1.2.1 < (((List.length a) : Nat) : Int)) ∧ (((0 : Int) ≤ s.1.2.1) ∧ ((s.1.2.1 < (((List.length s.2.1) : Nat) : Int)) ∧ ((inK IntKind.i64 (s.1.2.1 + (1 : Int))) ∧ (next (((), ((s.1.2.1 + (1 : Int)), ())), ((List.set s.2.1 (Int.toNat s.1.2.1) (List.getD a (Int.toNat s.1.2.1) (0 : Int))), ())))))))) (K (s.2.1, ()))))))) (((), ((0 : Int), ())), ((List.replicate (Int.toNat (((List.length a) : Nat) : Int)) (0 : Int)), ())))))))
theorem w_laws_toInt64S (x : denL c_laws_toInt64S.args) (K : (List Int) × Unit → Prop) : evF tab (lkp []) (cutL []) Try.f9 (bodyOf Try.f9) (.s .n (.s .n (.s (.s .n (.l [(3, (.ref 7 [])), (4, (.d (.int .i64)))] [(7, (.sl (.fz (.int .i64))))] [0] .n)) .n))) c_laws_toInt64S x K = W_laws_toInt64S x.1 K := by kernel_rfl
theorem k_laws_toInt64S : okC Try.f9.ntmps (cutL []) (bodyOf Try.f9) = true := by kernel_rfl
theorem m_laws_toInt64S (a : List Int) (hok : allP (okL c_laws_toInt64S.args (a, ()))) (hpre : allP (c_laws_toInt64S.pre (a, ()))) : W_laws_toInt64S a (fun r => r = c_laws_toInt64S.res (a, ())) := by
  simp only [c_laws_toInt64S, okL, T.oks, T.ok, ap, allP, true_and, and_true, implies_true] at hok hpre
  try dsimp only [T.den] at hok
  try dsimp only [T.den] at hpre
  unfold W_laws_toInt64S
  rw [wR_sl] at hpre
  refine ⟨by omega, by omega, by first | omega | (rw [nb_eq]; omega), by first | omega | (rw [nb_eq]; omega), ?_⟩
  refine loop_of (fun (s : ((Unit × (Int × Unit)) × ((List Int) × Unit))) => 0 ≤ s.1.2.1 ∧ s.1.2.1 ≤ a.length ∧ s.2.1.length = a.length ∧ s.2.1.take s.1.2.1.toNat = a.take s.1.2.1.toNat) (fun (s : ((Unit × (Int × Unit)) × ((List Int) × Unit))) => (a.length - s.1.2.1).toNat) ?_ (by simp)
  rintro ⟨⟨_, i, _⟩, l, _⟩ next ⟨h0, h1, h2, h3⟩ hn hin hl
  simp only at h0 h1 h2 h3 hn ⊢
  refine cnd_d (fun hc => ?_) (fun hc => ?_)
  · refine ⟨by omega, by omega, by omega, by omega, by grind [cnd, nb_eq, inK64], hn _ ⟨(by first | omega | (dsimp only; omega)), (by first | omega | (dsimp only; omega)), by simp [h2], ?_⟩ (by first | omega | (dsimp only; omega))⟩
    simp only
    rw [take_c a (0 : Int) h0 hc, ← h3]
    exact take_set l h0 (by omega) _
  · rw [take_n a (by omega), take_n l (by omega)] at h3
    simp [h3, c_laws_toInt64S]
theorem ct_laws_toInt64S : CtOk Try.prog 9 c_laws_toInt64S :=
  ct_by (Φ := lkp []) good_nil tab_ok (by kernel_rfl) (fn := Try.f9) (c := bodyOf Try.f9) (by kernel_rfl) (by kernel_rfl) (by kernel_rfl) c_laws_toInt64S rfl (.s .n (.s .n (.s (.s .n (.l [(3, (.ref 7 [])), (4, (.d (.int .i64)))] [(7, (.sl (.fz (.int .i64))))] [0] .n)) .n))) (cutL []) (by kernel_rfl) (by kernel_rfl) k_laws_toInt64S (by decide) (fun x K => W_laws_toInt64S x.1 K) w_laws_toInt64S (fun x h1 h2 => m_laws_toInt64S x.1 h1 h2)
def c_laws_toInt64SS : Ct := ⟨[(.sl (.sl (.int .i64)))], [false], fun x => [wR (.sl (.sl (.int .i64))) x.1 ≤ 1099511627776], [(false, (.sl (.sl (.fz (.int .i64)))))], fun x => (x.1, ()), false, none⟩
def W_laws_toInt64SS (a : List (List Int)) (K : (List (List Int)) × Unit → Prop) : Prop := (((0 : Int) ≤ (((List.length a) : Nat) : Int)) ∧ (((((List.length a) : Nat) : Int) ≤ (((List.length a) : Nat) : Int)) ∧ (((((List.length a) : Nat) : Int) ≤ ((140737488355328 : Nat) : Int)) ∧ ((((((List.length a) : Nat) : Int) * ((24 : Nat) : Int)) ≤ ((140737488355328 : Nat) : Int)) ∧ (loopW (S := ((Unit × (Int × Unit)) × ((List (List Int)) × Unit))) (fun s => (fun next => ((inK IntKind.i64 s.1.2.1) → ((T.ok (T.sl (T.sl (T.int IntKind.i64))) s.2.1) → (cnd (decide (s.1.2.1 < (((List.length a) : Nat) : Int))) (((0 : Int) ≤ s.1.2.1) ∧ ((s.1.2.1 < (((List.length a) : Nat) : Int)) ∧ (((wR (T.sl (T.int IntKind.i64)) (List.getD a (Int.toNat s.1.2.1) ([] : List Int))) ≤ 1099511627776) ∧ (((0 : Int) ≤ s.1.2.1) ∧ ((s.1.2.1 < (((List.length s.2.1) : Nat) : Int)) ∧ ((inK IntKind.i64 (s.1.2.1 + (1 : Int))) ∧ (next (((), ((s.1.2.1 + (1 : Int)), ())), ((List.set s.2.1 (Int.toNat s.1.2.1) (List.getD a (Int.toNat s.1.2.1) ([] : List Int))), ()))))))))) (K (s.2.1, ()))))))) (((), ((0 : Int), ())), ((List.replicate (Int.toNat (((List.length a) : Nat) : Int)) ([] : List Int)), ())))))))
theorem w_laws_toInt64SS (x : denL c_laws_toInt64SS.args) (K : (List (List Int)) × Unit → Prop) : evF tab (lkp [(9, c_laws_toInt64S)]) (cutL []) Try.f25 (bodyOf Try.f25) (.s .n (.s .n (.s (.s .n (.l [(3, (.ref 7 [])), (4, (.d (.int .i64)))] [(7, (.sl (.sl (.fz (.int .i64)))))] [0] .n)) .n))) c_laws_toInt64SS x K = W_laws_toInt64SS x.1 K := by kernel_rfl
theorem k_laws_toInt64SS : okC Try.f25.ntmps (cutL []) (bodyOf Try.f25) = true := by kernel_rfl
theorem m_laws_toInt64SS (a : List (List Int)) (hok : allP (okL c_laws_toInt64SS.args (a, ()))) (hpre : allP (c_laws_toInt64SS.pre (a, ()))) : W_laws_toInt64SS a (fun r => r = c_laws_toInt64SS.res (a, ())) := by
  simp only [c_laws_toInt64SS, okL, T.oks, T.ok, ap, allP, true_and, and_true, implies_true] at hok hpre
  try dsimp only [T.den] at hok
  try dsimp only [T.den] at hpre
  unfold W_laws_toInt64SS
  rw [wR_sl] at hpre
  refine ⟨by omega, by omega, by first | omega | (rw [nb_eq]; omega), by first | omega | (rw [nb_eq]; omega), ?_⟩
  refine loop_of (fun (s : ((Unit × (Int × Unit)) × ((List (List Int)) × Unit))) => 0 ≤ s.1.2.1 ∧ s.1.2.1 ≤ a.length ∧ s.2.1.length = a.length ∧ s.2.1.take s.1.2.1.toNat = a.take s.1.2.1.toNat) (fun (s : ((Unit × (Int × Unit)) × ((List (List Int)) × Unit))) => (a.length - s.1.2.1).toNat) ?_ (by simp)
  rintro ⟨⟨_, i, _⟩, l, _⟩ next ⟨h0, h1, h2, h3⟩ hn hin hl
  simp only at h0 h1 h2 h3 hn ⊢
  refine cnd_d (fun hc => ?_) (fun hc => ?_)
  · have hm := wR_mem (e := (.sl (.int .i64))) (getD_mem a ([] : List Int) h0 hc)
    refine ⟨by omega, by omega, by omega, by omega, by omega, by grind [cnd, nb_eq, inK64], hn _ ⟨(by first | omega | (dsimp only; omega)), (by first | omega | (dsimp only; omega)), by simp [h2], ?_⟩ (by first | omega | (dsimp only; omega))⟩
    simp only
    rw [take_c a ([] : List Int) h0 hc, ← h3]
    exact take_set l h0 (by omega) _
  · rw [take_n a (by omega), take_n l (by omega)] at h3
    simp [h3, c_laws_toInt64SS]
theorem ct_laws_toInt64SS : CtOk Try.prog 25 c_laws_toInt64SS :=
  ct_by (Φ := lkp [(9, c_laws_toInt64S)]) (good_cons ct_laws_toInt64S good_nil) tab_ok (by kernel_rfl) (fn := Try.f25) (c := bodyOf Try.f25) (by kernel_rfl) (by kernel_rfl) (by kernel_rfl) c_laws_toInt64SS rfl (.s .n (.s .n (.s (.s .n (.l [(3, (.ref 7 [])), (4, (.d (.int .i64)))] [(7, (.sl (.sl (.fz (.int .i64)))))] [0] .n)) .n))) (cutL []) (by kernel_rfl) (by kernel_rfl) k_laws_toInt64SS (by decide) (fun x K => W_laws_toInt64SS x.1 K) w_laws_toInt64SS (fun x h1 h2 => m_laws_toInt64SS x.1 h1 h2)
def c_laws_toCategory : Ct := ⟨[CategoryT], [true], fun x => [wR CategoryT x.1 ≤ 1099511627776], [(true, CategoryO)], fun x => (x.1, ()), false, none⟩
def W_laws_toCategory (a : CategoryD) (K : CategoryD × Unit → Prop) : Prop := (((wR (T.sl (T.int IntKind.i64)) a.2.1) ≤ 1099511627776) ∧ (((wR (T.sl (T.int IntKind.i64)) a.2.2.1) ≤ 1099511627776) ∧ (((wR (T.sl (T.int IntKind.i64)) a.2.2.2.1) ≤ 1099511627776) ∧ (((wR (T.sl (T.sl (T.int IntKind.i64))) a.2.2.2.2) ≤ 1099511627776) ∧ (K (a, ()))))))
theorem w_laws_toCategory (x : denL c_laws_toCategory.args) (K : CategoryD × Unit → Prop) : evF tab (lkp [(9, c_laws_toInt64S), (25, c_laws_toInt64SS)]) (cutL []) Try.f8 (bodyOf Try.f8) .n c_laws_toCategory x K = W_laws_toCategory x.1 K := by kernel_rfl
theorem k_laws_toCategory : okC Try.f8.ntmps (cutL []) (bodyOf Try.f8) = true := by kernel_rfl
theorem m_laws_toCategory (a : CategoryD) (hok : allP (okL c_laws_toCategory.args (a, ()))) (hpre : allP (c_laws_toCategory.pre (a, ()))) : W_laws_toCategory a (fun r => r = c_laws_toCategory.res (a, ())) := by
  simp only [c_laws_toCategory, okL, T.oks, T.ok, ap, allP, true_and, and_true, implies_true] at hok hpre
  try dsimp only [T.den] at hok
  try dsimp only [T.den] at hpre
  unfold W_laws_toCategory
  simp only [wR_p, wR_int, wR_bool] at hpre
  repeat' apply And.intro
  all_goals first | rfl | ((try simp only [wR_p, wR_int, wR_bool]); omega)
theorem ct_laws_toCategory : CtOk Try.prog 8 c_laws_toCategory :=
  ct_by (Φ := lkp [(9, c_laws_toInt64S), (25, c_laws_toInt64SS)]) (good_cons ct_laws_toInt64S (good_cons ct_laws_toInt64SS good_nil)) tab_ok (by kernel_rfl) (fn := Try.f8) (c := bodyOf Try.f8) (by kernel_rfl) (by kernel_rfl) (by kernel_rfl) c_laws_toCategory rfl .n (cutL []) (by kernel_rfl) (by kernel_rfl) k_laws_toCategory (by decide) (fun x K => W_laws_toCategory x.1 K) w_laws_toCategory (fun x h1 h2 => m_laws_toCategory x.1 h1 h2)
def c_spec_l01In : Ct := ⟨[(.int .i64), (.int .i64), (.int .i64)], [false, false, false], fun x => [], [(false, (.fz .bool))], fun x => (inR x.1 x.2.1 x.2.2.1, ()), false, none⟩
def W_spec_l01In (n : Int) (low : Int) (high : Int) (K : Bool × Unit → Prop) : Prop := (K (((decide (low ≤ n)) && (decide (n ≤ high))), ()))
theorem w_spec_l01In (x : denL c_spec_l01In.args) (K : Bool × Unit → Prop) : evF tab (lkp []) (cutL []) Try.f84 (bodyOf Try.f84) .n c_spec_l01In x K = W_spec_l01In x.1 x.2.1 x.2.2.1 K := by kernel_rfl
theorem k_spec_l01In : okC Try.f84.ntmps (cutL []) (bodyOf Try.f84) = true := by kernel_rfl
theorem m_spec_l01In (n : Int) (low : Int) (high : Int) (hok : allP (okL c_spec_l01In.args (n, low, high, ()))) (hpre : allP (c_spec_l01In.pre (n, low, high, ()))) : W_spec_l01In n low high (fun r => r = c_spec_l01In.res (n, low, high, ())) := by
  simp only [c_spec_l01In, okL, T.oks, T.ok, ap, allP, true_and, and_true, implies_true] at hok hpre
  try dsimp only [T.den] at hok
  try dsimp only [T.den] at hpre
  unfold W_spec_l01In
  grind [cnd, nb_eq, inK64, c_spec_l01In, inR]
theorem ct_spec_l01In : CtOk Try.prog 84 c_spec_l01In :=
  ct_by (Φ := lkp []) good_nil tab_ok (by kernel_rfl) (fn := Try.f84) (c := bodyOf Try.f84) (by kernel_rfl) (by kernel_rfl) (by kernel_rfl) c_spec_l01In rfl .n (cutL []) (by kernel_rfl) (by kernel_rfl) k_spec_l01In (by decide) (fun x K => W_spec_l01In x.1 x.2.1 x.2.2.1 K) w_spec_l01In (fun x h1 h2 => m_spec_l01In x.1 x.2.1 x.2.2.1 h1 h2)
def c_spec_l02Ends : Ct := ⟨[(.sl (.int .i64)), (.int .i64), (.int .i64)], [false, false, false], fun x => [], [(false, (.fz .bool))], fun x => ((decide ((x.1.length : Int) = x.2.1) && withinR x.1 x.2.2.1), ()), false, none⟩
def W_spec_l02Ends (list : List Int) (length : Int) (objects : Int) (K : Bool × Unit → Prop) : Prop := (K ((((((List.length list) : Nat) : Int) == length) && (withinR list objects)), ()))
theorem w_spec_l02Ends (x : denL c_spec_l02Ends.args) (K : Bool × Unit → Prop) : evF tab (lkp [(58, c_spec_l01Map)]) (cutL []) Try.f85 (bodyOf Try.f85) .n c_spec_l02Ends x K = W_spec_l02Ends x.1 x.2.1 x.2.2.1 K := by kernel_rfl
theorem k_spec_l02Ends : okC Try.f85.ntmps (cutL []) (bodyOf Try.f85) = true := by kernel_rfl
theorem m_spec_l02Ends (list : List Int) (length : Int) (objects : Int) (hok : allP (okL c_spec_l02Ends.args (list, length, objects, ()))) (hpre : allP (c_spec_l02Ends.pre (list, length, objects, ()))) : W_spec_l02Ends list length objects (fun r => r = c_spec_l02Ends.res (list, length, objects, ())) := by
  simp only [c_spec_l02Ends, okL, T.oks, T.ok, ap, allP, true_and, and_true, implies_true] at hok hpre
  try dsimp only [T.den] at hok
  try dsimp only [T.den] at hpre
  unfold W_spec_l02Ends
  have : ((list.length : Int) == length) = decide ((list.length : Int) = length) := rfl
  simp only [c_spec_l02Ends, this]
theorem ct_spec_l02Ends : CtOk Try.prog 85 c_spec_l02Ends :=
  ct_by (Φ := lkp [(58, c_spec_l01Map)]) (good_cons ct_spec_l01Map good_nil) tab_ok (by kernel_rfl) (fn := Try.f85) (c := bodyOf Try.f85) (by kernel_rfl) (by kernel_rfl) (by kernel_rfl) c_spec_l02Ends rfl .n (cutL []) (by kernel_rfl) (by kernel_rfl) k_spec_l02Ends (by decide) (fun x K => W_spec_l02Ends x.1 x.2.1 x.2.2.1 K) w_spec_l02Ends (fun x h1 h2 => m_spec_l02Ends x.1 x.2.1 x.2.2.1 h1 h2)
def c_spec_IsShape : Ct := ⟨[CategoryT], [true], fun x => [], [(false, (.fz .bool))], fun x => (shapeR x.1, ()), false, none⟩
def W_spec_IsShape (c : CategoryD) (K : Bool × Unit → Prop) : Prop := (cnd (((((!(inR c.1 (0 : Int) (8 : Int))) || (decide ((40 : Int) < (((List.length c.2.1) : Nat) : Int)))) || (!((decide ((((List.length c.2.1) : Nat) : Int) = (((List.length c.2.1) : Nat) : Int))) && (withinR c.2.1 c.1)))) || (!((decide ((((List.length c.2.2.1) : Nat) : Int) = (((List.length c.2.1) : Nat) : Int))) && (withinR c.2.2.1 c.1)))) || ((((List.length c.2.2.2.2) : Nat) : Int) != (((List.length c.2.1) : Nat) : Int))) (K (Bool.false, ())) (cnd (((((List.length c.2.2.2.1) : Nat) : Int) != c.1) || (!(withinR c.2.2.2.1 (((List.length c.2.1) : Nat) : Int)))) (K (Bool.false, ())) (loopW (S := ((Int × Unit) × Unit)) (fun s => (fun next => ((inK IntKind.i64 s.1.1) → (cnd (decide (s.1.1 < c.1)) (((0 : Int) ≤ s.1.1) ∧ ((s.1.1 < (((List.length c.2.2.2.1) : Nat) : Int)) ∧ (((0 : Int) ≤ (List.getD c.2.2.2.1 (Int.toNat s.1.1) (0 : Int))) ∧ (((List.getD c.2.2.2.1 (Int.toNat s.1.1) (0 : Int)) < (((List.length c.2.1) : Nat) : Int)) ∧ (((((List.getD c.2.1 (Int.toNat (List.getD c.2.2.2.1 (Int.toNat s.1.1) (0 : Int))) (0 : Int)) != s.1.1) = Bool.false) → ((s.1.1 < (((List.length c.2.2.2.1) : Nat) : Int)) ∧ ((0 : Int) ≤ s.1.1))) ∧ (((((List.getD c.2.1 (Int.toNat (List.getD c.2.2.2.1 (Int.toNat s.1.1) (0 : Int))) (0 : Int)) != s.1.1) = Bool.false) → (((List.getD c.2.2.2.1 (Int.toNat s.1.1) (0 : Int)) < (((List.length c.2.2.1) : Nat) : Int)) ∧ ((0 : Int) ≤ (List.getD c.2.2.2.1 (Int.toNat s.1.1) (0 : Int))))) ∧ (cnd (((List.getD c.2.1 (Int.toNat (List.getD c.2.2.2.1 (Int.toNat s.1.1) (0 : Int))) (0 : Int)) != s.1.1) || ((List.getD c.2.2.1 (Int.toNat (List.getD c.2.2.2.1 (Int.toNat s.1.1) (0 : Int))) (0 : Int)) != s.1.1)) (K (Bool.false, ())) ((inK IntKind.i64 (s.1.1 + (1 : Int))) ∧ (next (((s.1.1 + (1 : Int)), ()), ())))))))))) (loopW (S := ((Int × Unit) × Unit)) (fun s1 => (fun next1 => ((inK IntKind.i64 s1.1.1) → (cnd (decide (s1.1.1 < (((List.length c.2.1) : Nat) : Int))) (((0 : Int) ≤ s1.1.1) ∧ ((s1.1.1 < (((List.length c.2.2.2.2) : Nat) : Int)) ∧ (cnd ((((List.length (List.getD c.2.2.2.2 (Int.toNat s1.1.1) ([] : List Int))) : Nat) : Int) != (((List.length c.2.1) : Nat) : Int)) (K (Bool.false, ())) (loopW (S := ((Int × Unit) × Unit)) (fun s2 => (fun next2 => ((inK IntKind.i64 s2.1.1) → (cnd (decide (s2.1.1 < (((List.length c.2.1) : Nat) : Int))) (joinW (S := (Unit × Unit)) (fun s3 => ((inK IntKind.i64 (s2.1.1 + (1 : Int))) ∧ (next2 (((s2.1.1 + (1 : Int)), ()), ())))) (fun k => (((0 : Int) ≤ s1.1.1) ∧ ((s1.1.1 < (((List.length c.2.2.2.2) : Nat) : Int)) ∧ (((0 : Int) ≤ s2.1.1) ∧ ((s2.1.1 < (((List.length (List.getD c.2.2.2.2 (Int.toNat s1.1.1) ([] : List Int))) : Nat) : Int)) ∧ (((0 : Int) ≤ s1.1.1) ∧ ((s1.1.1 < (((List.length c.2.2.1) : Nat) : Int)) ∧ (((0 : Int) ≤ s2.1.1) ∧ ((s2.1.1 < (((List.length c.2.1) : Nat) : Int)) ∧ (cnd ((List.getD c.2.2.1 (Int.toNat s1.1.1) (0 : Int)) != (List.getD c.2.1 (Int.toNat s2.1.1) (0 : Int))) (cnd ((List.getD (List.getD c.2.2.2.2 (Int.toNat s1.1.1) ([] : List Int)) (Int.toNat s2.1.1) (0 : Int)) != (-(1 : Int))) (K (Bool.false, ())) (k ((), ()))) (((((decide ((List.getD (List.getD c.2.2.2.2 (Int.toNat s1.1.1) ([] : List Int)) (Int.toNat s2.1.1) (0 : Int)) < (0 : Int))) || (decide ((((List.length c.2.1) : Nat) : Int) ≤ (List.getD (List.getD c.2.2.2.2 (Int.toNat s1.1.1) ([] : List Int)) (Int.toNat s2.1.1) (0 : Int))))) = Bool.false) → (((List.getD (List.getD c.2.2.2.2 (Int.toNat s1.1.1) ([] : List Int)) (Int.toNat s2.1.1) (0 : Int)) < (((List.length c.2.1) : Nat) : Int)) ∧ ((0 : Int) ≤ (List.getD (List.getD c.2.2.2.2 (Int.toNat s1.1.1) ([] : List Int)) (Int.toNat s2.1.1) (0 : Int))))) ∧ (((((decide ((List.getD (List.getD c.2.2.2.2 (Int.toNat s1.1.1) ([] : List Int)) (Int.toNat s2.1.1) (0 : Int)) < (0 : Int))) || (decide ((((List.length c.2.1) : Nat) : Int) ≤ (List.getD (List.getD c.2.2.2.2 (Int.toNat s1.1.1) ([] : List Int)) (Int.toNat s2.1.1) (0 : Int))))) = Bool.false) → ((s1.1.1 < (((List.length c.2.1) : Nat) : Int)) ∧ ((0 : Int) ≤ s1.1.1))) ∧ ((((((decide ((List.getD (List.getD c.2.2.2.2 (Int.toNat s1.1.1) ([] : List Int)) (Int.toNat s2.1.1) (0 : Int)) < (0 : Int))) || (decide ((((List.length c.2.1) : Nat) : Int) ≤ (List.getD (List.getD c.2.2.2.2 (Int.toNat s1.1.1) ([] : List Int)) (Int.toNat s2.1.1) (0 : Int))))) || ((List.getD c.2.1 (Int.toNat (List.getD (List.getD c.2.2.2.2 (Int.toNat s1.1.1) ([] : List Int)) (Int.toNat s2.1.1) (0 : Int))) (0 : Int)) != (List.getD c.2.1 (Int.toNat s1.1.1) (0 : Int)))) = Bool.false) → (((List.getD (List.getD c.2.2.2.2 (Int.toNat s1.1.1) ([] : List Int)) (Int.toNat s2.1.1) (0 : Int)) < (((List.length c.2.2.1) : Nat) : Int)) ∧ ((0 : Int) ≤ (List.getD (List.getD c.2.2.2.2 (Int.toNat s1.1.1) ([] : List Int)) (Int.toNat s2.1.1) (0 : Int))))) ∧ ((((((decide ((List.getD (List.getD c.2.2.2.2 (Int.toNat s1.1.1) ([] : List Int)) (Int.toNat s2.1.1) (0 : Int)) < (0 : Int))) || (decide ((((List.length c.2.1) : Nat) : Int) ≤ (List.getD (List.getD c.2.2.2.2 (Int.toNat s1.1.1) ([] : List Int)) (Int.toNat s2.1.1) (0 : Int))))) || ((List.getD c.2.1 (Int.toNat (List.getD (List.getD c.2.2.2.2 (Int.toNat s1.1.1) ([] : List Int)) (Int.toNat s2.1.1) (0 : Int))) (0 : Int)) != (List.getD c.2.1 (Int.toNat s1.1.1) (0 : Int)))) = Bool.false) → ((s2.1.1 < (((List.length c.2.2.1) : Nat) : Int)) ∧ ((0 : Int) ≤ s2.1.1))) ∧ (cnd ((((decide ((List.getD (List.getD c.2.2.2.2 (Int.toNat s1.1.1) ([] : List Int)) (Int.toNat s2.1.1) (0 : Int)) < (0 : Int))) || (decide ((((List.length c.2.1) : Nat) : Int) ≤ (List.getD (List.getD c.2.2.2.2 (Int.toNat s1.1.1) ([] : List Int)) (Int.toNat s2.1.1) (0 : Int))))) || ((List.getD c.2.1 (Int.toNat (List.getD (List.getD c.2.2.2.2 (Int.toNat s1.1.1) ([] : List Int)) (Int.toNat s2.1.1) (0 : Int))) (0 : Int)) != (List.getD c.2.1 (Int.toNat s1.1.1) (0 : Int)))) || ((List.getD c.2.2.1 (Int.toNat (List.getD (List.getD c.2.2.2.2 (Int.toNat s1.1.1) ([] : List Int)) (Int.toNat s2.1.1) (0 : Int))) (0 : Int)) != (List.getD c.2.2.1 (Int.toNat s2.1.1) (0 : Int)))) (K (Bool.false, ())) (k ((), ())))))))))))))))))) ((inK IntKind.i64 (s1.1.1 + (1 : Int))) ∧ (next1 (((s1.1.1 + (1 : Int)), ()), ()))))))) (((0 : Int), ()), ()))))) (K (Bool.true, ())))))) (((0 : Int), ()), ())))))) (((0 : Int), ()), ()))))
theorem w_spec_IsShape (x : denL c_spec_IsShape.args) (K : Bool × Unit → Prop) : evF tab (lkp [(84, c_spec_l01In), (58, c_spec_l01Map), (85, c_spec_l02Ends)]) (cutL [(20, 11), (23, 33), (9, 24)]) Try.f56 (bodyOf Try.f56) (.s .n (.s .n (.s .n (.s .n (.s (.s .n (.l [(4, (.d (.int .i64)))] [] [1, 3] .n)) (.s (.s .n (.l [(5, (.d (.int .i64)))] [] [1, 3] (.s .n (.s (.s .n (.s .n (.l [(6, (.d (.int .i64)))] [] [1, 3, 5] (.s .n (.s (.j [] [] [1, 3, 5, 6] .n) .n))))) .n)))) .n)))))) c_spec_IsShape x K = W_spec_IsShape x.1 K := by kernel_rfl
theorem k_spec_IsShape : okC Try.f56.ntmps (cutL [(20, 11), (23, 33), (9, 24)]) (bodyOf Try.f56) = true := by kernel_rfl
theorem m_spec_IsShape (c : CategoryD) (hok : allP (okL c_spec_IsShape.args (c, ()))) (hpre : allP (c_spec_IsShape.pre (c, ()))) : W_spec_IsShape c (fun r => r = c_spec_IsShape.res (c, ())) := by
  simp only [c_spec_IsShape, okL, T.oks, T.ok, ap, allP, true_and, and_true, implies_true] at hok hpre
  try dsimp only [T.den] at hok
  try dsimp only [T.den] at hpre
  unfold W_spec_IsShape
  have bad : ¬ ShapeP c → (false, ()) = c_spec_IsShape.res (c, ()) := fun h => by simp only [c_spec_IsShape]; rw [shape_f h]
  refine cnd_of (fun hc => bad fun h => ?_) (fun hc => cnd_of (fun hd => bad fun h => ?_) (fun hd => ?_))
  · have h1 := h.ob; have h2 := h.m; have h3 := h.lt; have h4 := h.fr; have h5 := h.to; have h6 := h.lc; simp only [inR] at hc; grind [cnd, nb_eq, inK64]
  · have h1 := h.li; have h2 := h.ids; grind [cnd, nb_eq, inK64]
  simp only [inR, Bool.or_eq_false_iff, Bool.not_eq_false', Bool.and_eq_true, decide_eq_true_eq, decide_eq_false_iff_not, bne_eq_false_iff_eq] at hc hd
  obtain ⟨⟨⟨⟨hob, hm⟩, _, hfr⟩, hlt, hto⟩, hlc⟩ := hc
  obtain ⟨hli, hids⟩ := hd
  refine loop_ix (n := c.1) (fun x => ∀ y : Int, 0 ≤ y → y < x → c.2.1.getD (c.2.2.2.1.getD y.toNat 0).toNat 0 = y ∧ c.2.2.1.getD (c.2.2.2.1.getD y.toNat 0).toNat 0 = y) (by omega) (by intro y h0 h1; omega) ?_ ?_
  · intro x next h0 h1 hP hn hin
    have hb := within_iff.1 hids x h0 (by omega)
    try dsimp only
    refine cnd_d (fun _ => ⟨h0, by omega, hb.1, hb.2, fun _ => by omega, fun _ => by omega, cnd_of (fun hx => bad fun h => ?_) (fun hx => ?_)⟩) (fun h => absurd h1 h)
    · have := h.idt x h0 (by omega)
      rw [this.1, this.2] at hx
      simp at hx
    · simp only [Bool.or_eq_false_iff, bne_eq_false_iff_eq] at hx
      refine ⟨by rw [inK64]; (try dsimp only); omega, hn fun y y0 y1 => ?_⟩
      by_cases e : y = x
      · rw [e]; exact hx
      · exact hP y y0 (by omega)
  intro next hidt hin
  refine cnd_d (fun h => absurd h (by dsimp only; omega)) (fun _ => ?_)
  refine loop_ix (n := c.2.1.length) (fun f => ∀ f' : Int, 0 ≤ f' → f' < f → (c.2.2.2.2.getD f'.toNat []).length = c.2.1.length ∧ ∀ g : Int, 0 ≤ g → g < c.2.1.length → cellR c f' g = true) (by omega) (by intro y h0 h1; omega) ?_ ?_
  · intro f next h0 h1 hP hn hin
    try dsimp only
    refine cnd_d (fun _ => ⟨h0, by omega, cnd_of (fun hx => bad fun h => ?_) (fun hx => ?_)⟩) (fun h => absurd h1 h)
    · have := h.row f h0 (by omega)
      rw [this] at hx
      simp at hx
    simp only [bne_eq_false_iff_eq] at hx
    refine loop_ix (n := c.2.1.length) (fun g => ∀ g' : Int, 0 ≤ g' → g' < g → cellR c f g' = true) (by omega) (by intro y h0 h1; omega) ?_ ?_
    · intro g next3 g0 g1 hP3 hn3 hin3
      try dsimp only
      refine cnd_d (fun _ => ?_) (fun h => absurd g1 h)
      refine join_of (fun _ => cellR c f g = true) (fun _ hcell => ⟨by rw [inK64]; (try dsimp only); omega, hn3 fun g' y0 y1 => ?_⟩) (fun k hk => ?_)
      · by_cases e : g' = g
        · rw [e]; exact hcell
        · exact hP3 g' y0 (by omega)
      have hcell : ∀ b, cellR c f g = b → b = false → ¬ ShapeP c := fun b h1 h2 h => by
        have := h.cell f g h0 (by omega) g0 (by omega)
        rw [h1, h2] at this; cases this
      have hk' := hk ((), ())
      obtain ⟨v, hv⟩ : ∃ v, (c.2.2.2.2.getD f.toNat []).getD g.toNat 0 = v := ⟨_, rfl⟩
      have hR : cellR c f g = cellQ c f g v := by unfold cellR compR; rw [hv]
      rw [hR] at hk'
      rw [hR] at hcell
      rw [hv]
      clear hP3 hn3 hP hn hk hR hv hidt hok
      refine ⟨h0, by omega, g0, by omega, h0, by omega, g0, by omega, cnd_of (fun ha => cnd_of (fun hb => bad ?_) (fun hb => hk' ?_)) (fun ha => ⟨fun hv => ?_, fun _ => ⟨by omega, h0⟩, fun hv => ?_, fun _ => ⟨by omega, g0⟩, cnd_of (fun hb => bad ?_) (fun hb => hk' ?_)⟩)⟩
      · exact hcell _ rfl (by grind [cnd, nb_eq, inK64, cellQ])
      · grind [cnd, nb_eq, inK64, cellQ]
      · simp only [Bool.or_eq_false_iff, decide_eq_false_iff_not] at hv; omega
      · simp only [Bool.or_eq_false_iff, decide_eq_false_iff_not] at hv; omega
      · exact hcell _ rfl (by grind [cnd, nb_eq, inK64, cellQ])
      · grind [cnd, nb_eq, inK64, cellQ]
    · intro next3 hP3 hin3
      refine cnd_d (fun h => absurd h (by dsimp only; omega)) (fun _ => ⟨by rw [inK64]; (try dsimp only); omega, hn fun f' y0 y1 => ?_⟩)
      by_cases e : f' = f
      · rw [e]; exact ⟨by omega, fun g g0 g1 => hP3 g g0 (by omega)⟩
      · exact hP f' y0 (by omega)
  · intro next2 hP2 hin2
    refine cnd_d (fun h => absurd h (by dsimp only; omega)) (fun _ => ?_)
    simp only [c_spec_IsShape]
    rw [shape_t ⟨hob, by omega, by omega, hfr, hto, by omega, hids, by omega, fun x a b => hidt x a (by omega), fun f a b => (hP2 f a (by omega)).1, fun f g a b d e => (hP2 f a (by omega)).2 g d e⟩]
theorem ct_spec_IsShape : CtOk Try.prog 56 c_spec_IsShape :=
  ct_by (Φ := lkp [(84, c_spec_l01In), (58, c_spec_l01Map), (85, c_spec_l02Ends)]) (good_cons ct_spec_l01In (good_cons ct_spec_l01Map (good_cons ct_spec_l02Ends good_nil))) tab_ok (by kernel_rfl) (fn := Try.f56) (c := bodyOf Try.f56) (by kernel_rfl) (by kernel_rfl) (by kernel_rfl) c_spec_IsShape rfl (.s .n (.s .n (.s .n (.s .n (.s (.s .n (.l [(4, (.d (.int .i64)))] [] [1, 3] .n)) (.s (.s .n (.l [(5, (.d (.int .i64)))] [] [1, 3] (.s .n (.s (.s .n (.s .n (.l [(6, (.d (.int .i64)))] [] [1, 3, 5] (.s .n (.s (.j [] [] [1, 3, 5, 6] .n) .n))))) .n)))) .n)))))) (cutL [(20, 11), (23, 33), (9, 24)]) (by kernel_rfl) (by kernel_rfl) k_spec_IsShape (by decide) (fun x K => W_spec_IsShape x.1 K) w_spec_IsShape (fun x h1 h2 => m_spec_IsShape x.1 h1 h2)
def c_spec_l02Fault : Ct := ⟨[CategoryT], [true], fun x => [ShapeP x.1], [(false, (.fz (.int .i64))), (false, (.fz (.int .i64))), (false, (.fz (.int .i64))), (false, (.fz (.int .i64)))], fun x => ((faultR x.1).1, (faultR x.1).2.1, (faultR x.1).2.2.1, (faultR x.1).2.2.2, ()), false, none⟩
def W_spec_l02Fault (c : CategoryD) (K : Int × Int × Int × Int × Unit → Prop) : Prop := (loopW (S := ((Int × Unit) × Unit)) (fun s => (fun next => ((inK IntKind.i64 s.1.1) → (cnd (decide (s.1.1 < (((List.length c.2.1) : Nat) : Int))) (((0 : Int) ≤ s.1.1) ∧ ((s.1.1 < (((List.length c.2.1) : Nat) : Int)) ∧ (((0 : Int) ≤ (List.getD c.2.1 (Int.toNat s.1.1) (0 : Int))) ∧ (((List.getD c.2.1 (Int.toNat s.1.1) (0 : Int)) < (((List.length c.2.2.2.1) : Nat) : Int)) ∧ (((0 : Int) ≤ (List.getD c.2.2.2.1 (Int.toNat (List.getD c.2.1 (Int.toNat s.1.1) (0 : Int))) (0 : Int))) ∧ (((List.getD c.2.2.2.1 (Int.toNat (List.getD c.2.1 (Int.toNat s.1.1) (0 : Int))) (0 : Int)) < (((List.length c.2.2.2.2) : Nat) : Int)) ∧ (((0 : Int) ≤ s.1.1) ∧ ((s.1.1 < (((List.length (List.getD c.2.2.2.2 (Int.toNat (List.getD c.2.2.2.1 (Int.toNat (List.getD c.2.1 (Int.toNat s.1.1) (0 : Int))) (0 : Int))) ([] : List Int))) : Nat) : Int)) ∧ (((((List.getD (List.getD c.2.2.2.2 (Int.toNat (List.getD c.2.2.2.1 (Int.toNat (List.getD c.2.1 (Int.toNat s.1.1) (0 : Int))) (0 : Int))) ([] : List Int)) (Int.toNat s.1.1) (0 : Int)) != s.1.1) = Bool.false) → ((s.1.1 < (((List.length c.2.2.2.2) : Nat) : Int)) ∧ ((0 : Int) ≤ s.1.1))) ∧ (((((List.getD (List.getD c.2.2.2.2 (Int.toNat (List.getD c.2.2.2.1 (Int.toNat (List.getD c.2.1 (Int.toNat s.1.1) (0 : Int))) (0 : Int))) ([] : List Int)) (Int.toNat s.1.1) (0 : Int)) != s.1.1) = Bool.false) → ((s.1.1 < (((List.length c.2.2.1) : Nat) : Int)) ∧ ((0 : Int) ≤ s.1.1))) ∧ (((((List.getD (List.getD c.2.2.2.2 (Int.toNat (List.getD c.2.2.2.1 (Int.toNat (List.getD c.2.1 (Int.toNat s.1.1) (0 : Int))) (0 : Int))) ([] : List Int)) (Int.toNat s.1.1) (0 : Int)) != s.1.1) = Bool.false) → (((List.getD c.2.2.1 (Int.toNat s.1.1) (0 : Int)) < (((List.length c.2.2.2.1) : Nat) : Int)) ∧ ((0 : Int) ≤ (List.getD c.2.2.1 (Int.toNat s.1.1) (0 : Int))))) ∧ (((((List.getD (List.getD c.2.2.2.2 (Int.toNat (List.getD c.2.2.2.1 (Int.toNat (List.getD c.2.1 (Int.toNat s.1.1) (0 : Int))) (0 : Int))) ([] : List Int)) (Int.toNat s.1.1) (0 : Int)) != s.1.1) = Bool.false) → (((List.getD c.2.2.2.1 (Int.toNat (List.getD c.2.2.1 (Int.toNat s.1.1) (0 : Int))) (0 : Int)) < (((List.length (List.getD c.2.2.2.2 (Int.toNat s.1.1) ([] : List Int))) : Nat) : Int)) ∧ ((0 : Int) ≤ (List.getD c.2.2.2.1 (Int.toNat (List.getD c.2.2.1 (Int.toNat s.1.1) (0 : Int))) (0 : Int))))) ∧ (cnd (((List.getD (List.getD c.2.2.2.2 (Int.toNat (List.getD c.2.2.2.1 (Int.toNat (List.getD c.2.1 (Int.toNat s.1.1) (0 : Int))) (0 : Int))) ([] : List Int)) (Int.toNat s.1.1) (0 : Int)) != s.1.1) || ((List.getD (List.getD c.2.2.2.2 (Int.toNat s.1.1) ([] : List Int)) (Int.toNat (List.getD c.2.2.2.1 (Int.toNat (List.getD c.2.2.1 (Int.toNat s.1.1) (0 : Int))) (0 : Int))) (0 : Int)) != s.1.1)) (K ((1 : Int), (s.1.1, ((0 : Int), ((0 : Int), ()))))) ((inK IntKind.i64 (s.1.1 + (1 : Int))) ∧ (next (((s.1.1 + (1 : Int)), ()), ())))))))))))))))) (loopW (S := ((Int × Unit) × Unit)) (fun s1 => (fun next1 => ((inK IntKind.i64 s1.1.1) → (cnd (decide (s1.1.1 < (((List.length c.2.1) : Nat) : Int))) (loopW (S := ((Int × Unit) × Unit)) (fun s2 => (fun next2 => ((inK IntKind.i64 s2.1.1) → (cnd (decide (s2.1.1 < (((List.length c.2.1) : Nat) : Int))) (joinW (S := (Unit × Unit)) (fun s3 => ((inK IntKind.i64 (s2.1.1 + (1 : Int))) ∧ (next2 (((s2.1.1 + (1 : Int)), ()), ())))) (fun k => (((0 : Int) ≤ s1.1.1) ∧ ((s1.1.1 < (((List.length c.2.2.1) : Nat) : Int)) ∧ (((0 : Int) ≤ s2.1.1) ∧ ((s2.1.1 < (((List.length c.2.1) : Nat) : Int)) ∧ (cnd ((List.getD c.2.2.1 (Int.toNat s1.1.1) (0 : Int)) != (List.getD c.2.1 (Int.toNat s2.1.1) (0 : Int))) (k ((), ())) (loopW (S := ((Int × Unit) × Unit)) (fun s3 => (fun next3 => ((inK IntKind.i64 s3.1.1) → (cnd (decide (s3.1.1 < (((List.length c.2.1) : Nat) : Int))) (((0 : Int) ≤ s2.1.1) ∧ ((s2.1.1 < (((List.length c.2.2.1) : Nat) : Int)) ∧ (((0 : Int) ≤ s3.1.1) ∧ ((s3.1.1 < (((List.length c.2.1) : Nat) : Int)) ∧ (((((List.getD c.2.2.1 (Int.toNat s2.1.1) (0 : Int)) == (List.getD c.2.1 (Int.toNat s3.1.1) (0 : Int))) = Bool.true) → ((s1.1.1 < (((List.length c.2.2.2.2) : Nat) : Int)) ∧ ((0 : Int) ≤ s1.1.1))) ∧ (((((List.getD c.2.2.1 (Int.toNat s2.1.1) (0 : Int)) == (List.getD c.2.1 (Int.toNat s3.1.1) (0 : Int))) = Bool.true) → ((s2.1.1 < (((List.length (List.getD c.2.2.2.2 (Int.toNat s1.1.1) ([] : List Int))) : Nat) : Int)) ∧ ((0 : Int) ≤ s2.1.1))) ∧ (((((List.getD c.2.2.1 (Int.toNat s2.1.1) (0 : Int)) == (List.getD c.2.1 (Int.toNat s3.1.1) (0 : Int))) = Bool.true) → (((List.getD (List.getD c.2.2.2.2 (Int.toNat s1.1.1) ([] : List Int)) (Int.toNat s2.1.1) (0 : Int)) < (((List.length c.2.2.2.2) : Nat) : Int)) ∧ ((0 : Int) ≤ (List.getD (List.getD c.2.2.2.2 (Int.toNat s1.1.1) ([] : List Int)) (Int.toNat s2.1.1) (0 : Int))))) ∧ (((((List.getD c.2.2.1 (Int.toNat s2.1.1) (0 : Int)) == (List.getD c.2.1 (Int.toNat s3.1.1) (0 : Int))) = Bool.true) → ((s3.1.1 < (((List.length (List.getD c.2.2.2.2 (Int.toNat (List.getD (List.getD c.2.2.2.2 (Int.toNat s1.1.1) ([] : List Int)) (Int.toNat s2.1.1) (0 : Int))) ([] : List Int))) : Nat) : Int)) ∧ ((0 : Int) ≤ s3.1.1))) ∧ (((((List.getD c.2.2.1 (Int.toNat s2.1.1) (0 : Int)) == (List.getD c.2.1 (Int.toNat s3.1.1) (0 : Int))) = Bool.true) → ((s1.1.1 < (((List.length c.2.2.2.2) : Nat) : Int)) ∧ ((0 : Int) ≤ s1.1.1))) ∧ (((((List.getD c.2.2.1 (Int.toNat s2.1.1) (0 : Int)) == (List.getD c.2.1 (Int.toNat s3.1.1) (0 : Int))) = Bool.true) → ((s2.1.1 < (((List.length c.2.2.2.2) : Nat) : Int)) ∧ ((0 : Int) ≤ s2.1.1))) ∧ (((((List.getD c.2.2.1 (Int.toNat s2.1.1) (0 : Int)) == (List.getD c.2.1 (Int.toNat s3.1.1) (0 : Int))) = Bool.true) → ((s3.1.1 < (((List.length (List.getD c.2.2.2.2 (Int.toNat s2.1.1) ([] : List Int))) : Nat) : Int)) ∧ ((0 : Int) ≤ s3.1.1))) ∧ (((((List.getD c.2.2.1 (Int.toNat s2.1.1) (0 : Int)) == (List.getD c.2.1 (Int.toNat s3.1.1) (0 : Int))) = Bool.true) → (((List.getD (List.getD c.2.2.2.2 (Int.toNat s2.1.1) ([] : List Int)) (Int.toNat s3.1.1) (0 : Int)) < (((List.length (List.getD c.2.2.2.2 (Int.toNat s1.1.1) ([] : List Int))) : Nat) : Int)) ∧ ((0 : Int) ≤ (List.getD (List.getD c.2.2.2.2 (Int.toNat s2.1.1) ([] : List Int)) (Int.toNat s3.1.1) (0 : Int))))) ∧ (cnd (((List.getD c.2.2.1 (Int.toNat s2.1.1) (0 : Int)) == (List.getD c.2.1 (Int.toNat s3.1.1) (0 : Int))) && ((List.getD (List.getD c.2.2.2.2 (Int.toNat (List.getD (List.getD c.2.2.2.2 (Int.toNat s1.1.1) ([] : List Int)) (Int.toNat s2.1.1) (0 : Int))) ([] : List Int)) (Int.toNat s3.1.1) (0 : Int)) != (List.getD (List.getD c.2.2.2.2 (Int.toNat s1.1.1) ([] : List Int)) (Int.toNat (List.getD (List.getD c.2.2.2.2 (Int.toNat s2.1.1) ([] : List Int)) (Int.toNat s3.1.1) (0 : Int))) (0 : Int)))) (K ((2 : Int), (s1.1.1, (s2.1.1, (s3.1.1, ()))))) ((inK IntKind.i64 (s3.1.1 + (1 : Int))) ∧ (next3 (((s3.1.1 + (1 : Int)), ()), ())))))))))))))))) (k ((), ())))))) (((0 : Int), ()), ()))))))))) ((inK IntKind.i64 (s1.1.1 + (1 : Int))) ∧ (next1 (((s1.1.1 + (1 : Int)), ()), ()))))))) (((0 : Int), ()), ())) (K ((0 : Int), ((0 : Int), ((0 : Int), ((0 : Int), ()))))))))) (((0 : Int), ()), ())))))) (((0 : Int), ()), ()))
theorem w_spec_l02Fault (x : denL c_spec_l02Fault.args) (K : Int × Int × Int × Int × Unit → Prop) : evF tab (lkp []) (cutL [(17, 44), (5, 38), (13, 11)]) Try.f57 (bodyOf Try.f57) (.s .n (.s .n (.s (.s .n (.l [(7, (.d (.int .i64)))] [] [1, 6] .n)) (.s (.s .n (.l [(8, (.d (.int .i64)))] [] [1, 6] (.s .n (.s (.s .n (.l [(9, (.d (.int .i64)))] [] [1, 6, 8] (.s .n (.s (.j [] [] [1, 6, 8, 9] (.s .n (.s .n (.l [(10, (.d (.int .i64)))] [] [1, 6, 8, 9] .n)))) .n)))) .n)))) .n)))) c_spec_l02Fault x K = W_spec_l02Fault x.1 K := by kernel_rfl
theorem k_spec_l02Fault : okC Try.f57.ntmps (cutL [(17, 44), (5, 38), (13, 11)]) (bodyOf Try.f57) = true := by kernel_rfl
theorem m_spec_l02Fault (c : CategoryD) (hok : allP (okL c_spec_l02Fault.args (c, ()))) (hpre : allP (c_spec_l02Fault.pre (c, ()))) : W_spec_l02Fault c (fun r => r = c_spec_l02Fault.res (c, ())) := by
  simp only [c_spec_l02Fault, okL, T.oks, T.ok, ap, allP, true_and, and_true, implies_true] at hok hpre
  try dsimp only [T.den] at hok
  try dsimp only [T.den] at hpre
  unfold W_spec_l02Fault
  have S : ShapeP c := hpre
  have hlt := S.lt
  have hli := S.li
  have hlc := S.lc
  have hmm := S.m
  have resq : ∀ a b d e, faultR c = (a, b, d, e) → (a, b, d, e, ()) = c_spec_l02Fault.res (c, ()) := fun a b d e h => by simp only [c_spec_l02Fault, h]
  have hcr : ∀ f g : Int, (c.2.2.2.2.getD f.toNat []).getD g.toNat 0 = compR c f g := fun _ _ => rfl
  simp only [hcr]
  refine loop_ix (n := c.2.1.length) (fun f => scanR (faultI c) c.2.1.length 0 = scanR (faultI c) ((c.2.1.length : Int) - f).toNat f) (by omega) scan_0 ?_ ?_
  · intro f next h0 h1 hP hn hin
    try dsimp only
    obtain ⟨a1, a2, a3, a4⟩ := S.frm h0 h1
    obtain ⟨b1, b2, _, _⟩ := S.idn a1 a2
    obtain ⟨d1, d2, _, _⟩ := S.idn a3 a4
    have r1 := S.row _ b1 b2
    have r2 := S.row f h0 h1
    refine cnd_d (fun _ => ⟨h0, h1, by omega, by omega, by omega, by omega, h0, by omega, fun _ => by omega, fun _ => by omega, fun _ => by omega, fun _ => by omega, cnd_of (fun hx => resq _ _ _ _ ?_) (fun hx => ⟨by rw [inK64]; (try dsimp only); omega, hn ?_⟩)⟩) (fun h => absurd h1 h)
    · have : faultI c f = some (1, f, 0, 0) := by unfold faultI; rw [if_pos]; simpa using hx
      unfold faultR; rw [hP, scan_s h1 this]; rfl
    · have : faultI c f = none := by unfold faultI; rw [if_neg]; simpa using hx
      rw [hP, scan_c h1 this]
  intro next hI hin
  rw [scan_n] at hI
  refine cnd_d (fun h => absurd h (by dsimp only; omega)) (fun _ => ?_)
  have hF : faultR c = orR (scanR (faultF c) c.2.1.length 0) (0, 0, 0, 0) := by unfold faultR; rw [hI]; rfl
  refine loop_ix (n := c.2.1.length) (fun f => scanR (faultF c) c.2.1.length 0 = scanR (faultF c) ((c.2.1.length : Int) - f).toNat f) (by omega) scan_0 ?_ ?_
  · intro f next h0 h1 hP hn hin
    try dsimp only
    refine cnd_d (fun _ => ?_) (fun h => absurd h1 h)
    have r1 := S.row f h0 h1
    refine loop_ix (n := c.2.1.length) (fun g => faultF c f = scanR (faultG c f) ((c.2.1.length : Int) - g).toNat g) (by omega) scan_0 ?_ ?_
    · intro g next3 g0 g1 hP3 hn3 hin3
      try dsimp only
      refine cnd_d (fun _ => ?_) (fun h => absurd g1 h)
      have r2 := S.row g g0 g1
      refine join_of (fun _ => faultG c f g = none) (fun _ hG => ⟨by rw [inK64]; (try dsimp only); omega, hn3 (by rw [hP3, scan_c g1 hG])⟩) (fun k hk => ?_)
      have hk' := hk ((), ())
      refine ⟨by omega, by omega, by omega, by omega, cnd_of (fun hx => hk' ?_) (fun hx => ?_)⟩
      · unfold faultG; rw [if_neg]; simpa using hx
      have hfg : c.2.2.1.getD f.toNat 0 = c.2.1.getD g.toNat 0 := by rw [bne_eq_false_iff_eq] at hx; exact hx
      obtain ⟨y1, y2, _, _⟩ := S.yes h0 h1 g0 g1 hfg
      refine loop_ix (n := c.2.1.length) (fun h => faultG c f g = scanR (faultH c f g) ((c.2.1.length : Int) - h).toNat h) (by omega) (by unfold faultG; rw [if_pos hfg]; exact scan_0) ?_ ?_
      · intro h next4 i0 i1 hP4 hn4 hin4
        try dsimp only
        refine cnd_d (fun _ => ?_) (fun h => absurd i1 h)
        have r3 := S.row _ y1 y2
        have cgh := S.comp g0 g1 i0 i1
        have ygh := @ShapeP.yes c S g h g0 g1 i0 i1
        refine ⟨by omega, by omega, by omega, by omega, fun _ => by omega, fun _ => by omega, fun _ => by omega, fun _ => by omega, fun _ => by omega, fun _ => by omega, fun _ => by omega, fun he => ?_, cnd_of (fun hx => resq _ _ _ _ ?_) (fun hx => ⟨by rw [inK64]; (try dsimp only); omega, hn4 ?_⟩)⟩
        · have := ygh (by simpa only [beq_iff_eq] using he); omega
        · have : faultH c f g h = some (2, f, g, h) := by unfold faultH; rw [if_pos]; simpa using hx
          have e1 : faultG c f g = some (2, f, g, h) := by rw [hP4, scan_s i1 this]
          have e2 : faultF c f = some (2, f, g, h) := by rw [hP3, scan_s g1 e1]
          rw [hF, hP, scan_s h1 e2]; rfl
        · have : faultH c f g h = none := by unfold faultH; rw [if_neg]; simpa using hx
          rw [hP4, scan_c i1 this]
      · intro next4 hP4 hin4
        rw [scan_n] at hP4
        exact cnd_d (fun h => absurd h (by dsimp only; omega)) (fun _ => hk' hP4)
    · intro next3 hP3 hin3
      rw [scan_n] at hP3
      exact cnd_d (fun h => absurd h (by dsimp only; omega)) (fun _ => ⟨by rw [inK64]; (try dsimp only); omega, hn (by rw [hP, scan_c h1 hP3])⟩)
  · intro next2 hP2 hin2
    rw [scan_n] at hP2
    refine cnd_d (fun h => absurd h (by dsimp only; omega)) (fun _ => resq _ _ _ _ ?_)
    rw [hF, hP2]; rfl
theorem ct_spec_l02Fault : CtOk Try.prog 57 c_spec_l02Fault :=
  ct_by (Φ := lkp []) good_nil tab_ok (by kernel_rfl) (fn := Try.f57) (c := bodyOf Try.f57) (by kernel_rfl) (by kernel_rfl) (by kernel_rfl) c_spec_l02Fault rfl (.s .n (.s .n (.s (.s .n (.l [(7, (.d (.int .i64)))] [] [1, 6] .n)) (.s (.s .n (.l [(8, (.d (.int .i64)))] [] [1, 6] (.s .n (.s (.s .n (.l [(9, (.d (.int .i64)))] [] [1, 6, 8] (.s .n (.s (.j [] [] [1, 6, 8, 9] (.s .n (.s .n (.l [(10, (.d (.int .i64)))] [] [1, 6, 8, 9] .n)))) .n)))) .n)))) .n)))) (cutL [(17, 44), (5, 38), (13, 11)]) (by kernel_rfl) (by kernel_rfl) k_spec_l02Fault (by decide) (fun x K => W_spec_l02Fault x.1 K) w_spec_l02Fault (fun x h1 h2 => m_spec_l02Fault x.1 h1 h2)
def c_spec_l02Is : Ct := ⟨[CategoryT], [true], fun x => [], [(false, (.fz .bool))], fun x => (catR x.1, ()), false, none⟩
def W_spec_l02Is (c : CategoryD) (K : Bool × Unit → Prop) : Prop := (cnd (!(shapeR c)) (K (Bool.false, ())) ((ShapeP c) ∧ (K (((faultR c).1 == (0 : Int)), ()))))
theorem w_spec_l02Is (x : denL c_spec_l02Is.args) (K : Bool × Unit → Prop) : evF tab (lkp [(56, c_spec_IsShape), (57, c_spec_l02Fault)]) (cutL []) Try.f33 (bodyOf Try.f33) .n c_spec_l02Is x K = W_spec_l02Is x.1 K := by kernel_rfl
theorem k_spec_l02Is : okC Try.f33.ntmps (cutL []) (bodyOf Try.f33) = true := by kernel_rfl
theorem m_spec_l02Is (c : CategoryD) (hok : allP (okL c_spec_l02Is.args (c, ()))) (hpre : allP (c_spec_l02Is.pre (c, ()))) : W_spec_l02Is c (fun r => r = c_spec_l02Is.res (c, ())) := by
  simp only [c_spec_l02Is, okL, T.oks, T.ok, ap, allP, true_and, and_true, implies_true] at hok hpre
  try dsimp only [T.den] at hok
  try dsimp only [T.den] at hpre
  unfold W_spec_l02Is
  simp only [c_spec_l02Is, catR]
  have := @shape_iff c
  grind [cnd, nb_eq, inK64]
theorem ct_spec_l02Is : CtOk Try.prog 33 c_spec_l02Is :=
  ct_by (Φ := lkp [(56, c_spec_IsShape), (57, c_spec_l02Fault)]) (good_cons ct_spec_IsShape (good_cons ct_spec_l02Fault good_nil)) tab_ok (by kernel_rfl) (fn := Try.f33) (c := bodyOf Try.f33) (by kernel_rfl) (by kernel_rfl) (by kernel_rfl) c_spec_l02Is rfl .n (cutL []) (by kernel_rfl) (by kernel_rfl) k_spec_l02Is (by decide) (fun x K => W_spec_l02Is x.1 K) w_spec_l02Is (fun x h1 h2 => m_spec_l02Is x.1 h1 h2)
def c_spec_RenumberCategory : Ct := ⟨[CategoryT, (.sl (.int .i64)), (.sl (.int .i64))], [true, false, false], fun x => [], [(true, CategoryO), (false, (.fz (.int .i64)))], fun x => ((renCatR x.1 x.2.1 x.2.2.1).1, (renCatR x.1 x.2.1 x.2.2.1).2, ()), false, none⟩
def W_spec_RenumberCategory (c : CategoryD) (objects : List Int) (arrows : List Int) (K : CategoryD × Int × Unit → Prop) : Prop := (cnd (!(catR c)) (K (((0 : Int), (([] : List Int), (([] : List Int), (([] : List Int), ([] : List (List Int)))))), ((1 : Int), ()))) (((0 : Int) ≤ c.1) ∧ ((c.1 ≤ (256 : Int)) ∧ ((((!(bijR objects c.1)) = Bool.false) → (((((List.length c.2.1) : Nat) : Int) ≤ (256 : Int)) ∧ ((0 : Int) ≤ (((List.length c.2.1) : Nat) : Int)))) ∧ (cnd ((!(bijR objects c.1)) || (!(bijR arrows (((List.length c.2.1) : Nat) : Int)))) (K (((0 : Int), (([] : List Int), (([] : List Int), (([] : List Int), ([] : List (List Int)))))), ((2 : Int), ()))) ((ShapeP c) ∧ (((bijR objects c.1) = Bool.true) ∧ (((bijR arrows (((List.length c.2.1) : Nat) : Int)) = Bool.true) ∧ (K ((renumR c objects arrows), ((0 : Int), ())))))))))))
theorem w_spec_RenumberCategory (x : denL c_spec_RenumberCategory.args) (K : CategoryD × Int × Unit → Prop) : evF tab (lkp [(33, c_spec_l02Is), (34, c_spec_l10Bijection), (35, c_spec_l10Renumber)]) (cutL []) Try.f7 (bodyOf Try.f7) .n c_spec_RenumberCategory x K = W_spec_RenumberCategory x.1 x.2.1 x.2.2.1 K := by kernel_rfl
theorem k_spec_RenumberCategory : okC Try.f7.ntmps (cutL []) (bodyOf Try.f7) = true := by kernel_rfl
theorem m_spec_RenumberCategory (c : CategoryD) (objects : List Int) (arrows : List Int) (hok : allP (okL c_spec_RenumberCategory.args (c, objects, arrows, ()))) (hpre : allP (c_spec_RenumberCategory.pre (c, objects, arrows, ()))) : W_spec_RenumberCategory c objects arrows (fun r => r = c_spec_RenumberCategory.res (c, objects, arrows, ())) := by
  simp only [c_spec_RenumberCategory, okL, T.oks, T.ok, ap, allP, true_and, and_true, implies_true] at hok hpre
  try dsimp only [T.den] at hok
  try dsimp only [T.den] at hpre
  unfold W_spec_RenumberCategory
  have hcat : catR c = false → (T.dflt CategoryT : CategoryD) = (0, [], [], [], []) := fun _ => rfl
  refine cnd_of (fun hx => ?_) (fun hx => ?_)
  · have h : catR c = false := by rw [Bool.not_eq_true'] at hx; exact hx
    simp only [c_spec_RenumberCategory, renCatR]; rw [if_neg (by rw [h]; simp)]; rfl
  have h : catR c = true := by rw [Bool.not_eq_false'] at hx; exact hx
  have S := cat_shape h
  have hob := S.ob
  have hmm := S.m
  refine ⟨by omega, by omega, fun _ => by omega, cnd_of (fun hy => ?_) (fun hy => ?_)⟩
  · have hb : (bijR objects c.1 && bijR arrows c.2.1.length) = false := (by decide : ∀ a b : Bool, (!a || !b) = true → (a && b) = false) _ _ hy
    simp only [c_spec_RenumberCategory, renCatR]; rw [if_pos h, if_neg (by rw [hb]; simp)]; rfl
  · have hb : (bijR objects c.1 && bijR arrows c.2.1.length) = true := (by decide : ∀ a b : Bool, (!a || !b) = false → (a && b) = true) _ _ hy
    have hb2 := hb
    rw [Bool.and_eq_true] at hb2
    refine ⟨S, hb2.1, hb2.2, ?_⟩
    simp only [c_spec_RenumberCategory, renCatR]; rw [if_pos h, if_pos hb]
theorem ct_spec_RenumberCategory : CtOk Try.prog 7 c_spec_RenumberCategory :=
  ct_by (Φ := lkp [(33, c_spec_l02Is), (34, c_spec_l10Bijection), (35, c_spec_l10Renumber)]) (good_cons ct_spec_l02Is (good_cons ct_spec_l10Bijection (good_cons ct_spec_l10Renumber good_nil))) tab_ok (by kernel_rfl) (fn := Try.f7) (c := bodyOf Try.f7) (by kernel_rfl) (by kernel_rfl) (by kernel_rfl) c_spec_RenumberCategory rfl .n (cutL []) (by kernel_rfl) (by kernel_rfl) k_spec_RenumberCategory (by decide) (fun x K => W_spec_RenumberCategory x.1 x.2.1 x.2.2.1 K) w_spec_RenumberCategory (fun x h1 h2 => m_spec_RenumberCategory x.1 x.2.1 x.2.2.1 h1 h2)
def c_laws_FnExactRenumberCategory : Ct := ⟨[CategoryT, (.sl (.int .i64)), (.sl (.int .i64))], [true, false, false], fun x => [], [(false, (.fz .bool))], fun x => (true, ()), false, none⟩
def W_laws_FnExactRenumberCategory (aC : CategoryD) (aObjects : List Int) (aArrows : List Int) (K : Bool × Unit → Prop) : Prop := (cnd (decide ((1048576 : Int) < (((List.length aObjects) : Nat) : Int))) (K (Bool.true, ())) (cnd (decide ((1048576 : Int) < (((List.length aArrows) : Nat) : Int))) (K (Bool.true, ())) (((-(4611404543450677248 : Int)) ≤ (1048576 : Int)) ∧ (cnd (decide ((szR (wR CategoryT aC) (1048576 : Int)) < (0 : Int))) (K (Bool.true, ())) (((wR CategoryT aC) ≤ 1099511627776) ∧ (((wR (T.sl (T.int IntKind.i64)) aObjects) ≤ 1099511627776) ∧ (((wR (T.sl (T.int IntKind.i64)) aArrows) ≤ 1099511627776) ∧ (((wR CategoryT aC) ≤ 1099511627776) ∧ (((wR (T.sl (T.int IntKind.i64)) aObjects) ≤ 1099511627776) ∧ (((wR (T.sl (T.int IntKind.i64)) aArrows) ≤ 1099511627776) ∧ (cnd ((!(eqR CategoryT (renCatR aC aObjects aArrows).1 (renCatR aC aObjects aArrows).1)) || ((renCatR aC aObjects aArrows).2 != (renCatR aC aObjects aArrows).2)) (K (Bool.false, ())) (((wR CategoryT aC) ≤ 1099511627776) ∧ (cnd (!(eqR CategoryT aC aC)) (K (Bool.false, ())) (((wR (T.sl (T.int IntKind.i64)) aObjects) ≤ 1099511627776) ∧ (cnd (!(eqR (T.sl (T.int IntKind.i64)) aObjects aObjects)) (K (Bool.false, ())) (((wR (T.sl (T.int IntKind.i64)) aArrows) ≤ 1099511627776) ∧ (cnd (!(eqR (T.sl (T.int IntKind.i64)) aArrows aArrows)) (K (Bool.false, ())) (((0 : Int) ≤ (1 : Int)) ∧ ((((1 : Int) + (((ctR CategoryT aC) : Nat) : Int)) ≤ (4611686018427387904 : Int)) ∧ (((0 : Int) ≤ (mtR CategoryT aC (1 : Int)).2) ∧ ((((mtR CategoryT aC (1 : Int)).2 + (((ckR (T.sl (T.int IntKind.i64)) aObjects) : Nat) : Int)) ≤ (4611686018427387904 : Int)) ∧ (((0 : Int) ≤ (mkR (T.sl (T.int IntKind.i64)) aObjects (mtR CategoryT aC (1 : Int)).2).2) ∧ ((((mkR (T.sl (T.int IntKind.i64)) aObjects (mtR CategoryT aC (1 : Int)).2).2 + (((ckR (T.sl (T.int IntKind.i64)) aArrows) : Nat) : Int)) ≤ (4611686018427387904 : Int)) ∧ (cnd (((decide ((mkR (T.sl (T.int IntKind.i64)) aArrows (mkR (T.sl (T.int IntKind.i64)) aObjects (mtR CategoryT aC (1 : Int)).2).2).2 < (0 : Int))) || (!(eqR CategoryT (renCatR aC aObjects aArrows).1 (renCatR aC aObjects aArrows).1))) || ((renCatR aC aObjects aArrows).2 != (renCatR aC aObjects aArrows).2)) (K (Bool.false, ())) (((0 : Int) ≤ (1 : Int)) ∧ ((((1 : Int) + (((ctR CategoryT (renCatR aC aObjects aArrows).1) : Nat) : Int)) ≤ (4611686018427387904 : Int)) ∧ (((0 : Int) ≤ (1 : Int)) ∧ ((((1 : Int) + (((ctR CategoryT (mtR CategoryT (renCatR aC aObjects aArrows).1 (1 : Int)).1) : Nat) : Int)) ≤ (4611686018427387904 : Int)) ∧ (cnd (decide ((htR CategoryT (mtR CategoryT (renCatR aC aObjects aArrows).1 (1 : Int)).1 (1 : Int)) < (0 : Int))) (K (Bool.false, ())) (cnd ((htR CategoryT (mtR CategoryT (renCatR aC aObjects aArrows).1 (1 : Int)).1 (1 : Int)) != (mtR CategoryT (renCatR aC aObjects aArrows).1 (1 : Int)).2) (K (Bool.false, ())) (((wR CategoryT aC) ≤ 1099511627776) ∧ (((wR (T.sl (T.int IntKind.i64)) aObjects) ≤ 1099511627776) ∧ (((wR (T.sl (T.int IntKind.i64)) aArrows) ≤ 1099511627776) ∧ (cnd ((!(eqR CategoryT (renCatR aC aObjects aArrows).1 (renCatR aC aObjects aArrows).1)) || ((renCatR aC aObjects aArrows).2 != (renCatR aC aObjects aArrows).2)) (K (Bool.false, ())) (((0 : Int) ≤ (1 : Int)) ∧ ((((1 : Int) + (((ctR CategoryT (mtR CategoryT (renCatR aC aObjects aArrows).1 (1 : Int)).1) : Nat) : Int)) ≤ (4611686018427387904 : Int)) ∧ (cnd (decide ((htR CategoryT (mtR CategoryT (renCatR aC aObjects aArrows).1 (1 : Int)).1 (1 : Int)) < (0 : Int))) (K (Bool.false, ())) (cnd ((htR CategoryT (mtR CategoryT (renCatR aC aObjects aArrows).1 (1 : Int)).1 (1 : Int)) != (mtR CategoryT (renCatR aC aObjects aArrows).1 (1 : Int)).2) (K (Bool.false, ())) (K (Bool.true, ()))))))))))))))))))))))))))))))))))))))))
theorem w_laws_FnExactRenumberCategory (x : denL c_laws_FnExactRenumberCategory.args) (K : Bool × Unit → Prop) : evF tab (lkp [(10, c_impl_RenumberCategory), (11, c_laws_eqCategory), (12, c_laws_eqInt64S), (15, c_laws_heldCategory), (13, c_laws_markCategory), (14, c_laws_markInt64S), (6, c_laws_szCategory), (8, c_laws_toCategory), (9, c_laws_toInt64S), (7, c_spec_RenumberCategory)]) (cutL [(16, 503)]) Try.f3 (bodyOf Try.f3) .n c_laws_FnExactRenumberCategory x K = W_laws_FnExactRenumberCategory x.1 x.2.1 x.2.2.1 K := by kernel_rfl
theorem k_laws_FnExactRenumberCategory : okC Try.f3.ntmps (cutL [(16, 503)]) (bodyOf Try.f3) = true := by kernel_rfl
theorem m_laws_FnExactRenumberCategory (aC : CategoryD) (aObjects : List Int) (aArrows : List Int) (hok : allP (okL c_laws_FnExactRenumberCategory.args (aC, aObjects, aArrows, ()))) (hpre : allP (c_laws_FnExactRenumberCategory.pre (aC, aObjects, aArrows, ()))) : W_laws_FnExactRenumberCategory aC aObjects aArrows (fun r => r = c_laws_FnExactRenumberCategory.res (aC, aObjects, aArrows, ())) := by
  simp only [c_laws_FnExactRenumberCategory, okL, T.oks, T.ok, ap, allP, true_and, and_true, implies_true] at hok hpre
  try dsimp only [T.den] at hok
  try dsimp only [T.den] at hpre
  unfold W_laws_FnExactRenumberCategory
  have hg : ctR CategoryT (renCatR aC aObjects aArrows).1 ≤ 1720 := by
    unfold renCatR
    split
    · rename_i h
      have S := cat_shape h
      have hob := S.ob
      have hmm := S.m
      split
      · rename_i h2
        rw [Bool.and_eq_true] at h2
        have l1 := (bij_len h2.1).1
        have l2 := (bij_len h2.2).1
        have h3 := ck_rows (k := .i64) (B := 40) (renumR aC aObjects aArrows).2.2.2.2 (fun r hr => by
          change r ∈ tabN aArrows.length (fun f => tabN aArrows.length fun g => renCR aArrows aC f g) at hr
          rw [tabN_mem] at hr
          obtain ⟨x, _, _, rfl⟩ := hr
          rw [tabN_len]; omega)
        have h4 : (renumR aC aObjects aArrows).2.2.2.2.length = aArrows.length := tabN_len _
        have h5 : (renumR aC aObjects aArrows).2.1.length = aArrows.length := tabN_len _
        have h6 : (renumR aC aObjects aArrows).2.2.1.length = aArrows.length := tabN_len _
        have h7 : (renumR aC aObjects aArrows).2.2.2.1.length = aObjects.length := tabN_len _
        show 0 + (ckR (.sl (.int .i64)) (renumR aC aObjects aArrows).2.1 + (ckR (.sl (.int .i64)) (renumR aC aObjects aArrows).2.2.1 + (ckR (.sl (.int .i64)) (renumR aC aObjects aArrows).2.2.2.1 + ckR (.sl (.sl (.int .i64))) (renumR aC aObjects aArrows).2.2.2.2))) ≤ 1720
        rw [ck_ints, ck_ints, ck_ints, h5, h6, h7]
        omega
      · exact Nat.zero_le _
    · exact Nat.zero_le _
  have e1 := ct_le CategoryT (by decide) aC
  have e3 := @ht_mt1 CategoryT (renCatR aC aObjects aArrows).1 1
  simp only [Int.ofNat_one, Int.natCast_one] at e3
  simp only [wR_ints]
  simp only [eqR_self, mk_num, mt_num, ck_mk, ct_mt, e3, ck_ints, szR_neg]
  generalize wR CategoryT aC = n1 at *
  generalize ctR CategoryT aC = n2 at *
  generalize ctR CategoryT (renCatR aC aObjects aArrows).1 = n3 at *
  generalize (renCatR aC aObjects aArrows) = g at *
  generalize aObjects.length = n4 at *
  generalize aArrows.length = n5 at *
  clear hok
  repeat' (first | rfl | (refine cnd_d (fun _ => rfl) (fun h => ?_)) | (refine cnd_of (fun h => absurd h (by first | (simp; done) | (simp; omega))) (fun _ => ?_)) | (refine ⟨by omega, ?_⟩))
theorem ct_laws_FnExactRenumberCategory : CtOk Try.prog 3 c_laws_FnExactRenumberCategory :=
  ct_by (Φ := lkp [(10, c_impl_RenumberCategory), (11, c_laws_eqCategory), (12, c_laws_eqInt64S), (15, c_laws_heldCategory), (13, c_laws_markCategory), (14, c_laws_markInt64S), (6, c_laws_szCategory), (8, c_laws_toCategory), (9, c_laws_toInt64S), (7, c_spec_RenumberCategory)]) (good_cons ct_impl_RenumberCategory (good_cons ct_laws_eqCategory (good_cons ct_laws_eqInt64S (good_cons ct_laws_heldCategory (good_cons ct_laws_markCategory (good_cons ct_laws_markInt64S (good_cons ct_laws_szCategory (good_cons ct_laws_toCategory (good_cons ct_laws_toInt64S (good_cons ct_spec_RenumberCategory good_nil)))))))))) tab_ok (by kernel_rfl) (fn := Try.f3) (c := bodyOf Try.f3) (by kernel_rfl) (by kernel_rfl) (by kernel_rfl) c_laws_FnExactRenumberCategory rfl .n (cutL [(16, 503)]) (by kernel_rfl) (by kernel_rfl) k_laws_FnExactRenumberCategory (by decide) (fun x K => W_laws_FnExactRenumberCategory x.1 x.2.1 x.2.2.1 K) w_laws_FnExactRenumberCategory (fun x h1 h2 => m_laws_FnExactRenumberCategory x.1 x.2.1 x.2.2.1 h1 h2)
end Go.Bm
