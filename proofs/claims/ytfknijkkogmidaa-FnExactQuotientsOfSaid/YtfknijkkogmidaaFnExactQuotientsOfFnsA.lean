/- What the functions that FnExactQuotientsOf reaches give: for each its contract, what it asks, and the proof. No condition. -/
import Derived.Test.YtfknijkkogmidaaTab
namespace Go.Bm
open Go.Proofs
set_option maxRecDepth 100000
set_option maxHeartbeats 1000000
set_option linter.unusedVariables false
set_option linter.unusedSimpArgs false
def c_impl_Category_arrows : Ct := ⟨[(.pt CategoryT)], [false], fun x => [], [(false, (.fz (.int .i64)))], fun x => ((x.1.2.1.length : Int), ()), false, none⟩
def W_impl_Category_arrows (c : CategoryD) (K : Int × Unit → Prop) : Prop := (K ((((List.length c.2.1) : Nat) : Int), ()))
theorem w_impl_Category_arrows (x : denL c_impl_Category_arrows.args) (K : Int × Unit → Prop) : evF tab (lkp []) (cutL []) Try.f38 (bodyOf Try.f38) .n c_impl_Category_arrows x K = W_impl_Category_arrows x.1 K := by kernel_rfl
theorem k_impl_Category_arrows : okC Try.f38.ntmps (cutL []) (bodyOf Try.f38) = true := by kernel_rfl
theorem m_impl_Category_arrows (c : CategoryD) (hok : allP (okL c_impl_Category_arrows.args (c, ()))) (hpre : allP (c_impl_Category_arrows.pre (c, ()))) : W_impl_Category_arrows c (fun r => r = c_impl_Category_arrows.res (c, ())) := by
  simp only [c_impl_Category_arrows, okL, T.oks, T.ok, ap, allP, true_and, and_true, implies_true] at hok hpre
  try dsimp only [T.den] at hok
  try dsimp only [T.den] at hpre
  unfold W_impl_Category_arrows
  rfl
theorem ct_impl_Category_arrows : CtOk Try.prog 38 c_impl_Category_arrows :=
  ct_by (Φ := lkp []) good_nil tab_ok (by kernel_rfl) (fn := Try.f38) (c := bodyOf Try.f38) (by kernel_rfl) (by kernel_rfl) (by kernel_rfl) c_impl_Category_arrows rfl .n (cutL []) (by kernel_rfl) (by kernel_rfl) k_impl_Category_arrows (by decide) (fun x K => W_impl_Category_arrows x.1 K) w_impl_Category_arrows (fun x h1 h2 => m_impl_Category_arrows x.1 h1 h2)
def compR (c : CategoryD) (f g : Int) : Int := (c.2.2.2.2.getD f.toNat []).getD g.toNat 0

def c_impl_Category_then : Ct := ⟨[(.pt CategoryT), (.int .i64), (.int .i64)], [false, false, false], fun x => [0 ≤ x.2.1, x.2.1 < x.1.2.2.2.2.length, 0 ≤ x.2.2.1, x.2.2.1 < (x.1.2.2.2.2.getD x.2.1.toNat []).length], [(false, (.fz (.int .i64)))], fun x => (compR x.1 x.2.1 x.2.2.1, ()), false, none⟩
def W_impl_Category_then (c : CategoryD) (f : Int) (g : Int) (K : Int × Unit → Prop) : Prop := (((0 : Int) ≤ f) ∧ ((f < (((List.length c.2.2.2.2) : Nat) : Int)) ∧ (((0 : Int) ≤ g) ∧ ((g < (((List.length (List.getD c.2.2.2.2 (Int.toNat f) ([] : List Int))) : Nat) : Int)) ∧ (K ((List.getD (List.getD c.2.2.2.2 (Int.toNat f) ([] : List Int)) (Int.toNat g) (0 : Int)), ()))))))
theorem w_impl_Category_then (x : denL c_impl_Category_then.args) (K : Int × Unit → Prop) : evF tab (lkp []) (cutL []) Try.f68 (bodyOf Try.f68) .n c_impl_Category_then x K = W_impl_Category_then x.1 x.2.1 x.2.2.1 K := by kernel_rfl
theorem k_impl_Category_then : okC Try.f68.ntmps (cutL []) (bodyOf Try.f68) = true := by kernel_rfl
theorem m_impl_Category_then (c : CategoryD) (f : Int) (g : Int) (hok : allP (okL c_impl_Category_then.args (c, f, g, ()))) (hpre : allP (c_impl_Category_then.pre (c, f, g, ()))) : W_impl_Category_then c f g (fun r => r = c_impl_Category_then.res (c, f, g, ())) := by
  simp only [c_impl_Category_then, okL, T.oks, T.ok, ap, allP, true_and, and_true, implies_true] at hok hpre
  try dsimp only [T.den] at hok
  try dsimp only [T.den] at hpre
  unfold W_impl_Category_then
  exact ⟨hpre.1, hpre.2.1, hpre.2.2.1, hpre.2.2.2, rfl⟩
theorem ct_impl_Category_then : CtOk Try.prog 68 c_impl_Category_then :=
  ct_by (Φ := lkp []) good_nil tab_ok (by kernel_rfl) (fn := Try.f68) (c := bodyOf Try.f68) (by kernel_rfl) (by kernel_rfl) (by kernel_rfl) c_impl_Category_then rfl .n (cutL []) (by kernel_rfl) (by kernel_rfl) k_impl_Category_then (by decide) (fun x K => W_impl_Category_then x.1 x.2.1 x.2.2.1 K) w_impl_Category_then (fun x h1 h2 => m_impl_Category_then x.1 x.2.1 x.2.2.1 h1 h2)
def c_impl_Category_ends : Ct := ⟨[(.pt CategoryT), (.int .i64)], [false, false], fun x => [0 ≤ x.2.1, x.2.1 < x.1.2.1.length, x.2.1 < x.1.2.2.1.length], [(true, (.fz endsT))], fun x => (((x.1.2.1.getD x.2.1.toNat 0, x.1.2.2.1.getD x.2.1.toNat 0) : Int × Int), ()), false, none⟩
def W_impl_Category_ends (c : CategoryD) (f : Int) (K : endsD × Unit → Prop) : Prop := (((0 : Int) ≤ f) ∧ ((f < (((List.length c.2.1) : Nat) : Int)) ∧ (((0 : Int) ≤ f) ∧ ((f < (((List.length c.2.2.1) : Nat) : Int)) ∧ (K (((List.getD c.2.1 (Int.toNat f) (0 : Int)), (List.getD c.2.2.1 (Int.toNat f) (0 : Int))), ()))))))
theorem w_impl_Category_ends (x : denL c_impl_Category_ends.args) (K : endsD × Unit → Prop) : evF tab (lkp []) (cutL [(1, 15)]) Try.f87 (bodyOf Try.f87) .n c_impl_Category_ends x K = W_impl_Category_ends x.1 x.2.1 K := by kernel_rfl
theorem k_impl_Category_ends : okC Try.f87.ntmps (cutL [(1, 15)]) (bodyOf Try.f87) = true := by kernel_rfl
theorem m_impl_Category_ends (c : CategoryD) (f : Int) (hok : allP (okL c_impl_Category_ends.args (c, f, ()))) (hpre : allP (c_impl_Category_ends.pre (c, f, ()))) : W_impl_Category_ends c f (fun r => r = c_impl_Category_ends.res (c, f, ())) := by
  simp only [c_impl_Category_ends, okL, T.oks, T.ok, ap, allP, true_and, and_true, implies_true] at hok hpre
  try dsimp only [T.den] at hok
  try dsimp only [T.den] at hpre
  unfold W_impl_Category_ends
  exact ⟨hpre.1, hpre.2.1, hpre.1, hpre.2.2, rfl⟩
theorem ct_impl_Category_ends : CtOk Try.prog 87 c_impl_Category_ends :=
  ct_by (Φ := lkp []) good_nil tab_ok (by kernel_rfl) (fn := Try.f87) (c := bodyOf Try.f87) (by kernel_rfl) (by kernel_rfl) (by kernel_rfl) c_impl_Category_ends rfl .n (cutL [(1, 15)]) (by kernel_rfl) (by kernel_rfl) k_impl_Category_ends (by decide) (fun x K => W_impl_Category_ends x.1 x.2.1 K) w_impl_Category_ends (fun x h1 h2 => m_impl_Category_ends x.1 x.2.1 h1 h2)
def c_impl_inRange : Ct := ⟨[(.int .i64), (.int .i64), (.int .i64)], [false, false, false], fun x => [], [(false, (.fz .bool))], fun x => (inR x.1 x.2.1 x.2.2.1, ()), false, none⟩
def W_impl_inRange (n : Int) (low : Int) (high : Int) (K : Bool × Unit → Prop) : Prop := (K (((decide (low ≤ n)) && (decide (n ≤ high))), ()))
theorem w_impl_inRange (x : denL c_impl_inRange.args) (K : Bool × Unit → Prop) : evF tab (lkp []) (cutL []) Try.f54 (bodyOf Try.f54) .n c_impl_inRange x K = W_impl_inRange x.1 x.2.1 x.2.2.1 K := by kernel_rfl
theorem k_impl_inRange : okC Try.f54.ntmps (cutL []) (bodyOf Try.f54) = true := by kernel_rfl
theorem m_impl_inRange (n : Int) (low : Int) (high : Int) (hok : allP (okL c_impl_inRange.args (n, low, high, ()))) (hpre : allP (c_impl_inRange.pre (n, low, high, ()))) : W_impl_inRange n low high (fun r => r = c_impl_inRange.res (n, low, high, ())) := by
  simp only [c_impl_inRange, okL, T.oks, T.ok, ap, allP, true_and, and_true, implies_true] at hok hpre
  try dsimp only [T.den] at hok
  try dsimp only [T.den] at hpre
  unfold W_impl_inRange
  grind [cnd, nb_eq, inK64, c_impl_inRange, inR]
theorem ct_impl_inRange : CtOk Try.prog 54 c_impl_inRange :=
  ct_by (Φ := lkp []) good_nil tab_ok (by kernel_rfl) (fn := Try.f54) (c := bodyOf Try.f54) (by kernel_rfl) (by kernel_rfl) (by kernel_rfl) c_impl_inRange rfl .n (cutL []) (by kernel_rfl) (by kernel_rfl) k_impl_inRange (by decide) (fun x K => W_impl_inRange x.1 x.2.1 x.2.2.1 K) w_impl_inRange (fun x h1 h2 => m_impl_inRange x.1 x.2.1 x.2.2.1 h1 h2)
def c_impl_within : Ct := ⟨[(.sl (.int .i64)), (.int .i64)], [false, false], fun x => [inK .i64 (x.2.1 - 1)], [(false, (.fz .bool))], fun x => (withinR x.1 x.2.1, ()), false, none⟩
def W_impl_within (list : List Int) (n : Int) (K : Bool × Unit → Prop) : Prop := (loopW (S := ((Int × Unit) × Unit)) (fun s => (fun next => ((inK IntKind.i64 s.1.1) → (cnd (decide (s.1.1 < (((List.length list) : Nat) : Int))) (((0 : Int) ≤ s.1.1) ∧ ((s.1.1 < (((List.length list) : Nat) : Int)) ∧ ((inK IntKind.i64 (n - (1 : Int))) ∧ (cnd (!(inR (List.getD list (Int.toNat s.1.1) (0 : Int)) (0 : Int) (n - (1 : Int)))) (K (Bool.false, ())) ((inK IntKind.i64 (s.1.1 + (1 : Int))) ∧ (next (((s.1.1 + (1 : Int)), ()), ()))))))) (K (Bool.true, ())))))) (((0 : Int), ()), ()))
theorem w_impl_within (x : denL c_impl_within.args) (K : Bool × Unit → Prop) : evF tab (lkp [(54, c_impl_inRange)]) (cutL []) Try.f63 (bodyOf Try.f63) (.s .n (.s (.s .n (.l [(9, (.d (.int .i64)))] [] [1, 7, 8] .n)) .n)) c_impl_within x K = W_impl_within x.1 x.2.1 K := by kernel_rfl
theorem k_impl_within : okC Try.f63.ntmps (cutL []) (bodyOf Try.f63) = true := by kernel_rfl
theorem m_impl_within (list : List Int) (n : Int) (hok : allP (okL c_impl_within.args (list, n, ()))) (hpre : allP (c_impl_within.pre (list, n, ()))) : W_impl_within list n (fun r => r = c_impl_within.res (list, n, ())) := by
  simp only [c_impl_within, okL, T.oks, T.ok, ap, allP, true_and, and_true, implies_true] at hok hpre
  try dsimp only [T.den] at hok
  try dsimp only [T.den] at hpre
  unfold W_impl_within
  refine loop_of (fun (s : ((Int × Unit) × Unit)) => 0 ≤ s.1.1 ∧ s.1.1 ≤ list.length ∧ withinR list n = withinR (list.drop s.1.1.toNat) n) (fun (s : ((Int × Unit) × Unit)) => (list.length - s.1.1).toNat) ?_ (by simp)
  rintro ⟨⟨i, _⟩, _⟩ next ⟨h0, h1, h2⟩ hn hin
  simp only at h0 h1 h2 hn ⊢
  refine cnd_d (fun hc => ?_) (fun hc => ?_)
  · rw [drop_c list 0 h0 hc] at h2
    simp only [withinR, List.all_cons] at h2
    grind [cnd, nb_eq, inK64, c_impl_within, withinR]
  · rw [drop_n list (by omega)] at h2
    grind [cnd, nb_eq, inK64, c_impl_within, withinR]
theorem ct_impl_within : CtOk Try.prog 63 c_impl_within :=
  ct_by (Φ := lkp [(54, c_impl_inRange)]) (good_cons ct_impl_inRange good_nil) tab_ok (by kernel_rfl) (fn := Try.f63) (c := bodyOf Try.f63) (by kernel_rfl) (by kernel_rfl) (by kernel_rfl) c_impl_within rfl (.s .n (.s (.s .n (.l [(9, (.d (.int .i64)))] [] [1, 7, 8] .n)) .n)) (cutL []) (by kernel_rfl) (by kernel_rfl) k_impl_within (by decide) (fun x K => W_impl_within x.1 x.2.1 K) w_impl_within (fun x h1 h2 => m_impl_within x.1 x.2.1 h1 h2)
/-- what a cell of the table must be -/
def cellQ (c : CategoryD) (f g v : Int) : Bool :=
  if c.2.2.1.getD f.toNat 0 = c.2.1.getD g.toNat 0 then decide (0 ≤ v ∧ v < c.2.1.length ∧ c.2.1.getD v.toNat 0 = c.2.1.getD f.toNat 0 ∧ c.2.2.1.getD v.toNat 0 = c.2.2.1.getD g.toNat 0)
  else decide (v = -1)
def cellR (c : CategoryD) (f g : Int) : Bool := cellQ c f g (compR c f g)
structure ShapeP (c : CategoryD) : Prop where
  ob : 0 ≤ c.1 ∧ c.1 ≤ 8
  m : c.2.1.length ≤ 40
  lt : c.2.2.1.length = c.2.1.length
  fr : withinR c.2.1 c.1 = true
  to : withinR c.2.2.1 c.1 = true
  li : (c.2.2.2.1.length : Int) = c.1
  ids : withinR c.2.2.2.1 c.2.1.length = true
  lc : c.2.2.2.2.length = c.2.1.length
  idt : ∀ x : Int, 0 ≤ x → x < c.1 → c.2.1.getD (c.2.2.2.1.getD x.toNat 0).toNat 0 = x ∧ c.2.2.1.getD (c.2.2.2.1.getD x.toNat 0).toNat 0 = x
  row : ∀ f : Int, 0 ≤ f → f < c.2.1.length → (c.2.2.2.2.getD f.toNat []).length = c.2.1.length
  cell : ∀ f g : Int, 0 ≤ f → f < c.2.1.length → 0 ≤ g → g < c.2.1.length → cellR c f g = true
def shapeR (c : CategoryD) : Bool := inR c.1 0 8 && decide (c.2.1.length ≤ 40) && decide (c.2.2.1.length = c.2.1.length) && withinR c.2.1 c.1 && withinR c.2.2.1 c.1 && decide ((c.2.2.2.1.length : Int) = c.1) && withinR c.2.2.2.1 c.2.1.length &&
  decide (c.2.2.2.2.length = c.2.1.length) && allB c.1.toNat (fun x => decide (c.2.1.getD (c.2.2.2.1.getD x.toNat 0).toNat 0 = x ∧ c.2.2.1.getD (c.2.2.2.1.getD x.toNat 0).toNat 0 = x)) &&
  allB c.2.1.length (fun f => decide ((c.2.2.2.2.getD f.toNat []).length = c.2.1.length)) && allB c.2.1.length (fun f => allB c.2.1.length fun g => cellR c f g)
theorem shape_iff {c : CategoryD} : shapeR c = true ↔ ShapeP c := by
  simp only [shapeR, Bool.and_eq_true, decide_eq_true_eq, inR, allB_iff]
  constructor
  · rintro ⟨⟨⟨⟨⟨⟨⟨⟨⟨⟨h0, h1⟩, h2⟩, h3⟩, h4⟩, h5⟩, h6⟩, h7⟩, h8⟩, h9⟩, h10⟩
    exact ⟨h0, h1, h2, h3, h4, h5, h6, h7, fun x a b => h8 x a (by omega), h9, fun f g a b d e => h10 f a b g d e⟩
  · intro h
    exact ⟨⟨⟨⟨⟨⟨⟨⟨⟨⟨h.ob, h.m⟩, h.lt⟩, h.fr⟩, h.to⟩, h.li⟩, h.ids⟩, h.lc⟩, fun x a b => h.idt x a (by have := h.ob; omega)⟩, h.row⟩, fun f a b g d e => h.cell f g a b d e⟩
theorem shape_f {c : CategoryD} (h : ¬ ShapeP c) : shapeR c = false := by
  cases hs : shapeR c with
  | false => rfl
  | true => exact absurd (shape_iff.1 hs) h
theorem shape_t {c : CategoryD} (h : ShapeP c) : shapeR c = true := shape_iff.2 h

def c_impl_Category_isShape : Ct := ⟨[(.pt CategoryT)], [false], fun x => [], [(false, (.fz .bool))], fun x => (shapeR x.1, ()), false, none⟩
def W_impl_Category_isShape (c : CategoryD) (K : Bool × Unit → Prop) : Prop := ((((((!(inR c.1 (0 : Int) (8 : Int))) || (decide ((40 : Int) < (((List.length c.2.1) : Nat) : Int)))) || ((((List.length c.2.2.1) : Nat) : Int) != (((List.length c.2.1) : Nat) : Int))) = Bool.false) → (inK IntKind.i64 (c.1 - (1 : Int)))) ∧ (((((((!(inR c.1 (0 : Int) (8 : Int))) || (decide ((40 : Int) < (((List.length c.2.1) : Nat) : Int)))) || ((((List.length c.2.2.1) : Nat) : Int) != (((List.length c.2.1) : Nat) : Int))) || (!(withinR c.2.1 c.1))) = Bool.false) → (inK IntKind.i64 (c.1 - (1 : Int)))) ∧ (cnd (((((!(inR c.1 (0 : Int) (8 : Int))) || (decide ((40 : Int) < (((List.length c.2.1) : Nat) : Int)))) || ((((List.length c.2.2.1) : Nat) : Int) != (((List.length c.2.1) : Nat) : Int))) || (!(withinR c.2.1 c.1))) || (!(withinR c.2.2.1 c.1))) (K (Bool.false, ())) (((((((List.length c.2.2.2.1) : Nat) : Int) != c.1) = Bool.false) → (inK IntKind.i64 ((((List.length c.2.1) : Nat) : Int) - (1 : Int)))) ∧ (cnd ((((((List.length c.2.2.2.1) : Nat) : Int) != c.1) || (!(withinR c.2.2.2.1 (((List.length c.2.1) : Nat) : Int)))) || ((((List.length c.2.2.2.2) : Nat) : Int) != (((List.length c.2.1) : Nat) : Int))) (K (Bool.false, ())) (loopW (S := ((Int × Unit) × Unit)) (fun s => (fun next => ((inK IntKind.i64 s.1.1) → (cnd (decide (s.1.1 < (((List.length c.2.2.2.1) : Nat) : Int))) (((0 : Int) ≤ s.1.1) ∧ ((s.1.1 < (((List.length c.2.2.2.1) : Nat) : Int)) ∧ (((0 : Int) ≤ (List.getD c.2.2.2.1 (Int.toNat s.1.1) (0 : Int))) ∧ (((List.getD c.2.2.2.1 (Int.toNat s.1.1) (0 : Int)) < (((List.length c.2.1) : Nat) : Int)) ∧ (((List.getD c.2.2.2.1 (Int.toNat s.1.1) (0 : Int)) < (((List.length c.2.2.1) : Nat) : Int)) ∧ (cnd (!(((List.getD c.2.1 (Int.toNat (List.getD c.2.2.2.1 (Int.toNat s.1.1) (0 : Int))) (0 : Int)) == s.1.1) && ((List.getD c.2.2.1 (Int.toNat (List.getD c.2.2.2.1 (Int.toNat s.1.1) (0 : Int))) (0 : Int)) == s.1.1))) (K (Bool.false, ())) ((inK IntKind.i64 (s.1.1 + (1 : Int))) ∧ (next (((s.1.1 + (1 : Int)), ()), ()))))))))) (loopW (S := ((Int × Unit) × Unit)) (fun s1 => (fun next1 => ((inK IntKind.i64 s1.1.1) → (cnd (decide (s1.1.1 < (((List.length c.2.2.2.2) : Nat) : Int))) (((0 : Int) ≤ s1.1.1) ∧ ((s1.1.1 < (((List.length c.2.2.2.2) : Nat) : Int)) ∧ (cnd ((((List.length (List.getD c.2.2.2.2 (Int.toNat s1.1.1) ([] : List Int))) : Nat) : Int) != (((List.length c.2.1) : Nat) : Int)) (K (Bool.false, ())) (loopW (S := ((Int × Unit) × Unit)) (fun s2 => (fun next2 => ((inK IntKind.i64 s2.1.1) → (cnd (decide (s2.1.1 < (((List.length (List.getD c.2.2.2.2 (Int.toNat s1.1.1) ([] : List Int))) : Nat) : Int))) (joinW (S := (Unit × Unit)) (fun s3 => ((inK IntKind.i64 (s2.1.1 + (1 : Int))) ∧ (next2 (((s2.1.1 + (1 : Int)), ()), ())))) (fun k => (((0 : Int) ≤ s2.1.1) ∧ ((s2.1.1 < (((List.length (List.getD c.2.2.2.2 (Int.toNat s1.1.1) ([] : List Int))) : Nat) : Int)) ∧ (((0 : Int) ≤ s1.1.1) ∧ ((s1.1.1 < (((List.length c.2.2.1) : Nat) : Int)) ∧ (((0 : Int) ≤ s2.1.1) ∧ ((s2.1.1 < (((List.length c.2.1) : Nat) : Int)) ∧ (cnd ((List.getD c.2.2.1 (Int.toNat s1.1.1) (0 : Int)) != (List.getD c.2.1 (Int.toNat s2.1.1) (0 : Int))) (cnd ((List.getD (List.getD c.2.2.2.2 (Int.toNat s1.1.1) ([] : List Int)) (Int.toNat s2.1.1) (0 : Int)) != (-(1 : Int))) (K (Bool.false, ())) (k ((), ()))) ((inK IntKind.i64 ((((List.length c.2.1) : Nat) : Int) - (1 : Int))) ∧ ((((!(inR (List.getD (List.getD c.2.2.2.2 (Int.toNat s1.1.1) ([] : List Int)) (Int.toNat s2.1.1) (0 : Int)) (0 : Int) ((((List.length c.2.1) : Nat) : Int) - (1 : Int)))) = Bool.false) → (((List.getD (List.getD c.2.2.2.2 (Int.toNat s1.1.1) ([] : List Int)) (Int.toNat s2.1.1) (0 : Int)) < (((List.length c.2.1) : Nat) : Int)) ∧ (((List.getD (List.getD c.2.2.2.2 (Int.toNat s1.1.1) ([] : List Int)) (Int.toNat s2.1.1) (0 : Int)) < (((List.length c.2.2.1) : Nat) : Int)) ∧ ((0 : Int) ≤ (List.getD (List.getD c.2.2.2.2 (Int.toNat s1.1.1) ([] : List Int)) (Int.toNat s2.1.1) (0 : Int)))))) ∧ ((((!(inR (List.getD (List.getD c.2.2.2.2 (Int.toNat s1.1.1) ([] : List Int)) (Int.toNat s2.1.1) (0 : Int)) (0 : Int) ((((List.length c.2.1) : Nat) : Int) - (1 : Int)))) = Bool.false) → ((s1.1.1 < (((List.length c.2.1) : Nat) : Int)) ∧ ((0 : Int) ≤ s1.1.1))) ∧ ((((!(inR (List.getD (List.getD c.2.2.2.2 (Int.toNat s1.1.1) ([] : List Int)) (Int.toNat s2.1.1) (0 : Int)) (0 : Int) ((((List.length c.2.1) : Nat) : Int) - (1 : Int)))) = Bool.false) → ((s2.1.1 < (((List.length c.2.2.1) : Nat) : Int)) ∧ ((0 : Int) ≤ s2.1.1))) ∧ (cnd ((!(inR (List.getD (List.getD c.2.2.2.2 (Int.toNat s1.1.1) ([] : List Int)) (Int.toNat s2.1.1) (0 : Int)) (0 : Int) ((((List.length c.2.1) : Nat) : Int) - (1 : Int)))) || (!(((List.getD c.2.1 (Int.toNat (List.getD (List.getD c.2.2.2.2 (Int.toNat s1.1.1) ([] : List Int)) (Int.toNat s2.1.1) (0 : Int))) (0 : Int)) == (List.getD c.2.1 (Int.toNat s1.1.1) (0 : Int))) && ((List.getD c.2.2.1 (Int.toNat (List.getD (List.getD c.2.2.2.2 (Int.toNat s1.1.1) ([] : List Int)) (Int.toNat s2.1.1) (0 : Int))) (0 : Int)) == (List.getD c.2.2.1 (Int.toNat s2.1.1) (0 : Int)))))) (K (Bool.false, ())) (k ((), ())))))))))))))))) ((inK IntKind.i64 (s1.1.1 + (1 : Int))) ∧ (next1 (((s1.1.1 + (1 : Int)), ()), ()))))))) (((0 : Int), ()), ()))))) (K (Bool.true, ())))))) (((0 : Int), ()), ())))))) (((0 : Int), ()), ())))))))
theorem w_impl_Category_isShape (x : denL c_impl_Category_isShape.args) (K : Bool × Unit → Prop) : evF tab (lkp [(38, c_impl_Category_arrows), (87, c_impl_Category_ends), (54, c_impl_inRange), (63, c_impl_within)]) (cutL [(2, 43), (20, 15), (4, 28), (23, 26)]) Try.f61 (bodyOf Try.f61) (.s .n (.s .n (.s .n (.s .n (.s (.s .n (.l [(88, (.d (.int .i64)))] [] [0, 3, 86, 87] .n)) (.s (.s .n (.l [(106, (.d (.int .i64)))] [] [0, 3, 104, 105] (.s .n (.s .n (.s (.s .n (.s .n (.s .n (.l [(117, (.d (.int .i64)))] [] [0, 3, 6, 104, 105, 106, 115, 116] (.s .n (.s .n (.s (.j [] [] [0, 3, 6, 104, 105, 106, 115, 116, 117] .n) .n))))))) .n))))) .n)))))) c_impl_Category_isShape x K = W_impl_Category_isShape x.1 K := by kernel_rfl
theorem k_impl_Category_isShape : okC Try.f61.ntmps (cutL [(2, 43), (20, 15), (4, 28), (23, 26)]) (bodyOf Try.f61) = true := by kernel_rfl
theorem m_impl_Category_isShape (c : CategoryD) (hok : allP (okL c_impl_Category_isShape.args (c, ()))) (hpre : allP (c_impl_Category_isShape.pre (c, ()))) : W_impl_Category_isShape c (fun r => r = c_impl_Category_isShape.res (c, ())) := by
  simp only [c_impl_Category_isShape, okL, T.oks, T.ok, ap, allP, true_and, and_true, implies_true] at hok hpre
  try dsimp only [T.den] at hok
  try dsimp only [T.den] at hpre
  unfold W_impl_Category_isShape
  refine ⟨by grind [cnd, nb_eq, inK64, inR], by grind [cnd, nb_eq, inK64, inR], cnd_of (fun hc => ?_) (fun hc => ⟨by rw [inK64]; have := hok.2.1.1; grind [cnd, nb_eq, inK64], cnd_of (fun hd => ?_) (fun hd => ?_)⟩)⟩
  · simp only [c_impl_Category_isShape]; rw [shape_f]; intro h; have h1 := h.ob; have h2 := h.m; have h3 := h.lt; have h4 := h.fr; have h5 := h.to; simp only [inR] at hc; grind [cnd, nb_eq, inK64]
  · simp only [c_impl_Category_isShape]; rw [shape_f]; intro h; have h1 := h.li; have h2 := h.ids; have h3 := h.lc; grind [cnd, nb_eq, inK64]
  simp only [inR, Bool.or_eq_false_iff, Bool.not_eq_false', Bool.and_eq_true, decide_eq_true_eq, decide_eq_false_iff_not, bne_eq_false_iff_eq] at hc hd
  obtain ⟨⟨⟨⟨hob, hm⟩, hlt⟩, hfr⟩, hto⟩ := hc
  obtain ⟨⟨hli, hids⟩, hlc⟩ := hd
  have bad : ¬ ShapeP c → (false, ()) = c_impl_Category_isShape.res (c, ()) := fun h => by simp only [c_impl_Category_isShape]; rw [shape_f h]
  refine loop_ix (n := c.2.2.2.1.length) (fun x => ∀ y : Int, 0 ≤ y → y < x → c.2.1.getD (c.2.2.2.1.getD y.toNat 0).toNat 0 = y ∧ c.2.2.1.getD (c.2.2.2.1.getD y.toNat 0).toNat 0 = y) (by omega) (by intro y h0 h1; omega) ?_ ?_
  · intro x next h0 h1 hP hn hin
    have hb := within_iff.1 hids x h0 h1
    try dsimp only
    refine cnd_d (fun _ => ⟨h0, h1, hb.1, hb.2, by omega, cnd_of (fun hx => bad fun h => ?_) (fun hx => ?_)⟩) (fun h => absurd h1 h)
    · have := h.idt x h0 (by omega)
      rw [this.1, this.2] at hx
      simp at hx
    · simp only [Bool.not_eq_false', Bool.and_eq_true, beq_iff_eq] at hx
      refine ⟨by rw [inK64]; (try dsimp only); omega, hn fun y y0 y1 => ?_⟩
      by_cases e : y = x
      · rw [e]; exact hx
      · exact hP y y0 (by omega)
  intro next hidt hin
  refine cnd_d (fun h => absurd h (by dsimp only; omega)) (fun _ => ?_)
  refine loop_ix (n := c.2.2.2.2.length) (fun f => ∀ f' : Int, 0 ≤ f' → f' < f → (c.2.2.2.2.getD f'.toNat []).length = c.2.1.length ∧ ∀ g : Int, 0 ≤ g → g < c.2.1.length → cellR c f' g = true) (by omega) (by intro y h0 h1; omega) ?_ ?_
  · intro f next h0 h1 hP hn hin
    try dsimp only
    refine cnd_d (fun _ => ⟨h0, h1, cnd_of (fun hx => bad fun h => ?_) (fun hx => ?_)⟩) (fun h => absurd h1 h)
    · have := h.row f h0 (by omega)
      rw [this] at hx
      simp at hx
    simp only [bne_eq_false_iff_eq] at hx
    refine loop_ix (n := (c.2.2.2.2.getD f.toNat []).length) (fun g => ∀ g' : Int, 0 ≤ g' → g' < g → cellR c f g' = true) (by omega) (by intro y h0 h1; omega) ?_ ?_
    · intro g next3 g0 g1 hP3 hn3 hin3
      try dsimp only
      refine cnd_d (fun _ => ?_) (fun h => absurd g1 h)
      refine join_of (fun _ => cellR c f g = true) (fun _ hcell => ⟨by rw [inK64]; (try dsimp only); omega, hn3 fun g' y0 y1 => ?_⟩) (fun k hk => ?_)
      · by_cases e : g' = g
        · rw [e]; exact hcell
        · exact hP3 g' y0 (by omega)
      have hcell : ∀ b, cellR c f g = b → b = false → ¬ ShapeP c := fun b h1 h2 h => by
        have := h.cell f g h0 (by omega) g0 (by omega)
        rw [h1, h2] at this; cases this
      have hk' := hk ((), ())
      obtain ⟨v, hv⟩ : ∃ v, (c.2.2.2.2.getD f.toNat []).getD g.toNat 0 = v := ⟨_, rfl⟩
      have hR : cellR c f g = cellQ c f g v := by unfold cellR compR; rw [hv]
      rw [hR] at hk'
      rw [hR] at hcell
      rw [hv]
      clear hP3 hn3 hP hn hk hR hv hidt hok
      refine ⟨g0, g1, h0, by omega, g0, by omega, cnd_of (fun ha => cnd_of (fun hb => bad ?_) (fun hb => hk' ?_)) (fun ha => ⟨by rw [inK64]; (try dsimp only); omega, fun hv => ?_, fun _ => ⟨by omega, h0⟩, fun _ => ⟨by omega, g0⟩, cnd_of (fun hb => bad ?_) (fun hb => hk' ?_)⟩)⟩
      · exact hcell _ rfl (by grind [cnd, nb_eq, inK64, cellQ])
      · grind [cnd, nb_eq, inK64, cellQ]
      · simp only [inR, Bool.not_eq_false', Bool.and_eq_true, decide_eq_true_eq] at hv; omega
      · exact hcell _ rfl (by simp only [inR] at hb; grind [cnd, nb_eq, inK64, cellQ])
      · simp only [inR] at hb; grind [cnd, nb_eq, inK64, cellQ]
    · intro next3 hP3 hin3
      refine cnd_d (fun h => absurd h (by dsimp only; omega)) (fun _ => ⟨by rw [inK64]; (try dsimp only); omega, hn fun f' y0 y1 => ?_⟩)
      by_cases e : f' = f
      · rw [e]; exact ⟨by omega, fun g g0 g1 => hP3 g g0 (by omega)⟩
      · exact hP f' y0 (by omega)
  · intro next2 hP2 hin2
    refine cnd_d (fun h => absurd h (by dsimp only; omega)) (fun _ => ?_)
    simp only [c_impl_Category_isShape]
    rw [shape_t ⟨hob, by omega, by omega, hfr, hto, by omega, hids, by omega, fun x a b => hidt x a (by omega), fun f a b => (hP2 f a (by omega)).1, fun f g a b d e => (hP2 f a (by omega)).2 g d e⟩]
theorem ct_impl_Category_isShape : CtOk Try.prog 61 c_impl_Category_isShape :=
  ct_by (Φ := lkp [(38, c_impl_Category_arrows), (87, c_impl_Category_ends), (54, c_impl_inRange), (63, c_impl_within)]) (good_cons ct_impl_Category_arrows (good_cons ct_impl_Category_ends (good_cons ct_impl_inRange (good_cons ct_impl_within good_nil)))) tab_ok (by kernel_rfl) (fn := Try.f61) (c := bodyOf Try.f61) (by kernel_rfl) (by kernel_rfl) (by kernel_rfl) c_impl_Category_isShape rfl (.s .n (.s .n (.s .n (.s .n (.s (.s .n (.l [(88, (.d (.int .i64)))] [] [0, 3, 86, 87] .n)) (.s (.s .n (.l [(106, (.d (.int .i64)))] [] [0, 3, 104, 105] (.s .n (.s .n (.s (.s .n (.s .n (.s .n (.l [(117, (.d (.int .i64)))] [] [0, 3, 6, 104, 105, 106, 115, 116] (.s .n (.s .n (.s (.j [] [] [0, 3, 6, 104, 105, 106, 115, 116, 117] .n) .n))))))) .n))))) .n)))))) (cutL [(2, 43), (20, 15), (4, 28), (23, 26)]) (by kernel_rfl) (by kernel_rfl) k_impl_Category_isShape (by decide) (fun x K => W_impl_Category_isShape x.1 K) w_impl_Category_isShape (fun x h1 h2 => m_impl_Category_isShape x.1 h1 h2)
theorem ShapeP.frm {c : CategoryD} (h : ShapeP c) {f : Int} (h0 : 0 ≤ f) (h1 : f < c.2.1.length) : 0 ≤ c.2.1.getD f.toNat 0 ∧ c.2.1.getD f.toNat 0 < c.1 ∧ 0 ≤ c.2.2.1.getD f.toNat 0 ∧ c.2.2.1.getD f.toNat 0 < c.1 := by
  have a := within_iff.1 h.fr f h0 h1
  have b := within_iff.1 h.to f h0 (by have := h.lt; omega)
  exact ⟨a.1, a.2, b.1, b.2⟩
theorem ShapeP.idn {c : CategoryD} (h : ShapeP c) {x : Int} (h0 : 0 ≤ x) (h1 : x < c.1) : 0 ≤ c.2.2.2.1.getD x.toNat 0 ∧ c.2.2.2.1.getD x.toNat 0 < c.2.1.length ∧ c.2.1.getD (c.2.2.2.1.getD x.toNat 0).toNat 0 = x ∧ c.2.2.1.getD (c.2.2.2.1.getD x.toNat 0).toNat 0 = x := by
  have a := within_iff.1 h.ids x h0 (by have := h.li; omega)
  have b := h.idt x h0 h1
  exact ⟨a.1, a.2, b.1, b.2⟩
theorem ShapeP.yes {c : CategoryD} (h : ShapeP c) {f g : Int} (h0 : 0 ≤ f) (h1 : f < c.2.1.length) (g0 : 0 ≤ g) (g1 : g < c.2.1.length) (e : c.2.2.1.getD f.toNat 0 = c.2.1.getD g.toNat 0) :
    0 ≤ compR c f g ∧ compR c f g < c.2.1.length ∧ c.2.1.getD (compR c f g).toNat 0 = c.2.1.getD f.toNat 0 ∧ c.2.2.1.getD (compR c f g).toNat 0 = c.2.2.1.getD g.toNat 0 := by
  have := h.cell f g h0 h1 g0 g1
  unfold cellR cellQ at this
  rw [if_pos e] at this
  simpa using this
theorem ShapeP.no {c : CategoryD} (h : ShapeP c) {f g : Int} (h0 : 0 ≤ f) (h1 : f < c.2.1.length) (g0 : 0 ≤ g) (g1 : g < c.2.1.length) (e : c.2.2.1.getD f.toNat 0 ≠ c.2.1.getD g.toNat 0) : compR c f g = -1 := by
  have := h.cell f g h0 h1 g0 g1
  unfold cellR cellQ at this
  rw [if_neg e] at this
  simpa using this
theorem ShapeP.comp {c : CategoryD} (h : ShapeP c) {f g : Int} (h0 : 0 ≤ f) (h1 : f < c.2.1.length) (g0 : 0 ≤ g) (g1 : g < c.2.1.length) : 0 ≤ compR c f g ↔ c.2.2.1.getD f.toNat 0 = c.2.1.getD g.toNat 0 := by
  constructor
  · intro h2
    by_cases e : c.2.2.1.getD f.toNat 0 = c.2.1.getD g.toNat 0
    · exact e
    · have := h.no h0 h1 g0 g1 e; omega
  · intro e; exact (h.yes h0 h1 g0 g1 e).1
def faultI (c : CategoryD) (f : Int) : Option (Int × Int × Int × Int) :=
  if compR c (c.2.2.2.1.getD (c.2.1.getD f.toNat 0).toNat 0) f ≠ f ∨ compR c f (c.2.2.2.1.getD (c.2.2.1.getD f.toNat 0).toNat 0) ≠ f then some (1, f, 0, 0) else none
def faultH (c : CategoryD) (f g h : Int) : Option (Int × Int × Int × Int) :=
  if c.2.2.1.getD g.toNat 0 = c.2.1.getD h.toNat 0 ∧ compR c (compR c f g) h ≠ compR c f (compR c g h) then some (2, f, g, h) else none
def faultG (c : CategoryD) (f g : Int) : Option (Int × Int × Int × Int) :=
  if c.2.2.1.getD f.toNat 0 = c.2.1.getD g.toNat 0 then scanR (faultH c f g) c.2.1.length 0 else none
def faultF (c : CategoryD) (f : Int) : Option (Int × Int × Int × Int) := scanR (faultG c f) c.2.1.length 0
def faultR (c : CategoryD) : Int × Int × Int × Int :=
  orR (scanR (faultI c) c.2.1.length 0) (orR (scanR (faultF c) c.2.1.length 0) (0, 0, 0, 0))

def c_impl_Category_fault : Ct := ⟨[(.pt CategoryT)], [false], fun x => [ShapeP x.1], [(false, (.fz (.int .i64))), (false, (.fz (.int .i64))), (false, (.fz (.int .i64))), (false, (.fz (.int .i64)))], fun x => ((faultR x.1).1, (faultR x.1).2.1, (faultR x.1).2.2.1, (faultR x.1).2.2.2, ()), false, none⟩
def W_impl_Category_fault (c : CategoryD) (K : Int × Int × Int × Int × Unit → Prop) : Prop := (loopW (S := ((Int × Unit) × Unit)) (fun s => (fun next => ((inK IntKind.i64 s.1.1) → (cnd (decide (s.1.1 < (((List.length c.2.1) : Nat) : Int))) (((0 : Int) ≤ s.1.1) ∧ ((s.1.1 < (((List.length c.2.1) : Nat) : Int)) ∧ (((0 : Int) ≤ (List.getD c.2.1 (Int.toNat s.1.1) (0 : Int))) ∧ (((List.getD c.2.1 (Int.toNat s.1.1) (0 : Int)) < (((List.length c.2.2.2.1) : Nat) : Int)) ∧ (((0 : Int) ≤ (List.getD c.2.2.2.1 (Int.toNat (List.getD c.2.1 (Int.toNat s.1.1) (0 : Int))) (0 : Int))) ∧ (((List.getD c.2.2.2.1 (Int.toNat (List.getD c.2.1 (Int.toNat s.1.1) (0 : Int))) (0 : Int)) < (((List.length c.2.2.2.2) : Nat) : Int)) ∧ (((0 : Int) ≤ s.1.1) ∧ ((s.1.1 < (((List.length (List.getD c.2.2.2.2 (Int.toNat (List.getD c.2.2.2.1 (Int.toNat (List.getD c.2.1 (Int.toNat s.1.1) (0 : Int))) (0 : Int))) ([] : List Int))) : Nat) : Int)) ∧ (((((compR c (List.getD c.2.2.2.1 (Int.toNat (List.getD c.2.1 (Int.toNat s.1.1) (0 : Int))) (0 : Int)) s.1.1) != s.1.1) = Bool.false) → ((s.1.1 < (((List.length c.2.2.1) : Nat) : Int)) ∧ ((0 : Int) ≤ s.1.1))) ∧ (((((compR c (List.getD c.2.2.2.1 (Int.toNat (List.getD c.2.1 (Int.toNat s.1.1) (0 : Int))) (0 : Int)) s.1.1) != s.1.1) = Bool.false) → (((List.getD c.2.2.1 (Int.toNat s.1.1) (0 : Int)) < (((List.length c.2.2.2.1) : Nat) : Int)) ∧ ((0 : Int) ≤ (List.getD c.2.2.1 (Int.toNat s.1.1) (0 : Int))))) ∧ (((((compR c (List.getD c.2.2.2.1 (Int.toNat (List.getD c.2.1 (Int.toNat s.1.1) (0 : Int))) (0 : Int)) s.1.1) != s.1.1) = Bool.false) → ((s.1.1 < (((List.length c.2.2.2.2) : Nat) : Int)) ∧ (((0 : Int) ≤ (List.getD c.2.2.2.1 (Int.toNat (List.getD c.2.2.1 (Int.toNat s.1.1) (0 : Int))) (0 : Int))) ∧ (((List.getD c.2.2.2.1 (Int.toNat (List.getD c.2.2.1 (Int.toNat s.1.1) (0 : Int))) (0 : Int)) < (((List.length (List.getD c.2.2.2.2 (Int.toNat s.1.1) ([] : List Int))) : Nat) : Int)) ∧ ((0 : Int) ≤ s.1.1))))) ∧ (cnd (((compR c (List.getD c.2.2.2.1 (Int.toNat (List.getD c.2.1 (Int.toNat s.1.1) (0 : Int))) (0 : Int)) s.1.1) != s.1.1) || ((compR c s.1.1 (List.getD c.2.2.2.1 (Int.toNat (List.getD c.2.2.1 (Int.toNat s.1.1) (0 : Int))) (0 : Int))) != s.1.1)) (K ((1 : Int), (s.1.1, ((0 : Int), ((0 : Int), ()))))) ((inK IntKind.i64 (s.1.1 + (1 : Int))) ∧ (next (((s.1.1 + (1 : Int)), ()), ()))))))))))))))) (loopW (S := ((Int × Unit) × Unit)) (fun s1 => (fun next1 => ((inK IntKind.i64 s1.1.1) → (cnd (decide (s1.1.1 < (((List.length c.2.1) : Nat) : Int))) (loopW (S := ((Int × Unit) × Unit)) (fun s2 => (fun next2 => ((inK IntKind.i64 s2.1.1) → (cnd (decide (s2.1.1 < (((List.length c.2.1) : Nat) : Int))) (joinW (S := (Unit × Unit)) (fun s3 => ((inK IntKind.i64 (s2.1.1 + (1 : Int))) ∧ (next2 (((s2.1.1 + (1 : Int)), ()), ())))) (fun k => (((0 : Int) ≤ s1.1.1) ∧ ((s1.1.1 < (((List.length c.2.2.2.2) : Nat) : Int)) ∧ (((0 : Int) ≤ s2.1.1) ∧ ((s2.1.1 < (((List.length (List.getD c.2.2.2.2 (Int.toNat s1.1.1) ([] : List Int))) : Nat) : Int)) ∧ (cnd (decide ((compR c s1.1.1 s2.1.1) < (0 : Int))) (k ((), ())) (loopW (S := ((Int × Unit) × Unit)) (fun s3 => (fun next3 => ((inK IntKind.i64 s3.1.1) → (cnd (decide (s3.1.1 < (((List.length c.2.1) : Nat) : Int))) (((0 : Int) ≤ s2.1.1) ∧ ((s2.1.1 < (((List.length c.2.2.2.2) : Nat) : Int)) ∧ (((0 : Int) ≤ s3.1.1) ∧ ((s3.1.1 < (((List.length (List.getD c.2.2.2.2 (Int.toNat s2.1.1) ([] : List Int))) : Nat) : Int)) ∧ ((((decide ((0 : Int) ≤ (compR c s2.1.1 s3.1.1))) = Bool.true) → ((s1.1.1 < (((List.length c.2.2.2.2) : Nat) : Int)) ∧ (((0 : Int) ≤ s2.1.1) ∧ ((s2.1.1 < (((List.length (List.getD c.2.2.2.2 (Int.toNat s1.1.1) ([] : List Int))) : Nat) : Int)) ∧ ((0 : Int) ≤ s1.1.1))))) ∧ ((((decide ((0 : Int) ≤ (compR c s2.1.1 s3.1.1))) = Bool.true) → (((compR c s1.1.1 s2.1.1) < (((List.length c.2.2.2.2) : Nat) : Int)) ∧ (((0 : Int) ≤ s3.1.1) ∧ ((s3.1.1 < (((List.length (List.getD c.2.2.2.2 (Int.toNat (compR c s1.1.1 s2.1.1)) ([] : List Int))) : Nat) : Int)) ∧ ((0 : Int) ≤ (compR c s1.1.1 s2.1.1)))))) ∧ ((((decide ((0 : Int) ≤ (compR c s2.1.1 s3.1.1))) = Bool.true) → ((s2.1.1 < (((List.length c.2.2.2.2) : Nat) : Int)) ∧ (((0 : Int) ≤ s3.1.1) ∧ ((s3.1.1 < (((List.length (List.getD c.2.2.2.2 (Int.toNat s2.1.1) ([] : List Int))) : Nat) : Int)) ∧ ((0 : Int) ≤ s2.1.1))))) ∧ ((((decide ((0 : Int) ≤ (compR c s2.1.1 s3.1.1))) = Bool.true) → ((s1.1.1 < (((List.length c.2.2.2.2) : Nat) : Int)) ∧ (((0 : Int) ≤ (compR c s2.1.1 s3.1.1)) ∧ (((compR c s2.1.1 s3.1.1) < (((List.length (List.getD c.2.2.2.2 (Int.toNat s1.1.1) ([] : List Int))) : Nat) : Int)) ∧ ((0 : Int) ≤ s1.1.1))))) ∧ (cnd ((decide ((0 : Int) ≤ (compR c s2.1.1 s3.1.1))) && ((compR c (compR c s1.1.1 s2.1.1) s3.1.1) != (compR c s1.1.1 (compR c s2.1.1 s3.1.1)))) (K ((2 : Int), (s1.1.1, (s2.1.1, (s3.1.1, ()))))) ((inK IntKind.i64 (s3.1.1 + (1 : Int))) ∧ (next3 (((s3.1.1 + (1 : Int)), ()), ())))))))))))) (k ((), ())))))) (((0 : Int), ()), ()))))))))) ((inK IntKind.i64 (s1.1.1 + (1 : Int))) ∧ (next1 (((s1.1.1 + (1 : Int)), ()), ()))))))) (((0 : Int), ()), ())) (K ((0 : Int), ((0 : Int), ((0 : Int), ((0 : Int), ()))))))))) (((0 : Int), ()), ())))))) (((0 : Int), ()), ()))
theorem w_impl_Category_fault (x : denL c_impl_Category_fault.args) (K : Int × Int × Int × Int × Unit → Prop) : evF tab (lkp [(38, c_impl_Category_arrows), (68, c_impl_Category_then)]) (cutL [(5, 38)]) Try.f62 (bodyOf Try.f62) (.s .n (.s .n (.s (.s .n (.l [(7, (.d (.int .i64)))] [] [0, 6] .n)) (.s (.s .n (.l [(8, (.d (.int .i64)))] [] [0, 6] (.s .n (.s (.s .n (.l [(9, (.d (.int .i64)))] [] [0, 6, 8] (.s .n (.s (.j [] [] [0, 6, 8, 9] (.s .n (.s .n (.l [(10, (.d (.int .i64)))] [] [0, 6, 8, 9] .n)))) .n)))) .n)))) .n)))) c_impl_Category_fault x K = W_impl_Category_fault x.1 K := by kernel_rfl
theorem k_impl_Category_fault : okC Try.f62.ntmps (cutL [(5, 38)]) (bodyOf Try.f62) = true := by kernel_rfl
theorem m_impl_Category_fault (c : CategoryD) (hok : allP (okL c_impl_Category_fault.args (c, ()))) (hpre : allP (c_impl_Category_fault.pre (c, ()))) : W_impl_Category_fault c (fun r => r = c_impl_Category_fault.res (c, ())) := by
  simp only [c_impl_Category_fault, okL, T.oks, T.ok, ap, allP, true_and, and_true, implies_true] at hok hpre
  try dsimp only [T.den] at hok
  try dsimp only [T.den] at hpre
  unfold W_impl_Category_fault
  have S : ShapeP c := hpre
  have hlt := S.lt
  have hli := S.li
  have hlc := S.lc
  have hmm := S.m
  have resq : ∀ a b d e, faultR c = (a, b, d, e) → (a, b, d, e, ()) = c_impl_Category_fault.res (c, ()) := fun a b d e h => by simp only [c_impl_Category_fault, h]
  refine loop_ix (n := c.2.1.length) (fun f => scanR (faultI c) c.2.1.length 0 = scanR (faultI c) ((c.2.1.length : Int) - f).toNat f) (by omega) scan_0 ?_ ?_
  · intro f next h0 h1 hP hn hin
    try dsimp only
    obtain ⟨a1, a2, a3, a4⟩ := S.frm h0 h1
    obtain ⟨b1, b2, _, _⟩ := S.idn a1 a2
    obtain ⟨d1, d2, _, _⟩ := S.idn a3 a4
    have r1 := S.row _ b1 b2
    have r2 := S.row f h0 h1
    refine cnd_d (fun _ => ⟨h0, h1, by omega, by omega, by omega, by omega, h0, by omega, fun _ => by omega, fun _ => by omega, fun _ => by omega, cnd_of (fun hx => resq _ _ _ _ ?_) (fun hx => ⟨by rw [inK64]; (try dsimp only); omega, hn ?_⟩)⟩) (fun h => absurd h1 h)
    · have : faultI c f = some (1, f, 0, 0) := by unfold faultI; rw [if_pos]; simpa using hx
      unfold faultR; rw [hP, scan_s h1 this]; rfl
    · have : faultI c f = none := by unfold faultI; rw [if_neg]; simpa using hx
      rw [hP, scan_c h1 this]
  intro next hI hin
  rw [scan_n] at hI
  refine cnd_d (fun h => absurd h (by dsimp only; omega)) (fun _ => ?_)
  have hF : faultR c = orR (scanR (faultF c) c.2.1.length 0) (0, 0, 0, 0) := by unfold faultR; rw [hI]; rfl
  refine loop_ix (n := c.2.1.length) (fun f => scanR (faultF c) c.2.1.length 0 = scanR (faultF c) ((c.2.1.length : Int) - f).toNat f) (by omega) scan_0 ?_ ?_
  · intro f next h0 h1 hP hn hin
    try dsimp only
    refine cnd_d (fun _ => ?_) (fun h => absurd h1 h)
    have r1 := S.row f h0 h1
    refine loop_ix (n := c.2.1.length) (fun g => faultF c f = scanR (faultG c f) ((c.2.1.length : Int) - g).toNat g) (by omega) scan_0 ?_ ?_
    · intro g next3 g0 g1 hP3 hn3 hin3
      try dsimp only
      refine cnd_d (fun _ => ?_) (fun h => absurd g1 h)
      have r2 := S.row g g0 g1
      refine join_of (fun _ => faultG c f g = none) (fun _ hG => ⟨by rw [inK64]; (try dsimp only); omega, hn3 (by rw [hP3, scan_c g1 hG])⟩) (fun k hk => ?_)
      have hk' := hk ((), ())
      refine ⟨by omega, by omega, by omega, by omega, cnd_d (fun hx => hk' ?_) (fun hx => ?_)⟩
      · unfold faultG; rw [if_neg]; intro e; have := (S.comp h0 h1 g0 g1).2 e; omega
      have hfg := (S.comp h0 h1 g0 g1).1 (by omega)
      obtain ⟨y1, y2, _, _⟩ := S.yes h0 h1 g0 g1 hfg
      refine loop_ix (n := c.2.1.length) (fun h => faultG c f g = scanR (faultH c f g) ((c.2.1.length : Int) - h).toNat h) (by omega) (by unfold faultG; rw [if_pos hfg]; exact scan_0) ?_ ?_
      · intro h next4 i0 i1 hP4 hn4 hin4
        try dsimp only
        refine cnd_d (fun _ => ?_) (fun h => absurd i1 h)
        have r3 := S.row _ y1 y2
        have cgh := S.comp g0 g1 i0 i1
        have ygh := @ShapeP.yes c S g h g0 g1 i0 i1
        refine ⟨by omega, by omega, by omega, by omega, fun _ => by omega, fun _ => by omega, fun _ => by omega, fun he => ?_, cnd_of (fun hx => resq _ _ _ _ ?_) (fun hx => ⟨by rw [inK64]; (try dsimp only); omega, hn4 ?_⟩)⟩
        · have := ygh (cgh.1 (by simpa using he)); omega
        · have : faultH c f g h = some (2, f, g, h) := by unfold faultH; rw [if_pos]; rw [← cgh]; simpa using hx
          have e1 : faultG c f g = some (2, f, g, h) := by rw [hP4, scan_s i1 this]
          have e2 : faultF c f = some (2, f, g, h) := by rw [hP3, scan_s g1 e1]
          rw [hF, hP, scan_s h1 e2]; rfl
        · have : faultH c f g h = none := by unfold faultH; rw [if_neg]; rw [← cgh]; simpa using hx
          rw [hP4, scan_c i1 this]
      · intro next4 hP4 hin4
        rw [scan_n] at hP4
        exact cnd_d (fun h => absurd h (by dsimp only; omega)) (fun _ => hk' hP4)
    · intro next3 hP3 hin3
      rw [scan_n] at hP3
      exact cnd_d (fun h => absurd h (by dsimp only; omega)) (fun _ => ⟨by rw [inK64]; (try dsimp only); omega, hn (by rw [hP, scan_c h1 hP3])⟩)
  · intro next2 hP2 hin2
    rw [scan_n] at hP2
    refine cnd_d (fun h => absurd h (by dsimp only; omega)) (fun _ => resq _ _ _ _ ?_)
    rw [hF, hP2]; rfl
theorem ct_impl_Category_fault : CtOk Try.prog 62 c_impl_Category_fault :=
  ct_by (Φ := lkp [(38, c_impl_Category_arrows), (68, c_impl_Category_then)]) (good_cons ct_impl_Category_arrows (good_cons ct_impl_Category_then good_nil)) tab_ok (by kernel_rfl) (fn := Try.f62) (c := bodyOf Try.f62) (by kernel_rfl) (by kernel_rfl) (by kernel_rfl) c_impl_Category_fault rfl (.s .n (.s .n (.s (.s .n (.l [(7, (.d (.int .i64)))] [] [0, 6] .n)) (.s (.s .n (.l [(8, (.d (.int .i64)))] [] [0, 6] (.s .n (.s (.s .n (.l [(9, (.d (.int .i64)))] [] [0, 6, 8] (.s .n (.s (.j [] [] [0, 6, 8, 9] (.s .n (.s .n (.l [(10, (.d (.int .i64)))] [] [0, 6, 8, 9] .n)))) .n)))) .n)))) .n)))) (cutL [(5, 38)]) (by kernel_rfl) (by kernel_rfl) k_impl_Category_fault (by decide) (fun x K => W_impl_Category_fault x.1 K) w_impl_Category_fault (fun x h1 h2 => m_impl_Category_fault x.1 h1 h2)
/-- the arrows from x to y -/
def homR (c : CategoryD) (x y : Int) : List Int := selR c.2.1.length fun f => c.2.1.getD f.toNat 0 == x && c.2.2.1.getD f.toNat 0 == y
theorem hom_mem {c : CategoryD} {x y g : Int} : g ∈ homR c x y ↔ 0 ≤ g ∧ g < c.2.1.length ∧ c.2.1.getD g.toNat 0 = x ∧ c.2.2.1.getD g.toNat 0 = y := by
  unfold homR; rw [sel_mem, Bool.and_eq_true, beq_iff_eq, beq_iff_eq]

def c_impl_Category_hom : Ct := ⟨[(.pt CategoryT), (.int .i64), (.int .i64)], [false, false, false], fun x => [x.1.2.1.length ≤ 40, x.1.2.2.1.length = x.1.2.1.length], [(false, (.sl (.fz (.int .i64))))], fun x => (homR x.1 x.2.1 x.2.2.1, ()), false, none⟩
def W_impl_Category_hom (c : CategoryD) (x : Int) (y : Int) (K : (List Int) × Unit → Prop) : Prop := (loopW (S := ((Unit × (Int × Unit)) × ((List Int) × Unit))) (fun s => (fun next => ((inK IntKind.i64 s.1.2.1) → ((T.ok (T.sl (T.int IntKind.i64)) s.2.1) → (cnd (decide (s.1.2.1 < (((List.length c.2.1) : Nat) : Int))) (((0 : Int) ≤ s.1.2.1) ∧ ((s.1.2.1 < (((List.length c.2.1) : Nat) : Int)) ∧ (((((List.getD c.2.1 (Int.toNat s.1.2.1) (0 : Int)) == x) = Bool.true) → ((s.1.2.1 < (((List.length c.2.2.1) : Nat) : Int)) ∧ ((0 : Int) ≤ s.1.2.1))) ∧ (joinW (S := ((Unit × Unit) × ((List Int) × Unit))) (fun s1 => ((T.ok (T.sl (T.int IntKind.i64)) s1.2.1) → ((inK IntKind.i64 (s.1.2.1 + (1 : Int))) ∧ (next (((), ((s.1.2.1 + (1 : Int)), ())), (s1.2.1, ())))))) (fun k => (cnd (((List.getD c.2.1 (Int.toNat s.1.2.1) (0 : Int)) == x) && ((List.getD c.2.2.1 (Int.toNat s.1.2.1) (0 : Int)) == y)) ((room (List.length s.2.1) (List.length (s.1.2.1 :: ([] : List Int))) 8) ∧ (k (((), ()), ((s.2.1 ++ (s.1.2.1 :: ([] : List Int))), ())))) (k (((), ()), (s.2.1, ()))))))))) (K (s.2.1, ()))))))) (((), ((0 : Int), ())), (([] : List Int), ())))
theorem w_impl_Category_hom (x : denL c_impl_Category_hom.args) (K : (List Int) × Unit → Prop) : evF tab (lkp []) (cutL []) Try.f73 (bodyOf Try.f73) (.s .n (.s .n (.s (.s .n (.l [(7, (.ref 800007 [])), (15, (.d (.int .i64)))] [(800007, (.sl (.fz (.int .i64))))] [0, 1, 2, 14] (.s .n (.s .n (.s (.s .n (.s .n (.j [(7, (.ref 800007 []))] [(800007, (.sl (.fz (.int .i64))))] [0, 1, 2, 14, 15] .n))) .n))))) .n))) c_impl_Category_hom x K = W_impl_Category_hom x.1 x.2.1 x.2.2.1 K := by kernel_rfl
theorem k_impl_Category_hom : okC Try.f73.ntmps (cutL []) (bodyOf Try.f73) = true := by kernel_rfl
theorem m_impl_Category_hom (c : CategoryD) (x : Int) (y : Int) (hok : allP (okL c_impl_Category_hom.args (c, x, y, ()))) (hpre : allP (c_impl_Category_hom.pre (c, x, y, ()))) : W_impl_Category_hom c x y (fun r => r = c_impl_Category_hom.res (c, x, y, ())) := by
  simp only [c_impl_Category_hom, okL, T.oks, T.ok, ap, allP, true_and, and_true, implies_true] at hok hpre
  try dsimp only [T.den] at hok
  try dsimp only [T.den] at hpre
  unfold W_impl_Category_hom
  have hm : c.2.1.length ≤ 40 := hpre.1
  have hlt : c.2.2.1.length = c.2.1.length := hpre.2
  refine loop_of (fun (s : ((Unit × (Int × Unit)) × ((List Int) × Unit))) => 0 ≤ s.1.2.1 ∧ s.1.2.1 ≤ c.2.1.length ∧ s.2.1 = selR s.1.2.1.toNat fun f => c.2.1.getD f.toNat 0 == x && c.2.2.1.getD f.toNat 0 == y) (fun (s : ((Unit × (Int × Unit)) × ((List Int) × Unit))) => (c.2.1.length - s.1.2.1).toNat) ?_ ⟨by simp, by simp, rfl⟩
  rintro ⟨⟨_, i, _⟩, l, _⟩ next ⟨h0, h1, h2⟩ hn hin hl
  try dsimp only at h0 h1 h2 hn ⊢
  subst h2
  refine cnd_d (fun hc => ⟨h0, hc, fun _ => by omega, join_of (fun s1 => s1.2.1 = selR (i + 1).toNat fun f => c.2.1.getD f.toNat 0 == x && c.2.2.1.getD f.toNat 0 == y) (fun s1 hs _ => ⟨by rw [inK64]; (try dsimp only); omega, hn _ ⟨(by first | omega | (dsimp only; omega)), (by first | omega | (dsimp only; omega)), hs⟩ (by first | omega | (dsimp only; omega))⟩) (fun k hk => cnd_of (fun hx => ⟨?_, hk _ ?_⟩) (fun hx => hk _ ?_))⟩) (fun hc => ?_)
  · have := sel_len (p := fun f => c.2.1.getD f.toNat 0 == x && c.2.2.1.getD f.toNat 0 == y) i.toNat
    unfold room
    rw [nb_eq]
    have h3 : (i :: ([] : List Int)).length = 1 := rfl
    rw [h3]
    omega
  · exact (sel_t h0 hx).symm
  · exact (sel_f h0 hx).symm
  · have e1 : i.toNat = c.2.1.length := by omega
    simp only [c_impl_Category_hom, homR]
    rw [e1]
theorem ct_impl_Category_hom : CtOk Try.prog 73 c_impl_Category_hom :=
  ct_by (Φ := lkp []) good_nil tab_ok (by kernel_rfl) (fn := Try.f73) (c := bodyOf Try.f73) (by kernel_rfl) (by kernel_rfl) (by kernel_rfl) c_impl_Category_hom rfl (.s .n (.s .n (.s (.s .n (.l [(7, (.ref 800007 [])), (15, (.d (.int .i64)))] [(800007, (.sl (.fz (.int .i64))))] [0, 1, 2, 14] (.s .n (.s .n (.s (.s .n (.s .n (.j [(7, (.ref 800007 []))] [(800007, (.sl (.fz (.int .i64))))] [0, 1, 2, 14, 15] .n))) .n))))) .n))) (cutL []) (by kernel_rfl) (by kernel_rfl) k_impl_Category_hom (by decide) (fun x K => W_impl_Category_hom x.1 x.2.1 x.2.2.1 K) w_impl_Category_hom (fun x h1 h2 => m_impl_Category_hom x.1 x.2.1 x.2.2.1 h1 h2)
def extR (c : CategoryD) (f g : Int) : List Int := (homR c (c.2.2.1.getD g.toNat 0) (c.2.2.1.getD f.toNat 0)).filter fun h => compR c g h == f
theorem hom_at {c : CategoryD} {x y i : Int} (h0 : 0 ≤ i) (h1 : i < (homR c x y).length) : 0 ≤ (homR c x y).getD i.toNat 0 ∧ (homR c x y).getD i.toNat 0 < c.2.1.length ∧ c.2.1.getD ((homR c x y).getD i.toNat 0).toNat 0 = x ∧ c.2.2.1.getD ((homR c x y).getD i.toNat 0).toNat 0 = y := hom_mem.1 (getD_mem _ 0 h0 h1)
theorem ext_mem {c : CategoryD} {f g v : Int} : v ∈ extR c f g ↔ (0 ≤ v ∧ v < c.2.1.length ∧ c.2.1.getD v.toNat 0 = c.2.2.1.getD g.toNat 0 ∧ c.2.2.1.getD v.toNat 0 = c.2.2.1.getD f.toNat 0) ∧ compR c g v = f := by
  unfold extR; rw [List.mem_filter, hom_mem, beq_iff_eq]
theorem hom_len {c : CategoryD} (S : ShapeP c) (x y : Int) : (homR c x y).length ≤ 40 := Nat.le_trans (sel_len _) S.m
theorem ext_len {c : CategoryD} (S : ShapeP c) (x y : Int) : (extR c x y).length ≤ 40 := Nat.le_trans (List.length_filter_le _ _) (hom_len S _ _)

def c_impl_Category_extensions : Ct := ⟨[(.pt CategoryT), (.int .i64), (.int .i64)], [false, false, false], fun x => [ShapeP x.1, 0 ≤ x.2.1, x.2.1 < x.1.2.1.length, 0 ≤ x.2.2.1, x.2.2.1 < x.1.2.1.length], [(false, (.sl (.fz (.int .i64))))], fun x => (extR x.1 x.2.1 x.2.2.1, ()), false, none⟩
def W_impl_Category_extensions (c : CategoryD) (f : Int) (g : Int) (K : (List Int) × Unit → Prop) : Prop := (((0 : Int) ≤ g) ∧ ((g < (((List.length c.2.2.1) : Nat) : Int)) ∧ (((0 : Int) ≤ f) ∧ ((f < (((List.length c.2.2.1) : Nat) : Int)) ∧ (((List.length c.2.1) ≤ 40) ∧ (((List.length c.2.2.1) = (List.length c.2.1)) ∧ (loopW (S := ((Unit × (Int × Unit)) × ((List Int) × Unit))) (fun s => (fun next => ((inK IntKind.i64 s.1.2.1) → ((T.ok (T.sl (T.int IntKind.i64)) s.2.1) → (cnd (decide (s.1.2.1 < (((List.length (homR c (List.getD c.2.2.1 (Int.toNat g) (0 : Int)) (List.getD c.2.2.1 (Int.toNat f) (0 : Int)))) : Nat) : Int))) (((0 : Int) ≤ s.1.2.1) ∧ ((s.1.2.1 < (((List.length (homR c (List.getD c.2.2.1 (Int.toNat g) (0 : Int)) (List.getD c.2.2.1 (Int.toNat f) (0 : Int)))) : Nat) : Int)) ∧ (((0 : Int) ≤ g) ∧ ((g < (((List.length c.2.2.2.2) : Nat) : Int)) ∧ (((0 : Int) ≤ (List.getD (homR c (List.getD c.2.2.1 (Int.toNat g) (0 : Int)) (List.getD c.2.2.1 (Int.toNat f) (0 : Int))) (Int.toNat s.1.2.1) (0 : Int))) ∧ (((List.getD (homR c (List.getD c.2.2.1 (Int.toNat g) (0 : Int)) (List.getD c.2.2.1 (Int.toNat f) (0 : Int))) (Int.toNat s.1.2.1) (0 : Int)) < (((List.length (List.getD c.2.2.2.2 (Int.toNat g) ([] : List Int))) : Nat) : Int)) ∧ (joinW (S := ((Unit × Unit) × ((List Int) × Unit))) (fun s1 => ((T.ok (T.sl (T.int IntKind.i64)) s1.2.1) → ((inK IntKind.i64 (s.1.2.1 + (1 : Int))) ∧ (next (((), ((s.1.2.1 + (1 : Int)), ())), (s1.2.1, ())))))) (fun k => (cnd ((compR c g (List.getD (homR c (List.getD c.2.2.1 (Int.toNat g) (0 : Int)) (List.getD c.2.2.1 (Int.toNat f) (0 : Int))) (Int.toNat s.1.2.1) (0 : Int))) == f) ((room (List.length s.2.1) (List.length ((List.getD (homR c (List.getD c.2.2.1 (Int.toNat g) (0 : Int)) (List.getD c.2.2.1 (Int.toNat f) (0 : Int))) (Int.toNat s.1.2.1) (0 : Int)) :: ([] : List Int))) 8) ∧ (k (((), ()), ((s.2.1 ++ ((List.getD (homR c (List.getD c.2.2.1 (Int.toNat g) (0 : Int)) (List.getD c.2.2.1 (Int.toNat f) (0 : Int))) (Int.toNat s.1.2.1) (0 : Int)) :: ([] : List Int))), ())))) (k (((), ()), (s.2.1, ())))))))))))) (K (s.2.1, ()))))))) (((), ((0 : Int), ())), (([] : List Int), ())))))))))
theorem w_impl_Category_extensions (x : denL c_impl_Category_extensions.args) (K : (List Int) × Unit → Prop) : evF tab (lkp [(73, c_impl_Category_hom), (68, c_impl_Category_then)]) (cutL [(2, 18)]) Try.f49 (bodyOf Try.f49) (.s .n (.s .n (.s (.s .n (.l [(7, (.ref 10 [])), (28, (.d (.int .i64)))] [(10, (.sl (.fz (.int .i64))))] [0, 1, 2, 26, 27] (.s .n (.s .n (.s (.s .n (.s .n (.j [(7, (.ref 10 []))] [(10, (.sl (.fz (.int .i64))))] [0, 1, 2, 26, 27, 28] .n))) .n))))) .n))) c_impl_Category_extensions x K = W_impl_Category_extensions x.1 x.2.1 x.2.2.1 K := by kernel_rfl
theorem k_impl_Category_extensions : okC Try.f49.ntmps (cutL [(2, 18)]) (bodyOf Try.f49) = true := by kernel_rfl
theorem m_impl_Category_extensions (c : CategoryD) (f : Int) (g : Int) (hok : allP (okL c_impl_Category_extensions.args (c, f, g, ()))) (hpre : allP (c_impl_Category_extensions.pre (c, f, g, ()))) : W_impl_Category_extensions c f g (fun r => r = c_impl_Category_extensions.res (c, f, g, ())) := by
  simp only [c_impl_Category_extensions, okL, T.oks, T.ok, ap, allP, true_and, and_true, implies_true] at hok hpre
  try dsimp only [T.den] at hok
  try dsimp only [T.den] at hpre
  unfold W_impl_Category_extensions
  obtain ⟨S, f0, f1, g0, g1⟩ := hpre
  have hlt := S.lt
  have hlc := S.lc
  have hg := S.row g g0 g1
  have hm := S.m
  have hl := hom_len S (c.2.2.1.getD g.toNat 0) (c.2.2.1.getD f.toNat 0)
  have hmem := fun i : Int => @hom_at c (c.2.2.1.getD g.toNat 0) (c.2.2.1.getD f.toNat 0) i
  have hval : extR c f g = (homR c (c.2.2.1.getD g.toNat 0) (c.2.2.1.getD f.toNat 0)).filter fun h => compR c g h == f := rfl
  refine ⟨g0, by omega, f0, by omega, by omega, by omega, ?_⟩
  generalize homR c (c.2.2.1.getD g.toNat 0) (c.2.2.1.getD f.toNat 0) = l at *
  refine loop_ixa (filT (fun h => compR c g h == f) l) (n := l.length) (by omega) rfl ?_ ?_
  · intro i next h0 h1 hn hin hok
    have hm := hmem i h0 h1
    have hf := @fil_len (fun h => compR c g h == f) l i
    refine cnd_d (fun _ => ?_) (fun h => absurd h1 h)
    try dsimp only
    refine ⟨h0, h1, g0, (by first | omega | (dsimp only; omega)), hm.1, (by first | omega | (dsimp only; omega)), join_of (fun s1 => s1.2.1 = filT (fun h => compR c g h == f) l (i + 1)) (fun s1 hs _ => ⟨by rw [inK64]; (try dsimp only); omega, by rw [← hs] at hn; exact hn⟩) (fun k hk => cnd_of (fun hx => ⟨?_, hk _ (fil_t h0 h1 hx).symm⟩) (fun hx => hk _ (fil_f h0 h1 hx).symm))⟩
    unfold room
    rw [nb_eq]
    have h3 : ((l.getD i.toNat 0) :: ([] : List Int)).length = 1 := rfl
    rw [h3]
    omega
  · intro next hin hok
    refine cnd_d (fun h => absurd h (Int.lt_irrefl _)) (fun _ => ?_)
    simp only [c_impl_Category_extensions]
    rw [fil_n (by omega), hval]
theorem ct_impl_Category_extensions : CtOk Try.prog 49 c_impl_Category_extensions :=
  ct_by (Φ := lkp [(73, c_impl_Category_hom), (68, c_impl_Category_then)]) (good_cons ct_impl_Category_hom (good_cons ct_impl_Category_then good_nil)) tab_ok (by kernel_rfl) (fn := Try.f49) (c := bodyOf Try.f49) (by kernel_rfl) (by kernel_rfl) (by kernel_rfl) c_impl_Category_extensions rfl (.s .n (.s .n (.s (.s .n (.l [(7, (.ref 10 [])), (28, (.d (.int .i64)))] [(10, (.sl (.fz (.int .i64))))] [0, 1, 2, 26, 27] (.s .n (.s .n (.s (.s .n (.s .n (.j [(7, (.ref 10 []))] [(10, (.sl (.fz (.int .i64))))] [0, 1, 2, 26, 27, 28] .n))) .n))))) .n))) (cutL [(2, 18)]) (by kernel_rfl) (by kernel_rfl) k_impl_Category_extensions (by decide) (fun x K => W_impl_Category_extensions x.1 x.2.1 x.2.2.1 K) w_impl_Category_extensions (fun x h1 h2 => m_impl_Category_extensions x.1 x.2.1 x.2.2.1 h1 h2)
def belR (c : CategoryD) (m n : Int) : Bool := decide (0 < ((extR c m n).length : Int))
def mutR (c : CategoryD) (m n : Int) : Bool := belR c m n && belR c n m
/-- one more member, into the first class that it fits -/
def clAddR (E : Int → Int → Bool) (m : Int) : List (List Int) → List (List Int)
  | [] => [[m]]
  | l :: r => if E m (l.getD 0 0) = true then (l ++ [m]) :: r else l :: clAddR E m r
def classR (E : Int → Int → Bool) (l : List Int) : List (List Int) := l.foldl (fun out m => clAddR E m out) []
theorem clAdd_t {E : Int → Int → Bool} {m : Int} {out : List (List Int)} {i : Int} (h0 : 0 ≤ i) (h1 : i < out.length) (hQ : clAddR E m out = out.take i.toNat ++ clAddR E m (out.drop i.toNat))
    (he : E m ((out.getD i.toNat []).getD 0 0) = true) : clAddR E m out = out.set i.toNat (out.getD i.toNat [] ++ [m]) := by
  rw [hQ, drop_c out [] h0 h1, clAddR, if_pos he, List.set_eq_take_append_cons_drop, if_pos (by omega), show (i + 1).toNat = i.toNat + 1 from by omega]
theorem clAdd_f {E : Int → Int → Bool} {m : Int} {out : List (List Int)} {i : Int} (h0 : 0 ≤ i) (h1 : i < out.length) (hQ : clAddR E m out = out.take i.toNat ++ clAddR E m (out.drop i.toNat))
    (he : E m ((out.getD i.toNat []).getD 0 0) = false) : clAddR E m out = out.take (i + 1).toNat ++ clAddR E m (out.drop (i + 1).toNat) := by
  rw [hQ, drop_c out [] h0 h1, clAddR, if_neg (by rw [he]; simp), take_c out [] h0 h1]; simp
theorem clAdd_n {E : Int → Int → Bool} {m : Int} {out : List (List Int)} (hQ : clAddR E m out = out.take (out.length : Int).toNat ++ clAddR E m (out.drop (out.length : Int).toNat)) : clAddR E m out = out ++ [[m]] := by
  rw [hQ]; simp [clAddR]
structure ClsP (n : Nat) (k : Int) (out : List (List Int)) : Prop where
  len : (out.length : Int) ≤ k
  cl : ∀ l ∈ out, 0 < (l.length : Int) ∧ (l.length : Int) ≤ k ∧ 0 ≤ l.getD 0 0 ∧ l.getD 0 0 < n
theorem head_app {l r : List Int} (h : 0 < (l.length : Int)) : (l ++ r).getD 0 0 = l.getD 0 0 := by
  cases l with
  | nil => simp at h
  | cons a t => rfl
theorem clAdd_len {E : Int → Int → Bool} {m : Int} : ∀ {out : List (List Int)}, (clAddR E m out).length ≤ out.length + 1
  | [] => by simp [clAddR]
  | l :: r => by
    rw [clAddR]; split
    · simp
    · have := @clAdd_len E m r
      simp only [List.length_cons]; omega
theorem clAdd_mem {E : Int → Int → Bool} {m : Int} {l : List Int} : ∀ {out : List (List Int)}, l ∈ clAddR E m out → l ∈ out ∨ l = [m] ∨ ∃ l' ∈ out, l = l' ++ [m]
  | [], h => by simp [clAddR] at h; exact .inr (.inl h)
  | a :: r, h => by
    rw [clAddR] at h
    split at h
    · rcases List.mem_cons.1 h with h | h
      · exact .inr (.inr ⟨a, by simp, h⟩)
      · exact .inl (by simp [h])
    · rcases List.mem_cons.1 h with h | h
      · exact .inl (by simp [h])
      · rcases clAdd_mem h with h | h | ⟨l', h1, h2⟩
        · exact .inl (by simp [h])
        · exact .inr (.inl h)
        · exact .inr (.inr ⟨l', by simp [h1], h2⟩)
theorem ClsP.add {E : Int → Int → Bool} {n : Nat} {k m : Int} {out : List (List Int)} (h : ClsP n k out) (k0 : 0 ≤ k) (m0 : 0 ≤ m) (m1 : m < n) : ClsP n (k + 1) (clAddR E m out) := by
  refine ⟨?_, fun l hl => ?_⟩
  · have := @clAdd_len E m out; have := h.len; omega
  · rcases clAdd_mem hl with hl | hl | ⟨l', h1, hl⟩
    · have := h.cl l hl; omega
    · subst hl; exact ⟨by simp, by simp; omega, m0, m1⟩
    · have := h.cl l' h1; subst hl; rw [head_app this.1]; simp only [List.length_append, List.length_cons, List.length_nil]; omega
def clsT (E : Int → Int → Bool) (l : List Int) (i : Int) : List (List Int) := classR E (l.take i.toNat)
theorem clsT_s {E : Int → Int → Bool} {l : List Int} {i : Int} (h0 : 0 ≤ i) (h1 : i < l.length) : clsT E l (i + 1) = clAddR E (l.getD i.toNat 0) (clsT E l i) := by
  unfold clsT classR; rw [take_c l 0 h0 h1, List.foldl_append]; rfl
theorem cls_p {E : Int → Int → Bool} {n : Nat} : ∀ {l : List Int} {out : List (List Int)} {k : Int}, ClsP n k out → 0 ≤ k → (∀ m ∈ l, 0 ≤ m ∧ m < n) → ClsP n (k + l.length) (l.foldl (fun out m => clAddR E m out) out)
  | [], out, k, h, _, _ => by simpa using h
  | a :: r, out, k, h, h0, hl => by
    have := cls_p (E := E) (l := r) (h.add (E := E) h0 (hl a (by simp)).1 (hl a (by simp)).2) (by omega) (fun m hm => hl m (by simp [hm]))
    simp only [List.length_cons, List.foldl_cons]
    rw [show k + ((r.length + 1 : Nat) : Int) = k + 1 + (r.length : Int) from by omega]
    exact this
theorem clsT_p {E : Int → Int → Bool} {n : Nat} {l : List Int} (hl : withinR l n = true) {i : Int} (h0 : 0 ≤ i) : ClsP n i (clsT E l i) := by
  have h := @cls_p E n (l.take i.toNat) [] 0 ⟨by simp, by simp⟩ (by omega) (fun m hm => (@all_ix Int 0 l (fun m => 0 ≤ m ∧ m < n)).2 (within_iff.1 hl) m (List.mem_of_mem_take hm))
  have e : ((l.take i.toNat).length : Int) ≤ i := by rw [List.length_take]; omega
  exact ⟨by have := h.len; unfold clsT classR; omega, fun x hx => by have := h.cl x hx; omega⟩
theorem clsT_n {E : Int → Int → Bool} {l : List Int} : clsT E l l.length = classR E l := by unfold clsT; rw [take_n l (Int.le_refl _)]

def c_impl_QuotientsOf_1 : Ct := ⟨[(.int .i64), (.int .i64), (.pt CategoryT)], [false, false, false], fun x => [ShapeP x.2.2.1, 0 ≤ x.1, x.1 < x.2.2.1.2.1.length, 0 ≤ x.2.1, x.2.1 < x.2.2.1.2.1.length], [(false, (.fz .bool))], fun x => (belR x.2.2.1 x.1 x.2.1, ()), false, none⟩
def W_impl_QuotientsOf_1 (m : Int) (n : Int) (c : CategoryD) (K : Bool × Unit → Prop) : Prop := ((ShapeP c) ∧ (((0 : Int) ≤ m) ∧ ((m < (((List.length c.2.1) : Nat) : Int)) ∧ (((0 : Int) ≤ n) ∧ ((n < (((List.length c.2.1) : Nat) : Int)) ∧ (K ((decide ((0 : Int) < (((List.length (extR c m n)) : Nat) : Int))), ())))))))
theorem w_impl_QuotientsOf_1 (x : denL c_impl_QuotientsOf_1.args) (K : Bool × Unit → Prop) : evF tab (lkp [(49, c_impl_Category_extensions)]) (cutL []) Try.f48 (bodyOf Try.f48) .n c_impl_QuotientsOf_1 x K = W_impl_QuotientsOf_1 x.1 x.2.1 x.2.2.1 K := by kernel_rfl
theorem k_impl_QuotientsOf_1 : okC Try.f48.ntmps (cutL []) (bodyOf Try.f48) = true := by kernel_rfl
theorem m_impl_QuotientsOf_1 (m : Int) (n : Int) (c : CategoryD) (hok : allP (okL c_impl_QuotientsOf_1.args (m, n, c, ()))) (hpre : allP (c_impl_QuotientsOf_1.pre (m, n, c, ()))) : W_impl_QuotientsOf_1 m n c (fun r => r = c_impl_QuotientsOf_1.res (m, n, c, ())) := by
  simp only [c_impl_QuotientsOf_1, okL, T.oks, T.ok, ap, allP, true_and, and_true, implies_true] at hok hpre
  try dsimp only [T.den] at hok
  try dsimp only [T.den] at hpre
  unfold W_impl_QuotientsOf_1
  have S : ShapeP c := hpre.1
  have hr : (0 < ((extR c m n).length : Int)) = (((extR c m n).length : Int) > 0) := rfl
  exact ⟨S, hpre.2.1, hpre.2.2.1, hpre.2.2.2.1, hpre.2.2.2.2, rfl⟩
theorem ct_impl_QuotientsOf_1 : CtOk Try.prog 48 c_impl_QuotientsOf_1 :=
  ct_by (Φ := lkp [(49, c_impl_Category_extensions)]) (good_cons ct_impl_Category_extensions good_nil) tab_ok (by kernel_rfl) (fn := Try.f48) (c := bodyOf Try.f48) (by kernel_rfl) (by kernel_rfl) (by kernel_rfl) c_impl_QuotientsOf_1 rfl .n (cutL []) (by kernel_rfl) (by kernel_rfl) k_impl_QuotientsOf_1 (by decide) (fun x K => W_impl_QuotientsOf_1 x.1 x.2.1 x.2.2.1 K) w_impl_QuotientsOf_1 (fun x h1 h2 => m_impl_QuotientsOf_1 x.1 x.2.1 x.2.2.1 h1 h2)
def c_impl_classesOf_quot : Ct := ⟨[(.sl (.int .i64)), (.fn 48 (.p (.pt CategoryT) .u))], [false, false], fun x => [ShapeP x.2.1.1, withinR x.1 x.2.1.1.2.1.length = true, x.1.length ≤ 40], [(false, (.sl (.sl (.fz (.int .i64)))))], fun x => (classR (mutR x.2.1.1) x.1, ()), false, none⟩
def W_impl_classesOf_quot (members : List Int) (below : CategoryD × Unit) (K : (List (List Int)) × Unit → Prop) : Prop := (loopW (S := ((Unit × (Int × Unit)) × ((List (List Int)) × Unit))) (fun s => (fun next => ((inK IntKind.i64 s.1.2.1) → ((T.ok (T.sl (T.sl (T.int IntKind.i64))) s.2.1) → (cnd (decide (s.1.2.1 < (((List.length members) : Nat) : Int))) (joinW (S := ((Unit × Unit) × ((List (List Int)) × Unit))) (fun s1 => ((T.ok (T.sl (T.sl (T.int IntKind.i64))) s1.2.1) → ((inK IntKind.i64 (s.1.2.1 + (1 : Int))) ∧ (next (((), ((s.1.2.1 + (1 : Int)), ())), (s1.2.1, ())))))) (fun k => (((0 : Int) ≤ s.1.2.1) ∧ ((s.1.2.1 < (((List.length members) : Nat) : Int)) ∧ (loopW (S := ((Unit × (Unit × (Int × Unit))) × ((List (List Int)) × Unit))) (fun s1 => (fun next1 => ((inK IntKind.i64 s1.1.2.2.1) → ((T.ok (T.sl (T.sl (T.int IntKind.i64))) s1.2.1) → (cnd (decide (s1.1.2.2.1 < (((List.length s.2.1) : Nat) : Int))) (((0 : Int) ≤ s1.1.2.2.1) ∧ ((s1.1.2.2.1 < (((List.length s1.2.1) : Nat) : Int)) ∧ (((0 : Int) ≤ (0 : Int)) ∧ (((0 : Int) < (((List.length (List.getD s1.2.1 (Int.toNat s1.1.2.2.1) ([] : List Int))) : Nat) : Int)) ∧ ((ShapeP below.1) ∧ (((0 : Int) ≤ (List.getD members (Int.toNat s.1.2.1) (0 : Int))) ∧ (((List.getD members (Int.toNat s.1.2.1) (0 : Int)) < (((List.length below.1.2.1) : Nat) : Int)) ∧ (((0 : Int) ≤ (List.getD (List.getD s1.2.1 (Int.toNat s1.1.2.2.1) ([] : List Int)) (Int.toNat (0 : Int)) (0 : Int))) ∧ (((List.getD (List.getD s1.2.1 (Int.toNat s1.1.2.2.1) ([] : List Int)) (Int.toNat (0 : Int)) (0 : Int)) < (((List.length below.1.2.1) : Nat) : Int)) ∧ ((((belR below.1 (List.getD members (Int.toNat s.1.2.1) (0 : Int)) (List.getD (List.getD s1.2.1 (Int.toNat s1.1.2.2.1) ([] : List Int)) (Int.toNat (0 : Int)) (0 : Int))) = Bool.true) → (((0 : Int) < (((List.length (List.getD s1.2.1 (Int.toNat s1.1.2.2.1) ([] : List Int))) : Nat) : Int)) ∧ ((0 : Int) ≤ (0 : Int)))) ∧ ((((belR below.1 (List.getD members (Int.toNat s.1.2.1) (0 : Int)) (List.getD (List.getD s1.2.1 (Int.toNat s1.1.2.2.1) ([] : List Int)) (Int.toNat (0 : Int)) (0 : Int))) = Bool.true) → (((0 : Int) ≤ (List.getD (List.getD s1.2.1 (Int.toNat s1.1.2.2.1) ([] : List Int)) (Int.toNat (0 : Int)) (0 : Int))) ∧ (((List.getD (List.getD s1.2.1 (Int.toNat s1.1.2.2.1) ([] : List Int)) (Int.toNat (0 : Int)) (0 : Int)) < (((List.length below.1.2.1) : Nat) : Int)) ∧ (((0 : Int) ≤ (List.getD members (Int.toNat s.1.2.1) (0 : Int))) ∧ (((List.getD members (Int.toNat s.1.2.1) (0 : Int)) < (((List.length below.1.2.1) : Nat) : Int)) ∧ (ShapeP below.1)))))) ∧ (cnd ((belR below.1 (List.getD members (Int.toNat s.1.2.1) (0 : Int)) (List.getD (List.getD s1.2.1 (Int.toNat s1.1.2.2.1) ([] : List Int)) (Int.toNat (0 : Int)) (0 : Int))) && (belR below.1 (List.getD (List.getD s1.2.1 (Int.toNat s1.1.2.2.1) ([] : List Int)) (Int.toNat (0 : Int)) (0 : Int)) (List.getD members (Int.toNat s.1.2.1) (0 : Int)))) ((room (List.length (List.getD s1.2.1 (Int.toNat s1.1.2.2.1) ([] : List Int))) (List.length ((List.getD members (Int.toNat s.1.2.1) (0 : Int)) :: ([] : List Int))) 8) ∧ (((0 : Int) ≤ s1.1.2.2.1) ∧ ((s1.1.2.2.1 < (((List.length (takR s1.2.1 (Int.toNat s1.1.2.2.1))) : Nat) : Int)) ∧ (((allR (List.set (takR s1.2.1 (Int.toNat s1.1.2.2.1)) (Int.toNat s1.1.2.2.1) (Option.some ((List.getD s1.2.1 (Int.toNat s1.1.2.2.1) ([] : List Int)) ++ ((List.getD members (Int.toNat s.1.2.1) (0 : Int)) :: ([] : List Int)))))) = Bool.true) ∧ (k (((), ()), ((clsR ([] : List Int) (List.set (takR s1.2.1 (Int.toNat s1.1.2.2.1)) (Int.toNat s1.1.2.2.1) (Option.some ((List.getD s1.2.1 (Int.toNat s1.1.2.2.1) ([] : List Int)) ++ ((List.getD members (Int.toNat s.1.2.1) (0 : Int)) :: ([] : List Int)))))), ()))))))) ((inK IntKind.i64 (s1.1.2.2.1 + (1 : Int))) ∧ (next1 (((), ((), ((s1.1.2.2.1 + (1 : Int)), ()))), (s1.2.1, ())))))))))))))))) ((room (List.length s1.2.1) (List.length (((List.getD members (Int.toNat s.1.2.1) (0 : Int)) :: ([] : List Int)) :: ([] : List (List Int)))) 24) ∧ (k (((), ()), ((s1.2.1 ++ (((List.getD members (Int.toNat s.1.2.1) (0 : Int)) :: ([] : List Int)) :: ([] : List (List Int)))), ()))))))))) (((), ((), ((0 : Int), ()))), (s.2.1, ()))))))) (K (s.2.1, ()))))))) (((), ((0 : Int), ())), (([] : List (List Int)), ())))
theorem w_impl_classesOf_quot (x : denL c_impl_classesOf_quot.args) (K : (List (List Int)) × Unit → Prop) : evF tab (lkp [(48, c_impl_QuotientsOf_1)]) (cutL []) Try.f47 (bodyOf Try.f47) (.s .n (.s .n (.s .n (.s (.s .n (.l [(5, (.ref 800005 [])), (13, (.d (.int .i64)))] [(800005, (.sl (.sl (.fz (.int .i64)))))] [1, 11, 12] (.s .n (.s .n (.s (.j [(5, (.ref 800005 []))] [(800005, (.sl (.sl (.fz (.int .i64)))))] [1, 11, 12, 13] (.s .n (.s (.s .n (.l [(5, (.ref 800005 [])), (17, (.ref 800005 [])), (19, (.d (.int .i64)))] [(800005, (.sl (.sl (.fz (.int .i64)))))] [1, 7, 11, 12, 13, 18] .n)) .n))) .n))))) .n)))) c_impl_classesOf_quot x K = W_impl_classesOf_quot x.1 x.2.1 K := by kernel_rfl
theorem k_impl_classesOf_quot : okC Try.f47.ntmps (cutL []) (bodyOf Try.f47) = true := by kernel_rfl
theorem m_impl_classesOf_quot (members : List Int) (below : CategoryD × Unit) (hok : allP (okL c_impl_classesOf_quot.args (members, below, ()))) (hpre : allP (c_impl_classesOf_quot.pre (members, below, ()))) : W_impl_classesOf_quot members below (fun r => r = c_impl_classesOf_quot.res (members, below, ())) := by
  simp only [c_impl_classesOf_quot, okL, T.oks, T.ok, ap, allP, true_and, and_true, implies_true] at hok hpre
  try dsimp only [T.den] at hok
  try dsimp only [T.den] at hpre
  unfold W_impl_classesOf_quot
  obtain ⟨S, hw, hk⟩ := hpre
  refine loop_ixa (n := (members.length : Int)) (fun i => clsT (mutR below.1) members i) (by omega) rfl ?_ ?_
  · intro i next i0 i1 hn hin hol
    have hP := clsT_p (E := mutR below.1) hw i0
    have hs := clsT_s (E := mutR below.1) i0 i1
    have hm := within_iff.1 hw i i0 i1
    try dsimp only at hol ⊢
    rw [hs] at hn
    generalize clsT (mutR below.1) members i = out at *
    generalize members.getD i.toNat 0 = m at *
    have hl := hP.len
    refine cnd_d (fun _ => join_add (clAddR (mutR below.1) m out) (fun s hs _ => ⟨by rw [inK64]; (try dsimp only); omega, by rw [hs]; exact hn⟩) (fun k hk => ⟨i0, i1, ?_⟩)) (fun h => absurd i1 h)
    refine loop_of (fun (s : ((Unit × (Unit × (Int × Unit))) × ((List (List Int)) × Unit))) => 0 ≤ s.1.2.2.1 ∧ s.1.2.2.1 ≤ out.length ∧ s.2.1 = out ∧ clAddR (mutR below.1) m out = out.take s.1.2.2.1.toNat ++ clAddR (mutR below.1) m (out.drop s.1.2.2.1.toNat)) (fun (s : ((Unit × (Unit × (Int × Unit))) × ((List (List Int)) × Unit))) => (out.length - s.1.2.2.1).toNat) ?_ ⟨by simp, by simp, rfl, by simp⟩
    rintro ⟨⟨_, _, j, _⟩, o, _⟩ next1 ⟨j0, j1, e, hQ⟩ hn1 _ _
    try dsimp only at j0 j1 e hQ hn1 ⊢
    subst e
    refine cnd_d (fun hc => ?_) (fun hc => ?_)
    · have hcl := hP.cl _ (getD_mem o [] j0 hc)
      refine ⟨j0, hc, by omega, hcl.1, S, hm.1, hm.2, hcl.2.2.1, hcl.2.2.2, fun _ => ⟨hcl.1, by omega⟩, fun _ => ⟨hcl.2.2.1, hcl.2.2.2, hm.1, hm.2, S⟩, cnd_of (fun he => ?_) (fun he => ?_)⟩
      · have he' : mutR below.1 m ((o.getD j.toNat []).getD 0 0) = true := he
        refine ⟨room_of (by simp only [List.length_cons, List.length_nil]; omega), j0, by rw [tak_len]; exact hc, all_tak, ?_⟩
        rw [cls_tak]; exact hk _ (clAdd_t j0 hc hQ he').symm
      · have he' : mutR below.1 m ((o.getD j.toNat []).getD 0 0) = false := he
        exact ⟨by rw [inK64]; (try dsimp only); omega, hn1 _ ⟨by dsimp only; omega, by dsimp only; omega, rfl, clAdd_f j0 hc hQ he'⟩ (by dsimp only; omega)⟩
    · have e : j = o.length := by omega
      subst e
      exact ⟨room_of (by simp only [List.length_cons, List.length_nil]; omega), hk _ (clAdd_n hQ).symm⟩
  · intro next _ _
    refine cnd_d (fun h => absurd h (Int.lt_irrefl _)) (fun _ => ?_)
    simp only [c_impl_classesOf_quot]; rw [clsT_n]
theorem ct_impl_classesOf_quot : CtOk Try.prog 47 c_impl_classesOf_quot :=
  ct_by (Φ := lkp [(48, c_impl_QuotientsOf_1)]) (good_cons ct_impl_QuotientsOf_1 good_nil) tab_ok (by kernel_rfl) (fn := Try.f47) (c := bodyOf Try.f47) (by kernel_rfl) (by kernel_rfl) (by kernel_rfl) c_impl_classesOf_quot rfl (.s .n (.s .n (.s .n (.s (.s .n (.l [(5, (.ref 800005 [])), (13, (.d (.int .i64)))] [(800005, (.sl (.sl (.fz (.int .i64)))))] [1, 11, 12] (.s .n (.s .n (.s (.j [(5, (.ref 800005 []))] [(800005, (.sl (.sl (.fz (.int .i64)))))] [1, 11, 12, 13] (.s .n (.s (.s .n (.l [(5, (.ref 800005 [])), (17, (.ref 800005 [])), (19, (.d (.int .i64)))] [(800005, (.sl (.sl (.fz (.int .i64)))))] [1, 7, 11, 12, 13, 18] .n)) .n))) .n))))) .n)))) (cutL []) (by kernel_rfl) (by kernel_rfl) k_impl_classesOf_quot (by decide) (fun x K => W_impl_classesOf_quot x.1 x.2.1 K) w_impl_classesOf_quot (fun x h1 h2 => m_impl_classesOf_quot x.1 x.2.1 h1 h2)
def catR (c : CategoryD) : Bool := shapeR c && (faultR c).1 == 0

def c_impl_Category_isCategory : Ct := ⟨[(.pt CategoryT)], [false], fun x => [], [(false, (.fz .bool))], fun x => (catR x.1, ()), false, none⟩
def W_impl_Category_isCategory (c : CategoryD) (K : Bool × Unit → Prop) : Prop := (cnd (!(shapeR c)) (K (Bool.false, ())) ((ShapeP c) ∧ (K (((faultR c).1 == (0 : Int)), ()))))
theorem w_impl_Category_isCategory (x : denL c_impl_Category_isCategory.args) (K : Bool × Unit → Prop) : evF tab (lkp [(62, c_impl_Category_fault), (61, c_impl_Category_isShape)]) (cutL []) Try.f36 (bodyOf Try.f36) .n c_impl_Category_isCategory x K = W_impl_Category_isCategory x.1 K := by kernel_rfl
theorem k_impl_Category_isCategory : okC Try.f36.ntmps (cutL []) (bodyOf Try.f36) = true := by kernel_rfl
theorem m_impl_Category_isCategory (c : CategoryD) (hok : allP (okL c_impl_Category_isCategory.args (c, ()))) (hpre : allP (c_impl_Category_isCategory.pre (c, ()))) : W_impl_Category_isCategory c (fun r => r = c_impl_Category_isCategory.res (c, ())) := by
  simp only [c_impl_Category_isCategory, okL, T.oks, T.ok, ap, allP, true_and, and_true, implies_true] at hok hpre
  try dsimp only [T.den] at hok
  try dsimp only [T.den] at hpre
  unfold W_impl_Category_isCategory
  simp only [c_impl_Category_isCategory, catR]
  have := @shape_iff c
  grind [cnd, nb_eq, inK64]
theorem ct_impl_Category_isCategory : CtOk Try.prog 36 c_impl_Category_isCategory :=
  ct_by (Φ := lkp [(62, c_impl_Category_fault), (61, c_impl_Category_isShape)]) (good_cons ct_impl_Category_fault (good_cons ct_impl_Category_isShape good_nil)) tab_ok (by kernel_rfl) (fn := Try.f36) (c := bodyOf Try.f36) (by kernel_rfl) (by kernel_rfl) (by kernel_rfl) c_impl_Category_isCategory rfl .n (cutL []) (by kernel_rfl) (by kernel_rfl) k_impl_Category_isCategory (by decide) (fun x K => W_impl_Category_isCategory x.1 K) w_impl_Category_isCategory (fun x h1 h2 => m_impl_Category_isCategory x.1 h1 h2)
def objCodeR (c : CategoryD) (l : List Int) : Int := if catR c = true then (if withinR l c.1 = true then 0 else 2) else 1
theorem cat_shape {c : CategoryD} (h : catR c = true) : ShapeP c := by
  simp only [catR, Bool.and_eq_true] at h; exact shape_iff.1 h.1

def c_impl_objectCode : Ct := ⟨[(.pt CategoryT), (.sl (.int .i64))], [false, false], fun x => [], [(false, (.fz (.int .i64)))], fun x => (objCodeR x.1 x.2.1, ()), false, none⟩
def W_impl_objectCode (c : CategoryD) (list : List Int) (K : Int × Unit → Prop) : Prop := (cnd (!(catR c)) (K ((1 : Int), ())) ((inK IntKind.i64 (c.1 - (1 : Int))) ∧ (cnd (!(withinR list c.1)) (K ((2 : Int), ())) (K ((0 : Int), ())))))
theorem w_impl_objectCode (x : denL c_impl_objectCode.args) (K : Int × Unit → Prop) : evF tab (lkp [(36, c_impl_Category_isCategory), (63, c_impl_within)]) (cutL []) Try.f44 (bodyOf Try.f44) .n c_impl_objectCode x K = W_impl_objectCode x.1 x.2.1 K := by kernel_rfl
theorem k_impl_objectCode : okC Try.f44.ntmps (cutL []) (bodyOf Try.f44) = true := by kernel_rfl
theorem m_impl_objectCode (c : CategoryD) (list : List Int) (hok : allP (okL c_impl_objectCode.args (c, list, ()))) (hpre : allP (c_impl_objectCode.pre (c, list, ()))) : W_impl_objectCode c list (fun r => r = c_impl_objectCode.res (c, list, ())) := by
  simp only [c_impl_objectCode, okL, T.oks, T.ok, ap, allP, true_and, and_true, implies_true] at hok hpre
  try dsimp only [T.den] at hok
  try dsimp only [T.den] at hpre
  unfold W_impl_objectCode
  simp only [c_impl_objectCode, objCodeR]
  have h1 := fun h => (cat_shape (c := c) h).ob
  grind [cnd, nb_eq, inK64]
theorem ct_impl_objectCode : CtOk Try.prog 44 c_impl_objectCode :=
  ct_by (Φ := lkp [(36, c_impl_Category_isCategory), (63, c_impl_within)]) (good_cons ct_impl_Category_isCategory (good_cons ct_impl_within good_nil)) tab_ok (by kernel_rfl) (fn := Try.f44) (c := bodyOf Try.f44) (by kernel_rfl) (by kernel_rfl) (by kernel_rfl) c_impl_objectCode rfl .n (cutL []) (by kernel_rfl) (by kernel_rfl) k_impl_objectCode (by decide) (fun x K => W_impl_objectCode x.1 x.2.1 K) w_impl_objectCode (fun x h1 h2 => m_impl_objectCode x.1 x.2.1 h1 h2)
/-- the arrows out of x -/
def outR (c : CategoryD) (x : Int) : List Int := selR c.2.1.length fun f => c.2.1.getD f.toNat 0 == x

def c_impl_Category_outOf : Ct := ⟨[(.pt CategoryT), (.int .i64)], [false, false], fun x => [x.1.2.1.length ≤ 40], [(false, (.sl (.fz (.int .i64))))], fun x => (outR x.1 x.2.1, ()), false, none⟩
def W_impl_Category_outOf (c : CategoryD) (x : Int) (K : (List Int) × Unit → Prop) : Prop := (loopW (S := ((Unit × (Int × Unit)) × ((List Int) × Unit))) (fun s => (fun next => ((inK IntKind.i64 s.1.2.1) → ((T.ok (T.sl (T.int IntKind.i64)) s.2.1) → (cnd (decide (s.1.2.1 < (((List.length c.2.1) : Nat) : Int))) (((0 : Int) ≤ s.1.2.1) ∧ ((s.1.2.1 < (((List.length c.2.1) : Nat) : Int)) ∧ (joinW (S := ((Unit × Unit) × ((List Int) × Unit))) (fun s1 => ((T.ok (T.sl (T.int IntKind.i64)) s1.2.1) → ((inK IntKind.i64 (s.1.2.1 + (1 : Int))) ∧ (next (((), ((s.1.2.1 + (1 : Int)), ())), (s1.2.1, ())))))) (fun k => (cnd ((List.getD c.2.1 (Int.toNat s.1.2.1) (0 : Int)) == x) ((room (List.length s.2.1) (List.length (s.1.2.1 :: ([] : List Int))) 8) ∧ (k (((), ()), ((s.2.1 ++ (s.1.2.1 :: ([] : List Int))), ())))) (k (((), ()), (s.2.1, ())))))))) (K (s.2.1, ()))))))) (((), ((0 : Int), ())), (([] : List Int), ())))
theorem w_impl_Category_outOf (x : denL c_impl_Category_outOf.args) (K : (List Int) × Unit → Prop) : evF tab (lkp []) (cutL []) Try.f45 (bodyOf Try.f45) (.s .n (.s .n (.s (.s .n (.l [(5, (.ref 800005 [])), (14, (.d (.int .i64)))] [(800005, (.sl (.fz (.int .i64))))] [1, 12, 13] (.s .n (.s .n (.s (.s .n (.s .n (.j [(5, (.ref 800005 []))] [(800005, (.sl (.fz (.int .i64))))] [1, 12, 13, 14] .n))) .n))))) .n))) c_impl_Category_outOf x K = W_impl_Category_outOf x.1 x.2.1 K := by kernel_rfl
theorem k_impl_Category_outOf : okC Try.f45.ntmps (cutL []) (bodyOf Try.f45) = true := by kernel_rfl
theorem m_impl_Category_outOf (c : CategoryD) (x : Int) (hok : allP (okL c_impl_Category_outOf.args (c, x, ()))) (hpre : allP (c_impl_Category_outOf.pre (c, x, ()))) : W_impl_Category_outOf c x (fun r => r = c_impl_Category_outOf.res (c, x, ())) := by
  simp only [c_impl_Category_outOf, okL, T.oks, T.ok, ap, allP, true_and, and_true, implies_true] at hok hpre
  try dsimp only [T.den] at hok
  try dsimp only [T.den] at hpre
  unfold W_impl_Category_outOf
  have hm : c.2.1.length ≤ 40 := hpre
  refine loop_of (fun (s : ((Unit × (Int × Unit)) × ((List Int) × Unit))) => 0 ≤ s.1.2.1 ∧ s.1.2.1 ≤ c.2.1.length ∧ s.2.1 = selR s.1.2.1.toNat fun f => c.2.1.getD f.toNat 0 == x) (fun (s : ((Unit × (Int × Unit)) × ((List Int) × Unit))) => (c.2.1.length - s.1.2.1).toNat) ?_ ⟨by simp, by simp, rfl⟩
  rintro ⟨⟨_, i, _⟩, l, _⟩ next ⟨h0, h1, h2⟩ hn hin hl
  try dsimp only at h0 h1 h2 hn ⊢
  subst h2
  refine cnd_d (fun hc => ⟨h0, hc, join_of (fun s1 => s1.2.1 = selR (i + 1).toNat fun f => c.2.1.getD f.toNat 0 == x) (fun s1 hs _ => ⟨by rw [inK64]; (try dsimp only); omega, hn _ ⟨(by first | omega | (dsimp only; omega)), (by first | omega | (dsimp only; omega)), hs⟩ (by first | omega | (dsimp only; omega))⟩) (fun k hk => cnd_of (fun hx => ⟨?_, hk _ ?_⟩) (fun hx => hk _ ?_))⟩) (fun hc => ?_)
  · have := sel_len (p := fun f => c.2.1.getD f.toNat 0 == x) i.toNat
    unfold room
    rw [nb_eq]
    have h3 : (i :: ([] : List Int)).length = 1 := rfl
    rw [h3]
    omega
  · exact (sel_t h0 hx).symm
  · exact (sel_f h0 hx).symm
  · have e : i.toNat = c.2.1.length := by omega
    simp only [c_impl_Category_outOf, outR]
    rw [e]
theorem ct_impl_Category_outOf : CtOk Try.prog 45 c_impl_Category_outOf :=
  ct_by (Φ := lkp []) good_nil tab_ok (by kernel_rfl) (fn := Try.f45) (c := bodyOf Try.f45) (by kernel_rfl) (by kernel_rfl) (by kernel_rfl) c_impl_Category_outOf rfl (.s .n (.s .n (.s (.s .n (.l [(5, (.ref 800005 [])), (14, (.d (.int .i64)))] [(800005, (.sl (.fz (.int .i64))))] [1, 12, 13] (.s .n (.s .n (.s (.s .n (.s .n (.j [(5, (.ref 800005 []))] [(800005, (.sl (.fz (.int .i64))))] [1, 12, 13, 14] .n))) .n))))) .n))) (cutL []) (by kernel_rfl) (by kernel_rfl) k_impl_Category_outOf (by decide) (fun x K => W_impl_Category_outOf x.1 x.2.1 K) w_impl_Category_outOf (fun x h1 h2 => m_impl_Category_outOf x.1 x.2.1 h1 h2)
def c_impl_Category_jointlyEpi_1 : Ct := ⟨[(.int .i64), (.int .i64), (.pt (.pt CategoryT)), (.pt (.sl (.int .i64)))], [false, false, false, false], fun x => [ShapeP x.2.2.1, 0 ≤ x.1, x.1 < x.2.2.1.2.1.length, withinR x.2.2.2.1 x.2.2.1.2.1.length = true, 0 ≤ x.2.1, x.2.1 < x.2.2.2.1.length], [(false, (.fz (.int .i64)))], fun x => (compR x.2.2.1 (x.2.2.2.1.getD x.2.1.toNat 0) x.1, ()), false, none⟩
def W_impl_Category_jointlyEpi_1 (g : Int) (way : Int) (c : CategoryD) (arrows : List Int) (K : Int × Unit → Prop) : Prop := (((0 : Int) ≤ way) ∧ ((way < (((List.length arrows) : Nat) : Int)) ∧ (((0 : Int) ≤ (List.getD arrows (Int.toNat way) (0 : Int))) ∧ (((List.getD arrows (Int.toNat way) (0 : Int)) < (((List.length c.2.2.2.2) : Nat) : Int)) ∧ (((0 : Int) ≤ g) ∧ ((g < (((List.length (List.getD c.2.2.2.2 (Int.toNat (List.getD arrows (Int.toNat way) (0 : Int))) ([] : List Int))) : Nat) : Int)) ∧ (K ((compR c (List.getD arrows (Int.toNat way) (0 : Int)) g), ()))))))))
theorem w_impl_Category_jointlyEpi_1 (x : denL c_impl_Category_jointlyEpi_1.args) (K : Int × Unit → Prop) : evF tab (lkp [(68, c_impl_Category_then)]) (cutL [(1, 6)]) Try.f90 (bodyOf Try.f90) .n c_impl_Category_jointlyEpi_1 x K = W_impl_Category_jointlyEpi_1 x.1 x.2.1 x.2.2.1 x.2.2.2.1 K := by kernel_rfl
theorem k_impl_Category_jointlyEpi_1 : okC Try.f90.ntmps (cutL [(1, 6)]) (bodyOf Try.f90) = true := by kernel_rfl
theorem m_impl_Category_jointlyEpi_1 (g : Int) (way : Int) (c : CategoryD) (arrows : List Int) (hok : allP (okL c_impl_Category_jointlyEpi_1.args (g, way, c, arrows, ()))) (hpre : allP (c_impl_Category_jointlyEpi_1.pre (g, way, c, arrows, ()))) : W_impl_Category_jointlyEpi_1 g way c arrows (fun r => r = c_impl_Category_jointlyEpi_1.res (g, way, c, arrows, ())) := by
  simp only [c_impl_Category_jointlyEpi_1, okL, T.oks, T.ok, ap, allP, true_and, and_true, implies_true] at hok hpre
  try dsimp only [T.den] at hok
  try dsimp only [T.den] at hpre
  unfold W_impl_Category_jointlyEpi_1
  obtain ⟨S, g0, g1, hw, w0, w1⟩ := hpre
  have ha := within_iff.1 hw way w0 w1
  have hlc := S.lc
  have hr := S.row _ ha.1 ha.2
  exact ⟨w0, w1, ha.1, by omega, g0, by omega, rfl⟩
theorem ct_impl_Category_jointlyEpi_1 : CtOk Try.prog 90 c_impl_Category_jointlyEpi_1 :=
  ct_by (Φ := lkp [(68, c_impl_Category_then)]) (good_cons ct_impl_Category_then good_nil) tab_ok (by kernel_rfl) (fn := Try.f90) (c := bodyOf Try.f90) (by kernel_rfl) (by kernel_rfl) (by kernel_rfl) c_impl_Category_jointlyEpi_1 rfl .n (cutL [(1, 6)]) (by kernel_rfl) (by kernel_rfl) k_impl_Category_jointlyEpi_1 (by decide) (fun x K => W_impl_Category_jointlyEpi_1 x.1 x.2.1 x.2.2.1 x.2.2.2.1 K) w_impl_Category_jointlyEpi_1 (fun x h1 h2 => m_impl_Category_jointlyEpi_1 x.1 x.2.1 x.2.2.1 x.2.2.2.1 h1 h2)
/-- no two of a list agree -/
def cancelR (P : Int → Int → Bool) : List Int → Bool
  | [] => true
  | a :: r => (r.all fun b => !P a b) && cancelR P r
theorem cancel_drop {P : Int → Int → Bool} {l : List Int} {i : Int} (h0 : 0 ≤ i) (h1 : i < l.length) : cancelR P (l.drop i.toNat) = (((l.drop (i + 1).toNat).all fun b => !P (l.getD i.toNat 0) b) && cancelR P (l.drop (i + 1).toNat)) := by
  rw [drop_c l 0 h0 h1]; rfl
/-- both give the same behind each arrow of a list -/
def cofR (c : CategoryD) (l : List Int) (g h : Int) : Bool := l.all fun a => compR c a g == compR c a h

def c_impl_cancels_epi : Ct := ⟨[(.sl (.int .i64)), (.int .i64), (.fn 90 (.p (.pt (.pt CategoryT)) (.p (.pt (.sl (.int .i64))) .u)))], [false, false, false], fun x => [ShapeP x.2.2.1.1, withinR x.1 x.2.2.1.1.2.1.length = true, withinR x.2.2.1.2.1 x.2.2.1.1.2.1.length = true, x.2.1 = x.2.2.1.2.1.length], [(false, (.fz .bool))], fun x => (cancelR (cofR x.2.2.1.1 x.2.2.1.2.1) x.1, ()), false, none⟩
def W_impl_cancels_epi (candidates : List Int) (ways : Int) (composite : CategoryD × ((List Int) × Unit)) (K : Bool × Unit → Prop) : Prop := (loopW (S := ((Int × Unit) × Unit)) (fun s => (fun next => ((inK IntKind.i64 s.1.1) → (cnd (decide (s.1.1 < (((List.length candidates) : Nat) : Int))) (((0 : Int) ≤ s.1.1) ∧ ((s.1.1 < (((List.length candidates) : Nat) : Int)) ∧ ((inK IntKind.i64 (s.1.1 + (1 : Int))) ∧ (((0 : Int) ≤ (s.1.1 + (1 : Int))) ∧ (((s.1.1 + (1 : Int)) ≤ (((List.length candidates) : Nat) : Int)) ∧ (loopW (S := ((Int × Unit) × Unit)) (fun s1 => (fun next1 => ((inK IntKind.i64 s1.1.1) → (cnd (decide (s1.1.1 < (((List.length (List.drop (Int.toNat (s.1.1 + (1 : Int))) candidates)) : Nat) : Int))) (((0 : Int) ≤ s1.1.1) ∧ ((s1.1.1 < (((List.length (List.drop (Int.toNat (s.1.1 + (1 : Int))) candidates)) : Nat) : Int)) ∧ (loopW (S := ((Bool × (Int × Unit)) × Unit)) (fun s2 => (fun next2 => ((inK IntKind.i64 s2.1.2.1) → (cnd ((decide (s2.1.2.1 < ways)) && s2.1.1) ((ShapeP composite.1) ∧ (((0 : Int) ≤ (List.getD candidates (Int.toNat s.1.1) (0 : Int))) ∧ (((List.getD candidates (Int.toNat s.1.1) (0 : Int)) < (((List.length composite.1.2.1) : Nat) : Int)) ∧ (((withinR composite.2.1 (((List.length composite.1.2.1) : Nat) : Int)) = Bool.true) ∧ (((0 : Int) ≤ s2.1.2.1) ∧ ((s2.1.2.1 < (((List.length composite.2.1) : Nat) : Int)) ∧ ((ShapeP composite.1) ∧ (((0 : Int) ≤ (List.getD (List.drop (Int.toNat (s.1.1 + (1 : Int))) candidates) (Int.toNat s1.1.1) (0 : Int))) ∧ (((List.getD (List.drop (Int.toNat (s.1.1 + (1 : Int))) candidates) (Int.toNat s1.1.1) (0 : Int)) < (((List.length composite.1.2.1) : Nat) : Int)) ∧ (((withinR composite.2.1 (((List.length composite.1.2.1) : Nat) : Int)) = Bool.true) ∧ (((0 : Int) ≤ s2.1.2.1) ∧ ((s2.1.2.1 < (((List.length composite.2.1) : Nat) : Int)) ∧ ((inK IntKind.i64 (s2.1.2.1 + (1 : Int))) ∧ (next2 ((((compR composite.1 (List.getD composite.2.1 (Int.toNat s2.1.2.1) (0 : Int)) (List.getD candidates (Int.toNat s.1.1) (0 : Int))) == (compR composite.1 (List.getD composite.2.1 (Int.toNat s2.1.2.1) (0 : Int)) (List.getD (List.drop (Int.toNat (s.1.1 + (1 : Int))) candidates) (Int.toNat s1.1.1) (0 : Int)))), ((s2.1.2.1 + (1 : Int)), ())), ()))))))))))))))) (cnd s2.1.1 (K (Bool.false, ())) ((inK IntKind.i64 (s1.1.1 + (1 : Int))) ∧ (next1 (((s1.1.1 + (1 : Int)), ()), ())))))))) ((Bool.true, ((0 : Int), ())), ())))) ((inK IntKind.i64 (s.1.1 + (1 : Int))) ∧ (next (((s.1.1 + (1 : Int)), ()), ()))))))) (((0 : Int), ()), ()))))))) (K (Bool.true, ())))))) (((0 : Int), ()), ()))
theorem w_impl_cancels_epi (x : denL c_impl_cancels_epi.args) (K : Bool × Unit → Prop) : evF tab (lkp [(90, c_impl_Category_jointlyEpi_1)]) (cutL []) Try.f89 (bodyOf Try.f89) (.s .n (.s (.s .n (.l [(15, (.d (.int .i64)))] [] [0, 1, 2, 13, 14] (.s .n (.s .n (.s (.s .n (.s .n (.l [(25, (.d (.int .i64)))] [] [0, 1, 2, 8, 13, 14, 15, 23, 24] (.s .n (.s .n (.s (.s .n (.s .n (.s (.s .n (.l [(11, (.d .bool)), (12, (.d (.int .i64)))] [] [0, 1, 2, 8, 10, 13, 14, 15, 23, 24, 25] .n)) .n))) .n)))))) .n))))) .n)) c_impl_cancels_epi x K = W_impl_cancels_epi x.1 x.2.1 x.2.2.1 K := by kernel_rfl
theorem k_impl_cancels_epi : okC Try.f89.ntmps (cutL []) (bodyOf Try.f89) = true := by kernel_rfl
theorem m_impl_cancels_epi (candidates : List Int) (ways : Int) (composite : CategoryD × ((List Int) × Unit)) (hok : allP (okL c_impl_cancels_epi.args (candidates, ways, composite, ()))) (hpre : allP (c_impl_cancels_epi.pre (candidates, ways, composite, ()))) : W_impl_cancels_epi candidates ways composite (fun r => r = c_impl_cancels_epi.res (candidates, ways, composite, ())) := by
  simp only [c_impl_cancels_epi, okL, T.oks, T.ok, ap, allP, true_and, and_true, implies_true] at hok hpre
  try dsimp only [T.den] at hok
  try dsimp only [T.den] at hpre
  unfold W_impl_cancels_epi
  obtain ⟨c, l, u⟩ := composite
  obtain ⟨S, hw, ha, hn⟩ := hpre
  try dsimp only at S hw ha hn hok ⊢
  have hw' := within_iff.1 hw
  have hl : candidates.length ≤ 140737488355328 := by simp only [nb_eq] at hok; omega
  have hll : l.length ≤ 140737488355328 := by simp only [nb_eq] at hok; omega
  clear hok
  subst hn
  have res : ∀ b, cancelR (cofR c l) candidates = b → (b, ()) = c_impl_cancels_epi.res (candidates, (l.length : Int), (c, l, u), ()) := fun b h => by simp only [c_impl_cancels_epi, h]
  refine loop_ix (n := candidates.length) (fun i => cancelR (cofR c l) candidates = cancelR (cofR c l) (candidates.drop i.toNat)) (by omega) (by simp) ?_ ?_
  · intro i next i0 i1 hP hn hin
    try dsimp only
    rw [cancel_drop i0 i1] at hP
    have hg := hw' i i0 i1
    have hD : ∀ j : Int, 0 ≤ j → j < (candidates.drop (i + 1).toNat).length → 0 ≤ (candidates.drop (i + 1).toNat).getD j.toNat 0 ∧ (candidates.drop (i + 1).toNat).getD j.toNat 0 < c.2.1.length := fun j j0 j1 =>
      (@all_ix Int 0 candidates (fun m => 0 ≤ m ∧ m < c.2.1.length)).2 hw' _ (List.mem_of_mem_drop (getD_mem _ 0 j0 j1))
    have hDl : (candidates.drop (i + 1).toNat).length ≤ candidates.length := by rw [List.length_drop]; omega
    refine cnd_d (fun _ => ⟨i0, i1, by rw [inK64]; (try dsimp only); omega, by omega, by omega, ?_⟩) (fun h => absurd i1 h)
    generalize candidates.drop (i + 1).toNat = D at *
    generalize candidates.getD i.toNat 0 = g at *
    refine loop_all D 0 (fun h => !cofR c l g h) ?_ ?_
    · intro j next1 j0 j1 hbad hyes _
      try dsimp only at hbad hyes ⊢
      have hh := hD j j0 j1
      generalize D.getD j.toNat 0 = h at *
      refine cnd_d (fun _ => ⟨j0, j1, ?_⟩) (fun hx => absurd j1 hx)
      refine loop_of (fun (s2 : ((Bool × (Int × Unit)) × Unit)) => 0 ≤ s2.1.2.1 ∧ s2.1.2.1 ≤ l.length ∧ ((s2.1.1 = false ∧ cofR c l g h = false) ∨ (s2.1.1 = true ∧ ((l.take s2.1.2.1.toNat).all fun a => compR c a g == compR c a h) = true))) (fun (s2 : ((Bool × (Int × Unit)) × Unit)) => (l.length - s2.1.2.1).toNat) ?_ ⟨by simp, by simp, .inr ⟨rfl, by simp⟩⟩
      rintro ⟨⟨b, k, _⟩, _⟩ next2 ⟨k0, k1, hQ⟩ hn2 _
      try dsimp only at k0 k1 hQ hn2 ⊢
      refine cnd_of (fun he => ?_) (fun he => ?_)
      · simp only [Bool.and_eq_true, decide_eq_true_eq] at he
        obtain ⟨hk, hb⟩ := he
        have hQ2 : ((l.take k.toNat).all fun a => compR c a g == compR c a h) = true := by
          rcases hQ with h1 | h1
          · rw [hb] at h1; cases h1.1
          · exact h1.2
        have hat := @all_take Int (fun a => compR c a g == compR c a h) l 0 k k0 hk
        rw [hQ2, Bool.true_and] at hat
        refine ⟨S, hg.1, hg.2, ha, k0, hk, S, hh.1, hh.2, ha, k0, hk, by rw [inK64]; (try dsimp only); omega, hn2 _ ⟨(by first | omega | (dsimp only; omega)), (by first | omega | (dsimp only; omega)), ?_⟩ (by first | omega | (dsimp only; omega))⟩
        try dsimp only
        cases hv : compR c (l.getD k.toNat 0) g == compR c (l.getD k.toNat 0) h with
        | false => exact .inl ⟨rfl, by unfold cofR; rw [List.all_eq_false]; exact ⟨_, getD_mem l 0 k0 hk, by rw [hv]; simp⟩⟩
        | true => exact .inr ⟨rfl, by rw [hat]; exact hv⟩
      · have hqb : cofR c l g h = b := by
          rcases hQ with ⟨h1, h2⟩ | ⟨h1, h2⟩
          · rw [h1, h2]
          · rw [h1, Bool.and_true, decide_eq_false_iff_not] at he
            rw [take_n _ (by omega)] at h2
            unfold cofR; rw [h2, h1]
        refine cnd_of (fun hb => res _ ?_) (fun hb => ⟨by rw [inK64]; (try dsimp only); omega, hyes (by rw [hqb, hb]; rfl)⟩)
        rw [hP, hbad (by rw [hqb, hb]; rfl), Bool.false_and]
    · intro next1 hv _
      try dsimp only
      refine cnd_d (fun h => absurd h (Int.lt_irrefl _)) (fun _ => ⟨by rw [inK64]; (try dsimp only); omega, hn ?_⟩)
      rw [hP, hv, Bool.true_and]
  · intro next hP hin
    try dsimp only
    refine cnd_d (fun h => absurd h (Int.lt_irrefl _)) (fun _ => res _ ?_)
    rw [hP]; simp [cancelR]
theorem ct_impl_cancels_epi : CtOk Try.prog 89 c_impl_cancels_epi :=
  ct_by (Φ := lkp [(90, c_impl_Category_jointlyEpi_1)]) (good_cons ct_impl_Category_jointlyEpi_1 good_nil) tab_ok (by kernel_rfl) (fn := Try.f89) (c := bodyOf Try.f89) (by kernel_rfl) (by kernel_rfl) (by kernel_rfl) c_impl_cancels_epi rfl (.s .n (.s (.s .n (.l [(15, (.d (.int .i64)))] [] [0, 1, 2, 13, 14] (.s .n (.s .n (.s (.s .n (.s .n (.l [(25, (.d (.int .i64)))] [] [0, 1, 2, 8, 13, 14, 15, 23, 24] (.s .n (.s .n (.s (.s .n (.s .n (.s (.s .n (.l [(11, (.d .bool)), (12, (.d (.int .i64)))] [] [0, 1, 2, 8, 10, 13, 14, 15, 23, 24, 25] .n)) .n))) .n)))))) .n))))) .n)) (cutL []) (by kernel_rfl) (by kernel_rfl) k_impl_cancels_epi (by decide) (fun x K => W_impl_cancels_epi x.1 x.2.1 x.2.2.1 K) w_impl_cancels_epi (fun x h1 h2 => m_impl_cancels_epi x.1 x.2.1 x.2.2.1 h1 h2)
def jepiR (c : CategoryD) (x : Int) (l : List Int) : Bool := allB c.1.toNat fun t => cancelR (cofR c l) (homR c x t)
theorem hom_within (c : CategoryD) (x y : Int) : withinR (homR c x y) c.2.1.length = true := within_iff.2 fun i h0 h1 => ⟨(hom_at h0 h1).1, (hom_at h0 h1).2.1⟩

def c_impl_Category_jointlyEpi : Ct := ⟨[(.pt CategoryT), (.int .i64), (.sl (.int .i64))], [false, false, false], fun x => [ShapeP x.1, withinR x.2.2.1 x.1.2.1.length = true], [(false, (.fz .bool))], fun x => (jepiR x.1 x.2.1 x.2.2.1, ()), false, none⟩
def W_impl_Category_jointlyEpi (c : CategoryD) (x : Int) (arrows : List Int) (K : Bool × Unit → Prop) : Prop := (loopW (S := ((Int × Unit) × Unit)) (fun s => (fun next => ((inK IntKind.i64 s.1.1) → (cnd (decide (s.1.1 < c.1)) (((List.length c.2.1) ≤ 40) ∧ (((List.length c.2.2.1) = (List.length c.2.1)) ∧ ((ShapeP c) ∧ (((withinR (homR c x s.1.1) (((List.length c.2.1) : Nat) : Int)) = Bool.true) ∧ (((withinR arrows (((List.length c.2.1) : Nat) : Int)) = Bool.true) ∧ (((((List.length arrows) : Nat) : Int) = (((List.length arrows) : Nat) : Int)) ∧ (cnd (!(cancelR (cofR c arrows) (homR c x s.1.1))) (K (Bool.false, ())) ((inK IntKind.i64 (s.1.1 + (1 : Int))) ∧ (next (((s.1.1 + (1 : Int)), ()), ())))))))))) (K (Bool.true, ())))))) (((0 : Int), ()), ()))
theorem w_impl_Category_jointlyEpi (x : denL c_impl_Category_jointlyEpi.args) (K : Bool × Unit → Prop) : evF tab (lkp [(89, c_impl_cancels_epi), (73, c_impl_Category_hom)]) (cutL [(4, 7)]) Try.f72 (bodyOf Try.f72) (.s .n (.s (.s .n (.l [(7, (.d (.int .i64)))] [] [1, 3, 5] .n)) .n)) c_impl_Category_jointlyEpi x K = W_impl_Category_jointlyEpi x.1 x.2.1 x.2.2.1 K := by kernel_rfl
theorem k_impl_Category_jointlyEpi : okC Try.f72.ntmps (cutL [(4, 7)]) (bodyOf Try.f72) = true := by kernel_rfl
theorem m_impl_Category_jointlyEpi (c : CategoryD) (x : Int) (arrows : List Int) (hok : allP (okL c_impl_Category_jointlyEpi.args (c, x, arrows, ()))) (hpre : allP (c_impl_Category_jointlyEpi.pre (c, x, arrows, ()))) : W_impl_Category_jointlyEpi c x arrows (fun r => r = c_impl_Category_jointlyEpi.res (c, x, arrows, ())) := by
  simp only [c_impl_Category_jointlyEpi, okL, T.oks, T.ok, ap, allP, true_and, and_true, implies_true] at hok hpre
  try dsimp only [T.den] at hok
  try dsimp only [T.den] at hpre
  unfold W_impl_Category_jointlyEpi
  obtain ⟨S, hw⟩ := hpre
  have hob := S.ob
  have res : ∀ b, jepiR c x arrows = b → (b, ()) = c_impl_Category_jointlyEpi.res (c, x, arrows, ()) := fun b h => by simp only [c_impl_Category_jointlyEpi, h]
  refine loop_ix (n := c.1) (fun i => ∀ t : Int, 0 ≤ t → t < i → cancelR (cofR c arrows) (homR c x t) = true) (by omega) (by intro y h0 h1; omega) ?_ ?_
  · intro t next t0 t1 hP hn hin
    try dsimp only
    refine cnd_d (fun _ => ⟨S.m, S.lt, S, hom_within c x t, hw, rfl, cnd_of (fun hx => res _ ?_) (fun hx => ⟨by rw [inK64]; (try dsimp only); omega, hn fun y y0 y1 => ?_⟩)⟩) (fun h => absurd t1 h)
    · unfold jepiR
      cases hb : allB c.1.toNat fun t => cancelR (cofR c arrows) (homR c x t) with
      | false => rfl
      | true => rw [allB_iff.1 hb t t0 (by omega)] at hx; cases hx
    · by_cases e : y = t
      · subst e; simpa using hx
      · exact hP y y0 (by omega)
  · intro next hP hin
    refine cnd_d (fun h => absurd h (by dsimp only; omega)) (fun _ => res _ ?_)
    unfold jepiR
    exact allB_iff.2 fun t t0 t1 => hP t t0 (by omega)
theorem ct_impl_Category_jointlyEpi : CtOk Try.prog 72 c_impl_Category_jointlyEpi :=
  ct_by (Φ := lkp [(89, c_impl_cancels_epi), (73, c_impl_Category_hom)]) (good_cons ct_impl_cancels_epi (good_cons ct_impl_Category_hom good_nil)) tab_ok (by kernel_rfl) (fn := Try.f72) (c := bodyOf Try.f72) (by kernel_rfl) (by kernel_rfl) (by kernel_rfl) c_impl_Category_jointlyEpi rfl (.s .n (.s (.s .n (.l [(7, (.d (.int .i64)))] [] [1, 3, 5] .n)) .n)) (cutL [(4, 7)]) (by kernel_rfl) (by kernel_rfl) k_impl_Category_jointlyEpi (by decide) (fun x K => W_impl_Category_jointlyEpi x.1 x.2.1 x.2.2.1 K) w_impl_Category_jointlyEpi (fun x h1 h2 => m_impl_Category_jointlyEpi x.1 x.2.1 x.2.2.1 h1 h2)
def epiR (c : CategoryD) (f : Int) : Bool := jepiR c (c.2.2.1.getD f.toNat 0) [f]

def c_impl_Category_isEpi : Ct := ⟨[(.pt CategoryT), (.int .i64)], [false, false], fun x => [ShapeP x.1, 0 ≤ x.2.1, x.2.1 < x.1.2.1.length], [(false, (.fz .bool))], fun x => (epiR x.1 x.2.1, ()), false, none⟩
def W_impl_Category_isEpi (c : CategoryD) (f : Int) (K : Bool × Unit → Prop) : Prop := (((0 : Int) ≤ f) ∧ ((f < (((List.length c.2.2.1) : Nat) : Int)) ∧ ((ShapeP c) ∧ (((withinR (f :: ([] : List Int)) (((List.length c.2.1) : Nat) : Int)) = Bool.true) ∧ (K ((jepiR c (List.getD c.2.2.1 (Int.toNat f) (0 : Int)) (f :: ([] : List Int))), ()))))))
theorem w_impl_Category_isEpi (x : denL c_impl_Category_isEpi.args) (K : Bool × Unit → Prop) : evF tab (lkp [(72, c_impl_Category_jointlyEpi)]) (cutL []) Try.f46 (bodyOf Try.f46) .n c_impl_Category_isEpi x K = W_impl_Category_isEpi x.1 x.2.1 K := by kernel_rfl
theorem k_impl_Category_isEpi : okC Try.f46.ntmps (cutL []) (bodyOf Try.f46) = true := by kernel_rfl
theorem m_impl_Category_isEpi (c : CategoryD) (f : Int) (hok : allP (okL c_impl_Category_isEpi.args (c, f, ()))) (hpre : allP (c_impl_Category_isEpi.pre (c, f, ()))) : W_impl_Category_isEpi c f (fun r => r = c_impl_Category_isEpi.res (c, f, ())) := by
  simp only [c_impl_Category_isEpi, okL, T.oks, T.ok, ap, allP, true_and, and_true, implies_true] at hok hpre
  try dsimp only [T.den] at hok
  try dsimp only [T.den] at hpre
  unfold W_impl_Category_isEpi
  obtain ⟨S, f0, f1⟩ := hpre
  have hlt := S.lt
  have hw : withinR [f] c.2.1.length = true := by simp only [withinR, List.all_cons, List.all_nil, Bool.and_true, inR_iff]; omega
  exact ⟨f0, by omega, S, hw, rfl⟩
theorem ct_impl_Category_isEpi : CtOk Try.prog 46 c_impl_Category_isEpi :=
  ct_by (Φ := lkp [(72, c_impl_Category_jointlyEpi)]) (good_cons ct_impl_Category_jointlyEpi good_nil) tab_ok (by kernel_rfl) (fn := Try.f46) (c := bodyOf Try.f46) (by kernel_rfl) (by kernel_rfl) (by kernel_rfl) c_impl_Category_isEpi rfl .n (cutL []) (by kernel_rfl) (by kernel_rfl) k_impl_Category_isEpi (by decide) (fun x K => W_impl_Category_isEpi x.1 x.2.1 K) w_impl_Category_isEpi (fun x h1 h2 => m_impl_Category_isEpi x.1 x.2.1 h1 h2)
def c_spec_l01Own : Ct := ⟨[(.sl (.int .i64))], [false], fun x => [x.1.length ≤ 1099511627776], [(false, (.sl (.fz (.int .i64))))], fun x => (x.1, ()), false, none⟩
def W_spec_l01Own (list : List Int) (K : (List Int) × Unit → Prop) : Prop := ((room 0 (List.length list) 8) ∧ (K (list, ())))
theorem w_spec_l01Own (x : denL c_spec_l01Own.args) (K : (List Int) × Unit → Prop) : evF tab (lkp []) (cutL []) Try.f70 (bodyOf Try.f70) .n c_spec_l01Own x K = W_spec_l01Own x.1 K := by kernel_rfl
theorem k_spec_l01Own : okC Try.f70.ntmps (cutL []) (bodyOf Try.f70) = true := by kernel_rfl
theorem m_spec_l01Own (list : List Int) (hok : allP (okL c_spec_l01Own.args (list, ()))) (hpre : allP (c_spec_l01Own.pre (list, ()))) : W_spec_l01Own list (fun r => r = c_spec_l01Own.res (list, ())) := by
  simp only [c_spec_l01Own, okL, T.oks, T.ok, ap, allP, true_and, and_true, implies_true] at hok hpre
  try dsimp only [T.den] at hok
  try dsimp only [T.den] at hpre
  unfold W_spec_l01Own
  have hl : list.length ≤ 1099511627776 := hpre
  exact ⟨room_of (by omega), rfl⟩
theorem ct_spec_l01Own : CtOk Try.prog 70 c_spec_l01Own :=
  ct_by (Φ := lkp []) good_nil tab_ok (by kernel_rfl) (fn := Try.f70) (c := bodyOf Try.f70) (by kernel_rfl) (by kernel_rfl) (by kernel_rfl) c_spec_l01Own rfl .n (cutL []) (by kernel_rfl) (by kernel_rfl) k_spec_l01Own (by decide) (fun x K => W_spec_l01Own x.1 K) w_spec_l01Own (fun x h1 h2 => m_spec_l01Own x.1 h1 h2)
def belSR (c : CategoryD) (m n : Int) : Bool := anyB c.2.1.length fun k => c.2.1.getD k.toNat 0 == c.2.1.getD m.toNat 0 && c.2.2.1.getD k.toNat 0 == c.2.1.getD n.toNat 0 && compR c k n == m

def c_spec_l05Below : Ct := ⟨[CategoryT, (.int .i64), (.int .i64)], [true, false, false], fun x => [ShapeP x.1, 0 ≤ x.2.1, x.2.1 < x.1.2.1.length, 0 ≤ x.2.2.1, x.2.2.1 < x.1.2.1.length], [(false, (.fz .bool))], fun x => (belSR x.1 x.2.1 x.2.2.1, ()), false, none⟩
def W_spec_l05Below (c : CategoryD) (m : Int) (n : Int) (K : Bool × Unit → Prop) : Prop := (loopW (S := ((Int × Unit) × Unit)) (fun s => (fun next => ((inK IntKind.i64 s.1.1) → (cnd (decide (s.1.1 < (((List.length c.2.1) : Nat) : Int))) (((0 : Int) ≤ s.1.1) ∧ ((s.1.1 < (((List.length c.2.1) : Nat) : Int)) ∧ (((0 : Int) ≤ m) ∧ ((m < (((List.length c.2.1) : Nat) : Int)) ∧ (((((List.getD c.2.1 (Int.toNat s.1.1) (0 : Int)) == (List.getD c.2.1 (Int.toNat m) (0 : Int))) = Bool.true) → ((s.1.1 < (((List.length c.2.2.1) : Nat) : Int)) ∧ ((0 : Int) ≤ s.1.1))) ∧ (((((List.getD c.2.1 (Int.toNat s.1.1) (0 : Int)) == (List.getD c.2.1 (Int.toNat m) (0 : Int))) = Bool.true) → ((n < (((List.length c.2.1) : Nat) : Int)) ∧ ((0 : Int) ≤ n))) ∧ ((((((List.getD c.2.1 (Int.toNat s.1.1) (0 : Int)) == (List.getD c.2.1 (Int.toNat m) (0 : Int))) && ((List.getD c.2.2.1 (Int.toNat s.1.1) (0 : Int)) == (List.getD c.2.1 (Int.toNat n) (0 : Int)))) = Bool.true) → ((s.1.1 < (((List.length c.2.2.2.2) : Nat) : Int)) ∧ ((0 : Int) ≤ s.1.1))) ∧ ((((((List.getD c.2.1 (Int.toNat s.1.1) (0 : Int)) == (List.getD c.2.1 (Int.toNat m) (0 : Int))) && ((List.getD c.2.2.1 (Int.toNat s.1.1) (0 : Int)) == (List.getD c.2.1 (Int.toNat n) (0 : Int)))) = Bool.true) → ((n < (((List.length (List.getD c.2.2.2.2 (Int.toNat s.1.1) ([] : List Int))) : Nat) : Int)) ∧ ((0 : Int) ≤ n))) ∧ (cnd ((((List.getD c.2.1 (Int.toNat s.1.1) (0 : Int)) == (List.getD c.2.1 (Int.toNat m) (0 : Int))) && ((List.getD c.2.2.1 (Int.toNat s.1.1) (0 : Int)) == (List.getD c.2.1 (Int.toNat n) (0 : Int)))) && ((List.getD (List.getD c.2.2.2.2 (Int.toNat s.1.1) ([] : List Int)) (Int.toNat n) (0 : Int)) == m)) (K (Bool.true, ())) ((inK IntKind.i64 (s.1.1 + (1 : Int))) ∧ (next (((s.1.1 + (1 : Int)), ()), ())))))))))))) (K (Bool.false, ())))))) (((0 : Int), ()), ()))
theorem w_spec_l05Below (x : denL c_spec_l05Below.args) (K : Bool × Unit → Prop) : evF tab (lkp []) (cutL [(4, 34)]) Try.f71 (bodyOf Try.f71) (.s .n (.s (.s .n (.l [(7, (.d (.int .i64)))] [] [1, 2, 3] .n)) .n)) c_spec_l05Below x K = W_spec_l05Below x.1 x.2.1 x.2.2.1 K := by kernel_rfl
theorem k_spec_l05Below : okC Try.f71.ntmps (cutL [(4, 34)]) (bodyOf Try.f71) = true := by kernel_rfl
theorem m_spec_l05Below (c : CategoryD) (m : Int) (n : Int) (hok : allP (okL c_spec_l05Below.args (c, m, n, ()))) (hpre : allP (c_spec_l05Below.pre (c, m, n, ()))) : W_spec_l05Below c m n (fun r => r = c_spec_l05Below.res (c, m, n, ())) := by
  simp only [c_spec_l05Below, okL, T.oks, T.ok, ap, allP, true_and, and_true, implies_true] at hok hpre
  try dsimp only [T.den] at hok
  try dsimp only [T.den] at hpre
  unfold W_spec_l05Below
  obtain ⟨S, m0, m1, n0, n1⟩ := hpre
  have hlt := S.lt
  have hlc := S.lc
  have hmm := S.m
  have res : ∀ b, belSR c m n = b → (b, ()) = c_spec_l05Below.res (c, m, n, ()) := fun b h => by simp only [c_spec_l05Below, h]
  refine loop_ix (n := c.2.1.length) (fun i => ∀ k : Int, 0 ≤ k → k < i → (c.2.1.getD k.toNat 0 == c.2.1.getD m.toNat 0 && c.2.2.1.getD k.toNat 0 == c.2.1.getD n.toNat 0 && compR c k n == m) = false) (by omega) (by intro y h0 h1; omega) ?_ ?_
  · intro k next k0 k1 hP hn hin
    try dsimp only
    have hr := S.row k k0 k1
    refine cnd_d (fun _ => ⟨k0, k1, m0, m1, fun _ => ⟨by omega, k0⟩, fun _ => ⟨n1, n0⟩, fun _ => ⟨by omega, k0⟩, fun _ => ⟨by omega, n0⟩, cnd_of (fun hx => res _ ?_) (fun hx => ⟨by rw [inK64]; (try dsimp only); omega, hn fun y y0 y1 => ?_⟩)⟩) (fun h => absurd k1 h)
    · exact anyB_iff.2 ⟨k, k0, k1, hx⟩
    · by_cases e : y = k
      · subst e; exact hx
      · exact hP y y0 (by omega)
  · intro next hP hin
    try dsimp only
    refine cnd_d (fun h => absurd h (Int.lt_irrefl _)) (fun _ => res _ ?_)
    unfold belSR
    cases hb : anyB c.2.1.length _ with
    | false => rfl
    | true =>
      obtain ⟨k, k0, k1, h⟩ := anyB_iff.1 hb
      rw [hP k k0 k1] at h; cases h
theorem ct_spec_l05Below : CtOk Try.prog 71 c_spec_l05Below :=
  ct_by (Φ := lkp []) good_nil tab_ok (by kernel_rfl) (fn := Try.f71) (c := bodyOf Try.f71) (by kernel_rfl) (by kernel_rfl) (by kernel_rfl) c_spec_l05Below rfl (.s .n (.s (.s .n (.l [(7, (.d (.int .i64)))] [] [1, 2, 3] .n)) .n)) (cutL [(4, 34)]) (by kernel_rfl) (by kernel_rfl) k_spec_l05Below (by decide) (fun x K => W_spec_l05Below x.1 x.2.1 x.2.2.1 K) w_spec_l05Below (fun x h1 h2 => m_spec_l05Below x.1 x.2.1 x.2.2.1 h1 h2)
def monoI (c : CategoryD) (f g h : Int) : Bool := !(c.2.1.getD g.toNat 0 == c.2.1.getD h.toNat 0 && c.2.2.1.getD g.toNat 0 == c.2.1.getD f.toNat 0 && c.2.2.1.getD h.toNat 0 == c.2.1.getD f.toNat 0 && compR c g f == compR c h f)
def monoR (c : CategoryD) (f : Int) : Bool := allB c.2.1.length fun g => allB c.2.1.length fun h => decide (h ≤ g) || monoI c f g h

def c_spec_l05Mono : Ct := ⟨[CategoryT, (.int .i64)], [true, false], fun x => [ShapeP x.1, 0 ≤ x.2.1, x.2.1 < x.1.2.1.length], [(false, (.fz .bool))], fun x => (monoR x.1 x.2.1, ()), false, none⟩
def W_spec_l05Mono (c : CategoryD) (f : Int) (K : Bool × Unit → Prop) : Prop := (loopW (S := ((Int × Unit) × Unit)) (fun s => (fun next => ((inK IntKind.i64 s.1.1) → (cnd (decide (s.1.1 < (((List.length c.2.1) : Nat) : Int))) ((inK IntKind.i64 (s.1.1 + (1 : Int))) ∧ (loopW (S := ((Int × Unit) × Unit)) (fun s1 => (fun next1 => ((inK IntKind.i64 s1.1.1) → (cnd (decide (s1.1.1 < (((List.length c.2.1) : Nat) : Int))) (((0 : Int) ≤ s.1.1) ∧ ((s.1.1 < (((List.length c.2.1) : Nat) : Int)) ∧ (((0 : Int) ≤ s1.1.1) ∧ ((s1.1.1 < (((List.length c.2.1) : Nat) : Int)) ∧ (((((List.getD c.2.1 (Int.toNat s.1.1) (0 : Int)) == (List.getD c.2.1 (Int.toNat s1.1.1) (0 : Int))) = Bool.true) → ((s.1.1 < (((List.length c.2.2.1) : Nat) : Int)) ∧ ((0 : Int) ≤ s.1.1))) ∧ (((((List.getD c.2.1 (Int.toNat s.1.1) (0 : Int)) == (List.getD c.2.1 (Int.toNat s1.1.1) (0 : Int))) = Bool.true) → ((f < (((List.length c.2.1) : Nat) : Int)) ∧ ((0 : Int) ≤ f))) ∧ ((((((List.getD c.2.1 (Int.toNat s.1.1) (0 : Int)) == (List.getD c.2.1 (Int.toNat s1.1.1) (0 : Int))) && ((List.getD c.2.2.1 (Int.toNat s.1.1) (0 : Int)) == (List.getD c.2.1 (Int.toNat f) (0 : Int)))) = Bool.true) → ((s1.1.1 < (((List.length c.2.2.1) : Nat) : Int)) ∧ ((0 : Int) ≤ s1.1.1))) ∧ ((((((List.getD c.2.1 (Int.toNat s.1.1) (0 : Int)) == (List.getD c.2.1 (Int.toNat s1.1.1) (0 : Int))) && ((List.getD c.2.2.1 (Int.toNat s.1.1) (0 : Int)) == (List.getD c.2.1 (Int.toNat f) (0 : Int)))) = Bool.true) → ((f < (((List.length c.2.1) : Nat) : Int)) ∧ ((0 : Int) ≤ f))) ∧ (((((((List.getD c.2.1 (Int.toNat s.1.1) (0 : Int)) == (List.getD c.2.1 (Int.toNat s1.1.1) (0 : Int))) && ((List.getD c.2.2.1 (Int.toNat s.1.1) (0 : Int)) == (List.getD c.2.1 (Int.toNat f) (0 : Int)))) && ((List.getD c.2.2.1 (Int.toNat s1.1.1) (0 : Int)) == (List.getD c.2.1 (Int.toNat f) (0 : Int)))) = Bool.true) → ((s.1.1 < (((List.length c.2.2.2.2) : Nat) : Int)) ∧ ((0 : Int) ≤ s.1.1))) ∧ (((((((List.getD c.2.1 (Int.toNat s.1.1) (0 : Int)) == (List.getD c.2.1 (Int.toNat s1.1.1) (0 : Int))) && ((List.getD c.2.2.1 (Int.toNat s.1.1) (0 : Int)) == (List.getD c.2.1 (Int.toNat f) (0 : Int)))) && ((List.getD c.2.2.1 (Int.toNat s1.1.1) (0 : Int)) == (List.getD c.2.1 (Int.toNat f) (0 : Int)))) = Bool.true) → ((f < (((List.length (List.getD c.2.2.2.2 (Int.toNat s.1.1) ([] : List Int))) : Nat) : Int)) ∧ ((0 : Int) ≤ f))) ∧ (((((((List.getD c.2.1 (Int.toNat s.1.1) (0 : Int)) == (List.getD c.2.1 (Int.toNat s1.1.1) (0 : Int))) && ((List.getD c.2.2.1 (Int.toNat s.1.1) (0 : Int)) == (List.getD c.2.1 (Int.toNat f) (0 : Int)))) && ((List.getD c.2.2.1 (Int.toNat s1.1.1) (0 : Int)) == (List.getD c.2.1 (Int.toNat f) (0 : Int)))) = Bool.true) → ((s1.1.1 < (((List.length c.2.2.2.2) : Nat) : Int)) ∧ ((0 : Int) ≤ s1.1.1))) ∧ (((((((List.getD c.2.1 (Int.toNat s.1.1) (0 : Int)) == (List.getD c.2.1 (Int.toNat s1.1.1) (0 : Int))) && ((List.getD c.2.2.1 (Int.toNat s.1.1) (0 : Int)) == (List.getD c.2.1 (Int.toNat f) (0 : Int)))) && ((List.getD c.2.2.1 (Int.toNat s1.1.1) (0 : Int)) == (List.getD c.2.1 (Int.toNat f) (0 : Int)))) = Bool.true) → ((f < (((List.length (List.getD c.2.2.2.2 (Int.toNat s1.1.1) ([] : List Int))) : Nat) : Int)) ∧ ((0 : Int) ≤ f))) ∧ (cnd (((((List.getD c.2.1 (Int.toNat s.1.1) (0 : Int)) == (List.getD c.2.1 (Int.toNat s1.1.1) (0 : Int))) && ((List.getD c.2.2.1 (Int.toNat s.1.1) (0 : Int)) == (List.getD c.2.1 (Int.toNat f) (0 : Int)))) && ((List.getD c.2.2.1 (Int.toNat s1.1.1) (0 : Int)) == (List.getD c.2.1 (Int.toNat f) (0 : Int)))) && ((List.getD (List.getD c.2.2.2.2 (Int.toNat s.1.1) ([] : List Int)) (Int.toNat f) (0 : Int)) == (List.getD (List.getD c.2.2.2.2 (Int.toNat s1.1.1) ([] : List Int)) (Int.toNat f) (0 : Int)))) (K (Bool.false, ())) ((inK IntKind.i64 (s1.1.1 + (1 : Int))) ∧ (next1 (((s1.1.1 + (1 : Int)), ()), ())))))))))))))))) ((inK IntKind.i64 (s.1.1 + (1 : Int))) ∧ (next (((s.1.1 + (1 : Int)), ()), ()))))))) (((s.1.1 + (1 : Int)), ()), ()))) (K (Bool.true, ())))))) (((0 : Int), ()), ()))
theorem w_spec_l05Mono (x : denL c_spec_l05Mono.args) (K : Bool × Unit → Prop) : evF tab (lkp []) (cutL [(7, 54)]) Try.f69 (bodyOf Try.f69) (.s .n (.s (.s .n (.l [(5, (.d (.int .i64)))] [] [1, 2] (.s .n (.s (.s .n (.l [(6, (.d (.int .i64)))] [] [1, 2, 5] .n)) .n)))) .n)) c_spec_l05Mono x K = W_spec_l05Mono x.1 x.2.1 K := by kernel_rfl
theorem k_spec_l05Mono : okC Try.f69.ntmps (cutL [(7, 54)]) (bodyOf Try.f69) = true := by kernel_rfl
theorem m_spec_l05Mono (c : CategoryD) (f : Int) (hok : allP (okL c_spec_l05Mono.args (c, f, ()))) (hpre : allP (c_spec_l05Mono.pre (c, f, ()))) : W_spec_l05Mono c f (fun r => r = c_spec_l05Mono.res (c, f, ())) := by
  simp only [c_spec_l05Mono, okL, T.oks, T.ok, ap, allP, true_and, and_true, implies_true] at hok hpre
  try dsimp only [T.den] at hok
  try dsimp only [T.den] at hpre
  unfold W_spec_l05Mono
  obtain ⟨S, f0, f1⟩ := hpre
  have hlt := S.lt
  have hlc := S.lc
  have hmm := S.m
  have res : ∀ b, monoR c f = b → (b, ()) = c_spec_l05Mono.res (c, f, ()) := fun b h => by simp only [c_spec_l05Mono, h]
  have hcr : ∀ a b : Int, (c.2.2.2.2.getD a.toNat []).getD b.toNat 0 = compR c a b := fun _ _ => rfl
  simp only [hcr]
  refine loop_ix (n := c.2.1.length) (fun i => ∀ g : Int, 0 ≤ g → g < i → ∀ h : Int, 0 ≤ h → h < c.2.1.length → (decide (h ≤ g) || monoI c f g h) = true) (by omega) (by intro y h0 h1; omega) ?_ ?_
  · intro g next g0 g1 hP hn hin
    try dsimp only
    have hg := S.row g g0 g1
    refine cnd_d (fun _ => ⟨by rw [inK64]; (try dsimp only); omega, ?_⟩) (fun h => absurd g1 h)
    refine loop_ix (n := c.2.1.length) (fun j => ∀ h : Int, g < h → h < j → monoI c f g h = true) (by omega) (by intro y h0 h1; omega) ?_ ?_
    · intro h next1 h0 h1 hP1 hn1 hin1
      try dsimp only
      have hh := S.row h (by omega) h1
      refine cnd_d (fun _ => ⟨g0, g1, by omega, h1, fun _ => ⟨by omega, g0⟩, fun _ => ⟨f1, f0⟩, fun _ => ⟨by omega, by omega⟩, fun _ => ⟨f1, f0⟩, fun _ => ⟨by omega, g0⟩, fun _ => ⟨by omega, f0⟩, fun _ => ⟨by omega, by omega⟩, fun _ => ⟨by omega, f0⟩, cnd_of (fun hx => res _ ?_) (fun hx => ⟨by rw [inK64]; (try dsimp only); omega, hn1 fun y y0 y1 => ?_⟩)⟩) (fun hc => absurd h1 hc)
      · cases hb : monoR c f with
        | false => rfl
        | true =>
          have := allB_iff.1 (allB_iff.1 hb g g0 g1) h (by omega) h1
          rw [decide_eq_false (by omega), Bool.false_or] at this
          unfold monoI at this
          rw [hx] at this; cases this
      · by_cases e : y = h
        · subst e; unfold monoI; rw [hx]; rfl
        · exact hP1 y y0 (by omega)
    · intro next1 hP1 hin1
      try dsimp only
      refine cnd_d (fun h => absurd h (Int.lt_irrefl _)) (fun _ => ⟨by rw [inK64]; (try dsimp only); omega, hn fun y y0 y1 h h0 h1 => ?_⟩)
      by_cases e : y = g
      · subst e
        by_cases e2 : h ≤ y
        · rw [decide_eq_true e2, Bool.true_or]
        · rw [hP1 h (by omega) h1, Bool.or_true]
      · exact hP y y0 (by omega) h h0 h1
  · intro next hP hin
    try dsimp only
    refine cnd_d (fun h => absurd h (Int.lt_irrefl _)) (fun _ => res _ ?_)
    exact allB_iff.2 fun g g0 g1 => allB_iff.2 fun h h0 h1 => hP g g0 g1 h h0 h1
theorem ct_spec_l05Mono : CtOk Try.prog 69 c_spec_l05Mono :=
  ct_by (Φ := lkp []) good_nil tab_ok (by kernel_rfl) (fn := Try.f69) (c := bodyOf Try.f69) (by kernel_rfl) (by kernel_rfl) (by kernel_rfl) c_spec_l05Mono rfl (.s .n (.s (.s .n (.l [(5, (.d (.int .i64)))] [] [1, 2] (.s .n (.s (.s .n (.l [(6, (.d (.int .i64)))] [] [1, 2, 5] .n)) .n)))) .n)) (cutL [(7, 54)]) (by kernel_rfl) (by kernel_rfl) k_spec_l05Mono (by decide) (fun x K => W_spec_l05Mono x.1 x.2.1 K) w_spec_l05Mono (fun x h1 h2 => m_spec_l05Mono x.1 x.2.1 h1 h2)
def mutSR (c : CategoryD) (m n : Int) : Bool := belSR c m n && belSR c n m
def updR (E : Int → Int → Bool) (m : Int) (l : List Int) : List Int := if E m (l.getD 0 0) = true then l ++ [m] else l
def clMapR (E : Int → Int → Bool) (m : Int) (out : List (List Int)) : List (List Int) := if (out.any fun l => E m (l.getD 0 0)) = true then out.map (updR E m) else out.map (updR E m) ++ [[m]]
theorem cl_map {E : Int → Int → Bool} {m : Int} : ∀ {out : List (List Int)}, (out.Pairwise fun a b => E m (a.getD 0 0) = true → E m (b.getD 0 0) = false) → clMapR E m out = clAddR E m out
  | [], _ => rfl
  | l :: r, h => by
    rw [List.pairwise_cons] at h
    unfold clMapR clAddR
    by_cases he : E m (l.getD 0 0) = true
    · have hr : r.map (updR E m) = r := by
        rw [List.map_congr_left (g := id) fun b hb => by unfold updR; rw [if_neg (by rw [h.1 b hb he]; simp)]; rfl, List.map_id]
      rw [if_pos he, List.any_cons, he, Bool.true_or, if_pos rfl, List.map_cons, hr]
      unfold updR; rw [if_pos he]
    · have ih := cl_map h.2
      unfold clMapR at ih
      rw [if_neg he, List.any_cons, show (E m (l.getD 0 0)) = false from by simpa using he, Bool.false_or, List.map_cons, ← ih]
      have hu : updR E m l = l := by unfold updR; rw [if_neg he]
      rw [hu]
      split <;> rfl
theorem clAdd_heads {E : Int → Int → Bool} {m : Int} : ∀ {out : List (List Int)}, (∀ l ∈ out, 0 < (l.length : Int)) → (clAddR E m out).map (·.getD 0 0) = if (out.any fun l => E m (l.getD 0 0)) = true then out.map (·.getD 0 0) else out.map (·.getD 0 0) ++ [m]
  | [], _ => rfl
  | l :: r, h => by
    unfold clAddR
    by_cases he : E m (l.getD 0 0) = true
    · rw [if_pos he, List.any_cons, he, Bool.true_or, if_pos rfl, List.map_cons, List.map_cons, head_app (h l (by simp))]
    · have ih := clAdd_heads (E := E) (m := m) (out := r) fun l hl => h l (by simp [hl])
      rw [if_neg he, List.any_cons, show (E m (l.getD 0 0)) = false from by simpa using he, Bool.false_or, List.map_cons, List.map_cons, ih]
      split <;> rfl
theorem cls_eq {E E' : Int → Int → Bool} {n : Nat} (hE : ∀ a b : Int, 0 ≤ a → a < n → 0 ≤ b → b < n → E' a b = E a b) (hs : ∀ a b, E a b = E b a)
    (ht : ∀ a b d : Int, 0 ≤ a → a < n → 0 ≤ b → b < n → 0 ≤ d → d < n → E a b = true → E b d = true → E a d = true) :
    ∀ {l : List Int} {out : List (List Int)} {k : Int}, ClsP n k out → 0 ≤ k → ((out.map (·.getD 0 0)).Pairwise fun a b => E a b = false) → (∀ m ∈ l, 0 ≤ m ∧ m < n) →
      l.foldl (fun out m => clMapR E' m out) out = l.foldl (fun out m => clAddR E m out) out
  | [], _, _, _, _, _, _ => rfl
  | m :: r, out, k, hc, h0, hp, hl => by
    obtain ⟨m0, m1⟩ := hl m (by simp)
    have e1 : clMapR E' m out = clMapR E m out := by
      unfold clMapR
      have ha : (out.any fun l => E' m (l.getD 0 0)) = out.any fun l => E m (l.getD 0 0) := by
        rw [Bool.eq_iff_iff, List.any_eq_true, List.any_eq_true]
        constructor
        · rintro ⟨x, hx, h⟩; have := hc.cl x hx; exact ⟨x, hx, by rw [← hE m _ m0 m1 this.2.2.1 this.2.2.2]; exact h⟩
        · rintro ⟨x, hx, h⟩; have := hc.cl x hx; exact ⟨x, hx, by rw [hE m _ m0 m1 this.2.2.1 this.2.2.2]; exact h⟩
      have hm : out.map (updR E' m) = out.map (updR E m) := List.map_congr_left fun x hx => by
        have := hc.cl x hx; unfold updR; rw [hE m _ m0 m1 this.2.2.1 this.2.2.2]
      rw [ha, hm]
    have hp' := List.pairwise_map.1 hp
    have e2 : clMapR E m out = clAddR E m out := cl_map (by
      refine List.Pairwise.imp_of_mem ?_ hp'
      intro a b ha hb hab h1
      have a1 := hc.cl a ha
      have b1 := hc.cl b hb
      cases h2 : E m (b.getD 0 0) with
      | false => rfl
      | true =>
        have := ht _ _ _ a1.2.2.1 a1.2.2.2 m0 m1 b1.2.2.1 b1.2.2.2 (by rw [hs]; exact h1) h2
        rw [hab] at this; cases this)
    rw [List.foldl_cons, List.foldl_cons, e1, e2]
    refine cls_eq hE hs ht (hc.add (E := E) h0 m0 m1) (by omega) ?_ (fun x hx => hl x (by simp [hx]))
    rw [clAdd_heads fun x hx => (hc.cl x hx).1]
    split
    · exact hp
    · rename_i hany
      rw [List.pairwise_append]
      refine ⟨hp, by simp, fun a ha b hb => ?_⟩
      obtain ⟨x, hx, rfl⟩ := List.mem_map.1 ha
      rw [List.mem_singleton] at hb
      subst hb
      have : ¬ ∃ l, l ∈ out ∧ E b (l.getD 0 0) = true := fun h => hany (List.any_eq_true.2 h)
      rw [hs]
      cases h2 : E b (x.getD 0 0) with
      | false => rfl
      | true => exact absurd ⟨x, hx, h2⟩ this
theorem upd_p {E : Int → Int → Bool} {n : Nat} {k m : Int} {out : List (List Int)} (h : ClsP n k out) (k0 : 0 ≤ k) {l : List Int} (hl : l ∈ out.map (updR E m)) : 0 < (l.length : Int) ∧ (l.length : Int) ≤ k + 1 ∧ 0 ≤ l.getD 0 0 ∧ l.getD 0 0 < n := by
  obtain ⟨r, hr, rfl⟩ := List.mem_map.1 hl
  have := h.cl r hr
  unfold updR
  split
  · rw [head_app this.1]; simp only [List.length_append, List.length_cons, List.length_nil]; omega
  · omega
theorem ClsP.map {E : Int → Int → Bool} {n : Nat} {k m : Int} {out : List (List Int)} (h : ClsP n k out) (k0 : 0 ≤ k) (m0 : 0 ≤ m) (m1 : m < n) : ClsP n (k + 1) (clMapR E m out) := by
  have hl := h.len
  unfold clMapR
  split
  · exact ⟨by rw [List.length_map]; omega, fun l hl => upd_p h k0 hl⟩
  · refine ⟨by rw [List.length_append, List.length_map]; simp only [List.length_cons, List.length_nil]; omega, fun l hl => ?_⟩
    rcases List.mem_append.1 hl with hl | hl
    · exact upd_p h k0 hl
    · rw [List.mem_singleton] at hl; subst hl; exact ⟨by simp, by simp; omega, m0, m1⟩
def sobP (c : CategoryD) (x m : Int) : Bool := c.2.2.1.getD m.toNat 0 == x && monoR c m
def sobT (c : CategoryD) (x i : Int) : List (List Int) := (selR i.toNat (sobP c x)).foldl (fun out m => clMapR (mutSR c) m out) []
def subobR (c : CategoryD) (x : Int) : List (List Int) := (selR c.2.1.length fun m => c.2.2.1.getD m.toNat 0 == x && monoR c m).foldl (fun out m => clMapR (mutSR c) m out) []
theorem sobT_n (c : CategoryD) (x : Int) : sobT c x c.2.1.length = subobR c x := by
  unfold sobT; rw [Int.toNat_natCast]; rfl
theorem sobT_t {c : CategoryD} {x i : Int} (h0 : 0 ≤ i) (h : sobP c x i = true) : sobT c x (i + 1) = clMapR (mutSR c) i (sobT c x i) := by
  unfold sobT; rw [sel_t h0 h, List.foldl_append]; rfl
theorem sobT_f {c : CategoryD} {x i : Int} (h0 : 0 ≤ i) (h : sobP c x i = false) : sobT c x (i + 1) = sobT c x i := by
  unfold sobT; rw [sel_f h0 h]
theorem sobT_pn (c : CategoryD) (x : Int) : ∀ i : Nat, i ≤ c.2.1.length → ClsP c.2.1.length i (sobT c x i)
  | 0, _ => ⟨by simp [sobT, selR], by simp [sobT, selR]⟩
  | i + 1, h => by
    have ih := sobT_pn c x i (by omega)
    rw [show ((i + 1 : Nat) : Int) = (i : Int) + 1 from by omega]
    cases hp : sobP c x i with
    | true => rw [sobT_t (by omega) hp]; exact ih.map (by omega) (by omega) (by omega)
    | false => rw [sobT_f (by omega) hp]; exact ⟨by have := ih.len; omega, fun l hl => by have := ih.cl l hl; omega⟩
theorem sobT_p (c : CategoryD) (x : Int) {i : Int} (h0 : 0 ≤ i) (h1 : i ≤ c.2.1.length) : ClsP c.2.1.length i (sobT c x i) := by
  have := sobT_pn c x i.toNat (by omega)
  rw [show ((i.toNat : Nat) : Int) = i from by omega] at this; exact this
theorem objCode_cat {c : CategoryD} {l : List Int} (h : objCodeR c l = 0) : catR c = true := by
  unfold objCodeR at h
  split at h
  · assumption
  · cases h
theorem out_at {c : CategoryD} {x i : Int} (h0 : 0 ≤ i) (h1 : i < (outR c x).length) : 0 ≤ (outR c x).getD i.toNat 0 ∧ (outR c x).getD i.toNat 0 < c.2.1.length := by
  have h := getD_mem (outR c x) 0 h0 h1
  generalize (outR c x).getD i.toNat 0 = v at h
  unfold outR at h
  rw [sel_mem] at h
  exact ⟨h.1, h.2.1⟩
theorem epis_within (c : CategoryD) (x : Int) : withinR ((outR c x).filter (epiR c)) c.2.1.length = true := by
  refine within_iff.2 fun i h0 h1 => ?_
  have h := (List.mem_filter.1 (getD_mem ((outR c x).filter (epiR c)) 0 h0 h1)).1
  generalize ((outR c x).filter (epiR c)).getD i.toNat 0 = v at h
  unfold outR at h
  rw [sel_mem] at h
  exact ⟨h.1, h.2.1⟩
def quotR (c : CategoryD) (x : Int) : List (List Int) × Int := if objCodeR c [x] = 0 then (classR (mutR c) ((outR c x).filter (epiR c)), 0) else ([], objCodeR c [x])

def c_spec_l05Subobjects : Ct := ⟨[CategoryT, (.int .i64)], [true, false], fun x => [ShapeP x.1], [(false, (.sl (.sl (.fz (.int .i64)))))], fun x => (subobR x.1 x.2.1, ()), false, none⟩
def W_spec_l05Subobjects (c : CategoryD) (x : Int) (K : (List (List Int)) × Unit → Prop) : Prop := (loopW (S := ((Unit × (Int × Unit)) × ((List (List Int)) × Unit))) (fun s => (fun next => ((inK IntKind.i64 s.1.2.1) → ((T.ok (T.sl (T.sl (T.int IntKind.i64))) s.2.1) → (cnd (decide (s.1.2.1 < (((List.length c.2.1) : Nat) : Int))) (joinW (S := ((Unit × Unit) × ((List (List Int)) × Unit))) (fun s1 => ((T.ok (T.sl (T.sl (T.int IntKind.i64))) s1.2.1) → ((inK IntKind.i64 (s.1.2.1 + (1 : Int))) ∧ (next (((), ((s.1.2.1 + (1 : Int)), ())), (s1.2.1, ())))))) (fun k => (((0 : Int) ≤ s.1.2.1) ∧ ((s.1.2.1 < (((List.length c.2.2.1) : Nat) : Int)) ∧ (((((List.getD c.2.2.1 (Int.toNat s.1.2.1) (0 : Int)) != x) = Bool.false) → (((0 : Int) ≤ s.1.2.1) ∧ ((s.1.2.1 < (((List.length c.2.1) : Nat) : Int)) ∧ (ShapeP c)))) ∧ (cnd (((List.getD c.2.2.1 (Int.toNat s.1.2.1) (0 : Int)) != x) || (!(monoR c s.1.2.1))) (k (((), ()), (s.2.1, ()))) (loopW (S := ((Unit × (Bool × (Int × Unit))) × ((List (List Int)) × Unit))) (fun s1 => (fun next1 => ((inK IntKind.i64 s1.1.2.2.1) → ((T.ok (T.sl (T.sl (T.int IntKind.i64))) s1.2.1) → (cnd (decide (s1.1.2.2.1 < (((List.length s.2.1) : Nat) : Int))) (((0 : Int) ≤ s1.1.2.2.1) ∧ ((s1.1.2.2.1 < (((List.length s.2.1) : Nat) : Int)) ∧ (((List.length (List.getD s.2.1 (Int.toNat s1.1.2.2.1) ([] : List Int))) ≤ 1099511627776) ∧ (((0 : Int) ≤ (0 : Int)) ∧ (((0 : Int) < (((List.length (List.getD s.2.1 (Int.toNat s1.1.2.2.1) ([] : List Int))) : Nat) : Int)) ∧ ((ShapeP c) ∧ (((0 : Int) ≤ s.1.2.1) ∧ ((s.1.2.1 < (((List.length c.2.1) : Nat) : Int)) ∧ (((0 : Int) ≤ (List.getD (List.getD s.2.1 (Int.toNat s1.1.2.2.1) ([] : List Int)) (Int.toNat (0 : Int)) (0 : Int))) ∧ (((List.getD (List.getD s.2.1 (Int.toNat s1.1.2.2.1) ([] : List Int)) (Int.toNat (0 : Int)) (0 : Int)) < (((List.length c.2.1) : Nat) : Int)) ∧ ((((belSR c s.1.2.1 (List.getD (List.getD s.2.1 (Int.toNat s1.1.2.2.1) ([] : List Int)) (Int.toNat (0 : Int)) (0 : Int))) = Bool.true) → (((0 : Int) < (((List.length (List.getD s.2.1 (Int.toNat s1.1.2.2.1) ([] : List Int))) : Nat) : Int)) ∧ ((0 : Int) ≤ (0 : Int)))) ∧ ((((belSR c s.1.2.1 (List.getD (List.getD s.2.1 (Int.toNat s1.1.2.2.1) ([] : List Int)) (Int.toNat (0 : Int)) (0 : Int))) = Bool.true) → (((0 : Int) ≤ (List.getD (List.getD s.2.1 (Int.toNat s1.1.2.2.1) ([] : List Int)) (Int.toNat (0 : Int)) (0 : Int))) ∧ (((List.getD (List.getD s.2.1 (Int.toNat s1.1.2.2.1) ([] : List Int)) (Int.toNat (0 : Int)) (0 : Int)) < (((List.length c.2.1) : Nat) : Int)) ∧ (((0 : Int) ≤ s.1.2.1) ∧ ((s.1.2.1 < (((List.length c.2.1) : Nat) : Int)) ∧ (ShapeP c)))))) ∧ (joinW (S := ((Unit × (Bool × (Unit × Unit))) × ((List (List Int)) × ((List Int) × Unit)))) (fun s2 => ((T.ok (T.sl (T.sl (T.int IntKind.i64))) s2.2.1) → ((T.ok (T.sl (T.int IntKind.i64)) s2.2.2.1) → ((room (List.length s2.2.1) (List.length (s2.2.2.1 :: ([] : List (List Int)))) 24) ∧ ((inK IntKind.i64 (s1.1.2.2.1 + (1 : Int))) ∧ (next1 (((), (s2.1.2.1, ((s1.1.2.2.1 + (1 : Int)), ()))), ((s2.2.1 ++ (s2.2.2.1 :: ([] : List (List Int)))), ())))))))) (fun k1 => (cnd ((belSR c s.1.2.1 (List.getD (List.getD s.2.1 (Int.toNat s1.1.2.2.1) ([] : List Int)) (Int.toNat (0 : Int)) (0 : Int))) && (belSR c (List.getD (List.getD s.2.1 (Int.toNat s1.1.2.2.1) ([] : List Int)) (Int.toNat (0 : Int)) (0 : Int)) s.1.2.1)) ((room (List.length (List.getD s.2.1 (Int.toNat s1.1.2.2.1) ([] : List Int))) (List.length (s.1.2.1 :: ([] : List Int))) 8) ∧ (k1 (((), (Bool.true, ((), ()))), (s1.2.1, (((List.getD s.2.1 (Int.toNat s1.1.2.2.1) ([] : List Int)) ++ (s.1.2.1 :: ([] : List Int))), ()))))) (k1 (((), (s1.1.2.1, ((), ()))), (s1.2.1, ((List.getD s.2.1 (Int.toNat s1.1.2.2.1) ([] : List Int)), ()))))))))))))))))))) (joinW (S := ((Unit × Unit) × ((List (List Int)) × Unit))) (fun s2 => ((T.ok (T.sl (T.sl (T.int IntKind.i64))) s2.2.1) → (k (((), ()), (s2.2.1, ()))))) (fun k1 => (cnd (!s1.1.2.1) ((room (List.length s1.2.1) (List.length ((s.1.2.1 :: ([] : List Int)) :: ([] : List (List Int)))) 24) ∧ (k1 (((), ()), ((s1.2.1 ++ ((s.1.2.1 :: ([] : List Int)) :: ([] : List (List Int)))), ())))) (k1 (((), ()), (s1.2.1, ()))))))))))) (((), (Bool.false, ((0 : Int), ()))), (([] : List (List Int)), ()))))))))) (K (s.2.1, ()))))))) (((), ((0 : Int), ())), (([] : List (List Int)), ())))
theorem w_spec_l05Subobjects (x : denL c_spec_l05Subobjects.args) (K : (List (List Int)) × Unit → Prop) : evF tab (lkp [(70, c_spec_l01Own), (71, c_spec_l05Below), (69, c_spec_l05Mono)]) (cutL [(11, 12)]) Try.f42 (bodyOf Try.f42) (.s .n (.s .n (.s (.s .n (.l [(5, (.ref 800005 [])), (6, (.d (.int .i64)))] [(800005, (.sl (.sl (.fz (.int .i64)))))] [1, 2] (.s .n (.s (.j [(5, (.ref 800005 []))] [(800005, (.sl (.sl (.fz (.int .i64)))))] [1, 2, 6] (.s .n (.s .n (.s (.s .n (.l [(7, (.ref 800007 [])), (8, (.d .bool)), (9, (.d (.int .i64)))] [(800007, (.sl (.sl (.fz (.int .i64)))))] [1, 2, 5, 6] (.s .n (.s (.s .n (.s (.s .n (.j [(7, (.ref 800007 [])), (8, (.d .bool)), (10, (.ref 104300 []))] [(800007, (.sl (.sl (.fz (.int .i64))))), (104300, (.sl (.fz (.int .i64))))] [1, 2, 5, 6, 9] .n)) .n)) .n)))) (.s (.s .n (.j [(7, (.ref 800007 []))] [(800007, (.sl (.sl (.fz (.int .i64)))))] [1, 2, 6] .n)) .n))))) .n)))) .n))) c_spec_l05Subobjects x K = W_spec_l05Subobjects x.1 x.2.1 K := by kernel_rfl
theorem k_spec_l05Subobjects : okC Try.f42.ntmps (cutL [(11, 12)]) (bodyOf Try.f42) = true := by kernel_rfl
theorem m_spec_l05Subobjects (c : CategoryD) (x : Int) (hok : allP (okL c_spec_l05Subobjects.args (c, x, ()))) (hpre : allP (c_spec_l05Subobjects.pre (c, x, ()))) : W_spec_l05Subobjects c x (fun r => r = c_spec_l05Subobjects.res (c, x, ())) := by
  simp only [c_spec_l05Subobjects, okL, T.oks, T.ok, ap, allP, true_and, and_true, implies_true] at hok hpre
  try dsimp only [T.den] at hok
  try dsimp only [T.den] at hpre
  unfold W_spec_l05Subobjects
  have S : ShapeP c := hpre
  have hlt := S.lt
  have hmm := S.m
  clear hok
  refine loop_ixa (fun i => sobT c x i) (n := c.2.1.length) (by omega) rfl ?_ ?_
  · intro i next i0 i1 hn hin hok1
    try dsimp only
    have hp := sobT_p c x i0 (by omega)
    have ht := @sobT_t c x i i0
    have hf := @sobT_f c x i i0
    generalize sobT c x i = out at *
    generalize sobT c x (i + 1) = out1 at *
    clear hok1
    have hol := hp.len
    refine cnd_d (fun _ => join_of (fun s1 => s1.2.1 = out1) (fun s1 hs _ => ⟨by rw [inK64]; (try dsimp only); omega, by rw [hs]; exact hn⟩) (fun k hk => ⟨i0, by omega, fun _ => ⟨i0, i1, S⟩, cnd_of (fun hx => hk _ ?_) (fun hx => ?_)⟩)) (fun h => absurd i1 h)
    · refine (hf ?_).symm
      unfold sobP
      exact (by decide : ∀ a b : Bool, (!a || !b) = true → (a && b) = false) _ _ hx
    have ht' := ht (by unfold sobP; exact (by decide : ∀ a b : Bool, (!a || !b) = false → (a && b) = true) _ _ hx)
    refine loop_of (fun (s : ((Unit × (Bool × (Int × Unit))) × ((List (List Int)) × Unit))) => 0 ≤ s.1.2.2.1 ∧ s.1.2.2.1 ≤ out.length ∧ s.1.2.1 = ((out.take s.1.2.2.1.toNat).any fun l => mutSR c i (l.getD 0 0)) ∧ s.2.1 = (out.take s.1.2.2.1.toNat).map (updR (mutSR c) i)) (fun (s : ((Unit × (Bool × (Int × Unit))) × ((List (List Int)) × Unit))) => (out.length - s.1.2.2.1).toNat) ?_ ⟨by simp, by simp, rfl, rfl⟩
    rintro ⟨⟨_, b, j, _⟩, nx, _⟩ next1 ⟨j0, j1, hb, hx2⟩ hn1 hin1 _
    try dsimp only at j0 j1 hb hx2 hn1 ⊢
    subst hb; subst hx2
    refine cnd_d (fun hj => ?_) (fun hj => ?_)
    · have hc := hp.cl _ (getD_mem out [] j0 hj)
      have hu : (out.take (j + 1).toNat).map (updR (mutSR c) i) = (out.take j.toNat).map (updR (mutSR c) i) ++ [updR (mutSR c) i (out.getD j.toNat [])] := by rw [take_c out [] j0 hj, List.map_append]; rfl
      have ha := @any_take (List Int) (fun l => mutSR c i (l.getD 0 0)) out [] j j0 hj
      have hl : ((out.take j.toNat).map (updR (mutSR c) i)).length ≤ 40 := by rw [List.length_map, List.length_take]; omega
      have hm : mutSR c i ((out.getD j.toNat []).getD 0 0) = (belSR c i ((out.getD j.toNat []).getD 0 0) && belSR c ((out.getD j.toNat []).getD 0 0) i) := rfl
      have hup : updR (mutSR c) i (out.getD j.toNat []) = if mutSR c i ((out.getD j.toNat []).getD 0 0) = true then out.getD j.toNat [] ++ [i] else out.getD j.toNat [] := rfl
      generalize out.getD j.toNat [] = row at *
      refine ⟨j0, hj, by omega, Int.le_refl _, by omega, S, i0, i1, hc.2.2.1, hc.2.2.2, fun _ => ⟨by omega, Int.le_refl _⟩, fun _ => ⟨hc.2.2.1, hc.2.2.2, i0, i1, S⟩, join_of (fun s2 => s2.1.2.1 = ((out.take (j + 1).toNat).any fun l => mutSR c i (l.getD 0 0)) ∧ s2.2.1 = (out.take j.toNat).map (updR (mutSR c) i) ∧ s2.2.2.1 = updR (mutSR c) i row) (fun s2 ⟨q0, q1, q2⟩ _ _ => ⟨?_, by rw [inK64]; (try dsimp only); omega, hn1 _ ⟨(by first | omega | (dsimp only; omega)), (by first | omega | (dsimp only; omega)), q0, ?_⟩ (by first | omega | (dsimp only; omega))⟩) (fun k1 hk1 => cnd_of (fun hy => ⟨room_of (by simp only [List.length_cons, List.length_nil]; omega), hk1 _ ⟨?_, rfl, ?_⟩⟩) (fun hy => hk1 _ ⟨?_, rfl, ?_⟩))⟩
      · rw [q1]; exact room_of (by simp only [List.length_cons, List.length_nil]; omega)
      · try dsimp only; rw [q1, q2, hu]
      · change (belSR c i (row.getD 0 0) && belSR c (row.getD 0 0) i) = true at hy
        show true = _
        rw [ha, hm, hy, Bool.or_true]
      · change (belSR c i (row.getD 0 0) && belSR c (row.getD 0 0) i) = true at hy
        show row ++ [i] = _
        rw [hup, hm, if_pos hy]
      · change (belSR c i (row.getD 0 0) && belSR c (row.getD 0 0) i) = false at hy
        show _ = List.any _ _
        rw [ha, hm, hy, Bool.or_false]
      · change (belSR c i (row.getD 0 0) && belSR c (row.getD 0 0) i) = false at hy
        show row = _
        rw [hup, hm, if_neg (by rw [hy]; simp)]
    · rw [take_n out (by omega)]
      have hl : (out.map (updR (mutSR c) i)).length ≤ 40 := by rw [List.length_map]; omega
      refine join_of (fun s2 => s2.2.1 = clMapR (mutSR c) i out) (fun s2 hs _ => hk _ (hs.trans ht'.symm)) (fun k1 hk1 => cnd_of (fun hy => ⟨room_of (by simp only [List.length_cons, List.length_nil]; omega), hk1 _ ?_⟩) (fun hy => hk1 _ ?_))
      · try dsimp only; unfold clMapR; rw [if_neg (by rw [Bool.not_eq_true'] at hy; rw [hy]; simp)]
      · try dsimp only; unfold clMapR; rw [if_pos (by simpa using hy)]
  · intro next hin hok1
    try dsimp only
    refine cnd_d (fun h => absurd h (Int.lt_irrefl _)) (fun _ => ?_)
    simp only [c_spec_l05Subobjects, sobT_n]
theorem ct_spec_l05Subobjects : CtOk Try.prog 42 c_spec_l05Subobjects :=
  ct_by (Φ := lkp [(70, c_spec_l01Own), (71, c_spec_l05Below), (69, c_spec_l05Mono)]) (good_cons ct_spec_l01Own (good_cons ct_spec_l05Below (good_cons ct_spec_l05Mono good_nil))) tab_ok (by kernel_rfl) (fn := Try.f42) (c := bodyOf Try.f42) (by kernel_rfl) (by kernel_rfl) (by kernel_rfl) c_spec_l05Subobjects rfl (.s .n (.s .n (.s (.s .n (.l [(5, (.ref 800005 [])), (6, (.d (.int .i64)))] [(800005, (.sl (.sl (.fz (.int .i64)))))] [1, 2] (.s .n (.s (.j [(5, (.ref 800005 []))] [(800005, (.sl (.sl (.fz (.int .i64)))))] [1, 2, 6] (.s .n (.s .n (.s (.s .n (.l [(7, (.ref 800007 [])), (8, (.d .bool)), (9, (.d (.int .i64)))] [(800007, (.sl (.sl (.fz (.int .i64)))))] [1, 2, 5, 6] (.s .n (.s (.s .n (.s (.s .n (.j [(7, (.ref 800007 [])), (8, (.d .bool)), (10, (.ref 104300 []))] [(800007, (.sl (.sl (.fz (.int .i64))))), (104300, (.sl (.fz (.int .i64))))] [1, 2, 5, 6, 9] .n)) .n)) .n)))) (.s (.s .n (.j [(7, (.ref 800007 []))] [(800007, (.sl (.sl (.fz (.int .i64)))))] [1, 2, 6] .n)) .n))))) .n)))) .n))) (cutL [(11, 12)]) (by kernel_rfl) (by kernel_rfl) k_spec_l05Subobjects (by decide) (fun x K => W_spec_l05Subobjects x.1 x.2.1 K) w_spec_l05Subobjects (fun x h1 h2 => m_spec_l05Subobjects x.1 x.2.1 h1 h2)
def c_impl_QuotientsOf : Ct := ⟨[CategoryT, (.int .i64)], [true, false], fun x => [], [(false, (.sl (.sl (.fz (.int .i64))))), (false, (.fz (.int .i64)))], fun x => ((quotR x.1 x.2.1).1, (quotR x.1 x.2.1).2, ()), false, none⟩
def W_impl_QuotientsOf (c : CategoryD) (x : Int) (K : (List (List Int)) × Int × Unit → Prop) : Prop := (cnd ((objCodeR c (x :: ([] : List Int))) != (0 : Int)) (K (([] : List (List Int)), ((objCodeR c (x :: ([] : List Int))), ()))) (((List.length c.2.1) ≤ 40) ∧ (loopW (S := ((Unit × (Int × Unit)) × ((List Int) × Unit))) (fun s => (fun next => ((inK IntKind.i64 s.1.2.1) → ((T.ok (T.sl (T.int IntKind.i64)) s.2.1) → (cnd (decide (s.1.2.1 < (((List.length (outR c x)) : Nat) : Int))) (((0 : Int) ≤ s.1.2.1) ∧ ((s.1.2.1 < (((List.length (outR c x)) : Nat) : Int)) ∧ ((ShapeP c) ∧ (((0 : Int) ≤ (List.getD (outR c x) (Int.toNat s.1.2.1) (0 : Int))) ∧ (((List.getD (outR c x) (Int.toNat s.1.2.1) (0 : Int)) < (((List.length c.2.1) : Nat) : Int)) ∧ (joinW (S := ((Unit × Unit) × ((List Int) × Unit))) (fun s1 => ((T.ok (T.sl (T.int IntKind.i64)) s1.2.1) → ((inK IntKind.i64 (s.1.2.1 + (1 : Int))) ∧ (next (((), ((s.1.2.1 + (1 : Int)), ())), (s1.2.1, ())))))) (fun k => (cnd (epiR c (List.getD (outR c x) (Int.toNat s.1.2.1) (0 : Int))) ((room (List.length s.2.1) (List.length ((List.getD (outR c x) (Int.toNat s.1.2.1) (0 : Int)) :: ([] : List Int))) 8) ∧ (k (((), ()), ((s.2.1 ++ ((List.getD (outR c x) (Int.toNat s.1.2.1) (0 : Int)) :: ([] : List Int))), ())))) (k (((), ()), (s.2.1, ()))))))))))) ((ShapeP c) ∧ (((withinR s.2.1 (((List.length c.2.1) : Nat) : Int)) = Bool.true) ∧ (((List.length s.2.1) ≤ 40) ∧ (K ((classR (mutR c) s.2.1), ((0 : Int), ()))))))))))) (((), ((0 : Int), ())), (([] : List Int), ())))))
theorem w_impl_QuotientsOf (x : denL c_impl_QuotientsOf.args) (K : (List (List Int)) × Int × Unit → Prop) : evF tab (lkp [(47, c_impl_classesOf_quot), (44, c_impl_objectCode), (45, c_impl_Category_outOf), (46, c_impl_Category_isEpi)]) (cutL []) Try.f17 (bodyOf Try.f17) (.s .n (.s .n (.s .n (.s (.s .n (.l [(7, (.ref 800007 [])), (20, (.d (.int .i64)))] [(800007, (.sl (.fz (.int .i64))))] [2, 18, 19] (.s .n (.s .n (.s (.s .n (.s .n (.j [(7, (.ref 800007 []))] [(800007, (.sl (.fz (.int .i64))))] [2, 18, 19, 20] .n))) .n))))) .n)))) c_impl_QuotientsOf x K = W_impl_QuotientsOf x.1 x.2.1 K := by kernel_rfl
theorem k_impl_QuotientsOf : okC Try.f17.ntmps (cutL []) (bodyOf Try.f17) = true := by kernel_rfl
theorem m_impl_QuotientsOf (c : CategoryD) (x : Int) (hok : allP (okL c_impl_QuotientsOf.args (c, x, ()))) (hpre : allP (c_impl_QuotientsOf.pre (c, x, ()))) : W_impl_QuotientsOf c x (fun r => r = c_impl_QuotientsOf.res (c, x, ())) := by
  simp only [c_impl_QuotientsOf, okL, T.oks, T.ok, ap, allP, true_and, and_true, implies_true] at hok hpre
  try dsimp only [T.den] at hok
  try dsimp only [T.den] at hpre
  unfold W_impl_QuotientsOf
  refine cnd_of (fun hx => ?_) (fun hx => ?_)
  · simp only [c_impl_QuotientsOf, quotR]; rw [if_neg (by simpa using hx)]
  have hz : objCodeR c [x] = 0 := by simpa using hx
  have hc : catR c = true := objCode_cat hz
  have S := cat_shape hc
  have hmm := S.m
  have hlo : (outR c x).length ≤ c.2.1.length := sel_len _
  refine ⟨hmm, loop_fil (outR c x) (epiR c) ?_ ?_⟩
  · intro i out next i0 i1 hn hol _ _
    have hg := out_at i0 i1
    generalize (outR c x).getD i.toNat 0 = g at *
    refine cnd_d (fun _ => ⟨i0, i1, S, hg.1, hg.2, join_add _ (fun s hs _ => ⟨by rw [inK64]; (try dsimp only); omega, hn _ hs⟩) (fun k hk => cnd_of (fun he => ⟨room_of (by simp only [List.length_cons, List.length_nil]; omega), hk _ (by rw [if_pos he])⟩) (fun he => hk _ (by rw [if_neg (by rw [he]; simp)])))⟩) (fun h => absurd i1 h)
  · intro next _ _
    refine cnd_d (fun h => absurd h (Int.lt_irrefl _)) (fun _ => ⟨S, epis_within c x, ?_, ?_⟩)
    · exact Nat.le_trans (List.length_filter_le _ _) (Nat.le_trans hlo hmm)
    · simp only [c_impl_QuotientsOf, quotR]; rw [if_pos hz]
theorem ct_impl_QuotientsOf : CtOk Try.prog 17 c_impl_QuotientsOf :=
  ct_by (Φ := lkp [(47, c_impl_classesOf_quot), (44, c_impl_objectCode), (45, c_impl_Category_outOf), (46, c_impl_Category_isEpi)]) (good_cons ct_impl_classesOf_quot (good_cons ct_impl_objectCode (good_cons ct_impl_Category_outOf (good_cons ct_impl_Category_isEpi good_nil)))) tab_ok (by kernel_rfl) (fn := Try.f17) (c := bodyOf Try.f17) (by kernel_rfl) (by kernel_rfl) (by kernel_rfl) c_impl_QuotientsOf rfl (.s .n (.s .n (.s .n (.s (.s .n (.l [(7, (.ref 800007 [])), (20, (.d (.int .i64)))] [(800007, (.sl (.fz (.int .i64))))] [2, 18, 19] (.s .n (.s .n (.s (.s .n (.s .n (.j [(7, (.ref 800007 []))] [(800007, (.sl (.fz (.int .i64))))] [2, 18, 19, 20] .n))) .n))))) .n)))) (cutL []) (by kernel_rfl) (by kernel_rfl) k_impl_QuotientsOf (by decide) (fun x K => W_impl_QuotientsOf x.1 x.2.1 K) w_impl_QuotientsOf (fun x h1 h2 => m_impl_QuotientsOf x.1 x.2.1 h1 h2)
def c_laws_eqInt64S : Ct := ⟨[(.sl (.int .i64)), (.sl (.int .i64))], [false, false], fun x => [], [(false, (.fz .bool))], fun x => (eqR (.sl (.int .i64)) x.1 x.2.1, ()), false, none⟩
def W_laws_eqInt64S (a : List Int) (b : List Int) (K : Bool × Unit → Prop) : Prop := (cnd ((((List.length a) : Nat) : Int) != (((List.length b) : Nat) : Int)) (K (Bool.false, ())) (loopW (S := ((Int × Unit) × Unit)) (fun s => (fun next => ((inK IntKind.i64 s.1.1) → (cnd (decide (s.1.1 < (((List.length a) : Nat) : Int))) (((0 : Int) ≤ s.1.1) ∧ ((s.1.1 < (((List.length a) : Nat) : Int)) ∧ (((0 : Int) ≤ s.1.1) ∧ ((s.1.1 < (((List.length b) : Nat) : Int)) ∧ (cnd ((List.getD a (Int.toNat s.1.1) (0 : Int)) != (List.getD b (Int.toNat s.1.1) (0 : Int))) (K (Bool.false, ())) ((inK IntKind.i64 (s.1.1 + (1 : Int))) ∧ (next (((s.1.1 + (1 : Int)), ()), ())))))))) (K (Bool.true, ())))))) (((0 : Int), ()), ())))
theorem w_laws_eqInt64S (x : denL c_laws_eqInt64S.args) (K : Bool × Unit → Prop) : evF tab (lkp []) (cutL [(6, 9)]) Try.f12 (bodyOf Try.f12) (.s .n (.s .n (.s (.s .n (.l [(5, (.d (.int .i64)))] [] [0, 1] .n)) .n))) c_laws_eqInt64S x K = W_laws_eqInt64S x.1 x.2.1 K := by kernel_rfl
theorem k_laws_eqInt64S : okC Try.f12.ntmps (cutL [(6, 9)]) (bodyOf Try.f12) = true := by kernel_rfl
theorem m_laws_eqInt64S (a : List Int) (b : List Int) (hok : allP (okL c_laws_eqInt64S.args (a, b, ()))) (hpre : allP (c_laws_eqInt64S.pre (a, b, ()))) : W_laws_eqInt64S a b (fun r => r = c_laws_eqInt64S.res (a, b, ())) := by
  simp only [c_laws_eqInt64S, okL, T.oks, T.ok, ap, allP, true_and, and_true, implies_true] at hok hpre
  try dsimp only [T.den] at hok
  try dsimp only [T.den] at hpre
  unfold W_laws_eqInt64S
  refine cnd_of (fun hc => ?_) (fun hc => ?_)
  · simp only [c_laws_eqInt64S, Prod.mk.injEq, and_true]; rw [eqR_f]; rintro rfl; simp at hc
  have hl : a.length = b.length := by simp at hc; omega
  refine loop_of (fun (s : ((Int × Unit) × Unit)) => 0 ≤ s.1.1 ∧ s.1.1 ≤ a.length ∧ a.take s.1.1.toNat = b.take s.1.1.toNat) (fun (s : ((Int × Unit) × Unit)) => (a.length - s.1.1).toNat) ?_ (by simp)
  rintro ⟨⟨i, _⟩, _⟩ next ⟨h0, h1, h2⟩ hn hin
  simp only at h0 h1 h2 hn ⊢
  refine cnd_d (fun hc => ?_) (fun hc => ?_)
  · have ha := take_c a (0 : Int) h0 hc
    have hb := take_c b (0 : Int) h0 (by omega)
    refine ⟨by omega, by omega, by omega, by omega, cnd_of (fun hd => ?_) (fun hd => ?_)⟩
    · simp only [c_laws_eqInt64S, Prod.mk.injEq, and_true]; rw [eqR_f]; rintro rfl; simp at hd
    · refine ⟨by grind [cnd, nb_eq, inK64], hn _ ⟨(by first | omega | (dsimp only; omega)), (by first | omega | (dsimp only; omega)), ?_⟩ (by first | omega | (dsimp only; omega))⟩
      simp only [Bool.not_eq_false', eqR_iff, bne_eq_false_iff_eq] at hd
      simp only [ha, hb, h2, hd]
  · rw [take_n a (by omega), take_n b (by omega)] at h2
    simp [h2, c_laws_eqInt64S]
theorem ct_laws_eqInt64S : CtOk Try.prog 12 c_laws_eqInt64S :=
  ct_by (Φ := lkp []) good_nil tab_ok (by kernel_rfl) (fn := Try.f12) (c := bodyOf Try.f12) (by kernel_rfl) (by kernel_rfl) (by kernel_rfl) c_laws_eqInt64S rfl (.s .n (.s .n (.s (.s .n (.l [(5, (.d (.int .i64)))] [] [0, 1] .n)) .n))) (cutL [(6, 9)]) (by kernel_rfl) (by kernel_rfl) k_laws_eqInt64S (by decide) (fun x K => W_laws_eqInt64S x.1 x.2.1 K) w_laws_eqInt64S (fun x h1 h2 => m_laws_eqInt64S x.1 x.2.1 h1 h2)
def c_laws_eqInt64SS : Ct := ⟨[(.sl (.sl (.int .i64))), (.sl (.sl (.int .i64)))], [false, false], fun x => [], [(false, (.fz .bool))], fun x => (eqR (.sl (.sl (.int .i64))) x.1 x.2.1, ()), false, none⟩
def W_laws_eqInt64SS (a : List (List Int)) (b : List (List Int)) (K : Bool × Unit → Prop) : Prop := (cnd ((((List.length a) : Nat) : Int) != (((List.length b) : Nat) : Int)) (K (Bool.false, ())) (loopW (S := ((Int × Unit) × Unit)) (fun s => (fun next => ((inK IntKind.i64 s.1.1) → (cnd (decide (s.1.1 < (((List.length a) : Nat) : Int))) (((0 : Int) ≤ s.1.1) ∧ ((s.1.1 < (((List.length a) : Nat) : Int)) ∧ (((0 : Int) ≤ s.1.1) ∧ ((s.1.1 < (((List.length b) : Nat) : Int)) ∧ (cnd (!(eqR (T.sl (T.int IntKind.i64)) (List.getD a (Int.toNat s.1.1) ([] : List Int)) (List.getD b (Int.toNat s.1.1) ([] : List Int)))) (K (Bool.false, ())) ((inK IntKind.i64 (s.1.1 + (1 : Int))) ∧ (next (((s.1.1 + (1 : Int)), ()), ())))))))) (K (Bool.true, ())))))) (((0 : Int), ()), ())))
theorem w_laws_eqInt64SS (x : denL c_laws_eqInt64SS.args) (K : Bool × Unit → Prop) : evF tab (lkp [(12, c_laws_eqInt64S)]) (cutL [(6, 10)]) Try.f18 (bodyOf Try.f18) (.s .n (.s .n (.s (.s .n (.l [(5, (.d (.int .i64)))] [] [0, 1] .n)) .n))) c_laws_eqInt64SS x K = W_laws_eqInt64SS x.1 x.2.1 K := by kernel_rfl
theorem k_laws_eqInt64SS : okC Try.f18.ntmps (cutL [(6, 10)]) (bodyOf Try.f18) = true := by kernel_rfl
theorem m_laws_eqInt64SS (a : List (List Int)) (b : List (List Int)) (hok : allP (okL c_laws_eqInt64SS.args (a, b, ()))) (hpre : allP (c_laws_eqInt64SS.pre (a, b, ()))) : W_laws_eqInt64SS a b (fun r => r = c_laws_eqInt64SS.res (a, b, ())) := by
  simp only [c_laws_eqInt64SS, okL, T.oks, T.ok, ap, allP, true_and, and_true, implies_true] at hok hpre
  try dsimp only [T.den] at hok
  try dsimp only [T.den] at hpre
  unfold W_laws_eqInt64SS
  refine cnd_of (fun hc => ?_) (fun hc => ?_)
  · simp only [c_laws_eqInt64SS, Prod.mk.injEq, and_true]; rw [eqR_f]; rintro rfl; simp at hc
  have hl : a.length = b.length := by simp at hc; omega
  refine loop_of (fun (s : ((Int × Unit) × Unit)) => 0 ≤ s.1.1 ∧ s.1.1 ≤ a.length ∧ a.take s.1.1.toNat = b.take s.1.1.toNat) (fun (s : ((Int × Unit) × Unit)) => (a.length - s.1.1).toNat) ?_ (by simp)
  rintro ⟨⟨i, _⟩, _⟩ next ⟨h0, h1, h2⟩ hn hin
  simp only at h0 h1 h2 hn ⊢
  refine cnd_d (fun hc => ?_) (fun hc => ?_)
  · have ha := take_c a ([] : List Int) h0 hc
    have hb := take_c b ([] : List Int) h0 (by omega)
    refine ⟨by omega, by omega, by omega, by omega, cnd_of (fun hd => ?_) (fun hd => ?_)⟩
    · simp only [c_laws_eqInt64SS, Prod.mk.injEq, and_true]; rw [eqR_f]; rintro rfl; simp at hd
    · refine ⟨by grind [cnd, nb_eq, inK64], hn _ ⟨(by first | omega | (dsimp only; omega)), (by first | omega | (dsimp only; omega)), ?_⟩ (by first | omega | (dsimp only; omega))⟩
      simp only [Bool.not_eq_false', eqR_iff, bne_eq_false_iff_eq] at hd
      simp only [ha, hb, h2, hd]
  · rw [take_n a (by omega), take_n b (by omega)] at h2
    simp [h2, c_laws_eqInt64SS]
theorem ct_laws_eqInt64SS : CtOk Try.prog 18 c_laws_eqInt64SS :=
  ct_by (Φ := lkp [(12, c_laws_eqInt64S)]) (good_cons ct_laws_eqInt64S good_nil) tab_ok (by kernel_rfl) (fn := Try.f18) (c := bodyOf Try.f18) (by kernel_rfl) (by kernel_rfl) (by kernel_rfl) c_laws_eqInt64SS rfl (.s .n (.s .n (.s (.s .n (.l [(5, (.d (.int .i64)))] [] [0, 1] .n)) .n))) (cutL [(6, 10)]) (by kernel_rfl) (by kernel_rfl) k_laws_eqInt64SS (by decide) (fun x K => W_laws_eqInt64SS x.1 x.2.1 K) w_laws_eqInt64SS (fun x h1 h2 => m_laws_eqInt64SS x.1 x.2.1 h1 h2)
def c_laws_eqCategory : Ct := ⟨[CategoryT, CategoryT], [true, true], fun x => [], [(false, (.fz .bool))], fun x => (eqR CategoryT x.1 x.2.1, ()), false, none⟩
def W_laws_eqCategory (a : CategoryD) (b : CategoryD) (K : Bool × Unit → Prop) : Prop := (cnd (a.1 != b.1) (K (Bool.false, ())) (cnd (!(eqR (T.sl (T.int IntKind.i64)) a.2.1 b.2.1)) (K (Bool.false, ())) (cnd (!(eqR (T.sl (T.int IntKind.i64)) a.2.2.1 b.2.2.1)) (K (Bool.false, ())) (cnd (!(eqR (T.sl (T.int IntKind.i64)) a.2.2.2.1 b.2.2.2.1)) (K (Bool.false, ())) (cnd (!(eqR (T.sl (T.sl (T.int IntKind.i64))) a.2.2.2.2 b.2.2.2.2)) (K (Bool.false, ())) (K (Bool.true, ())))))))
theorem w_laws_eqCategory (x : denL c_laws_eqCategory.args) (K : Bool × Unit → Prop) : evF tab (lkp [(12, c_laws_eqInt64S), (18, c_laws_eqInt64SS)]) (cutL []) Try.f11 (bodyOf Try.f11) .n c_laws_eqCategory x K = W_laws_eqCategory x.1 x.2.1 K := by kernel_rfl
theorem k_laws_eqCategory : okC Try.f11.ntmps (cutL []) (bodyOf Try.f11) = true := by kernel_rfl
theorem m_laws_eqCategory (a : CategoryD) (b : CategoryD) (hok : allP (okL c_laws_eqCategory.args (a, b, ()))) (hpre : allP (c_laws_eqCategory.pre (a, b, ()))) : W_laws_eqCategory a b (fun r => r = c_laws_eqCategory.res (a, b, ())) := by
  simp only [c_laws_eqCategory, okL, T.oks, T.ok, ap, allP, true_and, and_true, implies_true] at hok hpre
  try dsimp only [T.den] at hok
  try dsimp only [T.den] at hpre
  unfold W_laws_eqCategory
  simp only [c_laws_eqCategory, eqR_p, eqR_int, eqR_bool]
  grind [cnd, nb_eq, inK64]
theorem ct_laws_eqCategory : CtOk Try.prog 11 c_laws_eqCategory :=
  ct_by (Φ := lkp [(12, c_laws_eqInt64S), (18, c_laws_eqInt64SS)]) (good_cons ct_laws_eqInt64S (good_cons ct_laws_eqInt64SS good_nil)) tab_ok (by kernel_rfl) (fn := Try.f11) (c := bodyOf Try.f11) (by kernel_rfl) (by kernel_rfl) (by kernel_rfl) c_laws_eqCategory rfl .n (cutL []) (by kernel_rfl) (by kernel_rfl) k_laws_eqCategory (by decide) (fun x K => W_laws_eqCategory x.1 x.2.1 K) w_laws_eqCategory (fun x h1 h2 => m_laws_eqCategory x.1 x.2.1 h1 h2)
def c_laws_heldInt64S : Ct := ⟨[(.sl (.int .i64)), (.int .i64)], [false, false], fun x => [0 ≤ x.2.1, x.2.1 + ckR (.sl (.int .i64)) x.1 ≤ 4611686018427387904], [(false, (.fz (.int .i64)))], fun x => (hdR (.sl (.int .i64)) x.1 x.2.1, ()), false, none⟩
def W_laws_heldInt64S (a : List Int) (k : Int) (K : Int × Unit → Prop) : Prop := (loopW (S := ((Int × (Int × Unit)) × Unit)) (fun s => (fun next => ((inK IntKind.i64 s.1.1) → ((inK IntKind.i64 s.1.2.1) → (cnd (decide (s.1.2.1 < (((List.length a) : Nat) : Int))) (((0 : Int) ≤ s.1.2.1) ∧ ((s.1.2.1 < (((List.length a) : Nat) : Int)) ∧ (cnd ((List.getD a (Int.toNat s.1.2.1) (0 : Int)) != s.1.1) (K ((-(1 : Int)), ())) ((inK IntKind.i64 (s.1.1 + (1 : Int))) ∧ ((inK IntKind.i64 (s.1.2.1 + (1 : Int))) ∧ (next (((s.1.1 + (1 : Int)), ((s.1.2.1 + (1 : Int)), ())), ()))))))) (K (s.1.1, ()))))))) ((k, ((0 : Int), ())), ()))
theorem w_laws_heldInt64S (x : denL c_laws_heldInt64S.args) (K : Int × Unit → Prop) : evF tab (lkp []) (cutL []) Try.f40 (bodyOf Try.f40) (.s .n (.s (.s .n (.l [(1, (.d (.int .i64))), (5, (.d (.int .i64)))] [] [0] .n)) .n)) c_laws_heldInt64S x K = W_laws_heldInt64S x.1 x.2.1 K := by kernel_rfl
theorem k_laws_heldInt64S : okC Try.f40.ntmps (cutL []) (bodyOf Try.f40) = true := by kernel_rfl
theorem m_laws_heldInt64S (a : List Int) (k : Int) (hok : allP (okL c_laws_heldInt64S.args (a, k, ()))) (hpre : allP (c_laws_heldInt64S.pre (a, k, ()))) : W_laws_heldInt64S a k (fun r => r = c_laws_heldInt64S.res (a, k, ())) := by
  simp only [c_laws_heldInt64S, okL, T.oks, T.ok, ap, allP, true_and, and_true, implies_true] at hok hpre
  try dsimp only [T.den] at hok
  try dsimp only [T.den] at hpre
  unfold W_laws_heldInt64S
  obtain ⟨h0, hb⟩ := hpre
  have hll : a.length ≤ 140737488355328 := by simp only [nb_eq] at hok; omega
  refine held_loop (e := .int .i64) (0 : Int) a k h0 hb (fun k i next i0 i1 k0 kb hbad hn h1 h2 => ?_) (fun i next hi h1 h2 => ?_)
  · try dsimp only
    simp only [ckR] at kb
    simp only [hd_int] at hbad hn
    refine cnd_d (fun _ => ⟨i0, i1, cnd_of (fun hx => ?_) (fun hx => ⟨by rw [inK64]; (try dsimp only); omega, by rw [inK64]; (try dsimp only); omega, ?_⟩)⟩) (fun h => absurd i1 h)
    · rw [bne_iff_ne] at hx
      rw [if_neg hx] at hbad
      simp only [c_laws_heldInt64S]; rw [hbad (by omega)]
    · rw [bne_eq_false_iff_eq] at hx
      rw [if_pos hx] at hn
      exact hn (by omega)
  · exact cnd_d (fun h => absurd h (by dsimp only; omega)) (fun _ => rfl)
theorem ct_laws_heldInt64S : CtOk Try.prog 40 c_laws_heldInt64S :=
  ct_by (Φ := lkp []) good_nil tab_ok (by kernel_rfl) (fn := Try.f40) (c := bodyOf Try.f40) (by kernel_rfl) (by kernel_rfl) (by kernel_rfl) c_laws_heldInt64S rfl (.s .n (.s (.s .n (.l [(1, (.d (.int .i64))), (5, (.d (.int .i64)))] [] [0] .n)) .n)) (cutL []) (by kernel_rfl) (by kernel_rfl) k_laws_heldInt64S (by decide) (fun x K => W_laws_heldInt64S x.1 x.2.1 K) w_laws_heldInt64S (fun x h1 h2 => m_laws_heldInt64S x.1 x.2.1 h1 h2)
def c_laws_heldInt64SS : Ct := ⟨[(.sl (.sl (.int .i64))), (.int .i64)], [false, false], fun x => [0 ≤ x.2.1, x.2.1 + ckR (.sl (.sl (.int .i64))) x.1 ≤ 4611686018427387904], [(false, (.fz (.int .i64)))], fun x => (hdR (.sl (.sl (.int .i64))) x.1 x.2.1, ()), false, none⟩
def W_laws_heldInt64SS (a : List (List Int)) (k : Int) (K : Int × Unit → Prop) : Prop := (loopW (S := ((Int × (Int × Unit)) × Unit)) (fun s => (fun next => ((inK IntKind.i64 s.1.1) → ((inK IntKind.i64 s.1.2.1) → (cnd (decide (s.1.2.1 < (((List.length a) : Nat) : Int))) (((0 : Int) ≤ s.1.2.1) ∧ ((s.1.2.1 < (((List.length a) : Nat) : Int)) ∧ (((0 : Int) ≤ s.1.1) ∧ (((s.1.1 + (((ckR (T.sl (T.int IntKind.i64)) (List.getD a (Int.toNat s.1.2.1) ([] : List Int))) : Nat) : Int)) ≤ (4611686018427387904 : Int)) ∧ (cnd (decide ((hdR (T.sl (T.int IntKind.i64)) (List.getD a (Int.toNat s.1.2.1) ([] : List Int)) s.1.1) < (0 : Int))) (K ((-(1 : Int)), ())) ((inK IntKind.i64 (s.1.2.1 + (1 : Int))) ∧ (next (((hdR (T.sl (T.int IntKind.i64)) (List.getD a (Int.toNat s.1.2.1) ([] : List Int)) s.1.1), ((s.1.2.1 + (1 : Int)), ())), ())))))))) (K (s.1.1, ()))))))) ((k, ((0 : Int), ())), ()))
theorem w_laws_heldInt64SS (x : denL c_laws_heldInt64SS.args) (K : Int × Unit → Prop) : evF tab (lkp [(40, c_laws_heldInt64S)]) (cutL []) Try.f20 (bodyOf Try.f20) (.s .n (.s (.s .n (.l [(1, (.d (.int .i64))), (5, (.d (.int .i64)))] [] [0] .n)) .n)) c_laws_heldInt64SS x K = W_laws_heldInt64SS x.1 x.2.1 K := by kernel_rfl
theorem k_laws_heldInt64SS : okC Try.f20.ntmps (cutL []) (bodyOf Try.f20) = true := by kernel_rfl
theorem m_laws_heldInt64SS (a : List (List Int)) (k : Int) (hok : allP (okL c_laws_heldInt64SS.args (a, k, ()))) (hpre : allP (c_laws_heldInt64SS.pre (a, k, ()))) : W_laws_heldInt64SS a k (fun r => r = c_laws_heldInt64SS.res (a, k, ())) := by
  simp only [c_laws_heldInt64SS, okL, T.oks, T.ok, ap, allP, true_and, and_true, implies_true] at hok hpre
  try dsimp only [T.den] at hok
  try dsimp only [T.den] at hpre
  unfold W_laws_heldInt64SS
  obtain ⟨h0, hb⟩ := hpre
  have hll : a.length ≤ 140737488355328 := by simp only [nb_eq] at hok; omega
  refine held_loop (e := (.sl (.int .i64))) ([] : List Int) a k h0 hb (fun k i next i0 i1 k0 kb hbad hn h1 h2 => ?_) (fun i next hi h1 h2 => ?_)
  · try dsimp only
    refine cnd_d (fun _ => ⟨i0, i1, k0, kb, cnd_d (fun hx => ?_) (fun hx => ⟨by rw [inK64]; (try dsimp only); omega, hn hx⟩)⟩) (fun h => absurd i1 h)
    simp only [c_laws_heldInt64SS]; rw [hbad hx]
  · exact cnd_d (fun h => absurd h (by dsimp only; omega)) (fun _ => rfl)
theorem ct_laws_heldInt64SS : CtOk Try.prog 20 c_laws_heldInt64SS :=
  ct_by (Φ := lkp [(40, c_laws_heldInt64S)]) (good_cons ct_laws_heldInt64S good_nil) tab_ok (by kernel_rfl) (fn := Try.f20) (c := bodyOf Try.f20) (by kernel_rfl) (by kernel_rfl) (by kernel_rfl) c_laws_heldInt64SS rfl (.s .n (.s (.s .n (.l [(1, (.d (.int .i64))), (5, (.d (.int .i64)))] [] [0] .n)) .n)) (cutL []) (by kernel_rfl) (by kernel_rfl) k_laws_heldInt64SS (by decide) (fun x K => W_laws_heldInt64SS x.1 x.2.1 K) w_laws_heldInt64SS (fun x h1 h2 => m_laws_heldInt64SS x.1 x.2.1 h1 h2)
def m0_laws_markInt64S : Mt := ⟨(.sl (.fz (.int .i64))), false, fun x k => [0 ≤ k, k + ckR (.sl (.int .i64)) x ≤ 4611686018427387904], fun x k => mkR (.sl (.int .i64)) x k⟩
def c_laws_markInt64S : Ct := mtCt m0_laws_markInt64S
def W_laws_markInt64S (a : List Int) (k : Int) (K : (List Int) → Int → Prop) : Prop := (loopW (S := ((Unit × (Int × (Int × Unit))) × ((List Int) × Unit))) (fun s => (fun next => ((inK IntKind.i64 s.1.2.1) → ((inK IntKind.i64 s.1.2.2.1) → ((T.ok (T.sl (T.int IntKind.i64)) s.2.1) → (cnd (decide (s.1.2.2.1 < (((List.length s.2.1) : Nat) : Int))) (((0 : Int) ≤ s.1.2.2.1) ∧ ((s.1.2.2.1 < (((List.length s.2.1) : Nat) : Int)) ∧ ((inK IntKind.i64 (s.1.2.1 + (1 : Int))) ∧ ((inK IntKind.i64 (s.1.2.2.1 + (1 : Int))) ∧ (next (((), ((s.1.2.1 + (1 : Int)), ((s.1.2.2.1 + (1 : Int)), ()))), ((List.set s.2.1 (Int.toNat s.1.2.2.1) s.1.2.1), ()))))))) (K s.2.1 s.1.2.1))))))) (((), (k, ((0 : Int), ()))), (a, ())))
theorem w_laws_markInt64S (a : List Int) (k : Int) (K : (List Int) → Int → Prop) : evFm tab (lkp []) (cutL []) Try.f14 (bodyOf Try.f14) (.s .n (.s (.s .n (.l [(0, (.ref 1000000 [])), (1, (.d (.int .i64))), (5, (.d (.int .i64)))] [(1000000, (.sl (.fz (.int .i64))))] [] .n)) .n)) m0_laws_markInt64S a k K = W_laws_markInt64S a k K := by kernel_rfl
theorem k_laws_markInt64S : okC Try.f14.ntmps (cutL []) (bodyOf Try.f14) = true := by kernel_rfl
theorem m_laws_markInt64S (a : List Int) (k : Int) (hok : allP (T.oks (.sl (.int .i64)) a)) (h0 : 0 ≤ k) (hpre : k + ckR (.sl (.int .i64)) a ≤ 4611686018427387904) : W_laws_markInt64S a k (fun y n => y = (mkR (.sl (.int .i64)) a k).1 ∧ n = (mkR (.sl (.int .i64)) a k).2) := by
  simp only [T.oks, T.ok, ap, allP, true_and, and_true, implies_true] at hok
  try dsimp only [T.den] at hok
  unfold W_laws_markInt64S
  refine mark_loop (e := .int .i64) (0 : Int) a k h0 hpre (fun k i l next i0 i1 hl hg k0 kb hn h1 h2 h3 => ?_) (fun i l next hi hl h1 h2 h3 => ?_)
  · try dsimp only
    simp only [ckR] at kb
    have hll := h3.1
    simp only [nb_eq] at hll
    exact cnd_d (fun _ => ⟨i0, i1, by rw [inK64]; (try dsimp only); omega, by rw [inK64]; (try dsimp only); omega, hn⟩) (fun h => absurd i1 h)
  · exact cnd_d (fun h => absurd h (by dsimp only; omega)) (fun _ => ⟨hl, rfl⟩)
theorem ct_laws_markInt64S : CtOk Try.prog 14 c_laws_markInt64S :=
  mt_of (Φ := lkp []) good_nil tab_ok (by kernel_rfl) (fn := Try.f14) (c := bodyOf Try.f14) (by kernel_rfl) (by kernel_rfl) (by kernel_rfl) m0_laws_markInt64S (.s .n (.s (.s .n (.l [(0, (.ref 1000000 [])), (1, (.d (.int .i64))), (5, (.d (.int .i64)))] [(1000000, (.sl (.fz (.int .i64))))] [] .n)) .n)) (cutL []) (by kernel_rfl) (by kernel_rfl) k_laws_markInt64S (by decide) (by kernel_rfl) (fun x k hk hok hp => (w_laws_markInt64S x k _).mpr (m_laws_markInt64S x k hok hp.1 hp.2.1))
def m0_laws_markInt64SS : Mt := ⟨(.sl (.sl (.fz (.int .i64)))), false, fun x k => [0 ≤ k, k + ckR (.sl (.sl (.int .i64))) x ≤ 4611686018427387904], fun x k => mkR (.sl (.sl (.int .i64))) x k⟩
def c_laws_markInt64SS : Ct := mtCt m0_laws_markInt64SS
def W_laws_markInt64SS (a : List (List Int)) (k : Int) (K : (List (List Int)) → Int → Prop) : Prop := (loopW (S := ((Unit × (Int × (Int × Unit))) × ((List (List Int)) × Unit))) (fun s => (fun next => ((inK IntKind.i64 s.1.2.1) → ((inK IntKind.i64 s.1.2.2.1) → ((T.ok (T.sl (T.sl (T.int IntKind.i64))) s.2.1) → (cnd (decide (s.1.2.2.1 < (((List.length s.2.1) : Nat) : Int))) (((0 : Int) ≤ s.1.2.2.1) ∧ ((s.1.2.2.1 < (((List.length s.2.1) : Nat) : Int)) ∧ (((0 : Int) ≤ s.1.2.1) ∧ (((s.1.2.1 + (((ckR (T.sl (T.int IntKind.i64)) (List.getD s.2.1 (Int.toNat s.1.2.2.1) ([] : List Int))) : Nat) : Int)) ≤ (4611686018427387904 : Int)) ∧ ((inK IntKind.i64 (s.1.2.2.1 + (1 : Int))) ∧ (next (((), ((mkR (T.sl (T.int IntKind.i64)) (List.getD s.2.1 (Int.toNat s.1.2.2.1) ([] : List Int)) s.1.2.1).2, ((s.1.2.2.1 + (1 : Int)), ()))), ((List.set s.2.1 (Int.toNat s.1.2.2.1) (mkR (T.sl (T.int IntKind.i64)) (List.getD s.2.1 (Int.toNat s.1.2.2.1) ([] : List Int)) s.1.2.1).1), ())))))))) (K s.2.1 s.1.2.1))))))) (((), (k, ((0 : Int), ()))), (a, ())))
theorem w_laws_markInt64SS (a : List (List Int)) (k : Int) (K : (List (List Int)) → Int → Prop) : evFm tab (lkp [(14, c_laws_markInt64S)]) (cutL []) Try.f19 (bodyOf Try.f19) (.s .n (.s (.s .n (.l [(0, (.ref 1000000 [])), (1, (.d (.int .i64))), (5, (.d (.int .i64)))] [(1000000, (.sl (.sl (.fz (.int .i64)))))] [] .n)) .n)) m0_laws_markInt64SS a k K = W_laws_markInt64SS a k K := by kernel_rfl
theorem k_laws_markInt64SS : okC Try.f19.ntmps (cutL []) (bodyOf Try.f19) = true := by kernel_rfl
theorem m_laws_markInt64SS (a : List (List Int)) (k : Int) (hok : allP (T.oks (.sl (.sl (.int .i64))) a)) (h0 : 0 ≤ k) (hpre : k + ckR (.sl (.sl (.int .i64))) a ≤ 4611686018427387904) : W_laws_markInt64SS a k (fun y n => y = (mkR (.sl (.sl (.int .i64))) a k).1 ∧ n = (mkR (.sl (.sl (.int .i64))) a k).2) := by
  simp only [T.oks, T.ok, ap, allP, true_and, and_true, implies_true] at hok
  try dsimp only [T.den] at hok
  unfold W_laws_markInt64SS
  refine mark_loop (e := (.sl (.int .i64))) ([] : List Int) a k h0 hpre (fun k i l next i0 i1 hl hg k0 kb hn h1 h2 h3 => ?_) (fun i l next hi hl h1 h2 h3 => ?_)
  · try dsimp only
    have hll := h3.1
    simp only [nb_eq] at hll
    rw [hg]
    exact cnd_d (fun _ => ⟨i0, i1, k0, kb, by rw [inK64]; (try dsimp only); omega, hn⟩) (fun h => absurd i1 h)
  · exact cnd_d (fun h => absurd h (by dsimp only; omega)) (fun _ => ⟨hl, rfl⟩)
theorem ct_laws_markInt64SS : CtOk Try.prog 19 c_laws_markInt64SS :=
  mt_of (Φ := lkp [(14, c_laws_markInt64S)]) (good_cons ct_laws_markInt64S good_nil) tab_ok (by kernel_rfl) (fn := Try.f19) (c := bodyOf Try.f19) (by kernel_rfl) (by kernel_rfl) (by kernel_rfl) m0_laws_markInt64SS (.s .n (.s (.s .n (.l [(0, (.ref 1000000 [])), (1, (.d (.int .i64))), (5, (.d (.int .i64)))] [(1000000, (.sl (.sl (.fz (.int .i64)))))] [] .n)) .n)) (cutL []) (by kernel_rfl) (by kernel_rfl) k_laws_markInt64SS (by decide) (by kernel_rfl) (fun x k hk hok hp => (w_laws_markInt64SS x k _).mpr (m_laws_markInt64SS x k hok hp.1 hp.2.1))
def m0_laws_markCategory : Mt := ⟨CategoryO, true, fun x k => [0 ≤ k, k + ctR CategoryT x ≤ 4611686018427387904], fun x k => mtR CategoryT x k⟩
def c_laws_markCategory : Ct := mtCt m0_laws_markCategory
def W_laws_markCategory (a : CategoryD) (k : Int) (K : CategoryD → Int → Prop) : Prop := (((0 : Int) ≤ k) ∧ (((k + (((ckR (T.sl (T.int IntKind.i64)) a.2.1) : Nat) : Int)) ≤ (4611686018427387904 : Int)) ∧ (((0 : Int) ≤ (mkR (T.sl (T.int IntKind.i64)) a.2.1 k).2) ∧ ((((mkR (T.sl (T.int IntKind.i64)) a.2.1 k).2 + (((ckR (T.sl (T.int IntKind.i64)) a.2.2.1) : Nat) : Int)) ≤ (4611686018427387904 : Int)) ∧ (((0 : Int) ≤ (mkR (T.sl (T.int IntKind.i64)) a.2.2.1 (mkR (T.sl (T.int IntKind.i64)) a.2.1 k).2).2) ∧ ((((mkR (T.sl (T.int IntKind.i64)) a.2.2.1 (mkR (T.sl (T.int IntKind.i64)) a.2.1 k).2).2 + (((ckR (T.sl (T.int IntKind.i64)) a.2.2.2.1) : Nat) : Int)) ≤ (4611686018427387904 : Int)) ∧ (((0 : Int) ≤ (mkR (T.sl (T.int IntKind.i64)) a.2.2.2.1 (mkR (T.sl (T.int IntKind.i64)) a.2.2.1 (mkR (T.sl (T.int IntKind.i64)) a.2.1 k).2).2).2) ∧ ((((mkR (T.sl (T.int IntKind.i64)) a.2.2.2.1 (mkR (T.sl (T.int IntKind.i64)) a.2.2.1 (mkR (T.sl (T.int IntKind.i64)) a.2.1 k).2).2).2 + (((ckR (T.sl (T.sl (T.int IntKind.i64))) a.2.2.2.2) : Nat) : Int)) ≤ (4611686018427387904 : Int)) ∧ (K (a.1, ((mkR (T.sl (T.int IntKind.i64)) a.2.1 k).1, ((mkR (T.sl (T.int IntKind.i64)) a.2.2.1 (mkR (T.sl (T.int IntKind.i64)) a.2.1 k).2).1, ((mkR (T.sl (T.int IntKind.i64)) a.2.2.2.1 (mkR (T.sl (T.int IntKind.i64)) a.2.2.1 (mkR (T.sl (T.int IntKind.i64)) a.2.1 k).2).2).1, (mkR (T.sl (T.sl (T.int IntKind.i64))) a.2.2.2.2 (mkR (T.sl (T.int IntKind.i64)) a.2.2.2.1 (mkR (T.sl (T.int IntKind.i64)) a.2.2.1 (mkR (T.sl (T.int IntKind.i64)) a.2.1 k).2).2).2).1)))) (mkR (T.sl (T.sl (T.int IntKind.i64))) a.2.2.2.2 (mkR (T.sl (T.int IntKind.i64)) a.2.2.2.1 (mkR (T.sl (T.int IntKind.i64)) a.2.2.1 (mkR (T.sl (T.int IntKind.i64)) a.2.1 k).2).2).2).2)))))))))
theorem w_laws_markCategory (a : CategoryD) (k : Int) (K : CategoryD → Int → Prop) : evFm tab (lkp [(14, c_laws_markInt64S), (19, c_laws_markInt64SS)]) (cutL []) Try.f13 (bodyOf Try.f13) .n m0_laws_markCategory a k K = W_laws_markCategory a k K := by kernel_rfl
theorem k_laws_markCategory : okC Try.f13.ntmps (cutL []) (bodyOf Try.f13) = true := by kernel_rfl
theorem m_laws_markCategory (a : CategoryD) (k : Int) (hok : allP (T.oks CategoryT a)) (h0 : 0 ≤ k) (hpre : k + ctR CategoryT a ≤ 4611686018427387904) : W_laws_markCategory a k (fun y n => y = (mtR CategoryT a k).1 ∧ n = (mtR CategoryT a k).2) := by
  simp only [T.oks, T.ok, ap, allP, true_and, and_true, implies_true] at hok
  try dsimp only [T.den] at hok
  unfold W_laws_markCategory
  simp only [ctR] at hpre
  repeat' apply And.intro
  all_goals first | rfl | ((try simp only [mk_num, mt_num, ctR]); omega)
theorem ct_laws_markCategory : CtOk Try.prog 13 c_laws_markCategory :=
  mt_of (Φ := lkp [(14, c_laws_markInt64S), (19, c_laws_markInt64SS)]) (good_cons ct_laws_markInt64S (good_cons ct_laws_markInt64SS good_nil)) tab_ok (by kernel_rfl) (fn := Try.f13) (c := bodyOf Try.f13) (by kernel_rfl) (by kernel_rfl) (by kernel_rfl) m0_laws_markCategory .n (cutL []) (by kernel_rfl) (by kernel_rfl) k_laws_markCategory (by decide) (by kernel_rfl) (fun x k hk hok hp => (w_laws_markCategory x k _).mpr (m_laws_markCategory x k hok hp.1 hp.2.1))
def c_laws_szInt64S : Ct := ⟨[(.sl (.int .i64)), (.int .i64)], [false, false], fun x => [-4611545280939032576 ≤ x.2.1], [(false, (.fz (.int .i64)))], fun x => (szR (wR (.sl (.int .i64)) x.1) x.2.1, ()), false, none⟩
def W_laws_szInt64S (a : List Int) (left : Int) (K : Int × Unit → Prop) : Prop := ((inK IntKind.i64 (left - (((List.length a) : Nat) : Int))) ∧ (cnd (decide ((left - (((List.length a) : Nat) : Int)) < (0 : Int))) (K ((-(1 : Int)), ())) (K ((left - (((List.length a) : Nat) : Int)), ()))))
theorem w_laws_szInt64S (x : denL c_laws_szInt64S.args) (K : Int × Unit → Prop) : evF tab (lkp []) (cutL []) Try.f32 (bodyOf Try.f32) .n c_laws_szInt64S x K = W_laws_szInt64S x.1 x.2.1 K := by kernel_rfl
theorem k_laws_szInt64S : okC Try.f32.ntmps (cutL []) (bodyOf Try.f32) = true := by kernel_rfl
theorem m_laws_szInt64S (a : List Int) (left : Int) (hok : allP (okL c_laws_szInt64S.args (a, left, ()))) (hpre : allP (c_laws_szInt64S.pre (a, left, ()))) : W_laws_szInt64S a left (fun r => r = c_laws_szInt64S.res (a, left, ())) := by
  simp only [c_laws_szInt64S, okL, T.oks, T.ok, ap, allP, true_and, and_true, implies_true] at hok hpre
  try dsimp only [T.den] at hok
  try dsimp only [T.den] at hpre
  unfold W_laws_szInt64S
  simp only [c_laws_szInt64S, wR_ints]
  grind [cnd, nb_eq, inK64, szR]
theorem ct_laws_szInt64S : CtOk Try.prog 32 c_laws_szInt64S :=
  ct_by (Φ := lkp []) good_nil tab_ok (by kernel_rfl) (fn := Try.f32) (c := bodyOf Try.f32) (by kernel_rfl) (by kernel_rfl) (by kernel_rfl) c_laws_szInt64S rfl .n (cutL []) (by kernel_rfl) (by kernel_rfl) k_laws_szInt64S (by decide) (fun x K => W_laws_szInt64S x.1 x.2.1 K) w_laws_szInt64S (fun x h1 h2 => m_laws_szInt64S x.1 x.2.1 h1 h2)
def c_laws_szInt64SS : Ct := ⟨[(.sl (.sl (.int .i64))), (.int .i64)], [false, false], fun x => [-4611404543450677248 ≤ x.2.1], [(false, (.fz (.int .i64)))], fun x => (szR (wR (.sl (.sl (.int .i64))) x.1) x.2.1, ()), false, none⟩
def W_laws_szInt64SS (a : List (List Int)) (left : Int) (K : Int × Unit → Prop) : Prop := ((inK IntKind.i64 (left - (((List.length a) : Nat) : Int))) ∧ (cnd (decide ((left - (((List.length a) : Nat) : Int)) < (0 : Int))) (K ((-(1 : Int)), ())) (loopW (S := ((Int × (Int × Unit)) × Unit)) (fun s => (fun next => ((inK IntKind.i64 s.1.1) → ((inK IntKind.i64 s.1.2.1) → (cnd (decide (s.1.2.1 < (((List.length a) : Nat) : Int))) (((0 : Int) ≤ s.1.2.1) ∧ ((s.1.2.1 < (((List.length a) : Nat) : Int)) ∧ (((-(4611545280939032576 : Int)) ≤ s.1.1) ∧ (cnd (decide ((szR (wR (T.sl (T.int IntKind.i64)) (List.getD a (Int.toNat s.1.2.1) ([] : List Int))) s.1.1) < (0 : Int))) (K ((-(1 : Int)), ())) ((inK IntKind.i64 (s.1.2.1 + (1 : Int))) ∧ (next (((szR (wR (T.sl (T.int IntKind.i64)) (List.getD a (Int.toNat s.1.2.1) ([] : List Int))) s.1.1), ((s.1.2.1 + (1 : Int)), ())), ()))))))) (K (s.1.1, ()))))))) (((left - (((List.length a) : Nat) : Int)), ((0 : Int), ())), ()))))
theorem w_laws_szInt64SS (x : denL c_laws_szInt64SS.args) (K : Int × Unit → Prop) : evF tab (lkp [(32, c_laws_szInt64S)]) (cutL []) Try.f22 (bodyOf Try.f22) (.s .n (.s .n (.s .n (.s (.s .n (.l [(1, (.d (.int .i64))), (5, (.d (.int .i64)))] [] [0] .n)) .n)))) c_laws_szInt64SS x K = W_laws_szInt64SS x.1 x.2.1 K := by kernel_rfl
theorem k_laws_szInt64SS : okC Try.f22.ntmps (cutL []) (bodyOf Try.f22) = true := by kernel_rfl
theorem m_laws_szInt64SS (a : List (List Int)) (left : Int) (hok : allP (okL c_laws_szInt64SS.args (a, left, ()))) (hpre : allP (c_laws_szInt64SS.pre (a, left, ()))) : W_laws_szInt64SS a left (fun r => r = c_laws_szInt64SS.res (a, left, ())) := by
  simp only [c_laws_szInt64SS, okL, T.oks, T.ok, ap, allP, true_and, and_true, implies_true] at hok hpre
  try dsimp only [T.den] at hok
  try dsimp only [T.den] at hpre
  unfold W_laws_szInt64SS
  have hr := szR_ge (x := a.length) (r := (a.map (wR (.sl (.int .i64)))).sum) (l := left)
  refine ⟨by grind [cnd, nb_eq, inK64], cnd_d (fun hc => ?_) (fun hc => ?_)⟩
  · simp only [c_laws_szInt64SS]; rw [wR_sl, szR_lt (x := a.length) (by omega)]
  replace hr := hr (by omega)
  rw [szR_val (x := a.length) (by omega)] at hr
  refine loop_of (fun (s : ((Int × (Int × Unit)) × Unit)) => 0 ≤ s.1.1 ∧ 0 ≤ s.1.2.1 ∧ s.1.2.1 ≤ a.length ∧ szR (wR (.sl (.sl (.int .i64))) a) left = szR ((a.drop s.1.2.1.toNat).map (wR (.sl (.int .i64)))).sum s.1.1) (fun (s : ((Int × (Int × Unit)) × Unit)) => (a.length - s.1.2.1).toNat) ?_ ⟨(by first | omega | (dsimp only; omega)), by simp, by simp, by rw [wR_sl]; simpa using hr⟩
  rintro ⟨⟨l, i, _⟩, _⟩ next ⟨h0, h1, h2, h3⟩ hn hin hl
  simp only at h0 h1 h2 h3 hn ⊢
  refine cnd_d (fun hc => ?_) (fun hc => ?_)
  · rw [drop_c a ([] : List Int) h1 hc, List.map_cons, List.sum_cons] at h3
    refine ⟨by omega, by omega, by omega, cnd_d (fun hd => ?_) (fun hd => ?_)⟩
    · rw [szR_neg] at hd
      rw [szR_lt hd] at h3
      simp only [c_laws_szInt64SS]; rw [h3]
    · rw [szR_neg] at hd
      rw [szR_ge hd] at h3
      exact ⟨by grind [cnd, nb_eq, inK64], hn _ ⟨by simp only; rw [szR_val hd]; omega, (by first | omega | (dsimp only; omega)), (by first | omega | (dsimp only; omega)), h3⟩ (by first | omega | (dsimp only; omega))⟩
  · rw [drop_n a (by omega)] at h3
    simp only [List.map_nil, List.sum_nil] at h3
    rw [szR_zero h0] at h3
    simp only [c_laws_szInt64SS]; rw [h3]
theorem ct_laws_szInt64SS : CtOk Try.prog 22 c_laws_szInt64SS :=
  ct_by (Φ := lkp [(32, c_laws_szInt64S)]) (good_cons ct_laws_szInt64S good_nil) tab_ok (by kernel_rfl) (fn := Try.f22) (c := bodyOf Try.f22) (by kernel_rfl) (by kernel_rfl) (by kernel_rfl) c_laws_szInt64SS rfl (.s .n (.s .n (.s .n (.s (.s .n (.l [(1, (.d (.int .i64))), (5, (.d (.int .i64)))] [] [0] .n)) .n)))) (cutL []) (by kernel_rfl) (by kernel_rfl) k_laws_szInt64SS (by decide) (fun x K => W_laws_szInt64SS x.1 x.2.1 K) w_laws_szInt64SS (fun x h1 h2 => m_laws_szInt64SS x.1 x.2.1 h1 h2)
def c_laws_szCategory : Ct := ⟨[CategoryT, (.int .i64)], [true, false], fun x => [-4611404543450677248 ≤ x.2.1], [(false, (.fz (.int .i64)))], fun x => (szR (wR CategoryT x.1) x.2.1, ()), false, none⟩
def W_laws_szCategory (a : CategoryD) (left : Int) (K : Int × Unit → Prop) : Prop := (((-(4611545280939032576 : Int)) ≤ left) ∧ (cnd (decide ((szR (wR (T.sl (T.int IntKind.i64)) a.2.1) left) < (0 : Int))) (K ((-(1 : Int)), ())) (((-(4611545280939032576 : Int)) ≤ (szR (wR (T.sl (T.int IntKind.i64)) a.2.1) left)) ∧ (cnd (decide ((szR (wR (T.sl (T.int IntKind.i64)) a.2.2.1) (szR (wR (T.sl (T.int IntKind.i64)) a.2.1) left)) < (0 : Int))) (K ((-(1 : Int)), ())) (((-(4611545280939032576 : Int)) ≤ (szR (wR (T.sl (T.int IntKind.i64)) a.2.2.1) (szR (wR (T.sl (T.int IntKind.i64)) a.2.1) left))) ∧ (cnd (decide ((szR (wR (T.sl (T.int IntKind.i64)) a.2.2.2.1) (szR (wR (T.sl (T.int IntKind.i64)) a.2.2.1) (szR (wR (T.sl (T.int IntKind.i64)) a.2.1) left))) < (0 : Int))) (K ((-(1 : Int)), ())) (((-(4611404543450677248 : Int)) ≤ (szR (wR (T.sl (T.int IntKind.i64)) a.2.2.2.1) (szR (wR (T.sl (T.int IntKind.i64)) a.2.2.1) (szR (wR (T.sl (T.int IntKind.i64)) a.2.1) left)))) ∧ (cnd (decide ((szR (wR (T.sl (T.sl (T.int IntKind.i64))) a.2.2.2.2) (szR (wR (T.sl (T.int IntKind.i64)) a.2.2.2.1) (szR (wR (T.sl (T.int IntKind.i64)) a.2.2.1) (szR (wR (T.sl (T.int IntKind.i64)) a.2.1) left)))) < (0 : Int))) (K ((-(1 : Int)), ())) (K ((szR (wR (T.sl (T.sl (T.int IntKind.i64))) a.2.2.2.2) (szR (wR (T.sl (T.int IntKind.i64)) a.2.2.2.1) (szR (wR (T.sl (T.int IntKind.i64)) a.2.2.1) (szR (wR (T.sl (T.int IntKind.i64)) a.2.1) left)))), ()))))))))))
theorem w_laws_szCategory (x : denL c_laws_szCategory.args) (K : Int × Unit → Prop) : evF tab (lkp [(32, c_laws_szInt64S), (22, c_laws_szInt64SS)]) (cutL []) Try.f6 (bodyOf Try.f6) .n c_laws_szCategory x K = W_laws_szCategory x.1 x.2.1 K := by kernel_rfl
theorem k_laws_szCategory : okC Try.f6.ntmps (cutL []) (bodyOf Try.f6) = true := by kernel_rfl
theorem m_laws_szCategory (a : CategoryD) (left : Int) (hok : allP (okL c_laws_szCategory.args (a, left, ()))) (hpre : allP (c_laws_szCategory.pre (a, left, ()))) : W_laws_szCategory a left (fun r => r = c_laws_szCategory.res (a, left, ())) := by
  simp only [c_laws_szCategory, okL, T.oks, T.ok, ap, allP, true_and, and_true, implies_true] at hok hpre
  try dsimp only [T.den] at hok
  try dsimp only [T.den] at hpre
  unfold W_laws_szCategory
  simp only [c_laws_szCategory, wR_p, wR_int, wR_bool, Nat.zero_add, Nat.add_zero]
  grind [cnd, nb_eq, inK64, szR]
theorem ct_laws_szCategory : CtOk Try.prog 6 c_laws_szCategory :=
  ct_by (Φ := lkp [(32, c_laws_szInt64S), (22, c_laws_szInt64SS)]) (good_cons ct_laws_szInt64S (good_cons ct_laws_szInt64SS good_nil)) tab_ok (by kernel_rfl) (fn := Try.f6) (c := bodyOf Try.f6) (by kernel_rfl) (by kernel_rfl) (by kernel_rfl) c_laws_szCategory rfl .n (cutL []) (by kernel_rfl) (by kernel_rfl) k_laws_szCategory (by decide) (fun x K => W_laws_szCategory x.1 x.2.1 K) w_laws_szCategory (fun x h1 h2 => m_laws_szCategory x.1 x.2.1 h1 h2)
def c_laws_toInt64S : Ct := ⟨[(.sl (.int .i64))], [false], fun x => [wR (.sl (.int .i64)) x.1 ≤ 1099511627776], [(false, (.sl (.fz (.int .i64))))], fun x => (x.1, ()), false, none⟩
def W_laws_toInt64S (a : List Int) (K : (List Int) × Unit → Prop) : Prop := (((0 : Int) ≤ (((List.length a) : Nat) : Int)) ∧ (((((List.length a) : Nat) : Int) ≤ (((List.length a) : Nat) : Int)) ∧ (((((List.length a) : Nat) : Int) ≤ ((140737488355328 : Nat) : Int)) ∧ ((((((List.length a) : Nat) : Int) * ((8 : Nat) : Int)) ≤ ((140737488355328 : Nat) : Int)) ∧ (loopW (S := ((Unit × (Int × Unit)) × ((List Int) × Unit))) (fun s => (fun next => ((inK IntKind.i64 s.1.2.1) → ((T.ok (T.sl (T.int IntKind.i64)) s.2.1) → (cnd (decide (s.1.2.1 < (((List.length a) : Nat) : Int))) (((0 : Int) ≤ s.1.2.1) ∧ ((s.1.2.1 < (((List.length a) : Nat) : Int)) ∧ (((0 : Int) ≤ s.1.2.1) ∧ ((s.1.2.1 < (((List.length s.2.1) : Nat) : Int)) ∧ ((inK IntKind.i64 (s.1.2.1 + (1 : Int))) ∧ (next (((), ((s.1.2.1 + (1 : Int)), ())), ((List.set s.2.1 (Int.toNat s.1.2.1) (List.getD a (Int.toNat s.1.2.1) (0 : Int))), ())))))))) (K (s.2.1, ()))))))) (((), ((0 : Int), ())), ((List.replicate (Int.toNat (((List.length a) : Nat) : Int)) (0 : Int)), ())))))))
theorem w_laws_toInt64S (x : denL c_laws_toInt64S.args) (K : (List Int) × Unit → Prop) : evF tab (lkp []) (cutL []) Try.f9 (bodyOf Try.f9) (.s .n (.s .n (.s (.s .n (.l [(3, (.ref 7 [])), (4, (.d (.int .i64)))] [(7, (.sl (.fz (.int .i64))))] [0] .n)) .n))) c_laws_toInt64S x K = W_laws_toInt64S x.1 K := by kernel_rfl
theorem k_laws_toInt64S : okC Try.f9.ntmps (cutL []) (bodyOf Try.f9) = true := by kernel_rfl
theorem m_laws_toInt64S (a : List Int) (hok : allP (okL c_laws_toInt64S.args (a, ()))) (hpre : allP (c_laws_toInt64S.pre (a, ()))) : W_laws_toInt64S a (fun r => r = c_laws_toInt64S.res (a, ())) := by
  simp only [c_laws_toInt64S, okL, T.oks, T.ok, ap, allP, true_and, and_true, implies_true] at hok hpre
  try dsimp only [T.den] at hok
  try dsimp only [T.den] at hpre
  unfold W_laws_toInt64S
  rw [wR_sl] at hpre
  refine ⟨by omega, by omega, by first | omega | (rw [nb_eq]; omega), by first | omega | (rw [nb_eq]; omega), ?_⟩
  refine loop_of (fun (s : ((Unit × (Int × Unit)) × ((List Int) × Unit))) => 0 ≤ s.1.2.1 ∧ s.1.2.1 ≤ a.length ∧ s.2.1.length = a.length ∧ s.2.1.take s.1.2.1.toNat = a.take s.1.2.1.toNat) (fun (s : ((Unit × (Int × Unit)) × ((List Int) × Unit))) => (a.length - s.1.2.1).toNat) ?_ (by simp)
  rintro ⟨⟨_, i, _⟩, l, _⟩ next ⟨h0, h1, h2, h3⟩ hn hin hl
  simp only at h0 h1 h2 h3 hn ⊢
  refine cnd_d (fun hc => ?_) (fun hc => ?_)
  · refine ⟨by omega, by omega, by omega, by omega, by grind [cnd, nb_eq, inK64], hn _ ⟨(by first | omega | (dsimp only; omega)), (by first | omega | (dsimp only; omega)), by simp [h2], ?_⟩ (by first | omega | (dsimp only; omega))⟩
    simp only
    rw [take_c a (0 : Int) h0 hc, ← h3]
    exact take_set l h0 (by omega) _
  · rw [take_n a (by omega), take_n l (by omega)] at h3
    simp [h3, c_laws_toInt64S]
theorem ct_laws_toInt64S : CtOk Try.prog 9 c_laws_toInt64S :=
  ct_by (Φ := lkp []) good_nil tab_ok (by kernel_rfl) (fn := Try.f9) (c := bodyOf Try.f9) (by kernel_rfl) (by kernel_rfl) (by kernel_rfl) c_laws_toInt64S rfl (.s .n (.s .n (.s (.s .n (.l [(3, (.ref 7 [])), (4, (.d (.int .i64)))] [(7, (.sl (.fz (.int .i64))))] [0] .n)) .n))) (cutL []) (by kernel_rfl) (by kernel_rfl) k_laws_toInt64S (by decide) (fun x K => W_laws_toInt64S x.1 K) w_laws_toInt64S (fun x h1 h2 => m_laws_toInt64S x.1 h1 h2)
def c_laws_toInt64SS : Ct := ⟨[(.sl (.sl (.int .i64)))], [false], fun x => [wR (.sl (.sl (.int .i64))) x.1 ≤ 1099511627776], [(false, (.sl (.sl (.fz (.int .i64)))))], fun x => (x.1, ()), false, none⟩
def W_laws_toInt64SS (a : List (List Int)) (K : (List (List Int)) × Unit → Prop) : Prop := (((0 : Int) ≤ (((List.length a) : Nat) : Int)) ∧ (((((List.length a) : Nat) : Int) ≤ (((List.length a) : Nat) : Int)) ∧ (((((List.length a) : Nat) : Int) ≤ ((140737488355328 : Nat) : Int)) ∧ ((((((List.length a) : Nat) : Int) * ((24 : Nat) : Int)) ≤ ((140737488355328 : Nat) : Int)) ∧ (loopW (S := ((Unit × (Int × Unit)) × ((List (List Int)) × Unit))) (fun s => (fun next => ((inK IntKind.i64 s.1.2.1) → ((T.ok (T.sl (T.sl (T.int IntKind.i64))) s.2.1) → (cnd (decide (s.1.2.1 < (((List.length a) : Nat) : Int))) (((0 : Int) ≤ s.1.2.1) ∧ ((s.1.2.1 < (((List.length a) : Nat) : Int)) ∧ (((wR (T.sl (T.int IntKind.i64)) (List.getD a (Int.toNat s.1.2.1) ([] : List Int))) ≤ 1099511627776) ∧ (((0 : Int) ≤ s.1.2.1) ∧ ((s.1.2.1 < (((List.length s.2.1) : Nat) : Int)) ∧ ((inK IntKind.i64 (s.1.2.1 + (1 : Int))) ∧ (next (((), ((s.1.2.1 + (1 : Int)), ())), ((List.set s.2.1 (Int.toNat s.1.2.1) (List.getD a (Int.toNat s.1.2.1) ([] : List Int))), ()))))))))) (K (s.2.1, ()))))))) (((), ((0 : Int), ())), ((List.replicate (Int.toNat (((List.length a) : Nat) : Int)) ([] : List Int)), ())))))))
theorem w_laws_toInt64SS (x : denL c_laws_toInt64SS.args) (K : (List (List Int)) × Unit → Prop) : evF tab (lkp [(9, c_laws_toInt64S)]) (cutL []) Try.f25 (bodyOf Try.f25) (.s .n (.s .n (.s (.s .n (.l [(3, (.ref 7 [])), (4, (.d (.int .i64)))] [(7, (.sl (.sl (.fz (.int .i64)))))] [0] .n)) .n))) c_laws_toInt64SS x K = W_laws_toInt64SS x.1 K := by kernel_rfl
theorem k_laws_toInt64SS : okC Try.f25.ntmps (cutL []) (bodyOf Try.f25) = true := by kernel_rfl
theorem m_laws_toInt64SS (a : List (List Int)) (hok : allP (okL c_laws_toInt64SS.args (a, ()))) (hpre : allP (c_laws_toInt64SS.pre (a, ()))) : W_laws_toInt64SS a (fun r => r = c_laws_toInt64SS.res (a, ())) := by
  simp only [c_laws_toInt64SS, okL, T.oks, T.ok, ap, allP, true_and, and_true, implies_true] at hok hpre
  try dsimp only [T.den] at hok
  try dsimp only [T.den] at hpre
  unfold W_laws_toInt64SS
  rw [wR_sl] at hpre
  refine ⟨by omega, by omega, by first | omega | (rw [nb_eq]; omega), by first | omega | (rw [nb_eq]; omega), ?_⟩
  refine loop_of (fun (s : ((Unit × (Int × Unit)) × ((List (List Int)) × Unit))) => 0 ≤ s.1.2.1 ∧ s.1.2.1 ≤ a.length ∧ s.2.1.length = a.length ∧ s.2.1.take s.1.2.1.toNat = a.take s.1.2.1.toNat) (fun (s : ((Unit × (Int × Unit)) × ((List (List Int)) × Unit))) => (a.length - s.1.2.1).toNat) ?_ (by simp)
  rintro ⟨⟨_, i, _⟩, l, _⟩ next ⟨h0, h1, h2, h3⟩ hn hin hl
  simp only at h0 h1 h2 h3 hn ⊢
  refine cnd_d (fun hc => ?_) (fun hc => ?_)
  · have hm := wR_mem (e := (.sl (.int .i64))) (getD_mem a ([] : List Int) h0 hc)
    refine ⟨by omega, by omega, by omega, by omega, by omega, by grind [cnd, nb_eq, inK64], hn _ ⟨(by first | omega | (dsimp only; omega)), (by first | omega | (dsimp only; omega)), by simp [h2], ?_⟩ (by first | omega | (dsimp only; omega))⟩
    simp only
    rw [take_c a ([] : List Int) h0 hc, ← h3]
    exact take_set l h0 (by omega) _
  · rw [take_n a (by omega), take_n l (by omega)] at h3
    simp [h3, c_laws_toInt64SS]
theorem ct_laws_toInt64SS : CtOk Try.prog 25 c_laws_toInt64SS :=
  ct_by (Φ := lkp [(9, c_laws_toInt64S)]) (good_cons ct_laws_toInt64S good_nil) tab_ok (by kernel_rfl) (fn := Try.f25) (c := bodyOf Try.f25) (by kernel_rfl) (by kernel_rfl) (by kernel_rfl) c_laws_toInt64SS rfl (.s .n (.s .n (.s (.s .n (.l [(3, (.ref 7 [])), (4, (.d (.int .i64)))] [(7, (.sl (.sl (.fz (.int .i64)))))] [0] .n)) .n))) (cutL []) (by kernel_rfl) (by kernel_rfl) k_laws_toInt64SS (by decide) (fun x K => W_laws_toInt64SS x.1 K) w_laws_toInt64SS (fun x h1 h2 => m_laws_toInt64SS x.1 h1 h2)
def c_laws_toCategory : Ct := ⟨[CategoryT], [true], fun x => [wR CategoryT x.1 ≤ 1099511627776], [(true, CategoryO)], fun x => (x.1, ()), false, none⟩
def W_laws_toCategory (a : CategoryD) (K : CategoryD × Unit → Prop) : Prop := (((wR (T.sl (T.int IntKind.i64)) a.2.1) ≤ 1099511627776) ∧ (((wR (T.sl (T.int IntKind.i64)) a.2.2.1) ≤ 1099511627776) ∧ (((wR (T.sl (T.int IntKind.i64)) a.2.2.2.1) ≤ 1099511627776) ∧ (((wR (T.sl (T.sl (T.int IntKind.i64))) a.2.2.2.2) ≤ 1099511627776) ∧ (K (a, ()))))))
theorem w_laws_toCategory (x : denL c_laws_toCategory.args) (K : CategoryD × Unit → Prop) : evF tab (lkp [(9, c_laws_toInt64S), (25, c_laws_toInt64SS)]) (cutL []) Try.f8 (bodyOf Try.f8) .n c_laws_toCategory x K = W_laws_toCategory x.1 K := by kernel_rfl
theorem k_laws_toCategory : okC Try.f8.ntmps (cutL []) (bodyOf Try.f8) = true := by kernel_rfl
theorem m_laws_toCategory (a : CategoryD) (hok : allP (okL c_laws_toCategory.args (a, ()))) (hpre : allP (c_laws_toCategory.pre (a, ()))) : W_laws_toCategory a (fun r => r = c_laws_toCategory.res (a, ())) := by
  simp only [c_laws_toCategory, okL, T.oks, T.ok, ap, allP, true_and, and_true, implies_true] at hok hpre
  try dsimp only [T.den] at hok
  try dsimp only [T.den] at hpre
  unfold W_laws_toCategory
  simp only [wR_p, wR_int, wR_bool] at hpre
  repeat' apply And.intro
  all_goals first | rfl | ((try simp only [wR_p, wR_int, wR_bool]); omega)
theorem ct_laws_toCategory : CtOk Try.prog 8 c_laws_toCategory :=
  ct_by (Φ := lkp [(9, c_laws_toInt64S), (25, c_laws_toInt64SS)]) (good_cons ct_laws_toInt64S (good_cons ct_laws_toInt64SS good_nil)) tab_ok (by kernel_rfl) (fn := Try.f8) (c := bodyOf Try.f8) (by kernel_rfl) (by kernel_rfl) (by kernel_rfl) c_laws_toCategory rfl .n (cutL []) (by kernel_rfl) (by kernel_rfl) k_laws_toCategory (by decide) (fun x K => W_laws_toCategory x.1 K) w_laws_toCategory (fun x h1 h2 => m_laws_toCategory x.1 h1 h2)
def c_spec_l01In : Ct := ⟨[(.int .i64), (.int .i64), (.int .i64)], [false, false, false], fun x => [], [(false, (.fz .bool))], fun x => (inR x.1 x.2.1 x.2.2.1, ()), false, none⟩
def W_spec_l01In (n : Int) (low : Int) (high : Int) (K : Bool × Unit → Prop) : Prop := (K (((decide (low ≤ n)) && (decide (n ≤ high))), ()))
theorem w_spec_l01In (x : denL c_spec_l01In.args) (K : Bool × Unit → Prop) : evF tab (lkp []) (cutL []) Try.f84 (bodyOf Try.f84) .n c_spec_l01In x K = W_spec_l01In x.1 x.2.1 x.2.2.1 K := by kernel_rfl
theorem k_spec_l01In : okC Try.f84.ntmps (cutL []) (bodyOf Try.f84) = true := by kernel_rfl
theorem m_spec_l01In (n : Int) (low : Int) (high : Int) (hok : allP (okL c_spec_l01In.args (n, low, high, ()))) (hpre : allP (c_spec_l01In.pre (n, low, high, ()))) : W_spec_l01In n low high (fun r => r = c_spec_l01In.res (n, low, high, ())) := by
  simp only [c_spec_l01In, okL, T.oks, T.ok, ap, allP, true_and, and_true, implies_true] at hok hpre
  try dsimp only [T.den] at hok
  try dsimp only [T.den] at hpre
  unfold W_spec_l01In
  grind [cnd, nb_eq, inK64, c_spec_l01In, inR]
theorem ct_spec_l01In : CtOk Try.prog 84 c_spec_l01In :=
  ct_by (Φ := lkp []) good_nil tab_ok (by kernel_rfl) (fn := Try.f84) (c := bodyOf Try.f84) (by kernel_rfl) (by kernel_rfl) (by kernel_rfl) c_spec_l01In rfl .n (cutL []) (by kernel_rfl) (by kernel_rfl) k_spec_l01In (by decide) (fun x K => W_spec_l01In x.1 x.2.1 x.2.2.1 K) w_spec_l01In (fun x h1 h2 => m_spec_l01In x.1 x.2.1 x.2.2.1 h1 h2)
def c_spec_l01Map : Ct := ⟨[(.int .i64), (.sl (.int .i64))], [false, false], fun x => [], [(false, (.fz .bool))], fun x => (withinR x.2.1 x.1, ()), false, none⟩
def W_spec_l01Map (n : Int) (f : List Int) (K : Bool × Unit → Prop) : Prop := (loopW (S := ((Int × Unit) × Unit)) (fun s => (fun next => ((inK IntKind.i64 s.1.1) → (cnd (decide (s.1.1 < (((List.length f) : Nat) : Int))) (((0 : Int) ≤ s.1.1) ∧ ((s.1.1 < (((List.length f) : Nat) : Int)) ∧ ((((decide ((List.getD f (Int.toNat s.1.1) (0 : Int)) < (0 : Int))) = Bool.false) → ((s.1.1 < (((List.length f) : Nat) : Int)) ∧ ((0 : Int) ≤ s.1.1))) ∧ (cnd ((decide ((List.getD f (Int.toNat s.1.1) (0 : Int)) < (0 : Int))) || (decide (n ≤ (List.getD f (Int.toNat s.1.1) (0 : Int))))) (K (Bool.false, ())) ((inK IntKind.i64 (s.1.1 + (1 : Int))) ∧ (next (((s.1.1 + (1 : Int)), ()), ()))))))) (K (Bool.true, ())))))) (((0 : Int), ()), ()))
theorem w_spec_l01Map (x : denL c_spec_l01Map.args) (K : Bool × Unit → Prop) : evF tab (lkp []) (cutL []) Try.f58 (bodyOf Try.f58) (.s .n (.s (.s .n (.l [(5, (.d (.int .i64)))] [] [0, 1] .n)) .n)) c_spec_l01Map x K = W_spec_l01Map x.1 x.2.1 K := by kernel_rfl
theorem k_spec_l01Map : okC Try.f58.ntmps (cutL []) (bodyOf Try.f58) = true := by kernel_rfl
theorem m_spec_l01Map (n : Int) (f : List Int) (hok : allP (okL c_spec_l01Map.args (n, f, ()))) (hpre : allP (c_spec_l01Map.pre (n, f, ()))) : W_spec_l01Map n f (fun r => r = c_spec_l01Map.res (n, f, ())) := by
  simp only [c_spec_l01Map, okL, T.oks, T.ok, ap, allP, true_and, and_true, implies_true] at hok hpre
  try dsimp only [T.den] at hok
  try dsimp only [T.den] at hpre
  unfold W_spec_l01Map
  refine loop_of (fun (s : ((Int × Unit) × Unit)) => 0 ≤ s.1.1 ∧ s.1.1 ≤ f.length ∧ withinR f n = withinR (f.drop s.1.1.toNat) n) (fun (s : ((Int × Unit) × Unit)) => (f.length - s.1.1).toNat) ?_ (by simp)
  rintro ⟨⟨i, _⟩, _⟩ next ⟨h0, h1, h2⟩ hn hin
  simp only at h0 h1 h2 hn ⊢
  refine cnd_d (fun hc => ?_) (fun hc => ?_)
  · rw [drop_c f 0 h0 hc] at h2
    simp only [withinR, List.all_cons] at h2
    grind [cnd, nb_eq, inK64, c_spec_l01Map, withinR, inR]
  · rw [drop_n f (by omega)] at h2
    grind [cnd, nb_eq, inK64, c_spec_l01Map, withinR]
theorem ct_spec_l01Map : CtOk Try.prog 58 c_spec_l01Map :=
  ct_by (Φ := lkp []) good_nil tab_ok (by kernel_rfl) (fn := Try.f58) (c := bodyOf Try.f58) (by kernel_rfl) (by kernel_rfl) (by kernel_rfl) c_spec_l01Map rfl (.s .n (.s (.s .n (.l [(5, (.d (.int .i64)))] [] [0, 1] .n)) .n)) (cutL []) (by kernel_rfl) (by kernel_rfl) k_spec_l01Map (by decide) (fun x K => W_spec_l01Map x.1 x.2.1 K) w_spec_l01Map (fun x h1 h2 => m_spec_l01Map x.1 x.2.1 h1 h2)
def c_spec_l02Ends : Ct := ⟨[(.sl (.int .i64)), (.int .i64), (.int .i64)], [false, false, false], fun x => [], [(false, (.fz .bool))], fun x => ((decide ((x.1.length : Int) = x.2.1) && withinR x.1 x.2.2.1), ()), false, none⟩
def W_spec_l02Ends (list : List Int) (length : Int) (objects : Int) (K : Bool × Unit → Prop) : Prop := (K ((((((List.length list) : Nat) : Int) == length) && (withinR list objects)), ()))
theorem w_spec_l02Ends (x : denL c_spec_l02Ends.args) (K : Bool × Unit → Prop) : evF tab (lkp [(58, c_spec_l01Map)]) (cutL []) Try.f85 (bodyOf Try.f85) .n c_spec_l02Ends x K = W_spec_l02Ends x.1 x.2.1 x.2.2.1 K := by kernel_rfl
theorem k_spec_l02Ends : okC Try.f85.ntmps (cutL []) (bodyOf Try.f85) = true := by kernel_rfl
theorem m_spec_l02Ends (list : List Int) (length : Int) (objects : Int) (hok : allP (okL c_spec_l02Ends.args (list, length, objects, ()))) (hpre : allP (c_spec_l02Ends.pre (list, length, objects, ()))) : W_spec_l02Ends list length objects (fun r => r = c_spec_l02Ends.res (list, length, objects, ())) := by
  simp only [c_spec_l02Ends, okL, T.oks, T.ok, ap, allP, true_and, and_true, implies_true] at hok hpre
  try dsimp only [T.den] at hok
  try dsimp only [T.den] at hpre
  unfold W_spec_l02Ends
  have : ((list.length : Int) == length) = decide ((list.length : Int) = length) := rfl
  simp only [c_spec_l02Ends, this]
theorem ct_spec_l02Ends : CtOk Try.prog 85 c_spec_l02Ends :=
  ct_by (Φ := lkp [(58, c_spec_l01Map)]) (good_cons ct_spec_l01Map good_nil) tab_ok (by kernel_rfl) (fn := Try.f85) (c := bodyOf Try.f85) (by kernel_rfl) (by kernel_rfl) (by kernel_rfl) c_spec_l02Ends rfl .n (cutL []) (by kernel_rfl) (by kernel_rfl) k_spec_l02Ends (by decide) (fun x K => W_spec_l02Ends x.1 x.2.1 x.2.2.1 K) w_spec_l02Ends (fun x h1 h2 => m_spec_l02Ends x.1 x.2.1 x.2.2.1 h1 h2)
def c_spec_IsShape : Ct := ⟨[CategoryT], [true], fun x => [], [(false, (.fz .bool))], fun x => (shapeR x.1, ()), false, none⟩
def W_spec_IsShape (c : CategoryD) (K : Bool × Unit → Prop) : Prop := (cnd (((((!(inR c.1 (0 : Int) (8 : Int))) || (decide ((40 : Int) < (((List.length c.2.1) : Nat) : Int)))) || (!((decide ((((List.length c.2.1) : Nat) : Int) = (((List.length c.2.1) : Nat) : Int))) && (withinR c.2.1 c.1)))) || (!((decide ((((List.length c.2.2.1) : Nat) : Int) = (((List.length c.2.1) : Nat) : Int))) && (withinR c.2.2.1 c.1)))) || ((((List.length c.2.2.2.2) : Nat) : Int) != (((List.length c.2.1) : Nat) : Int))) (K (Bool.false, ())) (cnd (((((List.length c.2.2.2.1) : Nat) : Int) != c.1) || (!(withinR c.2.2.2.1 (((List.length c.2.1) : Nat) : Int)))) (K (Bool.false, ())) (loopW (S := ((Int × Unit) × Unit)) (fun s => (fun next => ((inK IntKind.i64 s.1.1) → (cnd (decide (s.1.1 < c.1)) (((0 : Int) ≤ s.1.1) ∧ ((s.1.1 < (((List.length c.2.2.2.1) : Nat) : Int)) ∧ (((0 : Int) ≤ (List.getD c.2.2.2.1 (Int.toNat s.1.1) (0 : Int))) ∧ (((List.getD c.2.2.2.1 (Int.toNat s.1.1) (0 : Int)) < (((List.length c.2.1) : Nat) : Int)) ∧ (((((List.getD c.2.1 (Int.toNat (List.getD c.2.2.2.1 (Int.toNat s.1.1) (0 : Int))) (0 : Int)) != s.1.1) = Bool.false) → ((s.1.1 < (((List.length c.2.2.2.1) : Nat) : Int)) ∧ ((0 : Int) ≤ s.1.1))) ∧ (((((List.getD c.2.1 (Int.toNat (List.getD c.2.2.2.1 (Int.toNat s.1.1) (0 : Int))) (0 : Int)) != s.1.1) = Bool.false) → (((List.getD c.2.2.2.1 (Int.toNat s.1.1) (0 : Int)) < (((List.length c.2.2.1) : Nat) : Int)) ∧ ((0 : Int) ≤ (List.getD c.2.2.2.1 (Int.toNat s.1.1) (0 : Int))))) ∧ (cnd (((List.getD c.2.1 (Int.toNat (List.getD c.2.2.2.1 (Int.toNat s.1.1) (0 : Int))) (0 : Int)) != s.1.1) || ((List.getD c.2.2.1 (Int.toNat (List.getD c.2.2.2.1 (Int.toNat s.1.1) (0 : Int))) (0 : Int)) != s.1.1)) (K (Bool.false, ())) ((inK IntKind.i64 (s.1.1 + (1 : Int))) ∧ (next (((s.1.1 + (1 : Int)), ()), ())))))))))) (loopW (S := ((Int × Unit) × Unit)) (fun s1 => (fun next1 => ((inK IntKind.i64 s1.1.1) → (cnd (decide (s1.1.1 < (((List.length c.2.1) : Nat) : Int))) (((0 : Int) ≤ s1.1.1) ∧ ((s1.1.1 < (((List.length c.2.2.2.2) : Nat) : Int)) ∧ (cnd ((((List.length (List.getD c.2.2.2.2 (Int.toNat s1.1.1) ([] : List Int))) : Nat) : Int) != (((List.length c.2.1) : Nat) : Int)) (K (Bool.false, ())) (loopW (S := ((Int × Unit) × Unit)) (fun s2 => (fun next2 => ((inK IntKind.i64 s2.1.1) → (cnd (decide (s2.1.1 < (((List.length c.2.1) : Nat) : Int))) (joinW (S := (Unit × Unit)) (fun s3 => ((inK IntKind.i64 (s2.1.1 + (1 : Int))) ∧ (next2 (((s2.1.1 + (1 : Int)), ()), ())))) (fun k => (((0 : Int) ≤ s1.1.1) ∧ ((s1.1.1 < (((List.length c.2.2.2.2) : Nat) : Int)) ∧ (((0 : Int) ≤ s2.1.1) ∧ ((s2.1.1 < (((List.length (List.getD c.2.2.2.2 (Int.toNat s1.1.1) ([] : List Int))) : Nat) : Int)) ∧ (((0 : Int) ≤ s1.1.1) ∧ ((s1.1.1 < (((List.length c.2.2.1) : Nat) : Int)) ∧ (((0 : Int) ≤ s2.1.1) ∧ ((s2.1.1 < (((List.length c.2.1) : Nat) : Int)) ∧ (cnd ((List.getD c.2.2.1 (Int.toNat s1.1.1) (0 : Int)) != (List.getD c.2.1 (Int.toNat s2.1.1) (0 : Int))) (cnd ((List.getD (List.getD c.2.2.2.2 (Int.toNat s1.1.1) ([] : List Int)) (Int.toNat s2.1.1) (0 : Int)) != (-(1 : Int))) (K (Bool.false, ())) (k ((), ()))) (((((decide ((List.getD (List.getD c.2.2.2.2 (Int.toNat s1.1.1) ([] : List Int)) (Int.toNat s2.1.1) (0 : Int)) < (0 : Int))) || (decide ((((List.length c.2.1) : Nat) : Int) ≤ (List.getD (List.getD c.2.2.2.2 (Int.toNat s1.1.1) ([] : List Int)) (Int.toNat s2.1.1) (0 : Int))))) = Bool.false) → (((List.getD (List.getD c.2.2.2.2 (Int.toNat s1.1.1) ([] : List Int)) (Int.toNat s2.1.1) (0 : Int)) < (((List.length c.2.1) : Nat) : Int)) ∧ ((0 : Int) ≤ (List.getD (List.getD c.2.2.2.2 (Int.toNat s1.1.1) ([] : List Int)) (Int.toNat s2.1.1) (0 : Int))))) ∧ (((((decide ((List.getD (List.getD c.2.2.2.2 (Int.toNat s1.1.1) ([] : List Int)) (Int.toNat s2.1.1) (0 : Int)) < (0 : Int))) || (decide ((((List.length c.2.1) : Nat) : Int) ≤ (List.getD (List.getD c.2.2.2.2 (Int.toNat s1.1.1) ([] : List Int)) (Int.toNat s2.1.1) (0 : Int))))) = Bool.false) → ((s1.1.1 < (((List.length c.2.1) : Nat) : Int)) ∧ ((0 : Int) ≤ s1.1.1))) ∧ ((((((decide ((List.getD (List.getD c.2.2.2.2 (Int.toNat s1.1.1) ([] : List Int)) (Int.toNat s2.1.1) (0 : Int)) < (0 : Int))) || (decide ((((List.length c.2.1) : Nat) : Int) ≤ (List.getD (List.getD c.2.2.2.2 (Int.toNat s1.1.1) ([] : List Int)) (Int.toNat s2.1.1) (0 : Int))))) || ((List.getD c.2.1 (Int.toNat (List.getD (List.getD c.2.2.2.2 (Int.toNat s1.1.1) ([] : List Int)) (Int.toNat s2.1.1) (0 : Int))) (0 : Int)) != (List.getD c.2.1 (Int.toNat s1.1.1) (0 : Int)))) = Bool.false) → (((List.getD (List.getD c.2.2.2.2 (Int.toNat s1.1.1) ([] : List Int)) (Int.toNat s2.1.1) (0 : Int)) < (((List.length c.2.2.1) : Nat) : Int)) ∧ ((0 : Int) ≤ (List.getD (List.getD c.2.2.2.2 (Int.toNat s1.1.1) ([] : List Int)) (Int.toNat s2.1.1) (0 : Int))))) ∧ ((((((decide ((List.getD (List.getD c.2.2.2.2 (Int.toNat s1.1.1) ([] : List Int)) (Int.toNat s2.1.1) (0 : Int)) < (0 : Int))) || (decide ((((List.length c.2.1) : Nat) : Int) ≤ (List.getD (List.getD c.2.2.2.2 (Int.toNat s1.1.1) ([] : List Int)) (Int.toNat s2.1.1) (0 : Int))))) || ((List.getD c.2.1 (Int.toNat (List.getD (List.getD c.2.2.2.2 (Int.toNat s1.1.1) ([] : List Int)) (Int.toNat s2.1.1) (0 : Int))) (0 : Int)) != (List.getD c.2.1 (Int.toNat s1.1.1) (0 : Int)))) = Bool.false) → ((s2.1.1 < (((List.length c.2.2.1) : Nat) : Int)) ∧ ((0 : Int) ≤ s2.1.1))) ∧ (cnd ((((decide ((List.getD (List.getD c.2.2.2.2 (Int.toNat s1.1.1) ([] : List Int)) (Int.toNat s2.1.1) (0 : Int)) < (0 : Int))) || (decide ((((List.length c.2.1) : Nat) : Int) ≤ (List.getD (List.getD c.2.2.2.2 (Int.toNat s1.1.1) ([] : List Int)) (Int.toNat s2.1.1) (0 : Int))))) || ((List.getD c.2.1 (Int.toNat (List.getD (List.getD c.2.2.2.2 (Int.toNat s1.1.1) ([] : List Int)) (Int.toNat s2.1.1) (0 : Int))) (0 : Int)) != (List.getD c.2.1 (Int.toNat s1.1.1) (0 : Int)))) || ((List.getD c.2.2.1 (Int.toNat (List.getD (List.getD c.2.2.2.2 (Int.toNat s1.1.1) ([] : List Int)) (Int.toNat s2.1.1) (0 : Int))) (0 : Int)) != (List.getD c.2.2.1 (Int.toNat s2.1.1) (0 : Int)))) (K (Bool.false, ())) (k ((), ())))))))))))))))))) ((inK IntKind.i64 (s1.1.1 + (1 : Int))) ∧ (next1 (((s1.1.1 + (1 : Int)), ()), ()))))))) (((0 : Int), ()), ()))))) (K (Bool.true, ())))))) (((0 : Int), ()), ())))))) (((0 : Int), ()), ()))))
theorem w_spec_IsShape (x : denL c_spec_IsShape.args) (K : Bool × Unit → Prop) : evF tab (lkp [(84, c_spec_l01In), (58, c_spec_l01Map), (85, c_spec_l02Ends)]) (cutL [(20, 11), (23, 33), (9, 24)]) Try.f56 (bodyOf Try.f56) (.s .n (.s .n (.s .n (.s .n (.s (.s .n (.l [(4, (.d (.int .i64)))] [] [1, 3] .n)) (.s (.s .n (.l [(5, (.d (.int .i64)))] [] [1, 3] (.s .n (.s (.s .n (.s .n (.l [(6, (.d (.int .i64)))] [] [1, 3, 5] (.s .n (.s (.j [] [] [1, 3, 5, 6] .n) .n))))) .n)))) .n)))))) c_spec_IsShape x K = W_spec_IsShape x.1 K := by kernel_rfl
theorem k_spec_IsShape : okC Try.f56.ntmps (cutL [(20, 11), (23, 33), (9, 24)]) (bodyOf Try.f56) = true := by kernel_rfl
theorem m_spec_IsShape (c : CategoryD) (hok : allP (okL c_spec_IsShape.args (c, ()))) (hpre : allP (c_spec_IsShape.pre (c, ()))) : W_spec_IsShape c (fun r => r = c_spec_IsShape.res (c, ())) := by
  simp only [c_spec_IsShape, okL, T.oks, T.ok, ap, allP, true_and, and_true, implies_true] at hok hpre
  try dsimp only [T.den] at hok
  try dsimp only [T.den] at hpre
  unfold W_spec_IsShape
  have bad : ¬ ShapeP c → (false, ()) = c_spec_IsShape.res (c, ()) := fun h => by simp only [c_spec_IsShape]; rw [shape_f h]
  refine cnd_of (fun hc => bad fun h => ?_) (fun hc => cnd_of (fun hd => bad fun h => ?_) (fun hd => ?_))
  · have h1 := h.ob; have h2 := h.m; have h3 := h.lt; have h4 := h.fr; have h5 := h.to; have h6 := h.lc; simp only [inR] at hc; grind [cnd, nb_eq, inK64]
  · have h1 := h.li; have h2 := h.ids; grind [cnd, nb_eq, inK64]
  simp only [inR, Bool.or_eq_false_iff, Bool.not_eq_false', Bool.and_eq_true, decide_eq_true_eq, decide_eq_false_iff_not, bne_eq_false_iff_eq] at hc hd
  obtain ⟨⟨⟨⟨hob, hm⟩, _, hfr⟩, hlt, hto⟩, hlc⟩ := hc
  obtain ⟨hli, hids⟩ := hd
  refine loop_ix (n := c.1) (fun x => ∀ y : Int, 0 ≤ y → y < x → c.2.1.getD (c.2.2.2.1.getD y.toNat 0).toNat 0 = y ∧ c.2.2.1.getD (c.2.2.2.1.getD y.toNat 0).toNat 0 = y) (by omega) (by intro y h0 h1; omega) ?_ ?_
  · intro x next h0 h1 hP hn hin
    have hb := within_iff.1 hids x h0 (by omega)
    try dsimp only
    refine cnd_d (fun _ => ⟨h0, by omega, hb.1, hb.2, fun _ => by omega, fun _ => by omega, cnd_of (fun hx => bad fun h => ?_) (fun hx => ?_)⟩) (fun h => absurd h1 h)
    · have := h.idt x h0 (by omega)
      rw [this.1, this.2] at hx
      simp at hx
    · simp only [Bool.or_eq_false_iff, bne_eq_false_iff_eq] at hx
      refine ⟨by rw [inK64]; (try dsimp only); omega, hn fun y y0 y1 => ?_⟩
      by_cases e : y = x
      · rw [e]; exact hx
      · exact hP y y0 (by omega)
  intro next hidt hin
  refine cnd_d (fun h => absurd h (by dsimp only; omega)) (fun _ => ?_)
  refine loop_ix (n := c.2.1.length) (fun f => ∀ f' : Int, 0 ≤ f' → f' < f → (c.2.2.2.2.getD f'.toNat []).length = c.2.1.length ∧ ∀ g : Int, 0 ≤ g → g < c.2.1.length → cellR c f' g = true) (by omega) (by intro y h0 h1; omega) ?_ ?_
  · intro f next h0 h1 hP hn hin
    try dsimp only
    refine cnd_d (fun _ => ⟨h0, by omega, cnd_of (fun hx => bad fun h => ?_) (fun hx => ?_)⟩) (fun h => absurd h1 h)
    · have := h.row f h0 (by omega)
      rw [this] at hx
      simp at hx
    simp only [bne_eq_false_iff_eq] at hx
    refine loop_ix (n := c.2.1.length) (fun g => ∀ g' : Int, 0 ≤ g' → g' < g → cellR c f g' = true) (by omega) (by intro y h0 h1; omega) ?_ ?_
    · intro g next3 g0 g1 hP3 hn3 hin3
      try dsimp only
      refine cnd_d (fun _ => ?_) (fun h => absurd g1 h)
      refine join_of (fun _ => cellR c f g = true) (fun _ hcell => ⟨by rw [inK64]; (try dsimp only); omega, hn3 fun g' y0 y1 => ?_⟩) (fun k hk => ?_)
      · by_cases e : g' = g
        · rw [e]; exact hcell
        · exact hP3 g' y0 (by omega)
      have hcell : ∀ b, cellR c f g = b → b = false → ¬ ShapeP c := fun b h1 h2 h => by
        have := h.cell f g h0 (by omega) g0 (by omega)
        rw [h1, h2] at this; cases this
      have hk' := hk ((), ())
      obtain ⟨v, hv⟩ : ∃ v, (c.2.2.2.2.getD f.toNat []).getD g.toNat 0 = v := ⟨_, rfl⟩
      have hR : cellR c f g = cellQ c f g v := by unfold cellR compR; rw [hv]
      rw [hR] at hk'
      rw [hR] at hcell
      rw [hv]
      clear hP3 hn3 hP hn hk hR hv hidt hok
      refine ⟨h0, by omega, g0, by omega, h0, by omega, g0, by omega, cnd_of (fun ha => cnd_of (fun hb => bad ?_) (fun hb => hk' ?_)) (fun ha => ⟨fun hv => ?_, fun _ => ⟨by omega, h0⟩, fun hv => ?_, fun _ => ⟨by omega, g0⟩, cnd_of (fun hb => bad ?_) (fun hb => hk' ?_)⟩)⟩
      · exact hcell _ rfl (by grind [cnd, nb_eq, inK64, cellQ])
      · grind [cnd, nb_eq, inK64, cellQ]
      · simp only [Bool.or_eq_false_iff, decide_eq_false_iff_not] at hv; omega
      · simp only [Bool.or_eq_false_iff, decide_eq_false_iff_not] at hv; omega
      · exact hcell _ rfl (by grind [cnd, nb_eq, inK64, cellQ])
      · grind [cnd, nb_eq, inK64, cellQ]
    · intro next3 hP3 hin3
      refine cnd_d (fun h => absurd h (by dsimp only; omega)) (fun _ => ⟨by rw [inK64]; (try dsimp only); omega, hn fun f' y0 y1 => ?_⟩)
      by_cases e : f' = f
      · rw [e]; exact ⟨by omega, fun g g0 g1 => hP3 g g0 (by omega)⟩
      · exact hP f' y0 (by omega)
  · intro next2 hP2 hin2
    refine cnd_d (fun h => absurd h (by dsimp only; omega)) (fun _ => ?_)
    simp only [c_spec_IsShape]
    rw [shape_t ⟨hob, by omega, by omega, hfr, hto, by omega, hids, by omega, fun x a b => hidt x a (by omega), fun f a b => (hP2 f a (by omega)).1, fun f g a b d e => (hP2 f a (by omega)).2 g d e⟩]
theorem ct_spec_IsShape : CtOk Try.prog 56 c_spec_IsShape :=
  ct_by (Φ := lkp [(84, c_spec_l01In), (58, c_spec_l01Map), (85, c_spec_l02Ends)]) (good_cons ct_spec_l01In (good_cons ct_spec_l01Map (good_cons ct_spec_l02Ends good_nil))) tab_ok (by kernel_rfl) (fn := Try.f56) (c := bodyOf Try.f56) (by kernel_rfl) (by kernel_rfl) (by kernel_rfl) c_spec_IsShape rfl (.s .n (.s .n (.s .n (.s .n (.s (.s .n (.l [(4, (.d (.int .i64)))] [] [1, 3] .n)) (.s (.s .n (.l [(5, (.d (.int .i64)))] [] [1, 3] (.s .n (.s (.s .n (.s .n (.l [(6, (.d (.int .i64)))] [] [1, 3, 5] (.s .n (.s (.j [] [] [1, 3, 5, 6] .n) .n))))) .n)))) .n)))))) (cutL [(20, 11), (23, 33), (9, 24)]) (by kernel_rfl) (by kernel_rfl) k_spec_IsShape (by decide) (fun x K => W_spec_IsShape x.1 K) w_spec_IsShape (fun x h1 h2 => m_spec_IsShape x.1 h1 h2)
def c_spec_l02Fault : Ct := ⟨[CategoryT], [true], fun x => [ShapeP x.1], [(false, (.fz (.int .i64))), (false, (.fz (.int .i64))), (false, (.fz (.int .i64))), (false, (.fz (.int .i64)))], fun x => ((faultR x.1).1, (faultR x.1).2.1, (faultR x.1).2.2.1, (faultR x.1).2.2.2, ()), false, none⟩
def W_spec_l02Fault (c : CategoryD) (K : Int × Int × Int × Int × Unit → Prop) : Prop := (loopW (S := ((Int × Unit) × Unit)) (fun s => (fun next => ((inK IntKind.i64 s.1.1) → (cnd (decide (s.1.1 < (((List.length c.2.1) : Nat) : Int))) (((0 : Int) ≤ s.1.1) ∧ ((s.1.1 < (((List.length c.2.1) : Nat) : Int)) ∧ (((0 : Int) ≤ (List.getD c.2.1 (Int.toNat s.1.1) (0 : Int))) ∧ (((List.getD c.2.1 (Int.toNat s.1.1) (0 : Int)) < (((List.length c.2.2.2.1) : Nat) : Int)) ∧ (((0 : Int) ≤ (List.getD c.2.2.2.1 (Int.toNat (List.getD c.2.1 (Int.toNat s.1.1) (0 : Int))) (0 : Int))) ∧ (((List.getD c.2.2.2.1 (Int.toNat (List.getD c.2.1 (Int.toNat s.1.1) (0 : Int))) (0 : Int)) < (((List.length c.2.2.2.2) : Nat) : Int)) ∧ (((0 : Int) ≤ s.1.1) ∧ ((s.1.1 < (((List.length (List.getD c.2.2.2.2 (Int.toNat (List.getD c.2.2.2.1 (Int.toNat (List.getD c.2.1 (Int.toNat s.1.1) (0 : Int))) (0 : Int))) ([] : List Int))) : Nat) : Int)) ∧ (((((List.getD (List.getD c.2.2.2.2 (Int.toNat (List.getD c.2.2.2.1 (Int.toNat (List.getD c.2.1 (Int.toNat s.1.1) (0 : Int))) (0 : Int))) ([] : List Int)) (Int.toNat s.1.1) (0 : Int)) != s.1.1) = Bool.false) → ((s.1.1 < (((List.length c.2.2.2.2) : Nat) : Int)) ∧ ((0 : Int) ≤ s.1.1))) ∧ (((((List.getD (List.getD c.2.2.2.2 (Int.toNat (List.getD c.2.2.2.1 (Int.toNat (List.getD c.2.1 (Int.toNat s.1.1) (0 : Int))) (0 : Int))) ([] : List Int)) (Int.toNat s.1.1) (0 : Int)) != s.1.1) = Bool.false) → ((s.1.1 < (((List.length c.2.2.1) : Nat) : Int)) ∧ ((0 : Int) ≤ s.1.1))) ∧ (((((List.getD (List.getD c.2.2.2.2 (Int.toNat (List.getD c.2.2.2.1 (Int.toNat (List.getD c.2.1 (Int.toNat s.1.1) (0 : Int))) (0 : Int))) ([] : List Int)) (Int.toNat s.1.1) (0 : Int)) != s.1.1) = Bool.false) → (((List.getD c.2.2.1 (Int.toNat s.1.1) (0 : Int)) < (((List.length c.2.2.2.1) : Nat) : Int)) ∧ ((0 : Int) ≤ (List.getD c.2.2.1 (Int.toNat s.1.1) (0 : Int))))) ∧ (((((List.getD (List.getD c.2.2.2.2 (Int.toNat (List.getD c.2.2.2.1 (Int.toNat (List.getD c.2.1 (Int.toNat s.1.1) (0 : Int))) (0 : Int))) ([] : List Int)) (Int.toNat s.1.1) (0 : Int)) != s.1.1) = Bool.false) → (((List.getD c.2.2.2.1 (Int.toNat (List.getD c.2.2.1 (Int.toNat s.1.1) (0 : Int))) (0 : Int)) < (((List.length (List.getD c.2.2.2.2 (Int.toNat s.1.1) ([] : List Int))) : Nat) : Int)) ∧ ((0 : Int) ≤ (List.getD c.2.2.2.1 (Int.toNat (List.getD c.2.2.1 (Int.toNat s.1.1) (0 : Int))) (0 : Int))))) ∧ (cnd (((List.getD (List.getD c.2.2.2.2 (Int.toNat (List.getD c.2.2.2.1 (Int.toNat (List.getD c.2.1 (Int.toNat s.1.1) (0 : Int))) (0 : Int))) ([] : List Int)) (Int.toNat s.1.1) (0 : Int)) != s.1.1) || ((List.getD (List.getD c.2.2.2.2 (Int.toNat s.1.1) ([] : List Int)) (Int.toNat (List.getD c.2.2.2.1 (Int.toNat (List.getD c.2.2.1 (Int.toNat s.1.1) (0 : Int))) (0 : Int))) (0 : Int)) != s.1.1)) (K ((1 : Int), (s.1.1, ((0 : Int), ((0 : Int), ()))))) ((inK IntKind.i64 (s.1.1 + (1 : Int))) ∧ (next (((s.1.1 + (1 : Int)), ()), ())))))))))))))))) (loopW (S := ((Int × Unit) × Unit)) (fun s1 => (fun next1 => ((inK IntKind.i64 s1.1.1) → (cnd (decide (s1.1.1 < (((List.length c.2.1) : Nat) : Int))) (loopW (S := ((Int × Unit) × Unit)) (fun s2 => (fun next2 => ((inK IntKind.i64 s2.1.1) → (cnd (decide (s2.1.1 < (((List.length c.2.1) : Nat) : Int))) (joinW (S := (Unit × Unit)) (fun s3 => ((inK IntKind.i64 (s2.1.1 + (1 : Int))) ∧ (next2 (((s2.1.1 + (1 : Int)), ()), ())))) (fun k => (((0 : Int) ≤ s1.1.1) ∧ ((s1.1.1 < (((List.length c.2.2.1) : Nat) : Int)) ∧ (((0 : Int) ≤ s2.1.1) ∧ ((s2.1.1 < (((List.length c.2.1) : Nat) : Int)) ∧ (cnd ((List.getD c.2.2.1 (Int.toNat s1.1.1) (0 : Int)) != (List.getD c.2.1 (Int.toNat s2.1.1) (0 : Int))) (k ((), ())) (loopW (S := ((Int × Unit) × Unit)) (fun s3 => (fun next3 => ((inK IntKind.i64 s3.1.1) → (cnd (decide (s3.1.1 < (((List.length c.2.1) : Nat) : Int))) (((0 : Int) ≤ s2.1.1) ∧ ((s2.1.1 < (((List.length c.2.2.1) : Nat) : Int)) ∧ (((0 : Int) ≤ s3.1.1) ∧ ((s3.1.1 < (((List.length c.2.1) : Nat) : Int)) ∧ (((((List.getD c.2.2.1 (Int.toNat s2.1.1) (0 : Int)) == (List.getD c.2.1 (Int.toNat s3.1.1) (0 : Int))) = Bool.true) → ((s1.1.1 < (((List.length c.2.2.2.2) : Nat) : Int)) ∧ ((0 : Int) ≤ s1.1.1))) ∧ (((((List.getD c.2.2.1 (Int.toNat s2.1.1) (0 : Int)) == (List.getD c.2.1 (Int.toNat s3.1.1) (0 : Int))) = Bool.true) → ((s2.1.1 < (((List.length (List.getD c.2.2.2.2 (Int.toNat s1.1.1) ([] : List Int))) : Nat) : Int)) ∧ ((0 : Int) ≤ s2.1.1))) ∧ (((((List.getD c.2.2.1 (Int.toNat s2.1.1) (0 : Int)) == (List.getD c.2.1 (Int.toNat s3.1.1) (0 : Int))) = Bool.true) → (((List.getD (List.getD c.2.2.2.2 (Int.toNat s1.1.1) ([] : List Int)) (Int.toNat s2.1.1) (0 : Int)) < (((List.length c.2.2.2.2) : Nat) : Int)) ∧ ((0 : Int) ≤ (List.getD (List.getD c.2.2.2.2 (Int.toNat s1.1.1) ([] : List Int)) (Int.toNat s2.1.1) (0 : Int))))) ∧ (((((List.getD c.2.2.1 (Int.toNat s2.1.1) (0 : Int)) == (List.getD c.2.1 (Int.toNat s3.1.1) (0 : Int))) = Bool.true) → ((s3.1.1 < (((List.length (List.getD c.2.2.2.2 (Int.toNat (List.getD (List.getD c.2.2.2.2 (Int.toNat s1.1.1) ([] : List Int)) (Int.toNat s2.1.1) (0 : Int))) ([] : List Int))) : Nat) : Int)) ∧ ((0 : Int) ≤ s3.1.1))) ∧ (((((List.getD c.2.2.1 (Int.toNat s2.1.1) (0 : Int)) == (List.getD c.2.1 (Int.toNat s3.1.1) (0 : Int))) = Bool.true) → ((s1.1.1 < (((List.length c.2.2.2.2) : Nat) : Int)) ∧ ((0 : Int) ≤ s1.1.1))) ∧ (((((List.getD c.2.2.1 (Int.toNat s2.1.1) (0 : Int)) == (List.getD c.2.1 (Int.toNat s3.1.1) (0 : Int))) = Bool.true) → ((s2.1.1 < (((List.length c.2.2.2.2) : Nat) : Int)) ∧ ((0 : Int) ≤ s2.1.1))) ∧ (((((List.getD c.2.2.1 (Int.toNat s2.1.1) (0 : Int)) == (List.getD c.2.1 (Int.toNat s3.1.1) (0 : Int))) = Bool.true) → ((s3.1.1 < (((List.length (List.getD c.2.2.2.2 (Int.toNat s2.1.1) ([] : List Int))) : Nat) : Int)) ∧ ((0 : Int) ≤ s3.1.1))) ∧ (((((List.getD c.2.2.1 (Int.toNat s2.1.1) (0 : Int)) == (List.getD c.2.1 (Int.toNat s3.1.1) (0 : Int))) = Bool.true) → (((List.getD (List.getD c.2.2.2.2 (Int.toNat s2.1.1) ([] : List Int)) (Int.toNat s3.1.1) (0 : Int)) < (((List.length (List.getD c.2.2.2.2 (Int.toNat s1.1.1) ([] : List Int))) : Nat) : Int)) ∧ ((0 : Int) ≤ (List.getD (List.getD c.2.2.2.2 (Int.toNat s2.1.1) ([] : List Int)) (Int.toNat s3.1.1) (0 : Int))))) ∧ (cnd (((List.getD c.2.2.1 (Int.toNat s2.1.1) (0 : Int)) == (List.getD c.2.1 (Int.toNat s3.1.1) (0 : Int))) && ((List.getD (List.getD c.2.2.2.2 (Int.toNat (List.getD (List.getD c.2.2.2.2 (Int.toNat s1.1.1) ([] : List Int)) (Int.toNat s2.1.1) (0 : Int))) ([] : List Int)) (Int.toNat s3.1.1) (0 : Int)) != (List.getD (List.getD c.2.2.2.2 (Int.toNat s1.1.1) ([] : List Int)) (Int.toNat (List.getD (List.getD c.2.2.2.2 (Int.toNat s2.1.1) ([] : List Int)) (Int.toNat s3.1.1) (0 : Int))) (0 : Int)))) (K ((2 : Int), (s1.1.1, (s2.1.1, (s3.1.1, ()))))) ((inK IntKind.i64 (s3.1.1 + (1 : Int))) ∧ (next3 (((s3.1.1 + (1 : Int)), ()), ())))))))))))))))) (k ((), ())))))) (((0 : Int), ()), ()))))))))) ((inK IntKind.i64 (s1.1.1 + (1 : Int))) ∧ (next1 (((s1.1.1 + (1 : Int)), ()), ()))))))) (((0 : Int), ()), ())) (K ((0 : Int), ((0 : Int), ((0 : Int), ((0 : Int), ()))))))))) (((0 : Int), ()), ())))))) (((0 : Int), ()), ()))
theorem w_spec_l02Fault (x : denL c_spec_l02Fault.args) (K : Int × Int × Int × Int × Unit → Prop) : evF tab (lkp []) (cutL [(17, 44), (5, 38), (13, 11)]) Try.f57 (bodyOf Try.f57) (.s .n (.s .n (.s (.s .n (.l [(7, (.d (.int .i64)))] [] [1, 6] .n)) (.s (.s .n (.l [(8, (.d (.int .i64)))] [] [1, 6] (.s .n (.s (.s .n (.l [(9, (.d (.int .i64)))] [] [1, 6, 8] (.s .n (.s (.j [] [] [1, 6, 8, 9] (.s .n (.s .n (.l [(10, (.d (.int .i64)))] [] [1, 6, 8, 9] .n)))) .n)))) .n)))) .n)))) c_spec_l02Fault x K = W_spec_l02Fault x.1 K := by kernel_rfl
theorem k_spec_l02Fault : okC Try.f57.ntmps (cutL [(17, 44), (5, 38), (13, 11)]) (bodyOf Try.f57) = true := by kernel_rfl
theorem m_spec_l02Fault (c : CategoryD) (hok : allP (okL c_spec_l02Fault.args (c, ()))) (hpre : allP (c_spec_l02Fault.pre (c, ()))) : W_spec_l02Fault c (fun r => r = c_spec_l02Fault.res (c, ())) := by
  simp only [c_spec_l02Fault, okL, T.oks, T.ok, ap, allP, true_and, and_true, implies_true] at hok hpre
  try dsimp only [T.den] at hok
  try dsimp only [T.den] at hpre
  unfold W_spec_l02Fault
  have S : ShapeP c := hpre
  have hlt := S.lt
  have hli := S.li
  have hlc := S.lc
  have hmm := S.m
  have resq : ∀ a b d e, faultR c = (a, b, d, e) → (a, b, d, e, ()) = c_spec_l02Fault.res (c, ()) := fun a b d e h => by simp only [c_spec_l02Fault, h]
  have hcr : ∀ f g : Int, (c.2.2.2.2.getD f.toNat []).getD g.toNat 0 = compR c f g := fun _ _ => rfl
  simp only [hcr]
  refine loop_ix (n := c.2.1.length) (fun f => scanR (faultI c) c.2.1.length 0 = scanR (faultI c) ((c.2.1.length : Int) - f).toNat f) (by omega) scan_0 ?_ ?_
  · intro f next h0 h1 hP hn hin
    try dsimp only
    obtain ⟨a1, a2, a3, a4⟩ := S.frm h0 h1
    obtain ⟨b1, b2, _, _⟩ := S.idn a1 a2
    obtain ⟨d1, d2, _, _⟩ := S.idn a3 a4
    have r1 := S.row _ b1 b2
    have r2 := S.row f h0 h1
    refine cnd_d (fun _ => ⟨h0, h1, by omega, by omega, by omega, by omega, h0, by omega, fun _ => by omega, fun _ => by omega, fun _ => by omega, fun _ => by omega, cnd_of (fun hx => resq _ _ _ _ ?_) (fun hx => ⟨by rw [inK64]; (try dsimp only); omega, hn ?_⟩)⟩) (fun h => absurd h1 h)
    · have : faultI c f = some (1, f, 0, 0) := by unfold faultI; rw [if_pos]; simpa using hx
      unfold faultR; rw [hP, scan_s h1 this]; rfl
    · have : faultI c f = none := by unfold faultI; rw [if_neg]; simpa using hx
      rw [hP, scan_c h1 this]
  intro next hI hin
  rw [scan_n] at hI
  refine cnd_d (fun h => absurd h (by dsimp only; omega)) (fun _ => ?_)
  have hF : faultR c = orR (scanR (faultF c) c.2.1.length 0) (0, 0, 0, 0) := by unfold faultR; rw [hI]; rfl
  refine loop_ix (n := c.2.1.length) (fun f => scanR (faultF c) c.2.1.length 0 = scanR (faultF c) ((c.2.1.length : Int) - f).toNat f) (by omega) scan_0 ?_ ?_
  · intro f next h0 h1 hP hn hin
    try dsimp only
    refine cnd_d (fun _ => ?_) (fun h => absurd h1 h)
    have r1 := S.row f h0 h1
    refine loop_ix (n := c.2.1.length) (fun g => faultF c f = scanR (faultG c f) ((c.2.1.length : Int) - g).toNat g) (by omega) scan_0 ?_ ?_
    · intro g next3 g0 g1 hP3 hn3 hin3
      try dsimp only
      refine cnd_d (fun _ => ?_) (fun h => absurd g1 h)
      have r2 := S.row g g0 g1
      refine join_of (fun _ => faultG c f g = none) (fun _ hG => ⟨by rw [inK64]; (try dsimp only); omega, hn3 (by rw [hP3, scan_c g1 hG])⟩) (fun k hk => ?_)
      have hk' := hk ((), ())
      refine ⟨by omega, by omega, by omega, by omega, cnd_of (fun hx => hk' ?_) (fun hx => ?_)⟩
      · unfold faultG; rw [if_neg]; simpa using hx
      have hfg : c.2.2.1.getD f.toNat 0 = c.2.1.getD g.toNat 0 := by rw [bne_eq_false_iff_eq] at hx; exact hx
      obtain ⟨y1, y2, _, _⟩ := S.yes h0 h1 g0 g1 hfg
      refine loop_ix (n := c.2.1.length) (fun h => faultG c f g = scanR (faultH c f g) ((c.2.1.length : Int) - h).toNat h) (by omega) (by unfold faultG; rw [if_pos hfg]; exact scan_0) ?_ ?_
      · intro h next4 i0 i1 hP4 hn4 hin4
        try dsimp only
        refine cnd_d (fun _ => ?_) (fun h => absurd i1 h)
        have r3 := S.row _ y1 y2
        have cgh := S.comp g0 g1 i0 i1
        have ygh := @ShapeP.yes c S g h g0 g1 i0 i1
        refine ⟨by omega, by omega, by omega, by omega, fun _ => by omega, fun _ => by omega, fun _ => by omega, fun _ => by omega, fun _ => by omega, fun _ => by omega, fun _ => by omega, fun he => ?_, cnd_of (fun hx => resq _ _ _ _ ?_) (fun hx => ⟨by rw [inK64]; (try dsimp only); omega, hn4 ?_⟩)⟩
        · have := ygh (by simpa only [beq_iff_eq] using he); omega
        · have : faultH c f g h = some (2, f, g, h) := by unfold faultH; rw [if_pos]; simpa using hx
          have e1 : faultG c f g = some (2, f, g, h) := by rw [hP4, scan_s i1 this]
          have e2 : faultF c f = some (2, f, g, h) := by rw [hP3, scan_s g1 e1]
          rw [hF, hP, scan_s h1 e2]; rfl
        · have : faultH c f g h = none := by unfold faultH; rw [if_neg]; simpa using hx
          rw [hP4, scan_c i1 this]
      · intro next4 hP4 hin4
        rw [scan_n] at hP4
        exact cnd_d (fun h => absurd h (by dsimp only; omega)) (fun _ => hk' hP4)
    · intro next3 hP3 hin3
      rw [scan_n] at hP3
      exact cnd_d (fun h => absurd h (by dsimp only; omega)) (fun _ => ⟨by rw [inK64]; (try dsimp only); omega, hn (by rw [hP, scan_c h1 hP3])⟩)
  · intro next2 hP2 hin2
    rw [scan_n] at hP2
    refine cnd_d (fun h => absurd h (by dsimp only; omega)) (fun _ => resq _ _ _ _ ?_)
    rw [hF, hP2]; rfl
theorem ct_spec_l02Fault : CtOk Try.prog 57 c_spec_l02Fault :=
  ct_by (Φ := lkp []) good_nil tab_ok (by kernel_rfl) (fn := Try.f57) (c := bodyOf Try.f57) (by kernel_rfl) (by kernel_rfl) (by kernel_rfl) c_spec_l02Fault rfl (.s .n (.s .n (.s (.s .n (.l [(7, (.d (.int .i64)))] [] [1, 6] .n)) (.s (.s .n (.l [(8, (.d (.int .i64)))] [] [1, 6] (.s .n (.s (.s .n (.l [(9, (.d (.int .i64)))] [] [1, 6, 8] (.s .n (.s (.j [] [] [1, 6, 8, 9] (.s .n (.s .n (.l [(10, (.d (.int .i64)))] [] [1, 6, 8, 9] .n)))) .n)))) .n)))) .n)))) (cutL [(17, 44), (5, 38), (13, 11)]) (by kernel_rfl) (by kernel_rfl) k_spec_l02Fault (by decide) (fun x K => W_spec_l02Fault x.1 K) w_spec_l02Fault (fun x h1 h2 => m_spec_l02Fault x.1 h1 h2)
def c_spec_l02Is : Ct := ⟨[CategoryT], [true], fun x => [], [(false, (.fz .bool))], fun x => (catR x.1, ()), false, none⟩
def W_spec_l02Is (c : CategoryD) (K : Bool × Unit → Prop) : Prop := (cnd (!(shapeR c)) (K (Bool.false, ())) ((ShapeP c) ∧ (K (((faultR c).1 == (0 : Int)), ()))))
theorem w_spec_l02Is (x : denL c_spec_l02Is.args) (K : Bool × Unit → Prop) : evF tab (lkp [(56, c_spec_IsShape), (57, c_spec_l02Fault)]) (cutL []) Try.f33 (bodyOf Try.f33) .n c_spec_l02Is x K = W_spec_l02Is x.1 K := by kernel_rfl
theorem k_spec_l02Is : okC Try.f33.ntmps (cutL []) (bodyOf Try.f33) = true := by kernel_rfl
theorem m_spec_l02Is (c : CategoryD) (hok : allP (okL c_spec_l02Is.args (c, ()))) (hpre : allP (c_spec_l02Is.pre (c, ()))) : W_spec_l02Is c (fun r => r = c_spec_l02Is.res (c, ())) := by
  simp only [c_spec_l02Is, okL, T.oks, T.ok, ap, allP, true_and, and_true, implies_true] at hok hpre
  try dsimp only [T.den] at hok
  try dsimp only [T.den] at hpre
  unfold W_spec_l02Is
  simp only [c_spec_l02Is, catR]
  have := @shape_iff c
  grind [cnd, nb_eq, inK64]
theorem ct_spec_l02Is : CtOk Try.prog 33 c_spec_l02Is :=
  ct_by (Φ := lkp [(56, c_spec_IsShape), (57, c_spec_l02Fault)]) (good_cons ct_spec_IsShape (good_cons ct_spec_l02Fault good_nil)) tab_ok (by kernel_rfl) (fn := Try.f33) (c := bodyOf Try.f33) (by kernel_rfl) (by kernel_rfl) (by kernel_rfl) c_spec_l02Is rfl .n (cutL []) (by kernel_rfl) (by kernel_rfl) k_spec_l02Is (by decide) (fun x K => W_spec_l02Is x.1 K) w_spec_l02Is (fun x h1 h2 => m_spec_l02Is x.1 h1 h2)
def c_spec_l02Object : Ct := ⟨[CategoryT, (.int .i64)], [true, false], fun x => [], [(false, (.fz .bool))], fun x => ((decide (0 ≤ x.2.1) && decide (x.2.1 < x.1.1)), ()), false, none⟩
def W_spec_l02Object (c : CategoryD) (x : Int) (K : Bool × Unit → Prop) : Prop := (K (((decide ((0 : Int) ≤ x)) && (decide (x < c.1))), ()))
theorem w_spec_l02Object (x : denL c_spec_l02Object.args) (K : Bool × Unit → Prop) : evF tab (lkp []) (cutL []) Try.f41 (bodyOf Try.f41) .n c_spec_l02Object x K = W_spec_l02Object x.1 x.2.1 K := by kernel_rfl
theorem k_spec_l02Object : okC Try.f41.ntmps (cutL []) (bodyOf Try.f41) = true := by kernel_rfl
theorem m_spec_l02Object (c : CategoryD) (x : Int) (hok : allP (okL c_spec_l02Object.args (c, x, ()))) (hpre : allP (c_spec_l02Object.pre (c, x, ()))) : W_spec_l02Object c x (fun r => r = c_spec_l02Object.res (c, x, ())) := by
  simp only [c_spec_l02Object, okL, T.oks, T.ok, ap, allP, true_and, and_true, implies_true] at hok hpre
  try dsimp only [T.den] at hok
  try dsimp only [T.den] at hpre
  unfold W_spec_l02Object
  grind [cnd, nb_eq, inK64, c_spec_l02Object]
theorem ct_spec_l02Object : CtOk Try.prog 41 c_spec_l02Object :=
  ct_by (Φ := lkp []) good_nil tab_ok (by kernel_rfl) (fn := Try.f41) (c := bodyOf Try.f41) (by kernel_rfl) (by kernel_rfl) (by kernel_rfl) c_spec_l02Object rfl .n (cutL []) (by kernel_rfl) (by kernel_rfl) k_spec_l02Object (by decide) (fun x K => W_spec_l02Object x.1 x.2.1 K) w_spec_l02Object (fun x h1 h2 => m_spec_l02Object x.1 x.2.1 h1 h2)
def opR (c : CategoryD) : CategoryD := (c.1, c.2.2.1, c.2.1, c.2.2.2.1, (tabN c.2.1.length fun f => tabN c.2.1.length fun g => compR c g f))

def c_spec_l03Op : Ct := ⟨[CategoryT], [true], fun x => [ShapeP x.1], [(true, CategoryO)], fun x => (opR x.1, ()), false, none⟩
def W_spec_l03Op (c : CategoryD) (K : CategoryD × Unit → Prop) : Prop := (((List.length c.2.2.1) ≤ 1099511627776) ∧ (((List.length c.2.1) ≤ 1099511627776) ∧ (((List.length c.2.2.2.1) ≤ 1099511627776) ∧ (loopW (S := ((Unit × (Unit × (Int × Unit))) × ((Int × ((List Int) × ((List Int) × ((List Int) × (List (List Int)))))) × ((Int × ((List Int) × ((List Int) × ((List Int) × (List (List Int)))))) × Unit)))) (fun s => (fun next => ((inK IntKind.i64 s.1.2.2.1) → ((inK IntKind.i64 s.2.1.1) → ((T.ok (T.sl (T.int IntKind.i64)) s.2.1.2.1) → ((T.ok (T.sl (T.int IntKind.i64)) s.2.1.2.2.1) → ((T.ok (T.sl (T.int IntKind.i64)) s.2.1.2.2.2.1) → ((T.ok (T.sl (T.sl (T.int IntKind.i64))) s.2.1.2.2.2.2) → ((inK IntKind.i64 s.2.2.1.1) → ((T.ok (T.sl (T.int IntKind.i64)) s.2.2.1.2.1) → ((T.ok (T.sl (T.int IntKind.i64)) s.2.2.1.2.2.1) → ((T.ok (T.sl (T.int IntKind.i64)) s.2.2.1.2.2.2.1) → ((T.ok (T.sl (T.sl (T.int IntKind.i64))) s.2.2.1.2.2.2.2) → (cnd (decide (s.1.2.2.1 < (((List.length c.2.1) : Nat) : Int))) (loopW (S := ((Unit × (Unit × (Unit × (Int × Unit)))) × ((Int × ((List Int) × ((List Int) × ((List Int) × (List (List Int)))))) × ((Int × ((List Int) × ((List Int) × ((List Int) × (List (List Int)))))) × ((List Int) × Unit))))) (fun s1 => (fun next1 => ((inK IntKind.i64 s1.1.2.2.2.1) → ((inK IntKind.i64 s1.2.1.1) → ((T.ok (T.sl (T.int IntKind.i64)) s1.2.1.2.1) → ((T.ok (T.sl (T.int IntKind.i64)) s1.2.1.2.2.1) → ((T.ok (T.sl (T.int IntKind.i64)) s1.2.1.2.2.2.1) → ((T.ok (T.sl (T.sl (T.int IntKind.i64))) s1.2.1.2.2.2.2) → ((inK IntKind.i64 s1.2.2.1.1) → ((T.ok (T.sl (T.int IntKind.i64)) s1.2.2.1.2.1) → ((T.ok (T.sl (T.int IntKind.i64)) s1.2.2.1.2.2.1) → ((T.ok (T.sl (T.int IntKind.i64)) s1.2.2.1.2.2.2.1) → ((T.ok (T.sl (T.sl (T.int IntKind.i64))) s1.2.2.1.2.2.2.2) → ((T.ok (T.sl (T.int IntKind.i64)) s1.2.2.2.1) → (cnd (decide (s1.1.2.2.2.1 < (((List.length c.2.1) : Nat) : Int))) (((0 : Int) ≤ s1.1.2.2.2.1) ∧ ((s1.1.2.2.2.1 < (((List.length c.2.2.2.2) : Nat) : Int)) ∧ (((0 : Int) ≤ s.1.2.2.1) ∧ ((s.1.2.2.1 < (((List.length (List.getD c.2.2.2.2 (Int.toNat s1.1.2.2.2.1) ([] : List Int))) : Nat) : Int)) ∧ ((room (List.length s1.2.2.2.1) (List.length ((List.getD (List.getD c.2.2.2.2 (Int.toNat s1.1.2.2.2.1) ([] : List Int)) (Int.toNat s.1.2.2.1) (0 : Int)) :: ([] : List Int))) 8) ∧ ((inK IntKind.i64 (s1.1.2.2.2.1 + (1 : Int))) ∧ (next1 (((), ((), ((), ((s1.1.2.2.2.1 + (1 : Int)), ())))), (s1.2.1, (s1.2.2.1, ((s1.2.2.2.1 ++ ((List.getD (List.getD c.2.2.2.2 (Int.toNat s1.1.2.2.2.1) ([] : List Int)) (Int.toNat s.1.2.2.1) (0 : Int)) :: ([] : List Int))), ()))))))))))) ((room (List.length s1.2.2.1.2.2.2.2) (List.length (s1.2.2.2.1 :: ([] : List (List Int)))) 24) ∧ ((inK IntKind.i64 (s.1.2.2.1 + (1 : Int))) ∧ (next (((), ((), ((s.1.2.2.1 + (1 : Int)), ()))), (s1.2.1, ((s1.2.2.1.1, (s1.2.2.1.2.1, (s1.2.2.1.2.2.1, (s1.2.2.1.2.2.2.1, (s1.2.2.1.2.2.2.2 ++ (s1.2.2.2.1 :: ([] : List (List Int)))))))), ()))))))))))))))))))))) (((), ((), ((), ((0 : Int), ())))), (s.2.1, (s.2.2.1, (([] : List Int), ()))))) (K (s.2.2.1, ())))))))))))))))) (((), ((), ((0 : Int), ()))), (((0 : Int), (([] : List Int), (([] : List Int), (([] : List Int), ([] : List (List Int)))))), ((c.1, (c.2.2.1, (c.2.1, (c.2.2.2.1, ([] : List (List Int)))))), ())))))))
theorem w_spec_l03Op (x : denL c_spec_l03Op.args) (K : CategoryD × Unit → Prop) : evF tab (lkp [(70, c_spec_l01Own)]) (cutL [(1, 514)]) Try.f43 (bodyOf Try.f43) (.s .n (.s .n (.s (.s .n (.l [(2, (.ad 2 [.de])), (3, (.ad 3 [.de])), (4, (.d (.int .i64)))] [(2, (.pt (.p (.fz (.int .i64)) (.p (.sl (.fz (.int .i64))) (.p (.sl (.fz (.int .i64))) (.p (.sl (.fz (.int .i64))) (.sl (.sl (.fz (.int .i64)))))))))), (3, (.pt (.p (.fz (.int .i64)) (.p (.sl (.fz (.int .i64))) (.p (.sl (.fz (.int .i64))) (.p (.sl (.fz (.int .i64))) (.sl (.sl (.fz (.int .i64))))))))))] [1] (.s .n (.s (.s .n (.s (.s .n (.l [(2, (.ad 2 [.de])), (3, (.ad 3 [.de])), (5, (.ref 800005 [])), (6, (.d (.int .i64)))] [(2, (.pt (.p (.fz (.int .i64)) (.p (.sl (.fz (.int .i64))) (.p (.sl (.fz (.int .i64))) (.p (.sl (.fz (.int .i64))) (.sl (.sl (.fz (.int .i64)))))))))), (3, (.pt (.p (.fz (.int .i64)) (.p (.sl (.fz (.int .i64))) (.p (.sl (.fz (.int .i64))) (.p (.sl (.fz (.int .i64))) (.sl (.sl (.fz (.int .i64)))))))))), (800005, (.sl (.fz (.int .i64))))] [1, 4] .n)) .n)) .n)))) .n))) c_spec_l03Op x K = W_spec_l03Op x.1 K := by kernel_rfl
theorem k_spec_l03Op : okC Try.f43.ntmps (cutL [(1, 514)]) (bodyOf Try.f43) = true := by kernel_rfl
theorem m_spec_l03Op (c : CategoryD) (hok : allP (okL c_spec_l03Op.args (c, ()))) (hpre : allP (c_spec_l03Op.pre (c, ()))) : W_spec_l03Op c (fun r => r = c_spec_l03Op.res (c, ())) := by
  simp only [c_spec_l03Op, okL, T.oks, T.ok, ap, allP, true_and, and_true, implies_true] at hok hpre
  try dsimp only [T.den] at hok
  try dsimp only [T.den] at hpre
  unfold W_spec_l03Op
  have S : ShapeP c := hpre
  have hlt := S.lt
  have hlc := S.lc
  have hmm := S.m
  have hids := S.li
  have hob := S.ob
  clear hok
  generalize hn : c.2.1.length = n at *
  refine ⟨by omega, by omega, by omega, ?_⟩
  refine loop_of (fun (s : ((Unit × (Unit × (Int × Unit))) × ((Int × ((List Int) × ((List Int) × ((List Int) × (List (List Int)))))) × ((Int × ((List Int) × ((List Int) × ((List Int) × (List (List Int)))))) × Unit)))) => 0 ≤ s.1.2.2.1 ∧ s.1.2.2.1 ≤ n ∧ s.2.2.1 = (c.1, c.2.2.1, c.2.1, c.2.2.2.1, tabN s.1.2.2.1.toNat fun f => tabN n fun g => compR c g f)) (fun (s : ((Unit × (Unit × (Int × Unit))) × ((Int × ((List Int) × ((List Int) × ((List Int) × (List (List Int)))))) × ((Int × ((List Int) × ((List Int) × ((List Int) × (List (List Int)))))) × Unit)))) => (n - s.1.2.2.1).toNat) ?_ ⟨by simp, by simp, rfl⟩
  rintro ⟨⟨_, _, f, _⟩, o1, out, _⟩ next ⟨f0, f1, hq⟩ hnx _ _ _ _ _ _ _ _ _ _ _
  try dsimp only at f0 f1 hq hnx ⊢
  refine cnd_d (fun hf => ?_) (fun hf => ?_)
  · refine loop_of (fun (s1 : ((Unit × (Unit × (Unit × (Int × Unit)))) × ((Int × ((List Int) × ((List Int) × ((List Int) × (List (List Int)))))) × ((Int × ((List Int) × ((List Int) × ((List Int) × (List (List Int)))))) × ((List Int) × Unit))))) => 0 ≤ s1.1.2.2.2.1 ∧ s1.1.2.2.2.1 ≤ n ∧ s1.2.2.1 = out ∧ s1.2.2.2.1 = tabN s1.1.2.2.2.1.toNat fun g => compR c g f) (fun (s1 : ((Unit × (Unit × (Unit × (Int × Unit)))) × ((Int × ((List Int) × ((List Int) × ((List Int) × (List (List Int)))))) × ((Int × ((List Int) × ((List Int) × ((List Int) × (List (List Int)))))) × ((List Int) × Unit))))) => (n - s1.1.2.2.2.1).toNat) ?_ ⟨by simp, by simp, rfl, rfl⟩
    rintro ⟨⟨_, _, _, g, _⟩, p1, out2, row, _⟩ next1 ⟨g0, g1, h1, h2⟩ hn1 _ _ _ _ _ _ _ _ _ _ _ _
    try dsimp only at g0 g1 h1 h2 hn1 ⊢
    subst h1; subst h2
    refine cnd_d (fun hg => ?_) (fun hg => ?_)
    · have hr := S.row g g0 (by omega)
      refine ⟨g0, by omega, f0, by omega, room_of (by rw [tabN_len]; simp only [List.length_cons, List.length_nil]; omega), by rw [inK64]; (try dsimp only); omega, hn1 _ ⟨(by first | omega | (dsimp only; omega)), (by first | omega | (dsimp only; omega)), rfl, ?_⟩ (by first | omega | (dsimp only; omega))⟩
      try dsimp only; rw [tabN_s g0]; rfl
    · have e : g = n := by omega
      subst hq
      refine ⟨room_of (by rw [tabN_len]; simp only [List.length_cons, List.length_nil]; omega), by rw [inK64]; (try dsimp only); omega, hnx _ ⟨(by first | omega | (dsimp only; omega)), (by first | omega | (dsimp only; omega)), ?_⟩ (by first | omega | (dsimp only; omega))⟩
      try dsimp only; rw [tabN_s f0, e, Int.toNat_natCast]
  · have e : f = n := by omega
    simp only [c_spec_l03Op, opR, hn]
    rw [hq, e, Int.toNat_natCast]
theorem ct_spec_l03Op : CtOk Try.prog 43 c_spec_l03Op :=
  ct_by (Φ := lkp [(70, c_spec_l01Own)]) (good_cons ct_spec_l01Own good_nil) tab_ok (by kernel_rfl) (fn := Try.f43) (c := bodyOf Try.f43) (by kernel_rfl) (by kernel_rfl) (by kernel_rfl) c_spec_l03Op rfl (.s .n (.s .n (.s (.s .n (.l [(2, (.ad 2 [.de])), (3, (.ad 3 [.de])), (4, (.d (.int .i64)))] [(2, (.pt (.p (.fz (.int .i64)) (.p (.sl (.fz (.int .i64))) (.p (.sl (.fz (.int .i64))) (.p (.sl (.fz (.int .i64))) (.sl (.sl (.fz (.int .i64)))))))))), (3, (.pt (.p (.fz (.int .i64)) (.p (.sl (.fz (.int .i64))) (.p (.sl (.fz (.int .i64))) (.p (.sl (.fz (.int .i64))) (.sl (.sl (.fz (.int .i64))))))))))] [1] (.s .n (.s (.s .n (.s (.s .n (.l [(2, (.ad 2 [.de])), (3, (.ad 3 [.de])), (5, (.ref 800005 [])), (6, (.d (.int .i64)))] [(2, (.pt (.p (.fz (.int .i64)) (.p (.sl (.fz (.int .i64))) (.p (.sl (.fz (.int .i64))) (.p (.sl (.fz (.int .i64))) (.sl (.sl (.fz (.int .i64)))))))))), (3, (.pt (.p (.fz (.int .i64)) (.p (.sl (.fz (.int .i64))) (.p (.sl (.fz (.int .i64))) (.p (.sl (.fz (.int .i64))) (.sl (.sl (.fz (.int .i64)))))))))), (800005, (.sl (.fz (.int .i64))))] [1, 4] .n)) .n)) .n)))) .n))) (cutL [(1, 514)]) (by kernel_rfl) (by kernel_rfl) k_spec_l03Op (by decide) (fun x K => W_spec_l03Op x.1 K) w_spec_l03Op (fun x h1 h2 => m_spec_l03Op x.1 h1 h2)
theorem op_at {c : CategoryD} {f g : Int} (f0 : 0 ≤ f) (f1 : f < c.2.1.length) (g0 : 0 ≤ g) (g1 : g < c.2.1.length) : compR (opR c) f g = compR c g f := by
  show ((tabN c.2.1.length fun f => tabN c.2.1.length fun g => compR c g f).getD f.toNat []).getD g.toNat 0 = _
  rw [tabN_get f0 f1, tabN_get g0 g1]
theorem op_shape {c : CategoryD} (S : ShapeP c) : ShapeP (opR c) := by
  have hlt := S.lt
  have hlc := S.lc
  refine ⟨S.ob, by show c.2.2.1.length ≤ 40; rw [hlt]; exact S.m, hlt.symm, S.to, S.fr, S.li, ?_, ?_, fun x a b => ⟨(S.idt x a b).2, (S.idt x a b).1⟩, ?_, ?_⟩
  · show withinR c.2.2.2.1 c.2.2.1.length = true; rw [hlt]; exact S.ids
  · show (tabN c.2.1.length _).length = c.2.2.1.length; rw [tabN_len, hlt]
  · intro f f0 f1
    have f1' : f < c.2.1.length := by rw [← hlt]; exact f1
    show ((tabN c.2.1.length fun f => tabN c.2.1.length fun g => compR c g f).getD f.toNat []).length = c.2.2.1.length
    rw [tabN_get f0 f1', tabN_len, hlt]
  · intro f g f0 f1 g0 g1
    have f1' : f < c.2.1.length := by rw [← hlt]; exact f1
    have g1' : g < c.2.1.length := by rw [← hlt]; exact g1
    unfold cellR cellQ
    rw [op_at f0 f1' g0 g1']
    show (if c.2.1.getD f.toNat 0 = c.2.2.1.getD g.toNat 0 then decide (0 ≤ compR c g f ∧ compR c g f < c.2.2.1.length ∧ c.2.2.1.getD (compR c g f).toNat 0 = c.2.2.1.getD f.toNat 0 ∧ c.2.1.getD (compR c g f).toNat 0 = c.2.1.getD g.toNat 0) else decide (compR c g f = -1)) = true
    split
    · rename_i h
      have := S.yes g0 g1' f0 f1' h.symm
      rw [decide_eq_true_eq, hlt]
      exact ⟨this.1, this.2.1, this.2.2.2, this.2.2.1⟩
    · rename_i h
      rw [decide_eq_true_eq]
      exact S.no g0 g1' f0 f1' fun e => h e.symm
theorem scan_none {α : Type} {p : Int → Option α} : ∀ {n : Nat} {i : Int}, scanR p n i = none → ∀ j : Int, i ≤ j → j < i + n → p j = none
  | 0, i, _, j, h0, h1 => by omega
  | n + 1, i, h, j, h0, h1 => by
    unfold scanR at h
    cases hp : p i with
    | some v => rw [hp] at h; cases h
    | none =>
      rw [hp] at h
      by_cases e : j = i
      · rw [e, hp]
      · exact scan_none (n := n) (i := i + 1) h j (by omega) (by omega)
theorem scan_some {α : Type} {p : Int → Option α} {v : α} : ∀ {n : Nat} {i : Int}, scanR p n i = some v → ∃ j : Int, p j = some v
  | 0, i, h => by cases h
  | n + 1, i, h => by
    unfold scanR at h
    cases hp : p i with
    | some w => rw [hp] at h; exact ⟨i, hp.trans h⟩
    | none => rw [hp] at h; exact scan_some (n := n) (i := i + 1) h
theorem cat_assoc {c : CategoryD} (hc : catR c = true) {f g h : Int} (f0 : 0 ≤ f) (f1 : f < c.2.1.length) (g0 : 0 ≤ g) (g1 : g < c.2.1.length) (h0 : 0 ≤ h) (h1 : h < c.2.1.length)
    (hfg : c.2.2.1.getD f.toNat 0 = c.2.1.getD g.toNat 0) (hgh : c.2.2.1.getD g.toNat 0 = c.2.1.getD h.toNat 0) : compR c (compR c f g) h = compR c f (compR c g h) := by
  simp only [catR, Bool.and_eq_true, beq_iff_eq] at hc
  have h2 := hc.2
  unfold faultR at h2
  cases h3 : scanR (faultI c) c.2.1.length 0 with
  | some v =>
    obtain ⟨j, hj⟩ := scan_some h3
    unfold faultI at hj
    split at hj
    · cases hj; rw [h3] at h2; simp [orR] at h2
    · cases hj
  | none =>
    rw [h3] at h2
    cases h4 : scanR (faultF c) c.2.1.length 0 with
    | some v =>
      obtain ⟨j, hj⟩ := scan_some h4
      unfold faultF at hj
      obtain ⟨k, hk⟩ := scan_some hj
      unfold faultG at hk
      split at hk
      · obtain ⟨l, hl⟩ := scan_some hk
        unfold faultH at hl
        split at hl
        · cases hl; rw [h4] at h2; simp [orR] at h2
        · cases hl
      · cases hk
    | none =>
      have a1 := scan_none h4 f f0 (by omega)
      unfold faultF at a1
      have a2 := scan_none a1 g g0 (by omega)
      unfold faultG at a2
      rw [if_pos hfg] at a2
      have a3 := scan_none a2 h h0 (by omega)
      unfold faultH at a3
      split at a3
      · cases a3
      · rename_i hn
        exact Decidable.byContradiction fun hne => hn ⟨hgh, hne⟩
theorem bel_iff {c : CategoryD} {m n : Int} : belR c m n = true ↔ ∃ v : Int, (0 ≤ v ∧ v < c.2.1.length ∧ c.2.1.getD v.toNat 0 = c.2.2.1.getD n.toNat 0 ∧ c.2.2.1.getD v.toNat 0 = c.2.2.1.getD m.toNat 0) ∧ compR c n v = m := by
  unfold belR
  rw [decide_eq_true_eq]
  constructor
  · intro h
    obtain ⟨v, hv⟩ := List.exists_mem_of_length_pos (l := extR c m n) (by omega)
    exact ⟨v, ext_mem.1 hv⟩
  · rintro ⟨v, hv⟩
    have := List.length_pos_of_mem (ext_mem.2 hv)
    omega
theorem bel_op {c : CategoryD} (S : ShapeP c) {m n : Int} (m0 : 0 ≤ m) (m1 : m < c.2.1.length) (n0 : 0 ≤ n) (n1 : n < c.2.1.length) : belSR (opR c) m n = belR c m n := by
  rw [Bool.eq_iff_iff, bel_iff]
  unfold belSR
  rw [anyB_iff]
  have hlt := S.lt
  simp only [Bool.and_eq_true, beq_iff_eq]
  show (∃ k : Int, 0 ≤ k ∧ k < c.2.2.1.length ∧ (c.2.2.1.getD k.toNat 0 = c.2.2.1.getD m.toNat 0 ∧ c.2.1.getD k.toNat 0 = c.2.2.1.getD n.toNat 0) ∧ compR (opR c) k n = m) ↔ _
  rw [hlt]
  constructor
  · rintro ⟨k, k0, k1, ⟨a, b⟩, e⟩
    rw [op_at k0 k1 n0 n1] at e
    exact ⟨k, ⟨k0, k1, b, a⟩, e⟩
  · rintro ⟨k, ⟨k0, k1, b, a⟩, e⟩
    exact ⟨k, k0, k1, ⟨a, b⟩, by rw [op_at k0 k1 n0 n1]; exact e⟩
theorem bel_trans {c : CategoryD} (hc : catR c = true) {m n p : Int} (n0 : 0 ≤ n) (n1 : n < c.2.1.length) (p0 : 0 ≤ p) (p1 : p < c.2.1.length) (h1 : belR c m n = true) (h2 : belR c n p = true) : belR c m p = true := by
  have S := cat_shape hc
  obtain ⟨v, ⟨v0, v1, va, vb⟩, ve⟩ := bel_iff.1 h1
  obtain ⟨w, ⟨w0, w1, wa, wb⟩, we⟩ := bel_iff.1 h2
  have y := S.yes w0 w1 v0 v1 (by rw [wb, va])
  refine bel_iff.2 ⟨compR c w v, ⟨y.1, y.2.1, by rw [y.2.2.1, wa], by rw [y.2.2.2, vb]⟩, ?_⟩
  rw [← cat_assoc hc p0 p1 w0 w1 v0 v1 wa.symm (by rw [wb, va]), we, ve]
theorem mut_sym {c : CategoryD} (a b : Int) : mutR c a b = mutR c b a := by unfold mutR; rw [Bool.and_comm]
theorem mut_trans {c : CategoryD} (hc : catR c = true) {a b d : Int} (a0 : 0 ≤ a) (a1 : a < c.2.1.length) (b0 : 0 ≤ b) (b1 : b < c.2.1.length) (d0 : 0 ≤ d) (d1 : d < c.2.1.length) (h1 : mutR c a b = true) (h2 : mutR c b d = true) : mutR c a d = true := by
  unfold mutR at *
  rw [Bool.and_eq_true] at *
  exact ⟨bel_trans hc b0 b1 d0 d1 h1.1 h2.1, bel_trans hc b0 b1 a0 a1 h2.2 h1.2⟩
theorem cancel_iff {P : Int → Int → Bool} : ∀ {l : List Int}, cancelR P l = true ↔ l.Pairwise fun a b => P a b = false
  | [] => by simp [cancelR]
  | a :: r => by
    rw [cancelR, List.pairwise_cons, Bool.and_eq_true, List.all_eq_true, cancel_iff]
    simp
theorem sel_pair {p : Int → Bool} {R : Int → Int → Prop} : ∀ {n : Nat}, (selR n p).Pairwise R ↔ ∀ g h : Int, 0 ≤ g → g < h → h < n → p g = true → p h = true → R g h
  | 0 => by simp [selR]; intro g h _ _ _; omega
  | n + 1 => by
    have e : selR (n + 1) p = if p n = true then selR n p ++ [(n : Int)] else selR n p := by
      have := @sel_t p n (by omega)
      have := @sel_f p n (by omega)
      have e1 : ((n : Int) + 1).toNat = n + 1 := by omega
      have e2 : (n : Int).toNat = n := by omega
      split
      · rename_i h; have := @sel_t p n (by omega) h; rw [e1, e2] at this; exact this
      · rename_i h; have := @sel_f p n (by omega) (by simpa using h); rw [e1, e2] at this; exact this
    rw [e]
    split
    · rename_i hn
      rw [List.pairwise_append, sel_pair]
      constructor
      · rintro ⟨h1, _, h3⟩ g h g0 gh hh pg ph
        by_cases e : h = n
        · subst e; exact h3 g (sel_mem.2 ⟨g0, gh, pg⟩) _ (by simp)
        · exact h1 g h g0 gh (by omega) pg ph
      · intro H
        refine ⟨fun g h g0 gh hh => H g h g0 gh (by omega), by simp, fun a ha b hb => ?_⟩
        rw [List.mem_singleton] at hb
        subst hb
        obtain ⟨a0, a1, a2⟩ := sel_mem.1 ha
        exact H a _ a0 a1 (by omega) a2 hn
    · rename_i hn
      rw [sel_pair]
      constructor
      · intro H g h g0 gh hh pg ph
        by_cases e : h = n
        · subst e; exact absurd ph hn
        · exact H g h g0 gh (by omega) pg ph
      · intro H g h g0 gh hh; exact H g h g0 gh (by omega)
theorem epi_op {c : CategoryD} (S : ShapeP c) {f : Int} (f0 : 0 ≤ f) (f1 : f < c.2.1.length) : monoR (opR c) f = epiR c f := by
  have hlt := S.lt
  rw [Bool.eq_iff_iff]
  unfold monoR epiR jepiR
  simp only [allB_iff, cancel_iff, homR, sel_pair, Bool.or_eq_true, decide_eq_true_eq, Bool.and_eq_true, beq_iff_eq]
  show (∀ g : Int, 0 ≤ g → g < c.2.2.1.length → ∀ h : Int, 0 ≤ h → h < c.2.2.1.length → h ≤ g ∨ monoI (opR c) f g h = true) ↔ _
  rw [hlt]
  have hI : ∀ g h : Int, 0 ≤ g → g < c.2.1.length → 0 ≤ h → h < c.2.1.length → (monoI (opR c) f g h = true ↔ ¬ (c.2.2.1.getD g.toNat 0 = c.2.2.1.getD h.toNat 0 ∧ c.2.1.getD g.toNat 0 = c.2.2.1.getD f.toNat 0 ∧ c.2.1.getD h.toNat 0 = c.2.2.1.getD f.toNat 0 ∧ compR c f g = compR c f h)) := by
    intro g h g0 g1 h0 h1
    unfold monoI
    rw [op_at g0 g1 f0 f1, op_at h0 h1 f0 f1]
    show (!(c.2.2.1.getD g.toNat 0 == c.2.2.1.getD h.toNat 0 && c.2.1.getD g.toNat 0 == c.2.2.1.getD f.toNat 0 && c.2.1.getD h.toNat 0 == c.2.2.1.getD f.toNat 0 && compR c f g == compR c f h)) = true ↔ _
    simp only [Bool.not_eq_true', ← Bool.not_eq_true, Bool.and_eq_true, beq_iff_eq, and_assoc]
  constructor
  · intro H t t0 t1 g h g0 gh hh pg ph
    have := (H g g0 (by omega) h (by omega) hh).resolve_left (by omega)
    rw [hI g h g0 (by omega) (by omega) hh] at this
    cases hb : cofR c [f] g h with
    | false => rfl
    | true =>
      simp only [cofR, List.all_cons, List.all_nil, Bool.and_true, beq_iff_eq] at hb
      exact absurd ⟨by rw [pg.2, ph.2], pg.1, ph.1, hb⟩ this
  · intro H g g0 g1 h h0 h1
    by_cases hgh : h ≤ g
    · exact .inl hgh
    refine .inr ((hI g h g0 g1 h0 h1).2 ?_)
    rintro ⟨e1, e2, e3, e4⟩
    have b := S.frm g0 g1
    have := H (c.2.2.1.getD g.toNat 0) b.2.2.1 (by have := b.2.2.2; omega) g h g0 (by omega) h1 ⟨e2, rfl⟩ ⟨e3, e1.symm⟩
    simp only [cofR, List.all_cons, List.all_nil, Bool.and_true, e4, beq_self_eq_true] at this
    cases this
theorem sub_op {c : CategoryD} (hc : catR c = true) (x : Int) : subobR (opR c) x = classR (mutR c) ((outR c x).filter (epiR c)) := by
  have S := cat_shape hc
  have hlt := S.lt
  have e : (selR (opR c).2.1.length fun m => (opR c).2.2.1.getD m.toNat 0 == x && monoR (opR c) m) = (outR c x).filter (epiR c) := by
    unfold outR
    rw [fil_sel, show (opR c).2.1.length = c.2.1.length from hlt]
    exact sel_congr fun m m0 m1 => by rw [epi_op S m0 m1]; rfl
  unfold subobR
  rw [e]
  refine cls_eq (n := c.2.1.length) (E := mutR c) (fun a b a0 a1 b0 b1 => by unfold mutSR mutR; rw [bel_op S a0 a1 b0 b1, bel_op S b0 b1 a0 a1]) mut_sym (fun a b d a0 a1 b0 b1 d0 d1 h1 h2 => mut_trans hc a0 a1 b0 b1 d0 d1 h1 h2) (k := 0) ⟨by simp, by simp⟩ (Int.le_refl _) (by simp) (fun m hm => ?_)
  have := (List.mem_filter.1 hm).1
  unfold outR at this
  rw [sel_mem] at this
  exact ⟨this.1, this.2.1⟩

def c_spec_QuotientsOf : Ct := ⟨[CategoryT, (.int .i64)], [true, false], fun x => [], [(false, (.sl (.sl (.fz (.int .i64))))), (false, (.fz (.int .i64)))], fun x => ((quotR x.1 x.2.1).1, (quotR x.1 x.2.1).2, ()), false, none⟩
def W_spec_QuotientsOf (c : CategoryD) (x : Int) (K : (List (List Int)) × Int × Unit → Prop) : Prop := (cnd (!(catR c)) (K (([] : List (List Int)), ((1 : Int), ()))) (cnd (!((decide ((0 : Int) ≤ x)) && (decide (x < c.1)))) (K (([] : List (List Int)), ((2 : Int), ()))) ((ShapeP c) ∧ ((ShapeP (opR c)) ∧ (K ((subobR (opR c) x), ((0 : Int), ())))))))
theorem w_spec_QuotientsOf (x : denL c_spec_QuotientsOf.args) (K : (List (List Int)) × Int × Unit → Prop) : evF tab (lkp [(33, c_spec_l02Is), (41, c_spec_l02Object), (43, c_spec_l03Op), (42, c_spec_l05Subobjects)]) (cutL []) Try.f16 (bodyOf Try.f16) .n c_spec_QuotientsOf x K = W_spec_QuotientsOf x.1 x.2.1 K := by kernel_rfl
theorem k_spec_QuotientsOf : okC Try.f16.ntmps (cutL []) (bodyOf Try.f16) = true := by kernel_rfl
theorem m_spec_QuotientsOf (c : CategoryD) (x : Int) (hok : allP (okL c_spec_QuotientsOf.args (c, x, ()))) (hpre : allP (c_spec_QuotientsOf.pre (c, x, ()))) : W_spec_QuotientsOf c x (fun r => r = c_spec_QuotientsOf.res (c, x, ())) := by
  simp only [c_spec_QuotientsOf, okL, T.oks, T.ok, ap, allP, true_and, and_true, implies_true] at hok hpre
  try dsimp only [T.den] at hok
  try dsimp only [T.den] at hpre
  unfold W_spec_QuotientsOf
  have hw : withinR [x] c.1 = (decide (0 ≤ x) && decide (x < c.1)) := by
    rw [Bool.eq_iff_iff]
    simp only [withinR, List.all_cons, List.all_nil, Bool.and_true, inR_iff, Bool.and_eq_true, decide_eq_true_eq]; omega
  refine cnd_of (fun hx => ?_) (fun hx => ?_)
  · have h : objCodeR c [x] = 1 := by unfold objCodeR; rw [if_neg (by simpa using hx)]
    simp only [c_spec_QuotientsOf, quotR, h]; rfl
  have hc : catR c = true := by simpa using hx
  rw [← hw]
  refine cnd_of (fun hy => ?_) (fun hy => ?_)
  · have h : objCodeR c [x] = 2 := by unfold objCodeR; rw [if_pos hc, if_neg (by simpa using hy)]
    simp only [c_spec_QuotientsOf, quotR, h]; rfl
  · have h : objCodeR c [x] = 0 := by unfold objCodeR; rw [if_pos hc, if_pos (by simpa using hy)]
    have S := cat_shape hc
    refine ⟨S, op_shape S, ?_⟩
    simp only [c_spec_QuotientsOf, quotR, h, sub_op hc]; rfl
theorem ct_spec_QuotientsOf : CtOk Try.prog 16 c_spec_QuotientsOf :=
  ct_by (Φ := lkp [(33, c_spec_l02Is), (41, c_spec_l02Object), (43, c_spec_l03Op), (42, c_spec_l05Subobjects)]) (good_cons ct_spec_l02Is (good_cons ct_spec_l02Object (good_cons ct_spec_l03Op (good_cons ct_spec_l05Subobjects good_nil)))) tab_ok (by kernel_rfl) (fn := Try.f16) (c := bodyOf Try.f16) (by kernel_rfl) (by kernel_rfl) (by kernel_rfl) c_spec_QuotientsOf rfl .n (cutL []) (by kernel_rfl) (by kernel_rfl) k_spec_QuotientsOf (by decide) (fun x K => W_spec_QuotientsOf x.1 x.2.1 K) w_spec_QuotientsOf (fun x h1 h2 => m_spec_QuotientsOf x.1 x.2.1 h1 h2)
def c_laws_FnExactQuotientsOf : Ct := ⟨[CategoryT, (.int .i64)], [true, false], fun x => [], [(false, (.fz .bool))], fun x => (true, ()), false, none⟩
def W_laws_FnExactQuotientsOf (aC : CategoryD) (aX : Int) (K : Bool × Unit → Prop) : Prop := (((-(4611404543450677248 : Int)) ≤ (1048576 : Int)) ∧ (cnd (decide ((szR (wR CategoryT aC) (1048576 : Int)) < (0 : Int))) (K (Bool.true, ())) (((wR CategoryT aC) ≤ 1099511627776) ∧ (((wR CategoryT aC) ≤ 1099511627776) ∧ (cnd ((!(eqR (T.sl (T.sl (T.int IntKind.i64))) (quotR aC aX).1 (quotR aC aX).1)) || ((quotR aC aX).2 != (quotR aC aX).2)) (K (Bool.false, ())) (((wR CategoryT aC) ≤ 1099511627776) ∧ (cnd (!(eqR CategoryT aC aC)) (K (Bool.false, ())) (((0 : Int) ≤ (1 : Int)) ∧ ((((1 : Int) + (((ctR CategoryT aC) : Nat) : Int)) ≤ (4611686018427387904 : Int)) ∧ (cnd (((decide ((mtR CategoryT aC (1 : Int)).2 < (0 : Int))) || (!(eqR (T.sl (T.sl (T.int IntKind.i64))) (quotR aC aX).1 (quotR aC aX).1))) || ((quotR aC aX).2 != (quotR aC aX).2)) (K (Bool.false, ())) (((0 : Int) ≤ (1 : Int)) ∧ ((((1 : Int) + (((ckR (T.sl (T.sl (T.int IntKind.i64))) (quotR aC aX).1) : Nat) : Int)) ≤ (4611686018427387904 : Int)) ∧ (((0 : Int) ≤ (1 : Int)) ∧ ((((1 : Int) + (((ckR (T.sl (T.sl (T.int IntKind.i64))) (mkR (T.sl (T.sl (T.int IntKind.i64))) (quotR aC aX).1 (1 : Int)).1) : Nat) : Int)) ≤ (4611686018427387904 : Int)) ∧ (cnd (decide ((hdR (T.sl (T.sl (T.int IntKind.i64))) (mkR (T.sl (T.sl (T.int IntKind.i64))) (quotR aC aX).1 (1 : Int)).1 (1 : Int)) < (0 : Int))) (K (Bool.false, ())) (cnd ((hdR (T.sl (T.sl (T.int IntKind.i64))) (mkR (T.sl (T.sl (T.int IntKind.i64))) (quotR aC aX).1 (1 : Int)).1 (1 : Int)) != (mkR (T.sl (T.sl (T.int IntKind.i64))) (quotR aC aX).1 (1 : Int)).2) (K (Bool.false, ())) (((wR CategoryT aC) ≤ 1099511627776) ∧ (cnd ((!(eqR (T.sl (T.sl (T.int IntKind.i64))) (quotR aC aX).1 (quotR aC aX).1)) || ((quotR aC aX).2 != (quotR aC aX).2)) (K (Bool.false, ())) (((0 : Int) ≤ (1 : Int)) ∧ ((((1 : Int) + (((ckR (T.sl (T.sl (T.int IntKind.i64))) (mkR (T.sl (T.sl (T.int IntKind.i64))) (quotR aC aX).1 (1 : Int)).1) : Nat) : Int)) ≤ (4611686018427387904 : Int)) ∧ (cnd (decide ((hdR (T.sl (T.sl (T.int IntKind.i64))) (mkR (T.sl (T.sl (T.int IntKind.i64))) (quotR aC aX).1 (1 : Int)).1 (1 : Int)) < (0 : Int))) (K (Bool.false, ())) (cnd ((hdR (T.sl (T.sl (T.int IntKind.i64))) (mkR (T.sl (T.sl (T.int IntKind.i64))) (quotR aC aX).1 (1 : Int)).1 (1 : Int)) != (mkR (T.sl (T.sl (T.int IntKind.i64))) (quotR aC aX).1 (1 : Int)).2) (K (Bool.false, ())) (K (Bool.true, ()))))))))))))))))))))))))
theorem w_laws_FnExactQuotientsOf (x : denL c_laws_FnExactQuotientsOf.args) (K : Bool × Unit → Prop) : evF tab (lkp [(17, c_impl_QuotientsOf), (11, c_laws_eqCategory), (18, c_laws_eqInt64SS), (20, c_laws_heldInt64SS), (13, c_laws_markCategory), (19, c_laws_markInt64SS), (6, c_laws_szCategory), (8, c_laws_toCategory), (16, c_spec_QuotientsOf)]) (cutL [(10, 503)]) Try.f4 (bodyOf Try.f4) .n c_laws_FnExactQuotientsOf x K = W_laws_FnExactQuotientsOf x.1 x.2.1 K := by kernel_rfl
theorem k_laws_FnExactQuotientsOf : okC Try.f4.ntmps (cutL [(10, 503)]) (bodyOf Try.f4) = true := by kernel_rfl
theorem m_laws_FnExactQuotientsOf (aC : CategoryD) (aX : Int) (hok : allP (okL c_laws_FnExactQuotientsOf.args (aC, aX, ()))) (hpre : allP (c_laws_FnExactQuotientsOf.pre (aC, aX, ()))) : W_laws_FnExactQuotientsOf aC aX (fun r => r = c_laws_FnExactQuotientsOf.res (aC, aX, ())) := by
  simp only [c_laws_FnExactQuotientsOf, okL, T.oks, T.ok, ap, allP, true_and, and_true, implies_true] at hok hpre
  try dsimp only [T.den] at hok
  try dsimp only [T.den] at hpre
  unfold W_laws_FnExactQuotientsOf
  have hg : ckR (.sl (.sl (.int .i64))) (quotR aC aX).1 ≤ 38400 := by
    unfold quotR
    split
    · rename_i h
      have S := cat_shape (objCode_cat h)
      have hmm := S.m
      have hlo : (outR aC aX).length ≤ aC.2.1.length := sel_len _
      have hl := List.length_filter_le (epiR aC) (outR aC aX)
      have hp := clsT_p (E := mutR aC) (epis_within aC aX) (i := (((outR aC aX).filter (epiR aC)).length : Nat)) (by omega)
      rw [clsT_n] at hp
      have h1 := hp.len
      have h2 := ck_rows (k := .i64) (B := 40) (classR (mutR aC) ((outR aC aX).filter (epiR aC))) fun r hr => by have := hp.cl r hr; omega
      show ckR (.sl (.sl (.int .i64))) (classR (mutR aC) ((outR aC aX).filter (epiR aC))) ≤ 38400
      omega
    · simp [ckR]
  have e1 := ct_le CategoryT (by decide) aC
  have e2 := @hd_mk1 (.sl (.sl (.int .i64))) (quotR aC aX).1 1
  simp only [Int.ofNat_one, Int.natCast_one] at e2
  simp only [eqR_self, mk_num, mt_num, ck_mk, e2, szR_neg]
  generalize wR CategoryT aC = n1 at *
  generalize ctR CategoryT aC = n2 at *
  generalize ckR (.sl (.sl (.int .i64))) (quotR aC aX).1 = n3 at *
  generalize (quotR aC aX) = g at *
  clear hok
  repeat' (first | rfl | (refine cnd_d (fun _ => rfl) (fun h => ?_)) | (refine cnd_of (fun h => absurd h (by first | (simp; done) | (simp; omega))) (fun _ => ?_)) | (refine ⟨by omega, ?_⟩))
theorem ct_laws_FnExactQuotientsOf : CtOk Try.prog 4 c_laws_FnExactQuotientsOf :=
  ct_by (Φ := lkp [(17, c_impl_QuotientsOf), (11, c_laws_eqCategory), (18, c_laws_eqInt64SS), (20, c_laws_heldInt64SS), (13, c_laws_markCategory), (19, c_laws_markInt64SS), (6, c_laws_szCategory), (8, c_laws_toCategory), (16, c_spec_QuotientsOf)]) (good_cons ct_impl_QuotientsOf (good_cons ct_laws_eqCategory (good_cons ct_laws_eqInt64SS (good_cons ct_laws_heldInt64SS (good_cons ct_laws_markCategory (good_cons ct_laws_markInt64SS (good_cons ct_laws_szCategory (good_cons ct_laws_toCategory (good_cons ct_spec_QuotientsOf good_nil))))))))) tab_ok (by kernel_rfl) (fn := Try.f4) (c := bodyOf Try.f4) (by kernel_rfl) (by kernel_rfl) (by kernel_rfl) c_laws_FnExactQuotientsOf rfl .n (cutL [(10, 503)]) (by kernel_rfl) (by kernel_rfl) k_laws_FnExactQuotientsOf (by decide) (fun x K => W_laws_FnExactQuotientsOf x.1 x.2.1 K) w_laws_FnExactQuotientsOf (fun x h1 h2 => m_laws_FnExactQuotientsOf x.1 x.2.1 h1 h2)
end Go.Bm
