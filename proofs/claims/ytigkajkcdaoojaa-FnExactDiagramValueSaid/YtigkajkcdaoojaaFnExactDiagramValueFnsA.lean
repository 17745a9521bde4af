/- What the functions that FnExactDiagramValue reaches give: for each its contract, what it asks, and the proof. No condition. -/
import Derived.Test.YtigkajkcdaoojaaTab
namespace Go.Bm
open Go.Proofs
set_option maxRecDepth 100000
set_option maxHeartbeats 1000000
set_option linter.unusedVariables false
set_option linter.unusedSimpArgs false
def c_impl_Category_arrows : Ct := ⟨[(.pt CategoryT)], [false], fun x => [], [(false, (.fz (.int .i64)))], fun x => ((x.1.2.1.length : Int), ()), false, none⟩
def W_impl_Category_arrows (c : CategoryD) (K : Int × Unit → Prop) : Prop := (K ((((List.length c.2.1) : Nat) : Int), ()))
theorem w_impl_Category_arrows (x : denL c_impl_Category_arrows.args) (K : Int × Unit → Prop) : evF tab (lkp []) (cutL []) Try.f146 (bodyOf Try.f146) .n c_impl_Category_arrows x K = W_impl_Category_arrows x.1 K := by kernel_rfl
theorem k_impl_Category_arrows : okC Try.f146.ntmps (cutL []) (bodyOf Try.f146) = true := by kernel_rfl
theorem m_impl_Category_arrows (c : CategoryD) (hok : allP (okL c_impl_Category_arrows.args (c, ()))) (hpre : allP (c_impl_Category_arrows.pre (c, ()))) : W_impl_Category_arrows c (fun r => r = c_impl_Category_arrows.res (c, ())) := by
  simp only [c_impl_Category_arrows, okL, T.oks, T.ok, ap, allP, true_and, and_true, implies_true] at hok hpre
  try dsimp only [T.den] at hok
  try dsimp only [T.den] at hpre
  unfold W_impl_Category_arrows
  rfl
theorem ct_impl_Category_arrows : CtOk Try.prog 146 c_impl_Category_arrows :=
  ct_by (Φ := lkp []) good_nil tab_ok (by kernel_rfl) (fn := Try.f146) (c := bodyOf Try.f146) (by kernel_rfl) (by kernel_rfl) (by kernel_rfl) c_impl_Category_arrows rfl .n (cutL []) (by kernel_rfl) (by kernel_rfl) k_impl_Category_arrows (by decide) (fun x K => W_impl_Category_arrows x.1 K) w_impl_Category_arrows (fun x h1 h2 => m_impl_Category_arrows x.1 h1 h2)
def c_impl_Category_ends : Ct := ⟨[(.pt CategoryT), (.int .i64)], [false, false], fun x => [0 ≤ x.2.1, x.2.1 < x.1.2.1.length, x.2.1 < x.1.2.2.1.length], [(true, (.fz endsT))], fun x => (((x.1.2.1.getD x.2.1.toNat 0, x.1.2.2.1.getD x.2.1.toNat 0) : Int × Int), ()), false, none⟩
def W_impl_Category_ends (c : CategoryD) (f : Int) (K : endsD × Unit → Prop) : Prop := (((0 : Int) ≤ f) ∧ ((f < (((List.length c.2.1) : Nat) : Int)) ∧ (((0 : Int) ≤ f) ∧ ((f < (((List.length c.2.2.1) : Nat) : Int)) ∧ (K (((List.getD c.2.1 (Int.toNat f) (0 : Int)), (List.getD c.2.2.1 (Int.toNat f) (0 : Int))), ()))))))
theorem w_impl_Category_ends (x : denL c_impl_Category_ends.args) (K : endsD × Unit → Prop) : evF tab (lkp []) (cutL [(1, 15)]) Try.f147 (bodyOf Try.f147) .n c_impl_Category_ends x K = W_impl_Category_ends x.1 x.2.1 K := by kernel_rfl
theorem k_impl_Category_ends : okC Try.f147.ntmps (cutL [(1, 15)]) (bodyOf Try.f147) = true := by kernel_rfl
theorem m_impl_Category_ends (c : CategoryD) (f : Int) (hok : allP (okL c_impl_Category_ends.args (c, f, ()))) (hpre : allP (c_impl_Category_ends.pre (c, f, ()))) : W_impl_Category_ends c f (fun r => r = c_impl_Category_ends.res (c, f, ())) := by
  simp only [c_impl_Category_ends, okL, T.oks, T.ok, ap, allP, true_and, and_true, implies_true] at hok hpre
  try dsimp only [T.den] at hok
  try dsimp only [T.den] at hpre
  unfold W_impl_Category_ends
  exact ⟨hpre.1, hpre.2.1, hpre.1, hpre.2.2, rfl⟩
theorem ct_impl_Category_ends : CtOk Try.prog 147 c_impl_Category_ends :=
  ct_by (Φ := lkp []) good_nil tab_ok (by kernel_rfl) (fn := Try.f147) (c := bodyOf Try.f147) (by kernel_rfl) (by kernel_rfl) (by kernel_rfl) c_impl_Category_ends rfl .n (cutL [(1, 15)]) (by kernel_rfl) (by kernel_rfl) k_impl_Category_ends (by decide) (fun x K => W_impl_Category_ends x.1 x.2.1 K) w_impl_Category_ends (fun x h1 h2 => m_impl_Category_ends x.1 x.2.1 h1 h2)
def compR (c : CategoryD) (f g : Int) : Int := (c.2.2.2.2.getD f.toNat []).getD g.toNat 0

def c_impl_Category_then : Ct := ⟨[(.pt CategoryT), (.int .i64), (.int .i64)], [false, false, false], fun x => [0 ≤ x.2.1, x.2.1 < x.1.2.2.2.2.length, 0 ≤ x.2.2.1, x.2.2.1 < (x.1.2.2.2.2.getD x.2.1.toNat []).length], [(false, (.fz (.int .i64)))], fun x => (compR x.1 x.2.1 x.2.2.1, ()), false, none⟩
def W_impl_Category_then (c : CategoryD) (f : Int) (g : Int) (K : Int × Unit → Prop) : Prop := (((0 : Int) ≤ f) ∧ ((f < (((List.length c.2.2.2.2) : Nat) : Int)) ∧ (((0 : Int) ≤ g) ∧ ((g < (((List.length (List.getD c.2.2.2.2 (Int.toNat f) ([] : List Int))) : Nat) : Int)) ∧ (K ((List.getD (List.getD c.2.2.2.2 (Int.toNat f) ([] : List Int)) (Int.toNat g) (0 : Int)), ()))))))
theorem w_impl_Category_then (x : denL c_impl_Category_then.args) (K : Int × Unit → Prop) : evF tab (lkp []) (cutL []) Try.f132 (bodyOf Try.f132) .n c_impl_Category_then x K = W_impl_Category_then x.1 x.2.1 x.2.2.1 K := by kernel_rfl
theorem k_impl_Category_then : okC Try.f132.ntmps (cutL []) (bodyOf Try.f132) = true := by kernel_rfl
theorem m_impl_Category_then (c : CategoryD) (f : Int) (g : Int) (hok : allP (okL c_impl_Category_then.args (c, f, g, ()))) (hpre : allP (c_impl_Category_then.pre (c, f, g, ()))) : W_impl_Category_then c f g (fun r => r = c_impl_Category_then.res (c, f, g, ())) := by
  simp only [c_impl_Category_then, okL, T.oks, T.ok, ap, allP, true_and, and_true, implies_true] at hok hpre
  try dsimp only [T.den] at hok
  try dsimp only [T.den] at hpre
  unfold W_impl_Category_then
  exact ⟨hpre.1, hpre.2.1, hpre.2.2.1, hpre.2.2.2, rfl⟩
theorem ct_impl_Category_then : CtOk Try.prog 132 c_impl_Category_then :=
  ct_by (Φ := lkp []) good_nil tab_ok (by kernel_rfl) (fn := Try.f132) (c := bodyOf Try.f132) (by kernel_rfl) (by kernel_rfl) (by kernel_rfl) c_impl_Category_then rfl .n (cutL []) (by kernel_rfl) (by kernel_rfl) k_impl_Category_then (by decide) (fun x K => W_impl_Category_then x.1 x.2.1 x.2.2.1 K) w_impl_Category_then (fun x h1 h2 => m_impl_Category_then x.1 x.2.1 x.2.2.1 h1 h2)
def c_impl_inRange : Ct := ⟨[(.int .i64), (.int .i64), (.int .i64)], [false, false, false], fun x => [], [(false, (.fz .bool))], fun x => (inR x.1 x.2.1 x.2.2.1, ()), false, none⟩
def W_impl_inRange (n : Int) (low : Int) (high : Int) (K : Bool × Unit → Prop) : Prop := (K (((decide (low ≤ n)) && (decide (n ≤ high))), ()))
theorem w_impl_inRange (x : denL c_impl_inRange.args) (K : Bool × Unit → Prop) : evF tab (lkp []) (cutL []) Try.f144 (bodyOf Try.f144) .n c_impl_inRange x K = W_impl_inRange x.1 x.2.1 x.2.2.1 K := by kernel_rfl
theorem k_impl_inRange : okC Try.f144.ntmps (cutL []) (bodyOf Try.f144) = true := by kernel_rfl
theorem m_impl_inRange (n : Int) (low : Int) (high : Int) (hok : allP (okL c_impl_inRange.args (n, low, high, ()))) (hpre : allP (c_impl_inRange.pre (n, low, high, ()))) : W_impl_inRange n low high (fun r => r = c_impl_inRange.res (n, low, high, ())) := by
  simp only [c_impl_inRange, okL, T.oks, T.ok, ap, allP, true_and, and_true, implies_true] at hok hpre
  try dsimp only [T.den] at hok
  try dsimp only [T.den] at hpre
  unfold W_impl_inRange
  grind [cnd, nb_eq, inK64, c_impl_inRange, inR]
theorem ct_impl_inRange : CtOk Try.prog 144 c_impl_inRange :=
  ct_by (Φ := lkp []) good_nil tab_ok (by kernel_rfl) (fn := Try.f144) (c := bodyOf Try.f144) (by kernel_rfl) (by kernel_rfl) (by kernel_rfl) c_impl_inRange rfl .n (cutL []) (by kernel_rfl) (by kernel_rfl) k_impl_inRange (by decide) (fun x K => W_impl_inRange x.1 x.2.1 x.2.2.1 K) w_impl_inRange (fun x h1 h2 => m_impl_inRange x.1 x.2.1 x.2.2.1 h1 h2)
def c_impl_within : Ct := ⟨[(.sl (.int .i64)), (.int .i64)], [false, false], fun x => [inK .i64 (x.2.1 - 1)], [(false, (.fz .bool))], fun x => (withinR x.1 x.2.1, ()), false, none⟩
def W_impl_within (list : List Int) (n : Int) (K : Bool × Unit → Prop) : Prop := (loopW (S := ((Int × Unit) × Unit)) (fun s => (fun next => ((inK IntKind.i64 s.1.1) → (cnd (decide (s.1.1 < (((List.length list) : Nat) : Int))) (((0 : Int) ≤ s.1.1) ∧ ((s.1.1 < (((List.length list) : Nat) : Int)) ∧ ((inK IntKind.i64 (n - (1 : Int))) ∧ (cnd (!(inR (List.getD list (Int.toNat s.1.1) (0 : Int)) (0 : Int) (n - (1 : Int)))) (K (Bool.false, ())) ((inK IntKind.i64 (s.1.1 + (1 : Int))) ∧ (next (((s.1.1 + (1 : Int)), ()), ()))))))) (K (Bool.true, ())))))) (((0 : Int), ()), ()))
theorem w_impl_within (x : denL c_impl_within.args) (K : Bool × Unit → Prop) : evF tab (lkp [(144, c_impl_inRange)]) (cutL []) Try.f158 (bodyOf Try.f158) (.s .n (.s (.s .n (.l [(9, (.d (.int .i64)))] [] [1, 7, 8] .n)) .n)) c_impl_within x K = W_impl_within x.1 x.2.1 K := by kernel_rfl
theorem k_impl_within : okC Try.f158.ntmps (cutL []) (bodyOf Try.f158) = true := by kernel_rfl
theorem m_impl_within (list : List Int) (n : Int) (hok : allP (okL c_impl_within.args (list, n, ()))) (hpre : allP (c_impl_within.pre (list, n, ()))) : W_impl_within list n (fun r => r = c_impl_within.res (list, n, ())) := by
  simp only [c_impl_within, okL, T.oks, T.ok, ap, allP, true_and, and_true, implies_true] at hok hpre
  try dsimp only [T.den] at hok
  try dsimp only [T.den] at hpre
  unfold W_impl_within
  refine loop_of (fun (s : ((Int × Unit) × Unit)) => 0 ≤ s.1.1 ∧ s.1.1 ≤ list.length ∧ withinR list n = withinR (list.drop s.1.1.toNat) n) (fun (s : ((Int × Unit) × Unit)) => (list.length - s.1.1).toNat) ?_ (by simp)
  rintro ⟨⟨i, _⟩, _⟩ next ⟨h0, h1, h2⟩ hn hin
  simp only at h0 h1 h2 hn ⊢
  refine cnd_d (fun hc => ?_) (fun hc => ?_)
  · rw [drop_c list 0 h0 hc] at h2
    simp only [withinR, List.all_cons] at h2
    grind [cnd, nb_eq, inK64, c_impl_within, withinR]
  · rw [drop_n list (by omega)] at h2
    grind [cnd, nb_eq, inK64, c_impl_within, withinR]
theorem ct_impl_within : CtOk Try.prog 158 c_impl_within :=
  ct_by (Φ := lkp [(144, c_impl_inRange)]) (good_cons ct_impl_inRange good_nil) tab_ok (by kernel_rfl) (fn := Try.f158) (c := bodyOf Try.f158) (by kernel_rfl) (by kernel_rfl) (by kernel_rfl) c_impl_within rfl (.s .n (.s (.s .n (.l [(9, (.d (.int .i64)))] [] [1, 7, 8] .n)) .n)) (cutL []) (by kernel_rfl) (by kernel_rfl) k_impl_within (by decide) (fun x K => W_impl_within x.1 x.2.1 K) w_impl_within (fun x h1 h2 => m_impl_within x.1 x.2.1 h1 h2)
/-- what a cell of the table must be -/
def cellQ (c : CategoryD) (f g v : Int) : Bool :=
  if c.2.2.1.getD f.toNat 0 = c.2.1.getD g.toNat 0 then decide (0 ≤ v ∧ v < c.2.1.length ∧ c.2.1.getD v.toNat 0 = c.2.1.getD f.toNat 0 ∧ c.2.2.1.getD v.toNat 0 = c.2.2.1.getD g.toNat 0)
  else decide (v = -1)
def cellR (c : CategoryD) (f g : Int) : Bool := cellQ c f g (compR c f g)
structure ShapeP (c : CategoryD) : Prop where
  ob : 0 ≤ c.1 ∧ c.1 ≤ 8
  m : c.2.1.length ≤ 40
  lt : c.2.2.1.length = c.2.1.length
  fr : withinR c.2.1 c.1 = true
  to : withinR c.2.2.1 c.1 = true
  li : (c.2.2.2.1.length : Int) = c.1
  ids : withinR c.2.2.2.1 c.2.1.length = true
  lc : c.2.2.2.2.length = c.2.1.length
  idt : ∀ x : Int, 0 ≤ x → x < c.1 → c.2.1.getD (c.2.2.2.1.getD x.toNat 0).toNat 0 = x ∧ c.2.2.1.getD (c.2.2.2.1.getD x.toNat 0).toNat 0 = x
  row : ∀ f : Int, 0 ≤ f → f < c.2.1.length → (c.2.2.2.2.getD f.toNat []).length = c.2.1.length
  cell : ∀ f g : Int, 0 ≤ f → f < c.2.1.length → 0 ≤ g → g < c.2.1.length → cellR c f g = true
def shapeR (c : CategoryD) : Bool := inR c.1 0 8 && decide (c.2.1.length ≤ 40) && decide (c.2.2.1.length = c.2.1.length) && withinR c.2.1 c.1 && withinR c.2.2.1 c.1 && decide ((c.2.2.2.1.length : Int) = c.1) && withinR c.2.2.2.1 c.2.1.length &&
  decide (c.2.2.2.2.length = c.2.1.length) && allB c.1.toNat (fun x => decide (c.2.1.getD (c.2.2.2.1.getD x.toNat 0).toNat 0 = x ∧ c.2.2.1.getD (c.2.2.2.1.getD x.toNat 0).toNat 0 = x)) &&
  allB c.2.1.length (fun f => decide ((c.2.2.2.2.getD f.toNat []).length = c.2.1.length)) && allB c.2.1.length (fun f => allB c.2.1.length fun g => cellR c f g)
theorem shape_iff {c : CategoryD} : shapeR c = true ↔ ShapeP c := by
  simp only [shapeR, Bool.and_eq_true, decide_eq_true_eq, inR, allB_iff]
  constructor
  · rintro ⟨⟨⟨⟨⟨⟨⟨⟨⟨⟨h0, h1⟩, h2⟩, h3⟩, h4⟩, h5⟩, h6⟩, h7⟩, h8⟩, h9⟩, h10⟩
    exact ⟨h0, h1, h2, h3, h4, h5, h6, h7, fun x a b => h8 x a (by omega), h9, fun f g a b d e => h10 f a b g d e⟩
  · intro h
    exact ⟨⟨⟨⟨⟨⟨⟨⟨⟨⟨h.ob, h.m⟩, h.lt⟩, h.fr⟩, h.to⟩, h.li⟩, h.ids⟩, h.lc⟩, fun x a b => h.idt x a (by have := h.ob; omega)⟩, h.row⟩, fun f a b g d e => h.cell f g a b d e⟩
theorem shape_f {c : CategoryD} (h : ¬ ShapeP c) : shapeR c = false := by
  cases hs : shapeR c with
  | false => rfl
  | true => exact absurd (shape_iff.1 hs) h
theorem shape_t {c : CategoryD} (h : ShapeP c) : shapeR c = true := shape_iff.2 h

def c_impl_Category_isShape : Ct := ⟨[(.pt CategoryT)], [false], fun x => [], [(false, (.fz .bool))], fun x => (shapeR x.1, ()), false, none⟩
def W_impl_Category_isShape (c : CategoryD) (K : Bool × Unit → Prop) : Prop := ((((((!(inR c.1 (0 : Int) (8 : Int))) || (decide ((40 : Int) < (((List.length c.2.1) : Nat) : Int)))) || ((((List.length c.2.2.1) : Nat) : Int) != (((List.length c.2.1) : Nat) : Int))) = Bool.false) → (inK IntKind.i64 (c.1 - (1 : Int)))) ∧ (((((((!(inR c.1 (0 : Int) (8 : Int))) || (decide ((40 : Int) < (((List.length c.2.1) : Nat) : Int)))) || ((((List.length c.2.2.1) : Nat) : Int) != (((List.length c.2.1) : Nat) : Int))) || (!(withinR c.2.1 c.1))) = Bool.false) → (inK IntKind.i64 (c.1 - (1 : Int)))) ∧ (cnd (((((!(inR c.1 (0 : Int) (8 : Int))) || (decide ((40 : Int) < (((List.length c.2.1) : Nat) : Int)))) || ((((List.length c.2.2.1) : Nat) : Int) != (((List.length c.2.1) : Nat) : Int))) || (!(withinR c.2.1 c.1))) || (!(withinR c.2.2.1 c.1))) (K (Bool.false, ())) (((((((List.length c.2.2.2.1) : Nat) : Int) != c.1) = Bool.false) → (inK IntKind.i64 ((((List.length c.2.1) : Nat) : Int) - (1 : Int)))) ∧ (cnd ((((((List.length c.2.2.2.1) : Nat) : Int) != c.1) || (!(withinR c.2.2.2.1 (((List.length c.2.1) : Nat) : Int)))) || ((((List.length c.2.2.2.2) : Nat) : Int) != (((List.length c.2.1) : Nat) : Int))) (K (Bool.false, ())) (loopW (S := ((Int × Unit) × Unit)) (fun s => (fun next => ((inK IntKind.i64 s.1.1) → (cnd (decide (s.1.1 < (((List.length c.2.2.2.1) : Nat) : Int))) (((0 : Int) ≤ s.1.1) ∧ ((s.1.1 < (((List.length c.2.2.2.1) : Nat) : Int)) ∧ (((0 : Int) ≤ (List.getD c.2.2.2.1 (Int.toNat s.1.1) (0 : Int))) ∧ (((List.getD c.2.2.2.1 (Int.toNat s.1.1) (0 : Int)) < (((List.length c.2.1) : Nat) : Int)) ∧ (((List.getD c.2.2.2.1 (Int.toNat s.1.1) (0 : Int)) < (((List.length c.2.2.1) : Nat) : Int)) ∧ (cnd (!(((List.getD c.2.1 (Int.toNat (List.getD c.2.2.2.1 (Int.toNat s.1.1) (0 : Int))) (0 : Int)) == s.1.1) && ((List.getD c.2.2.1 (Int.toNat (List.getD c.2.2.2.1 (Int.toNat s.1.1) (0 : Int))) (0 : Int)) == s.1.1))) (K (Bool.false, ())) ((inK IntKind.i64 (s.1.1 + (1 : Int))) ∧ (next (((s.1.1 + (1 : Int)), ()), ()))))))))) (loopW (S := ((Int × Unit) × Unit)) (fun s1 => (fun next1 => ((inK IntKind.i64 s1.1.1) → (cnd (decide (s1.1.1 < (((List.length c.2.2.2.2) : Nat) : Int))) (((0 : Int) ≤ s1.1.1) ∧ ((s1.1.1 < (((List.length c.2.2.2.2) : Nat) : Int)) ∧ (cnd ((((List.length (List.getD c.2.2.2.2 (Int.toNat s1.1.1) ([] : List Int))) : Nat) : Int) != (((List.length c.2.1) : Nat) : Int)) (K (Bool.false, ())) (loopW (S := ((Int × Unit) × Unit)) (fun s2 => (fun next2 => ((inK IntKind.i64 s2.1.1) → (cnd (decide (s2.1.1 < (((List.length (List.getD c.2.2.2.2 (Int.toNat s1.1.1) ([] : List Int))) : Nat) : Int))) (joinW (S := (Unit × Unit)) (fun s3 => ((inK IntKind.i64 (s2.1.1 + (1 : Int))) ∧ (next2 (((s2.1.1 + (1 : Int)), ()), ())))) (fun k => (((0 : Int) ≤ s2.1.1) ∧ ((s2.1.1 < (((List.length (List.getD c.2.2.2.2 (Int.toNat s1.1.1) ([] : List Int))) : Nat) : Int)) ∧ (((0 : Int) ≤ s1.1.1) ∧ ((s1.1.1 < (((List.length c.2.2.1) : Nat) : Int)) ∧ (((0 : Int) ≤ s2.1.1) ∧ ((s2.1.1 < (((List.length c.2.1) : Nat) : Int)) ∧ (cnd ((List.getD c.2.2.1 (Int.toNat s1.1.1) (0 : Int)) != (List.getD c.2.1 (Int.toNat s2.1.1) (0 : Int))) (cnd ((List.getD (List.getD c.2.2.2.2 (Int.toNat s1.1.1) ([] : List Int)) (Int.toNat s2.1.1) (0 : Int)) != (-(1 : Int))) (K (Bool.false, ())) (k ((), ()))) ((inK IntKind.i64 ((((List.length c.2.1) : Nat) : Int) - (1 : Int))) ∧ ((((!(inR (List.getD (List.getD c.2.2.2.2 (Int.toNat s1.1.1) ([] : List Int)) (Int.toNat s2.1.1) (0 : Int)) (0 : Int) ((((List.length c.2.1) : Nat) : Int) - (1 : Int)))) = Bool.false) → (((List.getD (List.getD c.2.2.2.2 (Int.toNat s1.1.1) ([] : List Int)) (Int.toNat s2.1.1) (0 : Int)) < (((List.length c.2.1) : Nat) : Int)) ∧ (((List.getD (List.getD c.2.2.2.2 (Int.toNat s1.1.1) ([] : List Int)) (Int.toNat s2.1.1) (0 : Int)) < (((List.length c.2.2.1) : Nat) : Int)) ∧ ((0 : Int) ≤ (List.getD (List.getD c.2.2.2.2 (Int.toNat s1.1.1) ([] : List Int)) (Int.toNat s2.1.1) (0 : Int)))))) ∧ ((((!(inR (List.getD (List.getD c.2.2.2.2 (Int.toNat s1.1.1) ([] : List Int)) (Int.toNat s2.1.1) (0 : Int)) (0 : Int) ((((List.length c.2.1) : Nat) : Int) - (1 : Int)))) = Bool.false) → ((s1.1.1 < (((List.length c.2.1) : Nat) : Int)) ∧ ((0 : Int) ≤ s1.1.1))) ∧ ((((!(inR (List.getD (List.getD c.2.2.2.2 (Int.toNat s1.1.1) ([] : List Int)) (Int.toNat s2.1.1) (0 : Int)) (0 : Int) ((((List.length c.2.1) : Nat) : Int) - (1 : Int)))) = Bool.false) → ((s2.1.1 < (((List.length c.2.2.1) : Nat) : Int)) ∧ ((0 : Int) ≤ s2.1.1))) ∧ (cnd ((!(inR (List.getD (List.getD c.2.2.2.2 (Int.toNat s1.1.1) ([] : List Int)) (Int.toNat s2.1.1) (0 : Int)) (0 : Int) ((((List.length c.2.1) : Nat) : Int) - (1 : Int)))) || (!(((List.getD c.2.1 (Int.toNat (List.getD (List.getD c.2.2.2.2 (Int.toNat s1.1.1) ([] : List Int)) (Int.toNat s2.1.1) (0 : Int))) (0 : Int)) == (List.getD c.2.1 (Int.toNat s1.1.1) (0 : Int))) && ((List.getD c.2.2.1 (Int.toNat (List.getD (List.getD c.2.2.2.2 (Int.toNat s1.1.1) ([] : List Int)) (Int.toNat s2.1.1) (0 : Int))) (0 : Int)) == (List.getD c.2.2.1 (Int.toNat s2.1.1) (0 : Int)))))) (K (Bool.false, ())) (k ((), ())))))))))))))))) ((inK IntKind.i64 (s1.1.1 + (1 : Int))) ∧ (next1 (((s1.1.1 + (1 : Int)), ()), ()))))))) (((0 : Int), ()), ()))))) (K (Bool.true, ())))))) (((0 : Int), ()), ())))))) (((0 : Int), ()), ())))))))
theorem w_impl_Category_isShape (x : denL c_impl_Category_isShape.args) (K : Bool × Unit → Prop) : evF tab (lkp [(146, c_impl_Category_arrows), (147, c_impl_Category_ends), (144, c_impl_inRange), (158, c_impl_within)]) (cutL [(2, 43), (20, 15), (4, 28), (23, 26)]) Try.f168 (bodyOf Try.f168) (.s .n (.s .n (.s .n (.s .n (.s (.s .n (.l [(88, (.d (.int .i64)))] [] [0, 3, 86, 87] .n)) (.s (.s .n (.l [(106, (.d (.int .i64)))] [] [0, 3, 104, 105] (.s .n (.s .n (.s (.s .n (.s .n (.s .n (.l [(117, (.d (.int .i64)))] [] [0, 3, 6, 104, 105, 106, 115, 116] (.s .n (.s .n (.s (.j [] [] [0, 3, 6, 104, 105, 106, 115, 116, 117] .n) .n))))))) .n))))) .n)))))) c_impl_Category_isShape x K = W_impl_Category_isShape x.1 K := by kernel_rfl
theorem k_impl_Category_isShape : okC Try.f168.ntmps (cutL [(2, 43), (20, 15), (4, 28), (23, 26)]) (bodyOf Try.f168) = true := by kernel_rfl
theorem m_impl_Category_isShape (c : CategoryD) (hok : allP (okL c_impl_Category_isShape.args (c, ()))) (hpre : allP (c_impl_Category_isShape.pre (c, ()))) : W_impl_Category_isShape c (fun r => r = c_impl_Category_isShape.res (c, ())) := by
  simp only [c_impl_Category_isShape, okL, T.oks, T.ok, ap, allP, true_and, and_true, implies_true] at hok hpre
  try dsimp only [T.den] at hok
  try dsimp only [T.den] at hpre
  unfold W_impl_Category_isShape
  refine ⟨by grind [cnd, nb_eq, inK64, inR], by grind [cnd, nb_eq, inK64, inR], cnd_of (fun hc => ?_) (fun hc => ⟨by rw [inK64]; have := hok.2.1.1; grind [cnd, nb_eq, inK64], cnd_of (fun hd => ?_) (fun hd => ?_)⟩)⟩
  · simp only [c_impl_Category_isShape]; rw [shape_f]; intro h; have h1 := h.ob; have h2 := h.m; have h3 := h.lt; have h4 := h.fr; have h5 := h.to; simp only [inR] at hc; grind [cnd, nb_eq, inK64]
  · simp only [c_impl_Category_isShape]; rw [shape_f]; intro h; have h1 := h.li; have h2 := h.ids; have h3 := h.lc; grind [cnd, nb_eq, inK64]
  simp only [inR, Bool.or_eq_false_iff, Bool.not_eq_false', Bool.and_eq_true, decide_eq_true_eq, decide_eq_false_iff_not, bne_eq_false_iff_eq] at hc hd
  obtain ⟨⟨⟨⟨hob, hm⟩, hlt⟩, hfr⟩, hto⟩ := hc
  obtain ⟨⟨hli, hids⟩, hlc⟩ := hd
  have bad : ¬ ShapeP c → (false, ()) = c_impl_Category_isShape.res (c, ()) := fun h => by simp only [c_impl_Category_isShape]; rw [shape_f h]
  refine loop_ix (n := c.2.2.2.1.length) (fun x => ∀ y : Int, 0 ≤ y → y < x → c.2.1.getD (c.2.2.2.1.getD y.toNat 0).toNat 0 = y ∧ c.2.2.1.getD (c.2.2.2.1.getD y.toNat 0).toNat 0 = y) (by omega) (by intro y h0 h1; omega) ?_ ?_
  · intro x next h0 h1 hP hn hin
    have hb := within_iff.1 hids x h0 h1
    try dsimp only
    refine cnd_d (fun _ => ⟨h0, h1, hb.1, hb.2, by omega, cnd_of (fun hx => bad fun h => ?_) (fun hx => ?_)⟩) (fun h => absurd h1 h)
    · have := h.idt x h0 (by omega)
      rw [this.1, this.2] at hx
      simp at hx
    · simp only [Bool.not_eq_false', Bool.and_eq_true, beq_iff_eq] at hx
      refine ⟨by rw [inK64]; (try dsimp only); omega, hn fun y y0 y1 => ?_⟩
      by_cases e : y = x
      · rw [e]; exact hx
      · exact hP y y0 (by omega)
  intro next hidt hin
  refine cnd_d (fun h => absurd h (by dsimp only; omega)) (fun _ => ?_)
  refine loop_ix (n := c.2.2.2.2.length) (fun f => ∀ f' : Int, 0 ≤ f' → f' < f → (c.2.2.2.2.getD f'.toNat []).length = c.2.1.length ∧ ∀ g : Int, 0 ≤ g → g < c.2.1.length → cellR c f' g = true) (by omega) (by intro y h0 h1; omega) ?_ ?_
  · intro f next h0 h1 hP hn hin
    try dsimp only
    refine cnd_d (fun _ => ⟨h0, h1, cnd_of (fun hx => bad fun h => ?_) (fun hx => ?_)⟩) (fun h => absurd h1 h)
    · have := h.row f h0 (by omega)
      rw [this] at hx
      simp at hx
    simp only [bne_eq_false_iff_eq] at hx
    refine loop_ix (n := (c.2.2.2.2.getD f.toNat []).length) (fun g => ∀ g' : Int, 0 ≤ g' → g' < g → cellR c f g' = true) (by omega) (by intro y h0 h1; omega) ?_ ?_
    · intro g next3 g0 g1 hP3 hn3 hin3
      try dsimp only
      refine cnd_d (fun _ => ?_) (fun h => absurd g1 h)
      refine join_of (fun _ => cellR c f g = true) (fun _ hcell => ⟨by rw [inK64]; (try dsimp only); omega, hn3 fun g' y0 y1 => ?_⟩) (fun k hk => ?_)
      · by_cases e : g' = g
        · rw [e]; exact hcell
        · exact hP3 g' y0 (by omega)
      have hcell : ∀ b, cellR c f g = b → b = false → ¬ ShapeP c := fun b h1 h2 h => by
        have := h.cell f g h0 (by omega) g0 (by omega)
        rw [h1, h2] at this; cases this
      have hk' := hk ((), ())
      obtain ⟨v, hv⟩ : ∃ v, (c.2.2.2.2.getD f.toNat []).getD g.toNat 0 = v := ⟨_, rfl⟩
      have hR : cellR c f g = cellQ c f g v := by unfold cellR compR; rw [hv]
      rw [hR] at hk'
      rw [hR] at hcell
      rw [hv]
      clear hP3 hn3 hP hn hk hR hv hidt hok
      refine ⟨g0, g1, h0, by omega, g0, by omega, cnd_of (fun ha => cnd_of (fun hb => bad ?_) (fun hb => hk' ?_)) (fun ha => ⟨by rw [inK64]; (try dsimp only); omega, fun hv => ?_, fun _ => ⟨by omega, h0⟩, fun _ => ⟨by omega, g0⟩, cnd_of (fun hb => bad ?_) (fun hb => hk' ?_)⟩)⟩
      · exact hcell _ rfl (by grind [cnd, nb_eq, inK64, cellQ])
      · grind [cnd, nb_eq, inK64, cellQ]
      · simp only [inR, Bool.not_eq_false', Bool.and_eq_true, decide_eq_true_eq] at hv; omega
      · exact hcell _ rfl (by simp only [inR] at hb; grind [cnd, nb_eq, inK64, cellQ])
      · simp only [inR] at hb; grind [cnd, nb_eq, inK64, cellQ]
    · intro next3 hP3 hin3
      refine cnd_d (fun h => absurd h (by dsimp only; omega)) (fun _ => ⟨by rw [inK64]; (try dsimp only); omega, hn fun f' y0 y1 => ?_⟩)
      by_cases e : f' = f
      · rw [e]; exact ⟨by omega, fun g g0 g1 => hP3 g g0 (by omega)⟩
      · exact hP f' y0 (by omega)
  · intro next2 hP2 hin2
    refine cnd_d (fun h => absurd h (by dsimp only; omega)) (fun _ => ?_)
    simp only [c_impl_Category_isShape]
    rw [shape_t ⟨hob, by omega, by omega, hfr, hto, by omega, hids, by omega, fun x a b => hidt x a (by omega), fun f a b => (hP2 f a (by omega)).1, fun f g a b d e => (hP2 f a (by omega)).2 g d e⟩]
theorem ct_impl_Category_isShape : CtOk Try.prog 168 c_impl_Category_isShape :=
  ct_by (Φ := lkp [(146, c_impl_Category_arrows), (147, c_impl_Category_ends), (144, c_impl_inRange), (158, c_impl_within)]) (good_cons ct_impl_Category_arrows (good_cons ct_impl_Category_ends (good_cons ct_impl_inRange (good_cons ct_impl_within good_nil)))) tab_ok (by kernel_rfl) (fn := Try.f168) (c := bodyOf Try.f168) (by kernel_rfl) (by kernel_rfl) (by kernel_rfl) c_impl_Category_isShape rfl (.s .n (.s .n (.s .n (.s .n (.s (.s .n (.l [(88, (.d (.int .i64)))] [] [0, 3, 86, 87] .n)) (.s (.s .n (.l [(106, (.d (.int .i64)))] [] [0, 3, 104, 105] (.s .n (.s .n (.s (.s .n (.s .n (.s .n (.l [(117, (.d (.int .i64)))] [] [0, 3, 6, 104, 105, 106, 115, 116] (.s .n (.s .n (.s (.j [] [] [0, 3, 6, 104, 105, 106, 115, 116, 117] .n) .n))))))) .n))))) .n)))))) (cutL [(2, 43), (20, 15), (4, 28), (23, 26)]) (by kernel_rfl) (by kernel_rfl) k_impl_Category_isShape (by decide) (fun x K => W_impl_Category_isShape x.1 K) w_impl_Category_isShape (fun x h1 h2 => m_impl_Category_isShape x.1 h1 h2)
theorem ShapeP.frm {c : CategoryD} (h : ShapeP c) {f : Int} (h0 : 0 ≤ f) (h1 : f < c.2.1.length) : 0 ≤ c.2.1.getD f.toNat 0 ∧ c.2.1.getD f.toNat 0 < c.1 ∧ 0 ≤ c.2.2.1.getD f.toNat 0 ∧ c.2.2.1.getD f.toNat 0 < c.1 := by
  have a := within_iff.1 h.fr f h0 h1
  have b := within_iff.1 h.to f h0 (by have := h.lt; omega)
  exact ⟨a.1, a.2, b.1, b.2⟩
theorem ShapeP.idn {c : CategoryD} (h : ShapeP c) {x : Int} (h0 : 0 ≤ x) (h1 : x < c.1) : 0 ≤ c.2.2.2.1.getD x.toNat 0 ∧ c.2.2.2.1.getD x.toNat 0 < c.2.1.length ∧ c.2.1.getD (c.2.2.2.1.getD x.toNat 0).toNat 0 = x ∧ c.2.2.1.getD (c.2.2.2.1.getD x.toNat 0).toNat 0 = x := by
  have a := within_iff.1 h.ids x h0 (by have := h.li; omega)
  have b := h.idt x h0 h1
  exact ⟨a.1, a.2, b.1, b.2⟩
theorem ShapeP.yes {c : CategoryD} (h : ShapeP c) {f g : Int} (h0 : 0 ≤ f) (h1 : f < c.2.1.length) (g0 : 0 ≤ g) (g1 : g < c.2.1.length) (e : c.2.2.1.getD f.toNat 0 = c.2.1.getD g.toNat 0) :
    0 ≤ compR c f g ∧ compR c f g < c.2.1.length ∧ c.2.1.getD (compR c f g).toNat 0 = c.2.1.getD f.toNat 0 ∧ c.2.2.1.getD (compR c f g).toNat 0 = c.2.2.1.getD g.toNat 0 := by
  have := h.cell f g h0 h1 g0 g1
  unfold cellR cellQ at this
  rw [if_pos e] at this
  simpa using this
theorem ShapeP.no {c : CategoryD} (h : ShapeP c) {f g : Int} (h0 : 0 ≤ f) (h1 : f < c.2.1.length) (g0 : 0 ≤ g) (g1 : g < c.2.1.length) (e : c.2.2.1.getD f.toNat 0 ≠ c.2.1.getD g.toNat 0) : compR c f g = -1 := by
  have := h.cell f g h0 h1 g0 g1
  unfold cellR cellQ at this
  rw [if_neg e] at this
  simpa using this
theorem ShapeP.comp {c : CategoryD} (h : ShapeP c) {f g : Int} (h0 : 0 ≤ f) (h1 : f < c.2.1.length) (g0 : 0 ≤ g) (g1 : g < c.2.1.length) : 0 ≤ compR c f g ↔ c.2.2.1.getD f.toNat 0 = c.2.1.getD g.toNat 0 := by
  constructor
  · intro h2
    by_cases e : c.2.2.1.getD f.toNat 0 = c.2.1.getD g.toNat 0
    · exact e
    · have := h.no h0 h1 g0 g1 e; omega
  · intro e; exact (h.yes h0 h1 g0 g1 e).1
def faultI (c : CategoryD) (f : Int) : Option (Int × Int × Int × Int) :=
  if compR c (c.2.2.2.1.getD (c.2.1.getD f.toNat 0).toNat 0) f ≠ f ∨ compR c f (c.2.2.2.1.getD (c.2.2.1.getD f.toNat 0).toNat 0) ≠ f then some (1, f, 0, 0) else none
def faultH (c : CategoryD) (f g h : Int) : Option (Int × Int × Int × Int) :=
  if c.2.2.1.getD g.toNat 0 = c.2.1.getD h.toNat 0 ∧ compR c (compR c f g) h ≠ compR c f (compR c g h) then some (2, f, g, h) else none
def faultG (c : CategoryD) (f g : Int) : Option (Int × Int × Int × Int) :=
  if c.2.2.1.getD f.toNat 0 = c.2.1.getD g.toNat 0 then scanR (faultH c f g) c.2.1.length 0 else none
def faultF (c : CategoryD) (f : Int) : Option (Int × Int × Int × Int) := scanR (faultG c f) c.2.1.length 0
def faultR (c : CategoryD) : Int × Int × Int × Int :=
  orR (scanR (faultI c) c.2.1.length 0) (orR (scanR (faultF c) c.2.1.length 0) (0, 0, 0, 0))

def c_impl_Category_fault : Ct := ⟨[(.pt CategoryT)], [false], fun x => [ShapeP x.1], [(false, (.fz (.int .i64))), (false, (.fz (.int .i64))), (false, (.fz (.int .i64))), (false, (.fz (.int .i64)))], fun x => ((faultR x.1).1, (faultR x.1).2.1, (faultR x.1).2.2.1, (faultR x.1).2.2.2, ()), false, none⟩
def W_impl_Category_fault (c : CategoryD) (K : Int × Int × Int × Int × Unit → Prop) : Prop := (loopW (S := ((Int × Unit) × Unit)) (fun s => (fun next => ((inK IntKind.i64 s.1.1) → (cnd (decide (s.1.1 < (((List.length c.2.1) : Nat) : Int))) (((0 : Int) ≤ s.1.1) ∧ ((s.1.1 < (((List.length c.2.1) : Nat) : Int)) ∧ (((0 : Int) ≤ (List.getD c.2.1 (Int.toNat s.1.1) (0 : Int))) ∧ (((List.getD c.2.1 (Int.toNat s.1.1) (0 : Int)) < (((List.length c.2.2.2.1) : Nat) : Int)) ∧ (((0 : Int) ≤ (List.getD c.2.2.2.1 (Int.toNat (List.getD c.2.1 (Int.toNat s.1.1) (0 : Int))) (0 : Int))) ∧ (((List.getD c.2.2.2.1 (Int.toNat (List.getD c.2.1 (Int.toNat s.1.1) (0 : Int))) (0 : Int)) < (((List.length c.2.2.2.2) : Nat) : Int)) ∧ (((0 : Int) ≤ s.1.1) ∧ ((s.1.1 < (((List.length (List.getD c.2.2.2.2 (Int.toNat (List.getD c.2.2.2.1 (Int.toNat (List.getD c.2.1 (Int.toNat s.1.1) (0 : Int))) (0 : Int))) ([] : List Int))) : Nat) : Int)) ∧ (((((compR c (List.getD c.2.2.2.1 (Int.toNat (List.getD c.2.1 (Int.toNat s.1.1) (0 : Int))) (0 : Int)) s.1.1) != s.1.1) = Bool.false) → ((s.1.1 < (((List.length c.2.2.1) : Nat) : Int)) ∧ ((0 : Int) ≤ s.1.1))) ∧ (((((compR c (List.getD c.2.2.2.1 (Int.toNat (List.getD c.2.1 (Int.toNat s.1.1) (0 : Int))) (0 : Int)) s.1.1) != s.1.1) = Bool.false) → (((List.getD c.2.2.1 (Int.toNat s.1.1) (0 : Int)) < (((List.length c.2.2.2.1) : Nat) : Int)) ∧ ((0 : Int) ≤ (List.getD c.2.2.1 (Int.toNat s.1.1) (0 : Int))))) ∧ (((((compR c (List.getD c.2.2.2.1 (Int.toNat (List.getD c.2.1 (Int.toNat s.1.1) (0 : Int))) (0 : Int)) s.1.1) != s.1.1) = Bool.false) → ((s.1.1 < (((List.length c.2.2.2.2) : Nat) : Int)) ∧ (((0 : Int) ≤ (List.getD c.2.2.2.1 (Int.toNat (List.getD c.2.2.1 (Int.toNat s.1.1) (0 : Int))) (0 : Int))) ∧ (((List.getD c.2.2.2.1 (Int.toNat (List.getD c.2.2.1 (Int.toNat s.1.1) (0 : Int))) (0 : Int)) < (((List.length (List.getD c.2.2.2.2 (Int.toNat s.1.1) ([] : List Int))) : Nat) : Int)) ∧ ((0 : Int) ≤ s.1.1))))) ∧ (cnd (((compR c (List.getD c.2.2.2.1 (Int.toNat (List.getD c.2.1 (Int.toNat s.1.1) (0 : Int))) (0 : Int)) s.1.1) != s.1.1) || ((compR c s.1.1 (List.getD c.2.2.2.1 (Int.toNat (List.getD c.2.2.1 (Int.toNat s.1.1) (0 : Int))) (0 : Int))) != s.1.1)) (K ((1 : Int), (s.1.1, ((0 : Int), ((0 : Int), ()))))) ((inK IntKind.i64 (s.1.1 + (1 : Int))) ∧ (next (((s.1.1 + (1 : Int)), ()), ()))))))))))))))) (loopW (S := ((Int × Unit) × Unit)) (fun s1 => (fun next1 => ((inK IntKind.i64 s1.1.1) → (cnd (decide (s1.1.1 < (((List.length c.2.1) : Nat) : Int))) (loopW (S := ((Int × Unit) × Unit)) (fun s2 => (fun next2 => ((inK IntKind.i64 s2.1.1) → (cnd (decide (s2.1.1 < (((List.length c.2.1) : Nat) : Int))) (joinW (S := (Unit × Unit)) (fun s3 => ((inK IntKind.i64 (s2.1.1 + (1 : Int))) ∧ (next2 (((s2.1.1 + (1 : Int)), ()), ())))) (fun k => (((0 : Int) ≤ s1.1.1) ∧ ((s1.1.1 < (((List.length c.2.2.2.2) : Nat) : Int)) ∧ (((0 : Int) ≤ s2.1.1) ∧ ((s2.1.1 < (((List.length (List.getD c.2.2.2.2 (Int.toNat s1.1.1) ([] : List Int))) : Nat) : Int)) ∧ (cnd (decide ((compR c s1.1.1 s2.1.1) < (0 : Int))) (k ((), ())) (loopW (S := ((Int × Unit) × Unit)) (fun s3 => (fun next3 => ((inK IntKind.i64 s3.1.1) → (cnd (decide (s3.1.1 < (((List.length c.2.1) : Nat) : Int))) (((0 : Int) ≤ s2.1.1) ∧ ((s2.1.1 < (((List.length c.2.2.2.2) : Nat) : Int)) ∧ (((0 : Int) ≤ s3.1.1) ∧ ((s3.1.1 < (((List.length (List.getD c.2.2.2.2 (Int.toNat s2.1.1) ([] : List Int))) : Nat) : Int)) ∧ ((((decide ((0 : Int) ≤ (compR c s2.1.1 s3.1.1))) = Bool.true) → ((s1.1.1 < (((List.length c.2.2.2.2) : Nat) : Int)) ∧ (((0 : Int) ≤ s2.1.1) ∧ ((s2.1.1 < (((List.length (List.getD c.2.2.2.2 (Int.toNat s1.1.1) ([] : List Int))) : Nat) : Int)) ∧ ((0 : Int) ≤ s1.1.1))))) ∧ ((((decide ((0 : Int) ≤ (compR c s2.1.1 s3.1.1))) = Bool.true) → (((compR c s1.1.1 s2.1.1) < (((List.length c.2.2.2.2) : Nat) : Int)) ∧ (((0 : Int) ≤ s3.1.1) ∧ ((s3.1.1 < (((List.length (List.getD c.2.2.2.2 (Int.toNat (compR c s1.1.1 s2.1.1)) ([] : List Int))) : Nat) : Int)) ∧ ((0 : Int) ≤ (compR c s1.1.1 s2.1.1)))))) ∧ ((((decide ((0 : Int) ≤ (compR c s2.1.1 s3.1.1))) = Bool.true) → ((s2.1.1 < (((List.length c.2.2.2.2) : Nat) : Int)) ∧ (((0 : Int) ≤ s3.1.1) ∧ ((s3.1.1 < (((List.length (List.getD c.2.2.2.2 (Int.toNat s2.1.1) ([] : List Int))) : Nat) : Int)) ∧ ((0 : Int) ≤ s2.1.1))))) ∧ ((((decide ((0 : Int) ≤ (compR c s2.1.1 s3.1.1))) = Bool.true) → ((s1.1.1 < (((List.length c.2.2.2.2) : Nat) : Int)) ∧ (((0 : Int) ≤ (compR c s2.1.1 s3.1.1)) ∧ (((compR c s2.1.1 s3.1.1) < (((List.length (List.getD c.2.2.2.2 (Int.toNat s1.1.1) ([] : List Int))) : Nat) : Int)) ∧ ((0 : Int) ≤ s1.1.1))))) ∧ (cnd ((decide ((0 : Int) ≤ (compR c s2.1.1 s3.1.1))) && ((compR c (compR c s1.1.1 s2.1.1) s3.1.1) != (compR c s1.1.1 (compR c s2.1.1 s3.1.1)))) (K ((2 : Int), (s1.1.1, (s2.1.1, (s3.1.1, ()))))) ((inK IntKind.i64 (s3.1.1 + (1 : Int))) ∧ (next3 (((s3.1.1 + (1 : Int)), ()), ())))))))))))) (k ((), ())))))) (((0 : Int), ()), ()))))))))) ((inK IntKind.i64 (s1.1.1 + (1 : Int))) ∧ (next1 (((s1.1.1 + (1 : Int)), ()), ()))))))) (((0 : Int), ()), ())) (K ((0 : Int), ((0 : Int), ((0 : Int), ((0 : Int), ()))))))))) (((0 : Int), ()), ())))))) (((0 : Int), ()), ()))
theorem w_impl_Category_fault (x : denL c_impl_Category_fault.args) (K : Int × Int × Int × Int × Unit → Prop) : evF tab (lkp [(146, c_impl_Category_arrows), (132, c_impl_Category_then)]) (cutL [(5, 38)]) Try.f169 (bodyOf Try.f169) (.s .n (.s .n (.s (.s .n (.l [(7, (.d (.int .i64)))] [] [0, 6] .n)) (.s (.s .n (.l [(8, (.d (.int .i64)))] [] [0, 6] (.s .n (.s (.s .n (.l [(9, (.d (.int .i64)))] [] [0, 6, 8] (.s .n (.s (.j [] [] [0, 6, 8, 9] (.s .n (.s .n (.l [(10, (.d (.int .i64)))] [] [0, 6, 8, 9] .n)))) .n)))) .n)))) .n)))) c_impl_Category_fault x K = W_impl_Category_fault x.1 K := by kernel_rfl
theorem k_impl_Category_fault : okC Try.f169.ntmps (cutL [(5, 38)]) (bodyOf Try.f169) = true := by kernel_rfl
theorem m_impl_Category_fault (c : CategoryD) (hok : allP (okL c_impl_Category_fault.args (c, ()))) (hpre : allP (c_impl_Category_fault.pre (c, ()))) : W_impl_Category_fault c (fun r => r = c_impl_Category_fault.res (c, ())) := by
  simp only [c_impl_Category_fault, okL, T.oks, T.ok, ap, allP, true_and, and_true, implies_true] at hok hpre
  try dsimp only [T.den] at hok
  try dsimp only [T.den] at hpre
  unfold W_impl_Category_fault
  have S : ShapeP c := hpre
  have hlt := S.lt
  have hli := S.li
  have hlc := S.lc
  have hmm := S.m
  have resq : ∀ a b d e, faultR c = (a, b, d, e) → (a, b, d, e, ()) = c_impl_Category_fault.res (c, ()) := fun a b d e h => by simp only [c_impl_Category_fault, h]
  refine loop_ix (n := c.2.1.length) (fun f => scanR (faultI c) c.2.1.length 0 = scanR (faultI c) ((c.2.1.length : Int) - f).toNat f) (by omega) scan_0 ?_ ?_
  · intro f next h0 h1 hP hn hin
    try dsimp only
    obtain ⟨a1, a2, a3, a4⟩ := S.frm h0 h1
    obtain ⟨b1, b2, _, _⟩ := S.idn a1 a2
    obtain ⟨d1, d2, _, _⟩ := S.idn a3 a4
    have r1 := S.row _ b1 b2
    have r2 := S.row f h0 h1
    refine cnd_d (fun _ => ⟨h0, h1, by omega, by omega, by omega, by omega, h0, by omega, fun _ => by omega, fun _ => by omega, fun _ => by omega, cnd_of (fun hx => resq _ _ _ _ ?_) (fun hx => ⟨by rw [inK64]; (try dsimp only); omega, hn ?_⟩)⟩) (fun h => absurd h1 h)
    · have : faultI c f = some (1, f, 0, 0) := by unfold faultI; rw [if_pos]; simpa using hx
      unfold faultR; rw [hP, scan_s h1 this]; rfl
    · have : faultI c f = none := by unfold faultI; rw [if_neg]; simpa using hx
      rw [hP, scan_c h1 this]
  intro next hI hin
  rw [scan_n] at hI
  refine cnd_d (fun h => absurd h (by dsimp only; omega)) (fun _ => ?_)
  have hF : faultR c = orR (scanR (faultF c) c.2.1.length 0) (0, 0, 0, 0) := by unfold faultR; rw [hI]; rfl
  refine loop_ix (n := c.2.1.length) (fun f => scanR (faultF c) c.2.1.length 0 = scanR (faultF c) ((c.2.1.length : Int) - f).toNat f) (by omega) scan_0 ?_ ?_
  · intro f next h0 h1 hP hn hin
    try dsimp only
    refine cnd_d (fun _ => ?_) (fun h => absurd h1 h)
    have r1 := S.row f h0 h1
    refine loop_ix (n := c.2.1.length) (fun g => faultF c f = scanR (faultG c f) ((c.2.1.length : Int) - g).toNat g) (by omega) scan_0 ?_ ?_
    · intro g next3 g0 g1 hP3 hn3 hin3
      try dsimp only
      refine cnd_d (fun _ => ?_) (fun h => absurd g1 h)
      have r2 := S.row g g0 g1
      refine join_of (fun _ => faultG c f g = none) (fun _ hG => ⟨by rw [inK64]; (try dsimp only); omega, hn3 (by rw [hP3, scan_c g1 hG])⟩) (fun k hk => ?_)
      have hk' := hk ((), ())
      refine ⟨by omega, by omega, by omega, by omega, cnd_d (fun hx => hk' ?_) (fun hx => ?_)⟩
      · unfold faultG; rw [if_neg]; intro e; have := (S.comp h0 h1 g0 g1).2 e; omega
      have hfg := (S.comp h0 h1 g0 g1).1 (by omega)
      obtain ⟨y1, y2, _, _⟩ := S.yes h0 h1 g0 g1 hfg
      refine loop_ix (n := c.2.1.length) (fun h => faultG c f g = scanR (faultH c f g) ((c.2.1.length : Int) - h).toNat h) (by omega) (by unfold faultG; rw [if_pos hfg]; exact scan_0) ?_ ?_
      · intro h next4 i0 i1 hP4 hn4 hin4
        try dsimp only
        refine cnd_d (fun _ => ?_) (fun h => absurd i1 h)
        have r3 := S.row _ y1 y2
        have cgh := S.comp g0 g1 i0 i1
        have ygh := @ShapeP.yes c S g h g0 g1 i0 i1
        refine ⟨by omega, by omega, by omega, by omega, fun _ => by omega, fun _ => by omega, fun _ => by omega, fun he => ?_, cnd_of (fun hx => resq _ _ _ _ ?_) (fun hx => ⟨by rw [inK64]; (try dsimp only); omega, hn4 ?_⟩)⟩
        · have := ygh (cgh.1 (by simpa using he)); omega
        · have : faultH c f g h = some (2, f, g, h) := by unfold faultH; rw [if_pos]; rw [← cgh]; simpa using hx
          have e1 : faultG c f g = some (2, f, g, h) := by rw [hP4, scan_s i1 this]
          have e2 : faultF c f = some (2, f, g, h) := by rw [hP3, scan_s g1 e1]
          rw [hF, hP, scan_s h1 e2]; rfl
        · have : faultH c f g h = none := by unfold faultH; rw [if_neg]; rw [← cgh]; simpa using hx
          rw [hP4, scan_c i1 this]
      · intro next4 hP4 hin4
        rw [scan_n] at hP4
        exact cnd_d (fun h => absurd h (by dsimp only; omega)) (fun _ => hk' hP4)
    · intro next3 hP3 hin3
      rw [scan_n] at hP3
      exact cnd_d (fun h => absurd h (by dsimp only; omega)) (fun _ => ⟨by rw [inK64]; (try dsimp only); omega, hn (by rw [hP, scan_c h1 hP3])⟩)
  · intro next2 hP2 hin2
    rw [scan_n] at hP2
    refine cnd_d (fun h => absurd h (by dsimp only; omega)) (fun _ => resq _ _ _ _ ?_)
    rw [hF, hP2]; rfl
theorem ct_impl_Category_fault : CtOk Try.prog 169 c_impl_Category_fault :=
  ct_by (Φ := lkp [(146, c_impl_Category_arrows), (132, c_impl_Category_then)]) (good_cons ct_impl_Category_arrows (good_cons ct_impl_Category_then good_nil)) tab_ok (by kernel_rfl) (fn := Try.f169) (c := bodyOf Try.f169) (by kernel_rfl) (by kernel_rfl) (by kernel_rfl) c_impl_Category_fault rfl (.s .n (.s .n (.s (.s .n (.l [(7, (.d (.int .i64)))] [] [0, 6] .n)) (.s (.s .n (.l [(8, (.d (.int .i64)))] [] [0, 6] (.s .n (.s (.s .n (.l [(9, (.d (.int .i64)))] [] [0, 6, 8] (.s .n (.s (.j [] [] [0, 6, 8, 9] (.s .n (.s .n (.l [(10, (.d (.int .i64)))] [] [0, 6, 8, 9] .n)))) .n)))) .n)))) .n)))) (cutL [(5, 38)]) (by kernel_rfl) (by kernel_rfl) k_impl_Category_fault (by decide) (fun x K => W_impl_Category_fault x.1 K) w_impl_Category_fault (fun x h1 h2 => m_impl_Category_fault x.1 h1 h2)
def catR (c : CategoryD) : Bool := shapeR c && (faultR c).1 == 0

def c_impl_Category_isCategory : Ct := ⟨[(.pt CategoryT)], [false], fun x => [], [(false, (.fz .bool))], fun x => (catR x.1, ()), false, none⟩
def W_impl_Category_isCategory (c : CategoryD) (K : Bool × Unit → Prop) : Prop := (cnd (!(shapeR c)) (K (Bool.false, ())) ((ShapeP c) ∧ (K (((faultR c).1 == (0 : Int)), ()))))
theorem w_impl_Category_isCategory (x : denL c_impl_Category_isCategory.args) (K : Bool × Unit → Prop) : evF tab (lkp [(169, c_impl_Category_fault), (168, c_impl_Category_isShape)]) (cutL []) Try.f143 (bodyOf Try.f143) .n c_impl_Category_isCategory x K = W_impl_Category_isCategory x.1 K := by kernel_rfl
theorem k_impl_Category_isCategory : okC Try.f143.ntmps (cutL []) (bodyOf Try.f143) = true := by kernel_rfl
theorem m_impl_Category_isCategory (c : CategoryD) (hok : allP (okL c_impl_Category_isCategory.args (c, ()))) (hpre : allP (c_impl_Category_isCategory.pre (c, ()))) : W_impl_Category_isCategory c (fun r => r = c_impl_Category_isCategory.res (c, ())) := by
  simp only [c_impl_Category_isCategory, okL, T.oks, T.ok, ap, allP, true_and, and_true, implies_true] at hok hpre
  try dsimp only [T.den] at hok
  try dsimp only [T.den] at hpre
  unfold W_impl_Category_isCategory
  simp only [c_impl_Category_isCategory, catR]
  have := @shape_iff c
  grind [cnd, nb_eq, inK64]
theorem ct_impl_Category_isCategory : CtOk Try.prog 143 c_impl_Category_isCategory :=
  ct_by (Φ := lkp [(169, c_impl_Category_fault), (168, c_impl_Category_isShape)]) (good_cons ct_impl_Category_fault (good_cons ct_impl_Category_isShape good_nil)) tab_ok (by kernel_rfl) (fn := Try.f143) (c := bodyOf Try.f143) (by kernel_rfl) (by kernel_rfl) (by kernel_rfl) c_impl_Category_isCategory rfl .n (cutL []) (by kernel_rfl) (by kernel_rfl) k_impl_Category_isCategory (by decide) (fun x K => W_impl_Category_isCategory x.1 K) w_impl_Category_isCategory (fun x h1 h2 => m_impl_Category_isCategory x.1 h1 h2)
def idR (c : CategoryD) (f : Int) : Bool := c.2.2.2.1.getD (c.2.1.getD f.toNat 0).toNat 0 == f

def c_impl_Category_isIdentity : Ct := ⟨[(.pt CategoryT), (.int .i64)], [false, false], fun x => [ShapeP x.1, 0 ≤ x.2.1, x.2.1 < x.1.2.1.length], [(false, (.fz .bool))], fun x => (idR x.1 x.2.1, ()), false, none⟩
def W_impl_Category_isIdentity (c : CategoryD) (f : Int) (K : Bool × Unit → Prop) : Prop := (((0 : Int) ≤ f) ∧ ((f < (((List.length c.2.1) : Nat) : Int)) ∧ (((0 : Int) ≤ (List.getD c.2.1 (Int.toNat f) (0 : Int))) ∧ (((List.getD c.2.1 (Int.toNat f) (0 : Int)) < (((List.length c.2.2.2.1) : Nat) : Int)) ∧ (K (((List.getD c.2.2.2.1 (Int.toNat (List.getD c.2.1 (Int.toNat f) (0 : Int))) (0 : Int)) == f), ()))))))
theorem w_impl_Category_isIdentity (x : denL c_impl_Category_isIdentity.args) (K : Bool × Unit → Prop) : evF tab (lkp []) (cutL [(1, 16)]) Try.f148 (bodyOf Try.f148) .n c_impl_Category_isIdentity x K = W_impl_Category_isIdentity x.1 x.2.1 K := by kernel_rfl
theorem k_impl_Category_isIdentity : okC Try.f148.ntmps (cutL [(1, 16)]) (bodyOf Try.f148) = true := by kernel_rfl
theorem m_impl_Category_isIdentity (c : CategoryD) (f : Int) (hok : allP (okL c_impl_Category_isIdentity.args (c, f, ()))) (hpre : allP (c_impl_Category_isIdentity.pre (c, f, ()))) : W_impl_Category_isIdentity c f (fun r => r = c_impl_Category_isIdentity.res (c, f, ())) := by
  simp only [c_impl_Category_isIdentity, okL, T.oks, T.ok, ap, allP, true_and, and_true, implies_true] at hok hpre
  try dsimp only [T.den] at hok
  try dsimp only [T.den] at hpre
  unfold W_impl_Category_isIdentity
  have S : ShapeP c := hpre.1
  have a := S.frm hpre.2.1 hpre.2.2
  have := S.li
  exact ⟨hpre.2.1, hpre.2.2, a.1, by omega, rfl⟩
theorem ct_impl_Category_isIdentity : CtOk Try.prog 148 c_impl_Category_isIdentity :=
  ct_by (Φ := lkp []) good_nil tab_ok (by kernel_rfl) (fn := Try.f148) (c := bodyOf Try.f148) (by kernel_rfl) (by kernel_rfl) (by kernel_rfl) c_impl_Category_isIdentity rfl .n (cutL [(1, 16)]) (by kernel_rfl) (by kernel_rfl) k_impl_Category_isIdentity (by decide) (fun x K => W_impl_Category_isIdentity x.1 x.2.1 K) w_impl_Category_isIdentity (fun x h1 h2 => m_impl_Category_isIdentity x.1 x.2.1 h1 h2)
def objCodeR (c : CategoryD) (l : List Int) : Int := if catR c = true then (if withinR l c.1 = true then 0 else 2) else 1
theorem cat_shape {c : CategoryD} (h : catR c = true) : ShapeP c := by
  simp only [catR, Bool.and_eq_true] at h; exact shape_iff.1 h.1

/-- the arrows out of x -/
def outR (c : CategoryD) (x : Int) : List Int := selR c.2.1.length fun f => c.2.1.getD f.toNat 0 == x

def c_impl_Category_outOf : Ct := ⟨[(.pt CategoryT), (.int .i64)], [false, false], fun x => [x.1.2.1.length ≤ 40], [(false, (.sl (.fz (.int .i64))))], fun x => (outR x.1 x.2.1, ()), false, none⟩
def W_impl_Category_outOf (c : CategoryD) (x : Int) (K : (List Int) × Unit → Prop) : Prop := (loopW (S := ((Unit × (Int × Unit)) × ((List Int) × Unit))) (fun s => (fun next => ((inK IntKind.i64 s.1.2.1) → ((T.ok (T.sl (T.int IntKind.i64)) s.2.1) → (cnd (decide (s.1.2.1 < (((List.length c.2.1) : Nat) : Int))) (((0 : Int) ≤ s.1.2.1) ∧ ((s.1.2.1 < (((List.length c.2.1) : Nat) : Int)) ∧ (joinW (S := ((Unit × Unit) × ((List Int) × Unit))) (fun s1 => ((T.ok (T.sl (T.int IntKind.i64)) s1.2.1) → ((inK IntKind.i64 (s.1.2.1 + (1 : Int))) ∧ (next (((), ((s.1.2.1 + (1 : Int)), ())), (s1.2.1, ())))))) (fun k => (cnd ((List.getD c.2.1 (Int.toNat s.1.2.1) (0 : Int)) == x) ((room (List.length s.2.1) (List.length (s.1.2.1 :: ([] : List Int))) 8) ∧ (k (((), ()), ((s.2.1 ++ (s.1.2.1 :: ([] : List Int))), ())))) (k (((), ()), (s.2.1, ())))))))) (K (s.2.1, ()))))))) (((), ((0 : Int), ())), (([] : List Int), ())))
theorem w_impl_Category_outOf (x : denL c_impl_Category_outOf.args) (K : (List Int) × Unit → Prop) : evF tab (lkp []) (cutL []) Try.f56 (bodyOf Try.f56) (.s .n (.s .n (.s (.s .n (.l [(5, (.ref 800005 [])), (14, (.d (.int .i64)))] [(800005, (.sl (.fz (.int .i64))))] [1, 12, 13] (.s .n (.s .n (.s (.s .n (.s .n (.j [(5, (.ref 800005 []))] [(800005, (.sl (.fz (.int .i64))))] [1, 12, 13, 14] .n))) .n))))) .n))) c_impl_Category_outOf x K = W_impl_Category_outOf x.1 x.2.1 K := by kernel_rfl
theorem k_impl_Category_outOf : okC Try.f56.ntmps (cutL []) (bodyOf Try.f56) = true := by kernel_rfl
theorem m_impl_Category_outOf (c : CategoryD) (x : Int) (hok : allP (okL c_impl_Category_outOf.args (c, x, ()))) (hpre : allP (c_impl_Category_outOf.pre (c, x, ()))) : W_impl_Category_outOf c x (fun r => r = c_impl_Category_outOf.res (c, x, ())) := by
  simp only [c_impl_Category_outOf, okL, T.oks, T.ok, ap, allP, true_and, and_true, implies_true] at hok hpre
  try dsimp only [T.den] at hok
  try dsimp only [T.den] at hpre
  unfold W_impl_Category_outOf
  have hm : c.2.1.length ≤ 40 := hpre
  refine loop_of (fun (s : ((Unit × (Int × Unit)) × ((List Int) × Unit))) => 0 ≤ s.1.2.1 ∧ s.1.2.1 ≤ c.2.1.length ∧ s.2.1 = selR s.1.2.1.toNat fun f => c.2.1.getD f.toNat 0 == x) (fun (s : ((Unit × (Int × Unit)) × ((List Int) × Unit))) => (c.2.1.length - s.1.2.1).toNat) ?_ ⟨by simp, by simp, rfl⟩
  rintro ⟨⟨_, i, _⟩, l, _⟩ next ⟨h0, h1, h2⟩ hn hin hl
  try dsimp only at h0 h1 h2 hn ⊢
  subst h2
  refine cnd_d (fun hc => ⟨h0, hc, join_of (fun s1 => s1.2.1 = selR (i + 1).toNat fun f => c.2.1.getD f.toNat 0 == x) (fun s1 hs _ => ⟨by rw [inK64]; (try dsimp only); omega, hn _ ⟨(by first | omega | (dsimp only; omega)), (by first | omega | (dsimp only; omega)), hs⟩ (by first | omega | (dsimp only; omega))⟩) (fun k hk => cnd_of (fun hx => ⟨?_, hk _ ?_⟩) (fun hx => hk _ ?_))⟩) (fun hc => ?_)
  · have := sel_len (p := fun f => c.2.1.getD f.toNat 0 == x) i.toNat
    unfold room
    rw [nb_eq]
    have h3 : (i :: ([] : List Int)).length = 1 := rfl
    rw [h3]
    omega
  · exact (sel_t h0 hx).symm
  · exact (sel_f h0 hx).symm
  · have e : i.toNat = c.2.1.length := by omega
    simp only [c_impl_Category_outOf, outR]
    rw [e]
theorem ct_impl_Category_outOf : CtOk Try.prog 56 c_impl_Category_outOf :=
  ct_by (Φ := lkp []) good_nil tab_ok (by kernel_rfl) (fn := Try.f56) (c := bodyOf Try.f56) (by kernel_rfl) (by kernel_rfl) (by kernel_rfl) c_impl_Category_outOf rfl (.s .n (.s .n (.s (.s .n (.l [(5, (.ref 800005 [])), (14, (.d (.int .i64)))] [(800005, (.sl (.fz (.int .i64))))] [1, 12, 13] (.s .n (.s .n (.s (.s .n (.s .n (.j [(5, (.ref 800005 []))] [(800005, (.sl (.fz (.int .i64))))] [1, 12, 13, 14] .n))) .n))))) .n))) (cutL []) (by kernel_rfl) (by kernel_rfl) k_impl_Category_outOf (by decide) (fun x K => W_impl_Category_outOf x.1 x.2.1 K) w_impl_Category_outOf (fun x h1 h2 => m_impl_Category_outOf x.1 x.2.1 h1 h2)
def squareR (t : List (List Int)) (b : Int) : Bool := allB t.length fun i => decide ((t.getD i.toNat []).length = t.length) && withinR (t.getD i.toNat []) b
def tabR (t : List (List Int)) (n : Int) : Bool := decide ((t.length : Int) = n) && squareR t n
def atR (t : List (List Int)) (i j : Int) : Int := (t.getD i.toNat []).getD j.toNat 0
theorem square_iff {t : List (List Int)} {b : Int} : squareR t b = true ↔ ∀ i : Int, 0 ≤ i → i < t.length → (t.getD i.toNat []).length = t.length ∧ withinR (t.getD i.toNat []) b = true := by
  simp only [squareR, allB_iff, Bool.and_eq_true, decide_eq_true_eq]
theorem tab_at {t : List (List Int)} {n : Int} (h : tabR t n = true) : (t.length : Int) = n ∧ (∀ i : Int, 0 ≤ i → i < n → ((t.getD i.toNat []).length : Int) = n) ∧ ∀ i j : Int, 0 ≤ i → i < n → 0 ≤ j → j < n → 0 ≤ atR t i j ∧ atR t i j < n := by
  simp only [tabR, Bool.and_eq_true, decide_eq_true_eq, square_iff] at h
  refine ⟨h.1, fun i h0 h1 => ?_, fun i j h0 h1 g0 g1 => ?_⟩
  · have := (h.2 i h0 (by omega)).1; omega
  · obtain ⟨a, b⟩ := h.2 i h0 (by omega)
    exact within_iff.1 b j g0 (by omega)

def c_impl_isTable : Ct := ⟨[(.sl (.sl (.int .i64))), (.int .i64)], [false, false], fun x => [inK .i64 (x.2.1 - 1)], [(false, (.fz .bool))], fun x => (tabR x.1 x.2.1, ()), false, none⟩
def W_impl_isTable (list : List (List Int)) (n : Int) (K : Bool × Unit → Prop) : Prop := (cnd ((((List.length list) : Nat) : Int) != n) (K (Bool.false, ())) (loopW (S := ((Int × Unit) × Unit)) (fun s => (fun next => ((inK IntKind.i64 s.1.1) → (cnd (decide (s.1.1 < (((List.length list) : Nat) : Int))) (((0 : Int) ≤ s.1.1) ∧ ((s.1.1 < (((List.length list) : Nat) : Int)) ∧ (((((((List.length (List.getD list (Int.toNat s.1.1) ([] : List Int))) : Nat) : Int) != n) = Bool.false) → (inK IntKind.i64 (n - (1 : Int)))) ∧ (cnd (((((List.length (List.getD list (Int.toNat s.1.1) ([] : List Int))) : Nat) : Int) != n) || (!(withinR (List.getD list (Int.toNat s.1.1) ([] : List Int)) n))) (K (Bool.false, ())) ((inK IntKind.i64 (s.1.1 + (1 : Int))) ∧ (next (((s.1.1 + (1 : Int)), ()), ()))))))) (K (Bool.true, ())))))) (((0 : Int), ()), ())))
theorem w_impl_isTable (x : denL c_impl_isTable.args) (K : Bool × Unit → Prop) : evF tab (lkp [(158, c_impl_within)]) (cutL []) Try.f145 (bodyOf Try.f145) (.s .n (.s .n (.s (.s .n (.l [(13, (.d (.int .i64)))] [] [1, 11, 12] .n)) .n))) c_impl_isTable x K = W_impl_isTable x.1 x.2.1 K := by kernel_rfl
theorem k_impl_isTable : okC Try.f145.ntmps (cutL []) (bodyOf Try.f145) = true := by kernel_rfl
theorem m_impl_isTable (list : List (List Int)) (n : Int) (hok : allP (okL c_impl_isTable.args (list, n, ()))) (hpre : allP (c_impl_isTable.pre (list, n, ()))) : W_impl_isTable list n (fun r => r = c_impl_isTable.res (list, n, ())) := by
  simp only [c_impl_isTable, okL, T.oks, T.ok, ap, allP, true_and, and_true, implies_true] at hok hpre
  try dsimp only [T.den] at hok
  try dsimp only [T.den] at hpre
  unfold W_impl_isTable
  have hl : list.length ≤ 140737488355328 := by simp only [nb_eq] at hok; omega
  have bad : ¬ (tabR list n = true) → (false, ()) = c_impl_isTable.res (list, n, ()) := fun h => by
    simp only [c_impl_isTable]
    cases hs : tabR list n with
    | false => rfl
    | true => exact absurd hs h
  have hti : tabR list n = true ↔ (list.length : Int) = n ∧ ∀ i : Int, 0 ≤ i → i < list.length → (list.getD i.toNat []).length = list.length ∧ withinR (list.getD i.toNat []) n = true := by
    simp only [tabR, Bool.and_eq_true, decide_eq_true_eq, square_iff]
  refine cnd_of (fun hc => bad fun h => ?_) (fun hc => ?_)
  · rw [(hti.1 h).1] at hc; simp at hc
  have hc : (list.length : Int) = n := by simpa using hc
  refine loop_ix (n := list.length) (fun i => ∀ j : Int, 0 ≤ j → j < i → (list.getD j.toNat []).length = list.length ∧ withinR (list.getD j.toNat []) n = true) (by omega) (by intro y h0 h1; omega) ?_ ?_
  · intro i next h0 h1 hP hn hin
    try dsimp only
    refine cnd_d (fun _ => ⟨h0, h1, fun _ => hpre, cnd_of (fun hx => bad fun h => ?_) (fun hx => ⟨by rw [inK64]; (try dsimp only); omega, hn fun j j0 j1 => ?_⟩)⟩) (fun h => absurd h1 h)
    · have := (hti.1 h).2 i h0 h1
      rw [this.1, this.2, hc] at hx; simp at hx
    · by_cases e : j = i
      · subst e
        simp only [Bool.or_eq_false_iff, Bool.not_eq_false', bne_eq_false_iff_eq] at hx
        exact ⟨by omega, hx.2⟩
      · exact hP j j0 (by omega)
  · intro next hP hin
    refine cnd_d (fun h => absurd h (by dsimp only; omega)) (fun _ => ?_)
    simp only [c_impl_isTable]
    rw [hti.2 ⟨hc, hP⟩]
theorem ct_impl_isTable : CtOk Try.prog 145 c_impl_isTable :=
  ct_by (Φ := lkp [(158, c_impl_within)]) (good_cons ct_impl_within good_nil) tab_ok (by kernel_rfl) (fn := Try.f145) (c := bodyOf Try.f145) (by kernel_rfl) (by kernel_rfl) (by kernel_rfl) c_impl_isTable rfl (.s .n (.s .n (.s (.s .n (.l [(13, (.d (.int .i64)))] [] [1, 11, 12] .n)) .n))) (cutL []) (by kernel_rfl) (by kernel_rfl) k_impl_isTable (by decide) (fun x K => W_impl_isTable x.1 x.2.1 K) w_impl_isTable (fun x h1 h2 => m_impl_isTable x.1 x.2.1 h1 h2)
def endsR (m : MonoidalD) : Bool := allB m.1.2.1.length fun f => allB m.1.2.1.length fun g =>
  decide (m.1.2.1.getD (atR m.2.2.2 f g).toNat 0 = atR m.2.2.1 (m.1.2.1.getD f.toNat 0) (m.1.2.1.getD g.toNat 0)) && decide (m.1.2.2.1.getD (atR m.2.2.2 f g).toNat 0 = atR m.2.2.1 (m.1.2.2.1.getD f.toNat 0) (m.1.2.2.1.getD g.toNat 0))
theorem ends_iff {m : MonoidalD} : endsR m = true ↔ ∀ f : Int, 0 ≤ f → f < m.1.2.1.length → ∀ g : Int, 0 ≤ g → g < m.1.2.1.length →
    m.1.2.1.getD (atR m.2.2.2 f g).toNat 0 = atR m.2.2.1 (m.1.2.1.getD f.toNat 0) (m.1.2.1.getD g.toNat 0) ∧ m.1.2.2.1.getD (atR m.2.2.2 f g).toNat 0 = atR m.2.2.1 (m.1.2.2.1.getD f.toNat 0) (m.1.2.2.1.getD g.toNat 0) := by
  simp only [endsR, allB_iff, Bool.and_eq_true, decide_eq_true_eq]

def c_spec_l35Ends : Ct := ⟨[MonoidalT], [true], fun x => [ShapeP x.1.1, tabR x.1.2.2.1 x.1.1.1 = true, tabR x.1.2.2.2 x.1.1.2.1.length = true], [(false, (.fz .bool))], fun x => (endsR x.1, ()), false, none⟩
def W_spec_l35Ends (m : MonoidalD) (K : Bool × Unit → Prop) : Prop := (loopW (S := ((Unit × (Int × Unit)) × ((Int × ((List Int) × ((List Int) × ((List Int) × (List (List Int)))))) × Unit))) (fun s => (fun next => ((inK IntKind.i64 s.1.2.1) → ((inK IntKind.i64 s.2.1.1) → ((T.ok (T.sl (T.int IntKind.i64)) s.2.1.2.1) → ((T.ok (T.sl (T.int IntKind.i64)) s.2.1.2.2.1) → ((T.ok (T.sl (T.int IntKind.i64)) s.2.1.2.2.2.1) → ((T.ok (T.sl (T.sl (T.int IntKind.i64))) s.2.1.2.2.2.2) → (cnd (decide (s.1.2.1 < (((List.length s.2.1.2.1) : Nat) : Int))) (loopW (S := ((Unit × (Int × Unit)) × ((Int × ((List Int) × ((List Int) × ((List Int) × (List (List Int)))))) × Unit))) (fun s1 => (fun next1 => ((inK IntKind.i64 s1.1.2.1) → ((inK IntKind.i64 s1.2.1.1) → ((T.ok (T.sl (T.int IntKind.i64)) s1.2.1.2.1) → ((T.ok (T.sl (T.int IntKind.i64)) s1.2.1.2.2.1) → ((T.ok (T.sl (T.int IntKind.i64)) s1.2.1.2.2.2.1) → ((T.ok (T.sl (T.sl (T.int IntKind.i64))) s1.2.1.2.2.2.2) → (cnd (decide (s1.1.2.1 < (((List.length s1.2.1.2.1) : Nat) : Int))) (((0 : Int) ≤ s.1.2.1) ∧ ((s.1.2.1 < (((List.length m.2.2.2) : Nat) : Int)) ∧ (((0 : Int) ≤ s1.1.2.1) ∧ ((s1.1.2.1 < (((List.length (List.getD m.2.2.2 (Int.toNat s.1.2.1) ([] : List Int))) : Nat) : Int)) ∧ (((0 : Int) ≤ (List.getD (List.getD m.2.2.2 (Int.toNat s.1.2.1) ([] : List Int)) (Int.toNat s1.1.2.1) (0 : Int))) ∧ (((List.getD (List.getD m.2.2.2 (Int.toNat s.1.2.1) ([] : List Int)) (Int.toNat s1.1.2.1) (0 : Int)) < (((List.length s1.2.1.2.1) : Nat) : Int)) ∧ (((0 : Int) ≤ s.1.2.1) ∧ ((s.1.2.1 < (((List.length s1.2.1.2.1) : Nat) : Int)) ∧ (((0 : Int) ≤ (List.getD s1.2.1.2.1 (Int.toNat s.1.2.1) (0 : Int))) ∧ (((List.getD s1.2.1.2.1 (Int.toNat s.1.2.1) (0 : Int)) < (((List.length m.2.2.1) : Nat) : Int)) ∧ (((0 : Int) ≤ s1.1.2.1) ∧ ((s1.1.2.1 < (((List.length s1.2.1.2.1) : Nat) : Int)) ∧ (((0 : Int) ≤ (List.getD s1.2.1.2.1 (Int.toNat s1.1.2.1) (0 : Int))) ∧ (((List.getD s1.2.1.2.1 (Int.toNat s1.1.2.1) (0 : Int)) < (((List.length (List.getD m.2.2.1 (Int.toNat (List.getD s1.2.1.2.1 (Int.toNat s.1.2.1) (0 : Int))) ([] : List Int))) : Nat) : Int)) ∧ (((((List.getD s1.2.1.2.1 (Int.toNat (List.getD (List.getD m.2.2.2 (Int.toNat s.1.2.1) ([] : List Int)) (Int.toNat s1.1.2.1) (0 : Int))) (0 : Int)) != (List.getD (List.getD m.2.2.1 (Int.toNat (List.getD s1.2.1.2.1 (Int.toNat s.1.2.1) (0 : Int))) ([] : List Int)) (Int.toNat (List.getD s1.2.1.2.1 (Int.toNat s1.1.2.1) (0 : Int))) (0 : Int))) = Bool.false) → (((List.getD (List.getD m.2.2.2 (Int.toNat s.1.2.1) ([] : List Int)) (Int.toNat s1.1.2.1) (0 : Int)) < (((List.length s1.2.1.2.2.1) : Nat) : Int)) ∧ ((0 : Int) ≤ (List.getD (List.getD m.2.2.2 (Int.toNat s.1.2.1) ([] : List Int)) (Int.toNat s1.1.2.1) (0 : Int))))) ∧ (((((List.getD s1.2.1.2.1 (Int.toNat (List.getD (List.getD m.2.2.2 (Int.toNat s.1.2.1) ([] : List Int)) (Int.toNat s1.1.2.1) (0 : Int))) (0 : Int)) != (List.getD (List.getD m.2.2.1 (Int.toNat (List.getD s1.2.1.2.1 (Int.toNat s.1.2.1) (0 : Int))) ([] : List Int)) (Int.toNat (List.getD s1.2.1.2.1 (Int.toNat s1.1.2.1) (0 : Int))) (0 : Int))) = Bool.false) → ((s.1.2.1 < (((List.length s1.2.1.2.2.1) : Nat) : Int)) ∧ ((0 : Int) ≤ s.1.2.1))) ∧ (((((List.getD s1.2.1.2.1 (Int.toNat (List.getD (List.getD m.2.2.2 (Int.toNat s.1.2.1) ([] : List Int)) (Int.toNat s1.1.2.1) (0 : Int))) (0 : Int)) != (List.getD (List.getD m.2.2.1 (Int.toNat (List.getD s1.2.1.2.1 (Int.toNat s.1.2.1) (0 : Int))) ([] : List Int)) (Int.toNat (List.getD s1.2.1.2.1 (Int.toNat s1.1.2.1) (0 : Int))) (0 : Int))) = Bool.false) → (((List.getD s1.2.1.2.2.1 (Int.toNat s.1.2.1) (0 : Int)) < (((List.length m.2.2.1) : Nat) : Int)) ∧ ((0 : Int) ≤ (List.getD s1.2.1.2.2.1 (Int.toNat s.1.2.1) (0 : Int))))) ∧ (((((List.getD s1.2.1.2.1 (Int.toNat (List.getD (List.getD m.2.2.2 (Int.toNat s.1.2.1) ([] : List Int)) (Int.toNat s1.1.2.1) (0 : Int))) (0 : Int)) != (List.getD (List.getD m.2.2.1 (Int.toNat (List.getD s1.2.1.2.1 (Int.toNat s.1.2.1) (0 : Int))) ([] : List Int)) (Int.toNat (List.getD s1.2.1.2.1 (Int.toNat s1.1.2.1) (0 : Int))) (0 : Int))) = Bool.false) → ((s1.1.2.1 < (((List.length s1.2.1.2.2.1) : Nat) : Int)) ∧ ((0 : Int) ≤ s1.1.2.1))) ∧ (((((List.getD s1.2.1.2.1 (Int.toNat (List.getD (List.getD m.2.2.2 (Int.toNat s.1.2.1) ([] : List Int)) (Int.toNat s1.1.2.1) (0 : Int))) (0 : Int)) != (List.getD (List.getD m.2.2.1 (Int.toNat (List.getD s1.2.1.2.1 (Int.toNat s.1.2.1) (0 : Int))) ([] : List Int)) (Int.toNat (List.getD s1.2.1.2.1 (Int.toNat s1.1.2.1) (0 : Int))) (0 : Int))) = Bool.false) → (((List.getD s1.2.1.2.2.1 (Int.toNat s1.1.2.1) (0 : Int)) < (((List.length (List.getD m.2.2.1 (Int.toNat (List.getD s1.2.1.2.2.1 (Int.toNat s.1.2.1) (0 : Int))) ([] : List Int))) : Nat) : Int)) ∧ ((0 : Int) ≤ (List.getD s1.2.1.2.2.1 (Int.toNat s1.1.2.1) (0 : Int))))) ∧ (cnd (((List.getD s1.2.1.2.1 (Int.toNat (List.getD (List.getD m.2.2.2 (Int.toNat s.1.2.1) ([] : List Int)) (Int.toNat s1.1.2.1) (0 : Int))) (0 : Int)) != (List.getD (List.getD m.2.2.1 (Int.toNat (List.getD s1.2.1.2.1 (Int.toNat s.1.2.1) (0 : Int))) ([] : List Int)) (Int.toNat (List.getD s1.2.1.2.1 (Int.toNat s1.1.2.1) (0 : Int))) (0 : Int))) || ((List.getD s1.2.1.2.2.1 (Int.toNat (List.getD (List.getD m.2.2.2 (Int.toNat s.1.2.1) ([] : List Int)) (Int.toNat s1.1.2.1) (0 : Int))) (0 : Int)) != (List.getD (List.getD m.2.2.1 (Int.toNat (List.getD s1.2.1.2.2.1 (Int.toNat s.1.2.1) (0 : Int))) ([] : List Int)) (Int.toNat (List.getD s1.2.1.2.2.1 (Int.toNat s1.1.2.1) (0 : Int))) (0 : Int)))) (K (Bool.false, ())) ((inK IntKind.i64 (s1.1.2.1 + (1 : Int))) ∧ (next1 (((), ((s1.1.2.1 + (1 : Int)), ())), (s1.2.1, ())))))))))))))))))))))))) ((inK IntKind.i64 (s.1.2.1 + (1 : Int))) ∧ (next (((), ((s.1.2.1 + (1 : Int)), ())), (s1.2.1, ()))))))))))))) (((), ((0 : Int), ())), (s.2.1, ()))) (K (Bool.true, ()))))))))))) (((), ((0 : Int), ())), (m.1, ())))
theorem w_spec_l35Ends (x : denL c_spec_l35Ends.args) (K : Bool × Unit → Prop) : evF tab (lkp []) (cutL [(9, 46)]) Try.f140 (bodyOf Try.f140) (.s .n (.s .n (.s (.s .n (.l [(3, (.ad 3 [.de])), (4, (.d (.int .i64)))] [(3, (.pt (.fz (.p (.int .i64) (.p (.sl (.int .i64)) (.p (.sl (.int .i64)) (.p (.sl (.int .i64)) (.sl (.sl (.int .i64))))))))))] [1] (.s .n (.s (.s .n (.l [(3, (.ad 3 [.de])), (5, (.d (.int .i64)))] [(3, (.pt (.fz (.p (.int .i64) (.p (.sl (.int .i64)) (.p (.sl (.int .i64)) (.p (.sl (.int .i64)) (.sl (.sl (.int .i64))))))))))] [1, 4] .n)) .n)))) .n))) c_spec_l35Ends x K = W_spec_l35Ends x.1 K := by kernel_rfl
theorem k_spec_l35Ends : okC Try.f140.ntmps (cutL [(9, 46)]) (bodyOf Try.f140) = true := by kernel_rfl
theorem m_spec_l35Ends (m : MonoidalD) (hok : allP (okL c_spec_l35Ends.args (m, ()))) (hpre : allP (c_spec_l35Ends.pre (m, ()))) : W_spec_l35Ends m (fun r => r = c_spec_l35Ends.res (m, ())) := by
  simp only [c_spec_l35Ends, okL, T.oks, T.ok, ap, allP, true_and, and_true, implies_true] at hok hpre
  try dsimp only [T.den] at hok
  try dsimp only [T.den] at hpre
  unfold W_spec_l35Ends
  have S : ShapeP m.1 := hpre.1
  have O := tab_at hpre.2.1
  have A := tab_at hpre.2.2
  have hlt := S.lt
  have hmm := S.m
  have bad : ¬ (endsR m = true) → (false, ()) = c_spec_l35Ends.res (m, ()) := fun h => by
    simp only [c_spec_l35Ends]
    cases hs : endsR m with
    | false => rfl
    | true => exact absurd hs h
  have hat : ∀ i j : Int, (m.2.2.2.getD i.toNat []).getD j.toNat 0 = atR m.2.2.2 i j := fun _ _ => rfl
  have hat2 : ∀ i j : Int, (m.2.2.1.getD i.toNat []).getD j.toNat 0 = atR m.2.2.1 i j := fun _ _ => rfl
  refine loop_ix1 (n := m.1.2.1.length) (fun f => ∀ f' : Int, 0 ≤ f' → f' < f → ∀ g : Int, 0 ≤ g → g < m.1.2.1.length →
    m.1.2.1.getD (atR m.2.2.2 f' g).toNat 0 = atR m.2.2.1 (m.1.2.1.getD f'.toNat 0) (m.1.2.1.getD g.toNat 0) ∧ m.1.2.2.1.getD (atR m.2.2.2 f' g).toNat 0 = atR m.2.2.1 (m.1.2.2.1.getD f'.toNat 0) (m.1.2.2.1.getD g.toNat 0)) (by omega) (by intro y h0 h1; omega) ?_ ?_
  · intro f next h0 h1 hP hn _ _ _ _ _ _
    try dsimp only
    have sf := S.frm h0 h1
    have rf := A.2.1 f h0 h1
    refine cnd_d (fun _ => ?_) (fun h => absurd h1 h)
    refine loop_ix1 (n := m.1.2.1.length) (fun g => ∀ g' : Int, 0 ≤ g' → g' < g →
      m.1.2.1.getD (atR m.2.2.2 f g').toNat 0 = atR m.2.2.1 (m.1.2.1.getD f.toNat 0) (m.1.2.1.getD g'.toNat 0) ∧ m.1.2.2.1.getD (atR m.2.2.2 f g').toNat 0 = atR m.2.2.1 (m.1.2.2.1.getD f.toNat 0) (m.1.2.2.1.getD g'.toNat 0)) (by omega) (by intro y h0 h1; omega) ?_ ?_
    · intro g next2 g0 g1 hP2 hn2 _ _ _ _ _ _
      try dsimp only
      simp only [hat, hat2]
      have sg := S.frm g0 g1
      have afg := A.2.2 f g h0 h1 g0 g1
      have r1 := O.2.1 _ sf.1 sf.2.1
      have r2 := O.2.1 _ sf.2.2.1 sf.2.2.2
      refine cnd_d (fun _ => ⟨h0, by omega, g0, by omega, afg.1, by omega, h0, h1, sf.1, by omega, g0, g1, sg.1, by omega, fun _ => by omega, fun _ => by omega, fun _ => by omega, fun _ => by omega, fun _ => by omega, cnd_of (fun hx => bad fun h => ?_) (fun hx => ⟨by rw [inK64]; (try dsimp only); omega, hn2 fun g' a0 a1 => ?_⟩)⟩) (fun h => absurd g1 h)
      · have := ends_iff.1 h f h0 h1 g g0 g1
        rw [this.1, this.2] at hx; simp at hx
      · by_cases e : g' = g
        · rw [e]; simpa only [Bool.or_eq_false_iff, bne_eq_false_iff_eq] using hx
        · exact hP2 g' a0 (by omega)
    · intro next2 hP2 _ _ _ _ _ _
      refine cnd_d (fun h => absurd h (by dsimp only; omega)) (fun _ => ⟨by rw [inK64]; (try dsimp only); omega, hn fun f' a0 a1 => ?_⟩)
      by_cases e : f' = f
      · rw [e]; exact hP2
      · exact hP f' a0 (by omega)
  · intro next hP _ _ _ _ _ _
    refine cnd_d (fun h => absurd h (by dsimp only; omega)) (fun _ => ?_)
    simp only [c_spec_l35Ends]
    rw [ends_iff.2 hP]
theorem ct_spec_l35Ends : CtOk Try.prog 140 c_spec_l35Ends :=
  ct_by (Φ := lkp []) good_nil tab_ok (by kernel_rfl) (fn := Try.f140) (c := bodyOf Try.f140) (by kernel_rfl) (by kernel_rfl) (by kernel_rfl) c_spec_l35Ends rfl (.s .n (.s .n (.s (.s .n (.l [(3, (.ad 3 [.de])), (4, (.d (.int .i64)))] [(3, (.pt (.fz (.p (.int .i64) (.p (.sl (.int .i64)) (.p (.sl (.int .i64)) (.p (.sl (.int .i64)) (.sl (.sl (.int .i64))))))))))] [1] (.s .n (.s (.s .n (.l [(3, (.ad 3 [.de])), (5, (.d (.int .i64)))] [(3, (.pt (.fz (.p (.int .i64) (.p (.sl (.int .i64)) (.p (.sl (.int .i64)) (.p (.sl (.int .i64)) (.sl (.sl (.int .i64))))))))))] [1, 4] .n)) .n)))) .n))) (cutL [(9, 46)]) (by kernel_rfl) (by kernel_rfl) k_spec_l35Ends (by decide) (fun x K => W_spec_l35Ends x.1 K) w_spec_l35Ends (fun x h1 h2 => m_spec_l35Ends x.1 h1 h2)
def interR (m : MonoidalD) : Bool := allB m.1.2.1.length fun f => allB m.1.2.1.length fun h => decide (m.1.2.2.1.getD f.toNat 0 ≠ m.1.2.1.getD h.toNat 0) || allB m.1.2.1.length fun g => allB m.1.2.1.length fun k =>
  decide (m.1.2.2.1.getD g.toNat 0 ≠ m.1.2.1.getD k.toNat 0) || decide (atR m.2.2.2 (compR m.1 f h) (compR m.1 g k) = compR m.1 (atR m.2.2.2 f g) (atR m.2.2.2 h k))
theorem inter_iff {m : MonoidalD} : interR m = true ↔ ∀ f : Int, 0 ≤ f → f < m.1.2.1.length → ∀ h : Int, 0 ≤ h → h < m.1.2.1.length → m.1.2.2.1.getD f.toNat 0 = m.1.2.1.getD h.toNat 0 → ∀ g : Int, 0 ≤ g → g < m.1.2.1.length → ∀ k : Int, 0 ≤ k → k < m.1.2.1.length → m.1.2.2.1.getD g.toNat 0 = m.1.2.1.getD k.toNat 0 →
    atR m.2.2.2 (compR m.1 f h) (compR m.1 g k) = compR m.1 (atR m.2.2.2 f g) (atR m.2.2.2 h k) := by
  simp only [interR, allB_iff, Bool.or_eq_true, decide_eq_true_eq]
  constructor
  · intro q f f0 f1 h h0 h1 e g g0 g1 k k0 k1 e2
    rcases q f f0 f1 h h0 h1 with a | a
    · exact absurd e a
    rcases a g g0 g1 k k0 k1 with b | b
    · exact absurd e2 b
    · exact b
  · intro q f f0 f1 h h0 h1
    by_cases e : m.1.2.2.1.getD f.toNat 0 = m.1.2.1.getD h.toNat 0
    · refine .inr fun g g0 g1 k k0 k1 => ?_
      by_cases e2 : m.1.2.2.1.getD g.toNat 0 = m.1.2.1.getD k.toNat 0
      · exact .inr (q f f0 f1 h h0 h1 e g g0 g1 k k0 k1 e2)
      · exact .inl e2
    · exact .inl e
theorem out_at {c : CategoryD} {x i : Int} (h0 : 0 ≤ i) (h1 : i < (outR c x).length) : 0 ≤ (outR c x).getD i.toNat 0 ∧ (outR c x).getD i.toNat 0 < c.2.1.length ∧ c.2.1.getD ((outR c x).getD i.toNat 0).toNat 0 = x := by
  have := getD_mem (outR c x) 0 h0 h1
  generalize (outR c x).getD i.toNat 0 = y at *
  unfold outR at this
  rw [sel_mem, beq_iff_eq] at this
  exact this
theorem out_all {c : CategoryD} {x : Int} {p : Int → Prop} (h : ∀ i : Int, 0 ≤ i → i < (outR c x).length → p ((outR c x).getD i.toNat 0)) {y : Int} (y0 : 0 ≤ y) (y1 : y < c.2.1.length) (e : c.2.1.getD y.toNat 0 = x) : p y :=
  (all_ix (d := (0 : Int))).2 h y (by unfold outR; rw [sel_mem, beq_iff_eq]; exact ⟨y0, y1, e⟩)
theorem out_len {c : CategoryD} (S : ShapeP c) (x : Int) : (outR c x).length ≤ 40 := Nat.le_trans (sel_len _) S.m

def c_impl_Monoidal_interchanges : Ct := ⟨[(.pt MonoidalT)], [false], fun x => [ShapeP x.1.1, tabR x.1.2.2.1 x.1.1.1 = true, tabR x.1.2.2.2 x.1.1.2.1.length = true], [(false, (.fz .bool))], fun x => (interR x.1, ()), false, none⟩
def W_impl_Monoidal_interchanges (m : MonoidalD) (K : Bool × Unit → Prop) : Prop := (loopW (S := ((Int × Unit) × Unit)) (fun s => (fun next => ((inK IntKind.i64 s.1.1) → (cnd (decide (s.1.1 < (((List.length m.1.2.1) : Nat) : Int))) (((0 : Int) ≤ s.1.1) ∧ ((s.1.1 < (((List.length m.1.2.2.1) : Nat) : Int)) ∧ (((List.length m.1.2.1) ≤ 40) ∧ (loopW (S := ((Unit × (Int × Unit)) × ((List Int) × Unit))) (fun s1 => (fun next1 => ((inK IntKind.i64 s1.1.2.1) → ((T.ok (T.sl (T.int IntKind.i64)) s1.2.1) → (cnd (decide (s1.1.2.1 < (((List.length (outR m.1 (List.getD m.1.2.2.1 (Int.toNat s.1.1) (0 : Int)))) : Nat) : Int))) (((0 : Int) ≤ s1.1.2.1) ∧ ((s1.1.2.1 < (((List.length s1.2.1) : Nat) : Int)) ∧ (loopW (S := ((Unit × (Int × Unit)) × ((List Int) × Unit))) (fun s2 => (fun next2 => ((inK IntKind.i64 s2.1.2.1) → ((T.ok (T.sl (T.int IntKind.i64)) s2.2.1) → (cnd (decide (s2.1.2.1 < (((List.length m.1.2.1) : Nat) : Int))) (((0 : Int) ≤ s2.1.2.1) ∧ ((s2.1.2.1 < (((List.length m.1.2.2.1) : Nat) : Int)) ∧ (((List.length m.1.2.1) ≤ 40) ∧ (loopW (S := ((Unit × (Unit × (Int × Unit))) × ((List Int) × ((List Int) × Unit)))) (fun s3 => (fun next3 => ((inK IntKind.i64 s3.1.2.2.1) → ((T.ok (T.sl (T.int IntKind.i64)) s3.2.1) → ((T.ok (T.sl (T.int IntKind.i64)) s3.2.2.1) → (cnd (decide (s3.1.2.2.1 < (((List.length (outR m.1 (List.getD m.1.2.2.1 (Int.toNat s2.1.2.1) (0 : Int)))) : Nat) : Int))) (((0 : Int) ≤ s3.1.2.2.1) ∧ ((s3.1.2.2.1 < (((List.length s3.2.2.1) : Nat) : Int)) ∧ (((0 : Int) ≤ s.1.1) ∧ ((s.1.1 < (((List.length m.1.2.2.2.2) : Nat) : Int)) ∧ (((0 : Int) ≤ (List.getD s1.2.1 (Int.toNat s1.1.2.1) (0 : Int))) ∧ (((List.getD s1.2.1 (Int.toNat s1.1.2.1) (0 : Int)) < (((List.length (List.getD m.1.2.2.2.2 (Int.toNat s.1.1) ([] : List Int))) : Nat) : Int)) ∧ (((0 : Int) ≤ (compR m.1 s.1.1 (List.getD s1.2.1 (Int.toNat s1.1.2.1) (0 : Int)))) ∧ (((compR m.1 s.1.1 (List.getD s1.2.1 (Int.toNat s1.1.2.1) (0 : Int))) < (((List.length m.2.2.2) : Nat) : Int)) ∧ (((0 : Int) ≤ s2.1.2.1) ∧ ((s2.1.2.1 < (((List.length m.1.2.2.2.2) : Nat) : Int)) ∧ (((0 : Int) ≤ (List.getD s3.2.2.1 (Int.toNat s3.1.2.2.1) (0 : Int))) ∧ (((List.getD s3.2.2.1 (Int.toNat s3.1.2.2.1) (0 : Int)) < (((List.length (List.getD m.1.2.2.2.2 (Int.toNat s2.1.2.1) ([] : List Int))) : Nat) : Int)) ∧ (((0 : Int) ≤ (compR m.1 s2.1.2.1 (List.getD s3.2.2.1 (Int.toNat s3.1.2.2.1) (0 : Int)))) ∧ (((compR m.1 s2.1.2.1 (List.getD s3.2.2.1 (Int.toNat s3.1.2.2.1) (0 : Int))) < (((List.length (List.getD m.2.2.2 (Int.toNat (compR m.1 s.1.1 (List.getD s1.2.1 (Int.toNat s1.1.2.1) (0 : Int)))) ([] : List Int))) : Nat) : Int)) ∧ (((0 : Int) ≤ s.1.1) ∧ ((s.1.1 < (((List.length m.2.2.2) : Nat) : Int)) ∧ (((0 : Int) ≤ s2.1.2.1) ∧ ((s2.1.2.1 < (((List.length (List.getD m.2.2.2 (Int.toNat s.1.1) ([] : List Int))) : Nat) : Int)) ∧ (((0 : Int) ≤ (List.getD s1.2.1 (Int.toNat s1.1.2.1) (0 : Int))) ∧ (((List.getD s1.2.1 (Int.toNat s1.1.2.1) (0 : Int)) < (((List.length m.2.2.2) : Nat) : Int)) ∧ (((0 : Int) ≤ (List.getD s3.2.2.1 (Int.toNat s3.1.2.2.1) (0 : Int))) ∧ (((List.getD s3.2.2.1 (Int.toNat s3.1.2.2.1) (0 : Int)) < (((List.length (List.getD m.2.2.2 (Int.toNat (List.getD s1.2.1 (Int.toNat s1.1.2.1) (0 : Int))) ([] : List Int))) : Nat) : Int)) ∧ (((0 : Int) ≤ (List.getD (List.getD m.2.2.2 (Int.toNat s.1.1) ([] : List Int)) (Int.toNat s2.1.2.1) (0 : Int))) ∧ (((List.getD (List.getD m.2.2.2 (Int.toNat s.1.1) ([] : List Int)) (Int.toNat s2.1.2.1) (0 : Int)) < (((List.length m.1.2.2.2.2) : Nat) : Int)) ∧ (((0 : Int) ≤ (List.getD (List.getD m.2.2.2 (Int.toNat (List.getD s1.2.1 (Int.toNat s1.1.2.1) (0 : Int))) ([] : List Int)) (Int.toNat (List.getD s3.2.2.1 (Int.toNat s3.1.2.2.1) (0 : Int))) (0 : Int))) ∧ (((List.getD (List.getD m.2.2.2 (Int.toNat (List.getD s1.2.1 (Int.toNat s1.1.2.1) (0 : Int))) ([] : List Int)) (Int.toNat (List.getD s3.2.2.1 (Int.toNat s3.1.2.2.1) (0 : Int))) (0 : Int)) < (((List.length (List.getD m.1.2.2.2.2 (Int.toNat (List.getD (List.getD m.2.2.2 (Int.toNat s.1.1) ([] : List Int)) (Int.toNat s2.1.2.1) (0 : Int))) ([] : List Int))) : Nat) : Int)) ∧ (cnd ((List.getD (List.getD m.2.2.2 (Int.toNat (compR m.1 s.1.1 (List.getD s1.2.1 (Int.toNat s1.1.2.1) (0 : Int)))) ([] : List Int)) (Int.toNat (compR m.1 s2.1.2.1 (List.getD s3.2.2.1 (Int.toNat s3.1.2.2.1) (0 : Int)))) (0 : Int)) != (compR m.1 (List.getD (List.getD m.2.2.2 (Int.toNat s.1.1) ([] : List Int)) (Int.toNat s2.1.2.1) (0 : Int)) (List.getD (List.getD m.2.2.2 (Int.toNat (List.getD s1.2.1 (Int.toNat s1.1.2.1) (0 : Int))) ([] : List Int)) (Int.toNat (List.getD s3.2.2.1 (Int.toNat s3.1.2.2.1) (0 : Int))) (0 : Int)))) (K (Bool.false, ())) ((inK IntKind.i64 (s3.1.2.2.1 + (1 : Int))) ∧ (next3 (((), ((), ((s3.1.2.2.1 + (1 : Int)), ()))), (s3.2.1, (s3.2.2.1, ())))))))))))))))))))))))))))))))) ((inK IntKind.i64 (s2.1.2.1 + (1 : Int))) ∧ (next2 (((), ((s2.1.2.1 + (1 : Int)), ())), (s3.2.1, ())))))))))) (((), ((), ((0 : Int), ()))), (s2.2.1, ((outR m.1 (List.getD m.1.2.2.1 (Int.toNat s2.1.2.1) (0 : Int))), ()))))))) ((inK IntKind.i64 (s1.1.2.1 + (1 : Int))) ∧ (next1 (((), ((s1.1.2.1 + (1 : Int)), ())), (s2.2.1, ()))))))))) (((), ((0 : Int), ())), (s1.2.1, ()))))) ((inK IntKind.i64 (s.1.1 + (1 : Int))) ∧ (next (((s.1.1 + (1 : Int)), ()), ())))))))) (((), ((0 : Int), ())), ((outR m.1 (List.getD m.1.2.2.1 (Int.toNat s.1.1) (0 : Int))), ())))))) (K (Bool.true, ())))))) (((0 : Int), ()), ()))
theorem w_impl_Monoidal_interchanges (x : denL c_impl_Monoidal_interchanges.args) (K : Bool × Unit → Prop) : evF tab (lkp [(56, c_impl_Category_outOf), (132, c_impl_Category_then)]) (cutL [(14, 39)]) Try.f150 (bodyOf Try.f150) (.s .n (.s .n (.s (.s .n (.l [(18, (.d (.int .i64)))] [] [0, 3, 17] (.s .n (.s .n (.s (.s .n (.s .n (.l [(29, (.ref 102900 [])), (31, (.d (.int .i64)))] [(102900, (.sl (.fz (.int .i64))))] [0, 3, 4, 17, 18, 30] (.s .n (.s .n (.s (.s .n (.s .n (.l [(29, (.ref 102900 [])), (40, (.d (.int .i64)))] [(102900, (.sl (.fz (.int .i64))))] [0, 3, 4, 6, 17, 18, 30, 31, 39] (.s .n (.s .n (.s (.s .n (.s .n (.l [(29, (.ref 102900 [])), (51, (.ref 105100 [])), (53, (.d (.int .i64)))] [(102900, (.sl (.fz (.int .i64)))), (105100, (.sl (.fz (.int .i64))))] [0, 3, 4, 6, 7, 17, 18, 30, 31, 39, 40, 52] .n))) .n)))))) .n)))))) .n))))) .n))) c_impl_Monoidal_interchanges x K = W_impl_Monoidal_interchanges x.1 K := by kernel_rfl
theorem k_impl_Monoidal_interchanges : okC Try.f150.ntmps (cutL [(14, 39)]) (bodyOf Try.f150) = true := by kernel_rfl
theorem m_impl_Monoidal_interchanges (m : MonoidalD) (hok : allP (okL c_impl_Monoidal_interchanges.args (m, ()))) (hpre : allP (c_impl_Monoidal_interchanges.pre (m, ()))) : W_impl_Monoidal_interchanges m (fun r => r = c_impl_Monoidal_interchanges.res (m, ())) := by
  simp only [c_impl_Monoidal_interchanges, okL, T.oks, T.ok, ap, allP, true_and, and_true, implies_true] at hok hpre
  try dsimp only [T.den] at hok
  try dsimp only [T.den] at hpre
  unfold W_impl_Monoidal_interchanges
  have S : ShapeP m.1 := hpre.1
  have A := tab_at hpre.2.2
  have hlt := S.lt
  have hlc := S.lc
  have hmm := S.m
  have bad : ¬ (interR m = true) → (false, ()) = c_impl_Monoidal_interchanges.res (m, ()) := fun h => by
    simp only [c_impl_Monoidal_interchanges]
    cases hs : interR m with
    | false => rfl
    | true => exact absurd hs h
  have hat : ∀ i j : Int, (m.2.2.2.getD i.toNat []).getD j.toNat 0 = atR m.2.2.2 i j := fun _ _ => rfl
  simp only [hat]
  have key : ∀ f h g k : Int, Prop := fun f h g k => atR m.2.2.2 (compR m.1 f h) (compR m.1 g k) = compR m.1 (atR m.2.2.2 f g) (atR m.2.2.2 h k)
  refine loop_ix (n := m.1.2.1.length) (fun f => ∀ f' : Int, 0 ≤ f' → f' < f → ∀ h : Int, 0 ≤ h → h < m.1.2.1.length → m.1.2.2.1.getD f'.toNat 0 = m.1.2.1.getD h.toNat 0 → ∀ g : Int, 0 ≤ g → g < m.1.2.1.length → ∀ k : Int, 0 ≤ k → k < m.1.2.1.length → m.1.2.2.1.getD g.toNat 0 = m.1.2.1.getD k.toNat 0 →
    atR m.2.2.2 (compR m.1 f' h) (compR m.1 g k) = compR m.1 (atR m.2.2.2 f' g) (atR m.2.2.2 h k)) (by omega) (by intro y h0 h1; omega) ?_ ?_
  · intro f next f0 f1 hP hn hin
    try dsimp only
    have rf := S.row f f0 f1
    have raf := A.2.1 f f0 f1
    have lo := out_len S (m.1.2.2.1.getD f.toNat 0)
    refine cnd_d (fun _ => ⟨f0, by omega, hmm, ?_⟩) (fun h => absurd f1 h)
    refine loop_ix1 (n := (outR m.1 (m.1.2.2.1.getD f.toNat 0)).length) (fun i => ∀ i' : Int, 0 ≤ i' → i' < i → ∀ g : Int, 0 ≤ g → g < m.1.2.1.length → ∀ k : Int, 0 ≤ k → k < m.1.2.1.length → m.1.2.2.1.getD g.toNat 0 = m.1.2.1.getD k.toNat 0 →
      atR m.2.2.2 (compR m.1 f ((outR m.1 (m.1.2.2.1.getD f.toNat 0)).getD i'.toNat 0)) (compR m.1 g k) = compR m.1 (atR m.2.2.2 f g) (atR m.2.2.2 ((outR m.1 (m.1.2.2.1.getD f.toNat 0)).getD i'.toNat 0) k)) (by omega) (by intro y h0 h1; omega) ?_ ?_
    · intro i next2 i0 i1 hP2 hn2 _ _
      try dsimp only
      have oh := out_at i0 i1
      refine cnd_d (fun _ => ⟨i0, i1, ?_⟩) (fun h => absurd i1 h)
      generalize hh : (outR m.1 (m.1.2.2.1.getD f.toNat 0)).getD i.toNat 0 = h at oh ⊢
      have yfh := S.yes f0 f1 oh.1 oh.2.1 oh.2.2.symm
      have rah := A.2.1 h oh.1 oh.2.1
      have raz := A.2.1 _ yfh.1 yfh.2.1
      generalize (outR m.1 (m.1.2.2.1.getD f.toNat 0)) = out at *
      refine loop_ix1 (n := m.1.2.1.length) (fun g => ∀ g' : Int, 0 ≤ g' → g' < g → ∀ k : Int, 0 ≤ k → k < m.1.2.1.length → m.1.2.2.1.getD g'.toNat 0 = m.1.2.1.getD k.toNat 0 →
        atR m.2.2.2 (compR m.1 f h) (compR m.1 g' k) = compR m.1 (atR m.2.2.2 f g') (atR m.2.2.2 h k)) (by omega) (by intro y h0 h1; omega) ?_ ?_
      · intro g next3 g0 g1 hP3 hn3 _ _
        try dsimp only
        have rg := S.row g g0 g1
        have afg := A.2.2 f g f0 f1 g0 g1
        have rcf := S.row _ afg.1 afg.2
        have lo2 := out_len S (m.1.2.2.1.getD g.toNat 0)
        refine cnd_d (fun _ => ⟨g0, by omega, hmm, ?_⟩) (fun h => absurd g1 h)
        refine loop_of (fun (s3 : ((Unit × (Unit × (Int × Unit))) × ((List Int) × ((List Int) × Unit)))) => s3.2.1 = out ∧ s3.2.2.1 = outR m.1 (m.1.2.2.1.getD g.toNat 0) ∧ 0 ≤ s3.1.2.2.1 ∧ s3.1.2.2.1 ≤ (outR m.1 (m.1.2.2.1.getD g.toNat 0)).length ∧ ∀ j : Int, 0 ≤ j → j < s3.1.2.2.1 →
          atR m.2.2.2 (compR m.1 f h) (compR m.1 g ((outR m.1 (m.1.2.2.1.getD g.toNat 0)).getD j.toNat 0)) = compR m.1 (atR m.2.2.2 f g) (atR m.2.2.2 h ((outR m.1 (m.1.2.2.1.getD g.toNat 0)).getD j.toNat 0))) (fun (s3 : ((Unit × (Unit × (Int × Unit))) × ((List Int) × ((List Int) × Unit)))) => ((outR m.1 (m.1.2.2.1.getD g.toNat 0)).length - s3.1.2.2.1).toNat) ?_ ⟨rfl, rfl, by simp, by simp, fun j j0 j1 => by dsimp only at j1; omega⟩
        rintro ⟨⟨_, _, j, _⟩, l1, l2, _⟩ next4 ⟨rfl, rfl, j0, j1, hP4⟩ hn4 _ _ _
        try dsimp only at j0 j1 hP4 hn4 hh hn2 hP2 ⊢
        refine cnd_d (fun hj => ?_) (fun hj => ⟨by rw [inK64]; (try dsimp only); omega, hn3 fun g' a0 a1 => ?_⟩)
        · have ok := out_at j0 hj
          generalize hk : (outR m.1 (m.1.2.2.1.getD g.toNat 0)).getD j.toNat 0 = k at ok ⊢
          have ygk := S.yes g0 g1 ok.1 ok.2.1 ok.2.2.symm
          have ahk := A.2.2 h k oh.1 oh.2.1 ok.1 ok.2.1
          refine ⟨j0, hj, f0, by omega, oh.1, by omega, yfh.1, by omega, g0, by omega, ok.1, by omega, ygk.1, by omega, f0, by omega, g0, by omega, oh.1, by omega, ok.1, by omega, afg.1, by omega, ahk.1, by omega, cnd_of (fun hx => bad fun q => ?_) (fun hx => ⟨by rw [inK64]; (try dsimp only); omega, hn4 _ ⟨rfl, rfl, (by first | omega | (dsimp only; omega)), (by first | omega | (dsimp only; omega)), fun j' a0 a1 => ?_⟩ (by first | omega | (dsimp only; omega))⟩)⟩
          · rw [inter_iff.1 q f f0 f1 h oh.1 oh.2.1 oh.2.2.symm g g0 g1 k ok.1 ok.2.1 ok.2.2.symm] at hx; simp at hx
          · by_cases e : j' = j
            · rw [e, hk]; simpa using hx
            · exact hP4 j' a0 (by dsimp only at a1; omega)
        · by_cases e : g' = g
          · rw [e]
            intro k k0 k1 ek
            exact out_all (p := fun k => atR m.2.2.2 (compR m.1 f h) (compR m.1 g k) = compR m.1 (atR m.2.2.2 f g) (atR m.2.2.2 h k)) (fun j' a0 a1 => hP4 j' a0 (by omega)) k0 k1 ek.symm
          · exact hP3 g' a0 (by omega)
      · intro next3 hP3 _ _
        refine cnd_d (fun h => absurd h (by dsimp only; omega)) (fun _ => ⟨by rw [inK64]; (try dsimp only); omega, hn2 fun i' a0 a1 => ?_⟩)
        by_cases e : i' = i
        · rw [e, hh]; exact hP3
        · exact hP2 i' a0 (by omega)
    · intro next2 hP2 _ _
      refine cnd_d (fun h => absurd h (by dsimp only; omega)) (fun _ => ⟨by rw [inK64]; (try dsimp only); omega, hn fun f' a0 a1 => ?_⟩)
      by_cases e : f' = f
      · rw [e]
        intro h h0 h1 eh
        exact out_all (p := fun h => ∀ g : Int, 0 ≤ g → g < m.1.2.1.length → ∀ k : Int, 0 ≤ k → k < m.1.2.1.length → m.1.2.2.1.getD g.toNat 0 = m.1.2.1.getD k.toNat 0 → atR m.2.2.2 (compR m.1 f h) (compR m.1 g k) = compR m.1 (atR m.2.2.2 f g) (atR m.2.2.2 h k)) hP2 h0 h1 eh.symm
      · exact hP f' a0 (by omega)
  · intro next hP hin
    refine cnd_d (fun h => absurd h (by dsimp only; omega)) (fun _ => ?_)
    simp only [c_impl_Monoidal_interchanges]
    rw [inter_iff.2 hP]
theorem ct_impl_Monoidal_interchanges : CtOk Try.prog 150 c_impl_Monoidal_interchanges :=
  ct_by (Φ := lkp [(56, c_impl_Category_outOf), (132, c_impl_Category_then)]) (good_cons ct_impl_Category_outOf (good_cons ct_impl_Category_then good_nil)) tab_ok (by kernel_rfl) (fn := Try.f150) (c := bodyOf Try.f150) (by kernel_rfl) (by kernel_rfl) (by kernel_rfl) c_impl_Monoidal_interchanges rfl (.s .n (.s .n (.s (.s .n (.l [(18, (.d (.int .i64)))] [] [0, 3, 17] (.s .n (.s .n (.s (.s .n (.s .n (.l [(29, (.ref 102900 [])), (31, (.d (.int .i64)))] [(102900, (.sl (.fz (.int .i64))))] [0, 3, 4, 17, 18, 30] (.s .n (.s .n (.s (.s .n (.s .n (.l [(29, (.ref 102900 [])), (40, (.d (.int .i64)))] [(102900, (.sl (.fz (.int .i64))))] [0, 3, 4, 6, 17, 18, 30, 31, 39] (.s .n (.s .n (.s (.s .n (.s .n (.l [(29, (.ref 102900 [])), (51, (.ref 105100 [])), (53, (.d (.int .i64)))] [(102900, (.sl (.fz (.int .i64)))), (105100, (.sl (.fz (.int .i64))))] [0, 3, 4, 6, 7, 17, 18, 30, 31, 39, 40, 52] .n))) .n)))))) .n)))))) .n))))) .n))) (cutL [(14, 39)]) (by kernel_rfl) (by kernel_rfl) k_impl_Monoidal_interchanges (by decide) (fun x K => W_impl_Monoidal_interchanges x.1 K) w_impl_Monoidal_interchanges (fun x h1 h2 => m_impl_Monoidal_interchanges x.1 h1 h2)
def assocR (t : List (List Int)) (u : Int) : Bool := allB t.length fun x => (decide (atR t x u = x) && decide (atR t u x = x)) && allB t.length fun y => allB t.length fun z => decide (atR t (atR t x y) z = atR t x (atR t y z))
theorem assoc_iff {t : List (List Int)} {u : Int} : assocR t u = true ↔ ∀ x : Int, 0 ≤ x → x < t.length → (atR t x u = x ∧ atR t u x = x) ∧ ∀ y : Int, 0 ≤ y → y < t.length → ∀ z : Int, 0 ≤ z → z < t.length → atR t (atR t x y) z = atR t x (atR t y z) := by
  simp only [assocR, allB_iff, Bool.and_eq_true, decide_eq_true_eq]

def c_impl_isAssociative : Ct := ⟨[(.sl (.sl (.int .i64))), (.int .i64)], [false, false], fun x => [tabR x.1 x.1.length = true, x.1.length ≤ 40, 0 ≤ x.2.1, x.2.1 < x.1.length], [(false, (.fz .bool))], fun x => (assocR x.1 x.2.1, ()), false, none⟩
def W_impl_isAssociative (table : List (List Int)) (unit : Int) (K : Bool × Unit → Prop) : Prop := (loopW (S := ((Int × Unit) × Unit)) (fun s => (fun next => ((inK IntKind.i64 s.1.1) → (cnd (decide (s.1.1 < (((List.length table) : Nat) : Int))) (((0 : Int) ≤ s.1.1) ∧ ((s.1.1 < (((List.length table) : Nat) : Int)) ∧ (((0 : Int) ≤ unit) ∧ ((unit < (((List.length (List.getD table (Int.toNat s.1.1) ([] : List Int))) : Nat) : Int)) ∧ (((((List.getD (List.getD table (Int.toNat s.1.1) ([] : List Int)) (Int.toNat unit) (0 : Int)) != s.1.1) = Bool.false) → ((unit < (((List.length table) : Nat) : Int)) ∧ ((0 : Int) ≤ unit))) ∧ (((((List.getD (List.getD table (Int.toNat s.1.1) ([] : List Int)) (Int.toNat unit) (0 : Int)) != s.1.1) = Bool.false) → ((s.1.1 < (((List.length (List.getD table (Int.toNat unit) ([] : List Int))) : Nat) : Int)) ∧ ((0 : Int) ≤ s.1.1))) ∧ (cnd (((List.getD (List.getD table (Int.toNat s.1.1) ([] : List Int)) (Int.toNat unit) (0 : Int)) != s.1.1) || ((List.getD (List.getD table (Int.toNat unit) ([] : List Int)) (Int.toNat s.1.1) (0 : Int)) != s.1.1)) (K (Bool.false, ())) (loopW (S := ((Int × Unit) × Unit)) (fun s1 => (fun next1 => ((inK IntKind.i64 s1.1.1) → (cnd (decide (s1.1.1 < (((List.length table) : Nat) : Int))) (loopW (S := ((Int × Unit) × Unit)) (fun s2 => (fun next2 => ((inK IntKind.i64 s2.1.1) → (cnd (decide (s2.1.1 < (((List.length table) : Nat) : Int))) (((0 : Int) ≤ s.1.1) ∧ ((s.1.1 < (((List.length table) : Nat) : Int)) ∧ (((0 : Int) ≤ s1.1.1) ∧ ((s1.1.1 < (((List.length (List.getD table (Int.toNat s.1.1) ([] : List Int))) : Nat) : Int)) ∧ (((0 : Int) ≤ (List.getD (List.getD table (Int.toNat s.1.1) ([] : List Int)) (Int.toNat s1.1.1) (0 : Int))) ∧ (((List.getD (List.getD table (Int.toNat s.1.1) ([] : List Int)) (Int.toNat s1.1.1) (0 : Int)) < (((List.length table) : Nat) : Int)) ∧ (((0 : Int) ≤ s2.1.1) ∧ ((s2.1.1 < (((List.length (List.getD table (Int.toNat (List.getD (List.getD table (Int.toNat s.1.1) ([] : List Int)) (Int.toNat s1.1.1) (0 : Int))) ([] : List Int))) : Nat) : Int)) ∧ (((0 : Int) ≤ s.1.1) ∧ ((s.1.1 < (((List.length table) : Nat) : Int)) ∧ (((0 : Int) ≤ s1.1.1) ∧ ((s1.1.1 < (((List.length table) : Nat) : Int)) ∧ (((0 : Int) ≤ s2.1.1) ∧ ((s2.1.1 < (((List.length (List.getD table (Int.toNat s1.1.1) ([] : List Int))) : Nat) : Int)) ∧ (((0 : Int) ≤ (List.getD (List.getD table (Int.toNat s1.1.1) ([] : List Int)) (Int.toNat s2.1.1) (0 : Int))) ∧ (((List.getD (List.getD table (Int.toNat s1.1.1) ([] : List Int)) (Int.toNat s2.1.1) (0 : Int)) < (((List.length (List.getD table (Int.toNat s.1.1) ([] : List Int))) : Nat) : Int)) ∧ (cnd ((List.getD (List.getD table (Int.toNat (List.getD (List.getD table (Int.toNat s.1.1) ([] : List Int)) (Int.toNat s1.1.1) (0 : Int))) ([] : List Int)) (Int.toNat s2.1.1) (0 : Int)) != (List.getD (List.getD table (Int.toNat s.1.1) ([] : List Int)) (Int.toNat (List.getD (List.getD table (Int.toNat s1.1.1) ([] : List Int)) (Int.toNat s2.1.1) (0 : Int))) (0 : Int))) (K (Bool.false, ())) ((inK IntKind.i64 (s2.1.1 + (1 : Int))) ∧ (next2 (((s2.1.1 + (1 : Int)), ()), ())))))))))))))))))))) ((inK IntKind.i64 (s1.1.1 + (1 : Int))) ∧ (next1 (((s1.1.1 + (1 : Int)), ()), ()))))))) (((0 : Int), ()), ())) ((inK IntKind.i64 (s.1.1 + (1 : Int))) ∧ (next (((s.1.1 + (1 : Int)), ()), ()))))))) (((0 : Int), ()), ()))))))))) (K (Bool.true, ())))))) (((0 : Int), ()), ()))
theorem w_impl_isAssociative (x : denL c_impl_isAssociative.args) (K : Bool × Unit → Prop) : evF tab (lkp []) (cutL [(12, 27)]) Try.f149 (bodyOf Try.f149) (.s .n (.s (.s .n (.l [(10, (.d (.int .i64)))] [] [0, 1, 9] (.s .n (.s .n (.s (.s .n (.s .n (.s .n (.l [(35, (.d (.int .i64)))] [] [0, 1, 5, 9, 10, 34] (.s .n (.s .n (.s (.s .n (.s .n (.l [(40, (.d (.int .i64)))] [] [0, 1, 5, 6, 9, 10, 34, 35, 39] .n))) .n))))))) .n))))) .n)) c_impl_isAssociative x K = W_impl_isAssociative x.1 x.2.1 K := by kernel_rfl
theorem k_impl_isAssociative : okC Try.f149.ntmps (cutL [(12, 27)]) (bodyOf Try.f149) = true := by kernel_rfl
theorem m_impl_isAssociative (table : List (List Int)) (unit : Int) (hok : allP (okL c_impl_isAssociative.args (table, unit, ()))) (hpre : allP (c_impl_isAssociative.pre (table, unit, ()))) : W_impl_isAssociative table unit (fun r => r = c_impl_isAssociative.res (table, unit, ())) := by
  simp only [c_impl_isAssociative, okL, T.oks, T.ok, ap, allP, true_and, and_true, implies_true] at hok hpre
  try dsimp only [T.den] at hok
  try dsimp only [T.den] at hpre
  unfold W_impl_isAssociative
  have T := tab_at hpre.1
  have hl := hpre.2.1
  have u0 := hpre.2.2.1
  have u1 := hpre.2.2.2
  have bad : ¬ (assocR table unit = true) → (false, ()) = c_impl_isAssociative.res (table, unit, ()) := fun h => by
    simp only [c_impl_isAssociative]
    cases hs : assocR table unit with
    | false => rfl
    | true => exact absurd hs h
  have hat : ∀ i j : Int, (table.getD i.toNat []).getD j.toNat 0 = atR table i j := fun _ _ => rfl
  simp only [hat]
  have ru := T.2.1 unit u0 (by omega)
  refine loop_ix (n := table.length) (fun x => ∀ x' : Int, 0 ≤ x' → x' < x → (atR table x' unit = x' ∧ atR table unit x' = x') ∧ ∀ y : Int, 0 ≤ y → y < table.length → ∀ z : Int, 0 ≤ z → z < table.length → atR table (atR table x' y) z = atR table x' (atR table y z)) (by omega) (by intro y h0 h1; omega) ?_ ?_
  · intro x next h0 h1 hP hn hin
    try dsimp only
    have rx := T.2.1 x h0 (by omega)
    refine cnd_d (fun _ => ⟨h0, h1, u0, by omega, fun _ => by omega, fun _ => by omega, cnd_of (fun hx => bad fun h => ?_) (fun hx => ?_)⟩) (fun h => absurd h1 h)
    · have := (assoc_iff.1 h x h0 h1).1
      rw [this.1, this.2] at hx; simp at hx
    simp only [Bool.or_eq_false_iff, bne_eq_false_iff_eq] at hx
    refine loop_ix (n := table.length) (fun y => ∀ y' : Int, 0 ≤ y' → y' < y → ∀ z : Int, 0 ≤ z → z < table.length → atR table (atR table x y') z = atR table x (atR table y' z)) (by omega) (by intro y h0 h1; omega) ?_ ?_
    · intro y next2 y0 y1 hP2 hn2 hin2
      try dsimp only
      have ry := T.2.1 y y0 (by omega)
      have axy := T.2.2 x y h0 (by omega) y0 (by omega)
      have rxy := T.2.1 _ axy.1 (by omega)
      refine cnd_d (fun _ => ?_) (fun h => absurd y1 h)
      refine loop_ix (n := table.length) (fun z => ∀ z' : Int, 0 ≤ z' → z' < z → atR table (atR table x y) z' = atR table x (atR table y z')) (by omega) (by intro y h0 h1; omega) ?_ ?_
      · intro z next3 z0 z1 hP3 hn3 hin3
        try dsimp only
        have ayz := T.2.2 y z y0 (by omega) z0 (by omega)
        refine cnd_d (fun _ => ⟨h0, h1, y0, by omega, axy.1, by omega, z0, by omega, h0, h1, y0, y1, z0, by omega, ayz.1, by omega, cnd_of (fun hx2 => bad fun h => ?_) (fun hx2 => ⟨by rw [inK64]; (try dsimp only); omega, hn3 fun z' a0 a1 => ?_⟩)⟩) (fun h => absurd z1 h)
        · rw [(assoc_iff.1 h x h0 h1).2 y y0 y1 z z0 z1] at hx2; simp at hx2
        · by_cases e : z' = z
          · rw [e]; simpa using hx2
          · exact hP3 z' a0 (by omega)
      · intro next3 hP3 hin3
        refine cnd_d (fun h => absurd h (by dsimp only; omega)) (fun _ => ⟨by rw [inK64]; (try dsimp only); omega, hn2 fun y' a0 a1 => ?_⟩)
        by_cases e : y' = y
        · rw [e]; exact hP3
        · exact hP2 y' a0 (by omega)
    · intro next2 hP2 hin2
      refine cnd_d (fun h => absurd h (by dsimp only; omega)) (fun _ => ⟨by rw [inK64]; (try dsimp only); omega, hn fun x' a0 a1 => ?_⟩)
      by_cases e : x' = x
      · rw [e]; exact ⟨hx, hP2⟩
      · exact hP x' a0 (by omega)
  · intro next hP hin
    refine cnd_d (fun h => absurd h (by dsimp only; omega)) (fun _ => ?_)
    simp only [c_impl_isAssociative]
    rw [assoc_iff.2 hP]
theorem ct_impl_isAssociative : CtOk Try.prog 149 c_impl_isAssociative :=
  ct_by (Φ := lkp []) good_nil tab_ok (by kernel_rfl) (fn := Try.f149) (c := bodyOf Try.f149) (by kernel_rfl) (by kernel_rfl) (by kernel_rfl) c_impl_isAssociative rfl (.s .n (.s (.s .n (.l [(10, (.d (.int .i64)))] [] [0, 1, 9] (.s .n (.s .n (.s (.s .n (.s .n (.s .n (.l [(35, (.d (.int .i64)))] [] [0, 1, 5, 9, 10, 34] (.s .n (.s .n (.s (.s .n (.s .n (.l [(40, (.d (.int .i64)))] [] [0, 1, 5, 6, 9, 10, 34, 35, 39] .n))) .n))))))) .n))))) .n)) (cutL [(12, 27)]) (by kernel_rfl) (by kernel_rfl) k_impl_isAssociative (by decide) (fun x K => W_impl_isAssociative x.1 x.2.1 K) w_impl_isAssociative (fun x h1 h2 => m_impl_isAssociative x.1 x.2.1 h1 h2)
def monIds (m : MonoidalD) : Bool := allB m.1.1.toNat fun x => allB m.1.1.toNat fun y => decide (atR m.2.2.2 (m.1.2.2.2.1.getD x.toNat 0) (m.1.2.2.2.1.getD y.toNat 0) = m.1.2.2.2.1.getD (atR m.2.2.1 x y).toNat 0)
def monR (m : MonoidalD) : Bool := catR m.1 && inR m.2.1 0 (m.1.1 - 1) && tabR m.2.2.1 m.1.1 && tabR m.2.2.2 m.1.2.1.length && endsR m && monIds m && assocR m.2.2.1 m.2.1 && assocR m.2.2.2 (m.1.2.2.2.1.getD m.2.1.toNat 0) && interR m
structure MonP (m : MonoidalD) : Prop where
  cat : catR m.1 = true
  u : 0 ≤ m.2.1 ∧ m.2.1 < m.1.1
  ot : tabR m.2.2.1 m.1.1 = true
  at_ : tabR m.2.2.2 m.1.2.1.length = true
  ends : endsR m = true
  ids : monIds m = true
  oa : assocR m.2.2.1 m.2.1 = true
  aa : assocR m.2.2.2 (m.1.2.2.2.1.getD m.2.1.toNat 0) = true
  inter : interR m = true
theorem mon_iff {m : MonoidalD} : monR m = true ↔ MonP m := by
  simp only [monR, Bool.and_eq_true, inR, decide_eq_true_eq]
  constructor
  · rintro ⟨⟨⟨⟨⟨⟨⟨⟨h1, h2⟩, h3⟩, h4⟩, h5⟩, h6⟩, h7⟩, h8⟩, h9⟩
    exact ⟨h1, by omega, h3, h4, h5, h6, h7, h8, h9⟩
  · intro h
    exact ⟨⟨⟨⟨⟨⟨⟨⟨h.cat, by have := h.u; omega⟩, h.ot⟩, h.at_⟩, h.ends⟩, h.ids⟩, h.oa⟩, h.aa⟩, h.inter⟩
theorem ids_iff {m : MonoidalD} (S : ShapeP m.1) : monIds m = true ↔ ∀ x : Int, 0 ≤ x → x < m.1.1 → ∀ y : Int, 0 ≤ y → y < m.1.1 →
    atR m.2.2.2 (m.1.2.2.2.1.getD x.toNat 0) (m.1.2.2.2.1.getD y.toNat 0) = m.1.2.2.2.1.getD (atR m.2.2.1 x y).toNat 0 := by
  have e : ((m.1.1.toNat : Nat) : Int) = m.1.1 := by have := S.ob; omega
  simp only [monIds, allB_iff, decide_eq_true_eq, e]
theorem ids_idR {m : MonoidalD} (S : ShapeP m.1) (E : endsR m = true) : monIds m = true ↔ ∀ f : Int, 0 ≤ f → f < m.1.2.1.length → ∀ g : Int, 0 ≤ g → g < m.1.2.1.length →
    idR m.1 f = true → idR m.1 g = true → idR m.1 (atR m.2.2.2 f g) = true := by
  rw [ids_iff S]
  constructor
  · intro h f f0 f1 g g0 g1 hf hg
    have a := S.frm f0 f1
    have b := S.frm g0 g1
    have e := ends_iff.1 E f f0 f1 g g0 g1
    have := h _ a.1 a.2.1 _ b.1 b.2.1
    simp only [idR, beq_iff_eq] at hf hg ⊢
    rw [hf, hg] at this
    rw [e.1]; exact this.symm
  · intro h x x0 x1 y y0 y1
    have a := S.idn x0 x1
    have b := S.idn y0 y1
    have e := ends_iff.1 E _ a.1 a.2.1 _ b.1 b.2.1
    have := h _ a.1 a.2.1 _ b.1 b.2.1 (by simp only [idR, beq_iff_eq]; rw [a.2.2.1]) (by simp only [idR, beq_iff_eq]; rw [b.2.2.1])
    simp only [idR, beq_iff_eq] at this
    rw [e.1, a.2.2.1, b.2.2.1] at this
    exact this.symm

def c_impl_Monoidal_isMonoidal : Ct := ⟨[(.pt MonoidalT)], [false], fun x => [], [(false, (.fz .bool))], fun x => (monR x.1, ()), false, none⟩
def W_impl_Monoidal_isMonoidal (m : MonoidalD) (K : Bool × Unit → Prop) : Prop := ((((!(catR m.1)) = Bool.false) → (inK IntKind.i64 (m.1.1 - (1 : Int)))) ∧ (((((!(catR m.1)) || (!(inR m.2.1 (0 : Int) (m.1.1 - (1 : Int))))) = Bool.false) → (inK IntKind.i64 (m.1.1 - (1 : Int)))) ∧ ((((((!(catR m.1)) || (!(inR m.2.1 (0 : Int) (m.1.1 - (1 : Int))))) || (!(tabR m.2.2.1 m.1.1))) = Bool.false) → (inK IntKind.i64 ((((List.length m.1.2.1) : Nat) : Int) - (1 : Int)))) ∧ (cnd ((((!(catR m.1)) || (!(inR m.2.1 (0 : Int) (m.1.1 - (1 : Int))))) || (!(tabR m.2.2.1 m.1.1))) || (!(tabR m.2.2.2 (((List.length m.1.2.1) : Nat) : Int)))) (K (Bool.false, ())) (loopW (S := ((Int × Unit) × Unit)) (fun s => (fun next => ((inK IntKind.i64 s.1.1) → (cnd (decide (s.1.1 < (((List.length m.2.2.2) : Nat) : Int))) (((0 : Int) ≤ s.1.1) ∧ ((s.1.1 < (((List.length m.2.2.2) : Nat) : Int)) ∧ (loopW (S := ((Int × Unit) × Unit)) (fun s1 => (fun next1 => ((inK IntKind.i64 s1.1.1) → (cnd (decide (s1.1.1 < (((List.length (List.getD m.2.2.2 (Int.toNat s.1.1) ([] : List Int))) : Nat) : Int))) (((0 : Int) ≤ s1.1.1) ∧ ((s1.1.1 < (((List.length (List.getD m.2.2.2 (Int.toNat s.1.1) ([] : List Int))) : Nat) : Int)) ∧ (((0 : Int) ≤ (List.getD (List.getD m.2.2.2 (Int.toNat s.1.1) ([] : List Int)) (Int.toNat s1.1.1) (0 : Int))) ∧ (((List.getD (List.getD m.2.2.2 (Int.toNat s.1.1) ([] : List Int)) (Int.toNat s1.1.1) (0 : Int)) < (((List.length m.1.2.1) : Nat) : Int)) ∧ (((List.getD (List.getD m.2.2.2 (Int.toNat s.1.1) ([] : List Int)) (Int.toNat s1.1.1) (0 : Int)) < (((List.length m.1.2.2.1) : Nat) : Int)) ∧ (((0 : Int) ≤ s.1.1) ∧ ((s.1.1 < (((List.length m.1.2.1) : Nat) : Int)) ∧ (((0 : Int) ≤ (List.getD m.1.2.1 (Int.toNat s.1.1) (0 : Int))) ∧ (((List.getD m.1.2.1 (Int.toNat s.1.1) (0 : Int)) < (((List.length m.2.2.1) : Nat) : Int)) ∧ (((0 : Int) ≤ s1.1.1) ∧ ((s1.1.1 < (((List.length m.1.2.1) : Nat) : Int)) ∧ (((0 : Int) ≤ (List.getD m.1.2.1 (Int.toNat s1.1.1) (0 : Int))) ∧ (((List.getD m.1.2.1 (Int.toNat s1.1.1) (0 : Int)) < (((List.length (List.getD m.2.2.1 (Int.toNat (List.getD m.1.2.1 (Int.toNat s.1.1) (0 : Int))) ([] : List Int))) : Nat) : Int)) ∧ (((0 : Int) ≤ s.1.1) ∧ ((s.1.1 < (((List.length m.1.2.2.1) : Nat) : Int)) ∧ (((0 : Int) ≤ (List.getD m.1.2.2.1 (Int.toNat s.1.1) (0 : Int))) ∧ (((List.getD m.1.2.2.1 (Int.toNat s.1.1) (0 : Int)) < (((List.length m.2.2.1) : Nat) : Int)) ∧ (((0 : Int) ≤ s1.1.1) ∧ ((s1.1.1 < (((List.length m.1.2.2.1) : Nat) : Int)) ∧ (((0 : Int) ≤ (List.getD m.1.2.2.1 (Int.toNat s1.1.1) (0 : Int))) ∧ (((List.getD m.1.2.2.1 (Int.toNat s1.1.1) (0 : Int)) < (((List.length (List.getD m.2.2.1 (Int.toNat (List.getD m.1.2.2.1 (Int.toNat s.1.1) (0 : Int))) ([] : List Int))) : Nat) : Int)) ∧ (cnd (!(((List.getD m.1.2.1 (Int.toNat (List.getD (List.getD m.2.2.2 (Int.toNat s.1.1) ([] : List Int)) (Int.toNat s1.1.1) (0 : Int))) (0 : Int)) == (List.getD (List.getD m.2.2.1 (Int.toNat (List.getD m.1.2.1 (Int.toNat s.1.1) (0 : Int))) ([] : List Int)) (Int.toNat (List.getD m.1.2.1 (Int.toNat s1.1.1) (0 : Int))) (0 : Int))) && ((List.getD m.1.2.2.1 (Int.toNat (List.getD (List.getD m.2.2.2 (Int.toNat s.1.1) ([] : List Int)) (Int.toNat s1.1.1) (0 : Int))) (0 : Int)) == (List.getD (List.getD m.2.2.1 (Int.toNat (List.getD m.1.2.2.1 (Int.toNat s.1.1) (0 : Int))) ([] : List Int)) (Int.toNat (List.getD m.1.2.2.1 (Int.toNat s1.1.1) (0 : Int))) (0 : Int))))) (K (Bool.false, ())) ((ShapeP m.1) ∧ (((0 : Int) ≤ s.1.1) ∧ ((s.1.1 < (((List.length m.1.2.1) : Nat) : Int)) ∧ ((((idR m.1 s.1.1) = Bool.true) → (((0 : Int) ≤ s1.1.1) ∧ ((s1.1.1 < (((List.length m.1.2.1) : Nat) : Int)) ∧ (ShapeP m.1)))) ∧ (((((idR m.1 s.1.1) && (idR m.1 s1.1.1)) = Bool.true) → (((0 : Int) ≤ (List.getD (List.getD m.2.2.2 (Int.toNat s.1.1) ([] : List Int)) (Int.toNat s1.1.1) (0 : Int))) ∧ (((List.getD (List.getD m.2.2.2 (Int.toNat s.1.1) ([] : List Int)) (Int.toNat s1.1.1) (0 : Int)) < (((List.length m.1.2.1) : Nat) : Int)) ∧ (ShapeP m.1)))) ∧ (cnd (((idR m.1 s.1.1) && (idR m.1 s1.1.1)) && (!(idR m.1 (List.getD (List.getD m.2.2.2 (Int.toNat s.1.1) ([] : List Int)) (Int.toNat s1.1.1) (0 : Int))))) (K (Bool.false, ())) ((inK IntKind.i64 (s1.1.1 + (1 : Int))) ∧ (next1 (((s1.1.1 + (1 : Int)), ()), ()))))))))))))))))))))))))))))))) ((inK IntKind.i64 (s.1.1 + (1 : Int))) ∧ (next (((s.1.1 + (1 : Int)), ()), ()))))))) (((0 : Int), ()), ())))) (((tabR m.2.2.1 (((List.length m.2.2.1) : Nat) : Int)) = Bool.true) ∧ (((List.length m.2.2.1) ≤ 40) ∧ (((0 : Int) ≤ m.2.1) ∧ ((m.2.1 < (((List.length m.2.2.1) : Nat) : Int)) ∧ ((((assocR m.2.2.1 m.2.1) = Bool.true) → ((m.2.1 < (((List.length m.1.2.2.2.1) : Nat) : Int)) ∧ ((0 : Int) ≤ m.2.1))) ∧ ((((assocR m.2.2.1 m.2.1) = Bool.true) → (((List.length m.2.2.2) ≤ 40) ∧ (((0 : Int) ≤ (List.getD m.1.2.2.2.1 (Int.toNat m.2.1) (0 : Int))) ∧ (((List.getD m.1.2.2.2.1 (Int.toNat m.2.1) (0 : Int)) < (((List.length m.2.2.2) : Nat) : Int)) ∧ ((tabR m.2.2.2 (((List.length m.2.2.2) : Nat) : Int)) = Bool.true))))) ∧ (((((assocR m.2.2.1 m.2.1) && (assocR m.2.2.2 (List.getD m.1.2.2.2.1 (Int.toNat m.2.1) (0 : Int)))) = Bool.true) → (((tabR m.2.2.1 m.1.1) = Bool.true) ∧ (((tabR m.2.2.2 (((List.length m.1.2.1) : Nat) : Int)) = Bool.true) ∧ (ShapeP m.1)))) ∧ (K ((((assocR m.2.2.1 m.2.1) && (assocR m.2.2.2 (List.getD m.1.2.2.2.1 (Int.toNat m.2.1) (0 : Int)))) && (interR m)), ()))))))))))))) (((0 : Int), ()), ()))))))
theorem w_impl_Monoidal_isMonoidal (x : denL c_impl_Monoidal_isMonoidal.args) (K : Bool × Unit → Prop) : evF tab (lkp [(146, c_impl_Category_arrows), (147, c_impl_Category_ends), (143, c_impl_Category_isCategory), (148, c_impl_Category_isIdentity), (150, c_impl_Monoidal_interchanges), (144, c_impl_inRange), (149, c_impl_isAssociative), (145, c_impl_isTable)]) (cutL [(16, 31), (2, 38), (10, 49)]) Try.f108 (bodyOf Try.f108) (.s .n (.s .n (.s .n (.s (.s .n (.l [(54, (.d (.int .i64)))] [] [0, 3, 52, 53] (.s .n (.s .n (.s (.s .n (.s .n (.l [(61, (.d (.int .i64)))] [] [0, 3, 4, 52, 53, 54, 59, 60] .n))) .n))))) .n)))) c_impl_Monoidal_isMonoidal x K = W_impl_Monoidal_isMonoidal x.1 K := by kernel_rfl
theorem k_impl_Monoidal_isMonoidal : okC Try.f108.ntmps (cutL [(16, 31), (2, 38), (10, 49)]) (bodyOf Try.f108) = true := by kernel_rfl
theorem m_impl_Monoidal_isMonoidal (m : MonoidalD) (hok : allP (okL c_impl_Monoidal_isMonoidal.args (m, ()))) (hpre : allP (c_impl_Monoidal_isMonoidal.pre (m, ()))) : W_impl_Monoidal_isMonoidal m (fun r => r = c_impl_Monoidal_isMonoidal.res (m, ())) := by
  simp only [c_impl_Monoidal_isMonoidal, okL, T.oks, T.ok, ap, allP, true_and, and_true, implies_true] at hok hpre
  try dsimp only [T.den] at hok
  try dsimp only [T.den] at hpre
  unfold W_impl_Monoidal_isMonoidal
  have bad : ¬ MonP m → (false, ()) = c_impl_Monoidal_isMonoidal.res (m, ()) := fun h => by
    simp only [c_impl_Monoidal_isMonoidal]
    cases hs : monR m with
    | false => rfl
    | true => exact absurd (mon_iff.1 hs) h
  have hcs := fun h => (cat_shape (c := m.1) h).ob
  have hml : m.1.2.1.length ≤ 140737488355328 := by simp only [nb_eq] at hok; omega
  refine ⟨fun h => by grind [cnd, nb_eq, inK64], fun h => by grind [cnd, nb_eq, inK64], fun _ => by rw [inK64]; (try dsimp only); omega, cnd_of (fun hc => bad fun h => ?_) (fun hc => ?_)⟩
  · have h1 := h.cat; have h2 := h.u; have h3 := h.ot; have h4 := h.at_
    simp only [h1, h3, h4, inR] at hc
    grind [cnd, nb_eq, inK64]
  simp only [Bool.or_eq_false_iff, Bool.not_eq_false'] at hc
  obtain ⟨⟨⟨hcat, hu⟩, hot⟩, hat⟩ := hc
  have hu := inR_iff.1 hu
  have S := cat_shape hcat
  have O := tab_at hot
  have A := tab_at hat
  have hlt := S.lt
  have hli := S.li
  have hlc := S.lc
  have hmm := S.m
  have hob := S.ob
  have at1 : ∀ i j : Int, (m.2.2.2.getD i.toNat []).getD j.toNat 0 = atR m.2.2.2 i j := fun _ _ => rfl
  have at2 : ∀ i j : Int, (m.2.2.1.getD i.toNat []).getD j.toNat 0 = atR m.2.2.1 i j := fun _ _ => rfl
  simp only [at1, at2]
  refine loop_ix (n := m.2.2.2.length) (fun f => ∀ f' : Int, 0 ≤ f' → f' < f → ∀ g : Int, 0 ≤ g → g < m.1.2.1.length →
    (m.1.2.1.getD (atR m.2.2.2 f' g).toNat 0 = atR m.2.2.1 (m.1.2.1.getD f'.toNat 0) (m.1.2.1.getD g.toNat 0) ∧ m.1.2.2.1.getD (atR m.2.2.2 f' g).toNat 0 = atR m.2.2.1 (m.1.2.2.1.getD f'.toNat 0) (m.1.2.2.1.getD g.toNat 0)) ∧
    (idR m.1 f' = true → idR m.1 g = true → idR m.1 (atR m.2.2.2 f' g) = true)) (by omega) (by intro y h0 h1; omega) ?_ ?_
  · intro f next f0 f1 hP hn hin
    try dsimp only
    have sf := S.frm f0 (by omega)
    have rf := A.2.1 f f0 (by omega)
    refine cnd_d (fun _ => ⟨f0, f1, ?_⟩) (fun h => absurd f1 h)
    refine loop_ix (n := (m.2.2.2.getD f.toNat []).length) (fun g => ∀ g' : Int, 0 ≤ g' → g' < g →
      (m.1.2.1.getD (atR m.2.2.2 f g').toNat 0 = atR m.2.2.1 (m.1.2.1.getD f.toNat 0) (m.1.2.1.getD g'.toNat 0) ∧ m.1.2.2.1.getD (atR m.2.2.2 f g').toNat 0 = atR m.2.2.1 (m.1.2.2.1.getD f.toNat 0) (m.1.2.2.1.getD g'.toNat 0)) ∧
      (idR m.1 f = true → idR m.1 g' = true → idR m.1 (atR m.2.2.2 f g') = true)) (by omega) (by intro y h0 h1; omega) ?_ ?_
    · intro g next2 g0 g1 hP2 hn2 hin2
      try dsimp only
      have sg := S.frm g0 (by omega)
      have afg := A.2.2 f g f0 (by omega) g0 (by omega)
      have r1 := O.2.1 _ sf.1 sf.2.1
      have r2 := O.2.1 _ sf.2.2.1 sf.2.2.2
      refine cnd_d (fun _ => ⟨g0, g1, afg.1, by omega, by omega, f0, by omega, sf.1, by omega, g0, by omega, sg.1, by omega, f0, by omega, sf.2.2.1, by omega, g0, by omega, sg.2.2.1, by omega, cnd_of (fun hx => bad fun h => ?_) (fun hx => ⟨S, f0, by omega, fun _ => ⟨g0, by omega, S⟩, fun _ => ⟨afg.1, by omega, S⟩, cnd_of (fun hy => bad fun h => ?_) (fun hy => ⟨by rw [inK64]; (try dsimp only); omega, hn2 fun g' a0 a1 => ?_⟩)⟩)⟩) (fun h => absurd g1 h)
      · have := ends_iff.1 h.ends f f0 (by omega) g g0 (by omega)
        rw [this.1, this.2] at hx; simp at hx
      · simp only [Bool.and_eq_true, Bool.not_eq_true'] at hy
        rw [(ids_idR S h.ends).1 h.ids f f0 (by omega) g g0 (by omega) hy.1.1 hy.1.2] at hy
        cases hy.2
      · by_cases e : g' = g
        · rw [e]
          simp only [Bool.not_eq_false', Bool.and_eq_true, beq_iff_eq] at hx
          refine ⟨hx, fun i1 i2 => ?_⟩
          rw [i1, i2] at hy
          simpa using hy
        · exact hP2 g' a0 (by omega)
    · intro next2 hP2 hin2
      refine cnd_d (fun h => absurd h (by dsimp only; omega)) (fun _ => ⟨by rw [inK64]; (try dsimp only); omega, hn fun f' a0 a1 => ?_⟩)
      by_cases e : f' = f
      · rw [e]; exact fun g g0 g1 => hP2 g g0 (by omega)
      · exact hP f' a0 (by omega)
  · intro next hP hin
    have hE : endsR m = true := ends_iff.2 fun f f0 f1 g g0 g1 => (hP f f0 (by omega) g g0 g1).1
    have hI : monIds m = true := (ids_idR S hE).2 fun f f0 f1 g g0 g1 => (hP f f0 (by omega) g g0 g1).2
    have iu := S.idn hu.1 (by omega)
    have e1 : (m.2.2.1.length : Int) = m.1.1 := O.1
    have e2 : (m.2.2.2.length : Int) = m.1.2.1.length := A.1
    refine cnd_d (fun h => absurd h (by dsimp only; omega)) (fun _ => ⟨by rw [e1]; exact hot, by omega, hu.1, by omega, fun _ => ⟨by omega, hu.1⟩, fun _ => ⟨by omega, iu.1, by omega, by rw [e2]; exact hat⟩, fun _ => ⟨hot, hat, S⟩, ?_⟩)
    have hinr : inR m.2.1 0 (m.1.1 - 1) = true := inR_iff.2 hu
    simp only [c_impl_Monoidal_isMonoidal, monR, hcat, hinr, hot, hat, hE, hI, Bool.true_and]
theorem ct_impl_Monoidal_isMonoidal : CtOk Try.prog 108 c_impl_Monoidal_isMonoidal :=
  ct_by (Φ := lkp [(146, c_impl_Category_arrows), (147, c_impl_Category_ends), (143, c_impl_Category_isCategory), (148, c_impl_Category_isIdentity), (150, c_impl_Monoidal_interchanges), (144, c_impl_inRange), (149, c_impl_isAssociative), (145, c_impl_isTable)]) (good_cons ct_impl_Category_arrows (good_cons ct_impl_Category_ends (good_cons ct_impl_Category_isCategory (good_cons ct_impl_Category_isIdentity (good_cons ct_impl_Monoidal_interchanges (good_cons ct_impl_inRange (good_cons ct_impl_isAssociative (good_cons ct_impl_isTable good_nil)))))))) tab_ok (by kernel_rfl) (fn := Try.f108) (c := bodyOf Try.f108) (by kernel_rfl) (by kernel_rfl) (by kernel_rfl) c_impl_Monoidal_isMonoidal rfl (.s .n (.s .n (.s .n (.s (.s .n (.l [(54, (.d (.int .i64)))] [] [0, 3, 52, 53] (.s .n (.s .n (.s (.s .n (.s .n (.l [(61, (.d (.int .i64)))] [] [0, 3, 4, 52, 53, 54, 59, 60] .n))) .n))))) .n)))) (cutL [(16, 31), (2, 38), (10, 49)]) (by kernel_rfl) (by kernel_rfl) k_impl_Monoidal_isMonoidal (by decide) (fun x K => W_impl_Monoidal_isMonoidal x.1 K) w_impl_Monoidal_isMonoidal (fun x h1 h2 => m_impl_Monoidal_isMonoidal x.1 h1 h2)
def exiN (m : MonoidalD) (x : Int × Int) : Bool := !(x.1 == 0 && decide ((m.1.2.1.length : Int) ≤ x.2)) && !(x.1 == 1 && decide (m.1.1 ≤ x.2))
def exiR (m : MonoidalD) (d : List (Int × Int)) : Bool := d.all (exiN m)

def c_impl_Monoidal_exists : Ct := ⟨[(.pt MonoidalT), (.sl endsT)], [false, false], fun x => [], [(false, (.fz .bool))], fun x => (exiR x.1 x.2.1, ()), false, none⟩
def W_impl_Monoidal_exists (m : MonoidalD) (d : List endsD) (K : Bool × Unit → Prop) : Prop := (loopW (S := ((Int × Unit) × Unit)) (fun s => (fun next => ((inK IntKind.i64 s.1.1) → (cnd (decide (s.1.1 < (((List.length d) : Nat) : Int))) (((0 : Int) ≤ s.1.1) ∧ ((s.1.1 < (((List.length d) : Nat) : Int)) ∧ (cnd ((((List.getD d (Int.toNat s.1.1) ((0 : Int), (0 : Int))).1 == (0 : Int)) && (decide ((((List.length m.1.2.1) : Nat) : Int) ≤ (List.getD d (Int.toNat s.1.1) ((0 : Int), (0 : Int))).2))) || (((List.getD d (Int.toNat s.1.1) ((0 : Int), (0 : Int))).1 == (1 : Int)) && (decide (m.1.1 ≤ (List.getD d (Int.toNat s.1.1) ((0 : Int), (0 : Int))).2)))) (K (Bool.false, ())) ((inK IntKind.i64 (s.1.1 + (1 : Int))) ∧ (next (((s.1.1 + (1 : Int)), ()), ())))))) (K (Bool.true, ())))))) (((0 : Int), ()), ()))
theorem w_impl_Monoidal_exists (x : denL c_impl_Monoidal_exists.args) (K : Bool × Unit → Prop) : evF tab (lkp [(146, c_impl_Category_arrows)]) (cutL [(4, 27)]) Try.f110 (bodyOf Try.f110) (.s .n (.s (.s .n (.l [(9, (.d (.int .i64)))] [] [0, 7, 8] .n)) .n)) c_impl_Monoidal_exists x K = W_impl_Monoidal_exists x.1 x.2.1 K := by kernel_rfl
theorem k_impl_Monoidal_exists : okC Try.f110.ntmps (cutL [(4, 27)]) (bodyOf Try.f110) = true := by kernel_rfl
theorem m_impl_Monoidal_exists (m : MonoidalD) (d : List endsD) (hok : allP (okL c_impl_Monoidal_exists.args (m, d, ()))) (hpre : allP (c_impl_Monoidal_exists.pre (m, d, ()))) : W_impl_Monoidal_exists m d (fun r => r = c_impl_Monoidal_exists.res (m, d, ())) := by
  simp only [c_impl_Monoidal_exists, okL, T.oks, T.ok, ap, allP, true_and, and_true, implies_true] at hok hpre
  try dsimp only [T.den] at hok
  try dsimp only [T.den] at hpre
  unfold W_impl_Monoidal_exists
  have hl : d.length ≤ 140737488355328 := by simp only [nb_eq] at hok; omega
  have res : ∀ b, exiR m d = b → (b, ()) = c_impl_Monoidal_exists.res (m, d, ()) := fun b h => by simp only [c_impl_Monoidal_exists, h]
  refine loop_all d (0, 0) (exiN m) ?_ ?_
  · intro i next i0 i1 hno hyes _
    try dsimp only
    refine cnd_d (fun _ => ⟨i0, i1, cnd_of (fun hx => res _ (hno ?_)) (fun hx => ⟨by rw [inK64]; (try dsimp only); omega, hyes ?_⟩)⟩) (fun h => absurd i1 h)
    · exact (by decide : ∀ p q : Bool, (p || q) = true → (!p && !q) = false) _ _ hx
    · exact (by decide : ∀ p q : Bool, (p || q) = false → (!p && !q) = true) _ _ hx
  · intro next h _
    exact cnd_d (fun h => absurd h (Int.lt_irrefl _)) (fun _ => res _ h)
theorem ct_impl_Monoidal_exists : CtOk Try.prog 110 c_impl_Monoidal_exists :=
  ct_by (Φ := lkp [(146, c_impl_Category_arrows)]) (good_cons ct_impl_Category_arrows good_nil) tab_ok (by kernel_rfl) (fn := Try.f110) (c := bodyOf Try.f110) (by kernel_rfl) (by kernel_rfl) (by kernel_rfl) c_impl_Monoidal_exists rfl (.s .n (.s (.s .n (.l [(9, (.d (.int .i64)))] [] [0, 7, 8] .n)) .n)) (cutL [(4, 27)]) (by kernel_rfl) (by kernel_rfl) k_impl_Monoidal_exists (by decide) (fun x K => W_impl_Monoidal_exists x.1 x.2.1 K) w_impl_Monoidal_exists (fun x h1 h2 => m_impl_Monoidal_exists x.1 x.2.1 h1 h2)
def okN (x : Int × Int) : Bool := (x.1 == 0 && inR x.2 0 39) || (x.1 == 1 && inR x.2 0 7) || ((x.1 == 2 || x.1 == 3) && x.2 == 0)
def ariN (x : Int × Int) : Int := if x.1 ≥ 2 then 2 else 0
/-- where what is open ends -/
def endR : List (Int × Int) → Int → Int → Int
  | [], o, i => if o ≤ 0 then i else -1
  | x :: r, o, i => if o ≤ 0 then i else endR r (o - 1 + ariN x) (i + 1)
theorem ari_ge (x : Int × Int) : 0 ≤ ariN x := by unfold ariN; split <;> omega
theorem end_0 (l : List (Int × Int)) (i : Int) : endR l 0 i = i := by cases l <;> rfl
theorem end_ge : ∀ (l : List (Int × Int)) (o i : Int), endR l o i = -1 ∨ (i ≤ endR l o i ∧ endR l o i ≤ i + l.length)
  | [], o, i => by unfold endR; split <;> simp
  | x :: r, o, i => by
    unfold endR
    split
    · right; simp only [List.length_cons]; omega
    · have := end_ge r (o - 1 + ariN x) (i + 1)
      simp only [List.length_cons]
      omega
theorem end_split : ∀ (l : List (Int × Int)) (o o' i : Int), 0 ≤ o → 0 ≤ o' → 0 ≤ i → endR l (o + o') i = if endR l o i = -1 then -1 else endR (l.drop (endR l o i - i).toNat) o' (endR l o i)
  | [], o, o', i, h, h', hi => by
    by_cases e : o = 0
    · subst e; rw [end_0, if_neg (by omega), Int.zero_add]; simp
    · have h1 : endR [] o i = -1 := by unfold endR; rw [if_neg (by omega)]
      rw [h1, if_pos rfl]; unfold endR; rw [if_neg (by omega)]
  | x :: r, o, o', i, h, h', hi => by
    by_cases e : o = 0
    · subst e; rw [end_0, if_neg (by omega), Int.zero_add, show (i - i).toNat = 0 from by omega, List.drop_zero]
    · have h1 : endR (x :: r) o i = endR r (o - 1 + ariN x) (i + 1) := by rw [endR, if_neg (by omega)]
      have h2 : endR (x :: r) (o + o') i = endR r ((o - 1 + ariN x) + o') (i + 1) := by rw [endR, if_neg (by omega), show o + o' - 1 + ariN x = o - 1 + ariN x + o' from by omega]
      have ha := ari_ge x
      rw [h1, h2, end_split r _ o' (i + 1) (by omega) h' (by omega)]
      split
      · rfl
      · rename_i hne
        have hg := end_ge r (o - 1 + ariN x) (i + 1)
        rw [show (endR r (o - 1 + ariN x) (i + 1) - i).toNat = (endR r (o - 1 + ariN x) (i + 1) - (i + 1)).toNat + 1 from by omega, List.drop_succ_cons]

def c_impl_operandEnd : Ct := ⟨[(.sl endsT), (.int .i64)], [false, false], fun x => [0 ≤ x.2.1, x.2.1 ≤ x.1.length], [(false, (.fz (.int .i64)))], fun x => (endR (x.1.drop x.2.1.toNat) 1 x.2.1, ()), false, none⟩
def W_impl_operandEnd (d : List endsD) (i : Int) (K : Int × Unit → Prop) : Prop := (loopW (S := ((Int × (Int × Unit)) × Unit)) (fun s => (fun next => ((inK IntKind.i64 s.1.1) → ((inK IntKind.i64 s.1.2.1) → (cnd (decide ((0 : Int) < s.1.2.1)) (cnd (decide ((((List.length d) : Nat) : Int) ≤ s.1.1)) (K ((-(1 : Int)), ())) (((0 : Int) ≤ s.1.1) ∧ ((s.1.1 < (((List.length d) : Nat) : Int)) ∧ (joinW (S := ((Int × Unit) × Unit)) (fun s1 => ((inK IntKind.i64 s1.1.1) → ((inK IntKind.i64 (s.1.1 + (1 : Int))) ∧ ((inK IntKind.i64 (s1.1.1 - (1 : Int))) ∧ (next (((s.1.1 + (1 : Int)), ((s1.1.1 - (1 : Int)), ())), ())))))) (fun k => (cnd (decide ((2 : Int) ≤ (List.getD d (Int.toNat s.1.1) ((0 : Int), (0 : Int))).1)) ((inK IntKind.i64 (s.1.2.1 + (2 : Int))) ∧ (k (((s.1.2.1 + (2 : Int)), ()), ()))) (k ((s.1.2.1, ()), ())))))))) (K (s.1.1, ()))))))) ((i, ((1 : Int), ())), ()))
theorem w_impl_operandEnd (x : denL c_impl_operandEnd.args) (K : Int × Unit → Prop) : evF tab (lkp []) (cutL []) Try.f151 (bodyOf Try.f151) (.s .n (.s (.s .n (.l [(1, (.d (.int .i64))), (5, (.d (.int .i64)))] [] [0] (.s .n (.s (.s .n (.s (.s .n (.j [(5, (.d (.int .i64)))] [] [0, 1] .n)) .n)) .n)))) .n)) c_impl_operandEnd x K = W_impl_operandEnd x.1 x.2.1 K := by kernel_rfl
theorem k_impl_operandEnd : okC Try.f151.ntmps (cutL []) (bodyOf Try.f151) = true := by kernel_rfl
theorem m_impl_operandEnd (d : List endsD) (i : Int) (hok : allP (okL c_impl_operandEnd.args (d, i, ()))) (hpre : allP (c_impl_operandEnd.pre (d, i, ()))) : W_impl_operandEnd d i (fun r => r = c_impl_operandEnd.res (d, i, ())) := by
  simp only [c_impl_operandEnd, okL, T.oks, T.ok, ap, allP, true_and, and_true, implies_true] at hok hpre
  try dsimp only [T.den] at hok
  try dsimp only [T.den] at hpre
  unfold W_impl_operandEnd
  obtain ⟨hi0, hi1⟩ := hpre
  have hl : d.length ≤ 140737488355328 := by simp only [nb_eq] at hok; omega
  have ha : ∀ x : Int × Int, ariN x = if x.1 ≥ 2 then 2 else 0 := fun _ => rfl
  refine loop_of (fun (s : ((Int × (Int × Unit)) × Unit)) => 0 ≤ s.1.1 ∧ s.1.1 ≤ d.length ∧ 0 ≤ s.1.2.1 ∧ s.1.2.1 ≤ 1 + s.1.1 ∧ endR (d.drop s.1.1.toNat) s.1.2.1 s.1.1 = endR (d.drop i.toNat) 1 i) (fun (s : ((Int × (Int × Unit)) × Unit)) => (d.length - s.1.1).toNat) ?_ ⟨hi0, hi1, by simp, by dsimp only; omega, rfl⟩
  rintro ⟨⟨j, o, _⟩, _⟩ next ⟨h0, h1, h2, h3, h4⟩ hn hin1 hin2
  try dsimp only at h0 h1 h2 h3 h4 hn ⊢
  refine cnd_d (fun hc => cnd_d (fun hd => ?_) (fun hd => ⟨h0, by omega, ?_⟩)) (fun hc => ?_)
  · simp only [c_impl_operandEnd]
    rw [← h4, drop_n d (by omega)]
    unfold endR
    rw [if_neg (by omega)]
  · rw [drop_c d (0, 0) h0 (by omega), endR, if_neg (by omega)] at h4
    have hx := ha (d.getD j.toNat (0, 0))
    refine join_of (fun s1 => s1.1.1 = o + ariN (d.getD j.toNat (0, 0))) (fun s1 hs hin => ?_) (fun k hk => cnd_d (fun hx2 => ⟨by rw [inK64]; (try dsimp only); omega, hk _ ?_⟩) (fun hx2 => hk _ ?_))
    · have hr : 0 ≤ ariN (d.getD j.toNat (0, 0)) ∧ ariN (d.getD j.toNat (0, 0)) ≤ 2 := by rw [hx]; split <;> omega
      refine ⟨by rw [inK64]; (try dsimp only); omega, by rw [inK64, hs]; omega, hn _ ⟨(by first | omega | (dsimp only; omega)), (by first | omega | (dsimp only; omega)), ?_, ?_, ?_⟩ (by first | omega | (dsimp only; omega))⟩
      · try dsimp only; rw [hs]; omega
      · try dsimp only; rw [hs]; omega
      · try dsimp only; rw [hs, show o + ariN (d.getD j.toNat (0, 0)) - 1 = o - 1 + ariN (d.getD j.toNat (0, 0)) from by omega]; exact h4
    · try dsimp only; rw [hx, if_pos (by omega)]
    · try dsimp only; rw [hx, if_neg (by omega)]; omega
  · have ho : o = 0 := by omega
    subst ho
    rw [end_0] at h4
    simp only [c_impl_operandEnd]
    rw [h4]
theorem ct_impl_operandEnd : CtOk Try.prog 151 c_impl_operandEnd :=
  ct_by (Φ := lkp []) good_nil tab_ok (by kernel_rfl) (fn := Try.f151) (c := bodyOf Try.f151) (by kernel_rfl) (by kernel_rfl) (by kernel_rfl) c_impl_operandEnd rfl (.s .n (.s (.s .n (.l [(1, (.d (.int .i64))), (5, (.d (.int .i64)))] [] [0] (.s .n (.s (.s .n (.s (.s .n (.j [(5, (.d (.int .i64)))] [] [0, 1] .n)) .n)) .n)))) .n)) (cutL []) (by kernel_rfl) (by kernel_rfl) k_impl_operandEnd (by decide) (fun x K => W_impl_operandEnd x.1 x.2.1 K) w_impl_operandEnd (fun x h1 h2 => m_impl_operandEnd x.1 x.2.1 h1 h2)
def diagR (d : List (Int × Int)) : Bool := decide (d.length ≤ 40) && d.all okN && (endR d 1 0 == (d.length : Int))

def c_impl_isDiagram : Ct := ⟨[(.sl endsT)], [false], fun x => [], [(false, (.fz .bool))], fun x => (diagR x.1, ()), false, none⟩
def W_impl_isDiagram (d : List endsD) (K : Bool × Unit → Prop) : Prop := (cnd (decide ((40 : Int) < (((List.length d) : Nat) : Int))) (K (Bool.false, ())) (loopW (S := ((Int × Unit) × Unit)) (fun s => (fun next => ((inK IntKind.i64 s.1.1) → (cnd (decide (s.1.1 < (((List.length d) : Nat) : Int))) (((0 : Int) ≤ s.1.1) ∧ ((s.1.1 < (((List.length d) : Nat) : Int)) ∧ (joinW (S := (Unit × Unit)) (fun s1 => ((inK IntKind.i64 (s.1.1 + (1 : Int))) ∧ (next (((s.1.1 + (1 : Int)), ()), ())))) (fun k => (cnd ((List.getD d (Int.toNat s.1.1) ((0 : Int), (0 : Int))).1 == (0 : Int)) (cnd (!(inR (List.getD d (Int.toNat s.1.1) ((0 : Int), (0 : Int))).2 (0 : Int) (39 : Int))) (K (Bool.false, ())) (k ((), ()))) (joinW (S := (Unit × Unit)) (fun s1 => (k ((), ()))) (fun k1 => (cnd ((List.getD d (Int.toNat s.1.1) ((0 : Int), (0 : Int))).1 == (1 : Int)) (cnd (!(inR (List.getD d (Int.toNat s.1.1) ((0 : Int), (0 : Int))).2 (0 : Int) (7 : Int))) (K (Bool.false, ())) (k1 ((), ()))) (joinW (S := ((Unit × (Bool × Unit)) × ((Int × Int) × Unit))) (fun s1 => ((inK IntKind.i64 s1.2.1.1) → ((inK IntKind.i64 s1.2.1.2) → (cnd s1.1.2.1 (cnd (s1.2.1.2 != (0 : Int)) (K (Bool.false, ())) (k1 ((), ()))) (K (Bool.false, ())))))) (fun k2 => (cnd ((List.getD d (Int.toNat s.1.1) ((0 : Int), (0 : Int))).1 == (2 : Int)) (k2 (((), (((List.getD d (Int.toNat s.1.1) ((0 : Int), (0 : Int))).1 == (2 : Int)), ())), ((List.getD d (Int.toNat s.1.1) ((0 : Int), (0 : Int))), ()))) (k2 (((), (((List.getD d (Int.toNat s.1.1) ((0 : Int), (0 : Int))).1 == (3 : Int)), ())), ((List.getD d (Int.toNat s.1.1) ((0 : Int), (0 : Int))), ())))))))))))))) (((0 : Int) ≤ (0 : Int)) ∧ (((0 : Int) ≤ (((List.length d) : Nat) : Int)) ∧ (K (((endR (List.drop (Int.toNat (0 : Int)) d) (1 : Int) (0 : Int)) == (((List.length d) : Nat) : Int)), ())))))))) (((0 : Int), ()), ())))
theorem w_impl_isDiagram (x : denL c_impl_isDiagram.args) (K : Bool × Unit → Prop) : evF tab (lkp [(144, c_impl_inRange), (151, c_impl_operandEnd)]) (cutL []) Try.f109 (bodyOf Try.f109) (.s .n (.s .n (.s (.s .n (.l [(10, (.d (.int .i64)))] [] [0, 8, 9] (.s .n (.s .n (.s (.s .n (.s .n (.s .n (.j [] [] [0, 8, 9, 10] (.s .n (.s .n (.j [] [] [0, 8, 9, 10] (.s .n (.s (.s .n (.j [(4, (.ad 4 [.de])), (28, (.d .bool))] [(4, (.pt (.fz (.p (.int .i64) (.int .i64)))))] [0, 8, 9, 10] .n)) .n))))))))) .n))))) .n))) c_impl_isDiagram x K = W_impl_isDiagram x.1 K := by kernel_rfl
theorem k_impl_isDiagram : okC Try.f109.ntmps (cutL []) (bodyOf Try.f109) = true := by kernel_rfl
theorem m_impl_isDiagram (d : List endsD) (hok : allP (okL c_impl_isDiagram.args (d, ()))) (hpre : allP (c_impl_isDiagram.pre (d, ()))) : W_impl_isDiagram d (fun r => r = c_impl_isDiagram.res (d, ())) := by
  simp only [c_impl_isDiagram, okL, T.oks, T.ok, ap, allP, true_and, and_true, implies_true] at hok hpre
  try dsimp only [T.den] at hok
  try dsimp only [T.den] at hpre
  unfold W_impl_isDiagram
  have hl : d.length ≤ 140737488355328 := by simp only [nb_eq] at hok; omega
  have res : ∀ b, diagR d = b → (b, ()) = c_impl_isDiagram.res (d, ()) := fun b h => by simp only [c_impl_isDiagram, h]
  refine cnd_d (fun hc => res _ ?_) (fun hc => ?_)
  · simp only [diagR, show decide (d.length ≤ 40) = false from decide_eq_false (by omega), Bool.false_and]
  refine loop_all d (0, 0) okN ?_ ?_
  · intro i next i0 i1 hno hyes _
    try dsimp only
    refine cnd_d (fun _ => ⟨i0, i1, ?_⟩) (fun h => absurd i1 h)
    have h1 : okN (d.getD i.toNat (0, 0)) = false → (false, ()) = c_impl_isDiagram.res (d, ()) := fun h => res _ (by simp only [diagR, hno h, Bool.and_false, Bool.false_and])
    have h2 : okN (d.getD i.toNat (0, 0)) = true → inK .i64 (i + 1) ∧ next ((i + 1, ()), ()) := fun h => ⟨by rw [inK64]; (try dsimp only); omega, hyes h⟩
    clear hno hyes res
    generalize d.getD i.toNat (0, 0) = x at *
    generalize ((false, ()) = c_impl_isDiagram.res (d, ())) = A at *
    generalize (inK .i64 (i + 1) ∧ next ((i + 1, ()), ())) = B at *
    have hc : okN x = ((x.1 == 0 && inR x.2 0 39) || (x.1 == 1 && inR x.2 0 7) || ((x.1 == 2 || x.1 == 3) && x.2 == 0)) := rfl
    simp only [joinW]
    obtain ⟨k, y⟩ := x
    try dsimp only at *
    grind [cnd]
  · intro next h _
    refine cnd_d (fun h => absurd h (Int.lt_irrefl _)) (fun _ => ⟨by omega, by omega, res _ ?_⟩)
    simp only [diagR, h, show decide (d.length ≤ 40) = true from decide_eq_true (by omega), Bool.true_and]
    rfl
theorem ct_impl_isDiagram : CtOk Try.prog 109 c_impl_isDiagram :=
  ct_by (Φ := lkp [(144, c_impl_inRange), (151, c_impl_operandEnd)]) (good_cons ct_impl_inRange (good_cons ct_impl_operandEnd good_nil)) tab_ok (by kernel_rfl) (fn := Try.f109) (c := bodyOf Try.f109) (by kernel_rfl) (by kernel_rfl) (by kernel_rfl) c_impl_isDiagram rfl (.s .n (.s .n (.s (.s .n (.l [(10, (.d (.int .i64)))] [] [0, 8, 9] (.s .n (.s .n (.s (.s .n (.s .n (.s .n (.j [] [] [0, 8, 9, 10] (.s .n (.s .n (.j [] [] [0, 8, 9, 10] (.s .n (.s (.s .n (.j [(4, (.ad 4 [.de])), (28, (.d .bool))] [(4, (.pt (.fz (.p (.int .i64) (.int .i64)))))] [0, 8, 9, 10] .n)) .n))))))))) .n))))) .n))) (cutL []) (by kernel_rfl) (by kernel_rfl) k_impl_isDiagram (by decide) (fun x K => W_impl_isDiagram x.1 K) w_impl_isDiagram (fun x h1 h2 => m_impl_isDiagram x.1 h1 h2)
structure DiaP (m : MonoidalD) (d : List (Int × Int)) : Prop where
  mon : MonP m
  ok : d.all okN = true
  ex : exiR m d = true
/-- what the part from i on is, and where it ends -/
def evalR (m : MonoidalD) (d : List (Int × Int)) (i : Nat) : Int × Nat :=
  if h : i < d.length then
    if (d.getD i (0, 0)).1 = 0 then ((d.getD i (0, 0)).2, i + 1)
    else if (d.getD i (0, 0)).1 = 1 then (m.1.2.2.2.1.getD (d.getD i (0, 0)).2.toNat 0, i + 1)
    else if h2 : i < (evalR m d (i + 1)).2 then
      (if (evalR m d (i + 1)).1 < 0 ∨ (evalR m d (evalR m d (i + 1)).2).1 < 0 then -1
        else if (d.getD i (0, 0)).1 = 2 then compR m.1 (evalR m d (i + 1)).1 (evalR m d (evalR m d (i + 1)).2).1
        else atR m.2.2.2 (evalR m d (i + 1)).1 (evalR m d (evalR m d (i + 1)).2).1, (evalR m d (evalR m d (i + 1)).2).2)
    else (-1, i)
  else (-1, i)
termination_by d.length - i
/-- what there is none of is 0 -/
def posR (a : Int) : Int := if a < 0 then 0 else a
/-- what is known of a node -/
theorem DiaP.node {m : MonoidalD} {d : List (Int × Int)} (D : DiaP m d) {i : Nat} (h : i < d.length) :
    ((d.getD i (0, 0)).1 = 0 ∧ 0 ≤ (d.getD i (0, 0)).2 ∧ (d.getD i (0, 0)).2 < m.1.2.1.length) ∨ ((d.getD i (0, 0)).1 = 1 ∧ 0 ≤ (d.getD i (0, 0)).2 ∧ (d.getD i (0, 0)).2 < m.1.1) ∨ (d.getD i (0, 0)).1 = 2 ∨ (d.getD i (0, 0)).1 = 3 := by
  have hm : d.getD i (0, 0) ∈ d := by
    have := getD_mem d (0, 0) (i := (i : Int)) (by omega) (by omega)
    simpa using this
  have h1 := List.all_eq_true.1 D.ok _ hm
  have h2 := List.all_eq_true.1 D.ex _ hm
  generalize d.getD i (0, 0) = x at *
  simp only [okN, exiN, inR, Bool.or_eq_true, Bool.and_eq_true, beq_iff_eq, decide_eq_true_eq, Bool.not_eq_true', Bool.and_eq_false_iff, beq_eq_false_iff_ne, decide_eq_false_iff_not] at h1 h2
  omega
/-- the part from i on ends where it is read to, and is an arrow or none -/
theorem DiaP.val {m : MonoidalD} {d : List (Int × Int)} (D : DiaP m d) : ∀ (n i : Nat), d.length - i ≤ n → endR (d.drop i) 1 i ≠ -1 →
    i < d.length ∧ ((evalR m d i).2 : Int) = endR (d.drop i) 1 i ∧ -1 ≤ (evalR m d i).1 ∧ (evalR m d i).1 < m.1.2.1.length ∧
    ((d.getD i (0, 0)).1 ≠ 0 → (d.getD i (0, 0)).1 ≠ 1 → endR (d.drop (i + 1)) 1 (i + 1 : Nat) ≠ -1 ∧ i < (evalR m d (i + 1)).2 ∧ endR (d.drop (evalR m d (i + 1)).2) 1 (evalR m d (i + 1)).2 ≠ -1)
  | 0, i, hn, he => by
    rw [List.drop_eq_nil_of_le (by omega)] at he
    exact absurd rfl he
  | n + 1, i, hn, he => by
    by_cases hi : d.length ≤ i
    · rw [List.drop_eq_nil_of_le hi] at he
      exact absurd rfl he
    have hi : i < d.length := by omega
    have S := cat_shape D.mon.cat
    have hd : d.drop i = d.getD i (0, 0) :: d.drop (i + 1) := by
      rw [List.getD_eq_getElem?_getD, List.getElem?_eq_getElem hi]; exact List.drop_eq_getElem_cons hi
    have hN := D.node hi
    have he2 : endR (d.drop i) 1 i = endR (d.drop (i + 1)) (ariN (d.getD i (0, 0))) (i + 1 : Nat) := by
      rw [hd, endR, if_neg (by omega), Int.sub_self, Int.zero_add]; rfl
    rw [he2] at he ⊢
    by_cases h0 : (d.getD i (0, 0)).1 = 0
    · have ha : ariN (d.getD i (0, 0)) = 0 := by unfold ariN; rw [if_neg (by omega)]
      rw [ha, end_0] at he ⊢
      have hv : evalR m d i = ((d.getD i (0, 0)).2, i + 1) := by rw [evalR, dif_pos hi, if_pos h0]
      rw [hv]
      exact ⟨hi, rfl, by dsimp only; omega, by dsimp only; omega, fun h _ => absurd h0 h⟩
    by_cases h1 : (d.getD i (0, 0)).1 = 1
    · have ha : ariN (d.getD i (0, 0)) = 0 := by unfold ariN; rw [if_neg (by omega)]
      rw [ha, end_0] at he ⊢
      have hv : evalR m d i = (m.1.2.2.2.1.getD (d.getD i (0, 0)).2.toNat 0, i + 1) := by rw [evalR, dif_pos hi, if_neg h0, if_pos h1]
      have hx := S.idn (x := (d.getD i (0, 0)).2) (by omega) (by omega)
      rw [hv]
      exact ⟨hi, rfl, by dsimp only; omega, by dsimp only; omega, fun _ h => absurd h1 h⟩
    have ha : ariN (d.getD i (0, 0)) = 1 + 1 := by unfold ariN; rw [if_pos (by omega)]; rfl
    rw [ha, end_split _ 1 1 _ (by omega) (by omega) (by omega)] at he ⊢
    by_cases e1 : endR (d.drop (i + 1)) 1 (i + 1 : Nat) = -1
    · rw [if_pos e1] at he; exact absurd rfl he
    rw [if_neg e1] at he ⊢
    obtain ⟨a1, a2, a3, a4, _⟩ := DiaP.val D n (i + 1) (by omega) e1
    have hg := end_ge (d.drop (i + 1)) 1 (i + 1 : Nat)
    have hj : i < (evalR m d (i + 1)).2 := by omega
    rw [← a2, List.drop_drop, show i + 1 + ((((evalR m d (i + 1)).2 : Nat) : Int) - ((i + 1 : Nat) : Int)).toNat = (evalR m d (i + 1)).2 from by omega] at he ⊢
    obtain ⟨b1, b2, b3, b4, _⟩ := DiaP.val D n (evalR m d (i + 1)).2 (by omega) he
    have hv : evalR m d i = (if (evalR m d (i + 1)).1 < 0 ∨ (evalR m d (evalR m d (i + 1)).2).1 < 0 then -1
        else if (d.getD i (0, 0)).1 = 2 then compR m.1 (evalR m d (i + 1)).1 (evalR m d (evalR m d (i + 1)).2).1
        else atR m.2.2.2 (evalR m d (i + 1)).1 (evalR m d (evalR m d (i + 1)).2).1, (evalR m d (evalR m d (i + 1)).2).2) := by
      rw [evalR, dif_pos hi, if_neg h0, if_neg h1, dif_pos hj]
    have hA := tab_at D.mon.at_
    refine ⟨hi, by rw [hv]; exact b2, ?_, ?_, fun _ _ => ⟨by rw [a2]; exact e1, hj, he⟩⟩
    · rw [hv]; dsimp only
      split
      · omega
      · rename_i hh
        split
        · have y := @ShapeP.yes m.1 S (evalR m d (i + 1)).1 (evalR m d (evalR m d (i + 1)).2).1 (by omega) a4 (by omega) b4
          have z := @ShapeP.no m.1 S (evalR m d (i + 1)).1 (evalR m d (evalR m d (i + 1)).2).1 (by omega) a4 (by omega) b4
          by_cases e : m.1.2.2.1.getD (evalR m d (i + 1)).1.toNat 0 = m.1.2.1.getD (evalR m d (evalR m d (i + 1)).2).1.toNat 0
          · have := y e; omega
          · have := z e; omega
        · have := hA.2.2 _ _ (by omega) a4 (by omega) b4; omega
    · rw [hv]; dsimp only
      split
      · omega
      · rename_i hh
        split
        · have y := @ShapeP.yes m.1 S (evalR m d (i + 1)).1 (evalR m d (evalR m d (i + 1)).2).1 (by omega) a4 (by omega) b4
          have z := @ShapeP.no m.1 S (evalR m d (i + 1)).1 (evalR m d (evalR m d (i + 1)).2).1 (by omega) a4 (by omega) b4
          by_cases e : m.1.2.2.1.getD (evalR m d (i + 1)).1.toNat 0 = m.1.2.1.getD (evalR m d (evalR m d (i + 1)).2).1.toNat 0
          · have := y e; omega
          · have := z e; omega
        · have := hA.2.2 _ _ (by omega) a4 (by omega) b4; omega

def c_impl_Monoidal_valueOf : Ct := ⟨[(.pt MonoidalT), (.sl endsT), (.int .i64)], [false, false, false], fun x => [DiaP x.1 x.2.1, 0 ≤ x.2.2.1, endR (x.2.1.drop x.2.2.1.toNat) 1 x.2.2.1 ≠ -1], [(false, (.fz (.int .i64))), (false, (.fz (.int .i64)))], fun x => ((evalR x.1 x.2.1 x.2.2.1.toNat).1, ((evalR x.1 x.2.1 x.2.2.1.toNat).2 : Int), ()), false, none⟩
def q_impl_Monoidal_valueOf (n : Nat) : Ct := ⟨[(.pt MonoidalT), (.sl endsT), (.int .i64)], [false, false, false], fun x => [x.2.1.length - x.2.2.1.toNat < n, DiaP x.1 x.2.1, 0 ≤ x.2.2.1, endR (x.2.1.drop x.2.2.1.toNat) 1 x.2.2.1 ≠ -1], [(false, (.fz (.int .i64))), (false, (.fz (.int .i64)))], fun x => ((evalR x.1 x.2.1 x.2.2.1.toNat).1, ((evalR x.1 x.2.1 x.2.2.1.toNat).2 : Int), ()), false, none⟩
def W_impl_Monoidal_valueOf (n : Nat) (m : MonoidalD) (d : List endsD) (i : Int) (K : Int × Int × Unit → Prop) : Prop := (((0 : Int) ≤ i) ∧ ((i < (((List.length d) : Nat) : Int)) ∧ (cnd ((List.getD d (Int.toNat i) ((0 : Int), (0 : Int))).1 == (0 : Int)) ((inK IntKind.i64 (i + (1 : Int))) ∧ (K ((List.getD d (Int.toNat i) ((0 : Int), (0 : Int))).2, ((i + (1 : Int)), ())))) (cnd ((List.getD d (Int.toNat i) ((0 : Int), (0 : Int))).1 == (1 : Int)) (((0 : Int) ≤ (List.getD d (Int.toNat i) ((0 : Int), (0 : Int))).2) ∧ (((List.getD d (Int.toNat i) ((0 : Int), (0 : Int))).2 < (((List.length m.1.2.2.2.1) : Nat) : Int)) ∧ ((inK IntKind.i64 (i + (1 : Int))) ∧ (K ((List.getD m.1.2.2.2.1 (Int.toNat (List.getD d (Int.toNat i) ((0 : Int), (0 : Int))).2) (0 : Int)), ((i + (1 : Int)), ())))))) ((inK IntKind.i64 (i + (1 : Int))) ∧ ((((List.length d) - (Int.toNat (i + (1 : Int)))) < n) ∧ ((DiaP m d) ∧ (((0 : Int) ≤ (i + (1 : Int))) ∧ (((endR (List.drop (Int.toNat (i + (1 : Int))) d) (1 : Int) (i + (1 : Int))) ≠ (-(1 : Int))) ∧ ((((List.length d) - (Int.toNat (((evalR m d (Int.toNat (i + (1 : Int)))).2 : Nat) : Int))) < n) ∧ ((DiaP m d) ∧ (((0 : Int) ≤ (((evalR m d (Int.toNat (i + (1 : Int)))).2 : Nat) : Int)) ∧ (((endR (List.drop (Int.toNat (((evalR m d (Int.toNat (i + (1 : Int)))).2 : Nat) : Int)) d) (1 : Int) (((evalR m d (Int.toNat (i + (1 : Int)))).2 : Nat) : Int)) ≠ (-(1 : Int))) ∧ (cnd ((decide ((evalR m d (Int.toNat (i + (1 : Int)))).1 < (0 : Int))) || (decide ((evalR m d (Int.toNat (((evalR m d (Int.toNat (i + (1 : Int)))).2 : Nat) : Int))).1 < (0 : Int)))) (K ((-(1 : Int)), ((((evalR m d (Int.toNat (((evalR m d (Int.toNat (i + (1 : Int)))).2 : Nat) : Int))).2 : Nat) : Int), ()))) (cnd ((List.getD d (Int.toNat i) ((0 : Int), (0 : Int))).1 == (2 : Int)) (((0 : Int) ≤ (evalR m d (Int.toNat (i + (1 : Int)))).1) ∧ (((evalR m d (Int.toNat (i + (1 : Int)))).1 < (((List.length m.1.2.2.2.2) : Nat) : Int)) ∧ (((0 : Int) ≤ (evalR m d (Int.toNat (((evalR m d (Int.toNat (i + (1 : Int)))).2 : Nat) : Int))).1) ∧ (((evalR m d (Int.toNat (((evalR m d (Int.toNat (i + (1 : Int)))).2 : Nat) : Int))).1 < (((List.length (List.getD m.1.2.2.2.2 (Int.toNat (evalR m d (Int.toNat (i + (1 : Int)))).1) ([] : List Int))) : Nat) : Int)) ∧ (K ((compR m.1 (evalR m d (Int.toNat (i + (1 : Int)))).1 (evalR m d (Int.toNat (((evalR m d (Int.toNat (i + (1 : Int)))).2 : Nat) : Int))).1), ((((evalR m d (Int.toNat (((evalR m d (Int.toNat (i + (1 : Int)))).2 : Nat) : Int))).2 : Nat) : Int), ()))))))) (((0 : Int) ≤ (evalR m d (Int.toNat (i + (1 : Int)))).1) ∧ (((evalR m d (Int.toNat (i + (1 : Int)))).1 < (((List.length m.2.2.2) : Nat) : Int)) ∧ (((0 : Int) ≤ (evalR m d (Int.toNat (((evalR m d (Int.toNat (i + (1 : Int)))).2 : Nat) : Int))).1) ∧ (((evalR m d (Int.toNat (((evalR m d (Int.toNat (i + (1 : Int)))).2 : Nat) : Int))).1 < (((List.length (List.getD m.2.2.2 (Int.toNat (evalR m d (Int.toNat (i + (1 : Int)))).1) ([] : List Int))) : Nat) : Int)) ∧ (K ((List.getD (List.getD m.2.2.2 (Int.toNat (evalR m d (Int.toNat (i + (1 : Int)))).1) ([] : List Int)) (Int.toNat (evalR m d (Int.toNat (((evalR m d (Int.toNat (i + (1 : Int)))).2 : Nat) : Int))).1) (0 : Int)), ((((evalR m d (Int.toNat (((evalR m d (Int.toNat (i + (1 : Int)))).2 : Nat) : Int))).2 : Nat) : Int), ()))))))))))))))))))))))
theorem w_impl_Monoidal_valueOf (n : Nat) (x : denL c_impl_Monoidal_valueOf.args) (K : Int × Int × Unit → Prop) : evF tab (lkp [(111, q_impl_Monoidal_valueOf n), (132, c_impl_Category_then)]) (cutL [(6, 13)]) Try.f111 (bodyOf Try.f111) .n (q_impl_Monoidal_valueOf (n + 1)) x K = W_impl_Monoidal_valueOf n x.1 x.2.1 x.2.2.1 K := by kernel_rfl
theorem k_impl_Monoidal_valueOf : okC Try.f111.ntmps (cutL [(6, 13)]) (bodyOf Try.f111) = true := by kernel_rfl
theorem m_impl_Monoidal_valueOf (n : Nat) (m : MonoidalD) (d : List endsD) (i : Int) (hok : allP (okL c_impl_Monoidal_valueOf.args (m, d, i, ()))) (hpre : allP ((q_impl_Monoidal_valueOf (n + 1)).pre (m, d, i, ()))) : W_impl_Monoidal_valueOf n m d i (fun r => r = c_impl_Monoidal_valueOf.res (m, d, i, ())) := by
  simp only [c_impl_Monoidal_valueOf, q_impl_Monoidal_valueOf, okL, T.oks, T.ok, ap, allP, true_and, and_true, implies_true] at hok hpre
  try dsimp only [T.den] at hok
  try dsimp only [T.den] at hpre
  unfold W_impl_Monoidal_valueOf
  obtain ⟨hn, D, i0, he⟩ := hpre
  have hi : ((i.toNat : Nat) : Int) = i := by omega
  have hV := D.val (d.length - i.toNat) i.toNat (Nat.le_refl _) (by rw [hi]; exact he)
  obtain ⟨v1, v2, v3, v4, v5⟩ := hV
  have hN := D.node v1
  have S := cat_shape D.mon.cat
  have A := tab_at D.mon.at_
  have hli := S.li
  have hlc := S.lc
  have hl : d.length ≤ 140737488355328 := by simp only [nb_eq] at hok; omega
  have e1 : (i + 1).toNat = i.toNat + 1 := by omega
  have e2 : ((i.toNat + 1 : Nat) : Int) = i + 1 := by omega
  simp only [e1, Int.toNat_natCast]
  have hu := evalR.eq_1 m d i.toNat
  rw [dif_pos v1] at hu
  refine ⟨i0, by omega, cnd_of (fun h0 => ?_) (fun h0 => cnd_of (fun h1 => ?_) (fun h1 => ?_))⟩
  · rw [beq_iff_eq] at h0
    rw [if_pos h0] at hu
    refine ⟨by rw [inK64]; (try dsimp only); omega, ?_⟩
    simp only [c_impl_Monoidal_valueOf, q_impl_Monoidal_valueOf, hu, e2]
  · rw [beq_iff_eq] at h1
    rw [beq_eq_false_iff_ne] at h0
    rw [if_neg h0, if_pos h1] at hu
    refine ⟨by omega, by omega, by rw [inK64]; (try dsimp only); omega, ?_⟩
    simp only [c_impl_Monoidal_valueOf, q_impl_Monoidal_valueOf, hu, e2]
  rw [beq_eq_false_iff_ne] at h0 h1
  obtain ⟨w1, w2, w3⟩ := v5 h0 h1
  rw [if_neg h0, if_neg h1, dif_pos w2] at hu
  obtain ⟨a1, a2, a3, a4, _⟩ := D.val _ (i.toNat + 1) (Nat.le_refl _) w1
  obtain ⟨b1, b2, b3, b4, _⟩ := D.val _ _ (Nat.le_refl _) w3
  rw [e2] at w1
  have r1 := S.row (evalR m d (i.toNat + 1)).1
  have r2 := A.2.1 (evalR m d (i.toNat + 1)).1
  have hA := A.1
  have f1 : d.length - (i.toNat + 1) < n := by clear hN v5 hok r1 r2 hu; omega
  have f2 : d.length - (evalR m d (i.toNat + 1)).2 < n := by clear hN v5 hok r1 r2 hu; omega
  have f3 : inK .i64 (i + 1) := by clear hN v5 hok r1 r2 hu; rw [inK64]; omega
  refine ⟨f3, f1, D, by clear hN v5 hok r1 r2 hu; omega, w1, f2, D, Int.natCast_nonneg _, w3, cnd_of (fun hx => ?_) (fun hx => cnd_of (fun h2 => ?_) (fun h2 => ?_))⟩
  · simp only [Bool.or_eq_true, decide_eq_true_eq] at hx
    rw [if_pos hx] at hu
    simp only [c_impl_Monoidal_valueOf, q_impl_Monoidal_valueOf, hu]
  · simp only [Bool.or_eq_false_iff, decide_eq_false_iff_not] at hx
    rw [beq_iff_eq] at h2
    rw [if_neg (by omega), if_pos h2] at hu
    have := r1 (by omega) a4
    refine ⟨by omega, by omega, by omega, by omega, ?_⟩
    simp only [c_impl_Monoidal_valueOf, q_impl_Monoidal_valueOf, hu]
  · simp only [Bool.or_eq_false_iff, decide_eq_false_iff_not] at hx
    rw [beq_eq_false_iff_ne] at h2
    rw [if_neg (by omega), if_neg h2] at hu
    have := r2 (by omega) a4
    refine ⟨by omega, by omega, by omega, by omega, ?_⟩
    simp only [c_impl_Monoidal_valueOf, q_impl_Monoidal_valueOf, hu]
    rfl
theorem ct_impl_Monoidal_valueOf : CtOk Try.prog 111 c_impl_Monoidal_valueOf := by
  refine ct_rec (q := fun n => (q_impl_Monoidal_valueOf n).pre) (callable_of (fn := Try.f111) (c := bodyOf Try.f111) (by kernel_rfl) (by kernel_rfl) (by kernel_rfl)) (fun x h => Nat.not_lt_zero _ h.1) (fun x h => ?_) (fun n ih => ?_)
  · exact ⟨_, Nat.lt_succ_self _, h⟩
  · exact ct_by (Φ := lkp [(111, q_impl_Monoidal_valueOf n), (132, c_impl_Category_then)]) (good_cons ih (good_cons ct_impl_Category_then good_nil)) tab_ok (by kernel_rfl) (fn := Try.f111) (c := bodyOf Try.f111) (by kernel_rfl) (by kernel_rfl) (by kernel_rfl) (q_impl_Monoidal_valueOf (n + 1)) rfl .n (cutL [(6, 13)]) (by kernel_rfl) (by kernel_rfl) k_impl_Monoidal_valueOf (Nat.le_of_ble_eq_true rfl) (fun x K => W_impl_Monoidal_valueOf n x.1 x.2.1 x.2.2.1 K) (w_impl_Monoidal_valueOf n) (fun x h1 h2 => m_impl_Monoidal_valueOf n x.1 x.2.1 x.2.2.1 h1 h2)
def dcodeR (m : MonoidalD) (d : List (Int × Int)) : Int × Int := if monR m = true ∧ diagR d = true then (if exiR m d = true then (if (evalR m d 0).1 < 0 then (0, 5) else ((evalR m d 0).1, 0)) else (0, 2)) else (0, 1)


def c_impl_diagramCode : Ct := ⟨[(.pt MonoidalT), (.sl endsT)], [false, false], fun x => [], [(false, (.fz (.int .i64))), (false, (.fz (.int .i64)))], fun x => ((dcodeR x.1 x.2.1).1, (dcodeR x.1 x.2.1).2, ()), false, none⟩
def W_impl_diagramCode (m : MonoidalD) (d : List endsD) (K : Int × Int × Unit → Prop) : Prop := (cnd ((!(monR m)) || (!(diagR d))) (K ((0 : Int), ((1 : Int), ()))) (cnd (!(exiR m d)) (K ((0 : Int), ((2 : Int), ()))) ((DiaP m d) ∧ (((0 : Int) ≤ (0 : Int)) ∧ (((endR (List.drop (Int.toNat (0 : Int)) d) (1 : Int) (0 : Int)) ≠ (-(1 : Int))) ∧ (cnd (decide ((evalR m d (Int.toNat (0 : Int))).1 < (0 : Int))) (K ((0 : Int), ((5 : Int), ()))) (K ((evalR m d (Int.toNat (0 : Int))).1, ((0 : Int), ())))))))))
theorem w_impl_diagramCode (x : denL c_impl_diagramCode.args) (K : Int × Int × Unit → Prop) : evF tab (lkp [(110, c_impl_Monoidal_exists), (108, c_impl_Monoidal_isMonoidal), (111, c_impl_Monoidal_valueOf), (109, c_impl_isDiagram)]) (cutL []) Try.f71 (bodyOf Try.f71) .n c_impl_diagramCode x K = W_impl_diagramCode x.1 x.2.1 K := by kernel_rfl
theorem k_impl_diagramCode : okC Try.f71.ntmps (cutL []) (bodyOf Try.f71) = true := by kernel_rfl
theorem m_impl_diagramCode (m : MonoidalD) (d : List endsD) (hok : allP (okL c_impl_diagramCode.args (m, d, ()))) (hpre : allP (c_impl_diagramCode.pre (m, d, ()))) : W_impl_diagramCode m d (fun r => r = c_impl_diagramCode.res (m, d, ())) := by
  simp only [c_impl_diagramCode, okL, T.oks, T.ok, ap, allP, true_and, and_true, implies_true] at hok hpre
  try dsimp only [T.den] at hok
  try dsimp only [T.den] at hpre
  unfold W_impl_diagramCode
  have res : ∀ x y, dcodeR m d = (x, y) → (x, y, ()) = c_impl_diagramCode.res (m, d, ()) := fun x y h => by simp only [c_impl_diagramCode, h]
  refine cnd_of (fun hx => res _ _ ?_) (fun hx => cnd_of (fun hy => res _ _ ?_) (fun hy => ?_))
  · simp only [Bool.or_eq_true, Bool.not_eq_true'] at hx
    unfold dcodeR
    rw [if_neg (by rintro ⟨h1, h2⟩; rw [h1, h2] at hx; simp at hx)]
  · simp only [Bool.or_eq_false_iff, Bool.not_eq_false'] at hx
    simp only [Bool.not_eq_true'] at hy
    unfold dcodeR
    rw [if_pos hx, if_neg (by rw [hy]; simp)]
  · simp only [Bool.or_eq_false_iff, Bool.not_eq_false'] at hx
    simp only [Bool.not_eq_false'] at hy
    have hd := hx.2
    simp only [diagR, Bool.and_eq_true, beq_iff_eq] at hd
    have h1 : dcodeR m d = if (evalR m d 0).1 < 0 then (0, 5) else ((evalR m d 0).1, 0) := by unfold dcodeR; rw [if_pos hx, if_pos hy]
    refine ⟨⟨mon_iff.1 hx.1, hd.1.2, hy⟩, by omega, ?_, cnd_d (fun hz => ?_) (fun hz => ?_)⟩
    · rw [show Int.toNat 0 = 0 from rfl, List.drop_zero, hd.2]; omega
    · exact res _ _ (by rw [h1]; exact if_pos hz)
    · exact res _ _ (by rw [h1]; exact if_neg hz)
theorem ct_impl_diagramCode : CtOk Try.prog 71 c_impl_diagramCode :=
  ct_by (Φ := lkp [(110, c_impl_Monoidal_exists), (108, c_impl_Monoidal_isMonoidal), (111, c_impl_Monoidal_valueOf), (109, c_impl_isDiagram)]) (good_cons ct_impl_Monoidal_exists (good_cons ct_impl_Monoidal_isMonoidal (good_cons ct_impl_Monoidal_valueOf (good_cons ct_impl_isDiagram good_nil)))) tab_ok (by kernel_rfl) (fn := Try.f71) (c := bodyOf Try.f71) (by kernel_rfl) (by kernel_rfl) (by kernel_rfl) c_impl_diagramCode rfl .n (cutL []) (by kernel_rfl) (by kernel_rfl) k_impl_diagramCode (by decide) (fun x K => W_impl_diagramCode x.1 x.2.1 K) w_impl_diagramCode (fun x h1 h2 => m_impl_diagramCode x.1 x.2.1 h1 h2)
def c_impl_DiagramValue : Ct := ⟨[MonoidalT, (.sl endsT)], [true, false], fun x => [], [(false, (.fz (.int .i64))), (false, (.fz (.int .i64)))], fun x => ((dcodeR x.1 x.2.1).1, (dcodeR x.1 x.2.1).2, ()), false, none⟩
def W_impl_DiagramValue (m : MonoidalD) (d : List endsD) (K : Int × Int × Unit → Prop) : Prop := (K ((dcodeR m d).1, ((dcodeR m d).2, ())))
theorem w_impl_DiagramValue (x : denL c_impl_DiagramValue.args) (K : Int × Int × Unit → Prop) : evF tab (lkp [(71, c_impl_diagramCode)]) (cutL []) Try.f28 (bodyOf Try.f28) .n c_impl_DiagramValue x K = W_impl_DiagramValue x.1 x.2.1 K := by kernel_rfl
theorem k_impl_DiagramValue : okC Try.f28.ntmps (cutL []) (bodyOf Try.f28) = true := by kernel_rfl
theorem m_impl_DiagramValue (m : MonoidalD) (d : List endsD) (hok : allP (okL c_impl_DiagramValue.args (m, d, ()))) (hpre : allP (c_impl_DiagramValue.pre (m, d, ()))) : W_impl_DiagramValue m d (fun r => r = c_impl_DiagramValue.res (m, d, ())) := by
  simp only [c_impl_DiagramValue, okL, T.oks, T.ok, ap, allP, true_and, and_true, implies_true] at hok hpre
  try dsimp only [T.den] at hok
  try dsimp only [T.den] at hpre
  unfold W_impl_DiagramValue
  rfl
theorem ct_impl_DiagramValue : CtOk Try.prog 28 c_impl_DiagramValue :=
  ct_by (Φ := lkp [(71, c_impl_diagramCode)]) (good_cons ct_impl_diagramCode good_nil) tab_ok (by kernel_rfl) (fn := Try.f28) (c := bodyOf Try.f28) (by kernel_rfl) (by kernel_rfl) (by kernel_rfl) c_impl_DiagramValue rfl .n (cutL []) (by kernel_rfl) (by kernel_rfl) k_impl_DiagramValue (by decide) (fun x K => W_impl_DiagramValue x.1 x.2.1 K) w_impl_DiagramValue (fun x h1 h2 => m_impl_DiagramValue x.1 x.2.1 h1 h2)
def c_laws_eqDiagramNode : Ct := ⟨[endsT, endsT], [true, true], fun x => [], [(false, (.fz .bool))], fun x => (eqR endsT x.1 x.2.1, ()), false, none⟩
def W_laws_eqDiagramNode (a : endsD) (b : endsD) (K : Bool × Unit → Prop) : Prop := (cnd (a.1 != b.1) (K (Bool.false, ())) (cnd (a.2 != b.2) (K (Bool.false, ())) (K (Bool.true, ()))))
theorem w_laws_eqDiagramNode (x : denL c_laws_eqDiagramNode.args) (K : Bool × Unit → Prop) : evF tab (lkp []) (cutL []) Try.f72 (bodyOf Try.f72) .n c_laws_eqDiagramNode x K = W_laws_eqDiagramNode x.1 x.2.1 K := by kernel_rfl
theorem k_laws_eqDiagramNode : okC Try.f72.ntmps (cutL []) (bodyOf Try.f72) = true := by kernel_rfl
theorem m_laws_eqDiagramNode (a : endsD) (b : endsD) (hok : allP (okL c_laws_eqDiagramNode.args (a, b, ()))) (hpre : allP (c_laws_eqDiagramNode.pre (a, b, ()))) : W_laws_eqDiagramNode a b (fun r => r = c_laws_eqDiagramNode.res (a, b, ())) := by
  simp only [c_laws_eqDiagramNode, okL, T.oks, T.ok, ap, allP, true_and, and_true, implies_true] at hok hpre
  try dsimp only [T.den] at hok
  try dsimp only [T.den] at hpre
  unfold W_laws_eqDiagramNode
  simp only [c_laws_eqDiagramNode, eqR_p, eqR_int, eqR_bool]
  grind [cnd, nb_eq, inK64]
theorem ct_laws_eqDiagramNode : CtOk Try.prog 72 c_laws_eqDiagramNode :=
  ct_by (Φ := lkp []) good_nil tab_ok (by kernel_rfl) (fn := Try.f72) (c := bodyOf Try.f72) (by kernel_rfl) (by kernel_rfl) (by kernel_rfl) c_laws_eqDiagramNode rfl .n (cutL []) (by kernel_rfl) (by kernel_rfl) k_laws_eqDiagramNode (by decide) (fun x K => W_laws_eqDiagramNode x.1 x.2.1 K) w_laws_eqDiagramNode (fun x h1 h2 => m_laws_eqDiagramNode x.1 x.2.1 h1 h2)
def c_laws_eqDiagramNodeS : Ct := ⟨[(.sl endsT), (.sl endsT)], [false, false], fun x => [], [(false, (.fz .bool))], fun x => (eqR (.sl endsT) x.1 x.2.1, ()), false, none⟩
def W_laws_eqDiagramNodeS (a : List endsD) (b : List endsD) (K : Bool × Unit → Prop) : Prop := (cnd ((((List.length a) : Nat) : Int) != (((List.length b) : Nat) : Int)) (K (Bool.false, ())) (loopW (S := ((Int × Unit) × Unit)) (fun s => (fun next => ((inK IntKind.i64 s.1.1) → (cnd (decide (s.1.1 < (((List.length a) : Nat) : Int))) (((0 : Int) ≤ s.1.1) ∧ ((s.1.1 < (((List.length a) : Nat) : Int)) ∧ (((0 : Int) ≤ s.1.1) ∧ ((s.1.1 < (((List.length b) : Nat) : Int)) ∧ (cnd (!(eqR endsT (List.getD a (Int.toNat s.1.1) ((0 : Int), (0 : Int))) (List.getD b (Int.toNat s.1.1) ((0 : Int), (0 : Int))))) (K (Bool.false, ())) ((inK IntKind.i64 (s.1.1 + (1 : Int))) ∧ (next (((s.1.1 + (1 : Int)), ()), ())))))))) (K (Bool.true, ())))))) (((0 : Int), ()), ())))
theorem w_laws_eqDiagramNodeS (x : denL c_laws_eqDiagramNodeS.args) (K : Bool × Unit → Prop) : evF tab (lkp [(72, c_laws_eqDiagramNode)]) (cutL [(6, 10)]) Try.f30 (bodyOf Try.f30) (.s .n (.s .n (.s (.s .n (.l [(5, (.d (.int .i64)))] [] [0, 1] .n)) .n))) c_laws_eqDiagramNodeS x K = W_laws_eqDiagramNodeS x.1 x.2.1 K := by kernel_rfl
theorem k_laws_eqDiagramNodeS : okC Try.f30.ntmps (cutL [(6, 10)]) (bodyOf Try.f30) = true := by kernel_rfl
theorem m_laws_eqDiagramNodeS (a : List endsD) (b : List endsD) (hok : allP (okL c_laws_eqDiagramNodeS.args (a, b, ()))) (hpre : allP (c_laws_eqDiagramNodeS.pre (a, b, ()))) : W_laws_eqDiagramNodeS a b (fun r => r = c_laws_eqDiagramNodeS.res (a, b, ())) := by
  simp only [c_laws_eqDiagramNodeS, okL, T.oks, T.ok, ap, allP, true_and, and_true, implies_true] at hok hpre
  try dsimp only [T.den] at hok
  try dsimp only [T.den] at hpre
  unfold W_laws_eqDiagramNodeS
  refine cnd_of (fun hc => ?_) (fun hc => ?_)
  · simp only [c_laws_eqDiagramNodeS, Prod.mk.injEq, and_true]; rw [eqR_f]; rintro rfl; simp at hc
  have hl : a.length = b.length := by simp at hc; omega
  refine loop_of (fun (s : ((Int × Unit) × Unit)) => 0 ≤ s.1.1 ∧ s.1.1 ≤ a.length ∧ a.take s.1.1.toNat = b.take s.1.1.toNat) (fun (s : ((Int × Unit) × Unit)) => (a.length - s.1.1).toNat) ?_ (by simp)
  rintro ⟨⟨i, _⟩, _⟩ next ⟨h0, h1, h2⟩ hn hin
  simp only at h0 h1 h2 hn ⊢
  refine cnd_d (fun hc => ?_) (fun hc => ?_)
  · have ha := take_c a ((0 : Int), (0 : Int)) h0 hc
    have hb := take_c b ((0 : Int), (0 : Int)) h0 (by omega)
    refine ⟨by omega, by omega, by omega, by omega, cnd_of (fun hd => ?_) (fun hd => ?_)⟩
    · simp only [c_laws_eqDiagramNodeS, Prod.mk.injEq, and_true]; rw [eqR_f]; rintro rfl; simp at hd
    · refine ⟨by grind [cnd, nb_eq, inK64], hn _ ⟨(by first | omega | (dsimp only; omega)), (by first | omega | (dsimp only; omega)), ?_⟩ (by first | omega | (dsimp only; omega))⟩
      simp only [Bool.not_eq_false', eqR_iff, bne_eq_false_iff_eq] at hd
      simp only [ha, hb, h2, hd]
  · rw [take_n a (by omega), take_n b (by omega)] at h2
    simp [h2, c_laws_eqDiagramNodeS]
theorem ct_laws_eqDiagramNodeS : CtOk Try.prog 30 c_laws_eqDiagramNodeS :=
  ct_by (Φ := lkp [(72, c_laws_eqDiagramNode)]) (good_cons ct_laws_eqDiagramNode good_nil) tab_ok (by kernel_rfl) (fn := Try.f30) (c := bodyOf Try.f30) (by kernel_rfl) (by kernel_rfl) (by kernel_rfl) c_laws_eqDiagramNodeS rfl (.s .n (.s .n (.s (.s .n (.l [(5, (.d (.int .i64)))] [] [0, 1] .n)) .n))) (cutL [(6, 10)]) (by kernel_rfl) (by kernel_rfl) k_laws_eqDiagramNodeS (by decide) (fun x K => W_laws_eqDiagramNodeS x.1 x.2.1 K) w_laws_eqDiagramNodeS (fun x h1 h2 => m_laws_eqDiagramNodeS x.1 x.2.1 h1 h2)
def c_laws_eqInt64S : Ct := ⟨[(.sl (.int .i64)), (.sl (.int .i64))], [false, false], fun x => [], [(false, (.fz .bool))], fun x => (eqR (.sl (.int .i64)) x.1 x.2.1, ()), false, none⟩
def W_laws_eqInt64S (a : List Int) (b : List Int) (K : Bool × Unit → Prop) : Prop := (cnd ((((List.length a) : Nat) : Int) != (((List.length b) : Nat) : Int)) (K (Bool.false, ())) (loopW (S := ((Int × Unit) × Unit)) (fun s => (fun next => ((inK IntKind.i64 s.1.1) → (cnd (decide (s.1.1 < (((List.length a) : Nat) : Int))) (((0 : Int) ≤ s.1.1) ∧ ((s.1.1 < (((List.length a) : Nat) : Int)) ∧ (((0 : Int) ≤ s.1.1) ∧ ((s.1.1 < (((List.length b) : Nat) : Int)) ∧ (cnd ((List.getD a (Int.toNat s.1.1) (0 : Int)) != (List.getD b (Int.toNat s.1.1) (0 : Int))) (K (Bool.false, ())) ((inK IntKind.i64 (s.1.1 + (1 : Int))) ∧ (next (((s.1.1 + (1 : Int)), ()), ())))))))) (K (Bool.true, ())))))) (((0 : Int), ()), ())))
theorem w_laws_eqInt64S (x : denL c_laws_eqInt64S.args) (K : Bool × Unit → Prop) : evF tab (lkp []) (cutL [(6, 9)]) Try.f59 (bodyOf Try.f59) (.s .n (.s .n (.s (.s .n (.l [(5, (.d (.int .i64)))] [] [0, 1] .n)) .n))) c_laws_eqInt64S x K = W_laws_eqInt64S x.1 x.2.1 K := by kernel_rfl
theorem k_laws_eqInt64S : okC Try.f59.ntmps (cutL [(6, 9)]) (bodyOf Try.f59) = true := by kernel_rfl
theorem m_laws_eqInt64S (a : List Int) (b : List Int) (hok : allP (okL c_laws_eqInt64S.args (a, b, ()))) (hpre : allP (c_laws_eqInt64S.pre (a, b, ()))) : W_laws_eqInt64S a b (fun r => r = c_laws_eqInt64S.res (a, b, ())) := by
  simp only [c_laws_eqInt64S, okL, T.oks, T.ok, ap, allP, true_and, and_true, implies_true] at hok hpre
  try dsimp only [T.den] at hok
  try dsimp only [T.den] at hpre
  unfold W_laws_eqInt64S
  refine cnd_of (fun hc => ?_) (fun hc => ?_)
  · simp only [c_laws_eqInt64S, Prod.mk.injEq, and_true]; rw [eqR_f]; rintro rfl; simp at hc
  have hl : a.length = b.length := by simp at hc; omega
  refine loop_of (fun (s : ((Int × Unit) × Unit)) => 0 ≤ s.1.1 ∧ s.1.1 ≤ a.length ∧ a.take s.1.1.toNat = b.take s.1.1.toNat) (fun (s : ((Int × Unit) × Unit)) => (a.length - s.1.1).toNat) ?_ (by simp)
  rintro ⟨⟨i, _⟩, _⟩ next ⟨h0, h1, h2⟩ hn hin
  simp only at h0 h1 h2 hn ⊢
  refine cnd_d (fun hc => ?_) (fun hc => ?_)
  · have ha := take_c a (0 : Int) h0 hc
    have hb := take_c b (0 : Int) h0 (by omega)
    refine ⟨by omega, by omega, by omega, by omega, cnd_of (fun hd => ?_) (fun hd => ?_)⟩
    · simp only [c_laws_eqInt64S, Prod.mk.injEq, and_true]; rw [eqR_f]; rintro rfl; simp at hd
    · refine ⟨by grind [cnd, nb_eq, inK64], hn _ ⟨(by first | omega | (dsimp only; omega)), (by first | omega | (dsimp only; omega)), ?_⟩ (by first | omega | (dsimp only; omega))⟩
      simp only [Bool.not_eq_false', eqR_iff, bne_eq_false_iff_eq] at hd
      simp only [ha, hb, h2, hd]
  · rw [take_n a (by omega), take_n b (by omega)] at h2
    simp [h2, c_laws_eqInt64S]
theorem ct_laws_eqInt64S : CtOk Try.prog 59 c_laws_eqInt64S :=
  ct_by (Φ := lkp []) good_nil tab_ok (by kernel_rfl) (fn := Try.f59) (c := bodyOf Try.f59) (by kernel_rfl) (by kernel_rfl) (by kernel_rfl) c_laws_eqInt64S rfl (.s .n (.s .n (.s (.s .n (.l [(5, (.d (.int .i64)))] [] [0, 1] .n)) .n))) (cutL [(6, 9)]) (by kernel_rfl) (by kernel_rfl) k_laws_eqInt64S (by decide) (fun x K => W_laws_eqInt64S x.1 x.2.1 K) w_laws_eqInt64S (fun x h1 h2 => m_laws_eqInt64S x.1 x.2.1 h1 h2)
def c_laws_eqInt64SS : Ct := ⟨[(.sl (.sl (.int .i64))), (.sl (.sl (.int .i64)))], [false, false], fun x => [], [(false, (.fz .bool))], fun x => (eqR (.sl (.sl (.int .i64))) x.1 x.2.1, ()), false, none⟩
def W_laws_eqInt64SS (a : List (List Int)) (b : List (List Int)) (K : Bool × Unit → Prop) : Prop := (cnd ((((List.length a) : Nat) : Int) != (((List.length b) : Nat) : Int)) (K (Bool.false, ())) (loopW (S := ((Int × Unit) × Unit)) (fun s => (fun next => ((inK IntKind.i64 s.1.1) → (cnd (decide (s.1.1 < (((List.length a) : Nat) : Int))) (((0 : Int) ≤ s.1.1) ∧ ((s.1.1 < (((List.length a) : Nat) : Int)) ∧ (((0 : Int) ≤ s.1.1) ∧ ((s.1.1 < (((List.length b) : Nat) : Int)) ∧ (cnd (!(eqR (T.sl (T.int IntKind.i64)) (List.getD a (Int.toNat s.1.1) ([] : List Int)) (List.getD b (Int.toNat s.1.1) ([] : List Int)))) (K (Bool.false, ())) ((inK IntKind.i64 (s.1.1 + (1 : Int))) ∧ (next (((s.1.1 + (1 : Int)), ()), ())))))))) (K (Bool.true, ())))))) (((0 : Int), ()), ())))
theorem w_laws_eqInt64SS (x : denL c_laws_eqInt64SS.args) (K : Bool × Unit → Prop) : evF tab (lkp [(59, c_laws_eqInt64S)]) (cutL [(6, 10)]) Try.f66 (bodyOf Try.f66) (.s .n (.s .n (.s (.s .n (.l [(5, (.d (.int .i64)))] [] [0, 1] .n)) .n))) c_laws_eqInt64SS x K = W_laws_eqInt64SS x.1 x.2.1 K := by kernel_rfl
theorem k_laws_eqInt64SS : okC Try.f66.ntmps (cutL [(6, 10)]) (bodyOf Try.f66) = true := by kernel_rfl
theorem m_laws_eqInt64SS (a : List (List Int)) (b : List (List Int)) (hok : allP (okL c_laws_eqInt64SS.args (a, b, ()))) (hpre : allP (c_laws_eqInt64SS.pre (a, b, ()))) : W_laws_eqInt64SS a b (fun r => r = c_laws_eqInt64SS.res (a, b, ())) := by
  simp only [c_laws_eqInt64SS, okL, T.oks, T.ok, ap, allP, true_and, and_true, implies_true] at hok hpre
  try dsimp only [T.den] at hok
  try dsimp only [T.den] at hpre
  unfold W_laws_eqInt64SS
  refine cnd_of (fun hc => ?_) (fun hc => ?_)
  · simp only [c_laws_eqInt64SS, Prod.mk.injEq, and_true]; rw [eqR_f]; rintro rfl; simp at hc
  have hl : a.length = b.length := by simp at hc; omega
  refine loop_of (fun (s : ((Int × Unit) × Unit)) => 0 ≤ s.1.1 ∧ s.1.1 ≤ a.length ∧ a.take s.1.1.toNat = b.take s.1.1.toNat) (fun (s : ((Int × Unit) × Unit)) => (a.length - s.1.1).toNat) ?_ (by simp)
  rintro ⟨⟨i, _⟩, _⟩ next ⟨h0, h1, h2⟩ hn hin
  simp only at h0 h1 h2 hn ⊢
  refine cnd_d (fun hc => ?_) (fun hc => ?_)
  · have ha := take_c a ([] : List Int) h0 hc
    have hb := take_c b ([] : List Int) h0 (by omega)
    refine ⟨by omega, by omega, by omega, by omega, cnd_of (fun hd => ?_) (fun hd => ?_)⟩
    · simp only [c_laws_eqInt64SS, Prod.mk.injEq, and_true]; rw [eqR_f]; rintro rfl; simp at hd
    · refine ⟨by grind [cnd, nb_eq, inK64], hn _ ⟨(by first | omega | (dsimp only; omega)), (by first | omega | (dsimp only; omega)), ?_⟩ (by first | omega | (dsimp only; omega))⟩
      simp only [Bool.not_eq_false', eqR_iff, bne_eq_false_iff_eq] at hd
      simp only [ha, hb, h2, hd]
  · rw [take_n a (by omega), take_n b (by omega)] at h2
    simp [h2, c_laws_eqInt64SS]
theorem ct_laws_eqInt64SS : CtOk Try.prog 66 c_laws_eqInt64SS :=
  ct_by (Φ := lkp [(59, c_laws_eqInt64S)]) (good_cons ct_laws_eqInt64S good_nil) tab_ok (by kernel_rfl) (fn := Try.f66) (c := bodyOf Try.f66) (by kernel_rfl) (by kernel_rfl) (by kernel_rfl) c_laws_eqInt64SS rfl (.s .n (.s .n (.s (.s .n (.l [(5, (.d (.int .i64)))] [] [0, 1] .n)) .n))) (cutL [(6, 10)]) (by kernel_rfl) (by kernel_rfl) k_laws_eqInt64SS (by decide) (fun x K => W_laws_eqInt64SS x.1 x.2.1 K) w_laws_eqInt64SS (fun x h1 h2 => m_laws_eqInt64SS x.1 x.2.1 h1 h2)
def c_laws_eqCategory : Ct := ⟨[CategoryT, CategoryT], [true, true], fun x => [], [(false, (.fz .bool))], fun x => (eqR CategoryT x.1 x.2.1, ()), false, none⟩
def W_laws_eqCategory (a : CategoryD) (b : CategoryD) (K : Bool × Unit → Prop) : Prop := (cnd (a.1 != b.1) (K (Bool.false, ())) (cnd (!(eqR (T.sl (T.int IntKind.i64)) a.2.1 b.2.1)) (K (Bool.false, ())) (cnd (!(eqR (T.sl (T.int IntKind.i64)) a.2.2.1 b.2.2.1)) (K (Bool.false, ())) (cnd (!(eqR (T.sl (T.int IntKind.i64)) a.2.2.2.1 b.2.2.2.1)) (K (Bool.false, ())) (cnd (!(eqR (T.sl (T.sl (T.int IntKind.i64))) a.2.2.2.2 b.2.2.2.2)) (K (Bool.false, ())) (K (Bool.true, ())))))))
theorem w_laws_eqCategory (x : denL c_laws_eqCategory.args) (K : Bool × Unit → Prop) : evF tab (lkp [(59, c_laws_eqInt64S), (66, c_laws_eqInt64SS)]) (cutL []) Try.f58 (bodyOf Try.f58) .n c_laws_eqCategory x K = W_laws_eqCategory x.1 x.2.1 K := by kernel_rfl
theorem k_laws_eqCategory : okC Try.f58.ntmps (cutL []) (bodyOf Try.f58) = true := by kernel_rfl
theorem m_laws_eqCategory (a : CategoryD) (b : CategoryD) (hok : allP (okL c_laws_eqCategory.args (a, b, ()))) (hpre : allP (c_laws_eqCategory.pre (a, b, ()))) : W_laws_eqCategory a b (fun r => r = c_laws_eqCategory.res (a, b, ())) := by
  simp only [c_laws_eqCategory, okL, T.oks, T.ok, ap, allP, true_and, and_true, implies_true] at hok hpre
  try dsimp only [T.den] at hok
  try dsimp only [T.den] at hpre
  unfold W_laws_eqCategory
  simp only [c_laws_eqCategory, eqR_p, eqR_int, eqR_bool]
  grind [cnd, nb_eq, inK64]
theorem ct_laws_eqCategory : CtOk Try.prog 58 c_laws_eqCategory :=
  ct_by (Φ := lkp [(59, c_laws_eqInt64S), (66, c_laws_eqInt64SS)]) (good_cons ct_laws_eqInt64S (good_cons ct_laws_eqInt64SS good_nil)) tab_ok (by kernel_rfl) (fn := Try.f58) (c := bodyOf Try.f58) (by kernel_rfl) (by kernel_rfl) (by kernel_rfl) c_laws_eqCategory rfl .n (cutL []) (by kernel_rfl) (by kernel_rfl) k_laws_eqCategory (by decide) (fun x K => W_laws_eqCategory x.1 x.2.1 K) w_laws_eqCategory (fun x h1 h2 => m_laws_eqCategory x.1 x.2.1 h1 h2)
def c_laws_eqMonoidal : Ct := ⟨[MonoidalT, MonoidalT], [true, true], fun x => [], [(false, (.fz .bool))], fun x => (eqR MonoidalT x.1 x.2.1, ()), false, none⟩
def W_laws_eqMonoidal (a : MonoidalD) (b : MonoidalD) (K : Bool × Unit → Prop) : Prop := (cnd (!(eqR CategoryT a.1 b.1)) (K (Bool.false, ())) (cnd (a.2.1 != b.2.1) (K (Bool.false, ())) (cnd (!(eqR (T.sl (T.sl (T.int IntKind.i64))) a.2.2.1 b.2.2.1)) (K (Bool.false, ())) (cnd (!(eqR (T.sl (T.sl (T.int IntKind.i64))) a.2.2.2 b.2.2.2)) (K (Bool.false, ())) (K (Bool.true, ()))))))
theorem w_laws_eqMonoidal (x : denL c_laws_eqMonoidal.args) (K : Bool × Unit → Prop) : evF tab (lkp [(58, c_laws_eqCategory), (66, c_laws_eqInt64SS)]) (cutL []) Try.f29 (bodyOf Try.f29) .n c_laws_eqMonoidal x K = W_laws_eqMonoidal x.1 x.2.1 K := by kernel_rfl
theorem k_laws_eqMonoidal : okC Try.f29.ntmps (cutL []) (bodyOf Try.f29) = true := by kernel_rfl
theorem m_laws_eqMonoidal (a : MonoidalD) (b : MonoidalD) (hok : allP (okL c_laws_eqMonoidal.args (a, b, ()))) (hpre : allP (c_laws_eqMonoidal.pre (a, b, ()))) : W_laws_eqMonoidal a b (fun r => r = c_laws_eqMonoidal.res (a, b, ())) := by
  simp only [c_laws_eqMonoidal, okL, T.oks, T.ok, ap, allP, true_and, and_true, implies_true] at hok hpre
  try dsimp only [T.den] at hok
  try dsimp only [T.den] at hpre
  unfold W_laws_eqMonoidal
  simp only [c_laws_eqMonoidal, eqR_p, eqR_int, eqR_bool]
  grind [cnd, nb_eq, inK64]
theorem ct_laws_eqMonoidal : CtOk Try.prog 29 c_laws_eqMonoidal :=
  ct_by (Φ := lkp [(58, c_laws_eqCategory), (66, c_laws_eqInt64SS)]) (good_cons ct_laws_eqCategory (good_cons ct_laws_eqInt64SS good_nil)) tab_ok (by kernel_rfl) (fn := Try.f29) (c := bodyOf Try.f29) (by kernel_rfl) (by kernel_rfl) (by kernel_rfl) c_laws_eqMonoidal rfl .n (cutL []) (by kernel_rfl) (by kernel_rfl) k_laws_eqMonoidal (by decide) (fun x K => W_laws_eqMonoidal x.1 x.2.1 K) w_laws_eqMonoidal (fun x h1 h2 => m_laws_eqMonoidal x.1 x.2.1 h1 h2)
def c_laws_szDiagramNodeS : Ct := ⟨[(.sl endsT), (.int .i64)], [false, false], fun x => [-4611545280939032576 ≤ x.2.1], [(false, (.fz (.int .i64)))], fun x => (szR (wR (.sl endsT) x.1) x.2.1, ()), false, none⟩
def W_laws_szDiagramNodeS (a : List endsD) (left : Int) (K : Int × Unit → Prop) : Prop := ((inK IntKind.i64 (left - (((List.length a) : Nat) : Int))) ∧ (cnd (decide ((left - (((List.length a) : Nat) : Int)) < (0 : Int))) (K ((-(1 : Int)), ())) (K ((left - (((List.length a) : Nat) : Int)), ()))))
theorem w_laws_szDiagramNodeS (x : denL c_laws_szDiagramNodeS.args) (K : Int × Unit → Prop) : evF tab (lkp []) (cutL []) Try.f24 (bodyOf Try.f24) .n c_laws_szDiagramNodeS x K = W_laws_szDiagramNodeS x.1 x.2.1 K := by kernel_rfl
theorem k_laws_szDiagramNodeS : okC Try.f24.ntmps (cutL []) (bodyOf Try.f24) = true := by kernel_rfl
theorem m_laws_szDiagramNodeS (a : List endsD) (left : Int) (hok : allP (okL c_laws_szDiagramNodeS.args (a, left, ()))) (hpre : allP (c_laws_szDiagramNodeS.pre (a, left, ()))) : W_laws_szDiagramNodeS a left (fun r => r = c_laws_szDiagramNodeS.res (a, left, ())) := by
  simp only [c_laws_szDiagramNodeS, okL, T.oks, T.ok, ap, allP, true_and, and_true, implies_true] at hok hpre
  try dsimp only [T.den] at hok
  try dsimp only [T.den] at hpre
  unfold W_laws_szDiagramNodeS
  have hz : ∀ l : List (Int × Int), (l.map (wR endsT)).sum = 0 := by
    intro l
    induction l with
    | nil => rfl
    | cons x l ih => rw [List.map_cons, List.sum_cons, ih]; simp [wR_p, wR_int]
  simp only [c_laws_szDiagramNodeS, wR_sl, hz, Nat.add_zero]
  grind [cnd, nb_eq, inK64, szR]
theorem ct_laws_szDiagramNodeS : CtOk Try.prog 24 c_laws_szDiagramNodeS :=
  ct_by (Φ := lkp []) good_nil tab_ok (by kernel_rfl) (fn := Try.f24) (c := bodyOf Try.f24) (by kernel_rfl) (by kernel_rfl) (by kernel_rfl) c_laws_szDiagramNodeS rfl .n (cutL []) (by kernel_rfl) (by kernel_rfl) k_laws_szDiagramNodeS (by decide) (fun x K => W_laws_szDiagramNodeS x.1 x.2.1 K) w_laws_szDiagramNodeS (fun x h1 h2 => m_laws_szDiagramNodeS x.1 x.2.1 h1 h2)
def c_laws_szInt64S : Ct := ⟨[(.sl (.int .i64)), (.int .i64)], [false, false], fun x => [-4611545280939032576 ≤ x.2.1], [(false, (.fz (.int .i64)))], fun x => (szR (wR (.sl (.int .i64)) x.1) x.2.1, ()), false, none⟩
def W_laws_szInt64S (a : List Int) (left : Int) (K : Int × Unit → Prop) : Prop := ((inK IntKind.i64 (left - (((List.length a) : Nat) : Int))) ∧ (cnd (decide ((left - (((List.length a) : Nat) : Int)) < (0 : Int))) (K ((-(1 : Int)), ())) (K ((left - (((List.length a) : Nat) : Int)), ()))))
theorem w_laws_szInt64S (x : denL c_laws_szInt64S.args) (K : Int × Unit → Prop) : evF tab (lkp []) (cutL []) Try.f49 (bodyOf Try.f49) .n c_laws_szInt64S x K = W_laws_szInt64S x.1 x.2.1 K := by kernel_rfl
theorem k_laws_szInt64S : okC Try.f49.ntmps (cutL []) (bodyOf Try.f49) = true := by kernel_rfl
theorem m_laws_szInt64S (a : List Int) (left : Int) (hok : allP (okL c_laws_szInt64S.args (a, left, ()))) (hpre : allP (c_laws_szInt64S.pre (a, left, ()))) : W_laws_szInt64S a left (fun r => r = c_laws_szInt64S.res (a, left, ())) := by
  simp only [c_laws_szInt64S, okL, T.oks, T.ok, ap, allP, true_and, and_true, implies_true] at hok hpre
  try dsimp only [T.den] at hok
  try dsimp only [T.den] at hpre
  unfold W_laws_szInt64S
  simp only [c_laws_szInt64S, wR_ints]
  grind [cnd, nb_eq, inK64, szR]
theorem ct_laws_szInt64S : CtOk Try.prog 49 c_laws_szInt64S :=
  ct_by (Φ := lkp []) good_nil tab_ok (by kernel_rfl) (fn := Try.f49) (c := bodyOf Try.f49) (by kernel_rfl) (by kernel_rfl) (by kernel_rfl) c_laws_szInt64S rfl .n (cutL []) (by kernel_rfl) (by kernel_rfl) k_laws_szInt64S (by decide) (fun x K => W_laws_szInt64S x.1 x.2.1 K) w_laws_szInt64S (fun x h1 h2 => m_laws_szInt64S x.1 x.2.1 h1 h2)
def c_laws_szInt64SS : Ct := ⟨[(.sl (.sl (.int .i64))), (.int .i64)], [false, false], fun x => [-4611404543450677248 ≤ x.2.1], [(false, (.fz (.int .i64)))], fun x => (szR (wR (.sl (.sl (.int .i64))) x.1) x.2.1, ()), false, none⟩
def W_laws_szInt64SS (a : List (List Int)) (left : Int) (K : Int × Unit → Prop) : Prop := ((inK IntKind.i64 (left - (((List.length a) : Nat) : Int))) ∧ (cnd (decide ((left - (((List.length a) : Nat) : Int)) < (0 : Int))) (K ((-(1 : Int)), ())) (loopW (S := ((Int × (Int × Unit)) × Unit)) (fun s => (fun next => ((inK IntKind.i64 s.1.1) → ((inK IntKind.i64 s.1.2.1) → (cnd (decide (s.1.2.1 < (((List.length a) : Nat) : Int))) (((0 : Int) ≤ s.1.2.1) ∧ ((s.1.2.1 < (((List.length a) : Nat) : Int)) ∧ (((-(4611545280939032576 : Int)) ≤ s.1.1) ∧ (cnd (decide ((szR (wR (T.sl (T.int IntKind.i64)) (List.getD a (Int.toNat s.1.2.1) ([] : List Int))) s.1.1) < (0 : Int))) (K ((-(1 : Int)), ())) ((inK IntKind.i64 (s.1.2.1 + (1 : Int))) ∧ (next (((szR (wR (T.sl (T.int IntKind.i64)) (List.getD a (Int.toNat s.1.2.1) ([] : List Int))) s.1.1), ((s.1.2.1 + (1 : Int)), ())), ()))))))) (K (s.1.1, ()))))))) (((left - (((List.length a) : Nat) : Int)), ((0 : Int), ())), ()))))
theorem w_laws_szInt64SS (x : denL c_laws_szInt64SS.args) (K : Int × Unit → Prop) : evF tab (lkp [(49, c_laws_szInt64S)]) (cutL []) Try.f60 (bodyOf Try.f60) (.s .n (.s .n (.s .n (.s (.s .n (.l [(1, (.d (.int .i64))), (5, (.d (.int .i64)))] [] [0] .n)) .n)))) c_laws_szInt64SS x K = W_laws_szInt64SS x.1 x.2.1 K := by kernel_rfl
theorem k_laws_szInt64SS : okC Try.f60.ntmps (cutL []) (bodyOf Try.f60) = true := by kernel_rfl
theorem m_laws_szInt64SS (a : List (List Int)) (left : Int) (hok : allP (okL c_laws_szInt64SS.args (a, left, ()))) (hpre : allP (c_laws_szInt64SS.pre (a, left, ()))) : W_laws_szInt64SS a left (fun r => r = c_laws_szInt64SS.res (a, left, ())) := by
  simp only [c_laws_szInt64SS, okL, T.oks, T.ok, ap, allP, true_and, and_true, implies_true] at hok hpre
  try dsimp only [T.den] at hok
  try dsimp only [T.den] at hpre
  unfold W_laws_szInt64SS
  have hr := szR_ge (x := a.length) (r := (a.map (wR (.sl (.int .i64)))).sum) (l := left)
  refine ⟨by grind [cnd, nb_eq, inK64], cnd_d (fun hc => ?_) (fun hc => ?_)⟩
  · simp only [c_laws_szInt64SS]; rw [wR_sl, szR_lt (x := a.length) (by omega)]
  replace hr := hr (by omega)
  rw [szR_val (x := a.length) (by omega)] at hr
  refine loop_of (fun (s : ((Int × (Int × Unit)) × Unit)) => 0 ≤ s.1.1 ∧ 0 ≤ s.1.2.1 ∧ s.1.2.1 ≤ a.length ∧ szR (wR (.sl (.sl (.int .i64))) a) left = szR ((a.drop s.1.2.1.toNat).map (wR (.sl (.int .i64)))).sum s.1.1) (fun (s : ((Int × (Int × Unit)) × Unit)) => (a.length - s.1.2.1).toNat) ?_ ⟨(by first | omega | (dsimp only; omega)), by simp, by simp, by rw [wR_sl]; simpa using hr⟩
  rintro ⟨⟨l, i, _⟩, _⟩ next ⟨h0, h1, h2, h3⟩ hn hin hl
  simp only at h0 h1 h2 h3 hn ⊢
  refine cnd_d (fun hc => ?_) (fun hc => ?_)
  · rw [drop_c a ([] : List Int) h1 hc, List.map_cons, List.sum_cons] at h3
    refine ⟨by omega, by omega, by omega, cnd_d (fun hd => ?_) (fun hd => ?_)⟩
    · rw [szR_neg] at hd
      rw [szR_lt hd] at h3
      simp only [c_laws_szInt64SS]; rw [h3]
    · rw [szR_neg] at hd
      rw [szR_ge hd] at h3
      exact ⟨by grind [cnd, nb_eq, inK64], hn _ ⟨by simp only; rw [szR_val hd]; omega, (by first | omega | (dsimp only; omega)), (by first | omega | (dsimp only; omega)), h3⟩ (by first | omega | (dsimp only; omega))⟩
  · rw [drop_n a (by omega)] at h3
    simp only [List.map_nil, List.sum_nil] at h3
    rw [szR_zero h0] at h3
    simp only [c_laws_szInt64SS]; rw [h3]
theorem ct_laws_szInt64SS : CtOk Try.prog 60 c_laws_szInt64SS :=
  ct_by (Φ := lkp [(49, c_laws_szInt64S)]) (good_cons ct_laws_szInt64S good_nil) tab_ok (by kernel_rfl) (fn := Try.f60) (c := bodyOf Try.f60) (by kernel_rfl) (by kernel_rfl) (by kernel_rfl) c_laws_szInt64SS rfl (.s .n (.s .n (.s .n (.s (.s .n (.l [(1, (.d (.int .i64))), (5, (.d (.int .i64)))] [] [0] .n)) .n)))) (cutL []) (by kernel_rfl) (by kernel_rfl) k_laws_szInt64SS (by decide) (fun x K => W_laws_szInt64SS x.1 x.2.1 K) w_laws_szInt64SS (fun x h1 h2 => m_laws_szInt64SS x.1 x.2.1 h1 h2)
def c_laws_szCategory : Ct := ⟨[CategoryT, (.int .i64)], [true, false], fun x => [-4611404543450677248 ≤ x.2.1], [(false, (.fz (.int .i64)))], fun x => (szR (wR CategoryT x.1) x.2.1, ()), false, none⟩
def W_laws_szCategory (a : CategoryD) (left : Int) (K : Int × Unit → Prop) : Prop := (((-(4611545280939032576 : Int)) ≤ left) ∧ (cnd (decide ((szR (wR (T.sl (T.int IntKind.i64)) a.2.1) left) < (0 : Int))) (K ((-(1 : Int)), ())) (((-(4611545280939032576 : Int)) ≤ (szR (wR (T.sl (T.int IntKind.i64)) a.2.1) left)) ∧ (cnd (decide ((szR (wR (T.sl (T.int IntKind.i64)) a.2.2.1) (szR (wR (T.sl (T.int IntKind.i64)) a.2.1) left)) < (0 : Int))) (K ((-(1 : Int)), ())) (((-(4611545280939032576 : Int)) ≤ (szR (wR (T.sl (T.int IntKind.i64)) a.2.2.1) (szR (wR (T.sl (T.int IntKind.i64)) a.2.1) left))) ∧ (cnd (decide ((szR (wR (T.sl (T.int IntKind.i64)) a.2.2.2.1) (szR (wR (T.sl (T.int IntKind.i64)) a.2.2.1) (szR (wR (T.sl (T.int IntKind.i64)) a.2.1) left))) < (0 : Int))) (K ((-(1 : Int)), ())) (((-(4611404543450677248 : Int)) ≤ (szR (wR (T.sl (T.int IntKind.i64)) a.2.2.2.1) (szR (wR (T.sl (T.int IntKind.i64)) a.2.2.1) (szR (wR (T.sl (T.int IntKind.i64)) a.2.1) left)))) ∧ (cnd (decide ((szR (wR (T.sl (T.sl (T.int IntKind.i64))) a.2.2.2.2) (szR (wR (T.sl (T.int IntKind.i64)) a.2.2.2.1) (szR (wR (T.sl (T.int IntKind.i64)) a.2.2.1) (szR (wR (T.sl (T.int IntKind.i64)) a.2.1) left)))) < (0 : Int))) (K ((-(1 : Int)), ())) (K ((szR (wR (T.sl (T.sl (T.int IntKind.i64))) a.2.2.2.2) (szR (wR (T.sl (T.int IntKind.i64)) a.2.2.2.1) (szR (wR (T.sl (T.int IntKind.i64)) a.2.2.1) (szR (wR (T.sl (T.int IntKind.i64)) a.2.1) left)))), ()))))))))))
theorem w_laws_szCategory (x : denL c_laws_szCategory.args) (K : Int × Unit → Prop) : evF tab (lkp [(49, c_laws_szInt64S), (60, c_laws_szInt64SS)]) (cutL []) Try.f48 (bodyOf Try.f48) .n c_laws_szCategory x K = W_laws_szCategory x.1 x.2.1 K := by kernel_rfl
theorem k_laws_szCategory : okC Try.f48.ntmps (cutL []) (bodyOf Try.f48) = true := by kernel_rfl
theorem m_laws_szCategory (a : CategoryD) (left : Int) (hok : allP (okL c_laws_szCategory.args (a, left, ()))) (hpre : allP (c_laws_szCategory.pre (a, left, ()))) : W_laws_szCategory a left (fun r => r = c_laws_szCategory.res (a, left, ())) := by
  simp only [c_laws_szCategory, okL, T.oks, T.ok, ap, allP, true_and, and_true, implies_true] at hok hpre
  try dsimp only [T.den] at hok
  try dsimp only [T.den] at hpre
  unfold W_laws_szCategory
  simp only [c_laws_szCategory, wR_p, wR_int, wR_bool, Nat.zero_add, Nat.add_zero]
  grind [cnd, nb_eq, inK64, szR]
theorem ct_laws_szCategory : CtOk Try.prog 48 c_laws_szCategory :=
  ct_by (Φ := lkp [(49, c_laws_szInt64S), (60, c_laws_szInt64SS)]) (good_cons ct_laws_szInt64S (good_cons ct_laws_szInt64SS good_nil)) tab_ok (by kernel_rfl) (fn := Try.f48) (c := bodyOf Try.f48) (by kernel_rfl) (by kernel_rfl) (by kernel_rfl) c_laws_szCategory rfl .n (cutL []) (by kernel_rfl) (by kernel_rfl) k_laws_szCategory (by decide) (fun x K => W_laws_szCategory x.1 x.2.1 K) w_laws_szCategory (fun x h1 h2 => m_laws_szCategory x.1 x.2.1 h1 h2)
def c_laws_szMonoidal : Ct := ⟨[MonoidalT, (.int .i64)], [true, false], fun x => [-4611404543450677248 ≤ x.2.1], [(false, (.fz (.int .i64)))], fun x => (szR (wR MonoidalT x.1) x.2.1, ()), false, none⟩
def W_laws_szMonoidal (a : MonoidalD) (left : Int) (K : Int × Unit → Prop) : Prop := (((-(4611404543450677248 : Int)) ≤ left) ∧ (cnd (decide ((szR (wR CategoryT a.1) left) < (0 : Int))) (K ((-(1 : Int)), ())) (((-(4611404543450677248 : Int)) ≤ (szR (wR CategoryT a.1) left)) ∧ (cnd (decide ((szR (wR (T.sl (T.sl (T.int IntKind.i64))) a.2.2.1) (szR (wR CategoryT a.1) left)) < (0 : Int))) (K ((-(1 : Int)), ())) (((-(4611404543450677248 : Int)) ≤ (szR (wR (T.sl (T.sl (T.int IntKind.i64))) a.2.2.1) (szR (wR CategoryT a.1) left))) ∧ (cnd (decide ((szR (wR (T.sl (T.sl (T.int IntKind.i64))) a.2.2.2) (szR (wR (T.sl (T.sl (T.int IntKind.i64))) a.2.2.1) (szR (wR CategoryT a.1) left))) < (0 : Int))) (K ((-(1 : Int)), ())) (K ((szR (wR (T.sl (T.sl (T.int IntKind.i64))) a.2.2.2) (szR (wR (T.sl (T.sl (T.int IntKind.i64))) a.2.2.1) (szR (wR CategoryT a.1) left))), ()))))))))
theorem w_laws_szMonoidal (x : denL c_laws_szMonoidal.args) (K : Int × Unit → Prop) : evF tab (lkp [(48, c_laws_szCategory), (60, c_laws_szInt64SS)]) (cutL []) Try.f23 (bodyOf Try.f23) .n c_laws_szMonoidal x K = W_laws_szMonoidal x.1 x.2.1 K := by kernel_rfl
theorem k_laws_szMonoidal : okC Try.f23.ntmps (cutL []) (bodyOf Try.f23) = true := by kernel_rfl
theorem m_laws_szMonoidal (a : MonoidalD) (left : Int) (hok : allP (okL c_laws_szMonoidal.args (a, left, ()))) (hpre : allP (c_laws_szMonoidal.pre (a, left, ()))) : W_laws_szMonoidal a left (fun r => r = c_laws_szMonoidal.res (a, left, ())) := by
  simp only [c_laws_szMonoidal, okL, T.oks, T.ok, ap, allP, true_and, and_true, implies_true] at hok hpre
  try dsimp only [T.den] at hok
  try dsimp only [T.den] at hpre
  unfold W_laws_szMonoidal
  simp only [c_laws_szMonoidal, wR_p, wR_int, wR_bool, Nat.zero_add, Nat.add_zero]
  grind [cnd, nb_eq, inK64, szR]
theorem ct_laws_szMonoidal : CtOk Try.prog 23 c_laws_szMonoidal :=
  ct_by (Φ := lkp [(48, c_laws_szCategory), (60, c_laws_szInt64SS)]) (good_cons ct_laws_szCategory (good_cons ct_laws_szInt64SS good_nil)) tab_ok (by kernel_rfl) (fn := Try.f23) (c := bodyOf Try.f23) (by kernel_rfl) (by kernel_rfl) (by kernel_rfl) c_laws_szMonoidal rfl .n (cutL []) (by kernel_rfl) (by kernel_rfl) k_laws_szMonoidal (by decide) (fun x K => W_laws_szMonoidal x.1 x.2.1 K) w_laws_szMonoidal (fun x h1 h2 => m_laws_szMonoidal x.1 x.2.1 h1 h2)
def c_laws_toDiagramNode : Ct := ⟨[endsT], [true], fun x => [wR endsT x.1 ≤ 1099511627776], [(true, (.fz endsT))], fun x => (x.1, ()), false, none⟩
def W_laws_toDiagramNode (a : endsD) (K : endsD × Unit → Prop) : Prop := (K (a, ()))
theorem w_laws_toDiagramNode (x : denL c_laws_toDiagramNode.args) (K : endsD × Unit → Prop) : evF tab (lkp []) (cutL []) Try.f70 (bodyOf Try.f70) .n c_laws_toDiagramNode x K = W_laws_toDiagramNode x.1 K := by kernel_rfl
theorem k_laws_toDiagramNode : okC Try.f70.ntmps (cutL []) (bodyOf Try.f70) = true := by kernel_rfl
theorem m_laws_toDiagramNode (a : endsD) (hok : allP (okL c_laws_toDiagramNode.args (a, ()))) (hpre : allP (c_laws_toDiagramNode.pre (a, ()))) : W_laws_toDiagramNode a (fun r => r = c_laws_toDiagramNode.res (a, ())) := by
  simp only [c_laws_toDiagramNode, okL, T.oks, T.ok, ap, allP, true_and, and_true, implies_true] at hok hpre
  try dsimp only [T.den] at hok
  try dsimp only [T.den] at hpre
  unfold W_laws_toDiagramNode
  simp only [wR_p, wR_int, wR_bool] at hpre
  repeat' apply And.intro
  all_goals first | rfl | ((try simp only [wR_p, wR_int, wR_bool]); omega)
theorem ct_laws_toDiagramNode : CtOk Try.prog 70 c_laws_toDiagramNode :=
  ct_by (Φ := lkp []) good_nil tab_ok (by kernel_rfl) (fn := Try.f70) (c := bodyOf Try.f70) (by kernel_rfl) (by kernel_rfl) (by kernel_rfl) c_laws_toDiagramNode rfl .n (cutL []) (by kernel_rfl) (by kernel_rfl) k_laws_toDiagramNode (by decide) (fun x K => W_laws_toDiagramNode x.1 K) w_laws_toDiagramNode (fun x h1 h2 => m_laws_toDiagramNode x.1 h1 h2)
def c_laws_toDiagramNodeS : Ct := ⟨[(.sl endsT)], [false], fun x => [wR (.sl endsT) x.1 ≤ 1099511627776], [(false, (.sl endsO))], fun x => (x.1, ()), false, none⟩
def W_laws_toDiagramNodeS (a : List endsD) (K : (List endsD) × Unit → Prop) : Prop := (((0 : Int) ≤ (((List.length a) : Nat) : Int)) ∧ (((((List.length a) : Nat) : Int) ≤ (((List.length a) : Nat) : Int)) ∧ (((((List.length a) : Nat) : Int) ≤ ((140737488355328 : Nat) : Int)) ∧ ((((((List.length a) : Nat) : Int) * ((16 : Nat) : Int)) ≤ ((140737488355328 : Nat) : Int)) ∧ (loopW (S := ((Unit × (Int × Unit)) × ((List (Int × Int)) × Unit))) (fun s => (fun next => ((inK IntKind.i64 s.1.2.1) → ((T.ok (T.sl endsT) s.2.1) → (cnd (decide (s.1.2.1 < (((List.length a) : Nat) : Int))) (((0 : Int) ≤ s.1.2.1) ∧ ((s.1.2.1 < (((List.length a) : Nat) : Int)) ∧ (((wR endsT (List.getD a (Int.toNat s.1.2.1) ((0 : Int), (0 : Int)))) ≤ 1099511627776) ∧ (((0 : Int) ≤ s.1.2.1) ∧ ((s.1.2.1 < (((List.length s.2.1) : Nat) : Int)) ∧ ((inK IntKind.i64 (s.1.2.1 + (1 : Int))) ∧ (next (((), ((s.1.2.1 + (1 : Int)), ())), ((List.set s.2.1 (Int.toNat s.1.2.1) (List.getD a (Int.toNat s.1.2.1) ((0 : Int), (0 : Int)))), ()))))))))) (K (s.2.1, ()))))))) (((), ((0 : Int), ())), ((List.replicate (Int.toNat (((List.length a) : Nat) : Int)) ((0 : Int), (0 : Int))), ())))))))
theorem w_laws_toDiagramNodeS (x : denL c_laws_toDiagramNodeS.args) (K : (List endsD) × Unit → Prop) : evF tab (lkp [(70, c_laws_toDiagramNode)]) (cutL []) Try.f27 (bodyOf Try.f27) (.s .n (.s .n (.s (.s .n (.l [(3, (.ref 7 [])), (4, (.d (.int .i64)))] [(7, (.sl (.fz (.p (.int .i64) (.int .i64)))))] [0] .n)) .n))) c_laws_toDiagramNodeS x K = W_laws_toDiagramNodeS x.1 K := by kernel_rfl
theorem k_laws_toDiagramNodeS : okC Try.f27.ntmps (cutL []) (bodyOf Try.f27) = true := by kernel_rfl
theorem m_laws_toDiagramNodeS (a : List endsD) (hok : allP (okL c_laws_toDiagramNodeS.args (a, ()))) (hpre : allP (c_laws_toDiagramNodeS.pre (a, ()))) : W_laws_toDiagramNodeS a (fun r => r = c_laws_toDiagramNodeS.res (a, ())) := by
  simp only [c_laws_toDiagramNodeS, okL, T.oks, T.ok, ap, allP, true_and, and_true, implies_true] at hok hpre
  try dsimp only [T.den] at hok
  try dsimp only [T.den] at hpre
  unfold W_laws_toDiagramNodeS
  rw [wR_sl] at hpre
  refine ⟨by omega, by omega, by first | omega | (rw [nb_eq]; omega), by first | omega | (rw [nb_eq]; omega), ?_⟩
  refine loop_of (fun (s : ((Unit × (Int × Unit)) × ((List (Int × Int)) × Unit))) => 0 ≤ s.1.2.1 ∧ s.1.2.1 ≤ a.length ∧ s.2.1.length = a.length ∧ s.2.1.take s.1.2.1.toNat = a.take s.1.2.1.toNat) (fun (s : ((Unit × (Int × Unit)) × ((List (Int × Int)) × Unit))) => (a.length - s.1.2.1).toNat) ?_ (by simp)
  rintro ⟨⟨_, i, _⟩, l, _⟩ next ⟨h0, h1, h2, h3⟩ hn hin hl
  simp only at h0 h1 h2 h3 hn ⊢
  refine cnd_d (fun hc => ?_) (fun hc => ?_)
  · have hm := wR_mem (e := endsT) (getD_mem a ((0 : Int), (0 : Int)) h0 hc)
    refine ⟨by omega, by omega, by omega, by omega, by omega, by grind [cnd, nb_eq, inK64], hn _ ⟨(by first | omega | (dsimp only; omega)), (by first | omega | (dsimp only; omega)), by simp [h2], ?_⟩ (by first | omega | (dsimp only; omega))⟩
    simp only
    rw [take_c a ((0 : Int), (0 : Int)) h0 hc, ← h3]
    exact take_set l h0 (by omega) _
  · rw [take_n a (by omega), take_n l (by omega)] at h3
    simp [h3, c_laws_toDiagramNodeS]
theorem ct_laws_toDiagramNodeS : CtOk Try.prog 27 c_laws_toDiagramNodeS :=
  ct_by (Φ := lkp [(70, c_laws_toDiagramNode)]) (good_cons ct_laws_toDiagramNode good_nil) tab_ok (by kernel_rfl) (fn := Try.f27) (c := bodyOf Try.f27) (by kernel_rfl) (by kernel_rfl) (by kernel_rfl) c_laws_toDiagramNodeS rfl (.s .n (.s .n (.s (.s .n (.l [(3, (.ref 7 [])), (4, (.d (.int .i64)))] [(7, (.sl (.fz (.p (.int .i64) (.int .i64)))))] [0] .n)) .n))) (cutL []) (by kernel_rfl) (by kernel_rfl) k_laws_toDiagramNodeS (by decide) (fun x K => W_laws_toDiagramNodeS x.1 K) w_laws_toDiagramNodeS (fun x h1 h2 => m_laws_toDiagramNodeS x.1 h1 h2)
def c_laws_toInt64S : Ct := ⟨[(.sl (.int .i64))], [false], fun x => [wR (.sl (.int .i64)) x.1 ≤ 1099511627776], [(false, (.sl (.fz (.int .i64))))], fun x => (x.1, ()), false, none⟩
def W_laws_toInt64S (a : List Int) (K : (List Int) × Unit → Prop) : Prop := (((0 : Int) ≤ (((List.length a) : Nat) : Int)) ∧ (((((List.length a) : Nat) : Int) ≤ (((List.length a) : Nat) : Int)) ∧ (((((List.length a) : Nat) : Int) ≤ ((140737488355328 : Nat) : Int)) ∧ ((((((List.length a) : Nat) : Int) * ((8 : Nat) : Int)) ≤ ((140737488355328 : Nat) : Int)) ∧ (loopW (S := ((Unit × (Int × Unit)) × ((List Int) × Unit))) (fun s => (fun next => ((inK IntKind.i64 s.1.2.1) → ((T.ok (T.sl (T.int IntKind.i64)) s.2.1) → (cnd (decide (s.1.2.1 < (((List.length a) : Nat) : Int))) (((0 : Int) ≤ s.1.2.1) ∧ ((s.1.2.1 < (((List.length a) : Nat) : Int)) ∧ (((0 : Int) ≤ s.1.2.1) ∧ ((s.1.2.1 < (((List.length s.2.1) : Nat) : Int)) ∧ ((inK IntKind.i64 (s.1.2.1 + (1 : Int))) ∧ (next (((), ((s.1.2.1 + (1 : Int)), ())), ((List.set s.2.1 (Int.toNat s.1.2.1) (List.getD a (Int.toNat s.1.2.1) (0 : Int))), ())))))))) (K (s.2.1, ()))))))) (((), ((0 : Int), ())), ((List.replicate (Int.toNat (((List.length a) : Nat) : Int)) (0 : Int)), ())))))))
theorem w_laws_toInt64S (x : denL c_laws_toInt64S.args) (K : (List Int) × Unit → Prop) : evF tab (lkp []) (cutL []) Try.f53 (bodyOf Try.f53) (.s .n (.s .n (.s (.s .n (.l [(3, (.ref 7 [])), (4, (.d (.int .i64)))] [(7, (.sl (.fz (.int .i64))))] [0] .n)) .n))) c_laws_toInt64S x K = W_laws_toInt64S x.1 K := by kernel_rfl
theorem k_laws_toInt64S : okC Try.f53.ntmps (cutL []) (bodyOf Try.f53) = true := by kernel_rfl
theorem m_laws_toInt64S (a : List Int) (hok : allP (okL c_laws_toInt64S.args (a, ()))) (hpre : allP (c_laws_toInt64S.pre (a, ()))) : W_laws_toInt64S a (fun r => r = c_laws_toInt64S.res (a, ())) := by
  simp only [c_laws_toInt64S, okL, T.oks, T.ok, ap, allP, true_and, and_true, implies_true] at hok hpre
  try dsimp only [T.den] at hok
  try dsimp only [T.den] at hpre
  unfold W_laws_toInt64S
  rw [wR_sl] at hpre
  refine ⟨by omega, by omega, by first | omega | (rw [nb_eq]; omega), by first | omega | (rw [nb_eq]; omega), ?_⟩
  refine loop_of (fun (s : ((Unit × (Int × Unit)) × ((List Int) × Unit))) => 0 ≤ s.1.2.1 ∧ s.1.2.1 ≤ a.length ∧ s.2.1.length = a.length ∧ s.2.1.take s.1.2.1.toNat = a.take s.1.2.1.toNat) (fun (s : ((Unit × (Int × Unit)) × ((List Int) × Unit))) => (a.length - s.1.2.1).toNat) ?_ (by simp)
  rintro ⟨⟨_, i, _⟩, l, _⟩ next ⟨h0, h1, h2, h3⟩ hn hin hl
  simp only at h0 h1 h2 h3 hn ⊢
  refine cnd_d (fun hc => ?_) (fun hc => ?_)
  · refine ⟨by omega, by omega, by omega, by omega, by grind [cnd, nb_eq, inK64], hn _ ⟨(by first | omega | (dsimp only; omega)), (by first | omega | (dsimp only; omega)), by simp [h2], ?_⟩ (by first | omega | (dsimp only; omega))⟩
    simp only
    rw [take_c a (0 : Int) h0 hc, ← h3]
    exact take_set l h0 (by omega) _
  · rw [take_n a (by omega), take_n l (by omega)] at h3
    simp [h3, c_laws_toInt64S]
theorem ct_laws_toInt64S : CtOk Try.prog 53 c_laws_toInt64S :=
  ct_by (Φ := lkp []) good_nil tab_ok (by kernel_rfl) (fn := Try.f53) (c := bodyOf Try.f53) (by kernel_rfl) (by kernel_rfl) (by kernel_rfl) c_laws_toInt64S rfl (.s .n (.s .n (.s (.s .n (.l [(3, (.ref 7 [])), (4, (.d (.int .i64)))] [(7, (.sl (.fz (.int .i64))))] [0] .n)) .n))) (cutL []) (by kernel_rfl) (by kernel_rfl) k_laws_toInt64S (by decide) (fun x K => W_laws_toInt64S x.1 K) w_laws_toInt64S (fun x h1 h2 => m_laws_toInt64S x.1 h1 h2)
def c_laws_toInt64SS : Ct := ⟨[(.sl (.sl (.int .i64)))], [false], fun x => [wR (.sl (.sl (.int .i64))) x.1 ≤ 1099511627776], [(false, (.sl (.sl (.fz (.int .i64)))))], fun x => (x.1, ()), false, none⟩
def W_laws_toInt64SS (a : List (List Int)) (K : (List (List Int)) × Unit → Prop) : Prop := (((0 : Int) ≤ (((List.length a) : Nat) : Int)) ∧ (((((List.length a) : Nat) : Int) ≤ (((List.length a) : Nat) : Int)) ∧ (((((List.length a) : Nat) : Int) ≤ ((140737488355328 : Nat) : Int)) ∧ ((((((List.length a) : Nat) : Int) * ((24 : Nat) : Int)) ≤ ((140737488355328 : Nat) : Int)) ∧ (loopW (S := ((Unit × (Int × Unit)) × ((List (List Int)) × Unit))) (fun s => (fun next => ((inK IntKind.i64 s.1.2.1) → ((T.ok (T.sl (T.sl (T.int IntKind.i64))) s.2.1) → (cnd (decide (s.1.2.1 < (((List.length a) : Nat) : Int))) (((0 : Int) ≤ s.1.2.1) ∧ ((s.1.2.1 < (((List.length a) : Nat) : Int)) ∧ (((wR (T.sl (T.int IntKind.i64)) (List.getD a (Int.toNat s.1.2.1) ([] : List Int))) ≤ 1099511627776) ∧ (((0 : Int) ≤ s.1.2.1) ∧ ((s.1.2.1 < (((List.length s.2.1) : Nat) : Int)) ∧ ((inK IntKind.i64 (s.1.2.1 + (1 : Int))) ∧ (next (((), ((s.1.2.1 + (1 : Int)), ())), ((List.set s.2.1 (Int.toNat s.1.2.1) (List.getD a (Int.toNat s.1.2.1) ([] : List Int))), ()))))))))) (K (s.2.1, ()))))))) (((), ((0 : Int), ())), ((List.replicate (Int.toNat (((List.length a) : Nat) : Int)) ([] : List Int)), ())))))))
theorem w_laws_toInt64SS (x : denL c_laws_toInt64SS.args) (K : (List (List Int)) × Unit → Prop) : evF tab (lkp [(53, c_laws_toInt64S)]) (cutL []) Try.f63 (bodyOf Try.f63) (.s .n (.s .n (.s (.s .n (.l [(3, (.ref 7 [])), (4, (.d (.int .i64)))] [(7, (.sl (.sl (.fz (.int .i64)))))] [0] .n)) .n))) c_laws_toInt64SS x K = W_laws_toInt64SS x.1 K := by kernel_rfl
theorem k_laws_toInt64SS : okC Try.f63.ntmps (cutL []) (bodyOf Try.f63) = true := by kernel_rfl
theorem m_laws_toInt64SS (a : List (List Int)) (hok : allP (okL c_laws_toInt64SS.args (a, ()))) (hpre : allP (c_laws_toInt64SS.pre (a, ()))) : W_laws_toInt64SS a (fun r => r = c_laws_toInt64SS.res (a, ())) := by
  simp only [c_laws_toInt64SS, okL, T.oks, T.ok, ap, allP, true_and, and_true, implies_true] at hok hpre
  try dsimp only [T.den] at hok
  try dsimp only [T.den] at hpre
  unfold W_laws_toInt64SS
  rw [wR_sl] at hpre
  refine ⟨by omega, by omega, by first | omega | (rw [nb_eq]; omega), by first | omega | (rw [nb_eq]; omega), ?_⟩
  refine loop_of (fun (s : ((Unit × (Int × Unit)) × ((List (List Int)) × Unit))) => 0 ≤ s.1.2.1 ∧ s.1.2.1 ≤ a.length ∧ s.2.1.length = a.length ∧ s.2.1.take s.1.2.1.toNat = a.take s.1.2.1.toNat) (fun (s : ((Unit × (Int × Unit)) × ((List (List Int)) × Unit))) => (a.length - s.1.2.1).toNat) ?_ (by simp)
  rintro ⟨⟨_, i, _⟩, l, _⟩ next ⟨h0, h1, h2, h3⟩ hn hin hl
  simp only at h0 h1 h2 h3 hn ⊢
  refine cnd_d (fun hc => ?_) (fun hc => ?_)
  · have hm := wR_mem (e := (.sl (.int .i64))) (getD_mem a ([] : List Int) h0 hc)
    refine ⟨by omega, by omega, by omega, by omega, by omega, by grind [cnd, nb_eq, inK64], hn _ ⟨(by first | omega | (dsimp only; omega)), (by first | omega | (dsimp only; omega)), by simp [h2], ?_⟩ (by first | omega | (dsimp only; omega))⟩
    simp only
    rw [take_c a ([] : List Int) h0 hc, ← h3]
    exact take_set l h0 (by omega) _
  · rw [take_n a (by omega), take_n l (by omega)] at h3
    simp [h3, c_laws_toInt64SS]
theorem ct_laws_toInt64SS : CtOk Try.prog 63 c_laws_toInt64SS :=
  ct_by (Φ := lkp [(53, c_laws_toInt64S)]) (good_cons ct_laws_toInt64S good_nil) tab_ok (by kernel_rfl) (fn := Try.f63) (c := bodyOf Try.f63) (by kernel_rfl) (by kernel_rfl) (by kernel_rfl) c_laws_toInt64SS rfl (.s .n (.s .n (.s (.s .n (.l [(3, (.ref 7 [])), (4, (.d (.int .i64)))] [(7, (.sl (.sl (.fz (.int .i64)))))] [0] .n)) .n))) (cutL []) (by kernel_rfl) (by kernel_rfl) k_laws_toInt64SS (by decide) (fun x K => W_laws_toInt64SS x.1 K) w_laws_toInt64SS (fun x h1 h2 => m_laws_toInt64SS x.1 h1 h2)
def c_laws_toCategory : Ct := ⟨[CategoryT], [true], fun x => [wR CategoryT x.1 ≤ 1099511627776], [(true, CategoryO)], fun x => (x.1, ()), false, none⟩
def W_laws_toCategory (a : CategoryD) (K : CategoryD × Unit → Prop) : Prop := (((wR (T.sl (T.int IntKind.i64)) a.2.1) ≤ 1099511627776) ∧ (((wR (T.sl (T.int IntKind.i64)) a.2.2.1) ≤ 1099511627776) ∧ (((wR (T.sl (T.int IntKind.i64)) a.2.2.2.1) ≤ 1099511627776) ∧ (((wR (T.sl (T.sl (T.int IntKind.i64))) a.2.2.2.2) ≤ 1099511627776) ∧ (K (a, ()))))))
theorem w_laws_toCategory (x : denL c_laws_toCategory.args) (K : CategoryD × Unit → Prop) : evF tab (lkp [(53, c_laws_toInt64S), (63, c_laws_toInt64SS)]) (cutL []) Try.f52 (bodyOf Try.f52) .n c_laws_toCategory x K = W_laws_toCategory x.1 K := by kernel_rfl
theorem k_laws_toCategory : okC Try.f52.ntmps (cutL []) (bodyOf Try.f52) = true := by kernel_rfl
theorem m_laws_toCategory (a : CategoryD) (hok : allP (okL c_laws_toCategory.args (a, ()))) (hpre : allP (c_laws_toCategory.pre (a, ()))) : W_laws_toCategory a (fun r => r = c_laws_toCategory.res (a, ())) := by
  simp only [c_laws_toCategory, okL, T.oks, T.ok, ap, allP, true_and, and_true, implies_true] at hok hpre
  try dsimp only [T.den] at hok
  try dsimp only [T.den] at hpre
  unfold W_laws_toCategory
  simp only [wR_p, wR_int, wR_bool] at hpre
  repeat' apply And.intro
  all_goals first | rfl | ((try simp only [wR_p, wR_int, wR_bool]); omega)
theorem ct_laws_toCategory : CtOk Try.prog 52 c_laws_toCategory :=
  ct_by (Φ := lkp [(53, c_laws_toInt64S), (63, c_laws_toInt64SS)]) (good_cons ct_laws_toInt64S (good_cons ct_laws_toInt64SS good_nil)) tab_ok (by kernel_rfl) (fn := Try.f52) (c := bodyOf Try.f52) (by kernel_rfl) (by kernel_rfl) (by kernel_rfl) c_laws_toCategory rfl .n (cutL []) (by kernel_rfl) (by kernel_rfl) k_laws_toCategory (by decide) (fun x K => W_laws_toCategory x.1 K) w_laws_toCategory (fun x h1 h2 => m_laws_toCategory x.1 h1 h2)
def c_laws_toMonoidal : Ct := ⟨[MonoidalT], [true], fun x => [wR MonoidalT x.1 ≤ 1099511627776], [(true, MonoidalO)], fun x => (x.1, ()), false, none⟩
def W_laws_toMonoidal (a : MonoidalD) (K : MonoidalD × Unit → Prop) : Prop := (((wR CategoryT a.1) ≤ 1099511627776) ∧ (((wR (T.sl (T.sl (T.int IntKind.i64))) a.2.2.1) ≤ 1099511627776) ∧ (((wR (T.sl (T.sl (T.int IntKind.i64))) a.2.2.2) ≤ 1099511627776) ∧ (K (a, ())))))
theorem w_laws_toMonoidal (x : denL c_laws_toMonoidal.args) (K : MonoidalD × Unit → Prop) : evF tab (lkp [(52, c_laws_toCategory), (63, c_laws_toInt64SS)]) (cutL []) Try.f26 (bodyOf Try.f26) .n c_laws_toMonoidal x K = W_laws_toMonoidal x.1 K := by kernel_rfl
theorem k_laws_toMonoidal : okC Try.f26.ntmps (cutL []) (bodyOf Try.f26) = true := by kernel_rfl
theorem m_laws_toMonoidal (a : MonoidalD) (hok : allP (okL c_laws_toMonoidal.args (a, ()))) (hpre : allP (c_laws_toMonoidal.pre (a, ()))) : W_laws_toMonoidal a (fun r => r = c_laws_toMonoidal.res (a, ())) := by
  simp only [c_laws_toMonoidal, okL, T.oks, T.ok, ap, allP, true_and, and_true, implies_true] at hok hpre
  try dsimp only [T.den] at hok
  try dsimp only [T.den] at hpre
  unfold W_laws_toMonoidal
  simp only [wR_p, wR_int, wR_bool] at hpre
  repeat' apply And.intro
  all_goals first | rfl | ((try simp only [wR_p, wR_int, wR_bool]); omega)
theorem ct_laws_toMonoidal : CtOk Try.prog 26 c_laws_toMonoidal :=
  ct_by (Φ := lkp [(52, c_laws_toCategory), (63, c_laws_toInt64SS)]) (good_cons ct_laws_toCategory (good_cons ct_laws_toInt64SS good_nil)) tab_ok (by kernel_rfl) (fn := Try.f26) (c := bodyOf Try.f26) (by kernel_rfl) (by kernel_rfl) (by kernel_rfl) c_laws_toMonoidal rfl .n (cutL []) (by kernel_rfl) (by kernel_rfl) k_laws_toMonoidal (by decide) (fun x K => W_laws_toMonoidal x.1 K) w_laws_toMonoidal (fun x h1 h2 => m_laws_toMonoidal x.1 h1 h2)
def c_spec_l01In : Ct := ⟨[(.int .i64), (.int .i64), (.int .i64)], [false, false, false], fun x => [], [(false, (.fz .bool))], fun x => (inR x.1 x.2.1 x.2.2.1, ()), false, none⟩
def W_spec_l01In (n : Int) (low : Int) (high : Int) (K : Bool × Unit → Prop) : Prop := (K (((decide (low ≤ n)) && (decide (n ≤ high))), ()))
theorem w_spec_l01In (x : denL c_spec_l01In.args) (K : Bool × Unit → Prop) : evF tab (lkp []) (cutL []) Try.f161 (bodyOf Try.f161) .n c_spec_l01In x K = W_spec_l01In x.1 x.2.1 x.2.2.1 K := by kernel_rfl
theorem k_spec_l01In : okC Try.f161.ntmps (cutL []) (bodyOf Try.f161) = true := by kernel_rfl
theorem m_spec_l01In (n : Int) (low : Int) (high : Int) (hok : allP (okL c_spec_l01In.args (n, low, high, ()))) (hpre : allP (c_spec_l01In.pre (n, low, high, ()))) : W_spec_l01In n low high (fun r => r = c_spec_l01In.res (n, low, high, ())) := by
  simp only [c_spec_l01In, okL, T.oks, T.ok, ap, allP, true_and, and_true, implies_true] at hok hpre
  try dsimp only [T.den] at hok
  try dsimp only [T.den] at hpre
  unfold W_spec_l01In
  grind [cnd, nb_eq, inK64, c_spec_l01In, inR]
theorem ct_spec_l01In : CtOk Try.prog 161 c_spec_l01In :=
  ct_by (Φ := lkp []) good_nil tab_ok (by kernel_rfl) (fn := Try.f161) (c := bodyOf Try.f161) (by kernel_rfl) (by kernel_rfl) (by kernel_rfl) c_spec_l01In rfl .n (cutL []) (by kernel_rfl) (by kernel_rfl) k_spec_l01In (by decide) (fun x K => W_spec_l01In x.1 x.2.1 x.2.2.1 K) w_spec_l01In (fun x h1 h2 => m_spec_l01In x.1 x.2.1 x.2.2.1 h1 h2)
def nodeR (x : Int × Int) : Int := if okN x = true then ariN x else -1

def c_spec_l35Node : Ct := ⟨[endsT], [true], fun x => [], [(false, (.fz (.int .i64)))], fun x => (nodeR x.1, ()), false, none⟩
def W_spec_l35Node (x : endsD) (K : Int × Unit → Prop) : Prop := (joinW (S := (Unit × Unit)) (fun s => (K ((-(1 : Int)), ()))) (fun k => (cnd (x.1 == (0 : Int)) (cnd (inR x.2 (0 : Int) (39 : Int)) (K ((0 : Int), ())) (k ((), ()))) (joinW (S := (Unit × Unit)) (fun s => (k ((), ()))) (fun k1 => (cnd (x.1 == (1 : Int)) (cnd (inR x.2 (0 : Int) (7 : Int)) (K ((0 : Int), ())) (k1 ((), ()))) (joinW (S := ((Unit × (Bool × Unit)) × ((Int × Int) × Unit))) (fun s => ((inK IntKind.i64 s.2.1.1) → ((inK IntKind.i64 s.2.1.2) → (joinW (S := (Unit × Unit)) (fun s1 => (k1 ((), ()))) (fun k2 => (cnd s.1.2.1 (cnd (s.2.1.2 == (0 : Int)) (K ((2 : Int), ())) (k2 ((), ()))) (k2 ((), ())))))))) (fun k2 => (cnd (x.1 == (2 : Int)) (k2 (((), ((x.1 == (2 : Int)), ())), (x, ()))) (k2 (((), ((x.1 == (3 : Int)), ())), (x, ()))))))))))))
theorem w_spec_l35Node (x : denL c_spec_l35Node.args) (K : Int × Unit → Prop) : evF tab (lkp [(161, c_spec_l01In)]) (cutL []) Try.f142 (bodyOf Try.f142) (.s .n (.s (.s .n (.s .n (.j [] [] [] (.s .n (.s .n (.j [] [] [] (.s .n (.s (.s .n (.j [(1, (.ad 1 [.de])), (15, (.d .bool))] [(1, (.pt (.fz (.p (.int .i64) (.int .i64)))))] [] .n)) (.j [] [] [] .n))))))))) .n)) c_spec_l35Node x K = W_spec_l35Node x.1 K := by kernel_rfl
theorem k_spec_l35Node : okC Try.f142.ntmps (cutL []) (bodyOf Try.f142) = true := by kernel_rfl
theorem m_spec_l35Node (x : endsD) (hok : allP (okL c_spec_l35Node.args (x, ()))) (hpre : allP (c_spec_l35Node.pre (x, ()))) : W_spec_l35Node x (fun r => r = c_spec_l35Node.res (x, ())) := by
  simp only [c_spec_l35Node, okL, T.oks, T.ok, ap, allP, true_and, and_true, implies_true] at hok hpre
  try dsimp only [T.den] at hok
  try dsimp only [T.den] at hpre
  unfold W_spec_l35Node
  have hr : c_spec_l35Node.res (x, ()) = (nodeR x, ()) := rfl
  have ha : nodeR x = if okN x = true then ariN x else -1 := rfl
  have hb : ariN x = if x.1 ≥ 2 then 2 else 0 := rfl
  have hc : okN x = ((x.1 == 0 && inR x.2 0 39) || (x.1 == 1 && inR x.2 0 7) || ((x.1 == 2 || x.1 == 3) && x.2 == 0)) := rfl
  rw [hr]
  simp only [joinW]
  obtain ⟨k, y⟩ := x
  try dsimp only at *
  grind [cnd]
theorem ct_spec_l35Node : CtOk Try.prog 142 c_spec_l35Node :=
  ct_by (Φ := lkp [(161, c_spec_l01In)]) (good_cons ct_spec_l01In good_nil) tab_ok (by kernel_rfl) (fn := Try.f142) (c := bodyOf Try.f142) (by kernel_rfl) (by kernel_rfl) (by kernel_rfl) c_spec_l35Node rfl (.s .n (.s (.s .n (.s .n (.j [] [] [] (.s .n (.s .n (.j [] [] [] (.s .n (.s (.s .n (.j [(1, (.ad 1 [.de])), (15, (.d .bool))] [(1, (.pt (.fz (.p (.int .i64) (.int .i64)))))] [] .n)) (.j [] [] [] .n))))))))) .n)) (cutL []) (by kernel_rfl) (by kernel_rfl) k_spec_l35Node (by decide) (fun x K => W_spec_l35Node x.1 K) w_spec_l35Node (fun x h1 h2 => m_spec_l35Node x.1 h1 h2)
def c_spec_IsDiagram : Ct := ⟨[(.sl endsT)], [false], fun x => [], [(false, (.fz .bool))], fun x => (diagR x.1, ()), false, none⟩
def W_spec_IsDiagram (d : List endsD) (K : Bool × Unit → Prop) : Prop := (cnd (decide ((40 : Int) < (((List.length d) : Nat) : Int))) (K (Bool.false, ())) (loopW (S := ((Int × (Int × Unit)) × Unit)) (fun s => (fun next => ((inK IntKind.i64 s.1.1) → ((inK IntKind.i64 s.1.2.1) → (cnd (decide (s.1.2.1 < (((List.length d) : Nat) : Int))) (((0 : Int) ≤ s.1.2.1) ∧ ((s.1.2.1 < (((List.length d) : Nat) : Int)) ∧ (cnd ((decide ((nodeR (List.getD d (Int.toNat s.1.2.1) ((0 : Int), (0 : Int)))) < (0 : Int))) || (s.1.1 == (0 : Int))) (K (Bool.false, ())) ((inK IntKind.i64 (s.1.1 - (1 : Int))) ∧ ((inK IntKind.i64 ((s.1.1 - (1 : Int)) + (nodeR (List.getD d (Int.toNat s.1.2.1) ((0 : Int), (0 : Int)))))) ∧ ((inK IntKind.i64 (s.1.2.1 + (1 : Int))) ∧ (next ((((s.1.1 - (1 : Int)) + (nodeR (List.getD d (Int.toNat s.1.2.1) ((0 : Int), (0 : Int))))), ((s.1.2.1 + (1 : Int)), ())), ())))))))) (K ((s.1.1 == (0 : Int)), ()))))))) (((1 : Int), ((0 : Int), ())), ())))
theorem w_spec_IsDiagram (x : denL c_spec_IsDiagram.args) (K : Bool × Unit → Prop) : evF tab (lkp [(142, c_spec_l35Node)]) (cutL []) Try.f104 (bodyOf Try.f104) (.s .n (.s .n (.s .n (.s (.s .n (.l [(3, (.d (.int .i64))), (4, (.d (.int .i64)))] [] [0] .n)) .n)))) c_spec_IsDiagram x K = W_spec_IsDiagram x.1 K := by kernel_rfl
theorem k_spec_IsDiagram : okC Try.f104.ntmps (cutL []) (bodyOf Try.f104) = true := by kernel_rfl
theorem m_spec_IsDiagram (d : List endsD) (hok : allP (okL c_spec_IsDiagram.args (d, ()))) (hpre : allP (c_spec_IsDiagram.pre (d, ()))) : W_spec_IsDiagram d (fun r => r = c_spec_IsDiagram.res (d, ())) := by
  simp only [c_spec_IsDiagram, okL, T.oks, T.ok, ap, allP, true_and, and_true, implies_true] at hok hpre
  try dsimp only [T.den] at hok
  try dsimp only [T.den] at hpre
  unfold W_spec_IsDiagram
  have hl : d.length ≤ 140737488355328 := by simp only [nb_eq] at hok; omega
  have res : ∀ b, diagR d = b → (b, ()) = c_spec_IsDiagram.res (d, ()) := fun b h => by simp only [c_spec_IsDiagram, h]
  refine cnd_d (fun hc => res _ ?_) (fun hc => ?_)
  · simp only [diagR, show decide (d.length ≤ 40) = false from decide_eq_false (by omega), Bool.false_and]
  refine loop_of (fun (s : ((Int × (Int × Unit)) × Unit)) => 0 ≤ s.1.2.1 ∧ s.1.2.1 ≤ d.length ∧ 0 ≤ s.1.1 ∧ s.1.1 ≤ 1 + s.1.2.1 ∧ (d.take s.1.2.1.toNat).all okN = true ∧ endR (d.drop s.1.2.1.toNat) s.1.1 s.1.2.1 = endR d 1 0) (fun (s : ((Int × (Int × Unit)) × Unit)) => (d.length - s.1.2.1).toNat) ?_ ⟨by simp, by simp, by simp, by simp, by simp, by simp⟩
  rintro ⟨⟨o, i, _⟩, _⟩ next ⟨h0, h1, h2, h3, h4, h5⟩ hn hin1 hin2
  try dsimp only at h0 h1 h2 h3 h4 h5 hn ⊢
  refine cnd_d (fun hd => ⟨h0, by omega, ?_⟩) (fun hd => ?_)
  · have hdc := drop_c d (0, 0) h0 (by omega)
    have hat := all_take (p := okN) d (0, 0) h0 (by omega)
    rw [h4, Bool.true_and] at hat
    have hnode : nodeR (d.getD i.toNat (0, 0)) = if okN (d.getD i.toNat (0, 0)) = true then ariN (d.getD i.toNat (0, 0)) else -1 := rfl
    have hr : 0 ≤ ariN (d.getD i.toNat (0, 0)) ∧ ariN (d.getD i.toNat (0, 0)) ≤ 2 := by unfold ariN; split <;> omega
    refine cnd_of (fun hx => res _ ?_) (fun hx => ?_)
    · simp only [Bool.or_eq_true, decide_eq_true_eq, beq_iff_eq] at hx
      rcases hx with hx | hx
      · have hk : okN (d.getD i.toNat (0, 0)) = false := by
          cases hk : okN (d.getD i.toNat (0, 0)) with
          | false => rfl
          | true => rw [hk, if_pos rfl] at hnode; omega
        have : d.all okN = false := by
          rw [hk] at hat
          rw [← List.take_append_drop (i + 1).toNat d, List.all_append, hat, Bool.false_and]
        simp only [diagR, this, Bool.and_false, Bool.false_and]
      · subst hx
        rw [end_0] at h5
        have : (endR d 1 0 == (d.length : Int)) = false := by rw [← h5, beq_eq_false_iff_ne]; omega
        simp only [diagR, this, Bool.and_false]
    · simp only [Bool.or_eq_false_iff, decide_eq_false_iff_not, beq_eq_false_iff_ne] at hx
      have hk : okN (d.getD i.toNat (0, 0)) = true := by
        cases hk : okN (d.getD i.toNat (0, 0)) with
        | true => rfl
        | false => rw [hk, if_neg (by simp)] at hnode; omega
      rw [hk, if_pos rfl] at hnode
      rw [hdc, endR, if_neg (by omega)] at h5
      refine ⟨by rw [inK64]; (try dsimp only); omega, by rw [inK64]; (try dsimp only); omega, by rw [inK64]; (try dsimp only); omega, hn _ ⟨(by first | omega | (dsimp only; omega)), (by first | omega | (dsimp only; omega)), ?_, ?_, ?_, ?_⟩ (by first | omega | (dsimp only; omega))⟩
      · try dsimp only; omega
      · try dsimp only; omega
      · try dsimp only; rw [hat, hk]
      · try dsimp only; rw [hnode]; exact h5
  · have hi : i = d.length := by omega
    subst hi
    rw [drop_n d (by omega)] at h5
    refine res _ ?_
    rw [List.take_of_length_le (by omega)] at h4
    simp only [diagR, h4, show decide (d.length ≤ 40) = true from decide_eq_true (by omega), Bool.true_and, ← h5]
    unfold endR
    rw [Bool.eq_iff_iff]
    simp only [beq_iff_eq]
    split <;> omega
theorem ct_spec_IsDiagram : CtOk Try.prog 104 c_spec_IsDiagram :=
  ct_by (Φ := lkp [(142, c_spec_l35Node)]) (good_cons ct_spec_l35Node good_nil) tab_ok (by kernel_rfl) (fn := Try.f104) (c := bodyOf Try.f104) (by kernel_rfl) (by kernel_rfl) (by kernel_rfl) c_spec_IsDiagram rfl (.s .n (.s .n (.s .n (.s (.s .n (.l [(3, (.d (.int .i64))), (4, (.d (.int .i64)))] [] [0] .n)) .n)))) (cutL []) (by kernel_rfl) (by kernel_rfl) k_spec_IsDiagram (by decide) (fun x K => W_spec_IsDiagram x.1 K) w_spec_IsDiagram (fun x h1 h2 => m_spec_IsDiagram x.1 h1 h2)
def c_spec_l02Arrow : Ct := ⟨[CategoryT, (.int .i64)], [true, false], fun x => [], [(false, (.fz .bool))], fun x => (inR x.2.1 0 (x.1.2.1.length - 1), ()), false, none⟩
def W_spec_l02Arrow (c : CategoryD) (f : Int) (K : Bool × Unit → Prop) : Prop := (K (((decide ((0 : Int) ≤ f)) && (decide (f < (((List.length c.2.1) : Nat) : Int)))), ()))
theorem w_spec_l02Arrow (x : denL c_spec_l02Arrow.args) (K : Bool × Unit → Prop) : evF tab (lkp []) (cutL []) Try.f105 (bodyOf Try.f105) .n c_spec_l02Arrow x K = W_spec_l02Arrow x.1 x.2.1 K := by kernel_rfl
theorem k_spec_l02Arrow : okC Try.f105.ntmps (cutL []) (bodyOf Try.f105) = true := by kernel_rfl
theorem m_spec_l02Arrow (c : CategoryD) (f : Int) (hok : allP (okL c_spec_l02Arrow.args (c, f, ()))) (hpre : allP (c_spec_l02Arrow.pre (c, f, ()))) : W_spec_l02Arrow c f (fun r => r = c_spec_l02Arrow.res (c, f, ())) := by
  simp only [c_spec_l02Arrow, okL, T.oks, T.ok, ap, allP, true_and, and_true, implies_true] at hok hpre
  try dsimp only [T.den] at hok
  try dsimp only [T.den] at hpre
  unfold W_spec_l02Arrow
  simp only [c_spec_l02Arrow, inR]
  grind [cnd, nb_eq, inK64]
theorem ct_spec_l02Arrow : CtOk Try.prog 105 c_spec_l02Arrow :=
  ct_by (Φ := lkp []) good_nil tab_ok (by kernel_rfl) (fn := Try.f105) (c := bodyOf Try.f105) (by kernel_rfl) (by kernel_rfl) (by kernel_rfl) c_spec_l02Arrow rfl .n (cutL []) (by kernel_rfl) (by kernel_rfl) k_spec_l02Arrow (by decide) (fun x K => W_spec_l02Arrow x.1 x.2.1 K) w_spec_l02Arrow (fun x h1 h2 => m_spec_l02Arrow x.1 x.2.1 h1 h2)
def c_spec_l02Object : Ct := ⟨[CategoryT, (.int .i64)], [true, false], fun x => [], [(false, (.fz .bool))], fun x => ((decide (0 ≤ x.2.1) && decide (x.2.1 < x.1.1)), ()), false, none⟩
def W_spec_l02Object (c : CategoryD) (x : Int) (K : Bool × Unit → Prop) : Prop := (K (((decide ((0 : Int) ≤ x)) && (decide (x < c.1))), ()))
theorem w_spec_l02Object (x : denL c_spec_l02Object.args) (K : Bool × Unit → Prop) : evF tab (lkp []) (cutL []) Try.f106 (bodyOf Try.f106) .n c_spec_l02Object x K = W_spec_l02Object x.1 x.2.1 K := by kernel_rfl
theorem k_spec_l02Object : okC Try.f106.ntmps (cutL []) (bodyOf Try.f106) = true := by kernel_rfl
theorem m_spec_l02Object (c : CategoryD) (x : Int) (hok : allP (okL c_spec_l02Object.args (c, x, ()))) (hpre : allP (c_spec_l02Object.pre (c, x, ()))) : W_spec_l02Object c x (fun r => r = c_spec_l02Object.res (c, x, ())) := by
  simp only [c_spec_l02Object, okL, T.oks, T.ok, ap, allP, true_and, and_true, implies_true] at hok hpre
  try dsimp only [T.den] at hok
  try dsimp only [T.den] at hpre
  unfold W_spec_l02Object
  grind [cnd, nb_eq, inK64, c_spec_l02Object]
theorem ct_spec_l02Object : CtOk Try.prog 106 c_spec_l02Object :=
  ct_by (Φ := lkp []) good_nil tab_ok (by kernel_rfl) (fn := Try.f106) (c := bodyOf Try.f106) (by kernel_rfl) (by kernel_rfl) (by kernel_rfl) c_spec_l02Object rfl .n (cutL []) (by kernel_rfl) (by kernel_rfl) k_spec_l02Object (by decide) (fun x K => W_spec_l02Object x.1 x.2.1 K) w_spec_l02Object (fun x h1 h2 => m_spec_l02Object x.1 x.2.1 h1 h2)
def c_spec_l01Map : Ct := ⟨[(.int .i64), (.sl (.int .i64))], [false, false], fun x => [], [(false, (.fz .bool))], fun x => (withinR x.2.1 x.1, ()), false, none⟩
def W_spec_l01Map (n : Int) (f : List Int) (K : Bool × Unit → Prop) : Prop := (loopW (S := ((Int × Unit) × Unit)) (fun s => (fun next => ((inK IntKind.i64 s.1.1) → (cnd (decide (s.1.1 < (((List.length f) : Nat) : Int))) (((0 : Int) ≤ s.1.1) ∧ ((s.1.1 < (((List.length f) : Nat) : Int)) ∧ ((((decide ((List.getD f (Int.toNat s.1.1) (0 : Int)) < (0 : Int))) = Bool.false) → ((s.1.1 < (((List.length f) : Nat) : Int)) ∧ ((0 : Int) ≤ s.1.1))) ∧ (cnd ((decide ((List.getD f (Int.toNat s.1.1) (0 : Int)) < (0 : Int))) || (decide (n ≤ (List.getD f (Int.toNat s.1.1) (0 : Int))))) (K (Bool.false, ())) ((inK IntKind.i64 (s.1.1 + (1 : Int))) ∧ (next (((s.1.1 + (1 : Int)), ()), ()))))))) (K (Bool.true, ())))))) (((0 : Int), ()), ()))
theorem w_spec_l01Map (x : denL c_spec_l01Map.args) (K : Bool × Unit → Prop) : evF tab (lkp []) (cutL []) Try.f90 (bodyOf Try.f90) (.s .n (.s (.s .n (.l [(5, (.d (.int .i64)))] [] [0, 1] .n)) .n)) c_spec_l01Map x K = W_spec_l01Map x.1 x.2.1 K := by kernel_rfl
theorem k_spec_l01Map : okC Try.f90.ntmps (cutL []) (bodyOf Try.f90) = true := by kernel_rfl
theorem m_spec_l01Map (n : Int) (f : List Int) (hok : allP (okL c_spec_l01Map.args (n, f, ()))) (hpre : allP (c_spec_l01Map.pre (n, f, ()))) : W_spec_l01Map n f (fun r => r = c_spec_l01Map.res (n, f, ())) := by
  simp only [c_spec_l01Map, okL, T.oks, T.ok, ap, allP, true_and, and_true, implies_true] at hok hpre
  try dsimp only [T.den] at hok
  try dsimp only [T.den] at hpre
  unfold W_spec_l01Map
  refine loop_of (fun (s : ((Int × Unit) × Unit)) => 0 ≤ s.1.1 ∧ s.1.1 ≤ f.length ∧ withinR f n = withinR (f.drop s.1.1.toNat) n) (fun (s : ((Int × Unit) × Unit)) => (f.length - s.1.1).toNat) ?_ (by simp)
  rintro ⟨⟨i, _⟩, _⟩ next ⟨h0, h1, h2⟩ hn hin
  simp only at h0 h1 h2 hn ⊢
  refine cnd_d (fun hc => ?_) (fun hc => ?_)
  · rw [drop_c f 0 h0 hc] at h2
    simp only [withinR, List.all_cons] at h2
    grind [cnd, nb_eq, inK64, c_spec_l01Map, withinR, inR]
  · rw [drop_n f (by omega)] at h2
    grind [cnd, nb_eq, inK64, c_spec_l01Map, withinR]
theorem ct_spec_l01Map : CtOk Try.prog 90 c_spec_l01Map :=
  ct_by (Φ := lkp []) good_nil tab_ok (by kernel_rfl) (fn := Try.f90) (c := bodyOf Try.f90) (by kernel_rfl) (by kernel_rfl) (by kernel_rfl) c_spec_l01Map rfl (.s .n (.s (.s .n (.l [(5, (.d (.int .i64)))] [] [0, 1] .n)) .n)) (cutL []) (by kernel_rfl) (by kernel_rfl) k_spec_l01Map (by decide) (fun x K => W_spec_l01Map x.1 x.2.1 K) w_spec_l01Map (fun x h1 h2 => m_spec_l01Map x.1 x.2.1 h1 h2)
def c_spec_l02Ends : Ct := ⟨[(.sl (.int .i64)), (.int .i64), (.int .i64)], [false, false, false], fun x => [], [(false, (.fz .bool))], fun x => ((decide ((x.1.length : Int) = x.2.1) && withinR x.1 x.2.2.1), ()), false, none⟩
def W_spec_l02Ends (list : List Int) (length : Int) (objects : Int) (K : Bool × Unit → Prop) : Prop := (K ((((((List.length list) : Nat) : Int) == length) && (withinR list objects)), ()))
theorem w_spec_l02Ends (x : denL c_spec_l02Ends.args) (K : Bool × Unit → Prop) : evF tab (lkp [(90, c_spec_l01Map)]) (cutL []) Try.f162 (bodyOf Try.f162) .n c_spec_l02Ends x K = W_spec_l02Ends x.1 x.2.1 x.2.2.1 K := by kernel_rfl
theorem k_spec_l02Ends : okC Try.f162.ntmps (cutL []) (bodyOf Try.f162) = true := by kernel_rfl
theorem m_spec_l02Ends (list : List Int) (length : Int) (objects : Int) (hok : allP (okL c_spec_l02Ends.args (list, length, objects, ()))) (hpre : allP (c_spec_l02Ends.pre (list, length, objects, ()))) : W_spec_l02Ends list length objects (fun r => r = c_spec_l02Ends.res (list, length, objects, ())) := by
  simp only [c_spec_l02Ends, okL, T.oks, T.ok, ap, allP, true_and, and_true, implies_true] at hok hpre
  try dsimp only [T.den] at hok
  try dsimp only [T.den] at hpre
  unfold W_spec_l02Ends
  have : ((list.length : Int) == length) = decide ((list.length : Int) = length) := rfl
  simp only [c_spec_l02Ends, this]
theorem ct_spec_l02Ends : CtOk Try.prog 162 c_spec_l02Ends :=
  ct_by (Φ := lkp [(90, c_spec_l01Map)]) (good_cons ct_spec_l01Map good_nil) tab_ok (by kernel_rfl) (fn := Try.f162) (c := bodyOf Try.f162) (by kernel_rfl) (by kernel_rfl) (by kernel_rfl) c_spec_l02Ends rfl .n (cutL []) (by kernel_rfl) (by kernel_rfl) k_spec_l02Ends (by decide) (fun x K => W_spec_l02Ends x.1 x.2.1 x.2.2.1 K) w_spec_l02Ends (fun x h1 h2 => m_spec_l02Ends x.1 x.2.1 x.2.2.1 h1 h2)
def c_spec_IsShape : Ct := ⟨[CategoryT], [true], fun x => [], [(false, (.fz .bool))], fun x => (shapeR x.1, ()), false, none⟩
def W_spec_IsShape (c : CategoryD) (K : Bool × Unit → Prop) : Prop := (cnd (((((!(inR c.1 (0 : Int) (8 : Int))) || (decide ((40 : Int) < (((List.length c.2.1) : Nat) : Int)))) || (!((decide ((((List.length c.2.1) : Nat) : Int) = (((List.length c.2.1) : Nat) : Int))) && (withinR c.2.1 c.1)))) || (!((decide ((((List.length c.2.2.1) : Nat) : Int) = (((List.length c.2.1) : Nat) : Int))) && (withinR c.2.2.1 c.1)))) || ((((List.length c.2.2.2.2) : Nat) : Int) != (((List.length c.2.1) : Nat) : Int))) (K (Bool.false, ())) (cnd (((((List.length c.2.2.2.1) : Nat) : Int) != c.1) || (!(withinR c.2.2.2.1 (((List.length c.2.1) : Nat) : Int)))) (K (Bool.false, ())) (loopW (S := ((Int × Unit) × Unit)) (fun s => (fun next => ((inK IntKind.i64 s.1.1) → (cnd (decide (s.1.1 < c.1)) (((0 : Int) ≤ s.1.1) ∧ ((s.1.1 < (((List.length c.2.2.2.1) : Nat) : Int)) ∧ (((0 : Int) ≤ (List.getD c.2.2.2.1 (Int.toNat s.1.1) (0 : Int))) ∧ (((List.getD c.2.2.2.1 (Int.toNat s.1.1) (0 : Int)) < (((List.length c.2.1) : Nat) : Int)) ∧ (((((List.getD c.2.1 (Int.toNat (List.getD c.2.2.2.1 (Int.toNat s.1.1) (0 : Int))) (0 : Int)) != s.1.1) = Bool.false) → ((s.1.1 < (((List.length c.2.2.2.1) : Nat) : Int)) ∧ ((0 : Int) ≤ s.1.1))) ∧ (((((List.getD c.2.1 (Int.toNat (List.getD c.2.2.2.1 (Int.toNat s.1.1) (0 : Int))) (0 : Int)) != s.1.1) = Bool.false) → (((List.getD c.2.2.2.1 (Int.toNat s.1.1) (0 : Int)) < (((List.length c.2.2.1) : Nat) : Int)) ∧ ((0 : Int) ≤ (List.getD c.2.2.2.1 (Int.toNat s.1.1) (0 : Int))))) ∧ (cnd (((List.getD c.2.1 (Int.toNat (List.getD c.2.2.2.1 (Int.toNat s.1.1) (0 : Int))) (0 : Int)) != s.1.1) || ((List.getD c.2.2.1 (Int.toNat (List.getD c.2.2.2.1 (Int.toNat s.1.1) (0 : Int))) (0 : Int)) != s.1.1)) (K (Bool.false, ())) ((inK IntKind.i64 (s.1.1 + (1 : Int))) ∧ (next (((s.1.1 + (1 : Int)), ()), ())))))))))) (loopW (S := ((Int × Unit) × Unit)) (fun s1 => (fun next1 => ((inK IntKind.i64 s1.1.1) → (cnd (decide (s1.1.1 < (((List.length c.2.1) : Nat) : Int))) (((0 : Int) ≤ s1.1.1) ∧ ((s1.1.1 < (((List.length c.2.2.2.2) : Nat) : Int)) ∧ (cnd ((((List.length (List.getD c.2.2.2.2 (Int.toNat s1.1.1) ([] : List Int))) : Nat) : Int) != (((List.length c.2.1) : Nat) : Int)) (K (Bool.false, ())) (loopW (S := ((Int × Unit) × Unit)) (fun s2 => (fun next2 => ((inK IntKind.i64 s2.1.1) → (cnd (decide (s2.1.1 < (((List.length c.2.1) : Nat) : Int))) (joinW (S := (Unit × Unit)) (fun s3 => ((inK IntKind.i64 (s2.1.1 + (1 : Int))) ∧ (next2 (((s2.1.1 + (1 : Int)), ()), ())))) (fun k => (((0 : Int) ≤ s1.1.1) ∧ ((s1.1.1 < (((List.length c.2.2.2.2) : Nat) : Int)) ∧ (((0 : Int) ≤ s2.1.1) ∧ ((s2.1.1 < (((List.length (List.getD c.2.2.2.2 (Int.toNat s1.1.1) ([] : List Int))) : Nat) : Int)) ∧ (((0 : Int) ≤ s1.1.1) ∧ ((s1.1.1 < (((List.length c.2.2.1) : Nat) : Int)) ∧ (((0 : Int) ≤ s2.1.1) ∧ ((s2.1.1 < (((List.length c.2.1) : Nat) : Int)) ∧ (cnd ((List.getD c.2.2.1 (Int.toNat s1.1.1) (0 : Int)) != (List.getD c.2.1 (Int.toNat s2.1.1) (0 : Int))) (cnd ((List.getD (List.getD c.2.2.2.2 (Int.toNat s1.1.1) ([] : List Int)) (Int.toNat s2.1.1) (0 : Int)) != (-(1 : Int))) (K (Bool.false, ())) (k ((), ()))) (((((decide ((List.getD (List.getD c.2.2.2.2 (Int.toNat s1.1.1) ([] : List Int)) (Int.toNat s2.1.1) (0 : Int)) < (0 : Int))) || (decide ((((List.length c.2.1) : Nat) : Int) ≤ (List.getD (List.getD c.2.2.2.2 (Int.toNat s1.1.1) ([] : List Int)) (Int.toNat s2.1.1) (0 : Int))))) = Bool.false) → (((List.getD (List.getD c.2.2.2.2 (Int.toNat s1.1.1) ([] : List Int)) (Int.toNat s2.1.1) (0 : Int)) < (((List.length c.2.1) : Nat) : Int)) ∧ ((0 : Int) ≤ (List.getD (List.getD c.2.2.2.2 (Int.toNat s1.1.1) ([] : List Int)) (Int.toNat s2.1.1) (0 : Int))))) ∧ (((((decide ((List.getD (List.getD c.2.2.2.2 (Int.toNat s1.1.1) ([] : List Int)) (Int.toNat s2.1.1) (0 : Int)) < (0 : Int))) || (decide ((((List.length c.2.1) : Nat) : Int) ≤ (List.getD (List.getD c.2.2.2.2 (Int.toNat s1.1.1) ([] : List Int)) (Int.toNat s2.1.1) (0 : Int))))) = Bool.false) → ((s1.1.1 < (((List.length c.2.1) : Nat) : Int)) ∧ ((0 : Int) ≤ s1.1.1))) ∧ ((((((decide ((List.getD (List.getD c.2.2.2.2 (Int.toNat s1.1.1) ([] : List Int)) (Int.toNat s2.1.1) (0 : Int)) < (0 : Int))) || (decide ((((List.length c.2.1) : Nat) : Int) ≤ (List.getD (List.getD c.2.2.2.2 (Int.toNat s1.1.1) ([] : List Int)) (Int.toNat s2.1.1) (0 : Int))))) || ((List.getD c.2.1 (Int.toNat (List.getD (List.getD c.2.2.2.2 (Int.toNat s1.1.1) ([] : List Int)) (Int.toNat s2.1.1) (0 : Int))) (0 : Int)) != (List.getD c.2.1 (Int.toNat s1.1.1) (0 : Int)))) = Bool.false) → (((List.getD (List.getD c.2.2.2.2 (Int.toNat s1.1.1) ([] : List Int)) (Int.toNat s2.1.1) (0 : Int)) < (((List.length c.2.2.1) : Nat) : Int)) ∧ ((0 : Int) ≤ (List.getD (List.getD c.2.2.2.2 (Int.toNat s1.1.1) ([] : List Int)) (Int.toNat s2.1.1) (0 : Int))))) ∧ ((((((decide ((List.getD (List.getD c.2.2.2.2 (Int.toNat s1.1.1) ([] : List Int)) (Int.toNat s2.1.1) (0 : Int)) < (0 : Int))) || (decide ((((List.length c.2.1) : Nat) : Int) ≤ (List.getD (List.getD c.2.2.2.2 (Int.toNat s1.1.1) ([] : List Int)) (Int.toNat s2.1.1) (0 : Int))))) || ((List.getD c.2.1 (Int.toNat (List.getD (List.getD c.2.2.2.2 (Int.toNat s1.1.1) ([] : List Int)) (Int.toNat s2.1.1) (0 : Int))) (0 : Int)) != (List.getD c.2.1 (Int.toNat s1.1.1) (0 : Int)))) = Bool.false) → ((s2.1.1 < (((List.length c.2.2.1) : Nat) : Int)) ∧ ((0 : Int) ≤ s2.1.1))) ∧ (cnd ((((decide ((List.getD (List.getD c.2.2.2.2 (Int.toNat s1.1.1) ([] : List Int)) (Int.toNat s2.1.1) (0 : Int)) < (0 : Int))) || (decide ((((List.length c.2.1) : Nat) : Int) ≤ (List.getD (List.getD c.2.2.2.2 (Int.toNat s1.1.1) ([] : List Int)) (Int.toNat s2.1.1) (0 : Int))))) || ((List.getD c.2.1 (Int.toNat (List.getD (List.getD c.2.2.2.2 (Int.toNat s1.1.1) ([] : List Int)) (Int.toNat s2.1.1) (0 : Int))) (0 : Int)) != (List.getD c.2.1 (Int.toNat s1.1.1) (0 : Int)))) || ((List.getD c.2.2.1 (Int.toNat (List.getD (List.getD c.2.2.2.2 (Int.toNat s1.1.1) ([] : List Int)) (Int.toNat s2.1.1) (0 : Int))) (0 : Int)) != (List.getD c.2.2.1 (Int.toNat s2.1.1) (0 : Int)))) (K (Bool.false, ())) (k ((), ())))))))))))))))))) ((inK IntKind.i64 (s1.1.1 + (1 : Int))) ∧ (next1 (((s1.1.1 + (1 : Int)), ()), ()))))))) (((0 : Int), ()), ()))))) (K (Bool.true, ())))))) (((0 : Int), ()), ())))))) (((0 : Int), ()), ()))))
theorem w_spec_IsShape (x : denL c_spec_IsShape.args) (K : Bool × Unit → Prop) : evF tab (lkp [(161, c_spec_l01In), (90, c_spec_l01Map), (162, c_spec_l02Ends)]) (cutL [(20, 11), (23, 33), (9, 24)]) Try.f125 (bodyOf Try.f125) (.s .n (.s .n (.s .n (.s .n (.s (.s .n (.l [(4, (.d (.int .i64)))] [] [1, 3] .n)) (.s (.s .n (.l [(5, (.d (.int .i64)))] [] [1, 3] (.s .n (.s (.s .n (.s .n (.l [(6, (.d (.int .i64)))] [] [1, 3, 5] (.s .n (.s (.j [] [] [1, 3, 5, 6] .n) .n))))) .n)))) .n)))))) c_spec_IsShape x K = W_spec_IsShape x.1 K := by kernel_rfl
theorem k_spec_IsShape : okC Try.f125.ntmps (cutL [(20, 11), (23, 33), (9, 24)]) (bodyOf Try.f125) = true := by kernel_rfl
theorem m_spec_IsShape (c : CategoryD) (hok : allP (okL c_spec_IsShape.args (c, ()))) (hpre : allP (c_spec_IsShape.pre (c, ()))) : W_spec_IsShape c (fun r => r = c_spec_IsShape.res (c, ())) := by
  simp only [c_spec_IsShape, okL, T.oks, T.ok, ap, allP, true_and, and_true, implies_true] at hok hpre
  try dsimp only [T.den] at hok
  try dsimp only [T.den] at hpre
  unfold W_spec_IsShape
  have bad : ¬ ShapeP c → (false, ()) = c_spec_IsShape.res (c, ()) := fun h => by simp only [c_spec_IsShape]; rw [shape_f h]
  refine cnd_of (fun hc => bad fun h => ?_) (fun hc => cnd_of (fun hd => bad fun h => ?_) (fun hd => ?_))
  · have h1 := h.ob; have h2 := h.m; have h3 := h.lt; have h4 := h.fr; have h5 := h.to; have h6 := h.lc; simp only [inR] at hc; grind [cnd, nb_eq, inK64]
  · have h1 := h.li; have h2 := h.ids; grind [cnd, nb_eq, inK64]
  simp only [inR, Bool.or_eq_false_iff, Bool.not_eq_false', Bool.and_eq_true, decide_eq_true_eq, decide_eq_false_iff_not, bne_eq_false_iff_eq] at hc hd
  obtain ⟨⟨⟨⟨hob, hm⟩, _, hfr⟩, hlt, hto⟩, hlc⟩ := hc
  obtain ⟨hli, hids⟩ := hd
  refine loop_ix (n := c.1) (fun x => ∀ y : Int, 0 ≤ y → y < x → c.2.1.getD (c.2.2.2.1.getD y.toNat 0).toNat 0 = y ∧ c.2.2.1.getD (c.2.2.2.1.getD y.toNat 0).toNat 0 = y) (by omega) (by intro y h0 h1; omega) ?_ ?_
  · intro x next h0 h1 hP hn hin
    have hb := within_iff.1 hids x h0 (by omega)
    try dsimp only
    refine cnd_d (fun _ => ⟨h0, by omega, hb.1, hb.2, fun _ => by omega, fun _ => by omega, cnd_of (fun hx => bad fun h => ?_) (fun hx => ?_)⟩) (fun h => absurd h1 h)
    · have := h.idt x h0 (by omega)
      rw [this.1, this.2] at hx
      simp at hx
    · simp only [Bool.or_eq_false_iff, bne_eq_false_iff_eq] at hx
      refine ⟨by rw [inK64]; (try dsimp only); omega, hn fun y y0 y1 => ?_⟩
      by_cases e : y = x
      · rw [e]; exact hx
      · exact hP y y0 (by omega)
  intro next hidt hin
  refine cnd_d (fun h => absurd h (by dsimp only; omega)) (fun _ => ?_)
  refine loop_ix (n := c.2.1.length) (fun f => ∀ f' : Int, 0 ≤ f' → f' < f → (c.2.2.2.2.getD f'.toNat []).length = c.2.1.length ∧ ∀ g : Int, 0 ≤ g → g < c.2.1.length → cellR c f' g = true) (by omega) (by intro y h0 h1; omega) ?_ ?_
  · intro f next h0 h1 hP hn hin
    try dsimp only
    refine cnd_d (fun _ => ⟨h0, by omega, cnd_of (fun hx => bad fun h => ?_) (fun hx => ?_)⟩) (fun h => absurd h1 h)
    · have := h.row f h0 (by omega)
      rw [this] at hx
      simp at hx
    simp only [bne_eq_false_iff_eq] at hx
    refine loop_ix (n := c.2.1.length) (fun g => ∀ g' : Int, 0 ≤ g' → g' < g → cellR c f g' = true) (by omega) (by intro y h0 h1; omega) ?_ ?_
    · intro g next3 g0 g1 hP3 hn3 hin3
      try dsimp only
      refine cnd_d (fun _ => ?_) (fun h => absurd g1 h)
      refine join_of (fun _ => cellR c f g = true) (fun _ hcell => ⟨by rw [inK64]; (try dsimp only); omega, hn3 fun g' y0 y1 => ?_⟩) (fun k hk => ?_)
      · by_cases e : g' = g
        · rw [e]; exact hcell
        · exact hP3 g' y0 (by omega)
      have hcell : ∀ b, cellR c f g = b → b = false → ¬ ShapeP c := fun b h1 h2 h => by
        have := h.cell f g h0 (by omega) g0 (by omega)
        rw [h1, h2] at this; cases this
      have hk' := hk ((), ())
      obtain ⟨v, hv⟩ : ∃ v, (c.2.2.2.2.getD f.toNat []).getD g.toNat 0 = v := ⟨_, rfl⟩
      have hR : cellR c f g = cellQ c f g v := by unfold cellR compR; rw [hv]
      rw [hR] at hk'
      rw [hR] at hcell
      rw [hv]
      clear hP3 hn3 hP hn hk hR hv hidt hok
      refine ⟨h0, by omega, g0, by omega, h0, by omega, g0, by omega, cnd_of (fun ha => cnd_of (fun hb => bad ?_) (fun hb => hk' ?_)) (fun ha => ⟨fun hv => ?_, fun _ => ⟨by omega, h0⟩, fun hv => ?_, fun _ => ⟨by omega, g0⟩, cnd_of (fun hb => bad ?_) (fun hb => hk' ?_)⟩)⟩
      · exact hcell _ rfl (by grind [cnd, nb_eq, inK64, cellQ])
      · grind [cnd, nb_eq, inK64, cellQ]
      · simp only [Bool.or_eq_false_iff, decide_eq_false_iff_not] at hv; omega
      · simp only [Bool.or_eq_false_iff, decide_eq_false_iff_not] at hv; omega
      · exact hcell _ rfl (by grind [cnd, nb_eq, inK64, cellQ])
      · grind [cnd, nb_eq, inK64, cellQ]
    · intro next3 hP3 hin3
      refine cnd_d (fun h => absurd h (by dsimp only; omega)) (fun _ => ⟨by rw [inK64]; (try dsimp only); omega, hn fun f' y0 y1 => ?_⟩)
      by_cases e : f' = f
      · rw [e]; exact ⟨by omega, fun g g0 g1 => hP3 g g0 (by omega)⟩
      · exact hP f' y0 (by omega)
  · intro next2 hP2 hin2
    refine cnd_d (fun h => absurd h (by dsimp only; omega)) (fun _ => ?_)
    simp only [c_spec_IsShape]
    rw [shape_t ⟨hob, by omega, by omega, hfr, hto, by omega, hids, by omega, fun x a b => hidt x a (by omega), fun f a b => (hP2 f a (by omega)).1, fun f g a b d e => (hP2 f a (by omega)).2 g d e⟩]
theorem ct_spec_IsShape : CtOk Try.prog 125 c_spec_IsShape :=
  ct_by (Φ := lkp [(161, c_spec_l01In), (90, c_spec_l01Map), (162, c_spec_l02Ends)]) (good_cons ct_spec_l01In (good_cons ct_spec_l01Map (good_cons ct_spec_l02Ends good_nil))) tab_ok (by kernel_rfl) (fn := Try.f125) (c := bodyOf Try.f125) (by kernel_rfl) (by kernel_rfl) (by kernel_rfl) c_spec_IsShape rfl (.s .n (.s .n (.s .n (.s .n (.s (.s .n (.l [(4, (.d (.int .i64)))] [] [1, 3] .n)) (.s (.s .n (.l [(5, (.d (.int .i64)))] [] [1, 3] (.s .n (.s (.s .n (.s .n (.l [(6, (.d (.int .i64)))] [] [1, 3, 5] (.s .n (.s (.j [] [] [1, 3, 5, 6] .n) .n))))) .n)))) .n)))))) (cutL [(20, 11), (23, 33), (9, 24)]) (by kernel_rfl) (by kernel_rfl) k_spec_IsShape (by decide) (fun x K => W_spec_IsShape x.1 K) w_spec_IsShape (fun x h1 h2 => m_spec_IsShape x.1 h1 h2)
def c_spec_l02Fault : Ct := ⟨[CategoryT], [true], fun x => [ShapeP x.1], [(false, (.fz (.int .i64))), (false, (.fz (.int .i64))), (false, (.fz (.int .i64))), (false, (.fz (.int .i64)))], fun x => ((faultR x.1).1, (faultR x.1).2.1, (faultR x.1).2.2.1, (faultR x.1).2.2.2, ()), false, none⟩
def W_spec_l02Fault (c : CategoryD) (K : Int × Int × Int × Int × Unit → Prop) : Prop := (loopW (S := ((Int × Unit) × Unit)) (fun s => (fun next => ((inK IntKind.i64 s.1.1) → (cnd (decide (s.1.1 < (((List.length c.2.1) : Nat) : Int))) (((0 : Int) ≤ s.1.1) ∧ ((s.1.1 < (((List.length c.2.1) : Nat) : Int)) ∧ (((0 : Int) ≤ (List.getD c.2.1 (Int.toNat s.1.1) (0 : Int))) ∧ (((List.getD c.2.1 (Int.toNat s.1.1) (0 : Int)) < (((List.length c.2.2.2.1) : Nat) : Int)) ∧ (((0 : Int) ≤ (List.getD c.2.2.2.1 (Int.toNat (List.getD c.2.1 (Int.toNat s.1.1) (0 : Int))) (0 : Int))) ∧ (((List.getD c.2.2.2.1 (Int.toNat (List.getD c.2.1 (Int.toNat s.1.1) (0 : Int))) (0 : Int)) < (((List.length c.2.2.2.2) : Nat) : Int)) ∧ (((0 : Int) ≤ s.1.1) ∧ ((s.1.1 < (((List.length (List.getD c.2.2.2.2 (Int.toNat (List.getD c.2.2.2.1 (Int.toNat (List.getD c.2.1 (Int.toNat s.1.1) (0 : Int))) (0 : Int))) ([] : List Int))) : Nat) : Int)) ∧ (((((List.getD (List.getD c.2.2.2.2 (Int.toNat (List.getD c.2.2.2.1 (Int.toNat (List.getD c.2.1 (Int.toNat s.1.1) (0 : Int))) (0 : Int))) ([] : List Int)) (Int.toNat s.1.1) (0 : Int)) != s.1.1) = Bool.false) → ((s.1.1 < (((List.length c.2.2.2.2) : Nat) : Int)) ∧ ((0 : Int) ≤ s.1.1))) ∧ (((((List.getD (List.getD c.2.2.2.2 (Int.toNat (List.getD c.2.2.2.1 (Int.toNat (List.getD c.2.1 (Int.toNat s.1.1) (0 : Int))) (0 : Int))) ([] : List Int)) (Int.toNat s.1.1) (0 : Int)) != s.1.1) = Bool.false) → ((s.1.1 < (((List.length c.2.2.1) : Nat) : Int)) ∧ ((0 : Int) ≤ s.1.1))) ∧ (((((List.getD (List.getD c.2.2.2.2 (Int.toNat (List.getD c.2.2.2.1 (Int.toNat (List.getD c.2.1 (Int.toNat s.1.1) (0 : Int))) (0 : Int))) ([] : List Int)) (Int.toNat s.1.1) (0 : Int)) != s.1.1) = Bool.false) → (((List.getD c.2.2.1 (Int.toNat s.1.1) (0 : Int)) < (((List.length c.2.2.2.1) : Nat) : Int)) ∧ ((0 : Int) ≤ (List.getD c.2.2.1 (Int.toNat s.1.1) (0 : Int))))) ∧ (((((List.getD (List.getD c.2.2.2.2 (Int.toNat (List.getD c.2.2.2.1 (Int.toNat (List.getD c.2.1 (Int.toNat s.1.1) (0 : Int))) (0 : Int))) ([] : List Int)) (Int.toNat s.1.1) (0 : Int)) != s.1.1) = Bool.false) → (((List.getD c.2.2.2.1 (Int.toNat (List.getD c.2.2.1 (Int.toNat s.1.1) (0 : Int))) (0 : Int)) < (((List.length (List.getD c.2.2.2.2 (Int.toNat s.1.1) ([] : List Int))) : Nat) : Int)) ∧ ((0 : Int) ≤ (List.getD c.2.2.2.1 (Int.toNat (List.getD c.2.2.1 (Int.toNat s.1.1) (0 : Int))) (0 : Int))))) ∧ (cnd (((List.getD (List.getD c.2.2.2.2 (Int.toNat (List.getD c.2.2.2.1 (Int.toNat (List.getD c.2.1 (Int.toNat s.1.1) (0 : Int))) (0 : Int))) ([] : List Int)) (Int.toNat s.1.1) (0 : Int)) != s.1.1) || ((List.getD (List.getD c.2.2.2.2 (Int.toNat s.1.1) ([] : List Int)) (Int.toNat (List.getD c.2.2.2.1 (Int.toNat (List.getD c.2.2.1 (Int.toNat s.1.1) (0 : Int))) (0 : Int))) (0 : Int)) != s.1.1)) (K ((1 : Int), (s.1.1, ((0 : Int), ((0 : Int), ()))))) ((inK IntKind.i64 (s.1.1 + (1 : Int))) ∧ (next (((s.1.1 + (1 : Int)), ()), ())))))))))))))))) (loopW (S := ((Int × Unit) × Unit)) (fun s1 => (fun next1 => ((inK IntKind.i64 s1.1.1) → (cnd (decide (s1.1.1 < (((List.length c.2.1) : Nat) : Int))) (loopW (S := ((Int × Unit) × Unit)) (fun s2 => (fun next2 => ((inK IntKind.i64 s2.1.1) → (cnd (decide (s2.1.1 < (((List.length c.2.1) : Nat) : Int))) (joinW (S := (Unit × Unit)) (fun s3 => ((inK IntKind.i64 (s2.1.1 + (1 : Int))) ∧ (next2 (((s2.1.1 + (1 : Int)), ()), ())))) (fun k => (((0 : Int) ≤ s1.1.1) ∧ ((s1.1.1 < (((List.length c.2.2.1) : Nat) : Int)) ∧ (((0 : Int) ≤ s2.1.1) ∧ ((s2.1.1 < (((List.length c.2.1) : Nat) : Int)) ∧ (cnd ((List.getD c.2.2.1 (Int.toNat s1.1.1) (0 : Int)) != (List.getD c.2.1 (Int.toNat s2.1.1) (0 : Int))) (k ((), ())) (loopW (S := ((Int × Unit) × Unit)) (fun s3 => (fun next3 => ((inK IntKind.i64 s3.1.1) → (cnd (decide (s3.1.1 < (((List.length c.2.1) : Nat) : Int))) (((0 : Int) ≤ s2.1.1) ∧ ((s2.1.1 < (((List.length c.2.2.1) : Nat) : Int)) ∧ (((0 : Int) ≤ s3.1.1) ∧ ((s3.1.1 < (((List.length c.2.1) : Nat) : Int)) ∧ (((((List.getD c.2.2.1 (Int.toNat s2.1.1) (0 : Int)) == (List.getD c.2.1 (Int.toNat s3.1.1) (0 : Int))) = Bool.true) → ((s1.1.1 < (((List.length c.2.2.2.2) : Nat) : Int)) ∧ ((0 : Int) ≤ s1.1.1))) ∧ (((((List.getD c.2.2.1 (Int.toNat s2.1.1) (0 : Int)) == (List.getD c.2.1 (Int.toNat s3.1.1) (0 : Int))) = Bool.true) → ((s2.1.1 < (((List.length (List.getD c.2.2.2.2 (Int.toNat s1.1.1) ([] : List Int))) : Nat) : Int)) ∧ ((0 : Int) ≤ s2.1.1))) ∧ (((((List.getD c.2.2.1 (Int.toNat s2.1.1) (0 : Int)) == (List.getD c.2.1 (Int.toNat s3.1.1) (0 : Int))) = Bool.true) → (((List.getD (List.getD c.2.2.2.2 (Int.toNat s1.1.1) ([] : List Int)) (Int.toNat s2.1.1) (0 : Int)) < (((List.length c.2.2.2.2) : Nat) : Int)) ∧ ((0 : Int) ≤ (List.getD (List.getD c.2.2.2.2 (Int.toNat s1.1.1) ([] : List Int)) (Int.toNat s2.1.1) (0 : Int))))) ∧ (((((List.getD c.2.2.1 (Int.toNat s2.1.1) (0 : Int)) == (List.getD c.2.1 (Int.toNat s3.1.1) (0 : Int))) = Bool.true) → ((s3.1.1 < (((List.length (List.getD c.2.2.2.2 (Int.toNat (List.getD (List.getD c.2.2.2.2 (Int.toNat s1.1.1) ([] : List Int)) (Int.toNat s2.1.1) (0 : Int))) ([] : List Int))) : Nat) : Int)) ∧ ((0 : Int) ≤ s3.1.1))) ∧ (((((List.getD c.2.2.1 (Int.toNat s2.1.1) (0 : Int)) == (List.getD c.2.1 (Int.toNat s3.1.1) (0 : Int))) = Bool.true) → ((s1.1.1 < (((List.length c.2.2.2.2) : Nat) : Int)) ∧ ((0 : Int) ≤ s1.1.1))) ∧ (((((List.getD c.2.2.1 (Int.toNat s2.1.1) (0 : Int)) == (List.getD c.2.1 (Int.toNat s3.1.1) (0 : Int))) = Bool.true) → ((s2.1.1 < (((List.length c.2.2.2.2) : Nat) : Int)) ∧ ((0 : Int) ≤ s2.1.1))) ∧ (((((List.getD c.2.2.1 (Int.toNat s2.1.1) (0 : Int)) == (List.getD c.2.1 (Int.toNat s3.1.1) (0 : Int))) = Bool.true) → ((s3.1.1 < (((List.length (List.getD c.2.2.2.2 (Int.toNat s2.1.1) ([] : List Int))) : Nat) : Int)) ∧ ((0 : Int) ≤ s3.1.1))) ∧ (((((List.getD c.2.2.1 (Int.toNat s2.1.1) (0 : Int)) == (List.getD c.2.1 (Int.toNat s3.1.1) (0 : Int))) = Bool.true) → (((List.getD (List.getD c.2.2.2.2 (Int.toNat s2.1.1) ([] : List Int)) (Int.toNat s3.1.1) (0 : Int)) < (((List.length (List.getD c.2.2.2.2 (Int.toNat s1.1.1) ([] : List Int))) : Nat) : Int)) ∧ ((0 : Int) ≤ (List.getD (List.getD c.2.2.2.2 (Int.toNat s2.1.1) ([] : List Int)) (Int.toNat s3.1.1) (0 : Int))))) ∧ (cnd (((List.getD c.2.2.1 (Int.toNat s2.1.1) (0 : Int)) == (List.getD c.2.1 (Int.toNat s3.1.1) (0 : Int))) && ((List.getD (List.getD c.2.2.2.2 (Int.toNat (List.getD (List.getD c.2.2.2.2 (Int.toNat s1.1.1) ([] : List Int)) (Int.toNat s2.1.1) (0 : Int))) ([] : List Int)) (Int.toNat s3.1.1) (0 : Int)) != (List.getD (List.getD c.2.2.2.2 (Int.toNat s1.1.1) ([] : List Int)) (Int.toNat (List.getD (List.getD c.2.2.2.2 (Int.toNat s2.1.1) ([] : List Int)) (Int.toNat s3.1.1) (0 : Int))) (0 : Int)))) (K ((2 : Int), (s1.1.1, (s2.1.1, (s3.1.1, ()))))) ((inK IntKind.i64 (s3.1.1 + (1 : Int))) ∧ (next3 (((s3.1.1 + (1 : Int)), ()), ())))))))))))))))) (k ((), ())))))) (((0 : Int), ()), ()))))))))) ((inK IntKind.i64 (s1.1.1 + (1 : Int))) ∧ (next1 (((s1.1.1 + (1 : Int)), ()), ()))))))) (((0 : Int), ()), ())) (K ((0 : Int), ((0 : Int), ((0 : Int), ((0 : Int), ()))))))))) (((0 : Int), ()), ())))))) (((0 : Int), ()), ()))
theorem w_spec_l02Fault (x : denL c_spec_l02Fault.args) (K : Int × Int × Int × Int × Unit → Prop) : evF tab (lkp []) (cutL [(17, 44), (5, 38), (13, 11)]) Try.f126 (bodyOf Try.f126) (.s .n (.s .n (.s (.s .n (.l [(7, (.d (.int .i64)))] [] [1, 6] .n)) (.s (.s .n (.l [(8, (.d (.int .i64)))] [] [1, 6] (.s .n (.s (.s .n (.l [(9, (.d (.int .i64)))] [] [1, 6, 8] (.s .n (.s (.j [] [] [1, 6, 8, 9] (.s .n (.s .n (.l [(10, (.d (.int .i64)))] [] [1, 6, 8, 9] .n)))) .n)))) .n)))) .n)))) c_spec_l02Fault x K = W_spec_l02Fault x.1 K := by kernel_rfl
theorem k_spec_l02Fault : okC Try.f126.ntmps (cutL [(17, 44), (5, 38), (13, 11)]) (bodyOf Try.f126) = true := by kernel_rfl
theorem m_spec_l02Fault (c : CategoryD) (hok : allP (okL c_spec_l02Fault.args (c, ()))) (hpre : allP (c_spec_l02Fault.pre (c, ()))) : W_spec_l02Fault c (fun r => r = c_spec_l02Fault.res (c, ())) := by
  simp only [c_spec_l02Fault, okL, T.oks, T.ok, ap, allP, true_and, and_true, implies_true] at hok hpre
  try dsimp only [T.den] at hok
  try dsimp only [T.den] at hpre
  unfold W_spec_l02Fault
  have S : ShapeP c := hpre
  have hlt := S.lt
  have hli := S.li
  have hlc := S.lc
  have hmm := S.m
  have resq : ∀ a b d e, faultR c = (a, b, d, e) → (a, b, d, e, ()) = c_spec_l02Fault.res (c, ()) := fun a b d e h => by simp only [c_spec_l02Fault, h]
  have hcr : ∀ f g : Int, (c.2.2.2.2.getD f.toNat []).getD g.toNat 0 = compR c f g := fun _ _ => rfl
  simp only [hcr]
  refine loop_ix (n := c.2.1.length) (fun f => scanR (faultI c) c.2.1.length 0 = scanR (faultI c) ((c.2.1.length : Int) - f).toNat f) (by omega) scan_0 ?_ ?_
  · intro f next h0 h1 hP hn hin
    try dsimp only
    obtain ⟨a1, a2, a3, a4⟩ := S.frm h0 h1
    obtain ⟨b1, b2, _, _⟩ := S.idn a1 a2
    obtain ⟨d1, d2, _, _⟩ := S.idn a3 a4
    have r1 := S.row _ b1 b2
    have r2 := S.row f h0 h1
    refine cnd_d (fun _ => ⟨h0, h1, by omega, by omega, by omega, by omega, h0, by omega, fun _ => by omega, fun _ => by omega, fun _ => by omega, fun _ => by omega, cnd_of (fun hx => resq _ _ _ _ ?_) (fun hx => ⟨by rw [inK64]; (try dsimp only); omega, hn ?_⟩)⟩) (fun h => absurd h1 h)
    · have : faultI c f = some (1, f, 0, 0) := by unfold faultI; rw [if_pos]; simpa using hx
      unfold faultR; rw [hP, scan_s h1 this]; rfl
    · have : faultI c f = none := by unfold faultI; rw [if_neg]; simpa using hx
      rw [hP, scan_c h1 this]
  intro next hI hin
  rw [scan_n] at hI
  refine cnd_d (fun h => absurd h (by dsimp only; omega)) (fun _ => ?_)
  have hF : faultR c = orR (scanR (faultF c) c.2.1.length 0) (0, 0, 0, 0) := by unfold faultR; rw [hI]; rfl
  refine loop_ix (n := c.2.1.length) (fun f => scanR (faultF c) c.2.1.length 0 = scanR (faultF c) ((c.2.1.length : Int) - f).toNat f) (by omega) scan_0 ?_ ?_
  · intro f next h0 h1 hP hn hin
    try dsimp only
    refine cnd_d (fun _ => ?_) (fun h => absurd h1 h)
    have r1 := S.row f h0 h1
    refine loop_ix (n := c.2.1.length) (fun g => faultF c f = scanR (faultG c f) ((c.2.1.length : Int) - g).toNat g) (by omega) scan_0 ?_ ?_
    · intro g next3 g0 g1 hP3 hn3 hin3
      try dsimp only
      refine cnd_d (fun _ => ?_) (fun h => absurd g1 h)
      have r2 := S.row g g0 g1
      refine join_of (fun _ => faultG c f g = none) (fun _ hG => ⟨by rw [inK64]; (try dsimp only); omega, hn3 (by rw [hP3, scan_c g1 hG])⟩) (fun k hk => ?_)
      have hk' := hk ((), ())
      refine ⟨by omega, by omega, by omega, by omega, cnd_of (fun hx => hk' ?_) (fun hx => ?_)⟩
      · unfold faultG; rw [if_neg]; simpa using hx
      have hfg : c.2.2.1.getD f.toNat 0 = c.2.1.getD g.toNat 0 := by rw [bne_eq_false_iff_eq] at hx; exact hx
      obtain ⟨y1, y2, _, _⟩ := S.yes h0 h1 g0 g1 hfg
      refine loop_ix (n := c.2.1.length) (fun h => faultG c f g = scanR (faultH c f g) ((c.2.1.length : Int) - h).toNat h) (by omega) (by unfold faultG; rw [if_pos hfg]; exact scan_0) ?_ ?_
      · intro h next4 i0 i1 hP4 hn4 hin4
        try dsimp only
        refine cnd_d (fun _ => ?_) (fun h => absurd i1 h)
        have r3 := S.row _ y1 y2
        have cgh := S.comp g0 g1 i0 i1
        have ygh := @ShapeP.yes c S g h g0 g1 i0 i1
        refine ⟨by omega, by omega, by omega, by omega, fun _ => by omega, fun _ => by omega, fun _ => by omega, fun _ => by omega, fun _ => by omega, fun _ => by omega, fun _ => by omega, fun he => ?_, cnd_of (fun hx => resq _ _ _ _ ?_) (fun hx => ⟨by rw [inK64]; (try dsimp only); omega, hn4 ?_⟩)⟩
        · have := ygh (by simpa only [beq_iff_eq] using he); omega
        · have : faultH c f g h = some (2, f, g, h) := by unfold faultH; rw [if_pos]; simpa using hx
          have e1 : faultG c f g = some (2, f, g, h) := by rw [hP4, scan_s i1 this]
          have e2 : faultF c f = some (2, f, g, h) := by rw [hP3, scan_s g1 e1]
          rw [hF, hP, scan_s h1 e2]; rfl
        · have : faultH c f g h = none := by unfold faultH; rw [if_neg]; simpa using hx
          rw [hP4, scan_c i1 this]
      · intro next4 hP4 hin4
        rw [scan_n] at hP4
        exact cnd_d (fun h => absurd h (by dsimp only; omega)) (fun _ => hk' hP4)
    · intro next3 hP3 hin3
      rw [scan_n] at hP3
      exact cnd_d (fun h => absurd h (by dsimp only; omega)) (fun _ => ⟨by rw [inK64]; (try dsimp only); omega, hn (by rw [hP, scan_c h1 hP3])⟩)
  · intro next2 hP2 hin2
    rw [scan_n] at hP2
    refine cnd_d (fun h => absurd h (by dsimp only; omega)) (fun _ => resq _ _ _ _ ?_)
    rw [hF, hP2]; rfl
theorem ct_spec_l02Fault : CtOk Try.prog 126 c_spec_l02Fault :=
  ct_by (Φ := lkp []) good_nil tab_ok (by kernel_rfl) (fn := Try.f126) (c := bodyOf Try.f126) (by kernel_rfl) (by kernel_rfl) (by kernel_rfl) c_spec_l02Fault rfl (.s .n (.s .n (.s (.s .n (.l [(7, (.d (.int .i64)))] [] [1, 6] .n)) (.s (.s .n (.l [(8, (.d (.int .i64)))] [] [1, 6] (.s .n (.s (.s .n (.l [(9, (.d (.int .i64)))] [] [1, 6, 8] (.s .n (.s (.j [] [] [1, 6, 8, 9] (.s .n (.s .n (.l [(10, (.d (.int .i64)))] [] [1, 6, 8, 9] .n)))) .n)))) .n)))) .n)))) (cutL [(17, 44), (5, 38), (13, 11)]) (by kernel_rfl) (by kernel_rfl) k_spec_l02Fault (by decide) (fun x K => W_spec_l02Fault x.1 K) w_spec_l02Fault (fun x h1 h2 => m_spec_l02Fault x.1 h1 h2)
def c_spec_l02Is : Ct := ⟨[CategoryT], [true], fun x => [], [(false, (.fz .bool))], fun x => (catR x.1, ()), false, none⟩
def W_spec_l02Is (c : CategoryD) (K : Bool × Unit → Prop) : Prop := (cnd (!(shapeR c)) (K (Bool.false, ())) ((ShapeP c) ∧ (K (((faultR c).1 == (0 : Int)), ()))))
theorem w_spec_l02Is (x : denL c_spec_l02Is.args) (K : Bool × Unit → Prop) : evF tab (lkp [(125, c_spec_IsShape), (126, c_spec_l02Fault)]) (cutL []) Try.f89 (bodyOf Try.f89) .n c_spec_l02Is x K = W_spec_l02Is x.1 K := by kernel_rfl
theorem k_spec_l02Is : okC Try.f89.ntmps (cutL []) (bodyOf Try.f89) = true := by kernel_rfl
theorem m_spec_l02Is (c : CategoryD) (hok : allP (okL c_spec_l02Is.args (c, ()))) (hpre : allP (c_spec_l02Is.pre (c, ()))) : W_spec_l02Is c (fun r => r = c_spec_l02Is.res (c, ())) := by
  simp only [c_spec_l02Is, okL, T.oks, T.ok, ap, allP, true_and, and_true, implies_true] at hok hpre
  try dsimp only [T.den] at hok
  try dsimp only [T.den] at hpre
  unfold W_spec_l02Is
  simp only [c_spec_l02Is, catR]
  have := @shape_iff c
  grind [cnd, nb_eq, inK64]
theorem ct_spec_l02Is : CtOk Try.prog 89 c_spec_l02Is :=
  ct_by (Φ := lkp [(125, c_spec_IsShape), (126, c_spec_l02Fault)]) (good_cons ct_spec_IsShape (good_cons ct_spec_l02Fault good_nil)) tab_ok (by kernel_rfl) (fn := Try.f89) (c := bodyOf Try.f89) (by kernel_rfl) (by kernel_rfl) (by kernel_rfl) c_spec_l02Is rfl .n (cutL []) (by kernel_rfl) (by kernel_rfl) k_spec_l02Is (by decide) (fun x K => W_spec_l02Is x.1 K) w_spec_l02Is (fun x h1 h2 => m_spec_l02Is x.1 h1 h2)
def c_spec_l03Square : Ct := ⟨[(.sl (.sl (.int .i64))), (.int .i64)], [false, false], fun x => [], [(false, (.fz .bool))], fun x => (squareR x.1 x.2.1, ()), false, none⟩
def W_spec_l03Square (table : List (List Int)) (bound : Int) (K : Bool × Unit → Prop) : Prop := (loopW (S := ((Int × Unit) × Unit)) (fun s => (fun next => ((inK IntKind.i64 s.1.1) → (cnd (decide (s.1.1 < (((List.length table) : Nat) : Int))) (((0 : Int) ≤ s.1.1) ∧ ((s.1.1 < (((List.length table) : Nat) : Int)) ∧ (((((((List.length (List.getD table (Int.toNat s.1.1) ([] : List Int))) : Nat) : Int) != (((List.length table) : Nat) : Int)) = Bool.false) → ((s.1.1 < (((List.length table) : Nat) : Int)) ∧ ((0 : Int) ≤ s.1.1))) ∧ (cnd (((((List.length (List.getD table (Int.toNat s.1.1) ([] : List Int))) : Nat) : Int) != (((List.length table) : Nat) : Int)) || (!(withinR (List.getD table (Int.toNat s.1.1) ([] : List Int)) bound))) (K (Bool.false, ())) ((inK IntKind.i64 (s.1.1 + (1 : Int))) ∧ (next (((s.1.1 + (1 : Int)), ()), ()))))))) (K (Bool.true, ())))))) (((0 : Int), ()), ()))
theorem w_spec_l03Square (x : denL c_spec_l03Square.args) (K : Bool × Unit → Prop) : evF tab (lkp [(90, c_spec_l01Map)]) (cutL []) Try.f167 (bodyOf Try.f167) (.s .n (.s (.s .n (.l [(5, (.d (.int .i64)))] [] [0, 1] .n)) .n)) c_spec_l03Square x K = W_spec_l03Square x.1 x.2.1 K := by kernel_rfl
theorem k_spec_l03Square : okC Try.f167.ntmps (cutL []) (bodyOf Try.f167) = true := by kernel_rfl
theorem m_spec_l03Square (table : List (List Int)) (bound : Int) (hok : allP (okL c_spec_l03Square.args (table, bound, ()))) (hpre : allP (c_spec_l03Square.pre (table, bound, ()))) : W_spec_l03Square table bound (fun r => r = c_spec_l03Square.res (table, bound, ())) := by
  simp only [c_spec_l03Square, okL, T.oks, T.ok, ap, allP, true_and, and_true, implies_true] at hok hpre
  try dsimp only [T.den] at hok
  try dsimp only [T.den] at hpre
  unfold W_spec_l03Square
  have hl : table.length ≤ 140737488355328 := by simp only [nb_eq] at hok; omega
  have bad : ¬ (squareR table bound = true) → (false, ()) = c_spec_l03Square.res (table, bound, ()) := fun h => by
    simp only [c_spec_l03Square]
    cases hs : squareR table bound with
    | false => rfl
    | true => exact absurd hs h
  refine loop_ix (n := table.length) (fun i => ∀ j : Int, 0 ≤ j → j < i → (table.getD j.toNat []).length = table.length ∧ withinR (table.getD j.toNat []) bound = true) (by omega) (by intro y h0 h1; omega) ?_ ?_
  · intro i next h0 h1 hP hn hin
    try dsimp only
    refine cnd_d (fun _ => ⟨h0, h1, fun _ => ⟨h1, h0⟩, cnd_of (fun hx => bad fun h => ?_) (fun hx => ⟨by rw [inK64]; (try dsimp only); omega, hn fun j j0 j1 => ?_⟩)⟩) (fun h => absurd h1 h)
    · have := square_iff.1 h i h0 h1
      rw [this.1, this.2] at hx; simp at hx
    · by_cases e : j = i
      · subst e
        simp only [Bool.or_eq_false_iff, Bool.not_eq_false', bne_eq_false_iff_eq] at hx
        exact ⟨by omega, hx.2⟩
      · exact hP j j0 (by omega)
  · intro next hP hin
    refine cnd_d (fun h => absurd h (by dsimp only; omega)) (fun _ => ?_)
    simp only [c_spec_l03Square]
    rw [square_iff.2 hP]
theorem ct_spec_l03Square : CtOk Try.prog 167 c_spec_l03Square :=
  ct_by (Φ := lkp [(90, c_spec_l01Map)]) (good_cons ct_spec_l01Map good_nil) tab_ok (by kernel_rfl) (fn := Try.f167) (c := bodyOf Try.f167) (by kernel_rfl) (by kernel_rfl) (by kernel_rfl) c_spec_l03Square rfl (.s .n (.s (.s .n (.l [(5, (.d (.int .i64)))] [] [0, 1] .n)) .n)) (cutL []) (by kernel_rfl) (by kernel_rfl) k_spec_l03Square (by decide) (fun x K => W_spec_l03Square x.1 x.2.1 K) w_spec_l03Square (fun x h1 h2 => m_spec_l03Square x.1 x.2.1 h1 h2)
def c_spec_l35Table : Ct := ⟨[(.sl (.sl (.int .i64))), (.int .i64), (.int .i64)], [false, false, false], fun x => [], [(false, (.fz .bool))], fun x => ((decide ((x.1.length : Int) = x.2.1) && squareR x.1 x.2.2.1), ()), false, none⟩
def W_spec_l35Table (table : List (List Int)) (n : Int) (bound : Int) (K : Bool × Unit → Prop) : Prop := (K ((((((List.length table) : Nat) : Int) == n) && (squareR table bound)), ()))
theorem w_spec_l35Table (x : denL c_spec_l35Table.args) (K : Bool × Unit → Prop) : evF tab (lkp [(167, c_spec_l03Square)]) (cutL []) Try.f139 (bodyOf Try.f139) .n c_spec_l35Table x K = W_spec_l35Table x.1 x.2.1 x.2.2.1 K := by kernel_rfl
theorem k_spec_l35Table : okC Try.f139.ntmps (cutL []) (bodyOf Try.f139) = true := by kernel_rfl
theorem m_spec_l35Table (table : List (List Int)) (n : Int) (bound : Int) (hok : allP (okL c_spec_l35Table.args (table, n, bound, ()))) (hpre : allP (c_spec_l35Table.pre (table, n, bound, ()))) : W_spec_l35Table table n bound (fun r => r = c_spec_l35Table.res (table, n, bound, ())) := by
  simp only [c_spec_l35Table, okL, T.oks, T.ok, ap, allP, true_and, and_true, implies_true] at hok hpre
  try dsimp only [T.den] at hok
  try dsimp only [T.den] at hpre
  unfold W_spec_l35Table
  have : ((table.length : Int) == n) = decide ((table.length : Int) = n) := rfl
  simp only [c_spec_l35Table, this]
theorem ct_spec_l35Table : CtOk Try.prog 139 c_spec_l35Table :=
  ct_by (Φ := lkp [(167, c_spec_l03Square)]) (good_cons ct_spec_l03Square good_nil) tab_ok (by kernel_rfl) (fn := Try.f139) (c := bodyOf Try.f139) (by kernel_rfl) (by kernel_rfl) (by kernel_rfl) c_spec_l35Table rfl .n (cutL []) (by kernel_rfl) (by kernel_rfl) k_spec_l35Table (by decide) (fun x K => W_spec_l35Table x.1 x.2.1 x.2.2.1 K) w_spec_l35Table (fun x h1 h2 => m_spec_l35Table x.1 x.2.1 x.2.2.1 h1 h2)
def c_spec_l35Whole : Ct := ⟨[(.sl (.sl (.int .i64))), (.int .i64)], [false, false], fun x => [tabR x.1 x.1.length = true, x.1.length ≤ 40, 0 ≤ x.2.1, x.2.1 < x.1.length], [(false, (.fz .bool))], fun x => (assocR x.1 x.2.1, ()), false, none⟩
def W_spec_l35Whole (table : List (List Int)) (unit : Int) (K : Bool × Unit → Prop) : Prop := (loopW (S := ((Int × Unit) × Unit)) (fun s => (fun next => ((inK IntKind.i64 s.1.1) → (cnd (decide (s.1.1 < (((List.length table) : Nat) : Int))) (((0 : Int) ≤ unit) ∧ ((unit < (((List.length table) : Nat) : Int)) ∧ (((0 : Int) ≤ s.1.1) ∧ ((s.1.1 < (((List.length (List.getD table (Int.toNat unit) ([] : List Int))) : Nat) : Int)) ∧ (((((List.getD (List.getD table (Int.toNat unit) ([] : List Int)) (Int.toNat s.1.1) (0 : Int)) != s.1.1) = Bool.false) → ((s.1.1 < (((List.length table) : Nat) : Int)) ∧ ((0 : Int) ≤ s.1.1))) ∧ (((((List.getD (List.getD table (Int.toNat unit) ([] : List Int)) (Int.toNat s.1.1) (0 : Int)) != s.1.1) = Bool.false) → ((unit < (((List.length (List.getD table (Int.toNat s.1.1) ([] : List Int))) : Nat) : Int)) ∧ ((0 : Int) ≤ unit))) ∧ (cnd (((List.getD (List.getD table (Int.toNat unit) ([] : List Int)) (Int.toNat s.1.1) (0 : Int)) != s.1.1) || ((List.getD (List.getD table (Int.toNat s.1.1) ([] : List Int)) (Int.toNat unit) (0 : Int)) != s.1.1)) (K (Bool.false, ())) (loopW (S := ((Int × Unit) × Unit)) (fun s1 => (fun next1 => ((inK IntKind.i64 s1.1.1) → (cnd (decide (s1.1.1 < (((List.length table) : Nat) : Int))) (loopW (S := ((Int × Unit) × Unit)) (fun s2 => (fun next2 => ((inK IntKind.i64 s2.1.1) → (cnd (decide (s2.1.1 < (((List.length table) : Nat) : Int))) (((0 : Int) ≤ s.1.1) ∧ ((s.1.1 < (((List.length table) : Nat) : Int)) ∧ (((0 : Int) ≤ s1.1.1) ∧ ((s1.1.1 < (((List.length (List.getD table (Int.toNat s.1.1) ([] : List Int))) : Nat) : Int)) ∧ (((0 : Int) ≤ (List.getD (List.getD table (Int.toNat s.1.1) ([] : List Int)) (Int.toNat s1.1.1) (0 : Int))) ∧ (((List.getD (List.getD table (Int.toNat s.1.1) ([] : List Int)) (Int.toNat s1.1.1) (0 : Int)) < (((List.length table) : Nat) : Int)) ∧ (((0 : Int) ≤ s2.1.1) ∧ ((s2.1.1 < (((List.length (List.getD table (Int.toNat (List.getD (List.getD table (Int.toNat s.1.1) ([] : List Int)) (Int.toNat s1.1.1) (0 : Int))) ([] : List Int))) : Nat) : Int)) ∧ (((0 : Int) ≤ s.1.1) ∧ ((s.1.1 < (((List.length table) : Nat) : Int)) ∧ (((0 : Int) ≤ s1.1.1) ∧ ((s1.1.1 < (((List.length table) : Nat) : Int)) ∧ (((0 : Int) ≤ s2.1.1) ∧ ((s2.1.1 < (((List.length (List.getD table (Int.toNat s1.1.1) ([] : List Int))) : Nat) : Int)) ∧ (((0 : Int) ≤ (List.getD (List.getD table (Int.toNat s1.1.1) ([] : List Int)) (Int.toNat s2.1.1) (0 : Int))) ∧ (((List.getD (List.getD table (Int.toNat s1.1.1) ([] : List Int)) (Int.toNat s2.1.1) (0 : Int)) < (((List.length (List.getD table (Int.toNat s.1.1) ([] : List Int))) : Nat) : Int)) ∧ (cnd ((List.getD (List.getD table (Int.toNat (List.getD (List.getD table (Int.toNat s.1.1) ([] : List Int)) (Int.toNat s1.1.1) (0 : Int))) ([] : List Int)) (Int.toNat s2.1.1) (0 : Int)) != (List.getD (List.getD table (Int.toNat s.1.1) ([] : List Int)) (Int.toNat (List.getD (List.getD table (Int.toNat s1.1.1) ([] : List Int)) (Int.toNat s2.1.1) (0 : Int))) (0 : Int))) (K (Bool.false, ())) ((inK IntKind.i64 (s2.1.1 + (1 : Int))) ∧ (next2 (((s2.1.1 + (1 : Int)), ()), ())))))))))))))))))))) ((inK IntKind.i64 (s1.1.1 + (1 : Int))) ∧ (next1 (((s1.1.1 + (1 : Int)), ()), ()))))))) (((0 : Int), ()), ())) ((inK IntKind.i64 (s.1.1 + (1 : Int))) ∧ (next (((s.1.1 + (1 : Int)), ()), ()))))))) (((0 : Int), ()), ()))))))))) (K (Bool.true, ())))))) (((0 : Int), ()), ()))
theorem w_spec_l35Whole (x : denL c_spec_l35Whole.args) (K : Bool × Unit → Prop) : evF tab (lkp []) (cutL [(12, 27)]) Try.f141 (bodyOf Try.f141) (.s .n (.s (.s .n (.l [(5, (.d (.int .i64)))] [] [0, 1] (.s .n (.s (.s .n (.s .n (.l [(6, (.d (.int .i64)))] [] [0, 1, 5] (.s .n (.s (.s .n (.l [(7, (.d (.int .i64)))] [] [0, 1, 5, 6] .n)) .n))))) .n)))) .n)) c_spec_l35Whole x K = W_spec_l35Whole x.1 x.2.1 K := by kernel_rfl
theorem k_spec_l35Whole : okC Try.f141.ntmps (cutL [(12, 27)]) (bodyOf Try.f141) = true := by kernel_rfl
theorem m_spec_l35Whole (table : List (List Int)) (unit : Int) (hok : allP (okL c_spec_l35Whole.args (table, unit, ()))) (hpre : allP (c_spec_l35Whole.pre (table, unit, ()))) : W_spec_l35Whole table unit (fun r => r = c_spec_l35Whole.res (table, unit, ())) := by
  simp only [c_spec_l35Whole, okL, T.oks, T.ok, ap, allP, true_and, and_true, implies_true] at hok hpre
  try dsimp only [T.den] at hok
  try dsimp only [T.den] at hpre
  unfold W_spec_l35Whole
  have T := tab_at hpre.1
  have hl := hpre.2.1
  have u0 := hpre.2.2.1
  have u1 := hpre.2.2.2
  have bad : ¬ (assocR table unit = true) → (false, ()) = c_spec_l35Whole.res (table, unit, ()) := fun h => by
    simp only [c_spec_l35Whole]
    cases hs : assocR table unit with
    | false => rfl
    | true => exact absurd hs h
  have hat : ∀ i j : Int, (table.getD i.toNat []).getD j.toNat 0 = atR table i j := fun _ _ => rfl
  simp only [hat]
  have ru := T.2.1 unit u0 (by omega)
  refine loop_ix (n := table.length) (fun x => ∀ x' : Int, 0 ≤ x' → x' < x → (atR table x' unit = x' ∧ atR table unit x' = x') ∧ ∀ y : Int, 0 ≤ y → y < table.length → ∀ z : Int, 0 ≤ z → z < table.length → atR table (atR table x' y) z = atR table x' (atR table y z)) (by omega) (by intro y h0 h1; omega) ?_ ?_
  · intro x next h0 h1 hP hn hin
    try dsimp only
    have rx := T.2.1 x h0 (by omega)
    refine cnd_d (fun _ => ⟨u0, u1, h0, by omega, fun _ => by omega, fun _ => by omega, cnd_of (fun hx => bad fun h => ?_) (fun hx => ?_)⟩) (fun h => absurd h1 h)
    · have := (assoc_iff.1 h x h0 h1).1
      rw [this.1, this.2] at hx; simp at hx
    simp only [Bool.or_eq_false_iff, bne_eq_false_iff_eq] at hx
    refine loop_ix (n := table.length) (fun y => ∀ y' : Int, 0 ≤ y' → y' < y → ∀ z : Int, 0 ≤ z → z < table.length → atR table (atR table x y') z = atR table x (atR table y' z)) (by omega) (by intro y h0 h1; omega) ?_ ?_
    · intro y next2 y0 y1 hP2 hn2 hin2
      try dsimp only
      have ry := T.2.1 y y0 (by omega)
      have axy := T.2.2 x y h0 (by omega) y0 (by omega)
      have rxy := T.2.1 _ axy.1 (by omega)
      refine cnd_d (fun _ => ?_) (fun h => absurd y1 h)
      refine loop_ix (n := table.length) (fun z => ∀ z' : Int, 0 ≤ z' → z' < z → atR table (atR table x y) z' = atR table x (atR table y z')) (by omega) (by intro y h0 h1; omega) ?_ ?_
      · intro z next3 z0 z1 hP3 hn3 hin3
        try dsimp only
        have ayz := T.2.2 y z y0 (by omega) z0 (by omega)
        refine cnd_d (fun _ => ⟨h0, h1, y0, by omega, axy.1, by omega, z0, by omega, h0, h1, y0, y1, z0, by omega, ayz.1, by omega, cnd_of (fun hx2 => bad fun h => ?_) (fun hx2 => ⟨by rw [inK64]; (try dsimp only); omega, hn3 fun z' a0 a1 => ?_⟩)⟩) (fun h => absurd z1 h)
        · rw [(assoc_iff.1 h x h0 h1).2 y y0 y1 z z0 z1] at hx2; simp at hx2
        · by_cases e : z' = z
          · rw [e]; simpa using hx2
          · exact hP3 z' a0 (by omega)
      · intro next3 hP3 hin3
        refine cnd_d (fun h => absurd h (by dsimp only; omega)) (fun _ => ⟨by rw [inK64]; (try dsimp only); omega, hn2 fun y' a0 a1 => ?_⟩)
        by_cases e : y' = y
        · rw [e]; exact hP3
        · exact hP2 y' a0 (by omega)
    · intro next2 hP2 hin2
      refine cnd_d (fun h => absurd h (by dsimp only; omega)) (fun _ => ⟨by rw [inK64]; (try dsimp only); omega, hn fun x' a0 a1 => ?_⟩)
      by_cases e : x' = x
      · rw [e]; exact ⟨⟨hx.2, hx.1⟩, hP2⟩
      · exact hP x' a0 (by omega)
  · intro next hP hin
    refine cnd_d (fun h => absurd h (by dsimp only; omega)) (fun _ => ?_)
    simp only [c_spec_l35Whole]
    rw [assoc_iff.2 hP]
theorem ct_spec_l35Whole : CtOk Try.prog 141 c_spec_l35Whole :=
  ct_by (Φ := lkp []) good_nil tab_ok (by kernel_rfl) (fn := Try.f141) (c := bodyOf Try.f141) (by kernel_rfl) (by kernel_rfl) (by kernel_rfl) c_spec_l35Whole rfl (.s .n (.s (.s .n (.l [(5, (.d (.int .i64)))] [] [0, 1] (.s .n (.s (.s .n (.s .n (.l [(6, (.d (.int .i64)))] [] [0, 1, 5] (.s .n (.s (.s .n (.l [(7, (.d (.int .i64)))] [] [0, 1, 5, 6] .n)) .n))))) .n)))) .n)) (cutL [(12, 27)]) (by kernel_rfl) (by kernel_rfl) k_spec_l35Whole (by decide) (fun x K => W_spec_l35Whole x.1 x.2.1 K) w_spec_l35Whole (fun x h1 h2 => m_spec_l35Whole x.1 x.2.1 h1 h2)
end Go.Bm
