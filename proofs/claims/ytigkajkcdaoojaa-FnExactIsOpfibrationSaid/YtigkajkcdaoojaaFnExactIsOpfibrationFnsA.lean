/- What the functions that FnExactIsOpfibration reaches give: for each its contract, what it asks, and the proof. No condition. -/
import Derived.Test.YtigkajkcdaoojaaTab
namespace Go.Bm
open Go.Proofs
set_option maxRecDepth 100000
set_option maxHeartbeats 1000000
set_option linter.unusedVariables false
set_option linter.unusedSimpArgs false
def c_impl_Category_arrows : Ct := ⟨[(.pt CategoryT)], [false], fun x => [], [(false, (.fz (.int .i64)))], fun x => ((x.1.2.1.length : Int), ()), false, none⟩
def W_impl_Category_arrows (c : CategoryD) (K : Int × Unit → Prop) : Prop := (K ((((List.length c.2.1) : Nat) : Int), ()))
theorem w_impl_Category_arrows (x : denL c_impl_Category_arrows.args) (K : Int × Unit → Prop) : evF tab (lkp []) (cutL []) Try.f146 (bodyOf Try.f146) .n c_impl_Category_arrows x K = W_impl_Category_arrows x.1 K := by kernel_rfl
theorem k_impl_Category_arrows : okC Try.f146.ntmps (cutL []) (bodyOf Try.f146) = true := by kernel_rfl
theorem m_impl_Category_arrows (c : CategoryD) (hok : allP (okL c_impl_Category_arrows.args (c, ()))) (hpre : allP (c_impl_Category_arrows.pre (c, ()))) : W_impl_Category_arrows c (fun r => r = c_impl_Category_arrows.res (c, ())) := by
  simp only [c_impl_Category_arrows, okL, T.oks, T.ok, ap, allP, true_and, and_true, implies_true] at hok hpre
  try dsimp only [T.den] at hok
  try dsimp only [T.den] at hpre
  unfold W_impl_Category_arrows
  rfl
theorem ct_impl_Category_arrows : CtOk Try.prog 146 c_impl_Category_arrows :=
  ct_by (Φ := lkp []) good_nil tab_ok (by kernel_rfl) (fn := Try.f146) (c := bodyOf Try.f146) (by kernel_rfl) (by kernel_rfl) (by kernel_rfl) c_impl_Category_arrows rfl .n (cutL []) (by kernel_rfl) (by kernel_rfl) k_impl_Category_arrows (by decide) (fun x K => W_impl_Category_arrows x.1 K) w_impl_Category_arrows (fun x h1 h2 => m_impl_Category_arrows x.1 h1 h2)
def compR (c : CategoryD) (f g : Int) : Int := (c.2.2.2.2.getD f.toNat []).getD g.toNat 0

def c_impl_Category_then : Ct := ⟨[(.pt CategoryT), (.int .i64), (.int .i64)], [false, false, false], fun x => [0 ≤ x.2.1, x.2.1 < x.1.2.2.2.2.length, 0 ≤ x.2.2.1, x.2.2.1 < (x.1.2.2.2.2.getD x.2.1.toNat []).length], [(false, (.fz (.int .i64)))], fun x => (compR x.1 x.2.1 x.2.2.1, ()), false, none⟩
def W_impl_Category_then (c : CategoryD) (f : Int) (g : Int) (K : Int × Unit → Prop) : Prop := (((0 : Int) ≤ f) ∧ ((f < (((List.length c.2.2.2.2) : Nat) : Int)) ∧ (((0 : Int) ≤ g) ∧ ((g < (((List.length (List.getD c.2.2.2.2 (Int.toNat f) ([] : List Int))) : Nat) : Int)) ∧ (K ((List.getD (List.getD c.2.2.2.2 (Int.toNat f) ([] : List Int)) (Int.toNat g) (0 : Int)), ()))))))
theorem w_impl_Category_then (x : denL c_impl_Category_then.args) (K : Int × Unit → Prop) : evF tab (lkp []) (cutL []) Try.f132 (bodyOf Try.f132) .n c_impl_Category_then x K = W_impl_Category_then x.1 x.2.1 x.2.2.1 K := by kernel_rfl
theorem k_impl_Category_then : okC Try.f132.ntmps (cutL []) (bodyOf Try.f132) = true := by kernel_rfl
theorem m_impl_Category_then (c : CategoryD) (f : Int) (g : Int) (hok : allP (okL c_impl_Category_then.args (c, f, g, ()))) (hpre : allP (c_impl_Category_then.pre (c, f, g, ()))) : W_impl_Category_then c f g (fun r => r = c_impl_Category_then.res (c, f, g, ())) := by
  simp only [c_impl_Category_then, okL, T.oks, T.ok, ap, allP, true_and, and_true, implies_true] at hok hpre
  try dsimp only [T.den] at hok
  try dsimp only [T.den] at hpre
  unfold W_impl_Category_then
  exact ⟨hpre.1, hpre.2.1, hpre.2.2.1, hpre.2.2.2, rfl⟩
theorem ct_impl_Category_then : CtOk Try.prog 132 c_impl_Category_then :=
  ct_by (Φ := lkp []) good_nil tab_ok (by kernel_rfl) (fn := Try.f132) (c := bodyOf Try.f132) (by kernel_rfl) (by kernel_rfl) (by kernel_rfl) c_impl_Category_then rfl .n (cutL []) (by kernel_rfl) (by kernel_rfl) k_impl_Category_then (by decide) (fun x K => W_impl_Category_then x.1 x.2.1 x.2.2.1 K) w_impl_Category_then (fun x h1 h2 => m_impl_Category_then x.1 x.2.1 x.2.2.1 h1 h2)
def c_impl_inRange : Ct := ⟨[(.int .i64), (.int .i64), (.int .i64)], [false, false, false], fun x => [], [(false, (.fz .bool))], fun x => (inR x.1 x.2.1 x.2.2.1, ()), false, none⟩
def W_impl_inRange (n : Int) (low : Int) (high : Int) (K : Bool × Unit → Prop) : Prop := (K (((decide (low ≤ n)) && (decide (n ≤ high))), ()))
theorem w_impl_inRange (x : denL c_impl_inRange.args) (K : Bool × Unit → Prop) : evF tab (lkp []) (cutL []) Try.f144 (bodyOf Try.f144) .n c_impl_inRange x K = W_impl_inRange x.1 x.2.1 x.2.2.1 K := by kernel_rfl
theorem k_impl_inRange : okC Try.f144.ntmps (cutL []) (bodyOf Try.f144) = true := by kernel_rfl
theorem m_impl_inRange (n : Int) (low : Int) (high : Int) (hok : allP (okL c_impl_inRange.args (n, low, high, ()))) (hpre : allP (c_impl_inRange.pre (n, low, high, ()))) : W_impl_inRange n low high (fun r => r = c_impl_inRange.res (n, low, high, ())) := by
  simp only [c_impl_inRange, okL, T.oks, T.ok, ap, allP, true_and, and_true, implies_true] at hok hpre
  try dsimp only [T.den] at hok
  try dsimp only [T.den] at hpre
  unfold W_impl_inRange
  grind [cnd, nb_eq, inK64, c_impl_inRange, inR]
theorem ct_impl_inRange : CtOk Try.prog 144 c_impl_inRange :=
  ct_by (Φ := lkp []) good_nil tab_ok (by kernel_rfl) (fn := Try.f144) (c := bodyOf Try.f144) (by kernel_rfl) (by kernel_rfl) (by kernel_rfl) c_impl_inRange rfl .n (cutL []) (by kernel_rfl) (by kernel_rfl) k_impl_inRange (by decide) (fun x K => W_impl_inRange x.1 x.2.1 x.2.2.1 K) w_impl_inRange (fun x h1 h2 => m_impl_inRange x.1 x.2.1 x.2.2.1 h1 h2)
def c_impl_within : Ct := ⟨[(.sl (.int .i64)), (.int .i64)], [false, false], fun x => [inK .i64 (x.2.1 - 1)], [(false, (.fz .bool))], fun x => (withinR x.1 x.2.1, ()), false, none⟩
def W_impl_within (list : List Int) (n : Int) (K : Bool × Unit → Prop) : Prop := (loopW (S := ((Int × Unit) × Unit)) (fun s => (fun next => ((inK IntKind.i64 s.1.1) → (cnd (decide (s.1.1 < (((List.length list) : Nat) : Int))) (((0 : Int) ≤ s.1.1) ∧ ((s.1.1 < (((List.length list) : Nat) : Int)) ∧ ((inK IntKind.i64 (n - (1 : Int))) ∧ (cnd (!(inR (List.getD list (Int.toNat s.1.1) (0 : Int)) (0 : Int) (n - (1 : Int)))) (K (Bool.false, ())) ((inK IntKind.i64 (s.1.1 + (1 : Int))) ∧ (next (((s.1.1 + (1 : Int)), ()), ()))))))) (K (Bool.true, ())))))) (((0 : Int), ()), ()))
theorem w_impl_within (x : denL c_impl_within.args) (K : Bool × Unit → Prop) : evF tab (lkp [(144, c_impl_inRange)]) (cutL []) Try.f158 (bodyOf Try.f158) (.s .n (.s (.s .n (.l [(9, (.d (.int .i64)))] [] [1, 7, 8] .n)) .n)) c_impl_within x K = W_impl_within x.1 x.2.1 K := by kernel_rfl
theorem k_impl_within : okC Try.f158.ntmps (cutL []) (bodyOf Try.f158) = true := by kernel_rfl
theorem m_impl_within (list : List Int) (n : Int) (hok : allP (okL c_impl_within.args (list, n, ()))) (hpre : allP (c_impl_within.pre (list, n, ()))) : W_impl_within list n (fun r => r = c_impl_within.res (list, n, ())) := by
  simp only [c_impl_within, okL, T.oks, T.ok, ap, allP, true_and, and_true, implies_true] at hok hpre
  try dsimp only [T.den] at hok
  try dsimp only [T.den] at hpre
  unfold W_impl_within
  refine loop_of (fun (s : ((Int × Unit) × Unit)) => 0 ≤ s.1.1 ∧ s.1.1 ≤ list.length ∧ withinR list n = withinR (list.drop s.1.1.toNat) n) (fun (s : ((Int × Unit) × Unit)) => (list.length - s.1.1).toNat) ?_ (by simp)
  rintro ⟨⟨i, _⟩, _⟩ next ⟨h0, h1, h2⟩ hn hin
  simp only at h0 h1 h2 hn ⊢
  refine cnd_d (fun hc => ?_) (fun hc => ?_)
  · rw [drop_c list 0 h0 hc] at h2
    simp only [withinR, List.all_cons] at h2
    grind [cnd, nb_eq, inK64, c_impl_within, withinR]
  · rw [drop_n list (by omega)] at h2
    grind [cnd, nb_eq, inK64, c_impl_within, withinR]
theorem ct_impl_within : CtOk Try.prog 158 c_impl_within :=
  ct_by (Φ := lkp [(144, c_impl_inRange)]) (good_cons ct_impl_inRange good_nil) tab_ok (by kernel_rfl) (fn := Try.f158) (c := bodyOf Try.f158) (by kernel_rfl) (by kernel_rfl) (by kernel_rfl) c_impl_within rfl (.s .n (.s (.s .n (.l [(9, (.d (.int .i64)))] [] [1, 7, 8] .n)) .n)) (cutL []) (by kernel_rfl) (by kernel_rfl) k_impl_within (by decide) (fun x K => W_impl_within x.1 x.2.1 K) w_impl_within (fun x h1 h2 => m_impl_within x.1 x.2.1 h1 h2)
def c_impl_Category_ends : Ct := ⟨[(.pt CategoryT), (.int .i64)], [false, false], fun x => [0 ≤ x.2.1, x.2.1 < x.1.2.1.length, x.2.1 < x.1.2.2.1.length], [(true, (.fz endsT))], fun x => (((x.1.2.1.getD x.2.1.toNat 0, x.1.2.2.1.getD x.2.1.toNat 0) : Int × Int), ()), false, none⟩
def W_impl_Category_ends (c : CategoryD) (f : Int) (K : endsD × Unit → Prop) : Prop := (((0 : Int) ≤ f) ∧ ((f < (((List.length c.2.1) : Nat) : Int)) ∧ (((0 : Int) ≤ f) ∧ ((f < (((List.length c.2.2.1) : Nat) : Int)) ∧ (K (((List.getD c.2.1 (Int.toNat f) (0 : Int)), (List.getD c.2.2.1 (Int.toNat f) (0 : Int))), ()))))))
theorem w_impl_Category_ends (x : denL c_impl_Category_ends.args) (K : endsD × Unit → Prop) : evF tab (lkp []) (cutL [(1, 15)]) Try.f147 (bodyOf Try.f147) .n c_impl_Category_ends x K = W_impl_Category_ends x.1 x.2.1 K := by kernel_rfl
theorem k_impl_Category_ends : okC Try.f147.ntmps (cutL [(1, 15)]) (bodyOf Try.f147) = true := by kernel_rfl
theorem m_impl_Category_ends (c : CategoryD) (f : Int) (hok : allP (okL c_impl_Category_ends.args (c, f, ()))) (hpre : allP (c_impl_Category_ends.pre (c, f, ()))) : W_impl_Category_ends c f (fun r => r = c_impl_Category_ends.res (c, f, ())) := by
  simp only [c_impl_Category_ends, okL, T.oks, T.ok, ap, allP, true_and, and_true, implies_true] at hok hpre
  try dsimp only [T.den] at hok
  try dsimp only [T.den] at hpre
  unfold W_impl_Category_ends
  exact ⟨hpre.1, hpre.2.1, hpre.1, hpre.2.2, rfl⟩
theorem ct_impl_Category_ends : CtOk Try.prog 147 c_impl_Category_ends :=
  ct_by (Φ := lkp []) good_nil tab_ok (by kernel_rfl) (fn := Try.f147) (c := bodyOf Try.f147) (by kernel_rfl) (by kernel_rfl) (by kernel_rfl) c_impl_Category_ends rfl .n (cutL [(1, 15)]) (by kernel_rfl) (by kernel_rfl) k_impl_Category_ends (by decide) (fun x K => W_impl_Category_ends x.1 x.2.1 K) w_impl_Category_ends (fun x h1 h2 => m_impl_Category_ends x.1 x.2.1 h1 h2)
/-- what a cell of the table must be -/
def cellQ (c : CategoryD) (f g v : Int) : Bool :=
  if c.2.2.1.getD f.toNat 0 = c.2.1.getD g.toNat 0 then decide (0 ≤ v ∧ v < c.2.1.length ∧ c.2.1.getD v.toNat 0 = c.2.1.getD f.toNat 0 ∧ c.2.2.1.getD v.toNat 0 = c.2.2.1.getD g.toNat 0)
  else decide (v = -1)
def cellR (c : CategoryD) (f g : Int) : Bool := cellQ c f g (compR c f g)
structure ShapeP (c : CategoryD) : Prop where
  ob : 0 ≤ c.1 ∧ c.1 ≤ 8
  m : c.2.1.length ≤ 40
  lt : c.2.2.1.length = c.2.1.length
  fr : withinR c.2.1 c.1 = true
  to : withinR c.2.2.1 c.1 = true
  li : (c.2.2.2.1.length : Int) = c.1
  ids : withinR c.2.2.2.1 c.2.1.length = true
  lc : c.2.2.2.2.length = c.2.1.length
  idt : ∀ x : Int, 0 ≤ x → x < c.1 → c.2.1.getD (c.2.2.2.1.getD x.toNat 0).toNat 0 = x ∧ c.2.2.1.getD (c.2.2.2.1.getD x.toNat 0).toNat 0 = x
  row : ∀ f : Int, 0 ≤ f → f < c.2.1.length → (c.2.2.2.2.getD f.toNat []).length = c.2.1.length
  cell : ∀ f g : Int, 0 ≤ f → f < c.2.1.length → 0 ≤ g → g < c.2.1.length → cellR c f g = true
def shapeR (c : CategoryD) : Bool := inR c.1 0 8 && decide (c.2.1.length ≤ 40) && decide (c.2.2.1.length = c.2.1.length) && withinR c.2.1 c.1 && withinR c.2.2.1 c.1 && decide ((c.2.2.2.1.length : Int) = c.1) && withinR c.2.2.2.1 c.2.1.length &&
  decide (c.2.2.2.2.length = c.2.1.length) && allB c.1.toNat (fun x => decide (c.2.1.getD (c.2.2.2.1.getD x.toNat 0).toNat 0 = x ∧ c.2.2.1.getD (c.2.2.2.1.getD x.toNat 0).toNat 0 = x)) &&
  allB c.2.1.length (fun f => decide ((c.2.2.2.2.getD f.toNat []).length = c.2.1.length)) && allB c.2.1.length (fun f => allB c.2.1.length fun g => cellR c f g)
theorem shape_iff {c : CategoryD} : shapeR c = true ↔ ShapeP c := by
  simp only [shapeR, Bool.and_eq_true, decide_eq_true_eq, inR, allB_iff]
  constructor
  · rintro ⟨⟨⟨⟨⟨⟨⟨⟨⟨⟨h0, h1⟩, h2⟩, h3⟩, h4⟩, h5⟩, h6⟩, h7⟩, h8⟩, h9⟩, h10⟩
    exact ⟨h0, h1, h2, h3, h4, h5, h6, h7, fun x a b => h8 x a (by omega), h9, fun f g a b d e => h10 f a b g d e⟩
  · intro h
    exact ⟨⟨⟨⟨⟨⟨⟨⟨⟨⟨h.ob, h.m⟩, h.lt⟩, h.fr⟩, h.to⟩, h.li⟩, h.ids⟩, h.lc⟩, fun x a b => h.idt x a (by have := h.ob; omega)⟩, h.row⟩, fun f a b g d e => h.cell f g a b d e⟩
theorem shape_f {c : CategoryD} (h : ¬ ShapeP c) : shapeR c = false := by
  cases hs : shapeR c with
  | false => rfl
  | true => exact absurd (shape_iff.1 hs) h
theorem shape_t {c : CategoryD} (h : ShapeP c) : shapeR c = true := shape_iff.2 h

def c_impl_Category_isShape : Ct := ⟨[(.pt CategoryT)], [false], fun x => [], [(false, (.fz .bool))], fun x => (shapeR x.1, ()), false, none⟩
def W_impl_Category_isShape (c : CategoryD) (K : Bool × Unit → Prop) : Prop := ((((((!(inR c.1 (0 : Int) (8 : Int))) || (decide ((40 : Int) < (((List.length c.2.1) : Nat) : Int)))) || ((((List.length c.2.2.1) : Nat) : Int) != (((List.length c.2.1) : Nat) : Int))) = Bool.false) → (inK IntKind.i64 (c.1 - (1 : Int)))) ∧ (((((((!(inR c.1 (0 : Int) (8 : Int))) || (decide ((40 : Int) < (((List.length c.2.1) : Nat) : Int)))) || ((((List.length c.2.2.1) : Nat) : Int) != (((List.length c.2.1) : Nat) : Int))) || (!(withinR c.2.1 c.1))) = Bool.false) → (inK IntKind.i64 (c.1 - (1 : Int)))) ∧ (cnd (((((!(inR c.1 (0 : Int) (8 : Int))) || (decide ((40 : Int) < (((List.length c.2.1) : Nat) : Int)))) || ((((List.length c.2.2.1) : Nat) : Int) != (((List.length c.2.1) : Nat) : Int))) || (!(withinR c.2.1 c.1))) || (!(withinR c.2.2.1 c.1))) (K (Bool.false, ())) (((((((List.length c.2.2.2.1) : Nat) : Int) != c.1) = Bool.false) → (inK IntKind.i64 ((((List.length c.2.1) : Nat) : Int) - (1 : Int)))) ∧ (cnd ((((((List.length c.2.2.2.1) : Nat) : Int) != c.1) || (!(withinR c.2.2.2.1 (((List.length c.2.1) : Nat) : Int)))) || ((((List.length c.2.2.2.2) : Nat) : Int) != (((List.length c.2.1) : Nat) : Int))) (K (Bool.false, ())) (loopW (S := ((Int × Unit) × Unit)) (fun s => (fun next => ((inK IntKind.i64 s.1.1) → (cnd (decide (s.1.1 < (((List.length c.2.2.2.1) : Nat) : Int))) (((0 : Int) ≤ s.1.1) ∧ ((s.1.1 < (((List.length c.2.2.2.1) : Nat) : Int)) ∧ (((0 : Int) ≤ (List.getD c.2.2.2.1 (Int.toNat s.1.1) (0 : Int))) ∧ (((List.getD c.2.2.2.1 (Int.toNat s.1.1) (0 : Int)) < (((List.length c.2.1) : Nat) : Int)) ∧ (((List.getD c.2.2.2.1 (Int.toNat s.1.1) (0 : Int)) < (((List.length c.2.2.1) : Nat) : Int)) ∧ (cnd (!(((List.getD c.2.1 (Int.toNat (List.getD c.2.2.2.1 (Int.toNat s.1.1) (0 : Int))) (0 : Int)) == s.1.1) && ((List.getD c.2.2.1 (Int.toNat (List.getD c.2.2.2.1 (Int.toNat s.1.1) (0 : Int))) (0 : Int)) == s.1.1))) (K (Bool.false, ())) ((inK IntKind.i64 (s.1.1 + (1 : Int))) ∧ (next (((s.1.1 + (1 : Int)), ()), ()))))))))) (loopW (S := ((Int × Unit) × Unit)) (fun s1 => (fun next1 => ((inK IntKind.i64 s1.1.1) → (cnd (decide (s1.1.1 < (((List.length c.2.2.2.2) : Nat) : Int))) (((0 : Int) ≤ s1.1.1) ∧ ((s1.1.1 < (((List.length c.2.2.2.2) : Nat) : Int)) ∧ (cnd ((((List.length (List.getD c.2.2.2.2 (Int.toNat s1.1.1) ([] : List Int))) : Nat) : Int) != (((List.length c.2.1) : Nat) : Int)) (K (Bool.false, ())) (loopW (S := ((Int × Unit) × Unit)) (fun s2 => (fun next2 => ((inK IntKind.i64 s2.1.1) → (cnd (decide (s2.1.1 < (((List.length (List.getD c.2.2.2.2 (Int.toNat s1.1.1) ([] : List Int))) : Nat) : Int))) (joinW (S := (Unit × Unit)) (fun s3 => ((inK IntKind.i64 (s2.1.1 + (1 : Int))) ∧ (next2 (((s2.1.1 + (1 : Int)), ()), ())))) (fun k => (((0 : Int) ≤ s2.1.1) ∧ ((s2.1.1 < (((List.length (List.getD c.2.2.2.2 (Int.toNat s1.1.1) ([] : List Int))) : Nat) : Int)) ∧ (((0 : Int) ≤ s1.1.1) ∧ ((s1.1.1 < (((List.length c.2.2.1) : Nat) : Int)) ∧ (((0 : Int) ≤ s2.1.1) ∧ ((s2.1.1 < (((List.length c.2.1) : Nat) : Int)) ∧ (cnd ((List.getD c.2.2.1 (Int.toNat s1.1.1) (0 : Int)) != (List.getD c.2.1 (Int.toNat s2.1.1) (0 : Int))) (cnd ((List.getD (List.getD c.2.2.2.2 (Int.toNat s1.1.1) ([] : List Int)) (Int.toNat s2.1.1) (0 : Int)) != (-(1 : Int))) (K (Bool.false, ())) (k ((), ()))) ((inK IntKind.i64 ((((List.length c.2.1) : Nat) : Int) - (1 : Int))) ∧ ((((!(inR (List.getD (List.getD c.2.2.2.2 (Int.toNat s1.1.1) ([] : List Int)) (Int.toNat s2.1.1) (0 : Int)) (0 : Int) ((((List.length c.2.1) : Nat) : Int) - (1 : Int)))) = Bool.false) → (((List.getD (List.getD c.2.2.2.2 (Int.toNat s1.1.1) ([] : List Int)) (Int.toNat s2.1.1) (0 : Int)) < (((List.length c.2.1) : Nat) : Int)) ∧ (((List.getD (List.getD c.2.2.2.2 (Int.toNat s1.1.1) ([] : List Int)) (Int.toNat s2.1.1) (0 : Int)) < (((List.length c.2.2.1) : Nat) : Int)) ∧ ((0 : Int) ≤ (List.getD (List.getD c.2.2.2.2 (Int.toNat s1.1.1) ([] : List Int)) (Int.toNat s2.1.1) (0 : Int)))))) ∧ ((((!(inR (List.getD (List.getD c.2.2.2.2 (Int.toNat s1.1.1) ([] : List Int)) (Int.toNat s2.1.1) (0 : Int)) (0 : Int) ((((List.length c.2.1) : Nat) : Int) - (1 : Int)))) = Bool.false) → ((s1.1.1 < (((List.length c.2.1) : Nat) : Int)) ∧ ((0 : Int) ≤ s1.1.1))) ∧ ((((!(inR (List.getD (List.getD c.2.2.2.2 (Int.toNat s1.1.1) ([] : List Int)) (Int.toNat s2.1.1) (0 : Int)) (0 : Int) ((((List.length c.2.1) : Nat) : Int) - (1 : Int)))) = Bool.false) → ((s2.1.1 < (((List.length c.2.2.1) : Nat) : Int)) ∧ ((0 : Int) ≤ s2.1.1))) ∧ (cnd ((!(inR (List.getD (List.getD c.2.2.2.2 (Int.toNat s1.1.1) ([] : List Int)) (Int.toNat s2.1.1) (0 : Int)) (0 : Int) ((((List.length c.2.1) : Nat) : Int) - (1 : Int)))) || (!(((List.getD c.2.1 (Int.toNat (List.getD (List.getD c.2.2.2.2 (Int.toNat s1.1.1) ([] : List Int)) (Int.toNat s2.1.1) (0 : Int))) (0 : Int)) == (List.getD c.2.1 (Int.toNat s1.1.1) (0 : Int))) && ((List.getD c.2.2.1 (Int.toNat (List.getD (List.getD c.2.2.2.2 (Int.toNat s1.1.1) ([] : List Int)) (Int.toNat s2.1.1) (0 : Int))) (0 : Int)) == (List.getD c.2.2.1 (Int.toNat s2.1.1) (0 : Int)))))) (K (Bool.false, ())) (k ((), ())))))))))))))))) ((inK IntKind.i64 (s1.1.1 + (1 : Int))) ∧ (next1 (((s1.1.1 + (1 : Int)), ()), ()))))))) (((0 : Int), ()), ()))))) (K (Bool.true, ())))))) (((0 : Int), ()), ())))))) (((0 : Int), ()), ())))))))
theorem w_impl_Category_isShape (x : denL c_impl_Category_isShape.args) (K : Bool × Unit → Prop) : evF tab (lkp [(146, c_impl_Category_arrows), (147, c_impl_Category_ends), (144, c_impl_inRange), (158, c_impl_within)]) (cutL [(2, 43), (20, 15), (4, 28), (23, 26)]) Try.f168 (bodyOf Try.f168) (.s .n (.s .n (.s .n (.s .n (.s (.s .n (.l [(88, (.d (.int .i64)))] [] [0, 3, 86, 87] .n)) (.s (.s .n (.l [(106, (.d (.int .i64)))] [] [0, 3, 104, 105] (.s .n (.s .n (.s (.s .n (.s .n (.s .n (.l [(117, (.d (.int .i64)))] [] [0, 3, 6, 104, 105, 106, 115, 116] (.s .n (.s .n (.s (.j [] [] [0, 3, 6, 104, 105, 106, 115, 116, 117] .n) .n))))))) .n))))) .n)))))) c_impl_Category_isShape x K = W_impl_Category_isShape x.1 K := by kernel_rfl
theorem k_impl_Category_isShape : okC Try.f168.ntmps (cutL [(2, 43), (20, 15), (4, 28), (23, 26)]) (bodyOf Try.f168) = true := by kernel_rfl
theorem m_impl_Category_isShape (c : CategoryD) (hok : allP (okL c_impl_Category_isShape.args (c, ()))) (hpre : allP (c_impl_Category_isShape.pre (c, ()))) : W_impl_Category_isShape c (fun r => r = c_impl_Category_isShape.res (c, ())) := by
  simp only [c_impl_Category_isShape, okL, T.oks, T.ok, ap, allP, true_and, and_true, implies_true] at hok hpre
  try dsimp only [T.den] at hok
  try dsimp only [T.den] at hpre
  unfold W_impl_Category_isShape
  refine ⟨by grind [cnd, nb_eq, inK64, inR], by grind [cnd, nb_eq, inK64, inR], cnd_of (fun hc => ?_) (fun hc => ⟨by rw [inK64]; have := hok.2.1.1; grind [cnd, nb_eq, inK64], cnd_of (fun hd => ?_) (fun hd => ?_)⟩)⟩
  · simp only [c_impl_Category_isShape]; rw [shape_f]; intro h; have h1 := h.ob; have h2 := h.m; have h3 := h.lt; have h4 := h.fr; have h5 := h.to; simp only [inR] at hc; grind [cnd, nb_eq, inK64]
  · simp only [c_impl_Category_isShape]; rw [shape_f]; intro h; have h1 := h.li; have h2 := h.ids; have h3 := h.lc; grind [cnd, nb_eq, inK64]
  simp only [inR, Bool.or_eq_false_iff, Bool.not_eq_false', Bool.and_eq_true, decide_eq_true_eq, decide_eq_false_iff_not, bne_eq_false_iff_eq] at hc hd
  obtain ⟨⟨⟨⟨hob, hm⟩, hlt⟩, hfr⟩, hto⟩ := hc
  obtain ⟨⟨hli, hids⟩, hlc⟩ := hd
  have bad : ¬ ShapeP c → (false, ()) = c_impl_Category_isShape.res (c, ()) := fun h => by simp only [c_impl_Category_isShape]; rw [shape_f h]
  refine loop_ix (n := c.2.2.2.1.length) (fun x => ∀ y : Int, 0 ≤ y → y < x → c.2.1.getD (c.2.2.2.1.getD y.toNat 0).toNat 0 = y ∧ c.2.2.1.getD (c.2.2.2.1.getD y.toNat 0).toNat 0 = y) (by omega) (by intro y h0 h1; omega) ?_ ?_
  · intro x next h0 h1 hP hn hin
    have hb := within_iff.1 hids x h0 h1
    try dsimp only
    refine cnd_d (fun _ => ⟨h0, h1, hb.1, hb.2, by omega, cnd_of (fun hx => bad fun h => ?_) (fun hx => ?_)⟩) (fun h => absurd h1 h)
    · have := h.idt x h0 (by omega)
      rw [this.1, this.2] at hx
      simp at hx
    · simp only [Bool.not_eq_false', Bool.and_eq_true, beq_iff_eq] at hx
      refine ⟨by rw [inK64]; (try dsimp only); omega, hn fun y y0 y1 => ?_⟩
      by_cases e : y = x
      · rw [e]; exact hx
      · exact hP y y0 (by omega)
  intro next hidt hin
  refine cnd_d (fun h => absurd h (by dsimp only; omega)) (fun _ => ?_)
  refine loop_ix (n := c.2.2.2.2.length) (fun f => ∀ f' : Int, 0 ≤ f' → f' < f → (c.2.2.2.2.getD f'.toNat []).length = c.2.1.length ∧ ∀ g : Int, 0 ≤ g → g < c.2.1.length → cellR c f' g = true) (by omega) (by intro y h0 h1; omega) ?_ ?_
  · intro f next h0 h1 hP hn hin
    try dsimp only
    refine cnd_d (fun _ => ⟨h0, h1, cnd_of (fun hx => bad fun h => ?_) (fun hx => ?_)⟩) (fun h => absurd h1 h)
    · have := h.row f h0 (by omega)
      rw [this] at hx
      simp at hx
    simp only [bne_eq_false_iff_eq] at hx
    refine loop_ix (n := (c.2.2.2.2.getD f.toNat []).length) (fun g => ∀ g' : Int, 0 ≤ g' → g' < g → cellR c f g' = true) (by omega) (by intro y h0 h1; omega) ?_ ?_
    · intro g next3 g0 g1 hP3 hn3 hin3
      try dsimp only
      refine cnd_d (fun _ => ?_) (fun h => absurd g1 h)
      refine join_of (fun _ => cellR c f g = true) (fun _ hcell => ⟨by rw [inK64]; (try dsimp only); omega, hn3 fun g' y0 y1 => ?_⟩) (fun k hk => ?_)
      · by_cases e : g' = g
        · rw [e]; exact hcell
        · exact hP3 g' y0 (by omega)
      have hcell : ∀ b, cellR c f g = b → b = false → ¬ ShapeP c := fun b h1 h2 h => by
        have := h.cell f g h0 (by omega) g0 (by omega)
        rw [h1, h2] at this; cases this
      have hk' := hk ((), ())
      obtain ⟨v, hv⟩ : ∃ v, (c.2.2.2.2.getD f.toNat []).getD g.toNat 0 = v := ⟨_, rfl⟩
      have hR : cellR c f g = cellQ c f g v := by unfold cellR compR; rw [hv]
      rw [hR] at hk'
      rw [hR] at hcell
      rw [hv]
      clear hP3 hn3 hP hn hk hR hv hidt hok
      refine ⟨g0, g1, h0, by omega, g0, by omega, cnd_of (fun ha => cnd_of (fun hb => bad ?_) (fun hb => hk' ?_)) (fun ha => ⟨by rw [inK64]; (try dsimp only); omega, fun hv => ?_, fun _ => ⟨by omega, h0⟩, fun _ => ⟨by omega, g0⟩, cnd_of (fun hb => bad ?_) (fun hb => hk' ?_)⟩)⟩
      · exact hcell _ rfl (by grind [cnd, nb_eq, inK64, cellQ])
      · grind [cnd, nb_eq, inK64, cellQ]
      · simp only [inR, Bool.not_eq_false', Bool.and_eq_true, decide_eq_true_eq] at hv; omega
      · exact hcell _ rfl (by simp only [inR] at hb; grind [cnd, nb_eq, inK64, cellQ])
      · simp only [inR] at hb; grind [cnd, nb_eq, inK64, cellQ]
    · intro next3 hP3 hin3
      refine cnd_d (fun h => absurd h (by dsimp only; omega)) (fun _ => ⟨by rw [inK64]; (try dsimp only); omega, hn fun f' y0 y1 => ?_⟩)
      by_cases e : f' = f
      · rw [e]; exact ⟨by omega, fun g g0 g1 => hP3 g g0 (by omega)⟩
      · exact hP f' y0 (by omega)
  · intro next2 hP2 hin2
    refine cnd_d (fun h => absurd h (by dsimp only; omega)) (fun _ => ?_)
    simp only [c_impl_Category_isShape]
    rw [shape_t ⟨hob, by omega, by omega, hfr, hto, by omega, hids, by omega, fun x a b => hidt x a (by omega), fun f a b => (hP2 f a (by omega)).1, fun f g a b d e => (hP2 f a (by omega)).2 g d e⟩]
theorem ct_impl_Category_isShape : CtOk Try.prog 168 c_impl_Category_isShape :=
  ct_by (Φ := lkp [(146, c_impl_Category_arrows), (147, c_impl_Category_ends), (144, c_impl_inRange), (158, c_impl_within)]) (good_cons ct_impl_Category_arrows (good_cons ct_impl_Category_ends (good_cons ct_impl_inRange (good_cons ct_impl_within good_nil)))) tab_ok (by kernel_rfl) (fn := Try.f168) (c := bodyOf Try.f168) (by kernel_rfl) (by kernel_rfl) (by kernel_rfl) c_impl_Category_isShape rfl (.s .n (.s .n (.s .n (.s .n (.s (.s .n (.l [(88, (.d (.int .i64)))] [] [0, 3, 86, 87] .n)) (.s (.s .n (.l [(106, (.d (.int .i64)))] [] [0, 3, 104, 105] (.s .n (.s .n (.s (.s .n (.s .n (.s .n (.l [(117, (.d (.int .i64)))] [] [0, 3, 6, 104, 105, 106, 115, 116] (.s .n (.s .n (.s (.j [] [] [0, 3, 6, 104, 105, 106, 115, 116, 117] .n) .n))))))) .n))))) .n)))))) (cutL [(2, 43), (20, 15), (4, 28), (23, 26)]) (by kernel_rfl) (by kernel_rfl) k_impl_Category_isShape (by decide) (fun x K => W_impl_Category_isShape x.1 K) w_impl_Category_isShape (fun x h1 h2 => m_impl_Category_isShape x.1 h1 h2)
theorem ShapeP.frm {c : CategoryD} (h : ShapeP c) {f : Int} (h0 : 0 ≤ f) (h1 : f < c.2.1.length) : 0 ≤ c.2.1.getD f.toNat 0 ∧ c.2.1.getD f.toNat 0 < c.1 ∧ 0 ≤ c.2.2.1.getD f.toNat 0 ∧ c.2.2.1.getD f.toNat 0 < c.1 := by
  have a := within_iff.1 h.fr f h0 h1
  have b := within_iff.1 h.to f h0 (by have := h.lt; omega)
  exact ⟨a.1, a.2, b.1, b.2⟩
theorem ShapeP.idn {c : CategoryD} (h : ShapeP c) {x : Int} (h0 : 0 ≤ x) (h1 : x < c.1) : 0 ≤ c.2.2.2.1.getD x.toNat 0 ∧ c.2.2.2.1.getD x.toNat 0 < c.2.1.length ∧ c.2.1.getD (c.2.2.2.1.getD x.toNat 0).toNat 0 = x ∧ c.2.2.1.getD (c.2.2.2.1.getD x.toNat 0).toNat 0 = x := by
  have a := within_iff.1 h.ids x h0 (by have := h.li; omega)
  have b := h.idt x h0 h1
  exact ⟨a.1, a.2, b.1, b.2⟩
theorem ShapeP.yes {c : CategoryD} (h : ShapeP c) {f g : Int} (h0 : 0 ≤ f) (h1 : f < c.2.1.length) (g0 : 0 ≤ g) (g1 : g < c.2.1.length) (e : c.2.2.1.getD f.toNat 0 = c.2.1.getD g.toNat 0) :
    0 ≤ compR c f g ∧ compR c f g < c.2.1.length ∧ c.2.1.getD (compR c f g).toNat 0 = c.2.1.getD f.toNat 0 ∧ c.2.2.1.getD (compR c f g).toNat 0 = c.2.2.1.getD g.toNat 0 := by
  have := h.cell f g h0 h1 g0 g1
  unfold cellR cellQ at this
  rw [if_pos e] at this
  simpa using this
theorem ShapeP.no {c : CategoryD} (h : ShapeP c) {f g : Int} (h0 : 0 ≤ f) (h1 : f < c.2.1.length) (g0 : 0 ≤ g) (g1 : g < c.2.1.length) (e : c.2.2.1.getD f.toNat 0 ≠ c.2.1.getD g.toNat 0) : compR c f g = -1 := by
  have := h.cell f g h0 h1 g0 g1
  unfold cellR cellQ at this
  rw [if_neg e] at this
  simpa using this
theorem ShapeP.comp {c : CategoryD} (h : ShapeP c) {f g : Int} (h0 : 0 ≤ f) (h1 : f < c.2.1.length) (g0 : 0 ≤ g) (g1 : g < c.2.1.length) : 0 ≤ compR c f g ↔ c.2.2.1.getD f.toNat 0 = c.2.1.getD g.toNat 0 := by
  constructor
  · intro h2
    by_cases e : c.2.2.1.getD f.toNat 0 = c.2.1.getD g.toNat 0
    · exact e
    · have := h.no h0 h1 g0 g1 e; omega
  · intro e; exact (h.yes h0 h1 g0 g1 e).1
def faultI (c : CategoryD) (f : Int) : Option (Int × Int × Int × Int) :=
  if compR c (c.2.2.2.1.getD (c.2.1.getD f.toNat 0).toNat 0) f ≠ f ∨ compR c f (c.2.2.2.1.getD (c.2.2.1.getD f.toNat 0).toNat 0) ≠ f then some (1, f, 0, 0) else none
def faultH (c : CategoryD) (f g h : Int) : Option (Int × Int × Int × Int) :=
  if c.2.2.1.getD g.toNat 0 = c.2.1.getD h.toNat 0 ∧ compR c (compR c f g) h ≠ compR c f (compR c g h) then some (2, f, g, h) else none
def faultG (c : CategoryD) (f g : Int) : Option (Int × Int × Int × Int) :=
  if c.2.2.1.getD f.toNat 0 = c.2.1.getD g.toNat 0 then scanR (faultH c f g) c.2.1.length 0 else none
def faultF (c : CategoryD) (f : Int) : Option (Int × Int × Int × Int) := scanR (faultG c f) c.2.1.length 0
def faultR (c : CategoryD) : Int × Int × Int × Int :=
  orR (scanR (faultI c) c.2.1.length 0) (orR (scanR (faultF c) c.2.1.length 0) (0, 0, 0, 0))

def c_impl_Category_fault : Ct := ⟨[(.pt CategoryT)], [false], fun x => [ShapeP x.1], [(false, (.fz (.int .i64))), (false, (.fz (.int .i64))), (false, (.fz (.int .i64))), (false, (.fz (.int .i64)))], fun x => ((faultR x.1).1, (faultR x.1).2.1, (faultR x.1).2.2.1, (faultR x.1).2.2.2, ()), false, none⟩
def W_impl_Category_fault (c : CategoryD) (K : Int × Int × Int × Int × Unit → Prop) : Prop := (loopW (S := ((Int × Unit) × Unit)) (fun s => (fun next => ((inK IntKind.i64 s.1.1) → (cnd (decide (s.1.1 < (((List.length c.2.1) : Nat) : Int))) (((0 : Int) ≤ s.1.1) ∧ ((s.1.1 < (((List.length c.2.1) : Nat) : Int)) ∧ (((0 : Int) ≤ (List.getD c.2.1 (Int.toNat s.1.1) (0 : Int))) ∧ (((List.getD c.2.1 (Int.toNat s.1.1) (0 : Int)) < (((List.length c.2.2.2.1) : Nat) : Int)) ∧ (((0 : Int) ≤ (List.getD c.2.2.2.1 (Int.toNat (List.getD c.2.1 (Int.toNat s.1.1) (0 : Int))) (0 : Int))) ∧ (((List.getD c.2.2.2.1 (Int.toNat (List.getD c.2.1 (Int.toNat s.1.1) (0 : Int))) (0 : Int)) < (((List.length c.2.2.2.2) : Nat) : Int)) ∧ (((0 : Int) ≤ s.1.1) ∧ ((s.1.1 < (((List.length (List.getD c.2.2.2.2 (Int.toNat (List.getD c.2.2.2.1 (Int.toNat (List.getD c.2.1 (Int.toNat s.1.1) (0 : Int))) (0 : Int))) ([] : List Int))) : Nat) : Int)) ∧ (((((compR c (List.getD c.2.2.2.1 (Int.toNat (List.getD c.2.1 (Int.toNat s.1.1) (0 : Int))) (0 : Int)) s.1.1) != s.1.1) = Bool.false) → ((s.1.1 < (((List.length c.2.2.1) : Nat) : Int)) ∧ ((0 : Int) ≤ s.1.1))) ∧ (((((compR c (List.getD c.2.2.2.1 (Int.toNat (List.getD c.2.1 (Int.toNat s.1.1) (0 : Int))) (0 : Int)) s.1.1) != s.1.1) = Bool.false) → (((List.getD c.2.2.1 (Int.toNat s.1.1) (0 : Int)) < (((List.length c.2.2.2.1) : Nat) : Int)) ∧ ((0 : Int) ≤ (List.getD c.2.2.1 (Int.toNat s.1.1) (0 : Int))))) ∧ (((((compR c (List.getD c.2.2.2.1 (Int.toNat (List.getD c.2.1 (Int.toNat s.1.1) (0 : Int))) (0 : Int)) s.1.1) != s.1.1) = Bool.false) → ((s.1.1 < (((List.length c.2.2.2.2) : Nat) : Int)) ∧ (((0 : Int) ≤ (List.getD c.2.2.2.1 (Int.toNat (List.getD c.2.2.1 (Int.toNat s.1.1) (0 : Int))) (0 : Int))) ∧ (((List.getD c.2.2.2.1 (Int.toNat (List.getD c.2.2.1 (Int.toNat s.1.1) (0 : Int))) (0 : Int)) < (((List.length (List.getD c.2.2.2.2 (Int.toNat s.1.1) ([] : List Int))) : Nat) : Int)) ∧ ((0 : Int) ≤ s.1.1))))) ∧ (cnd (((compR c (List.getD c.2.2.2.1 (Int.toNat (List.getD c.2.1 (Int.toNat s.1.1) (0 : Int))) (0 : Int)) s.1.1) != s.1.1) || ((compR c s.1.1 (List.getD c.2.2.2.1 (Int.toNat (List.getD c.2.2.1 (Int.toNat s.1.1) (0 : Int))) (0 : Int))) != s.1.1)) (K ((1 : Int), (s.1.1, ((0 : Int), ((0 : Int), ()))))) ((inK IntKind.i64 (s.1.1 + (1 : Int))) ∧ (next (((s.1.1 + (1 : Int)), ()), ()))))))))))))))) (loopW (S := ((Int × Unit) × Unit)) (fun s1 => (fun next1 => ((inK IntKind.i64 s1.1.1) → (cnd (decide (s1.1.1 < (((List.length c.2.1) : Nat) : Int))) (loopW (S := ((Int × Unit) × Unit)) (fun s2 => (fun next2 => ((inK IntKind.i64 s2.1.1) → (cnd (decide (s2.1.1 < (((List.length c.2.1) : Nat) : Int))) (joinW (S := (Unit × Unit)) (fun s3 => ((inK IntKind.i64 (s2.1.1 + (1 : Int))) ∧ (next2 (((s2.1.1 + (1 : Int)), ()), ())))) (fun k => (((0 : Int) ≤ s1.1.1) ∧ ((s1.1.1 < (((List.length c.2.2.2.2) : Nat) : Int)) ∧ (((0 : Int) ≤ s2.1.1) ∧ ((s2.1.1 < (((List.length (List.getD c.2.2.2.2 (Int.toNat s1.1.1) ([] : List Int))) : Nat) : Int)) ∧ (cnd (decide ((compR c s1.1.1 s2.1.1) < (0 : Int))) (k ((), ())) (loopW (S := ((Int × Unit) × Unit)) (fun s3 => (fun next3 => ((inK IntKind.i64 s3.1.1) → (cnd (decide (s3.1.1 < (((List.length c.2.1) : Nat) : Int))) (((0 : Int) ≤ s2.1.1) ∧ ((s2.1.1 < (((List.length c.2.2.2.2) : Nat) : Int)) ∧ (((0 : Int) ≤ s3.1.1) ∧ ((s3.1.1 < (((List.length (List.getD c.2.2.2.2 (Int.toNat s2.1.1) ([] : List Int))) : Nat) : Int)) ∧ ((((decide ((0 : Int) ≤ (compR c s2.1.1 s3.1.1))) = Bool.true) → ((s1.1.1 < (((List.length c.2.2.2.2) : Nat) : Int)) ∧ (((0 : Int) ≤ s2.1.1) ∧ ((s2.1.1 < (((List.length (List.getD c.2.2.2.2 (Int.toNat s1.1.1) ([] : List Int))) : Nat) : Int)) ∧ ((0 : Int) ≤ s1.1.1))))) ∧ ((((decide ((0 : Int) ≤ (compR c s2.1.1 s3.1.1))) = Bool.true) → (((compR c s1.1.1 s2.1.1) < (((List.length c.2.2.2.2) : Nat) : Int)) ∧ (((0 : Int) ≤ s3.1.1) ∧ ((s3.1.1 < (((List.length (List.getD c.2.2.2.2 (Int.toNat (compR c s1.1.1 s2.1.1)) ([] : List Int))) : Nat) : Int)) ∧ ((0 : Int) ≤ (compR c s1.1.1 s2.1.1)))))) ∧ ((((decide ((0 : Int) ≤ (compR c s2.1.1 s3.1.1))) = Bool.true) → ((s2.1.1 < (((List.length c.2.2.2.2) : Nat) : Int)) ∧ (((0 : Int) ≤ s3.1.1) ∧ ((s3.1.1 < (((List.length (List.getD c.2.2.2.2 (Int.toNat s2.1.1) ([] : List Int))) : Nat) : Int)) ∧ ((0 : Int) ≤ s2.1.1))))) ∧ ((((decide ((0 : Int) ≤ (compR c s2.1.1 s3.1.1))) = Bool.true) → ((s1.1.1 < (((List.length c.2.2.2.2) : Nat) : Int)) ∧ (((0 : Int) ≤ (compR c s2.1.1 s3.1.1)) ∧ (((compR c s2.1.1 s3.1.1) < (((List.length (List.getD c.2.2.2.2 (Int.toNat s1.1.1) ([] : List Int))) : Nat) : Int)) ∧ ((0 : Int) ≤ s1.1.1))))) ∧ (cnd ((decide ((0 : Int) ≤ (compR c s2.1.1 s3.1.1))) && ((compR c (compR c s1.1.1 s2.1.1) s3.1.1) != (compR c s1.1.1 (compR c s2.1.1 s3.1.1)))) (K ((2 : Int), (s1.1.1, (s2.1.1, (s3.1.1, ()))))) ((inK IntKind.i64 (s3.1.1 + (1 : Int))) ∧ (next3 (((s3.1.1 + (1 : Int)), ()), ())))))))))))) (k ((), ())))))) (((0 : Int), ()), ()))))))))) ((inK IntKind.i64 (s1.1.1 + (1 : Int))) ∧ (next1 (((s1.1.1 + (1 : Int)), ()), ()))))))) (((0 : Int), ()), ())) (K ((0 : Int), ((0 : Int), ((0 : Int), ((0 : Int), ()))))))))) (((0 : Int), ()), ())))))) (((0 : Int), ()), ()))
theorem w_impl_Category_fault (x : denL c_impl_Category_fault.args) (K : Int × Int × Int × Int × Unit → Prop) : evF tab (lkp [(146, c_impl_Category_arrows), (132, c_impl_Category_then)]) (cutL [(5, 38)]) Try.f169 (bodyOf Try.f169) (.s .n (.s .n (.s (.s .n (.l [(7, (.d (.int .i64)))] [] [0, 6] .n)) (.s (.s .n (.l [(8, (.d (.int .i64)))] [] [0, 6] (.s .n (.s (.s .n (.l [(9, (.d (.int .i64)))] [] [0, 6, 8] (.s .n (.s (.j [] [] [0, 6, 8, 9] (.s .n (.s .n (.l [(10, (.d (.int .i64)))] [] [0, 6, 8, 9] .n)))) .n)))) .n)))) .n)))) c_impl_Category_fault x K = W_impl_Category_fault x.1 K := by kernel_rfl
theorem k_impl_Category_fault : okC Try.f169.ntmps (cutL [(5, 38)]) (bodyOf Try.f169) = true := by kernel_rfl
theorem m_impl_Category_fault (c : CategoryD) (hok : allP (okL c_impl_Category_fault.args (c, ()))) (hpre : allP (c_impl_Category_fault.pre (c, ()))) : W_impl_Category_fault c (fun r => r = c_impl_Category_fault.res (c, ())) := by
  simp only [c_impl_Category_fault, okL, T.oks, T.ok, ap, allP, true_and, and_true, implies_true] at hok hpre
  try dsimp only [T.den] at hok
  try dsimp only [T.den] at hpre
  unfold W_impl_Category_fault
  have S : ShapeP c := hpre
  have hlt := S.lt
  have hli := S.li
  have hlc := S.lc
  have hmm := S.m
  have resq : ∀ a b d e, faultR c = (a, b, d, e) → (a, b, d, e, ()) = c_impl_Category_fault.res (c, ()) := fun a b d e h => by simp only [c_impl_Category_fault, h]
  refine loop_ix (n := c.2.1.length) (fun f => scanR (faultI c) c.2.1.length 0 = scanR (faultI c) ((c.2.1.length : Int) - f).toNat f) (by omega) scan_0 ?_ ?_
  · intro f next h0 h1 hP hn hin
    try dsimp only
    obtain ⟨a1, a2, a3, a4⟩ := S.frm h0 h1
    obtain ⟨b1, b2, _, _⟩ := S.idn a1 a2
    obtain ⟨d1, d2, _, _⟩ := S.idn a3 a4
    have r1 := S.row _ b1 b2
    have r2 := S.row f h0 h1
    refine cnd_d (fun _ => ⟨h0, h1, by omega, by omega, by omega, by omega, h0, by omega, fun _ => by omega, fun _ => by omega, fun _ => by omega, cnd_of (fun hx => resq _ _ _ _ ?_) (fun hx => ⟨by rw [inK64]; (try dsimp only); omega, hn ?_⟩)⟩) (fun h => absurd h1 h)
    · have : faultI c f = some (1, f, 0, 0) := by unfold faultI; rw [if_pos]; simpa using hx
      unfold faultR; rw [hP, scan_s h1 this]; rfl
    · have : faultI c f = none := by unfold faultI; rw [if_neg]; simpa using hx
      rw [hP, scan_c h1 this]
  intro next hI hin
  rw [scan_n] at hI
  refine cnd_d (fun h => absurd h (by dsimp only; omega)) (fun _ => ?_)
  have hF : faultR c = orR (scanR (faultF c) c.2.1.length 0) (0, 0, 0, 0) := by unfold faultR; rw [hI]; rfl
  refine loop_ix (n := c.2.1.length) (fun f => scanR (faultF c) c.2.1.length 0 = scanR (faultF c) ((c.2.1.length : Int) - f).toNat f) (by omega) scan_0 ?_ ?_
  · intro f next h0 h1 hP hn hin
    try dsimp only
    refine cnd_d (fun _ => ?_) (fun h => absurd h1 h)
    have r1 := S.row f h0 h1
    refine loop_ix (n := c.2.1.length) (fun g => faultF c f = scanR (faultG c f) ((c.2.1.length : Int) - g).toNat g) (by omega) scan_0 ?_ ?_
    · intro g next3 g0 g1 hP3 hn3 hin3
      try dsimp only
      refine cnd_d (fun _ => ?_) (fun h => absurd g1 h)
      have r2 := S.row g g0 g1
      refine join_of (fun _ => faultG c f g = none) (fun _ hG => ⟨by rw [inK64]; (try dsimp only); omega, hn3 (by rw [hP3, scan_c g1 hG])⟩) (fun k hk => ?_)
      have hk' := hk ((), ())
      refine ⟨by omega, by omega, by omega, by omega, cnd_d (fun hx => hk' ?_) (fun hx => ?_)⟩
      · unfold faultG; rw [if_neg]; intro e; have := (S.comp h0 h1 g0 g1).2 e; omega
      have hfg := (S.comp h0 h1 g0 g1).1 (by omega)
      obtain ⟨y1, y2, _, _⟩ := S.yes h0 h1 g0 g1 hfg
      refine loop_ix (n := c.2.1.length) (fun h => faultG c f g = scanR (faultH c f g) ((c.2.1.length : Int) - h).toNat h) (by omega) (by unfold faultG; rw [if_pos hfg]; exact scan_0) ?_ ?_
      · intro h next4 i0 i1 hP4 hn4 hin4
        try dsimp only
        refine cnd_d (fun _ => ?_) (fun h => absurd i1 h)
        have r3 := S.row _ y1 y2
        have cgh := S.comp g0 g1 i0 i1
        have ygh := @ShapeP.yes c S g h g0 g1 i0 i1
        refine ⟨by omega, by omega, by omega, by omega, fun _ => by omega, fun _ => by omega, fun _ => by omega, fun he => ?_, cnd_of (fun hx => resq _ _ _ _ ?_) (fun hx => ⟨by rw [inK64]; (try dsimp only); omega, hn4 ?_⟩)⟩
        · have := ygh (cgh.1 (by simpa using he)); omega
        · have : faultH c f g h = some (2, f, g, h) := by unfold faultH; rw [if_pos]; rw [← cgh]; simpa using hx
          have e1 : faultG c f g = some (2, f, g, h) := by rw [hP4, scan_s i1 this]
          have e2 : faultF c f = some (2, f, g, h) := by rw [hP3, scan_s g1 e1]
          rw [hF, hP, scan_s h1 e2]; rfl
        · have : faultH c f g h = none := by unfold faultH; rw [if_neg]; rw [← cgh]; simpa using hx
          rw [hP4, scan_c i1 this]
      · intro next4 hP4 hin4
        rw [scan_n] at hP4
        exact cnd_d (fun h => absurd h (by dsimp only; omega)) (fun _ => hk' hP4)
    · intro next3 hP3 hin3
      rw [scan_n] at hP3
      exact cnd_d (fun h => absurd h (by dsimp only; omega)) (fun _ => ⟨by rw [inK64]; (try dsimp only); omega, hn (by rw [hP, scan_c h1 hP3])⟩)
  · intro next2 hP2 hin2
    rw [scan_n] at hP2
    refine cnd_d (fun h => absurd h (by dsimp only; omega)) (fun _ => resq _ _ _ _ ?_)
    rw [hF, hP2]; rfl
theorem ct_impl_Category_fault : CtOk Try.prog 169 c_impl_Category_fault :=
  ct_by (Φ := lkp [(146, c_impl_Category_arrows), (132, c_impl_Category_then)]) (good_cons ct_impl_Category_arrows (good_cons ct_impl_Category_then good_nil)) tab_ok (by kernel_rfl) (fn := Try.f169) (c := bodyOf Try.f169) (by kernel_rfl) (by kernel_rfl) (by kernel_rfl) c_impl_Category_fault rfl (.s .n (.s .n (.s (.s .n (.l [(7, (.d (.int .i64)))] [] [0, 6] .n)) (.s (.s .n (.l [(8, (.d (.int .i64)))] [] [0, 6] (.s .n (.s (.s .n (.l [(9, (.d (.int .i64)))] [] [0, 6, 8] (.s .n (.s (.j [] [] [0, 6, 8, 9] (.s .n (.s .n (.l [(10, (.d (.int .i64)))] [] [0, 6, 8, 9] .n)))) .n)))) .n)))) .n)))) (cutL [(5, 38)]) (by kernel_rfl) (by kernel_rfl) k_impl_Category_fault (by decide) (fun x K => W_impl_Category_fault x.1 K) w_impl_Category_fault (fun x h1 h2 => m_impl_Category_fault x.1 h1 h2)
def catR (c : CategoryD) : Bool := shapeR c && (faultR c).1 == 0

def c_impl_Category_isCategory : Ct := ⟨[(.pt CategoryT)], [false], fun x => [], [(false, (.fz .bool))], fun x => (catR x.1, ()), false, none⟩
def W_impl_Category_isCategory (c : CategoryD) (K : Bool × Unit → Prop) : Prop := (cnd (!(shapeR c)) (K (Bool.false, ())) ((ShapeP c) ∧ (K (((faultR c).1 == (0 : Int)), ()))))
theorem w_impl_Category_isCategory (x : denL c_impl_Category_isCategory.args) (K : Bool × Unit → Prop) : evF tab (lkp [(169, c_impl_Category_fault), (168, c_impl_Category_isShape)]) (cutL []) Try.f143 (bodyOf Try.f143) .n c_impl_Category_isCategory x K = W_impl_Category_isCategory x.1 K := by kernel_rfl
theorem k_impl_Category_isCategory : okC Try.f143.ntmps (cutL []) (bodyOf Try.f143) = true := by kernel_rfl
theorem m_impl_Category_isCategory (c : CategoryD) (hok : allP (okL c_impl_Category_isCategory.args (c, ()))) (hpre : allP (c_impl_Category_isCategory.pre (c, ()))) : W_impl_Category_isCategory c (fun r => r = c_impl_Category_isCategory.res (c, ())) := by
  simp only [c_impl_Category_isCategory, okL, T.oks, T.ok, ap, allP, true_and, and_true, implies_true] at hok hpre
  try dsimp only [T.den] at hok
  try dsimp only [T.den] at hpre
  unfold W_impl_Category_isCategory
  simp only [c_impl_Category_isCategory, catR]
  have := @shape_iff c
  grind [cnd, nb_eq, inK64]
theorem ct_impl_Category_isCategory : CtOk Try.prog 143 c_impl_Category_isCategory :=
  ct_by (Φ := lkp [(169, c_impl_Category_fault), (168, c_impl_Category_isShape)]) (good_cons ct_impl_Category_fault (good_cons ct_impl_Category_isShape good_nil)) tab_ok (by kernel_rfl) (fn := Try.f143) (c := bodyOf Try.f143) (by kernel_rfl) (by kernel_rfl) (by kernel_rfl) c_impl_Category_isCategory rfl .n (cutL []) (by kernel_rfl) (by kernel_rfl) k_impl_Category_isCategory (by decide) (fun x K => W_impl_Category_isCategory x.1 K) w_impl_Category_isCategory (fun x h1 h2 => m_impl_Category_isCategory x.1 h1 h2)
def objCodeR (c : CategoryD) (l : List Int) : Int := if catR c = true then (if withinR l c.1 = true then 0 else 2) else 1
theorem cat_shape {c : CategoryD} (h : catR c = true) : ShapeP c := by
  simp only [catR, Bool.and_eq_true] at h; exact shape_iff.1 h.1

def fitsR (f : FunctorD) : Bool := decide ((f.2.2.1.length : Int) = f.1.1) && decide (f.2.2.2.length = f.1.2.1.length) && withinR f.2.2.1 f.2.1.1 && withinR f.2.2.2 f.2.1.2.1.length &&
  allB f.1.2.1.length (fun a => decide (f.2.1.2.1.getD (f.2.2.2.getD a.toNat 0).toNat 0 = f.2.2.1.getD (f.1.2.1.getD a.toNat 0).toNat 0) && decide (f.2.1.2.2.1.getD (f.2.2.2.getD a.toNat 0).toNat 0 = f.2.2.1.getD (f.1.2.2.1.getD a.toNat 0).toNat 0)) &&
  allB f.1.1.toNat (fun x => decide (f.2.2.2.getD (f.1.2.2.2.1.getD x.toNat 0).toNat 0 = f.2.1.2.2.2.1.getD (f.2.2.1.getD x.toNat 0).toNat 0)) &&
  allB f.1.2.1.length (fun a => allB f.1.2.1.length fun b => decide (f.1.2.2.1.getD a.toNat 0 = f.1.2.1.getD b.toNat 0 → f.2.2.2.getD (compR f.1 a b).toNat 0 = compR f.2.1 (f.2.2.2.getD a.toNat 0) (f.2.2.2.getD b.toNat 0)))
structure FitP (f : FunctorD) : Prop where
  lo : (f.2.2.1.length : Int) = f.1.1
  la : f.2.2.2.length = f.1.2.1.length
  ow : withinR f.2.2.1 f.2.1.1 = true
  aw : withinR f.2.2.2 f.2.1.2.1.length = true
  ends : ∀ a : Int, 0 ≤ a → a < f.1.2.1.length → f.2.1.2.1.getD (f.2.2.2.getD a.toNat 0).toNat 0 = f.2.2.1.getD (f.1.2.1.getD a.toNat 0).toNat 0 ∧ f.2.1.2.2.1.getD (f.2.2.2.getD a.toNat 0).toNat 0 = f.2.2.1.getD (f.1.2.2.1.getD a.toNat 0).toNat 0
  ids : ∀ x : Int, 0 ≤ x → x < f.1.1 → f.2.2.2.getD (f.1.2.2.2.1.getD x.toNat 0).toNat 0 = f.2.1.2.2.2.1.getD (f.2.2.1.getD x.toNat 0).toNat 0
  comp : ∀ a : Int, 0 ≤ a → a < f.1.2.1.length → ∀ b : Int, 0 ≤ b → b < f.1.2.1.length → f.1.2.2.1.getD a.toNat 0 = f.1.2.1.getD b.toNat 0 → f.2.2.2.getD (compR f.1 a b).toNat 0 = compR f.2.1 (f.2.2.2.getD a.toNat 0) (f.2.2.2.getD b.toNat 0)
theorem fits_iff {f : FunctorD} (S : ShapeP f.1) : fitsR f = true ↔ FitP f := by
  have e : ((f.1.1.toNat : Nat) : Int) = f.1.1 := by have := S.ob; omega
  simp only [fitsR, Bool.and_eq_true, decide_eq_true_eq, allB_iff, e]
  constructor
  · rintro ⟨⟨⟨⟨⟨⟨h1, h2⟩, h3⟩, h4⟩, h5⟩, h6⟩, h7⟩
    exact ⟨h1, h2, h3, h4, h5, h6, h7⟩
  · intro h
    exact ⟨⟨⟨⟨⟨⟨h.lo, h.la⟩, h.ow⟩, h.aw⟩, h.ends⟩, h.ids⟩, h.comp⟩

def c_impl_Functor_fits : Ct := ⟨[(.pt FunctorT)], [false], fun x => [ShapeP x.1.1, ShapeP x.1.2.1], [(false, (.fz .bool))], fun x => (fitsR x.1, ()), false, none⟩
def W_impl_Functor_fits (f : FunctorD) (K : Bool × Unit → Prop) : Prop := ((((((((List.length f.2.2.1) : Nat) : Int) != f.1.1) || ((((List.length f.2.2.2) : Nat) : Int) != (((List.length f.1.2.1) : Nat) : Int))) = Bool.false) → (inK IntKind.i64 (f.2.1.1 - (1 : Int)))) ∧ (((((((((List.length f.2.2.1) : Nat) : Int) != f.1.1) || ((((List.length f.2.2.2) : Nat) : Int) != (((List.length f.1.2.1) : Nat) : Int))) || (!(withinR f.2.2.1 f.2.1.1))) = Bool.false) → (inK IntKind.i64 ((((List.length f.2.1.2.1) : Nat) : Int) - (1 : Int)))) ∧ (cnd (((((((List.length f.2.2.1) : Nat) : Int) != f.1.1) || ((((List.length f.2.2.2) : Nat) : Int) != (((List.length f.1.2.1) : Nat) : Int))) || (!(withinR f.2.2.1 f.2.1.1))) || (!(withinR f.2.2.2 (((List.length f.2.1.2.1) : Nat) : Int)))) (K (Bool.false, ())) (loopW (S := ((Int × Unit) × Unit)) (fun s => (fun next => ((inK IntKind.i64 s.1.1) → (cnd (decide (s.1.1 < (((List.length f.2.2.2) : Nat) : Int))) (((0 : Int) ≤ s.1.1) ∧ ((s.1.1 < (((List.length f.2.2.2) : Nat) : Int)) ∧ (((0 : Int) ≤ (List.getD f.2.2.2 (Int.toNat s.1.1) (0 : Int))) ∧ (((List.getD f.2.2.2 (Int.toNat s.1.1) (0 : Int)) < (((List.length f.2.1.2.1) : Nat) : Int)) ∧ (((0 : Int) ≤ s.1.1) ∧ ((s.1.1 < (((List.length f.1.2.1) : Nat) : Int)) ∧ (((0 : Int) ≤ (List.getD f.1.2.1 (Int.toNat s.1.1) (0 : Int))) ∧ (((List.getD f.1.2.1 (Int.toNat s.1.1) (0 : Int)) < (((List.length f.2.2.1) : Nat) : Int)) ∧ (((((List.getD f.2.1.2.1 (Int.toNat (List.getD f.2.2.2 (Int.toNat s.1.1) (0 : Int))) (0 : Int)) != (List.getD f.2.2.1 (Int.toNat (List.getD f.1.2.1 (Int.toNat s.1.1) (0 : Int))) (0 : Int))) = Bool.false) → (((List.getD f.2.2.2 (Int.toNat s.1.1) (0 : Int)) < (((List.length f.2.1.2.2.1) : Nat) : Int)) ∧ ((0 : Int) ≤ (List.getD f.2.2.2 (Int.toNat s.1.1) (0 : Int))))) ∧ (((((List.getD f.2.1.2.1 (Int.toNat (List.getD f.2.2.2 (Int.toNat s.1.1) (0 : Int))) (0 : Int)) != (List.getD f.2.2.1 (Int.toNat (List.getD f.1.2.1 (Int.toNat s.1.1) (0 : Int))) (0 : Int))) = Bool.false) → ((s.1.1 < (((List.length f.1.2.2.1) : Nat) : Int)) ∧ ((0 : Int) ≤ s.1.1))) ∧ (((((List.getD f.2.1.2.1 (Int.toNat (List.getD f.2.2.2 (Int.toNat s.1.1) (0 : Int))) (0 : Int)) != (List.getD f.2.2.1 (Int.toNat (List.getD f.1.2.1 (Int.toNat s.1.1) (0 : Int))) (0 : Int))) = Bool.false) → (((List.getD f.1.2.2.1 (Int.toNat s.1.1) (0 : Int)) < (((List.length f.2.2.1) : Nat) : Int)) ∧ ((0 : Int) ≤ (List.getD f.1.2.2.1 (Int.toNat s.1.1) (0 : Int))))) ∧ (cnd (((List.getD f.2.1.2.1 (Int.toNat (List.getD f.2.2.2 (Int.toNat s.1.1) (0 : Int))) (0 : Int)) != (List.getD f.2.2.1 (Int.toNat (List.getD f.1.2.1 (Int.toNat s.1.1) (0 : Int))) (0 : Int))) || ((List.getD f.2.1.2.2.1 (Int.toNat (List.getD f.2.2.2 (Int.toNat s.1.1) (0 : Int))) (0 : Int)) != (List.getD f.2.2.1 (Int.toNat (List.getD f.1.2.2.1 (Int.toNat s.1.1) (0 : Int))) (0 : Int)))) (K (Bool.false, ())) ((inK IntKind.i64 (s.1.1 + (1 : Int))) ∧ (next (((s.1.1 + (1 : Int)), ()), ()))))))))))))))) (loopW (S := ((Int × Unit) × Unit)) (fun s1 => (fun next1 => ((inK IntKind.i64 s1.1.1) → (cnd (decide (s1.1.1 < (((List.length f.1.2.2.2.1) : Nat) : Int))) (((0 : Int) ≤ s1.1.1) ∧ ((s1.1.1 < (((List.length f.1.2.2.2.1) : Nat) : Int)) ∧ (((0 : Int) ≤ (List.getD f.1.2.2.2.1 (Int.toNat s1.1.1) (0 : Int))) ∧ (((List.getD f.1.2.2.2.1 (Int.toNat s1.1.1) (0 : Int)) < (((List.length f.2.2.2) : Nat) : Int)) ∧ (((0 : Int) ≤ s1.1.1) ∧ ((s1.1.1 < (((List.length f.2.2.1) : Nat) : Int)) ∧ (((0 : Int) ≤ (List.getD f.2.2.1 (Int.toNat s1.1.1) (0 : Int))) ∧ (((List.getD f.2.2.1 (Int.toNat s1.1.1) (0 : Int)) < (((List.length f.2.1.2.2.2.1) : Nat) : Int)) ∧ (cnd ((List.getD f.2.2.2 (Int.toNat (List.getD f.1.2.2.2.1 (Int.toNat s1.1.1) (0 : Int))) (0 : Int)) != (List.getD f.2.1.2.2.2.1 (Int.toNat (List.getD f.2.2.1 (Int.toNat s1.1.1) (0 : Int))) (0 : Int))) (K (Bool.false, ())) ((inK IntKind.i64 (s1.1.1 + (1 : Int))) ∧ (next1 (((s1.1.1 + (1 : Int)), ()), ())))))))))))) (loopW (S := ((Int × Unit) × Unit)) (fun s2 => (fun next2 => ((inK IntKind.i64 s2.1.1) → (cnd (decide (s2.1.1 < (((List.length f.1.2.2.2.2) : Nat) : Int))) (((0 : Int) ≤ s2.1.1) ∧ ((s2.1.1 < (((List.length f.1.2.2.2.2) : Nat) : Int)) ∧ (loopW (S := ((Int × Unit) × Unit)) (fun s3 => (fun next3 => ((inK IntKind.i64 s3.1.1) → (cnd (decide (s3.1.1 < (((List.length (List.getD f.1.2.2.2.2 (Int.toNat s2.1.1) ([] : List Int))) : Nat) : Int))) (((0 : Int) ≤ s3.1.1) ∧ ((s3.1.1 < (((List.length (List.getD f.1.2.2.2.2 (Int.toNat s2.1.1) ([] : List Int))) : Nat) : Int)) ∧ ((((decide ((0 : Int) ≤ (List.getD (List.getD f.1.2.2.2.2 (Int.toNat s2.1.1) ([] : List Int)) (Int.toNat s3.1.1) (0 : Int)))) = Bool.true) → (((List.getD (List.getD f.1.2.2.2.2 (Int.toNat s2.1.1) ([] : List Int)) (Int.toNat s3.1.1) (0 : Int)) < (((List.length f.2.2.2) : Nat) : Int)) ∧ ((0 : Int) ≤ (List.getD (List.getD f.1.2.2.2.2 (Int.toNat s2.1.1) ([] : List Int)) (Int.toNat s3.1.1) (0 : Int))))) ∧ ((((decide ((0 : Int) ≤ (List.getD (List.getD f.1.2.2.2.2 (Int.toNat s2.1.1) ([] : List Int)) (Int.toNat s3.1.1) (0 : Int)))) = Bool.true) → ((s2.1.1 < (((List.length f.2.2.2) : Nat) : Int)) ∧ ((0 : Int) ≤ s2.1.1))) ∧ ((((decide ((0 : Int) ≤ (List.getD (List.getD f.1.2.2.2.2 (Int.toNat s2.1.1) ([] : List Int)) (Int.toNat s3.1.1) (0 : Int)))) = Bool.true) → ((s3.1.1 < (((List.length f.2.2.2) : Nat) : Int)) ∧ ((0 : Int) ≤ s3.1.1))) ∧ ((((decide ((0 : Int) ≤ (List.getD (List.getD f.1.2.2.2.2 (Int.toNat s2.1.1) ([] : List Int)) (Int.toNat s3.1.1) (0 : Int)))) = Bool.true) → (((List.getD f.2.2.2 (Int.toNat s2.1.1) (0 : Int)) < (((List.length f.2.1.2.2.2.2) : Nat) : Int)) ∧ (((0 : Int) ≤ (List.getD f.2.2.2 (Int.toNat s3.1.1) (0 : Int))) ∧ (((List.getD f.2.2.2 (Int.toNat s3.1.1) (0 : Int)) < (((List.length (List.getD f.2.1.2.2.2.2 (Int.toNat (List.getD f.2.2.2 (Int.toNat s2.1.1) (0 : Int))) ([] : List Int))) : Nat) : Int)) ∧ ((0 : Int) ≤ (List.getD f.2.2.2 (Int.toNat s2.1.1) (0 : Int))))))) ∧ (cnd ((decide ((0 : Int) ≤ (List.getD (List.getD f.1.2.2.2.2 (Int.toNat s2.1.1) ([] : List Int)) (Int.toNat s3.1.1) (0 : Int)))) && ((List.getD f.2.2.2 (Int.toNat (List.getD (List.getD f.1.2.2.2.2 (Int.toNat s2.1.1) ([] : List Int)) (Int.toNat s3.1.1) (0 : Int))) (0 : Int)) != (compR f.2.1 (List.getD f.2.2.2 (Int.toNat s2.1.1) (0 : Int)) (List.getD f.2.2.2 (Int.toNat s3.1.1) (0 : Int))))) (K (Bool.false, ())) ((inK IntKind.i64 (s3.1.1 + (1 : Int))) ∧ (next3 (((s3.1.1 + (1 : Int)), ()), ())))))))))) ((inK IntKind.i64 (s2.1.1 + (1 : Int))) ∧ (next2 (((s2.1.1 + (1 : Int)), ()), ()))))))) (((0 : Int), ()), ())))) (K (Bool.true, ())))))) (((0 : Int), ()), ())))))) (((0 : Int), ()), ())))))) (((0 : Int), ()), ())))))
theorem w_impl_Functor_fits (x : denL c_impl_Functor_fits.args) (K : Bool × Unit → Prop) : evF tab (lkp [(146, c_impl_Category_arrows), (132, c_impl_Category_then), (158, c_impl_within)]) (cutL [(1, 8), (2, 42), (22, 28), (7, 44), (13, 21)]) Try.f130 (bodyOf Try.f130) (.s .n (.s .n (.s .n (.s (.s .n (.l [(66, (.d (.int .i64)))] [] [0, 3, 4, 64, 65] .n)) (.s (.s .n (.l [(121, (.d (.int .i64)))] [] [0, 3, 4, 119, 120] .n)) (.s (.s .n (.l [(153, (.d (.int .i64)))] [] [0, 4, 151, 152] (.s .n (.s .n (.s (.s .n (.s .n (.l [(160, (.d (.int .i64)))] [] [0, 4, 9, 151, 152, 153, 158, 159] .n))) .n))))) .n)))))) c_impl_Functor_fits x K = W_impl_Functor_fits x.1 K := by kernel_rfl
theorem k_impl_Functor_fits : okC Try.f130.ntmps (cutL [(1, 8), (2, 42), (22, 28), (7, 44), (13, 21)]) (bodyOf Try.f130) = true := by kernel_rfl
theorem m_impl_Functor_fits (f : FunctorD) (hok : allP (okL c_impl_Functor_fits.args (f, ()))) (hpre : allP (c_impl_Functor_fits.pre (f, ()))) : W_impl_Functor_fits f (fun r => r = c_impl_Functor_fits.res (f, ())) := by
  simp only [c_impl_Functor_fits, okL, T.oks, T.ok, ap, allP, true_and, and_true, implies_true] at hok hpre
  try dsimp only [T.den] at hok
  try dsimp only [T.den] at hpre
  unfold W_impl_Functor_fits
  have S : ShapeP f.1 := hpre.1
  have S2 : ShapeP f.2.1 := hpre.2
  have hob := S.ob
  have hlt := S.lt
  have hli := S.li
  have hlc := S.lc
  have hmm := S.m
  have tob := S2.ob
  have tlt := S2.lt
  have tli := S2.li
  have tlc := S2.lc
  have bad : ¬ FitP f → (false, ()) = c_impl_Functor_fits.res (f, ()) := fun h => by
    simp only [c_impl_Functor_fits]
    cases hs : fitsR f with
    | false => rfl
    | true => exact absurd ((fits_iff S).1 hs) h
  have at1 : ∀ i j : Int, (f.1.2.2.2.2.getD i.toNat []).getD j.toNat 0 = compR f.1 i j := fun _ _ => rfl
  have at2 : ∀ i j : Int, (f.2.1.2.2.2.2.getD i.toNat []).getD j.toNat 0 = compR f.2.1 i j := fun _ _ => rfl
  refine ⟨fun _ => by rw [inK64]; (try dsimp only); omega, fun _ => by rw [inK64]; have := S2.m; omega, cnd_of (fun hc => bad fun h => ?_) (fun hc => ?_)⟩
  · have h1 := h.lo; have h2 := h.la; have h3 := h.ow; have h4 := h.aw; grind [cnd, nb_eq, inK64]
  simp only [Bool.or_eq_false_iff, Bool.not_eq_false', bne_eq_false_iff_eq] at hc
  obtain ⟨⟨⟨hlo, hla⟩, how⟩, haw⟩ := hc
  refine loop_ix (n := f.2.2.2.length) (fun a => ∀ a' : Int, 0 ≤ a' → a' < a → f.2.1.2.1.getD (f.2.2.2.getD a'.toNat 0).toNat 0 = f.2.2.1.getD (f.1.2.1.getD a'.toNat 0).toNat 0 ∧ f.2.1.2.2.1.getD (f.2.2.2.getD a'.toNat 0).toNat 0 = f.2.2.1.getD (f.1.2.2.1.getD a'.toNat 0).toNat 0) (by omega) (by intro y h0 h1; omega) ?_ ?_
  · intro a next a0 a1 hP hn hin
    try dsimp only
    have sa := S.frm a0 (by omega)
    have fa := within_iff.1 haw a a0 a1
    refine cnd_d (fun _ => ⟨a0, a1, fa.1, by omega, a0, by omega, sa.1, by omega, fun _ => by omega, fun _ => by omega, fun _ => by omega, cnd_of (fun hx => bad fun h => ?_) (fun hx => ⟨by rw [inK64]; (try dsimp only); omega, hn fun a' b0 b1 => ?_⟩)⟩) (fun h => absurd a1 h)
    · have := h.ends a a0 (by omega)
      rw [this.1, this.2] at hx; simp at hx
    · by_cases e : a' = a
      · rw [e]; simpa only [Bool.or_eq_false_iff, bne_eq_false_iff_eq] using hx
      · exact hP a' b0 (by omega)
  intro next hE hin
  refine cnd_d (fun h => absurd h (by dsimp only; omega)) (fun _ => ?_)
  clear next
  refine loop_ix (n := f.1.2.2.2.1.length) (fun x => ∀ x' : Int, 0 ≤ x' → x' < x → f.2.2.2.getD (f.1.2.2.2.1.getD x'.toNat 0).toNat 0 = f.2.1.2.2.2.1.getD (f.2.2.1.getD x'.toNat 0).toNat 0) (by omega) (by intro y h0 h1; omega) ?_ ?_
  · intro x next x0 x1 hP hn hin
    try dsimp only
    have ix := S.idn x0 (by omega)
    have ox := within_iff.1 how x x0 (by omega)
    refine cnd_d (fun _ => ⟨x0, x1, ix.1, by omega, x0, by omega, ox.1, by omega, cnd_of (fun hx => bad fun h => ?_) (fun hx => ⟨by rw [inK64]; (try dsimp only); omega, hn fun x' b0 b1 => ?_⟩)⟩) (fun h => absurd x1 h)
    · rw [h.ids x x0 (by omega)] at hx; simp at hx
    · by_cases e : x' = x
      · rw [e]; simpa only [bne_eq_false_iff_eq] using hx
      · exact hP x' b0 (by omega)
  intro next hI hin
  refine cnd_d (fun h => absurd h (by dsimp only; omega)) (fun _ => ?_)
  clear next
  refine loop_ix (n := f.1.2.2.2.2.length) (fun a => ∀ a' : Int, 0 ≤ a' → a' < a → ∀ b : Int, 0 ≤ b → b < f.1.2.1.length → f.1.2.2.1.getD a'.toNat 0 = f.1.2.1.getD b.toNat 0 → f.2.2.2.getD (compR f.1 a' b).toNat 0 = compR f.2.1 (f.2.2.2.getD a'.toNat 0) (f.2.2.2.getD b.toNat 0)) (by omega) (by intro y h0 h1; omega) ?_ ?_
  · intro a next a0 a1 hP hn hin
    try dsimp only
    have ra := S.row a a0 (by omega)
    have fa := within_iff.1 haw a a0 (by omega)
    have rfa := S2.row _ fa.1 fa.2
    refine cnd_d (fun _ => ⟨a0, a1, ?_⟩) (fun h => absurd a1 h)
    refine loop_ix (n := (f.1.2.2.2.2.getD a.toNat []).length) (fun b => ∀ b' : Int, 0 ≤ b' → b' < b → f.1.2.2.1.getD a.toNat 0 = f.1.2.1.getD b'.toNat 0 → f.2.2.2.getD (compR f.1 a b').toNat 0 = compR f.2.1 (f.2.2.2.getD a.toNat 0) (f.2.2.2.getD b'.toNat 0)) (by omega) (by intro y h0 h1; omega) ?_ ?_
    · intro b next2 b0 b1 hP2 hn2 hin2
      try dsimp only
      simp only [at1, at2]
      have fb := within_iff.1 haw b b0 (by omega)
      have cab := S.comp a0 (by omega) b0 (by omega)
      have yab := @ShapeP.yes f.1 S a b a0 (by omega) b0 (by omega)
      refine cnd_d (fun _ => ⟨b0, b1, fun hq => ?_, fun _ => by omega, fun _ => by omega, fun _ => by omega, cnd_of (fun hx => bad fun h => ?_) (fun hx => ⟨by rw [inK64]; (try dsimp only); omega, hn2 fun b' c0 c1 => ?_⟩)⟩) (fun h => absurd b1 h)
      · have := yab (cab.1 (of_decide_eq_true hq)); omega
      · simp only [Bool.and_eq_true, decide_eq_true_eq, bne_iff_ne] at hx
        exact hx.2 (h.comp a a0 (by omega) b b0 (by omega) (cab.1 hx.1))
      · by_cases e : b' = b
        · rw [e]
          intro eab
          have hq := cab.2 eab
          simpa [hq] using hx
        · exact hP2 b' c0 (by omega)
    · intro next2 hP2 hin2
      refine cnd_d (fun h => absurd h (by dsimp only; omega)) (fun _ => ⟨by rw [inK64]; (try dsimp only); omega, hn fun a' b0 b1 => ?_⟩)
      by_cases e : a' = a
      · rw [e]; exact fun b b0 b1 => hP2 b b0 (by omega)
      · exact hP a' b0 (by omega)
  · intro next hP hin
    refine cnd_d (fun h => absurd h (by dsimp only; omega)) (fun _ => ?_)
    have key : FitP f := ⟨by omega, by omega, how, haw, fun a a0 a1 => hE a a0 (by omega), fun x x0 x1 => hI x x0 (by omega), fun a a0 a1 b b0 b1 => hP a a0 (by omega) b b0 b1⟩
    simp only [c_impl_Functor_fits]
    rw [(fits_iff S).2 key]
theorem ct_impl_Functor_fits : CtOk Try.prog 130 c_impl_Functor_fits :=
  ct_by (Φ := lkp [(146, c_impl_Category_arrows), (132, c_impl_Category_then), (158, c_impl_within)]) (good_cons ct_impl_Category_arrows (good_cons ct_impl_Category_then (good_cons ct_impl_within good_nil))) tab_ok (by kernel_rfl) (fn := Try.f130) (c := bodyOf Try.f130) (by kernel_rfl) (by kernel_rfl) (by kernel_rfl) c_impl_Functor_fits rfl (.s .n (.s .n (.s .n (.s (.s .n (.l [(66, (.d (.int .i64)))] [] [0, 3, 4, 64, 65] .n)) (.s (.s .n (.l [(121, (.d (.int .i64)))] [] [0, 3, 4, 119, 120] .n)) (.s (.s .n (.l [(153, (.d (.int .i64)))] [] [0, 4, 151, 152] (.s .n (.s .n (.s (.s .n (.s .n (.l [(160, (.d (.int .i64)))] [] [0, 4, 9, 151, 152, 153, 158, 159] .n))) .n))))) .n)))))) (cutL [(1, 8), (2, 42), (22, 28), (7, 44), (13, 21)]) (by kernel_rfl) (by kernel_rfl) k_impl_Functor_fits (by decide) (fun x K => W_impl_Functor_fits x.1 K) w_impl_Functor_fits (fun x h1 h2 => m_impl_Functor_fits x.1 h1 h2)
def c_impl_areCategories : Ct := ⟨[(.sl (.pt CategoryT))], [false], fun x => [], [(false, (.fz .bool))], fun x => (x.1.all catR, ()), false, none⟩
def W_impl_areCategories (list : List CategoryD) (K : Bool × Unit → Prop) : Prop := (loopW (S := ((Int × Unit) × Unit)) (fun s => (fun next => ((inK IntKind.i64 s.1.1) → (cnd (decide (s.1.1 < (((List.length list) : Nat) : Int))) (((0 : Int) ≤ s.1.1) ∧ ((s.1.1 < (((List.length list) : Nat) : Int)) ∧ (cnd (!(catR (List.getD list (Int.toNat s.1.1) ((0 : Int), (([] : List Int), (([] : List Int), (([] : List Int), ([] : List (List Int))))))))) (K (Bool.false, ())) ((inK IntKind.i64 (s.1.1 + (1 : Int))) ∧ (next (((s.1.1 + (1 : Int)), ()), ())))))) (K (Bool.true, ())))))) (((0 : Int), ()), ()))
theorem w_impl_areCategories (x : denL c_impl_areCategories.args) (K : Bool × Unit → Prop) : evF tab (lkp [(143, c_impl_Category_isCategory)]) (cutL []) Try.f129 (bodyOf Try.f129) (.s .n (.s (.s .n (.l [(7, (.d (.int .i64)))] [] [5, 6] .n)) .n)) c_impl_areCategories x K = W_impl_areCategories x.1 K := by kernel_rfl
theorem k_impl_areCategories : okC Try.f129.ntmps (cutL []) (bodyOf Try.f129) = true := by kernel_rfl
theorem m_impl_areCategories (list : List CategoryD) (hok : allP (okL c_impl_areCategories.args (list, ()))) (hpre : allP (c_impl_areCategories.pre (list, ()))) : W_impl_areCategories list (fun r => r = c_impl_areCategories.res (list, ())) := by
  simp only [c_impl_areCategories, okL, T.oks, T.ok, ap, allP, true_and, and_true, implies_true] at hok hpre
  try dsimp only [T.den] at hok
  try dsimp only [T.den] at hpre
  unfold W_impl_areCategories
  have hl : list.length ≤ 140737488355328 := by simp only [nb_eq] at hok; omega
  refine loop_ix (n := list.length) (fun i => list.all catR = (list.drop i.toNat).all catR) (by omega) (by simp) ?_ ?_
  · intro i next h0 h1 hP hn hin
    try dsimp only
    rw [drop_c list (0, ([], ([], ([], [])))) h0 h1, List.all_cons] at hP
    refine cnd_d (fun _ => ⟨h0, h1, cnd_of (fun hx => ?_) (fun hx => ⟨by rw [inK64]; (try dsimp only); omega, hn ?_⟩)⟩) (fun h => absurd h1 h)
    · simp only [Bool.not_eq_true'] at hx
      simp only [c_impl_areCategories]; rw [hP, hx]; rfl
    · simp only [Bool.not_eq_false'] at hx
      rw [hP, hx, Bool.true_and]
  · intro next hP hin
    refine cnd_d (fun h => absurd h (by dsimp only; omega)) (fun _ => ?_)
    simp only [c_impl_areCategories]
    rw [hP, drop_n list (by omega)]; rfl
theorem ct_impl_areCategories : CtOk Try.prog 129 c_impl_areCategories :=
  ct_by (Φ := lkp [(143, c_impl_Category_isCategory)]) (good_cons ct_impl_Category_isCategory good_nil) tab_ok (by kernel_rfl) (fn := Try.f129) (c := bodyOf Try.f129) (by kernel_rfl) (by kernel_rfl) (by kernel_rfl) c_impl_areCategories rfl (.s .n (.s (.s .n (.l [(7, (.d (.int .i64)))] [] [5, 6] .n)) .n)) (cutL []) (by kernel_rfl) (by kernel_rfl) k_impl_areCategories (by decide) (fun x K => W_impl_areCategories x.1 K) w_impl_areCategories (fun x h1 h2 => m_impl_areCategories x.1 h1 h2)
def funR (f : FunctorD) : Bool := catR f.1 && catR f.2.1 && fitsR f
def funCodeR (f : FunctorD) : Int := if funR f = true then 0 else 1
structure FunP (f : FunctorD) : Prop where
  src : ShapeP f.1
  tgt : ShapeP f.2.1
  fit : FitP f
theorem fun_of {f : FunctorD} (h : funR f = true) : FunP f := by
  simp only [funR, Bool.and_eq_true] at h
  exact ⟨cat_shape h.1.1, cat_shape h.1.2, (fits_iff (cat_shape h.1.1)).1 h.2⟩

def c_impl_Functor_isFunctor : Ct := ⟨[(.pt FunctorT)], [false], fun x => [], [(false, (.fz .bool))], fun x => (funR x.1, ()), false, none⟩
def W_impl_Functor_isFunctor (f : FunctorD) (K : Bool × Unit → Prop) : Prop := ((((List.all (f.1 :: (f.2.1 :: ([] : List (Int × ((List Int) × ((List Int) × ((List Int) × (List (List Int))))))))) catR) = Bool.true) → ((ShapeP f.2.1) ∧ (ShapeP f.1))) ∧ (K (((List.all (f.1 :: (f.2.1 :: ([] : List (Int × ((List Int) × ((List Int) × ((List Int) × (List (List Int))))))))) catR) && (fitsR f)), ())))
theorem w_impl_Functor_isFunctor (x : denL c_impl_Functor_isFunctor.args) (K : Bool × Unit → Prop) : evF tab (lkp [(130, c_impl_Functor_fits), (129, c_impl_areCategories)]) (cutL [(1, 13)]) Try.f93 (bodyOf Try.f93) .n c_impl_Functor_isFunctor x K = W_impl_Functor_isFunctor x.1 K := by kernel_rfl
theorem k_impl_Functor_isFunctor : okC Try.f93.ntmps (cutL [(1, 13)]) (bodyOf Try.f93) = true := by kernel_rfl
theorem m_impl_Functor_isFunctor (f : FunctorD) (hok : allP (okL c_impl_Functor_isFunctor.args (f, ()))) (hpre : allP (c_impl_Functor_isFunctor.pre (f, ()))) : W_impl_Functor_isFunctor f (fun r => r = c_impl_Functor_isFunctor.res (f, ())) := by
  simp only [c_impl_Functor_isFunctor, okL, T.oks, T.ok, ap, allP, true_and, and_true, implies_true] at hok hpre
  try dsimp only [T.den] at hok
  try dsimp only [T.den] at hpre
  unfold W_impl_Functor_isFunctor
  simp only [c_impl_Functor_isFunctor, funR, List.all_cons, List.all_nil, Bool.and_true]
  have h1 := @cat_shape f.1
  have h2 := @cat_shape f.2.1
  grind [cnd, nb_eq, inK64]
theorem ct_impl_Functor_isFunctor : CtOk Try.prog 93 c_impl_Functor_isFunctor :=
  ct_by (Φ := lkp [(130, c_impl_Functor_fits), (129, c_impl_areCategories)]) (good_cons ct_impl_Functor_fits (good_cons ct_impl_areCategories good_nil)) tab_ok (by kernel_rfl) (fn := Try.f93) (c := bodyOf Try.f93) (by kernel_rfl) (by kernel_rfl) (by kernel_rfl) c_impl_Functor_isFunctor rfl .n (cutL [(1, 13)]) (by kernel_rfl) (by kernel_rfl) k_impl_Functor_isFunctor (by decide) (fun x K => W_impl_Functor_isFunctor x.1 K) w_impl_Functor_isFunctor (fun x h1 h2 => m_impl_Functor_isFunctor x.1 h1 h2)
/-- the arrows out of x -/
def outR (c : CategoryD) (x : Int) : List Int := selR c.2.1.length fun f => c.2.1.getD f.toNat 0 == x

def c_impl_Category_outOf : Ct := ⟨[(.pt CategoryT), (.int .i64)], [false, false], fun x => [x.1.2.1.length ≤ 40], [(false, (.sl (.fz (.int .i64))))], fun x => (outR x.1 x.2.1, ()), false, none⟩
def W_impl_Category_outOf (c : CategoryD) (x : Int) (K : (List Int) × Unit → Prop) : Prop := (loopW (S := ((Unit × (Int × Unit)) × ((List Int) × Unit))) (fun s => (fun next => ((inK IntKind.i64 s.1.2.1) → ((T.ok (T.sl (T.int IntKind.i64)) s.2.1) → (cnd (decide (s.1.2.1 < (((List.length c.2.1) : Nat) : Int))) (((0 : Int) ≤ s.1.2.1) ∧ ((s.1.2.1 < (((List.length c.2.1) : Nat) : Int)) ∧ (joinW (S := ((Unit × Unit) × ((List Int) × Unit))) (fun s1 => ((T.ok (T.sl (T.int IntKind.i64)) s1.2.1) → ((inK IntKind.i64 (s.1.2.1 + (1 : Int))) ∧ (next (((), ((s.1.2.1 + (1 : Int)), ())), (s1.2.1, ())))))) (fun k => (cnd ((List.getD c.2.1 (Int.toNat s.1.2.1) (0 : Int)) == x) ((room (List.length s.2.1) (List.length (s.1.2.1 :: ([] : List Int))) 8) ∧ (k (((), ()), ((s.2.1 ++ (s.1.2.1 :: ([] : List Int))), ())))) (k (((), ()), (s.2.1, ())))))))) (K (s.2.1, ()))))))) (((), ((0 : Int), ())), (([] : List Int), ())))
theorem w_impl_Category_outOf (x : denL c_impl_Category_outOf.args) (K : (List Int) × Unit → Prop) : evF tab (lkp []) (cutL []) Try.f56 (bodyOf Try.f56) (.s .n (.s .n (.s (.s .n (.l [(5, (.ref 800005 [])), (14, (.d (.int .i64)))] [(800005, (.sl (.fz (.int .i64))))] [1, 12, 13] (.s .n (.s .n (.s (.s .n (.s .n (.j [(5, (.ref 800005 []))] [(800005, (.sl (.fz (.int .i64))))] [1, 12, 13, 14] .n))) .n))))) .n))) c_impl_Category_outOf x K = W_impl_Category_outOf x.1 x.2.1 K := by kernel_rfl
theorem k_impl_Category_outOf : okC Try.f56.ntmps (cutL []) (bodyOf Try.f56) = true := by kernel_rfl
theorem m_impl_Category_outOf (c : CategoryD) (x : Int) (hok : allP (okL c_impl_Category_outOf.args (c, x, ()))) (hpre : allP (c_impl_Category_outOf.pre (c, x, ()))) : W_impl_Category_outOf c x (fun r => r = c_impl_Category_outOf.res (c, x, ())) := by
  simp only [c_impl_Category_outOf, okL, T.oks, T.ok, ap, allP, true_and, and_true, implies_true] at hok hpre
  try dsimp only [T.den] at hok
  try dsimp only [T.den] at hpre
  unfold W_impl_Category_outOf
  have hm : c.2.1.length ≤ 40 := hpre
  refine loop_of (fun (s : ((Unit × (Int × Unit)) × ((List Int) × Unit))) => 0 ≤ s.1.2.1 ∧ s.1.2.1 ≤ c.2.1.length ∧ s.2.1 = selR s.1.2.1.toNat fun f => c.2.1.getD f.toNat 0 == x) (fun (s : ((Unit × (Int × Unit)) × ((List Int) × Unit))) => (c.2.1.length - s.1.2.1).toNat) ?_ ⟨by simp, by simp, rfl⟩
  rintro ⟨⟨_, i, _⟩, l, _⟩ next ⟨h0, h1, h2⟩ hn hin hl
  try dsimp only at h0 h1 h2 hn ⊢
  subst h2
  refine cnd_d (fun hc => ⟨h0, hc, join_of (fun s1 => s1.2.1 = selR (i + 1).toNat fun f => c.2.1.getD f.toNat 0 == x) (fun s1 hs _ => ⟨by rw [inK64]; (try dsimp only); omega, hn _ ⟨(by first | omega | (dsimp only; omega)), (by first | omega | (dsimp only; omega)), hs⟩ (by first | omega | (dsimp only; omega))⟩) (fun k hk => cnd_of (fun hx => ⟨?_, hk _ ?_⟩) (fun hx => hk _ ?_))⟩) (fun hc => ?_)
  · have := sel_len (p := fun f => c.2.1.getD f.toNat 0 == x) i.toNat
    unfold room
    rw [nb_eq]
    have h3 : (i :: ([] : List Int)).length = 1 := rfl
    rw [h3]
    omega
  · exact (sel_t h0 hx).symm
  · exact (sel_f h0 hx).symm
  · have e : i.toNat = c.2.1.length := by omega
    simp only [c_impl_Category_outOf, outR]
    rw [e]
theorem ct_impl_Category_outOf : CtOk Try.prog 56 c_impl_Category_outOf :=
  ct_by (Φ := lkp []) good_nil tab_ok (by kernel_rfl) (fn := Try.f56) (c := bodyOf Try.f56) (by kernel_rfl) (by kernel_rfl) (by kernel_rfl) c_impl_Category_outOf rfl (.s .n (.s .n (.s (.s .n (.l [(5, (.ref 800005 [])), (14, (.d (.int .i64)))] [(800005, (.sl (.fz (.int .i64))))] [1, 12, 13] (.s .n (.s .n (.s (.s .n (.s .n (.j [(5, (.ref 800005 []))] [(800005, (.sl (.fz (.int .i64))))] [1, 12, 13, 14] .n))) .n))))) .n))) (cutL []) (by kernel_rfl) (by kernel_rfl) k_impl_Category_outOf (by decide) (fun x K => W_impl_Category_outOf x.1 x.2.1 K) w_impl_Category_outOf (fun x h1 h2 => m_impl_Category_outOf x.1 x.2.1 h1 h2)
/-- the arrows from x to y -/
def homR (c : CategoryD) (x y : Int) : List Int := selR c.2.1.length fun f => c.2.1.getD f.toNat 0 == x && c.2.2.1.getD f.toNat 0 == y
theorem hom_mem {c : CategoryD} {x y g : Int} : g ∈ homR c x y ↔ 0 ≤ g ∧ g < c.2.1.length ∧ c.2.1.getD g.toNat 0 = x ∧ c.2.2.1.getD g.toNat 0 = y := by
  unfold homR; rw [sel_mem, Bool.and_eq_true, beq_iff_eq, beq_iff_eq]

def c_impl_Category_hom : Ct := ⟨[(.pt CategoryT), (.int .i64), (.int .i64)], [false, false, false], fun x => [x.1.2.1.length ≤ 40, x.1.2.2.1.length = x.1.2.1.length], [(false, (.sl (.fz (.int .i64))))], fun x => (homR x.1 x.2.1 x.2.2.1, ()), false, none⟩
def W_impl_Category_hom (c : CategoryD) (x : Int) (y : Int) (K : (List Int) × Unit → Prop) : Prop := (loopW (S := ((Unit × (Int × Unit)) × ((List Int) × Unit))) (fun s => (fun next => ((inK IntKind.i64 s.1.2.1) → ((T.ok (T.sl (T.int IntKind.i64)) s.2.1) → (cnd (decide (s.1.2.1 < (((List.length c.2.1) : Nat) : Int))) (((0 : Int) ≤ s.1.2.1) ∧ ((s.1.2.1 < (((List.length c.2.1) : Nat) : Int)) ∧ (((((List.getD c.2.1 (Int.toNat s.1.2.1) (0 : Int)) == x) = Bool.true) → ((s.1.2.1 < (((List.length c.2.2.1) : Nat) : Int)) ∧ ((0 : Int) ≤ s.1.2.1))) ∧ (joinW (S := ((Unit × Unit) × ((List Int) × Unit))) (fun s1 => ((T.ok (T.sl (T.int IntKind.i64)) s1.2.1) → ((inK IntKind.i64 (s.1.2.1 + (1 : Int))) ∧ (next (((), ((s.1.2.1 + (1 : Int)), ())), (s1.2.1, ())))))) (fun k => (cnd (((List.getD c.2.1 (Int.toNat s.1.2.1) (0 : Int)) == x) && ((List.getD c.2.2.1 (Int.toNat s.1.2.1) (0 : Int)) == y)) ((room (List.length s.2.1) (List.length (s.1.2.1 :: ([] : List Int))) 8) ∧ (k (((), ()), ((s.2.1 ++ (s.1.2.1 :: ([] : List Int))), ())))) (k (((), ()), (s.2.1, ()))))))))) (K (s.2.1, ()))))))) (((), ((0 : Int), ())), (([] : List Int), ())))
theorem w_impl_Category_hom (x : denL c_impl_Category_hom.args) (K : (List Int) × Unit → Prop) : evF tab (lkp []) (cutL []) Try.f131 (bodyOf Try.f131) (.s .n (.s .n (.s (.s .n (.l [(7, (.ref 800007 [])), (15, (.d (.int .i64)))] [(800007, (.sl (.fz (.int .i64))))] [0, 1, 2, 14] (.s .n (.s .n (.s (.s .n (.s .n (.j [(7, (.ref 800007 []))] [(800007, (.sl (.fz (.int .i64))))] [0, 1, 2, 14, 15] .n))) .n))))) .n))) c_impl_Category_hom x K = W_impl_Category_hom x.1 x.2.1 x.2.2.1 K := by kernel_rfl
theorem k_impl_Category_hom : okC Try.f131.ntmps (cutL []) (bodyOf Try.f131) = true := by kernel_rfl
theorem m_impl_Category_hom (c : CategoryD) (x : Int) (y : Int) (hok : allP (okL c_impl_Category_hom.args (c, x, y, ()))) (hpre : allP (c_impl_Category_hom.pre (c, x, y, ()))) : W_impl_Category_hom c x y (fun r => r = c_impl_Category_hom.res (c, x, y, ())) := by
  simp only [c_impl_Category_hom, okL, T.oks, T.ok, ap, allP, true_and, and_true, implies_true] at hok hpre
  try dsimp only [T.den] at hok
  try dsimp only [T.den] at hpre
  unfold W_impl_Category_hom
  have hm : c.2.1.length ≤ 40 := hpre.1
  have hlt : c.2.2.1.length = c.2.1.length := hpre.2
  refine loop_of (fun (s : ((Unit × (Int × Unit)) × ((List Int) × Unit))) => 0 ≤ s.1.2.1 ∧ s.1.2.1 ≤ c.2.1.length ∧ s.2.1 = selR s.1.2.1.toNat fun f => c.2.1.getD f.toNat 0 == x && c.2.2.1.getD f.toNat 0 == y) (fun (s : ((Unit × (Int × Unit)) × ((List Int) × Unit))) => (c.2.1.length - s.1.2.1).toNat) ?_ ⟨by simp, by simp, rfl⟩
  rintro ⟨⟨_, i, _⟩, l, _⟩ next ⟨h0, h1, h2⟩ hn hin hl
  try dsimp only at h0 h1 h2 hn ⊢
  subst h2
  refine cnd_d (fun hc => ⟨h0, hc, fun _ => by omega, join_of (fun s1 => s1.2.1 = selR (i + 1).toNat fun f => c.2.1.getD f.toNat 0 == x && c.2.2.1.getD f.toNat 0 == y) (fun s1 hs _ => ⟨by rw [inK64]; (try dsimp only); omega, hn _ ⟨(by first | omega | (dsimp only; omega)), (by first | omega | (dsimp only; omega)), hs⟩ (by first | omega | (dsimp only; omega))⟩) (fun k hk => cnd_of (fun hx => ⟨?_, hk _ ?_⟩) (fun hx => hk _ ?_))⟩) (fun hc => ?_)
  · have := sel_len (p := fun f => c.2.1.getD f.toNat 0 == x && c.2.2.1.getD f.toNat 0 == y) i.toNat
    unfold room
    rw [nb_eq]
    have h3 : (i :: ([] : List Int)).length = 1 := rfl
    rw [h3]
    omega
  · exact (sel_t h0 hx).symm
  · exact (sel_f h0 hx).symm
  · have e1 : i.toNat = c.2.1.length := by omega
    simp only [c_impl_Category_hom, homR]
    rw [e1]
theorem ct_impl_Category_hom : CtOk Try.prog 131 c_impl_Category_hom :=
  ct_by (Φ := lkp []) good_nil tab_ok (by kernel_rfl) (fn := Try.f131) (c := bodyOf Try.f131) (by kernel_rfl) (by kernel_rfl) (by kernel_rfl) c_impl_Category_hom rfl (.s .n (.s .n (.s (.s .n (.l [(7, (.ref 800007 [])), (15, (.d (.int .i64)))] [(800007, (.sl (.fz (.int .i64))))] [0, 1, 2, 14] (.s .n (.s .n (.s (.s .n (.s .n (.j [(7, (.ref 800007 []))] [(800007, (.sl (.fz (.int .i64))))] [0, 1, 2, 14, 15] .n))) .n))))) .n))) (cutL []) (by kernel_rfl) (by kernel_rfl) k_impl_Category_hom (by decide) (fun x K => W_impl_Category_hom x.1 x.2.1 x.2.2.1 K) w_impl_Category_hom (fun x h1 h2 => m_impl_Category_hom x.1 x.2.1 x.2.2.1 h1 h2)
def extR (c : CategoryD) (f g : Int) : List Int := (homR c (c.2.2.1.getD g.toNat 0) (c.2.2.1.getD f.toNat 0)).filter fun h => compR c g h == f
theorem hom_at {c : CategoryD} {x y i : Int} (h0 : 0 ≤ i) (h1 : i < (homR c x y).length) : 0 ≤ (homR c x y).getD i.toNat 0 ∧ (homR c x y).getD i.toNat 0 < c.2.1.length ∧ c.2.1.getD ((homR c x y).getD i.toNat 0).toNat 0 = x ∧ c.2.2.1.getD ((homR c x y).getD i.toNat 0).toNat 0 = y := hom_mem.1 (getD_mem _ 0 h0 h1)
theorem ext_mem {c : CategoryD} {f g v : Int} : v ∈ extR c f g ↔ (0 ≤ v ∧ v < c.2.1.length ∧ c.2.1.getD v.toNat 0 = c.2.2.1.getD g.toNat 0 ∧ c.2.2.1.getD v.toNat 0 = c.2.2.1.getD f.toNat 0) ∧ compR c g v = f := by
  unfold extR; rw [List.mem_filter, hom_mem, beq_iff_eq]
theorem hom_len {c : CategoryD} (S : ShapeP c) (x y : Int) : (homR c x y).length ≤ 40 := Nat.le_trans (sel_len _) S.m
theorem ext_len {c : CategoryD} (S : ShapeP c) (x y : Int) : (extR c x y).length ≤ 40 := Nat.le_trans (List.length_filter_le _ _) (hom_len S _ _)

def c_impl_Category_extensions : Ct := ⟨[(.pt CategoryT), (.int .i64), (.int .i64)], [false, false, false], fun x => [ShapeP x.1, 0 ≤ x.2.1, x.2.1 < x.1.2.1.length, 0 ≤ x.2.2.1, x.2.2.1 < x.1.2.1.length], [(false, (.sl (.fz (.int .i64))))], fun x => (extR x.1 x.2.1 x.2.2.1, ()), false, none⟩
def W_impl_Category_extensions (c : CategoryD) (f : Int) (g : Int) (K : (List Int) × Unit → Prop) : Prop := (((0 : Int) ≤ g) ∧ ((g < (((List.length c.2.2.1) : Nat) : Int)) ∧ (((0 : Int) ≤ f) ∧ ((f < (((List.length c.2.2.1) : Nat) : Int)) ∧ (((List.length c.2.1) ≤ 40) ∧ (((List.length c.2.2.1) = (List.length c.2.1)) ∧ (loopW (S := ((Unit × (Int × Unit)) × ((List Int) × Unit))) (fun s => (fun next => ((inK IntKind.i64 s.1.2.1) → ((T.ok (T.sl (T.int IntKind.i64)) s.2.1) → (cnd (decide (s.1.2.1 < (((List.length (homR c (List.getD c.2.2.1 (Int.toNat g) (0 : Int)) (List.getD c.2.2.1 (Int.toNat f) (0 : Int)))) : Nat) : Int))) (((0 : Int) ≤ s.1.2.1) ∧ ((s.1.2.1 < (((List.length (homR c (List.getD c.2.2.1 (Int.toNat g) (0 : Int)) (List.getD c.2.2.1 (Int.toNat f) (0 : Int)))) : Nat) : Int)) ∧ (((0 : Int) ≤ g) ∧ ((g < (((List.length c.2.2.2.2) : Nat) : Int)) ∧ (((0 : Int) ≤ (List.getD (homR c (List.getD c.2.2.1 (Int.toNat g) (0 : Int)) (List.getD c.2.2.1 (Int.toNat f) (0 : Int))) (Int.toNat s.1.2.1) (0 : Int))) ∧ (((List.getD (homR c (List.getD c.2.2.1 (Int.toNat g) (0 : Int)) (List.getD c.2.2.1 (Int.toNat f) (0 : Int))) (Int.toNat s.1.2.1) (0 : Int)) < (((List.length (List.getD c.2.2.2.2 (Int.toNat g) ([] : List Int))) : Nat) : Int)) ∧ (joinW (S := ((Unit × Unit) × ((List Int) × Unit))) (fun s1 => ((T.ok (T.sl (T.int IntKind.i64)) s1.2.1) → ((inK IntKind.i64 (s.1.2.1 + (1 : Int))) ∧ (next (((), ((s.1.2.1 + (1 : Int)), ())), (s1.2.1, ())))))) (fun k => (cnd ((compR c g (List.getD (homR c (List.getD c.2.2.1 (Int.toNat g) (0 : Int)) (List.getD c.2.2.1 (Int.toNat f) (0 : Int))) (Int.toNat s.1.2.1) (0 : Int))) == f) ((room (List.length s.2.1) (List.length ((List.getD (homR c (List.getD c.2.2.1 (Int.toNat g) (0 : Int)) (List.getD c.2.2.1 (Int.toNat f) (0 : Int))) (Int.toNat s.1.2.1) (0 : Int)) :: ([] : List Int))) 8) ∧ (k (((), ()), ((s.2.1 ++ ((List.getD (homR c (List.getD c.2.2.1 (Int.toNat g) (0 : Int)) (List.getD c.2.2.1 (Int.toNat f) (0 : Int))) (Int.toNat s.1.2.1) (0 : Int)) :: ([] : List Int))), ())))) (k (((), ()), (s.2.1, ())))))))))))) (K (s.2.1, ()))))))) (((), ((0 : Int), ())), (([] : List Int), ())))))))))
theorem w_impl_Category_extensions (x : denL c_impl_Category_extensions.args) (K : (List Int) × Unit → Prop) : evF tab (lkp [(131, c_impl_Category_hom), (132, c_impl_Category_then)]) (cutL [(2, 18)]) Try.f133 (bodyOf Try.f133) (.s .n (.s .n (.s (.s .n (.l [(7, (.ref 10 [])), (28, (.d (.int .i64)))] [(10, (.sl (.fz (.int .i64))))] [0, 1, 2, 26, 27] (.s .n (.s .n (.s (.s .n (.s .n (.j [(7, (.ref 10 []))] [(10, (.sl (.fz (.int .i64))))] [0, 1, 2, 26, 27, 28] .n))) .n))))) .n))) c_impl_Category_extensions x K = W_impl_Category_extensions x.1 x.2.1 x.2.2.1 K := by kernel_rfl
theorem k_impl_Category_extensions : okC Try.f133.ntmps (cutL [(2, 18)]) (bodyOf Try.f133) = true := by kernel_rfl
theorem m_impl_Category_extensions (c : CategoryD) (f : Int) (g : Int) (hok : allP (okL c_impl_Category_extensions.args (c, f, g, ()))) (hpre : allP (c_impl_Category_extensions.pre (c, f, g, ()))) : W_impl_Category_extensions c f g (fun r => r = c_impl_Category_extensions.res (c, f, g, ())) := by
  simp only [c_impl_Category_extensions, okL, T.oks, T.ok, ap, allP, true_and, and_true, implies_true] at hok hpre
  try dsimp only [T.den] at hok
  try dsimp only [T.den] at hpre
  unfold W_impl_Category_extensions
  obtain ⟨S, f0, f1, g0, g1⟩ := hpre
  have hlt := S.lt
  have hlc := S.lc
  have hg := S.row g g0 g1
  have hm := S.m
  have hl := hom_len S (c.2.2.1.getD g.toNat 0) (c.2.2.1.getD f.toNat 0)
  have hmem := fun i : Int => @hom_at c (c.2.2.1.getD g.toNat 0) (c.2.2.1.getD f.toNat 0) i
  have hval : extR c f g = (homR c (c.2.2.1.getD g.toNat 0) (c.2.2.1.getD f.toNat 0)).filter fun h => compR c g h == f := rfl
  refine ⟨g0, by omega, f0, by omega, by omega, by omega, ?_⟩
  generalize homR c (c.2.2.1.getD g.toNat 0) (c.2.2.1.getD f.toNat 0) = l at *
  refine loop_ixa (filT (fun h => compR c g h == f) l) (n := l.length) (by omega) rfl ?_ ?_
  · intro i next h0 h1 hn hin hok
    have hm := hmem i h0 h1
    have hf := @fil_len (fun h => compR c g h == f) l i
    refine cnd_d (fun _ => ?_) (fun h => absurd h1 h)
    try dsimp only
    refine ⟨h0, h1, g0, (by first | omega | (dsimp only; omega)), hm.1, (by first | omega | (dsimp only; omega)), join_of (fun s1 => s1.2.1 = filT (fun h => compR c g h == f) l (i + 1)) (fun s1 hs _ => ⟨by rw [inK64]; (try dsimp only); omega, by rw [← hs] at hn; exact hn⟩) (fun k hk => cnd_of (fun hx => ⟨?_, hk _ (fil_t h0 h1 hx).symm⟩) (fun hx => hk _ (fil_f h0 h1 hx).symm))⟩
    unfold room
    rw [nb_eq]
    have h3 : ((l.getD i.toNat 0) :: ([] : List Int)).length = 1 := rfl
    rw [h3]
    omega
  · intro next hin hok
    refine cnd_d (fun h => absurd h (Int.lt_irrefl _)) (fun _ => ?_)
    simp only [c_impl_Category_extensions]
    rw [fil_n (by omega), hval]
theorem ct_impl_Category_extensions : CtOk Try.prog 133 c_impl_Category_extensions :=
  ct_by (Φ := lkp [(131, c_impl_Category_hom), (132, c_impl_Category_then)]) (good_cons ct_impl_Category_hom (good_cons ct_impl_Category_then good_nil)) tab_ok (by kernel_rfl) (fn := Try.f133) (c := bodyOf Try.f133) (by kernel_rfl) (by kernel_rfl) (by kernel_rfl) c_impl_Category_extensions rfl (.s .n (.s .n (.s (.s .n (.l [(7, (.ref 10 [])), (28, (.d (.int .i64)))] [(10, (.sl (.fz (.int .i64))))] [0, 1, 2, 26, 27] (.s .n (.s .n (.s (.s .n (.s .n (.j [(7, (.ref 10 []))] [(10, (.sl (.fz (.int .i64))))] [0, 1, 2, 26, 27, 28] .n))) .n))))) .n))) (cutL [(2, 18)]) (by kernel_rfl) (by kernel_rfl) k_impl_Category_extensions (by decide) (fun x K => W_impl_Category_extensions x.1 x.2.1 x.2.2.1 K) w_impl_Category_extensions (fun x h1 h2 => m_impl_Category_extensions x.1 x.2.1 x.2.2.1 h1 h2)
def squareR (t : List (List Int)) (b : Int) : Bool := allB t.length fun i => decide ((t.getD i.toNat []).length = t.length) && withinR (t.getD i.toNat []) b
def tabR (t : List (List Int)) (n : Int) : Bool := decide ((t.length : Int) = n) && squareR t n
def atR (t : List (List Int)) (i j : Int) : Int := (t.getD i.toNat []).getD j.toNat 0
theorem square_iff {t : List (List Int)} {b : Int} : squareR t b = true ↔ ∀ i : Int, 0 ≤ i → i < t.length → (t.getD i.toNat []).length = t.length ∧ withinR (t.getD i.toNat []) b = true := by
  simp only [squareR, allB_iff, Bool.and_eq_true, decide_eq_true_eq]
theorem tab_at {t : List (List Int)} {n : Int} (h : tabR t n = true) : (t.length : Int) = n ∧ (∀ i : Int, 0 ≤ i → i < n → ((t.getD i.toNat []).length : Int) = n) ∧ ∀ i j : Int, 0 ≤ i → i < n → 0 ≤ j → j < n → 0 ≤ atR t i j ∧ atR t i j < n := by
  simp only [tabR, Bool.and_eq_true, decide_eq_true_eq, square_iff] at h
  refine ⟨h.1, fun i h0 h1 => ?_, fun i j h0 h1 g0 g1 => ?_⟩
  · have := (h.2 i h0 (by omega)).1; omega
  · obtain ⟨a, b⟩ := h.2 i h0 (by omega)
    exact within_iff.1 b j g0 (by omega)

def c_impl_isTable : Ct := ⟨[(.sl (.sl (.int .i64))), (.int .i64)], [false, false], fun x => [inK .i64 (x.2.1 - 1)], [(false, (.fz .bool))], fun x => (tabR x.1 x.2.1, ()), false, none⟩
def W_impl_isTable (list : List (List Int)) (n : Int) (K : Bool × Unit → Prop) : Prop := (cnd ((((List.length list) : Nat) : Int) != n) (K (Bool.false, ())) (loopW (S := ((Int × Unit) × Unit)) (fun s => (fun next => ((inK IntKind.i64 s.1.1) → (cnd (decide (s.1.1 < (((List.length list) : Nat) : Int))) (((0 : Int) ≤ s.1.1) ∧ ((s.1.1 < (((List.length list) : Nat) : Int)) ∧ (((((((List.length (List.getD list (Int.toNat s.1.1) ([] : List Int))) : Nat) : Int) != n) = Bool.false) → (inK IntKind.i64 (n - (1 : Int)))) ∧ (cnd (((((List.length (List.getD list (Int.toNat s.1.1) ([] : List Int))) : Nat) : Int) != n) || (!(withinR (List.getD list (Int.toNat s.1.1) ([] : List Int)) n))) (K (Bool.false, ())) ((inK IntKind.i64 (s.1.1 + (1 : Int))) ∧ (next (((s.1.1 + (1 : Int)), ()), ()))))))) (K (Bool.true, ())))))) (((0 : Int), ()), ())))
theorem w_impl_isTable (x : denL c_impl_isTable.args) (K : Bool × Unit → Prop) : evF tab (lkp [(158, c_impl_within)]) (cutL []) Try.f145 (bodyOf Try.f145) (.s .n (.s .n (.s (.s .n (.l [(13, (.d (.int .i64)))] [] [1, 11, 12] .n)) .n))) c_impl_isTable x K = W_impl_isTable x.1 x.2.1 K := by kernel_rfl
theorem k_impl_isTable : okC Try.f145.ntmps (cutL []) (bodyOf Try.f145) = true := by kernel_rfl
theorem m_impl_isTable (list : List (List Int)) (n : Int) (hok : allP (okL c_impl_isTable.args (list, n, ()))) (hpre : allP (c_impl_isTable.pre (list, n, ()))) : W_impl_isTable list n (fun r => r = c_impl_isTable.res (list, n, ())) := by
  simp only [c_impl_isTable, okL, T.oks, T.ok, ap, allP, true_and, and_true, implies_true] at hok hpre
  try dsimp only [T.den] at hok
  try dsimp only [T.den] at hpre
  unfold W_impl_isTable
  have hl : list.length ≤ 140737488355328 := by simp only [nb_eq] at hok; omega
  have bad : ¬ (tabR list n = true) → (false, ()) = c_impl_isTable.res (list, n, ()) := fun h => by
    simp only [c_impl_isTable]
    cases hs : tabR list n with
    | false => rfl
    | true => exact absurd hs h
  have hti : tabR list n = true ↔ (list.length : Int) = n ∧ ∀ i : Int, 0 ≤ i → i < list.length → (list.getD i.toNat []).length = list.length ∧ withinR (list.getD i.toNat []) n = true := by
    simp only [tabR, Bool.and_eq_true, decide_eq_true_eq, square_iff]
  refine cnd_of (fun hc => bad fun h => ?_) (fun hc => ?_)
  · rw [(hti.1 h).1] at hc; simp at hc
  have hc : (list.length : Int) = n := by simpa using hc
  refine loop_ix (n := list.length) (fun i => ∀ j : Int, 0 ≤ j → j < i → (list.getD j.toNat []).length = list.length ∧ withinR (list.getD j.toNat []) n = true) (by omega) (by intro y h0 h1; omega) ?_ ?_
  · intro i next h0 h1 hP hn hin
    try dsimp only
    refine cnd_d (fun _ => ⟨h0, h1, fun _ => hpre, cnd_of (fun hx => bad fun h => ?_) (fun hx => ⟨by rw [inK64]; (try dsimp only); omega, hn fun j j0 j1 => ?_⟩)⟩) (fun h => absurd h1 h)
    · have := (hti.1 h).2 i h0 h1
      rw [this.1, this.2, hc] at hx; simp at hx
    · by_cases e : j = i
      · subst e
        simp only [Bool.or_eq_false_iff, Bool.not_eq_false', bne_eq_false_iff_eq] at hx
        exact ⟨by omega, hx.2⟩
      · exact hP j j0 (by omega)
  · intro next hP hin
    refine cnd_d (fun h => absurd h (by dsimp only; omega)) (fun _ => ?_)
    simp only [c_impl_isTable]
    rw [hti.2 ⟨hc, hP⟩]
theorem ct_impl_isTable : CtOk Try.prog 145 c_impl_isTable :=
  ct_by (Φ := lkp [(158, c_impl_within)]) (good_cons ct_impl_within good_nil) tab_ok (by kernel_rfl) (fn := Try.f145) (c := bodyOf Try.f145) (by kernel_rfl) (by kernel_rfl) (by kernel_rfl) c_impl_isTable rfl (.s .n (.s .n (.s (.s .n (.l [(13, (.d (.int .i64)))] [] [1, 11, 12] .n)) .n))) (cutL []) (by kernel_rfl) (by kernel_rfl) k_impl_isTable (by decide) (fun x K => W_impl_isTable x.1 x.2.1 K) w_impl_isTable (fun x h1 h2 => m_impl_isTable x.1 x.2.1 h1 h2)
def endsR (m : MonoidalD) : Bool := allB m.1.2.1.length fun f => allB m.1.2.1.length fun g =>
  decide (m.1.2.1.getD (atR m.2.2.2 f g).toNat 0 = atR m.2.2.1 (m.1.2.1.getD f.toNat 0) (m.1.2.1.getD g.toNat 0)) && decide (m.1.2.2.1.getD (atR m.2.2.2 f g).toNat 0 = atR m.2.2.1 (m.1.2.2.1.getD f.toNat 0) (m.1.2.2.1.getD g.toNat 0))
theorem ends_iff {m : MonoidalD} : endsR m = true ↔ ∀ f : Int, 0 ≤ f → f < m.1.2.1.length → ∀ g : Int, 0 ≤ g → g < m.1.2.1.length →
    m.1.2.1.getD (atR m.2.2.2 f g).toNat 0 = atR m.2.2.1 (m.1.2.1.getD f.toNat 0) (m.1.2.1.getD g.toNat 0) ∧ m.1.2.2.1.getD (atR m.2.2.2 f g).toNat 0 = atR m.2.2.1 (m.1.2.2.1.getD f.toNat 0) (m.1.2.2.1.getD g.toNat 0) := by
  simp only [endsR, allB_iff, Bool.and_eq_true, decide_eq_true_eq]

def c_spec_l35Ends : Ct := ⟨[MonoidalT], [true], fun x => [ShapeP x.1.1, tabR x.1.2.2.1 x.1.1.1 = true, tabR x.1.2.2.2 x.1.1.2.1.length = true], [(false, (.fz .bool))], fun x => (endsR x.1, ()), false, none⟩
def W_spec_l35Ends (m : MonoidalD) (K : Bool × Unit → Prop) : Prop := (loopW (S := ((Unit × (Int × Unit)) × ((Int × ((List Int) × ((List Int) × ((List Int) × (List (List Int)))))) × Unit))) (fun s => (fun next => ((inK IntKind.i64 s.1.2.1) → ((inK IntKind.i64 s.2.1.1) → ((T.ok (T.sl (T.int IntKind.i64)) s.2.1.2.1) → ((T.ok (T.sl (T.int IntKind.i64)) s.2.1.2.2.1) → ((T.ok (T.sl (T.int IntKind.i64)) s.2.1.2.2.2.1) → ((T.ok (T.sl (T.sl (T.int IntKind.i64))) s.2.1.2.2.2.2) → (cnd (decide (s.1.2.1 < (((List.length s.2.1.2.1) : Nat) : Int))) (loopW (S := ((Unit × (Int × Unit)) × ((Int × ((List Int) × ((List Int) × ((List Int) × (List (List Int)))))) × Unit))) (fun s1 => (fun next1 => ((inK IntKind.i64 s1.1.2.1) → ((inK IntKind.i64 s1.2.1.1) → ((T.ok (T.sl (T.int IntKind.i64)) s1.2.1.2.1) → ((T.ok (T.sl (T.int IntKind.i64)) s1.2.1.2.2.1) → ((T.ok (T.sl (T.int IntKind.i64)) s1.2.1.2.2.2.1) → ((T.ok (T.sl (T.sl (T.int IntKind.i64))) s1.2.1.2.2.2.2) → (cnd (decide (s1.1.2.1 < (((List.length s1.2.1.2.1) : Nat) : Int))) (((0 : Int) ≤ s.1.2.1) ∧ ((s.1.2.1 < (((List.length m.2.2.2) : Nat) : Int)) ∧ (((0 : Int) ≤ s1.1.2.1) ∧ ((s1.1.2.1 < (((List.length (List.getD m.2.2.2 (Int.toNat s.1.2.1) ([] : List Int))) : Nat) : Int)) ∧ (((0 : Int) ≤ (List.getD (List.getD m.2.2.2 (Int.toNat s.1.2.1) ([] : List Int)) (Int.toNat s1.1.2.1) (0 : Int))) ∧ (((List.getD (List.getD m.2.2.2 (Int.toNat s.1.2.1) ([] : List Int)) (Int.toNat s1.1.2.1) (0 : Int)) < (((List.length s1.2.1.2.1) : Nat) : Int)) ∧ (((0 : Int) ≤ s.1.2.1) ∧ ((s.1.2.1 < (((List.length s1.2.1.2.1) : Nat) : Int)) ∧ (((0 : Int) ≤ (List.getD s1.2.1.2.1 (Int.toNat s.1.2.1) (0 : Int))) ∧ (((List.getD s1.2.1.2.1 (Int.toNat s.1.2.1) (0 : Int)) < (((List.length m.2.2.1) : Nat) : Int)) ∧ (((0 : Int) ≤ s1.1.2.1) ∧ ((s1.1.2.1 < (((List.length s1.2.1.2.1) : Nat) : Int)) ∧ (((0 : Int) ≤ (List.getD s1.2.1.2.1 (Int.toNat s1.1.2.1) (0 : Int))) ∧ (((List.getD s1.2.1.2.1 (Int.toNat s1.1.2.1) (0 : Int)) < (((List.length (List.getD m.2.2.1 (Int.toNat (List.getD s1.2.1.2.1 (Int.toNat s.1.2.1) (0 : Int))) ([] : List Int))) : Nat) : Int)) ∧ (((((List.getD s1.2.1.2.1 (Int.toNat (List.getD (List.getD m.2.2.2 (Int.toNat s.1.2.1) ([] : List Int)) (Int.toNat s1.1.2.1) (0 : Int))) (0 : Int)) != (List.getD (List.getD m.2.2.1 (Int.toNat (List.getD s1.2.1.2.1 (Int.toNat s.1.2.1) (0 : Int))) ([] : List Int)) (Int.toNat (List.getD s1.2.1.2.1 (Int.toNat s1.1.2.1) (0 : Int))) (0 : Int))) = Bool.false) → (((List.getD (List.getD m.2.2.2 (Int.toNat s.1.2.1) ([] : List Int)) (Int.toNat s1.1.2.1) (0 : Int)) < (((List.length s1.2.1.2.2.1) : Nat) : Int)) ∧ ((0 : Int) ≤ (List.getD (List.getD m.2.2.2 (Int.toNat s.1.2.1) ([] : List Int)) (Int.toNat s1.1.2.1) (0 : Int))))) ∧ (((((List.getD s1.2.1.2.1 (Int.toNat (List.getD (List.getD m.2.2.2 (Int.toNat s.1.2.1) ([] : List Int)) (Int.toNat s1.1.2.1) (0 : Int))) (0 : Int)) != (List.getD (List.getD m.2.2.1 (Int.toNat (List.getD s1.2.1.2.1 (Int.toNat s.1.2.1) (0 : Int))) ([] : List Int)) (Int.toNat (List.getD s1.2.1.2.1 (Int.toNat s1.1.2.1) (0 : Int))) (0 : Int))) = Bool.false) → ((s.1.2.1 < (((List.length s1.2.1.2.2.1) : Nat) : Int)) ∧ ((0 : Int) ≤ s.1.2.1))) ∧ (((((List.getD s1.2.1.2.1 (Int.toNat (List.getD (List.getD m.2.2.2 (Int.toNat s.1.2.1) ([] : List Int)) (Int.toNat s1.1.2.1) (0 : Int))) (0 : Int)) != (List.getD (List.getD m.2.2.1 (Int.toNat (List.getD s1.2.1.2.1 (Int.toNat s.1.2.1) (0 : Int))) ([] : List Int)) (Int.toNat (List.getD s1.2.1.2.1 (Int.toNat s1.1.2.1) (0 : Int))) (0 : Int))) = Bool.false) → (((List.getD s1.2.1.2.2.1 (Int.toNat s.1.2.1) (0 : Int)) < (((List.length m.2.2.1) : Nat) : Int)) ∧ ((0 : Int) ≤ (List.getD s1.2.1.2.2.1 (Int.toNat s.1.2.1) (0 : Int))))) ∧ (((((List.getD s1.2.1.2.1 (Int.toNat (List.getD (List.getD m.2.2.2 (Int.toNat s.1.2.1) ([] : List Int)) (Int.toNat s1.1.2.1) (0 : Int))) (0 : Int)) != (List.getD (List.getD m.2.2.1 (Int.toNat (List.getD s1.2.1.2.1 (Int.toNat s.1.2.1) (0 : Int))) ([] : List Int)) (Int.toNat (List.getD s1.2.1.2.1 (Int.toNat s1.1.2.1) (0 : Int))) (0 : Int))) = Bool.false) → ((s1.1.2.1 < (((List.length s1.2.1.2.2.1) : Nat) : Int)) ∧ ((0 : Int) ≤ s1.1.2.1))) ∧ (((((List.getD s1.2.1.2.1 (Int.toNat (List.getD (List.getD m.2.2.2 (Int.toNat s.1.2.1) ([] : List Int)) (Int.toNat s1.1.2.1) (0 : Int))) (0 : Int)) != (List.getD (List.getD m.2.2.1 (Int.toNat (List.getD s1.2.1.2.1 (Int.toNat s.1.2.1) (0 : Int))) ([] : List Int)) (Int.toNat (List.getD s1.2.1.2.1 (Int.toNat s1.1.2.1) (0 : Int))) (0 : Int))) = Bool.false) → (((List.getD s1.2.1.2.2.1 (Int.toNat s1.1.2.1) (0 : Int)) < (((List.length (List.getD m.2.2.1 (Int.toNat (List.getD s1.2.1.2.2.1 (Int.toNat s.1.2.1) (0 : Int))) ([] : List Int))) : Nat) : Int)) ∧ ((0 : Int) ≤ (List.getD s1.2.1.2.2.1 (Int.toNat s1.1.2.1) (0 : Int))))) ∧ (cnd (((List.getD s1.2.1.2.1 (Int.toNat (List.getD (List.getD m.2.2.2 (Int.toNat s.1.2.1) ([] : List Int)) (Int.toNat s1.1.2.1) (0 : Int))) (0 : Int)) != (List.getD (List.getD m.2.2.1 (Int.toNat (List.getD s1.2.1.2.1 (Int.toNat s.1.2.1) (0 : Int))) ([] : List Int)) (Int.toNat (List.getD s1.2.1.2.1 (Int.toNat s1.1.2.1) (0 : Int))) (0 : Int))) || ((List.getD s1.2.1.2.2.1 (Int.toNat (List.getD (List.getD m.2.2.2 (Int.toNat s.1.2.1) ([] : List Int)) (Int.toNat s1.1.2.1) (0 : Int))) (0 : Int)) != (List.getD (List.getD m.2.2.1 (Int.toNat (List.getD s1.2.1.2.2.1 (Int.toNat s.1.2.1) (0 : Int))) ([] : List Int)) (Int.toNat (List.getD s1.2.1.2.2.1 (Int.toNat s1.1.2.1) (0 : Int))) (0 : Int)))) (K (Bool.false, ())) ((inK IntKind.i64 (s1.1.2.1 + (1 : Int))) ∧ (next1 (((), ((s1.1.2.1 + (1 : Int)), ())), (s1.2.1, ())))))))))))))))))))))))) ((inK IntKind.i64 (s.1.2.1 + (1 : Int))) ∧ (next (((), ((s.1.2.1 + (1 : Int)), ())), (s1.2.1, ()))))))))))))) (((), ((0 : Int), ())), (s.2.1, ()))) (K (Bool.true, ()))))))))))) (((), ((0 : Int), ())), (m.1, ())))
theorem w_spec_l35Ends (x : denL c_spec_l35Ends.args) (K : Bool × Unit → Prop) : evF tab (lkp []) (cutL [(9, 46)]) Try.f140 (bodyOf Try.f140) (.s .n (.s .n (.s (.s .n (.l [(3, (.ad 3 [.de])), (4, (.d (.int .i64)))] [(3, (.pt (.fz (.p (.int .i64) (.p (.sl (.int .i64)) (.p (.sl (.int .i64)) (.p (.sl (.int .i64)) (.sl (.sl (.int .i64))))))))))] [1] (.s .n (.s (.s .n (.l [(3, (.ad 3 [.de])), (5, (.d (.int .i64)))] [(3, (.pt (.fz (.p (.int .i64) (.p (.sl (.int .i64)) (.p (.sl (.int .i64)) (.p (.sl (.int .i64)) (.sl (.sl (.int .i64))))))))))] [1, 4] .n)) .n)))) .n))) c_spec_l35Ends x K = W_spec_l35Ends x.1 K := by kernel_rfl
theorem k_spec_l35Ends : okC Try.f140.ntmps (cutL [(9, 46)]) (bodyOf Try.f140) = true := by kernel_rfl
theorem m_spec_l35Ends (m : MonoidalD) (hok : allP (okL c_spec_l35Ends.args (m, ()))) (hpre : allP (c_spec_l35Ends.pre (m, ()))) : W_spec_l35Ends m (fun r => r = c_spec_l35Ends.res (m, ())) := by
  simp only [c_spec_l35Ends, okL, T.oks, T.ok, ap, allP, true_and, and_true, implies_true] at hok hpre
  try dsimp only [T.den] at hok
  try dsimp only [T.den] at hpre
  unfold W_spec_l35Ends
  have S : ShapeP m.1 := hpre.1
  have O := tab_at hpre.2.1
  have A := tab_at hpre.2.2
  have hlt := S.lt
  have hmm := S.m
  have bad : ¬ (endsR m = true) → (false, ()) = c_spec_l35Ends.res (m, ()) := fun h => by
    simp only [c_spec_l35Ends]
    cases hs : endsR m with
    | false => rfl
    | true => exact absurd hs h
  have hat : ∀ i j : Int, (m.2.2.2.getD i.toNat []).getD j.toNat 0 = atR m.2.2.2 i j := fun _ _ => rfl
  have hat2 : ∀ i j : Int, (m.2.2.1.getD i.toNat []).getD j.toNat 0 = atR m.2.2.1 i j := fun _ _ => rfl
  refine loop_ix1 (n := m.1.2.1.length) (fun f => ∀ f' : Int, 0 ≤ f' → f' < f → ∀ g : Int, 0 ≤ g → g < m.1.2.1.length →
    m.1.2.1.getD (atR m.2.2.2 f' g).toNat 0 = atR m.2.2.1 (m.1.2.1.getD f'.toNat 0) (m.1.2.1.getD g.toNat 0) ∧ m.1.2.2.1.getD (atR m.2.2.2 f' g).toNat 0 = atR m.2.2.1 (m.1.2.2.1.getD f'.toNat 0) (m.1.2.2.1.getD g.toNat 0)) (by omega) (by intro y h0 h1; omega) ?_ ?_
  · intro f next h0 h1 hP hn _ _ _ _ _ _
    try dsimp only
    have sf := S.frm h0 h1
    have rf := A.2.1 f h0 h1
    refine cnd_d (fun _ => ?_) (fun h => absurd h1 h)
    refine loop_ix1 (n := m.1.2.1.length) (fun g => ∀ g' : Int, 0 ≤ g' → g' < g →
      m.1.2.1.getD (atR m.2.2.2 f g').toNat 0 = atR m.2.2.1 (m.1.2.1.getD f.toNat 0) (m.1.2.1.getD g'.toNat 0) ∧ m.1.2.2.1.getD (atR m.2.2.2 f g').toNat 0 = atR m.2.2.1 (m.1.2.2.1.getD f.toNat 0) (m.1.2.2.1.getD g'.toNat 0)) (by omega) (by intro y h0 h1; omega) ?_ ?_
    · intro g next2 g0 g1 hP2 hn2 _ _ _ _ _ _
      try dsimp only
      simp only [hat, hat2]
      have sg := S.frm g0 g1
      have afg := A.2.2 f g h0 h1 g0 g1
      have r1 := O.2.1 _ sf.1 sf.2.1
      have r2 := O.2.1 _ sf.2.2.1 sf.2.2.2
      refine cnd_d (fun _ => ⟨h0, by omega, g0, by omega, afg.1, by omega, h0, h1, sf.1, by omega, g0, g1, sg.1, by omega, fun _ => by omega, fun _ => by omega, fun _ => by omega, fun _ => by omega, fun _ => by omega, cnd_of (fun hx => bad fun h => ?_) (fun hx => ⟨by rw [inK64]; (try dsimp only); omega, hn2 fun g' a0 a1 => ?_⟩)⟩) (fun h => absurd g1 h)
      · have := ends_iff.1 h f h0 h1 g g0 g1
        rw [this.1, this.2] at hx; simp at hx
      · by_cases e : g' = g
        · rw [e]; simpa only [Bool.or_eq_false_iff, bne_eq_false_iff_eq] using hx
        · exact hP2 g' a0 (by omega)
    · intro next2 hP2 _ _ _ _ _ _
      refine cnd_d (fun h => absurd h (by dsimp only; omega)) (fun _ => ⟨by rw [inK64]; (try dsimp only); omega, hn fun f' a0 a1 => ?_⟩)
      by_cases e : f' = f
      · rw [e]; exact hP2
      · exact hP f' a0 (by omega)
  · intro next hP _ _ _ _ _ _
    refine cnd_d (fun h => absurd h (by dsimp only; omega)) (fun _ => ?_)
    simp only [c_spec_l35Ends]
    rw [ends_iff.2 hP]
theorem ct_spec_l35Ends : CtOk Try.prog 140 c_spec_l35Ends :=
  ct_by (Φ := lkp []) good_nil tab_ok (by kernel_rfl) (fn := Try.f140) (c := bodyOf Try.f140) (by kernel_rfl) (by kernel_rfl) (by kernel_rfl) c_spec_l35Ends rfl (.s .n (.s .n (.s (.s .n (.l [(3, (.ad 3 [.de])), (4, (.d (.int .i64)))] [(3, (.pt (.fz (.p (.int .i64) (.p (.sl (.int .i64)) (.p (.sl (.int .i64)) (.p (.sl (.int .i64)) (.sl (.sl (.int .i64))))))))))] [1] (.s .n (.s (.s .n (.l [(3, (.ad 3 [.de])), (5, (.d (.int .i64)))] [(3, (.pt (.fz (.p (.int .i64) (.p (.sl (.int .i64)) (.p (.sl (.int .i64)) (.p (.sl (.int .i64)) (.sl (.sl (.int .i64))))))))))] [1, 4] .n)) .n)))) .n))) (cutL [(9, 46)]) (by kernel_rfl) (by kernel_rfl) k_spec_l35Ends (by decide) (fun x K => W_spec_l35Ends x.1 K) w_spec_l35Ends (fun x h1 h2 => m_spec_l35Ends x.1 h1 h2)
def interR (m : MonoidalD) : Bool := allB m.1.2.1.length fun f => allB m.1.2.1.length fun h => decide (m.1.2.2.1.getD f.toNat 0 ≠ m.1.2.1.getD h.toNat 0) || allB m.1.2.1.length fun g => allB m.1.2.1.length fun k =>
  decide (m.1.2.2.1.getD g.toNat 0 ≠ m.1.2.1.getD k.toNat 0) || decide (atR m.2.2.2 (compR m.1 f h) (compR m.1 g k) = compR m.1 (atR m.2.2.2 f g) (atR m.2.2.2 h k))
theorem inter_iff {m : MonoidalD} : interR m = true ↔ ∀ f : Int, 0 ≤ f → f < m.1.2.1.length → ∀ h : Int, 0 ≤ h → h < m.1.2.1.length → m.1.2.2.1.getD f.toNat 0 = m.1.2.1.getD h.toNat 0 → ∀ g : Int, 0 ≤ g → g < m.1.2.1.length → ∀ k : Int, 0 ≤ k → k < m.1.2.1.length → m.1.2.2.1.getD g.toNat 0 = m.1.2.1.getD k.toNat 0 →
    atR m.2.2.2 (compR m.1 f h) (compR m.1 g k) = compR m.1 (atR m.2.2.2 f g) (atR m.2.2.2 h k) := by
  simp only [interR, allB_iff, Bool.or_eq_true, decide_eq_true_eq]
  constructor
  · intro q f f0 f1 h h0 h1 e g g0 g1 k k0 k1 e2
    rcases q f f0 f1 h h0 h1 with a | a
    · exact absurd e a
    rcases a g g0 g1 k k0 k1 with b | b
    · exact absurd e2 b
    · exact b
  · intro q f f0 f1 h h0 h1
    by_cases e : m.1.2.2.1.getD f.toNat 0 = m.1.2.1.getD h.toNat 0
    · refine .inr fun g g0 g1 k k0 k1 => ?_
      by_cases e2 : m.1.2.2.1.getD g.toNat 0 = m.1.2.1.getD k.toNat 0
      · exact .inr (q f f0 f1 h h0 h1 e g g0 g1 k k0 k1 e2)
      · exact .inl e2
    · exact .inl e
theorem out_at {c : CategoryD} {x i : Int} (h0 : 0 ≤ i) (h1 : i < (outR c x).length) : 0 ≤ (outR c x).getD i.toNat 0 ∧ (outR c x).getD i.toNat 0 < c.2.1.length ∧ c.2.1.getD ((outR c x).getD i.toNat 0).toNat 0 = x := by
  have := getD_mem (outR c x) 0 h0 h1
  generalize (outR c x).getD i.toNat 0 = y at *
  unfold outR at this
  rw [sel_mem, beq_iff_eq] at this
  exact this
theorem out_all {c : CategoryD} {x : Int} {p : Int → Prop} (h : ∀ i : Int, 0 ≤ i → i < (outR c x).length → p ((outR c x).getD i.toNat 0)) {y : Int} (y0 : 0 ≤ y) (y1 : y < c.2.1.length) (e : c.2.1.getD y.toNat 0 = x) : p y :=
  (all_ix (d := (0 : Int))).2 h y (by unfold outR; rw [sel_mem, beq_iff_eq]; exact ⟨y0, y1, e⟩)
theorem out_len {c : CategoryD} (S : ShapeP c) (x : Int) : (outR c x).length ≤ 40 := Nat.le_trans (sel_len _) S.m

def c_impl_Monoidal_interchanges : Ct := ⟨[(.pt MonoidalT)], [false], fun x => [ShapeP x.1.1, tabR x.1.2.2.1 x.1.1.1 = true, tabR x.1.2.2.2 x.1.1.2.1.length = true], [(false, (.fz .bool))], fun x => (interR x.1, ()), false, none⟩
def W_impl_Monoidal_interchanges (m : MonoidalD) (K : Bool × Unit → Prop) : Prop := (loopW (S := ((Int × Unit) × Unit)) (fun s => (fun next => ((inK IntKind.i64 s.1.1) → (cnd (decide (s.1.1 < (((List.length m.1.2.1) : Nat) : Int))) (((0 : Int) ≤ s.1.1) ∧ ((s.1.1 < (((List.length m.1.2.2.1) : Nat) : Int)) ∧ (((List.length m.1.2.1) ≤ 40) ∧ (loopW (S := ((Unit × (Int × Unit)) × ((List Int) × Unit))) (fun s1 => (fun next1 => ((inK IntKind.i64 s1.1.2.1) → ((T.ok (T.sl (T.int IntKind.i64)) s1.2.1) → (cnd (decide (s1.1.2.1 < (((List.length (outR m.1 (List.getD m.1.2.2.1 (Int.toNat s.1.1) (0 : Int)))) : Nat) : Int))) (((0 : Int) ≤ s1.1.2.1) ∧ ((s1.1.2.1 < (((List.length s1.2.1) : Nat) : Int)) ∧ (loopW (S := ((Unit × (Int × Unit)) × ((List Int) × Unit))) (fun s2 => (fun next2 => ((inK IntKind.i64 s2.1.2.1) → ((T.ok (T.sl (T.int IntKind.i64)) s2.2.1) → (cnd (decide (s2.1.2.1 < (((List.length m.1.2.1) : Nat) : Int))) (((0 : Int) ≤ s2.1.2.1) ∧ ((s2.1.2.1 < (((List.length m.1.2.2.1) : Nat) : Int)) ∧ (((List.length m.1.2.1) ≤ 40) ∧ (loopW (S := ((Unit × (Unit × (Int × Unit))) × ((List Int) × ((List Int) × Unit)))) (fun s3 => (fun next3 => ((inK IntKind.i64 s3.1.2.2.1) → ((T.ok (T.sl (T.int IntKind.i64)) s3.2.1) → ((T.ok (T.sl (T.int IntKind.i64)) s3.2.2.1) → (cnd (decide (s3.1.2.2.1 < (((List.length (outR m.1 (List.getD m.1.2.2.1 (Int.toNat s2.1.2.1) (0 : Int)))) : Nat) : Int))) (((0 : Int) ≤ s3.1.2.2.1) ∧ ((s3.1.2.2.1 < (((List.length s3.2.2.1) : Nat) : Int)) ∧ (((0 : Int) ≤ s.1.1) ∧ ((s.1.1 < (((List.length m.1.2.2.2.2) : Nat) : Int)) ∧ (((0 : Int) ≤ (List.getD s1.2.1 (Int.toNat s1.1.2.1) (0 : Int))) ∧ (((List.getD s1.2.1 (Int.toNat s1.1.2.1) (0 : Int)) < (((List.length (List.getD m.1.2.2.2.2 (Int.toNat s.1.1) ([] : List Int))) : Nat) : Int)) ∧ (((0 : Int) ≤ (compR m.1 s.1.1 (List.getD s1.2.1 (Int.toNat s1.1.2.1) (0 : Int)))) ∧ (((compR m.1 s.1.1 (List.getD s1.2.1 (Int.toNat s1.1.2.1) (0 : Int))) < (((List.length m.2.2.2) : Nat) : Int)) ∧ (((0 : Int) ≤ s2.1.2.1) ∧ ((s2.1.2.1 < (((List.length m.1.2.2.2.2) : Nat) : Int)) ∧ (((0 : Int) ≤ (List.getD s3.2.2.1 (Int.toNat s3.1.2.2.1) (0 : Int))) ∧ (((List.getD s3.2.2.1 (Int.toNat s3.1.2.2.1) (0 : Int)) < (((List.length (List.getD m.1.2.2.2.2 (Int.toNat s2.1.2.1) ([] : List Int))) : Nat) : Int)) ∧ (((0 : Int) ≤ (compR m.1 s2.1.2.1 (List.getD s3.2.2.1 (Int.toNat s3.1.2.2.1) (0 : Int)))) ∧ (((compR m.1 s2.1.2.1 (List.getD s3.2.2.1 (Int.toNat s3.1.2.2.1) (0 : Int))) < (((List.length (List.getD m.2.2.2 (Int.toNat (compR m.1 s.1.1 (List.getD s1.2.1 (Int.toNat s1.1.2.1) (0 : Int)))) ([] : List Int))) : Nat) : Int)) ∧ (((0 : Int) ≤ s.1.1) ∧ ((s.1.1 < (((List.length m.2.2.2) : Nat) : Int)) ∧ (((0 : Int) ≤ s2.1.2.1) ∧ ((s2.1.2.1 < (((List.length (List.getD m.2.2.2 (Int.toNat s.1.1) ([] : List Int))) : Nat) : Int)) ∧ (((0 : Int) ≤ (List.getD s1.2.1 (Int.toNat s1.1.2.1) (0 : Int))) ∧ (((List.getD s1.2.1 (Int.toNat s1.1.2.1) (0 : Int)) < (((List.length m.2.2.2) : Nat) : Int)) ∧ (((0 : Int) ≤ (List.getD s3.2.2.1 (Int.toNat s3.1.2.2.1) (0 : Int))) ∧ (((List.getD s3.2.2.1 (Int.toNat s3.1.2.2.1) (0 : Int)) < (((List.length (List.getD m.2.2.2 (Int.toNat (List.getD s1.2.1 (Int.toNat s1.1.2.1) (0 : Int))) ([] : List Int))) : Nat) : Int)) ∧ (((0 : Int) ≤ (List.getD (List.getD m.2.2.2 (Int.toNat s.1.1) ([] : List Int)) (Int.toNat s2.1.2.1) (0 : Int))) ∧ (((List.getD (List.getD m.2.2.2 (Int.toNat s.1.1) ([] : List Int)) (Int.toNat s2.1.2.1) (0 : Int)) < (((List.length m.1.2.2.2.2) : Nat) : Int)) ∧ (((0 : Int) ≤ (List.getD (List.getD m.2.2.2 (Int.toNat (List.getD s1.2.1 (Int.toNat s1.1.2.1) (0 : Int))) ([] : List Int)) (Int.toNat (List.getD s3.2.2.1 (Int.toNat s3.1.2.2.1) (0 : Int))) (0 : Int))) ∧ (((List.getD (List.getD m.2.2.2 (Int.toNat (List.getD s1.2.1 (Int.toNat s1.1.2.1) (0 : Int))) ([] : List Int)) (Int.toNat (List.getD s3.2.2.1 (Int.toNat s3.1.2.2.1) (0 : Int))) (0 : Int)) < (((List.length (List.getD m.1.2.2.2.2 (Int.toNat (List.getD (List.getD m.2.2.2 (Int.toNat s.1.1) ([] : List Int)) (Int.toNat s2.1.2.1) (0 : Int))) ([] : List Int))) : Nat) : Int)) ∧ (cnd ((List.getD (List.getD m.2.2.2 (Int.toNat (compR m.1 s.1.1 (List.getD s1.2.1 (Int.toNat s1.1.2.1) (0 : Int)))) ([] : List Int)) (Int.toNat (compR m.1 s2.1.2.1 (List.getD s3.2.2.1 (Int.toNat s3.1.2.2.1) (0 : Int)))) (0 : Int)) != (compR m.1 (List.getD (List.getD m.2.2.2 (Int.toNat s.1.1) ([] : List Int)) (Int.toNat s2.1.2.1) (0 : Int)) (List.getD (List.getD m.2.2.2 (Int.toNat (List.getD s1.2.1 (Int.toNat s1.1.2.1) (0 : Int))) ([] : List Int)) (Int.toNat (List.getD s3.2.2.1 (Int.toNat s3.1.2.2.1) (0 : Int))) (0 : Int)))) (K (Bool.false, ())) ((inK IntKind.i64 (s3.1.2.2.1 + (1 : Int))) ∧ (next3 (((), ((), ((s3.1.2.2.1 + (1 : Int)), ()))), (s3.2.1, (s3.2.2.1, ())))))))))))))))))))))))))))))))) ((inK IntKind.i64 (s2.1.2.1 + (1 : Int))) ∧ (next2 (((), ((s2.1.2.1 + (1 : Int)), ())), (s3.2.1, ())))))))))) (((), ((), ((0 : Int), ()))), (s2.2.1, ((outR m.1 (List.getD m.1.2.2.1 (Int.toNat s2.1.2.1) (0 : Int))), ()))))))) ((inK IntKind.i64 (s1.1.2.1 + (1 : Int))) ∧ (next1 (((), ((s1.1.2.1 + (1 : Int)), ())), (s2.2.1, ()))))))))) (((), ((0 : Int), ())), (s1.2.1, ()))))) ((inK IntKind.i64 (s.1.1 + (1 : Int))) ∧ (next (((s.1.1 + (1 : Int)), ()), ())))))))) (((), ((0 : Int), ())), ((outR m.1 (List.getD m.1.2.2.1 (Int.toNat s.1.1) (0 : Int))), ())))))) (K (Bool.true, ())))))) (((0 : Int), ()), ()))
theorem w_impl_Monoidal_interchanges (x : denL c_impl_Monoidal_interchanges.args) (K : Bool × Unit → Prop) : evF tab (lkp [(56, c_impl_Category_outOf), (132, c_impl_Category_then)]) (cutL [(14, 39)]) Try.f150 (bodyOf Try.f150) (.s .n (.s .n (.s (.s .n (.l [(18, (.d (.int .i64)))] [] [0, 3, 17] (.s .n (.s .n (.s (.s .n (.s .n (.l [(29, (.ref 102900 [])), (31, (.d (.int .i64)))] [(102900, (.sl (.fz (.int .i64))))] [0, 3, 4, 17, 18, 30] (.s .n (.s .n (.s (.s .n (.s .n (.l [(29, (.ref 102900 [])), (40, (.d (.int .i64)))] [(102900, (.sl (.fz (.int .i64))))] [0, 3, 4, 6, 17, 18, 30, 31, 39] (.s .n (.s .n (.s (.s .n (.s .n (.l [(29, (.ref 102900 [])), (51, (.ref 105100 [])), (53, (.d (.int .i64)))] [(102900, (.sl (.fz (.int .i64)))), (105100, (.sl (.fz (.int .i64))))] [0, 3, 4, 6, 7, 17, 18, 30, 31, 39, 40, 52] .n))) .n)))))) .n)))))) .n))))) .n))) c_impl_Monoidal_interchanges x K = W_impl_Monoidal_interchanges x.1 K := by kernel_rfl
theorem k_impl_Monoidal_interchanges : okC Try.f150.ntmps (cutL [(14, 39)]) (bodyOf Try.f150) = true := by kernel_rfl
theorem m_impl_Monoidal_interchanges (m : MonoidalD) (hok : allP (okL c_impl_Monoidal_interchanges.args (m, ()))) (hpre : allP (c_impl_Monoidal_interchanges.pre (m, ()))) : W_impl_Monoidal_interchanges m (fun r => r = c_impl_Monoidal_interchanges.res (m, ())) := by
  simp only [c_impl_Monoidal_interchanges, okL, T.oks, T.ok, ap, allP, true_and, and_true, implies_true] at hok hpre
  try dsimp only [T.den] at hok
  try dsimp only [T.den] at hpre
  unfold W_impl_Monoidal_interchanges
  have S : ShapeP m.1 := hpre.1
  have A := tab_at hpre.2.2
  have hlt := S.lt
  have hlc := S.lc
  have hmm := S.m
  have bad : ¬ (interR m = true) → (false, ()) = c_impl_Monoidal_interchanges.res (m, ()) := fun h => by
    simp only [c_impl_Monoidal_interchanges]
    cases hs : interR m with
    | false => rfl
    | true => exact absurd hs h
  have hat : ∀ i j : Int, (m.2.2.2.getD i.toNat []).getD j.toNat 0 = atR m.2.2.2 i j := fun _ _ => rfl
  simp only [hat]
  have key : ∀ f h g k : Int, Prop := fun f h g k => atR m.2.2.2 (compR m.1 f h) (compR m.1 g k) = compR m.1 (atR m.2.2.2 f g) (atR m.2.2.2 h k)
  refine loop_ix (n := m.1.2.1.length) (fun f => ∀ f' : Int, 0 ≤ f' → f' < f → ∀ h : Int, 0 ≤ h → h < m.1.2.1.length → m.1.2.2.1.getD f'.toNat 0 = m.1.2.1.getD h.toNat 0 → ∀ g : Int, 0 ≤ g → g < m.1.2.1.length → ∀ k : Int, 0 ≤ k → k < m.1.2.1.length → m.1.2.2.1.getD g.toNat 0 = m.1.2.1.getD k.toNat 0 →
    atR m.2.2.2 (compR m.1 f' h) (compR m.1 g k) = compR m.1 (atR m.2.2.2 f' g) (atR m.2.2.2 h k)) (by omega) (by intro y h0 h1; omega) ?_ ?_
  · intro f next f0 f1 hP hn hin
    try dsimp only
    have rf := S.row f f0 f1
    have raf := A.2.1 f f0 f1
    have lo := out_len S (m.1.2.2.1.getD f.toNat 0)
    refine cnd_d (fun _ => ⟨f0, by omega, hmm, ?_⟩) (fun h => absurd f1 h)
    refine loop_ix1 (n := (outR m.1 (m.1.2.2.1.getD f.toNat 0)).length) (fun i => ∀ i' : Int, 0 ≤ i' → i' < i → ∀ g : Int, 0 ≤ g → g < m.1.2.1.length → ∀ k : Int, 0 ≤ k → k < m.1.2.1.length → m.1.2.2.1.getD g.toNat 0 = m.1.2.1.getD k.toNat 0 →
      atR m.2.2.2 (compR m.1 f ((outR m.1 (m.1.2.2.1.getD f.toNat 0)).getD i'.toNat 0)) (compR m.1 g k) = compR m.1 (atR m.2.2.2 f g) (atR m.2.2.2 ((outR m.1 (m.1.2.2.1.getD f.toNat 0)).getD i'.toNat 0) k)) (by omega) (by intro y h0 h1; omega) ?_ ?_
    · intro i next2 i0 i1 hP2 hn2 _ _
      try dsimp only
      have oh := out_at i0 i1
      refine cnd_d (fun _ => ⟨i0, i1, ?_⟩) (fun h => absurd i1 h)
      generalize hh : (outR m.1 (m.1.2.2.1.getD f.toNat 0)).getD i.toNat 0 = h at oh ⊢
      have yfh := S.yes f0 f1 oh.1 oh.2.1 oh.2.2.symm
      have rah := A.2.1 h oh.1 oh.2.1
      have raz := A.2.1 _ yfh.1 yfh.2.1
      generalize (outR m.1 (m.1.2.2.1.getD f.toNat 0)) = out at *
      refine loop_ix1 (n := m.1.2.1.length) (fun g => ∀ g' : Int, 0 ≤ g' → g' < g → ∀ k : Int, 0 ≤ k → k < m.1.2.1.length → m.1.2.2.1.getD g'.toNat 0 = m.1.2.1.getD k.toNat 0 →
        atR m.2.2.2 (compR m.1 f h) (compR m.1 g' k) = compR m.1 (atR m.2.2.2 f g') (atR m.2.2.2 h k)) (by omega) (by intro y h0 h1; omega) ?_ ?_
      · intro g next3 g0 g1 hP3 hn3 _ _
        try dsimp only
        have rg := S.row g g0 g1
        have afg := A.2.2 f g f0 f1 g0 g1
        have rcf := S.row _ afg.1 afg.2
        have lo2 := out_len S (m.1.2.2.1.getD g.toNat 0)
        refine cnd_d (fun _ => ⟨g0, by omega, hmm, ?_⟩) (fun h => absurd g1 h)
        refine loop_of (fun (s3 : ((Unit × (Unit × (Int × Unit))) × ((List Int) × ((List Int) × Unit)))) => s3.2.1 = out ∧ s3.2.2.1 = outR m.1 (m.1.2.2.1.getD g.toNat 0) ∧ 0 ≤ s3.1.2.2.1 ∧ s3.1.2.2.1 ≤ (outR m.1 (m.1.2.2.1.getD g.toNat 0)).length ∧ ∀ j : Int, 0 ≤ j → j < s3.1.2.2.1 →
          atR m.2.2.2 (compR m.1 f h) (compR m.1 g ((outR m.1 (m.1.2.2.1.getD g.toNat 0)).getD j.toNat 0)) = compR m.1 (atR m.2.2.2 f g) (atR m.2.2.2 h ((outR m.1 (m.1.2.2.1.getD g.toNat 0)).getD j.toNat 0))) (fun (s3 : ((Unit × (Unit × (Int × Unit))) × ((List Int) × ((List Int) × Unit)))) => ((outR m.1 (m.1.2.2.1.getD g.toNat 0)).length - s3.1.2.2.1).toNat) ?_ ⟨rfl, rfl, by simp, by simp, fun j j0 j1 => by dsimp only at j1; omega⟩
        rintro ⟨⟨_, _, j, _⟩, l1, l2, _⟩ next4 ⟨rfl, rfl, j0, j1, hP4⟩ hn4 _ _ _
        try dsimp only at j0 j1 hP4 hn4 hh hn2 hP2 ⊢
        refine cnd_d (fun hj => ?_) (fun hj => ⟨by rw [inK64]; (try dsimp only); omega, hn3 fun g' a0 a1 => ?_⟩)
        · have ok := out_at j0 hj
          generalize hk : (outR m.1 (m.1.2.2.1.getD g.toNat 0)).getD j.toNat 0 = k at ok ⊢
          have ygk := S.yes g0 g1 ok.1 ok.2.1 ok.2.2.symm
          have ahk := A.2.2 h k oh.1 oh.2.1 ok.1 ok.2.1
          refine ⟨j0, hj, f0, by omega, oh.1, by omega, yfh.1, by omega, g0, by omega, ok.1, by omega, ygk.1, by omega, f0, by omega, g0, by omega, oh.1, by omega, ok.1, by omega, afg.1, by omega, ahk.1, by omega, cnd_of (fun hx => bad fun q => ?_) (fun hx => ⟨by rw [inK64]; (try dsimp only); omega, hn4 _ ⟨rfl, rfl, (by first | omega | (dsimp only; omega)), (by first | omega | (dsimp only; omega)), fun j' a0 a1 => ?_⟩ (by first | omega | (dsimp only; omega))⟩)⟩
          · rw [inter_iff.1 q f f0 f1 h oh.1 oh.2.1 oh.2.2.symm g g0 g1 k ok.1 ok.2.1 ok.2.2.symm] at hx; simp at hx
          · by_cases e : j' = j
            · rw [e, hk]; simpa using hx
            · exact hP4 j' a0 (by dsimp only at a1; omega)
        · by_cases e : g' = g
          · rw [e]
            intro k k0 k1 ek
            exact out_all (p := fun k => atR m.2.2.2 (compR m.1 f h) (compR m.1 g k) = compR m.1 (atR m.2.2.2 f g) (atR m.2.2.2 h k)) (fun j' a0 a1 => hP4 j' a0 (by omega)) k0 k1 ek.symm
          · exact hP3 g' a0 (by omega)
      · intro next3 hP3 _ _
        refine cnd_d (fun h => absurd h (by dsimp only; omega)) (fun _ => ⟨by rw [inK64]; (try dsimp only); omega, hn2 fun i' a0 a1 => ?_⟩)
        by_cases e : i' = i
        · rw [e, hh]; exact hP3
        · exact hP2 i' a0 (by omega)
    · intro next2 hP2 _ _
      refine cnd_d (fun h => absurd h (by dsimp only; omega)) (fun _ => ⟨by rw [inK64]; (try dsimp only); omega, hn fun f' a0 a1 => ?_⟩)
      by_cases e : f' = f
      · rw [e]
        intro h h0 h1 eh
        exact out_all (p := fun h => ∀ g : Int, 0 ≤ g → g < m.1.2.1.length → ∀ k : Int, 0 ≤ k → k < m.1.2.1.length → m.1.2.2.1.getD g.toNat 0 = m.1.2.1.getD k.toNat 0 → atR m.2.2.2 (compR m.1 f h) (compR m.1 g k) = compR m.1 (atR m.2.2.2 f g) (atR m.2.2.2 h k)) hP2 h0 h1 eh.symm
      · exact hP f' a0 (by omega)
  · intro next hP hin
    refine cnd_d (fun h => absurd h (by dsimp only; omega)) (fun _ => ?_)
    simp only [c_impl_Monoidal_interchanges]
    rw [inter_iff.2 hP]
theorem ct_impl_Monoidal_interchanges : CtOk Try.prog 150 c_impl_Monoidal_interchanges :=
  ct_by (Φ := lkp [(56, c_impl_Category_outOf), (132, c_impl_Category_then)]) (good_cons ct_impl_Category_outOf (good_cons ct_impl_Category_then good_nil)) tab_ok (by kernel_rfl) (fn := Try.f150) (c := bodyOf Try.f150) (by kernel_rfl) (by kernel_rfl) (by kernel_rfl) c_impl_Monoidal_interchanges rfl (.s .n (.s .n (.s (.s .n (.l [(18, (.d (.int .i64)))] [] [0, 3, 17] (.s .n (.s .n (.s (.s .n (.s .n (.l [(29, (.ref 102900 [])), (31, (.d (.int .i64)))] [(102900, (.sl (.fz (.int .i64))))] [0, 3, 4, 17, 18, 30] (.s .n (.s .n (.s (.s .n (.s .n (.l [(29, (.ref 102900 [])), (40, (.d (.int .i64)))] [(102900, (.sl (.fz (.int .i64))))] [0, 3, 4, 6, 17, 18, 30, 31, 39] (.s .n (.s .n (.s (.s .n (.s .n (.l [(29, (.ref 102900 [])), (51, (.ref 105100 [])), (53, (.d (.int .i64)))] [(102900, (.sl (.fz (.int .i64)))), (105100, (.sl (.fz (.int .i64))))] [0, 3, 4, 6, 7, 17, 18, 30, 31, 39, 40, 52] .n))) .n)))))) .n)))))) .n))))) .n))) (cutL [(14, 39)]) (by kernel_rfl) (by kernel_rfl) k_impl_Monoidal_interchanges (by decide) (fun x K => W_impl_Monoidal_interchanges x.1 K) w_impl_Monoidal_interchanges (fun x h1 h2 => m_impl_Monoidal_interchanges x.1 h1 h2)
def cntR (f : FunctorD) (u w a : Int) : Nat := ((extR f.1 w u).filter fun v => f.2.2.2.getD v.toNat 0 == a).length
def cocA (f : FunctorD) (u w a : Int) : Bool := decide (compR f.2.1 (f.2.2.2.getD u.toNat 0) a = f.2.2.2.getD w.toNat 0 → cntR f u w a = 1)
def cocR (f : FunctorD) (u : Int) : Bool := allB f.1.2.1.length fun w => decide (f.1.2.1.getD w.toNat 0 = f.1.2.1.getD u.toNat 0 → (homR f.2.1 (f.2.2.1.getD (f.1.2.2.1.getD u.toNat 0).toNat 0) (f.2.2.1.getD (f.1.2.2.1.getD w.toNat 0).toNat 0)).all (cocA f u w) = true)
theorem coc_iff {f : FunctorD} {u : Int} : cocR f u = true ↔ ∀ w : Int, 0 ≤ w → w < f.1.2.1.length → f.1.2.1.getD w.toNat 0 = f.1.2.1.getD u.toNat 0 → ∀ a ∈ homR f.2.1 (f.2.2.1.getD (f.1.2.2.1.getD u.toNat 0).toNat 0) (f.2.2.1.getD (f.1.2.2.1.getD w.toNat 0).toNat 0),
    compR f.2.1 (f.2.2.2.getD u.toNat 0) a = f.2.2.2.getD w.toNat 0 → cntR f u w a = 1 := by
  simp only [cocR, allB_iff, decide_eq_true_eq, List.all_eq_true, cocA]
theorem coc_no {f : FunctorD} {u w a : Int} (w0 : 0 ≤ w) (w1 : w < f.1.2.1.length) (e : f.1.2.1.getD w.toNat 0 = f.1.2.1.getD u.toNat 0) (ha : a ∈ homR f.2.1 (f.2.2.1.getD (f.1.2.2.1.getD u.toNat 0).toNat 0) (f.2.2.1.getD (f.1.2.2.1.getD w.toNat 0).toNat 0))
    (hc : compR f.2.1 (f.2.2.2.getD u.toNat 0) a = f.2.2.2.getD w.toNat 0) (hn : cntR f u w a ≠ 1) : cocR f u = false := by
  cases h : cocR f u with
  | false => rfl
  | true => exact absurd (coc_iff.1 h w w0 w1 e a ha hc) hn
theorem cntR_eq (f : FunctorD) (u w a : Int) : cntR f u w a = ((homR f.1 (f.1.2.2.1.getD u.toNat 0) (f.1.2.2.1.getD w.toNat 0)).filter fun v => f.2.2.2.getD v.toNat 0 == a && compR f.1 u v == w).length := by
  unfold cntR extR; rw [List.filter_filter]
theorem fun_to {f : FunctorD} (S : FunP f) {u : Int} (h0 : 0 ≤ u) (h1 : u < f.1.2.1.length) : 0 ≤ f.1.2.2.1.getD u.toNat 0 ∧ f.1.2.2.1.getD u.toNat 0 < f.1.1 := within_iff.1 S.src.to u h0 (by have := S.src.lt; omega)
theorem fun_ar {f : FunctorD} (S : FunP f) {u : Int} (h0 : 0 ≤ u) (h1 : u < f.1.2.1.length) : 0 ≤ f.2.2.2.getD u.toNat 0 ∧ f.2.2.2.getD u.toNat 0 < f.2.1.2.1.length := within_iff.1 S.fit.aw u h0 (by have := S.fit.la; omega)

def c_impl_Functor_isCocartesian : Ct := ⟨[(.pt FunctorT), (.int .i64)], [false, false], fun x => [FunP x.1, 0 ≤ x.2.1, x.2.1 < x.1.1.2.1.length], [(false, (.fz .bool))], fun x => (cocR x.1 x.2.1, ()), false, none⟩
def W_impl_Functor_isCocartesian (f : FunctorD) (u : Int) (K : Bool × Unit → Prop) : Prop := (((0 : Int) ≤ u) ∧ ((u < (((List.length f.2.2.2) : Nat) : Int)) ∧ (((0 : Int) ≤ u) ∧ ((u < (((List.length f.1.2.1) : Nat) : Int)) ∧ (((List.length f.1.2.1) ≤ 40) ∧ (loopW (S := ((Int × Unit) × Unit)) (fun s => (fun next => ((inK IntKind.i64 s.1.1) → (cnd (decide (s.1.1 < (((List.length (outR f.1 (List.getD f.1.2.1 (Int.toNat u) (0 : Int)))) : Nat) : Int))) (((0 : Int) ≤ s.1.1) ∧ ((s.1.1 < (((List.length (outR f.1 (List.getD f.1.2.1 (Int.toNat u) (0 : Int)))) : Nat) : Int)) ∧ (((0 : Int) ≤ (List.getD f.2.2.2 (Int.toNat u) (0 : Int))) ∧ (((List.getD f.2.2.2 (Int.toNat u) (0 : Int)) < (((List.length f.2.1.2.2.1) : Nat) : Int)) ∧ (((0 : Int) ≤ (List.getD (outR f.1 (List.getD f.1.2.1 (Int.toNat u) (0 : Int))) (Int.toNat s.1.1) (0 : Int))) ∧ (((List.getD (outR f.1 (List.getD f.1.2.1 (Int.toNat u) (0 : Int))) (Int.toNat s.1.1) (0 : Int)) < (((List.length f.1.2.2.1) : Nat) : Int)) ∧ (((0 : Int) ≤ (List.getD f.1.2.2.1 (Int.toNat (List.getD (outR f.1 (List.getD f.1.2.1 (Int.toNat u) (0 : Int))) (Int.toNat s.1.1) (0 : Int))) (0 : Int))) ∧ (((List.getD f.1.2.2.1 (Int.toNat (List.getD (outR f.1 (List.getD f.1.2.1 (Int.toNat u) (0 : Int))) (Int.toNat s.1.1) (0 : Int))) (0 : Int)) < (((List.length f.2.2.1) : Nat) : Int)) ∧ (((List.length f.2.1.2.1) ≤ 40) ∧ (((List.length f.2.1.2.2.1) = (List.length f.2.1.2.1)) ∧ (loopW (S := ((Int × Unit) × Unit)) (fun s1 => (fun next1 => ((inK IntKind.i64 s1.1.1) → (cnd (decide (s1.1.1 < (((List.length (homR f.2.1 (List.getD f.2.1.2.2.1 (Int.toNat (List.getD f.2.2.2 (Int.toNat u) (0 : Int))) (0 : Int)) (List.getD f.2.2.1 (Int.toNat (List.getD f.1.2.2.1 (Int.toNat (List.getD (outR f.1 (List.getD f.1.2.1 (Int.toNat u) (0 : Int))) (Int.toNat s.1.1) (0 : Int))) (0 : Int))) (0 : Int)))) : Nat) : Int))) (joinW (S := (Unit × Unit)) (fun s2 => ((inK IntKind.i64 (s1.1.1 + (1 : Int))) ∧ (next1 (((s1.1.1 + (1 : Int)), ()), ())))) (fun k => (((0 : Int) ≤ s1.1.1) ∧ ((s1.1.1 < (((List.length (homR f.2.1 (List.getD f.2.1.2.2.1 (Int.toNat (List.getD f.2.2.2 (Int.toNat u) (0 : Int))) (0 : Int)) (List.getD f.2.2.1 (Int.toNat (List.getD f.1.2.2.1 (Int.toNat (List.getD (outR f.1 (List.getD f.1.2.1 (Int.toNat u) (0 : Int))) (Int.toNat s.1.1) (0 : Int))) (0 : Int))) (0 : Int)))) : Nat) : Int)) ∧ (((0 : Int) ≤ (List.getD (outR f.1 (List.getD f.1.2.1 (Int.toNat u) (0 : Int))) (Int.toNat s.1.1) (0 : Int))) ∧ (((List.getD (outR f.1 (List.getD f.1.2.1 (Int.toNat u) (0 : Int))) (Int.toNat s.1.1) (0 : Int)) < (((List.length f.2.2.2) : Nat) : Int)) ∧ (((0 : Int) ≤ (List.getD f.2.2.2 (Int.toNat u) (0 : Int))) ∧ (((List.getD f.2.2.2 (Int.toNat u) (0 : Int)) < (((List.length f.2.1.2.2.2.2) : Nat) : Int)) ∧ (((0 : Int) ≤ (List.getD (homR f.2.1 (List.getD f.2.1.2.2.1 (Int.toNat (List.getD f.2.2.2 (Int.toNat u) (0 : Int))) (0 : Int)) (List.getD f.2.2.1 (Int.toNat (List.getD f.1.2.2.1 (Int.toNat (List.getD (outR f.1 (List.getD f.1.2.1 (Int.toNat u) (0 : Int))) (Int.toNat s.1.1) (0 : Int))) (0 : Int))) (0 : Int))) (Int.toNat s1.1.1) (0 : Int))) ∧ (((List.getD (homR f.2.1 (List.getD f.2.1.2.2.1 (Int.toNat (List.getD f.2.2.2 (Int.toNat u) (0 : Int))) (0 : Int)) (List.getD f.2.2.1 (Int.toNat (List.getD f.1.2.2.1 (Int.toNat (List.getD (outR f.1 (List.getD f.1.2.1 (Int.toNat u) (0 : Int))) (Int.toNat s.1.1) (0 : Int))) (0 : Int))) (0 : Int))) (Int.toNat s1.1.1) (0 : Int)) < (((List.length (List.getD f.2.1.2.2.2.2 (Int.toNat (List.getD f.2.2.2 (Int.toNat u) (0 : Int))) ([] : List Int))) : Nat) : Int)) ∧ (cnd ((List.getD f.2.2.2 (Int.toNat (List.getD (outR f.1 (List.getD f.1.2.1 (Int.toNat u) (0 : Int))) (Int.toNat s.1.1) (0 : Int))) (0 : Int)) != (compR f.2.1 (List.getD f.2.2.2 (Int.toNat u) (0 : Int)) (List.getD (homR f.2.1 (List.getD f.2.1.2.2.1 (Int.toNat (List.getD f.2.2.2 (Int.toNat u) (0 : Int))) (0 : Int)) (List.getD f.2.2.1 (Int.toNat (List.getD f.1.2.2.1 (Int.toNat (List.getD (outR f.1 (List.getD f.1.2.1 (Int.toNat u) (0 : Int))) (Int.toNat s.1.1) (0 : Int))) (0 : Int))) (0 : Int))) (Int.toNat s1.1.1) (0 : Int)))) (k ((), ())) ((ShapeP f.1) ∧ (((0 : Int) ≤ (List.getD (outR f.1 (List.getD f.1.2.1 (Int.toNat u) (0 : Int))) (Int.toNat s.1.1) (0 : Int))) ∧ (((List.getD (outR f.1 (List.getD f.1.2.1 (Int.toNat u) (0 : Int))) (Int.toNat s.1.1) (0 : Int)) < (((List.length f.1.2.1) : Nat) : Int)) ∧ (((0 : Int) ≤ u) ∧ ((u < (((List.length f.1.2.1) : Nat) : Int)) ∧ (loopW (S := ((Int × (Int × Unit)) × Unit)) (fun s2 => (fun next2 => ((inK IntKind.i64 s2.1.1) → ((inK IntKind.i64 s2.1.2.1) → (cnd (decide (s2.1.2.1 < (((List.length (extR f.1 (List.getD (outR f.1 (List.getD f.1.2.1 (Int.toNat u) (0 : Int))) (Int.toNat s.1.1) (0 : Int)) u)) : Nat) : Int))) (((0 : Int) ≤ s2.1.2.1) ∧ ((s2.1.2.1 < (((List.length (extR f.1 (List.getD (outR f.1 (List.getD f.1.2.1 (Int.toNat u) (0 : Int))) (Int.toNat s.1.1) (0 : Int)) u)) : Nat) : Int)) ∧ (((0 : Int) ≤ (List.getD (extR f.1 (List.getD (outR f.1 (List.getD f.1.2.1 (Int.toNat u) (0 : Int))) (Int.toNat s.1.1) (0 : Int)) u) (Int.toNat s2.1.2.1) (0 : Int))) ∧ (((List.getD (extR f.1 (List.getD (outR f.1 (List.getD f.1.2.1 (Int.toNat u) (0 : Int))) (Int.toNat s.1.1) (0 : Int)) u) (Int.toNat s2.1.2.1) (0 : Int)) < (((List.length f.2.2.2) : Nat) : Int)) ∧ (joinW (S := ((Int × Unit) × Unit)) (fun s3 => ((inK IntKind.i64 s3.1.1) → ((inK IntKind.i64 (s2.1.2.1 + (1 : Int))) ∧ (next2 ((s3.1.1, ((s2.1.2.1 + (1 : Int)), ())), ()))))) (fun k1 => (cnd ((List.getD f.2.2.2 (Int.toNat (List.getD (extR f.1 (List.getD (outR f.1 (List.getD f.1.2.1 (Int.toNat u) (0 : Int))) (Int.toNat s.1.1) (0 : Int)) u) (Int.toNat s2.1.2.1) (0 : Int))) (0 : Int)) == (List.getD (homR f.2.1 (List.getD f.2.1.2.2.1 (Int.toNat (List.getD f.2.2.2 (Int.toNat u) (0 : Int))) (0 : Int)) (List.getD f.2.2.1 (Int.toNat (List.getD f.1.2.2.1 (Int.toNat (List.getD (outR f.1 (List.getD f.1.2.1 (Int.toNat u) (0 : Int))) (Int.toNat s.1.1) (0 : Int))) (0 : Int))) (0 : Int))) (Int.toNat s1.1.1) (0 : Int))) ((inK IntKind.i64 (s2.1.1 + (1 : Int))) ∧ (k1 (((s2.1.1 + (1 : Int)), ()), ()))) (k1 ((s2.1.1, ()), ()))))))))) (cnd (s2.1.1 != (1 : Int)) (K (Bool.false, ())) (k ((), ())))))))) (((0 : Int), ((0 : Int), ())), ())))))))))))))))))) ((inK IntKind.i64 (s.1.1 + (1 : Int))) ∧ (next (((s.1.1 + (1 : Int)), ()), ()))))))) (((0 : Int), ()), ())))))))))))) (K (Bool.true, ())))))) (((0 : Int), ()), ())))))))
theorem w_impl_Functor_isCocartesian (x : denL c_impl_Functor_isCocartesian.args) (K : Bool × Unit → Prop) : evF tab (lkp [(133, c_impl_Category_extensions), (131, c_impl_Category_hom), (56, c_impl_Category_outOf), (132, c_impl_Category_then)]) (cutL [(1, 8), (6, 24), (9, 12)]) Try.f95 (bodyOf Try.f95) (.s .n (.s .n (.s .n (.s (.s .n (.l [(38, (.d (.int .i64)))] [] [0, 1, 5, 6, 7, 36, 37] (.s .n (.s .n (.s (.s .n (.s .n (.l [(65, (.d (.int .i64)))] [] [0, 1, 5, 6, 7, 9, 36, 37, 38, 63, 64] (.s .n (.s .n (.s (.j [] [] [0, 1, 5, 6, 7, 9, 36, 37, 38, 63, 64, 65] (.s .n (.s .n (.s .n (.s (.s .n (.l [(12, (.d (.int .i64))), (86, (.d (.int .i64)))] [] [0, 1, 5, 6, 7, 9, 11, 36, 37, 38, 63, 64, 65, 84, 85] (.s .n (.s .n (.s (.s .n (.s .n (.j [(12, (.d (.int .i64)))] [] [0, 1, 5, 6, 7, 9, 11, 36, 37, 38, 63, 64, 65, 84, 85, 86] .n))) .n))))) .n))))) .n)))))) .n))))) .n)))) c_impl_Functor_isCocartesian x K = W_impl_Functor_isCocartesian x.1 x.2.1 K := by kernel_rfl
theorem k_impl_Functor_isCocartesian : okC Try.f95.ntmps (cutL [(1, 8), (6, 24), (9, 12)]) (bodyOf Try.f95) = true := by kernel_rfl
theorem m_impl_Functor_isCocartesian (f : FunctorD) (u : Int) (hok : allP (okL c_impl_Functor_isCocartesian.args (f, u, ()))) (hpre : allP (c_impl_Functor_isCocartesian.pre (f, u, ()))) : W_impl_Functor_isCocartesian f u (fun r => r = c_impl_Functor_isCocartesian.res (f, u, ())) := by
  simp only [c_impl_Functor_isCocartesian, okL, T.oks, T.ok, ap, allP, true_and, and_true, implies_true] at hok hpre
  try dsimp only [T.den] at hok
  try dsimp only [T.den] at hpre
  unfold W_impl_Functor_isCocartesian
  obtain ⟨S, u0, u1⟩ := hpre
  have hla := S.fit.la
  have hlo := S.fit.lo
  have hlt := S.src.lt
  have hm := S.src.m
  have tm := S.tgt.m
  have tt := S.tgt.lt
  have tl := S.tgt.lc
  have hol := out_len S.src (f.1.2.1.getD u.toNat 0)
  have hb := fun_ar S u0 u1
  have eb := (S.fit.ends u u0 u1).2
  have hmem := fun i : Int => @out_at f.1 (f.1.2.1.getD u.toNat 0) i
  have hrow := S.tgt.row _ hb.1 hb.2
  have hno := fun w a => @coc_no f u w a
  have hyes : (∀ i : Int, 0 ≤ i → i < (outR f.1 (f.1.2.1.getD u.toNat 0)).length → ∀ a ∈ homR f.2.1 (f.2.2.1.getD (f.1.2.2.1.getD u.toNat 0).toNat 0) (f.2.2.1.getD (f.1.2.2.1.getD ((outR f.1 (f.1.2.1.getD u.toNat 0)).getD i.toNat 0).toNat 0).toNat 0), compR f.2.1 (f.2.2.2.getD u.toNat 0) a = f.2.2.2.getD ((outR f.1 (f.1.2.1.getD u.toNat 0)).getD i.toNat 0).toNat 0 → cntR f u ((outR f.1 (f.1.2.1.getD u.toNat 0)).getD i.toNat 0) a = 1) → cocR f u = true := fun h =>
    coc_iff.2 fun w w0 w1 e => out_all (p := fun w => ∀ a ∈ homR f.2.1 (f.2.2.1.getD (f.1.2.2.1.getD u.toNat 0).toNat 0) (f.2.2.1.getD (f.1.2.2.1.getD w.toNat 0).toNat 0), compR f.2.1 (f.2.2.2.getD u.toNat 0) a = f.2.2.2.getD w.toNat 0 → cntR f u w a = 1) h w0 w1 e
  refine ⟨u0, by omega, u0, by omega, by omega, ?_⟩
  generalize outR f.1 (f.1.2.1.getD u.toNat 0) = out at *
  rw [eb]
  refine loop_ix (n := out.length) (fun i => ∀ k : Int, 0 ≤ k → k < i → ∀ a ∈ homR f.2.1 (f.2.2.1.getD (f.1.2.2.1.getD u.toNat 0).toNat 0) (f.2.2.1.getD (f.1.2.2.1.getD (out.getD k.toNat 0).toNat 0).toNat 0), compR f.2.1 (f.2.2.2.getD u.toNat 0) a = f.2.2.2.getD (out.getD k.toNat 0).toNat 0 → cntR f u (out.getD k.toNat 0) a = 1) (by omega) (by intro k h0 h1; omega) ?_ ?_
  · intro i next h0 h1 hP hn hin
    refine cnd_d (fun _ => ?_) (fun h => absurd h1 h)
    try dsimp only at hin ⊢
    obtain ⟨w0, w1, we⟩ := hmem i h0 h1
    generalize hw : out.getD i.toNat 0 = w at *
    have ht := fun_to S w0 w1
    have hhom := hom_len S.tgt (f.2.2.1.getD (f.1.2.2.1.getD u.toNat 0).toNat 0) (f.2.2.1.getD (f.1.2.2.1.getD w.toNat 0).toNat 0)
    have hma := fun i : Int => @hom_at f.2.1 (f.2.2.1.getD (f.1.2.2.1.getD u.toNat 0).toNat 0) (f.2.2.1.getD (f.1.2.2.1.getD w.toNat 0).toNat 0) i
    have hno := fun a => hno w a w0 w1 we
    have hnext : (∀ a ∈ homR f.2.1 (f.2.2.1.getD (f.1.2.2.1.getD u.toNat 0).toNat 0) (f.2.2.1.getD (f.1.2.2.1.getD w.toNat 0).toNat 0), compR f.2.1 (f.2.2.2.getD u.toNat 0) a = f.2.2.2.getD w.toNat 0 → cntR f u w a = 1) → next ((i + 1, ()), ()) := by
      intro h
      refine hn fun k k0 k1 => ?_
      by_cases e : k = i
      · subst e; rw [hw]; exact h
      · exact hP k k0 (by omega)
    clear hyes hn hP hmem
    refine ⟨h0, h1, hb.1, by omega, w0, by omega, ht.1, by omega, by omega, by omega, ?_⟩
    generalize homR f.2.1 (f.2.2.1.getD (f.1.2.2.1.getD u.toNat 0).toNat 0) (f.2.2.1.getD (f.1.2.2.1.getD w.toNat 0).toNat 0) = hom at *
    refine loop_ix (n := hom.length) (fun j => ∀ k : Int, 0 ≤ k → k < j → compR f.2.1 (f.2.2.2.getD u.toNat 0) (hom.getD k.toNat 0) = f.2.2.2.getD w.toNat 0 → cntR f u w (hom.getD k.toNat 0) = 1) (by omega) (by intro k h0 h1; omega) ?_ ?_
    · intro j next1 j0 j1 hP1 hn1 hin1
      refine cnd_d (fun _ => ?_) (fun h => absurd j1 h)
      try dsimp only at hin1 ⊢
      have ha := getD_mem hom 0 j0 j1
      have hno := hno _ ha
      have hat := hma j j0 j1
      have hn2 : (compR f.2.1 (f.2.2.2.getD u.toNat 0) (hom.getD j.toNat 0) = f.2.2.2.getD w.toNat 0 → cntR f u w (hom.getD j.toNat 0) = 1) → next1 ((j + 1, ()), ()) := by
        intro h
        refine hn1 fun k k0 k1 => ?_
        by_cases e : k = j
        · subst e; exact h
        · exact hP1 k k0 (by omega)
      clear hn1 hP1
      generalize hom.getD j.toNat 0 = a at *
      refine join_of (fun _ => compR f.2.1 (f.2.2.2.getD u.toNat 0) a = f.2.2.2.getD w.toNat 0 → cntR f u w a = 1) (fun s hs => ⟨by rw [inK64]; (try dsimp only); omega, hn2 hs⟩) (fun k hk => ⟨j0, j1, w0, by omega, hb.1, by omega, hat.1, by omega, cnd_of (fun hc => hk _ ?_) (fun hc => ?_)⟩)
      · intro h; rw [h] at hc; simp at hc
      have hc : compR f.2.1 (f.2.2.2.getD u.toNat 0) a = f.2.2.2.getD w.toNat 0 := (bne_eq_false_iff_eq.1 hc).symm
      have hno := hno hc
      have hc0 : cntR f u w a = ((extR f.1 w u).filter fun v => f.2.2.2.getD v.toNat 0 == a).length := rfl
      have hel := ext_len S.src w u
      have hem : ∀ k : Int, 0 ≤ k → k < (extR f.1 w u).length → 0 ≤ (extR f.1 w u).getD k.toNat 0 ∧ (extR f.1 w u).getD k.toNat 0 < f.1.2.1.length := fun k k0 k1 => by
        have := ext_mem.1 (getD_mem (extR f.1 w u) 0 k0 k1)
        exact ⟨this.1.1, this.1.2.1⟩
      refine ⟨S.src, w0, w1, u0, u1, ?_⟩
      generalize extR f.1 w u = ext at *
      refine loop_ixc (fun k => ((filT (fun v => f.2.2.2.getD v.toNat 0 == a) ext k).length : Int)) (n := ext.length) (by omega) rfl ?_ ?_
      · intro k next2 k0 k1 hn3 hk1 hk2
        refine cnd_d (fun _ => ?_) (fun h => absurd k1 h)
        try dsimp only at hn3 hk1 hk2 ⊢
        have hv := hem k k0 k1
        have hfl := @fil_len (fun v => f.2.2.2.getD v.toNat 0 == a) ext k
        refine ⟨k0, k1, hv.1, by omega, join_of (fun s => s.1.1 = ((filT (fun v => f.2.2.2.getD v.toNat 0 == a) ext (k + 1)).length : Int)) (fun s hs _ => ⟨by rw [inK64]; (try dsimp only); omega, by rw [← hs] at hn3; exact hn3⟩) (fun k2 hk2 => cnd_of (fun hx => ⟨by rw [inK64]; (try dsimp only); omega, hk2 _ ?_⟩) (fun hx => hk2 _ ?_))⟩
        · rw [fil_t k0 k1 hx, List.length_append]; rfl
        · rw [fil_f k0 k1 hx]
      · intro next2 _ _
        refine cnd_d (fun h => absurd h (Int.lt_irrefl _)) (fun _ => ?_)
        try dsimp only
        rw [fil_n (by omega), ← hc0]
        refine cnd_of (fun hx => ?_) (fun hx => hk _ fun _ => ?_)
        · simp only [c_impl_Functor_isCocartesian]
          rw [hno (by intro e; rw [e] at hx; simp at hx)]
        · have := eq_of_beq (Bool.not_eq_false' .. ▸ hx : ((cntR f u w a : Int) == 1) = true); omega
    · intro next1 hP1 _
      refine cnd_d (fun h => absurd h (Int.lt_irrefl _)) (fun _ => ?_)
      exact ⟨by rw [inK64]; (try dsimp only); omega, hnext ((all_ix (d := (0 : Int))).2 hP1)⟩
  · intro next hP _
    refine cnd_d (fun h => absurd h (Int.lt_irrefl _)) (fun _ => ?_)
    simp only [c_impl_Functor_isCocartesian]
    rw [hyes hP]
theorem ct_impl_Functor_isCocartesian : CtOk Try.prog 95 c_impl_Functor_isCocartesian :=
  ct_by (Φ := lkp [(133, c_impl_Category_extensions), (131, c_impl_Category_hom), (56, c_impl_Category_outOf), (132, c_impl_Category_then)]) (good_cons ct_impl_Category_extensions (good_cons ct_impl_Category_hom (good_cons ct_impl_Category_outOf (good_cons ct_impl_Category_then good_nil)))) tab_ok (by kernel_rfl) (fn := Try.f95) (c := bodyOf Try.f95) (by kernel_rfl) (by kernel_rfl) (by kernel_rfl) c_impl_Functor_isCocartesian rfl (.s .n (.s .n (.s .n (.s (.s .n (.l [(38, (.d (.int .i64)))] [] [0, 1, 5, 6, 7, 36, 37] (.s .n (.s .n (.s (.s .n (.s .n (.l [(65, (.d (.int .i64)))] [] [0, 1, 5, 6, 7, 9, 36, 37, 38, 63, 64] (.s .n (.s .n (.s (.j [] [] [0, 1, 5, 6, 7, 9, 36, 37, 38, 63, 64, 65] (.s .n (.s .n (.s .n (.s (.s .n (.l [(12, (.d (.int .i64))), (86, (.d (.int .i64)))] [] [0, 1, 5, 6, 7, 9, 11, 36, 37, 38, 63, 64, 65, 84, 85] (.s .n (.s .n (.s (.s .n (.s .n (.j [(12, (.d (.int .i64)))] [] [0, 1, 5, 6, 7, 9, 11, 36, 37, 38, 63, 64, 65, 84, 85, 86] .n))) .n))))) .n))))) .n)))))) .n))))) .n)))) (cutL [(1, 8), (6, 24), (9, 12)]) (by kernel_rfl) (by kernel_rfl) k_impl_Functor_isCocartesian (by decide) (fun x K => W_impl_Functor_isCocartesian x.1 x.2.1 K) w_impl_Functor_isCocartesian (fun x h1 h2 => m_impl_Functor_isCocartesian x.1 x.2.1 h1 h2)
def liftsR (f : FunctorD) (e b : Int) : List Int := selR f.1.2.1.length fun u => f.1.2.1.getD u.toNat 0 == e && f.2.2.2.getD u.toNat 0 == b
theorem sel_filter {p q : Int → Bool} : ∀ {n : Nat}, (selR n p).filter q = selR n (fun x => p x && q x)
  | 0 => rfl
  | n + 1 => by
    unfold selR
    by_cases hp : p n = true
    · by_cases hq : q n = true
      · rw [if_pos hp, if_pos (by simp only [hp, hq]; rfl), List.filter_append, sel_filter]; simp [hq]
      · rw [if_pos hp, if_neg (by simp only [hp, Bool.true_and]; exact hq), List.filter_append, sel_filter]; simp [hq]
    · rw [if_neg hp, if_neg (by simp only [Bool.and_eq_true]; exact fun h => hp h.1), sel_filter]
theorem lifts_filter (f : FunctorD) (e b : Int) : (outR f.1 e).filter (fun u => f.2.2.2.getD u.toNat 0 == b) = liftsR f e b := by unfold outR liftsR; exact sel_filter

def c_impl_Functor_over : Ct := ⟨[(.pt FunctorT), (.int .i64), (.int .i64)], [false, false, false], fun x => [FunP x.1], [(false, (.sl (.fz (.int .i64))))], fun x => (liftsR x.1 x.2.1 x.2.2.1, ()), false, none⟩
def W_impl_Functor_over (f : FunctorD) (e : Int) (b : Int) (K : (List Int) × Unit → Prop) : Prop := (((List.length f.1.2.1) ≤ 40) ∧ (loopW (S := ((Unit × (Int × Unit)) × ((List Int) × Unit))) (fun s => (fun next => ((inK IntKind.i64 s.1.2.1) → ((T.ok (T.sl (T.int IntKind.i64)) s.2.1) → (cnd (decide (s.1.2.1 < (((List.length (outR f.1 e)) : Nat) : Int))) (((0 : Int) ≤ s.1.2.1) ∧ ((s.1.2.1 < (((List.length (outR f.1 e)) : Nat) : Int)) ∧ (((0 : Int) ≤ (List.getD (outR f.1 e) (Int.toNat s.1.2.1) (0 : Int))) ∧ (((List.getD (outR f.1 e) (Int.toNat s.1.2.1) (0 : Int)) < (((List.length f.2.2.2) : Nat) : Int)) ∧ (joinW (S := ((Unit × Unit) × ((List Int) × Unit))) (fun s1 => ((T.ok (T.sl (T.int IntKind.i64)) s1.2.1) → ((inK IntKind.i64 (s.1.2.1 + (1 : Int))) ∧ (next (((), ((s.1.2.1 + (1 : Int)), ())), (s1.2.1, ())))))) (fun k => (cnd ((List.getD f.2.2.2 (Int.toNat (List.getD (outR f.1 e) (Int.toNat s.1.2.1) (0 : Int))) (0 : Int)) == b) ((room (List.length s.2.1) (List.length ((List.getD (outR f.1 e) (Int.toNat s.1.2.1) (0 : Int)) :: ([] : List Int))) 8) ∧ (k (((), ()), ((s.2.1 ++ ((List.getD (outR f.1 e) (Int.toNat s.1.2.1) (0 : Int)) :: ([] : List Int))), ())))) (k (((), ()), (s.2.1, ())))))))))) (K (s.2.1, ()))))))) (((), ((0 : Int), ())), (([] : List Int), ()))))
theorem w_impl_Functor_over (x : denL c_impl_Functor_over.args) (K : (List Int) × Unit → Prop) : evF tab (lkp [(56, c_impl_Category_outOf)]) (cutL []) Try.f94 (bodyOf Try.f94) (.s .n (.s .n (.s (.s .n (.l [(7, (.ref 10 [])), (17, (.d (.int .i64)))] [(10, (.sl (.fz (.int .i64))))] [0, 2, 15, 16] (.s .n (.s .n (.s (.s .n (.s .n (.j [(7, (.ref 10 []))] [(10, (.sl (.fz (.int .i64))))] [0, 2, 15, 16, 17] .n))) .n))))) .n))) c_impl_Functor_over x K = W_impl_Functor_over x.1 x.2.1 x.2.2.1 K := by kernel_rfl
theorem k_impl_Functor_over : okC Try.f94.ntmps (cutL []) (bodyOf Try.f94) = true := by kernel_rfl
theorem m_impl_Functor_over (f : FunctorD) (e : Int) (b : Int) (hok : allP (okL c_impl_Functor_over.args (f, e, b, ()))) (hpre : allP (c_impl_Functor_over.pre (f, e, b, ()))) : W_impl_Functor_over f e b (fun r => r = c_impl_Functor_over.res (f, e, b, ())) := by
  simp only [c_impl_Functor_over, okL, T.oks, T.ok, ap, allP, true_and, and_true, implies_true] at hok hpre
  try dsimp only [T.den] at hok
  try dsimp only [T.den] at hpre
  unfold W_impl_Functor_over
  have S : FunP f := hpre
  have hla := S.fit.la
  have hmm := S.src.m
  have hol := out_len S.src e
  have hmem := fun i : Int => @out_at f.1 e i
  have hlf := lifts_filter f e b
  refine ⟨hmm, ?_⟩
  generalize outR f.1 e = out at *
  refine loop_of (fun (s : ((Unit × (Int × Unit)) × ((List Int) × Unit))) => 0 ≤ s.1.2.1 ∧ s.1.2.1 ≤ out.length ∧ s.2.1 = (out.take s.1.2.1.toNat).filter fun u => f.2.2.2.getD u.toNat 0 == b) (fun (s : ((Unit × (Int × Unit)) × ((List Int) × Unit))) => (out.length - s.1.2.1).toNat) ?_ ⟨by simp, by simp, by simp⟩
  rintro ⟨⟨_, i, _⟩, l, _⟩ next ⟨h0, h1, h2⟩ hn hin hl
  try dsimp only at h0 h1 h2 hn ⊢
  subst h2
  refine cnd_d (fun hc => ?_) (fun hc => ?_)
  · have hm := hmem i h0 hc
    have ht := take_c out 0 h0 hc
    refine ⟨h0, hc, hm.1, by omega, join_of (fun s1 => s1.2.1 = (out.take (i + 1).toNat).filter fun u => f.2.2.2.getD u.toNat 0 == b) (fun s1 hs _ => ⟨by rw [inK64]; (try dsimp only); omega, hn _ ⟨(by first | omega | (dsimp only; omega)), (by first | omega | (dsimp only; omega)), hs⟩ (by first | omega | (dsimp only; omega))⟩) (fun k hk => cnd_of (fun hx => ⟨?_, hk _ ?_⟩) (fun hx => hk _ ?_))⟩
    · have := List.length_filter_le (fun u => f.2.2.2.getD u.toNat 0 == b) (out.take i.toNat)
      have h4 : (out.take i.toNat).length ≤ out.length := by rw [List.length_take]; omega
      unfold room
      rw [nb_eq]
      have h3 : ((out.getD i.toNat 0) :: ([] : List Int)).length = 1 := rfl
      rw [h3]
      omega
    · rw [ht, List.filter_append]; simp only [List.filter_cons, hx, if_true, List.filter_nil]
    · rw [ht, List.filter_append]; simp only [List.filter_cons, hx, Bool.false_eq_true, if_false, List.filter_nil, List.append_nil]
  · simp only [c_impl_Functor_over]
    rw [take_n out (by omega), hlf]
theorem ct_impl_Functor_over : CtOk Try.prog 94 c_impl_Functor_over :=
  ct_by (Φ := lkp [(56, c_impl_Category_outOf)]) (good_cons ct_impl_Category_outOf good_nil) tab_ok (by kernel_rfl) (fn := Try.f94) (c := bodyOf Try.f94) (by kernel_rfl) (by kernel_rfl) (by kernel_rfl) c_impl_Functor_over rfl (.s .n (.s .n (.s (.s .n (.l [(7, (.ref 10 [])), (17, (.d (.int .i64)))] [(10, (.sl (.fz (.int .i64))))] [0, 2, 15, 16] (.s .n (.s .n (.s (.s .n (.s .n (.j [(7, (.ref 10 []))] [(10, (.sl (.fz (.int .i64))))] [0, 2, 15, 16, 17] .n))) .n))))) .n))) (cutL []) (by kernel_rfl) (by kernel_rfl) k_impl_Functor_over (by decide) (fun x K => W_impl_Functor_over x.1 x.2.1 x.2.2.1 K) w_impl_Functor_over (fun x h1 h2 => m_impl_Functor_over x.1 x.2.1 x.2.2.1 h1 h2)
def cliftR (f : FunctorD) (e b : Int) : Int := ((liftsR f e b).find? (cocR f)).getD (-1)
theorem lifts_at {f : FunctorD} {e b i : Int} (h0 : 0 ≤ i) (h1 : i < (liftsR f e b).length) : 0 ≤ (liftsR f e b).getD i.toNat 0 ∧ (liftsR f e b).getD i.toNat 0 < f.1.2.1.length := by
  have := getD_mem (liftsR f e b) 0 h0 h1
  unfold liftsR at this ⊢
  rw [sel_mem] at this
  exact ⟨this.1, this.2.1⟩
theorem lifts_len {f : FunctorD} (S : FunP f) (e b : Int) : (liftsR f e b).length ≤ 40 := Nat.le_trans (sel_len _) S.src.m

def c_impl_Functor_cocartesianLift : Ct := ⟨[(.pt FunctorT), (.int .i64), (.int .i64)], [false, false, false], fun x => [FunP x.1], [(false, (.fz (.int .i64)))], fun x => (cliftR x.1 x.2.1 x.2.2.1, ()), false, none⟩
def W_impl_Functor_cocartesianLift (f : FunctorD) (e : Int) (b : Int) (K : Int × Unit → Prop) : Prop := ((FunP f) ∧ (loopW (S := ((Int × Unit) × Unit)) (fun s => (fun next => ((inK IntKind.i64 s.1.1) → (cnd (decide (s.1.1 < (((List.length (liftsR f e b)) : Nat) : Int))) (((0 : Int) ≤ s.1.1) ∧ ((s.1.1 < (((List.length (liftsR f e b)) : Nat) : Int)) ∧ ((FunP f) ∧ (((0 : Int) ≤ (List.getD (liftsR f e b) (Int.toNat s.1.1) (0 : Int))) ∧ (((List.getD (liftsR f e b) (Int.toNat s.1.1) (0 : Int)) < (((List.length f.1.2.1) : Nat) : Int)) ∧ (cnd (cocR f (List.getD (liftsR f e b) (Int.toNat s.1.1) (0 : Int))) (K ((List.getD (liftsR f e b) (Int.toNat s.1.1) (0 : Int)), ())) ((inK IntKind.i64 (s.1.1 + (1 : Int))) ∧ (next (((s.1.1 + (1 : Int)), ()), ()))))))))) (K ((-(1 : Int)), ())))))) (((0 : Int), ()), ())))
theorem w_impl_Functor_cocartesianLift (x : denL c_impl_Functor_cocartesianLift.args) (K : Int × Unit → Prop) : evF tab (lkp [(95, c_impl_Functor_isCocartesian), (94, c_impl_Functor_over)]) (cutL []) Try.f57 (bodyOf Try.f57) (.s .n (.s (.s .n (.l [(14, (.d (.int .i64)))] [] [0, 12, 13] .n)) .n)) c_impl_Functor_cocartesianLift x K = W_impl_Functor_cocartesianLift x.1 x.2.1 x.2.2.1 K := by kernel_rfl
theorem k_impl_Functor_cocartesianLift : okC Try.f57.ntmps (cutL []) (bodyOf Try.f57) = true := by kernel_rfl
theorem m_impl_Functor_cocartesianLift (f : FunctorD) (e : Int) (b : Int) (hok : allP (okL c_impl_Functor_cocartesianLift.args (f, e, b, ()))) (hpre : allP (c_impl_Functor_cocartesianLift.pre (f, e, b, ()))) : W_impl_Functor_cocartesianLift f e b (fun r => r = c_impl_Functor_cocartesianLift.res (f, e, b, ())) := by
  simp only [c_impl_Functor_cocartesianLift, okL, T.oks, T.ok, ap, allP, true_and, and_true, implies_true] at hok hpre
  try dsimp only [T.den] at hok
  try dsimp only [T.den] at hpre
  unfold W_impl_Functor_cocartesianLift
  have S : FunP f := hpre
  have hl := lifts_len S e b
  have hat := fun i : Int => @lifts_at f e b i
  have hv : cliftR f e b = ((liftsR f e b).find? (cocR f)).getD (-1) := rfl
  refine ⟨S, ?_⟩
  generalize liftsR f e b = l at *
  refine loop_ix (n := l.length) (fun i => fstT (cocR f) l i = none) (by omega) fst_0 ?_ ?_
  · intro i next h0 h1 hP hn hin
    refine cnd_d (fun _ => ?_) (fun h => absurd h1 h)
    try dsimp only
    have ha := hat i h0 h1
    refine ⟨h0, h1, S, ha.1, ha.2, cnd_of (fun hx => ?_) (fun hx => ⟨by rw [inK64]; (try dsimp only); omega, hn (fst_f h0 h1 hP hx)⟩)⟩
    simp only [c_impl_Functor_cocartesianLift]
    rw [hv, fst_t h0 h1 hP hx]
    rfl
  · intro next hP _
    refine cnd_d (fun h => absurd h (Int.lt_irrefl _)) (fun _ => ?_)
    simp only [c_impl_Functor_cocartesianLift]
    rw [hv, fst_n hP]
    rfl
theorem ct_impl_Functor_cocartesianLift : CtOk Try.prog 57 c_impl_Functor_cocartesianLift :=
  ct_by (Φ := lkp [(95, c_impl_Functor_isCocartesian), (94, c_impl_Functor_over)]) (good_cons ct_impl_Functor_isCocartesian (good_cons ct_impl_Functor_over good_nil)) tab_ok (by kernel_rfl) (fn := Try.f57) (c := bodyOf Try.f57) (by kernel_rfl) (by kernel_rfl) (by kernel_rfl) c_impl_Functor_cocartesianLift rfl (.s .n (.s (.s .n (.l [(14, (.d (.int .i64)))] [] [0, 12, 13] .n)) .n)) (cutL []) (by kernel_rfl) (by kernel_rfl) k_impl_Functor_cocartesianLift (by decide) (fun x K => W_impl_Functor_cocartesianLift x.1 x.2.1 x.2.2.1 K) w_impl_Functor_cocartesianLift (fun x h1 h2 => m_impl_Functor_cocartesianLift x.1 x.2.1 x.2.2.1 h1 h2)
def opfR (f : FunctorD) : Bool := allB f.1.1.toNat fun e => allB f.2.1.2.1.length fun b => decide (f.2.1.2.1.getD b.toNat 0 = f.2.2.1.getD e.toNat 0 → 0 ≤ cliftR f e b)
theorem opf_iff {f : FunctorD} (S : ShapeP f.1) : opfR f = true ↔ ∀ e : Int, 0 ≤ e → e < f.1.1 → ∀ b : Int, 0 ≤ b → b < f.2.1.2.1.length → f.2.1.2.1.getD b.toNat 0 = f.2.2.1.getD e.toNat 0 → 0 ≤ cliftR f e b := by
  have e : ((f.1.1.toNat : Nat) : Int) = f.1.1 := by have := S.ob; omega
  simp only [opfR, allB_iff, decide_eq_true_eq, e]

def c_impl_IsOpfibration_1 : Ct := ⟨[(.pt FunctorT)], [false], fun x => [FunP x.1], [(false, (.fz .bool))], fun x => (opfR x.1, ()), false, none⟩
def W_impl_IsOpfibration_1 (f : FunctorD) (K : Bool × Unit → Prop) : Prop := (loopW (S := ((Int × Unit) × Unit)) (fun s => (fun next => ((inK IntKind.i64 s.1.1) → (cnd (decide (s.1.1 < (((List.length f.2.2.1) : Nat) : Int))) (((0 : Int) ≤ s.1.1) ∧ ((s.1.1 < (((List.length f.2.2.1) : Nat) : Int)) ∧ (((List.length f.2.1.2.1) ≤ 40) ∧ (loopW (S := ((Int × Unit) × Unit)) (fun s1 => (fun next1 => ((inK IntKind.i64 s1.1.1) → (cnd (decide (s1.1.1 < (((List.length (outR f.2.1 (List.getD f.2.2.1 (Int.toNat s.1.1) (0 : Int)))) : Nat) : Int))) (((0 : Int) ≤ s1.1.1) ∧ ((s1.1.1 < (((List.length (outR f.2.1 (List.getD f.2.2.1 (Int.toNat s.1.1) (0 : Int)))) : Nat) : Int)) ∧ ((FunP f) ∧ (cnd (decide ((cliftR f s.1.1 (List.getD (outR f.2.1 (List.getD f.2.2.1 (Int.toNat s.1.1) (0 : Int))) (Int.toNat s1.1.1) (0 : Int))) < (0 : Int))) (K (Bool.false, ())) ((inK IntKind.i64 (s1.1.1 + (1 : Int))) ∧ (next1 (((s1.1.1 + (1 : Int)), ()), ()))))))) ((inK IntKind.i64 (s.1.1 + (1 : Int))) ∧ (next (((s.1.1 + (1 : Int)), ()), ()))))))) (((0 : Int), ()), ()))))) (K (Bool.true, ())))))) (((0 : Int), ()), ()))
theorem w_impl_IsOpfibration_1 (x : denL c_impl_IsOpfibration_1.args) (K : Bool × Unit → Prop) : evF tab (lkp [(56, c_impl_Category_outOf), (57, c_impl_Functor_cocartesianLift)]) (cutL []) Try.f55 (bodyOf Try.f55) (.s .n (.s (.s .n (.l [(12, (.d (.int .i64)))] [] [0, 10, 11] (.s .n (.s .n (.s (.s .n (.s .n (.l [(23, (.d (.int .i64)))] [] [0, 3, 10, 11, 12, 21, 22] .n))) .n))))) .n)) c_impl_IsOpfibration_1 x K = W_impl_IsOpfibration_1 x.1 K := by kernel_rfl
theorem k_impl_IsOpfibration_1 : okC Try.f55.ntmps (cutL []) (bodyOf Try.f55) = true := by kernel_rfl
theorem m_impl_IsOpfibration_1 (f : FunctorD) (hok : allP (okL c_impl_IsOpfibration_1.args (f, ()))) (hpre : allP (c_impl_IsOpfibration_1.pre (f, ()))) : W_impl_IsOpfibration_1 f (fun r => r = c_impl_IsOpfibration_1.res (f, ())) := by
  simp only [c_impl_IsOpfibration_1, okL, T.oks, T.ok, ap, allP, true_and, and_true, implies_true] at hok hpre
  try dsimp only [T.den] at hok
  try dsimp only [T.den] at hpre
  unfold W_impl_IsOpfibration_1
  have S : FunP f := hpre
  have hlo := S.fit.lo
  have hob := S.src.ob
  have hmm := S.tgt.m
  have bad : ¬ (opfR f = true) → (false, ()) = c_impl_IsOpfibration_1.res (f, ()) := fun h => by
    simp only [c_impl_IsOpfibration_1]
    cases hs : opfR f with
    | false => rfl
    | true => exact absurd hs h
  refine loop_ix (n := f.2.2.1.length) (fun e => ∀ e' : Int, 0 ≤ e' → e' < e → ∀ b : Int, 0 ≤ b → b < f.2.1.2.1.length → f.2.1.2.1.getD b.toNat 0 = f.2.2.1.getD e'.toNat 0 → 0 ≤ cliftR f e' b) (by omega) (by intro y h0 h1; omega) ?_ ?_
  · intro e next e0 e1 hP hn hin
    try dsimp only
    have hol := out_len S.tgt (f.2.2.1.getD e.toNat 0)
    refine cnd_d (fun _ => ⟨e0, e1, hmm, ?_⟩) (fun h => absurd e1 h)
    refine loop_ix (n := (outR f.2.1 (f.2.2.1.getD e.toNat 0)).length) (fun i => ∀ i' : Int, 0 ≤ i' → i' < i → 0 ≤ cliftR f e ((outR f.2.1 (f.2.2.1.getD e.toNat 0)).getD i'.toNat 0)) (by omega) (by intro y h0 h1; omega) ?_ ?_
    · intro i next2 i0 i1 hP2 hn2 hin2
      try dsimp only
      have ob := out_at i0 i1
      refine cnd_d (fun _ => ⟨i0, i1, S, cnd_d (fun hx => bad fun h => ?_) (fun hx => ⟨by rw [inK64]; (try dsimp only); omega, hn2 fun i' a0 a1 => ?_⟩)⟩) (fun h => absurd i1 h)
      · have := (opf_iff S.src).1 h e e0 (by omega) _ ob.1 ob.2.1 ob.2.2; omega
      · by_cases q : i' = i
        · rw [q]; omega
        · exact hP2 i' a0 (by omega)
    · intro next2 hP2 hin2
      refine cnd_d (fun h => absurd h (by dsimp only; omega)) (fun _ => ⟨by rw [inK64]; (try dsimp only); omega, hn fun e' a0 a1 => ?_⟩)
      by_cases q : e' = e
      · rw [q]
        intro b b0 b1 hb
        exact out_all (p := fun b => 0 ≤ cliftR f e b) hP2 b0 b1 hb
      · exact hP e' a0 (by omega)
  · intro next hP hin
    refine cnd_d (fun h => absurd h (by dsimp only; omega)) (fun _ => ?_)
    simp only [c_impl_IsOpfibration_1]
    rw [(opf_iff S.src).2 fun e e0 e1 => hP e e0 (by omega)]
theorem ct_impl_IsOpfibration_1 : CtOk Try.prog 55 c_impl_IsOpfibration_1 :=
  ct_by (Φ := lkp [(56, c_impl_Category_outOf), (57, c_impl_Functor_cocartesianLift)]) (good_cons ct_impl_Category_outOf (good_cons ct_impl_Functor_cocartesianLift good_nil)) tab_ok (by kernel_rfl) (fn := Try.f55) (c := bodyOf Try.f55) (by kernel_rfl) (by kernel_rfl) (by kernel_rfl) c_impl_IsOpfibration_1 rfl (.s .n (.s (.s .n (.l [(12, (.d (.int .i64)))] [] [0, 10, 11] (.s .n (.s .n (.s (.s .n (.s .n (.l [(23, (.d (.int .i64)))] [] [0, 3, 10, 11, 12, 21, 22] .n))) .n))))) .n)) (cutL []) (by kernel_rfl) (by kernel_rfl) k_impl_IsOpfibration_1 (by decide) (fun x K => W_impl_IsOpfibration_1 x.1 K) w_impl_IsOpfibration_1 (fun x h1 h2 => m_impl_IsOpfibration_1 x.1 h1 h2)
def c_spec_l01Map : Ct := ⟨[(.int .i64), (.sl (.int .i64))], [false, false], fun x => [], [(false, (.fz .bool))], fun x => (withinR x.2.1 x.1, ()), false, none⟩
def W_spec_l01Map (n : Int) (f : List Int) (K : Bool × Unit → Prop) : Prop := (loopW (S := ((Int × Unit) × Unit)) (fun s => (fun next => ((inK IntKind.i64 s.1.1) → (cnd (decide (s.1.1 < (((List.length f) : Nat) : Int))) (((0 : Int) ≤ s.1.1) ∧ ((s.1.1 < (((List.length f) : Nat) : Int)) ∧ ((((decide ((List.getD f (Int.toNat s.1.1) (0 : Int)) < (0 : Int))) = Bool.false) → ((s.1.1 < (((List.length f) : Nat) : Int)) ∧ ((0 : Int) ≤ s.1.1))) ∧ (cnd ((decide ((List.getD f (Int.toNat s.1.1) (0 : Int)) < (0 : Int))) || (decide (n ≤ (List.getD f (Int.toNat s.1.1) (0 : Int))))) (K (Bool.false, ())) ((inK IntKind.i64 (s.1.1 + (1 : Int))) ∧ (next (((s.1.1 + (1 : Int)), ()), ()))))))) (K (Bool.true, ())))))) (((0 : Int), ()), ()))
theorem w_spec_l01Map (x : denL c_spec_l01Map.args) (K : Bool × Unit → Prop) : evF tab (lkp []) (cutL []) Try.f90 (bodyOf Try.f90) (.s .n (.s (.s .n (.l [(5, (.d (.int .i64)))] [] [0, 1] .n)) .n)) c_spec_l01Map x K = W_spec_l01Map x.1 x.2.1 K := by kernel_rfl
theorem k_spec_l01Map : okC Try.f90.ntmps (cutL []) (bodyOf Try.f90) = true := by kernel_rfl
theorem m_spec_l01Map (n : Int) (f : List Int) (hok : allP (okL c_spec_l01Map.args (n, f, ()))) (hpre : allP (c_spec_l01Map.pre (n, f, ()))) : W_spec_l01Map n f (fun r => r = c_spec_l01Map.res (n, f, ())) := by
  simp only [c_spec_l01Map, okL, T.oks, T.ok, ap, allP, true_and, and_true, implies_true] at hok hpre
  try dsimp only [T.den] at hok
  try dsimp only [T.den] at hpre
  unfold W_spec_l01Map
  refine loop_of (fun (s : ((Int × Unit) × Unit)) => 0 ≤ s.1.1 ∧ s.1.1 ≤ f.length ∧ withinR f n = withinR (f.drop s.1.1.toNat) n) (fun (s : ((Int × Unit) × Unit)) => (f.length - s.1.1).toNat) ?_ (by simp)
  rintro ⟨⟨i, _⟩, _⟩ next ⟨h0, h1, h2⟩ hn hin
  simp only at h0 h1 h2 hn ⊢
  refine cnd_d (fun hc => ?_) (fun hc => ?_)
  · rw [drop_c f 0 h0 hc] at h2
    simp only [withinR, List.all_cons] at h2
    grind [cnd, nb_eq, inK64, c_spec_l01Map, withinR, inR]
  · rw [drop_n f (by omega)] at h2
    grind [cnd, nb_eq, inK64, c_spec_l01Map, withinR]
theorem ct_spec_l01Map : CtOk Try.prog 90 c_spec_l01Map :=
  ct_by (Φ := lkp []) good_nil tab_ok (by kernel_rfl) (fn := Try.f90) (c := bodyOf Try.f90) (by kernel_rfl) (by kernel_rfl) (by kernel_rfl) c_spec_l01Map rfl (.s .n (.s (.s .n (.l [(5, (.d (.int .i64)))] [] [0, 1] .n)) .n)) (cutL []) (by kernel_rfl) (by kernel_rfl) k_spec_l01Map (by decide) (fun x K => W_spec_l01Map x.1 x.2.1 K) w_spec_l01Map (fun x h1 h2 => m_spec_l01Map x.1 x.2.1 h1 h2)
def c_spec_l01In : Ct := ⟨[(.int .i64), (.int .i64), (.int .i64)], [false, false, false], fun x => [], [(false, (.fz .bool))], fun x => (inR x.1 x.2.1 x.2.2.1, ()), false, none⟩
def W_spec_l01In (n : Int) (low : Int) (high : Int) (K : Bool × Unit → Prop) : Prop := (K (((decide (low ≤ n)) && (decide (n ≤ high))), ()))
theorem w_spec_l01In (x : denL c_spec_l01In.args) (K : Bool × Unit → Prop) : evF tab (lkp []) (cutL []) Try.f161 (bodyOf Try.f161) .n c_spec_l01In x K = W_spec_l01In x.1 x.2.1 x.2.2.1 K := by kernel_rfl
theorem k_spec_l01In : okC Try.f161.ntmps (cutL []) (bodyOf Try.f161) = true := by kernel_rfl
theorem m_spec_l01In (n : Int) (low : Int) (high : Int) (hok : allP (okL c_spec_l01In.args (n, low, high, ()))) (hpre : allP (c_spec_l01In.pre (n, low, high, ()))) : W_spec_l01In n low high (fun r => r = c_spec_l01In.res (n, low, high, ())) := by
  simp only [c_spec_l01In, okL, T.oks, T.ok, ap, allP, true_and, and_true, implies_true] at hok hpre
  try dsimp only [T.den] at hok
  try dsimp only [T.den] at hpre
  unfold W_spec_l01In
  grind [cnd, nb_eq, inK64, c_spec_l01In, inR]
theorem ct_spec_l01In : CtOk Try.prog 161 c_spec_l01In :=
  ct_by (Φ := lkp []) good_nil tab_ok (by kernel_rfl) (fn := Try.f161) (c := bodyOf Try.f161) (by kernel_rfl) (by kernel_rfl) (by kernel_rfl) c_spec_l01In rfl .n (cutL []) (by kernel_rfl) (by kernel_rfl) k_spec_l01In (by decide) (fun x K => W_spec_l01In x.1 x.2.1 x.2.2.1 K) w_spec_l01In (fun x h1 h2 => m_spec_l01In x.1 x.2.1 x.2.2.1 h1 h2)
def c_spec_l02Ends : Ct := ⟨[(.sl (.int .i64)), (.int .i64), (.int .i64)], [false, false, false], fun x => [], [(false, (.fz .bool))], fun x => ((decide ((x.1.length : Int) = x.2.1) && withinR x.1 x.2.2.1), ()), false, none⟩
def W_spec_l02Ends (list : List Int) (length : Int) (objects : Int) (K : Bool × Unit → Prop) : Prop := (K ((((((List.length list) : Nat) : Int) == length) && (withinR list objects)), ()))
theorem w_spec_l02Ends (x : denL c_spec_l02Ends.args) (K : Bool × Unit → Prop) : evF tab (lkp [(90, c_spec_l01Map)]) (cutL []) Try.f162 (bodyOf Try.f162) .n c_spec_l02Ends x K = W_spec_l02Ends x.1 x.2.1 x.2.2.1 K := by kernel_rfl
theorem k_spec_l02Ends : okC Try.f162.ntmps (cutL []) (bodyOf Try.f162) = true := by kernel_rfl
theorem m_spec_l02Ends (list : List Int) (length : Int) (objects : Int) (hok : allP (okL c_spec_l02Ends.args (list, length, objects, ()))) (hpre : allP (c_spec_l02Ends.pre (list, length, objects, ()))) : W_spec_l02Ends list length objects (fun r => r = c_spec_l02Ends.res (list, length, objects, ())) := by
  simp only [c_spec_l02Ends, okL, T.oks, T.ok, ap, allP, true_and, and_true, implies_true] at hok hpre
  try dsimp only [T.den] at hok
  try dsimp only [T.den] at hpre
  unfold W_spec_l02Ends
  have : ((list.length : Int) == length) = decide ((list.length : Int) = length) := rfl
  simp only [c_spec_l02Ends, this]
theorem ct_spec_l02Ends : CtOk Try.prog 162 c_spec_l02Ends :=
  ct_by (Φ := lkp [(90, c_spec_l01Map)]) (good_cons ct_spec_l01Map good_nil) tab_ok (by kernel_rfl) (fn := Try.f162) (c := bodyOf Try.f162) (by kernel_rfl) (by kernel_rfl) (by kernel_rfl) c_spec_l02Ends rfl .n (cutL []) (by kernel_rfl) (by kernel_rfl) k_spec_l02Ends (by decide) (fun x K => W_spec_l02Ends x.1 x.2.1 x.2.2.1 K) w_spec_l02Ends (fun x h1 h2 => m_spec_l02Ends x.1 x.2.1 x.2.2.1 h1 h2)
def c_spec_IsShape : Ct := ⟨[CategoryT], [true], fun x => [], [(false, (.fz .bool))], fun x => (shapeR x.1, ()), false, none⟩
def W_spec_IsShape (c : CategoryD) (K : Bool × Unit → Prop) : Prop := (cnd (((((!(inR c.1 (0 : Int) (8 : Int))) || (decide ((40 : Int) < (((List.length c.2.1) : Nat) : Int)))) || (!((decide ((((List.length c.2.1) : Nat) : Int) = (((List.length c.2.1) : Nat) : Int))) && (withinR c.2.1 c.1)))) || (!((decide ((((List.length c.2.2.1) : Nat) : Int) = (((List.length c.2.1) : Nat) : Int))) && (withinR c.2.2.1 c.1)))) || ((((List.length c.2.2.2.2) : Nat) : Int) != (((List.length c.2.1) : Nat) : Int))) (K (Bool.false, ())) (cnd (((((List.length c.2.2.2.1) : Nat) : Int) != c.1) || (!(withinR c.2.2.2.1 (((List.length c.2.1) : Nat) : Int)))) (K (Bool.false, ())) (loopW (S := ((Int × Unit) × Unit)) (fun s => (fun next => ((inK IntKind.i64 s.1.1) → (cnd (decide (s.1.1 < c.1)) (((0 : Int) ≤ s.1.1) ∧ ((s.1.1 < (((List.length c.2.2.2.1) : Nat) : Int)) ∧ (((0 : Int) ≤ (List.getD c.2.2.2.1 (Int.toNat s.1.1) (0 : Int))) ∧ (((List.getD c.2.2.2.1 (Int.toNat s.1.1) (0 : Int)) < (((List.length c.2.1) : Nat) : Int)) ∧ (((((List.getD c.2.1 (Int.toNat (List.getD c.2.2.2.1 (Int.toNat s.1.1) (0 : Int))) (0 : Int)) != s.1.1) = Bool.false) → ((s.1.1 < (((List.length c.2.2.2.1) : Nat) : Int)) ∧ ((0 : Int) ≤ s.1.1))) ∧ (((((List.getD c.2.1 (Int.toNat (List.getD c.2.2.2.1 (Int.toNat s.1.1) (0 : Int))) (0 : Int)) != s.1.1) = Bool.false) → (((List.getD c.2.2.2.1 (Int.toNat s.1.1) (0 : Int)) < (((List.length c.2.2.1) : Nat) : Int)) ∧ ((0 : Int) ≤ (List.getD c.2.2.2.1 (Int.toNat s.1.1) (0 : Int))))) ∧ (cnd (((List.getD c.2.1 (Int.toNat (List.getD c.2.2.2.1 (Int.toNat s.1.1) (0 : Int))) (0 : Int)) != s.1.1) || ((List.getD c.2.2.1 (Int.toNat (List.getD c.2.2.2.1 (Int.toNat s.1.1) (0 : Int))) (0 : Int)) != s.1.1)) (K (Bool.false, ())) ((inK IntKind.i64 (s.1.1 + (1 : Int))) ∧ (next (((s.1.1 + (1 : Int)), ()), ())))))))))) (loopW (S := ((Int × Unit) × Unit)) (fun s1 => (fun next1 => ((inK IntKind.i64 s1.1.1) → (cnd (decide (s1.1.1 < (((List.length c.2.1) : Nat) : Int))) (((0 : Int) ≤ s1.1.1) ∧ ((s1.1.1 < (((List.length c.2.2.2.2) : Nat) : Int)) ∧ (cnd ((((List.length (List.getD c.2.2.2.2 (Int.toNat s1.1.1) ([] : List Int))) : Nat) : Int) != (((List.length c.2.1) : Nat) : Int)) (K (Bool.false, ())) (loopW (S := ((Int × Unit) × Unit)) (fun s2 => (fun next2 => ((inK IntKind.i64 s2.1.1) → (cnd (decide (s2.1.1 < (((List.length c.2.1) : Nat) : Int))) (joinW (S := (Unit × Unit)) (fun s3 => ((inK IntKind.i64 (s2.1.1 + (1 : Int))) ∧ (next2 (((s2.1.1 + (1 : Int)), ()), ())))) (fun k => (((0 : Int) ≤ s1.1.1) ∧ ((s1.1.1 < (((List.length c.2.2.2.2) : Nat) : Int)) ∧ (((0 : Int) ≤ s2.1.1) ∧ ((s2.1.1 < (((List.length (List.getD c.2.2.2.2 (Int.toNat s1.1.1) ([] : List Int))) : Nat) : Int)) ∧ (((0 : Int) ≤ s1.1.1) ∧ ((s1.1.1 < (((List.length c.2.2.1) : Nat) : Int)) ∧ (((0 : Int) ≤ s2.1.1) ∧ ((s2.1.1 < (((List.length c.2.1) : Nat) : Int)) ∧ (cnd ((List.getD c.2.2.1 (Int.toNat s1.1.1) (0 : Int)) != (List.getD c.2.1 (Int.toNat s2.1.1) (0 : Int))) (cnd ((List.getD (List.getD c.2.2.2.2 (Int.toNat s1.1.1) ([] : List Int)) (Int.toNat s2.1.1) (0 : Int)) != (-(1 : Int))) (K (Bool.false, ())) (k ((), ()))) (((((decide ((List.getD (List.getD c.2.2.2.2 (Int.toNat s1.1.1) ([] : List Int)) (Int.toNat s2.1.1) (0 : Int)) < (0 : Int))) || (decide ((((List.length c.2.1) : Nat) : Int) ≤ (List.getD (List.getD c.2.2.2.2 (Int.toNat s1.1.1) ([] : List Int)) (Int.toNat s2.1.1) (0 : Int))))) = Bool.false) → (((List.getD (List.getD c.2.2.2.2 (Int.toNat s1.1.1) ([] : List Int)) (Int.toNat s2.1.1) (0 : Int)) < (((List.length c.2.1) : Nat) : Int)) ∧ ((0 : Int) ≤ (List.getD (List.getD c.2.2.2.2 (Int.toNat s1.1.1) ([] : List Int)) (Int.toNat s2.1.1) (0 : Int))))) ∧ (((((decide ((List.getD (List.getD c.2.2.2.2 (Int.toNat s1.1.1) ([] : List Int)) (Int.toNat s2.1.1) (0 : Int)) < (0 : Int))) || (decide ((((List.length c.2.1) : Nat) : Int) ≤ (List.getD (List.getD c.2.2.2.2 (Int.toNat s1.1.1) ([] : List Int)) (Int.toNat s2.1.1) (0 : Int))))) = Bool.false) → ((s1.1.1 < (((List.length c.2.1) : Nat) : Int)) ∧ ((0 : Int) ≤ s1.1.1))) ∧ ((((((decide ((List.getD (List.getD c.2.2.2.2 (Int.toNat s1.1.1) ([] : List Int)) (Int.toNat s2.1.1) (0 : Int)) < (0 : Int))) || (decide ((((List.length c.2.1) : Nat) : Int) ≤ (List.getD (List.getD c.2.2.2.2 (Int.toNat s1.1.1) ([] : List Int)) (Int.toNat s2.1.1) (0 : Int))))) || ((List.getD c.2.1 (Int.toNat (List.getD (List.getD c.2.2.2.2 (Int.toNat s1.1.1) ([] : List Int)) (Int.toNat s2.1.1) (0 : Int))) (0 : Int)) != (List.getD c.2.1 (Int.toNat s1.1.1) (0 : Int)))) = Bool.false) → (((List.getD (List.getD c.2.2.2.2 (Int.toNat s1.1.1) ([] : List Int)) (Int.toNat s2.1.1) (0 : Int)) < (((List.length c.2.2.1) : Nat) : Int)) ∧ ((0 : Int) ≤ (List.getD (List.getD c.2.2.2.2 (Int.toNat s1.1.1) ([] : List Int)) (Int.toNat s2.1.1) (0 : Int))))) ∧ ((((((decide ((List.getD (List.getD c.2.2.2.2 (Int.toNat s1.1.1) ([] : List Int)) (Int.toNat s2.1.1) (0 : Int)) < (0 : Int))) || (decide ((((List.length c.2.1) : Nat) : Int) ≤ (List.getD (List.getD c.2.2.2.2 (Int.toNat s1.1.1) ([] : List Int)) (Int.toNat s2.1.1) (0 : Int))))) || ((List.getD c.2.1 (Int.toNat (List.getD (List.getD c.2.2.2.2 (Int.toNat s1.1.1) ([] : List Int)) (Int.toNat s2.1.1) (0 : Int))) (0 : Int)) != (List.getD c.2.1 (Int.toNat s1.1.1) (0 : Int)))) = Bool.false) → ((s2.1.1 < (((List.length c.2.2.1) : Nat) : Int)) ∧ ((0 : Int) ≤ s2.1.1))) ∧ (cnd ((((decide ((List.getD (List.getD c.2.2.2.2 (Int.toNat s1.1.1) ([] : List Int)) (Int.toNat s2.1.1) (0 : Int)) < (0 : Int))) || (decide ((((List.length c.2.1) : Nat) : Int) ≤ (List.getD (List.getD c.2.2.2.2 (Int.toNat s1.1.1) ([] : List Int)) (Int.toNat s2.1.1) (0 : Int))))) || ((List.getD c.2.1 (Int.toNat (List.getD (List.getD c.2.2.2.2 (Int.toNat s1.1.1) ([] : List Int)) (Int.toNat s2.1.1) (0 : Int))) (0 : Int)) != (List.getD c.2.1 (Int.toNat s1.1.1) (0 : Int)))) || ((List.getD c.2.2.1 (Int.toNat (List.getD (List.getD c.2.2.2.2 (Int.toNat s1.1.1) ([] : List Int)) (Int.toNat s2.1.1) (0 : Int))) (0 : Int)) != (List.getD c.2.2.1 (Int.toNat s2.1.1) (0 : Int)))) (K (Bool.false, ())) (k ((), ())))))))))))))))))) ((inK IntKind.i64 (s1.1.1 + (1 : Int))) ∧ (next1 (((s1.1.1 + (1 : Int)), ()), ()))))))) (((0 : Int), ()), ()))))) (K (Bool.true, ())))))) (((0 : Int), ()), ())))))) (((0 : Int), ()), ()))))
theorem w_spec_IsShape (x : denL c_spec_IsShape.args) (K : Bool × Unit → Prop) : evF tab (lkp [(161, c_spec_l01In), (90, c_spec_l01Map), (162, c_spec_l02Ends)]) (cutL [(20, 11), (23, 33), (9, 24)]) Try.f125 (bodyOf Try.f125) (.s .n (.s .n (.s .n (.s .n (.s (.s .n (.l [(4, (.d (.int .i64)))] [] [1, 3] .n)) (.s (.s .n (.l [(5, (.d (.int .i64)))] [] [1, 3] (.s .n (.s (.s .n (.s .n (.l [(6, (.d (.int .i64)))] [] [1, 3, 5] (.s .n (.s (.j [] [] [1, 3, 5, 6] .n) .n))))) .n)))) .n)))))) c_spec_IsShape x K = W_spec_IsShape x.1 K := by kernel_rfl
theorem k_spec_IsShape : okC Try.f125.ntmps (cutL [(20, 11), (23, 33), (9, 24)]) (bodyOf Try.f125) = true := by kernel_rfl
theorem m_spec_IsShape (c : CategoryD) (hok : allP (okL c_spec_IsShape.args (c, ()))) (hpre : allP (c_spec_IsShape.pre (c, ()))) : W_spec_IsShape c (fun r => r = c_spec_IsShape.res (c, ())) := by
  simp only [c_spec_IsShape, okL, T.oks, T.ok, ap, allP, true_and, and_true, implies_true] at hok hpre
  try dsimp only [T.den] at hok
  try dsimp only [T.den] at hpre
  unfold W_spec_IsShape
  have bad : ¬ ShapeP c → (false, ()) = c_spec_IsShape.res (c, ()) := fun h => by simp only [c_spec_IsShape]; rw [shape_f h]
  refine cnd_of (fun hc => bad fun h => ?_) (fun hc => cnd_of (fun hd => bad fun h => ?_) (fun hd => ?_))
  · have h1 := h.ob; have h2 := h.m; have h3 := h.lt; have h4 := h.fr; have h5 := h.to; have h6 := h.lc; simp only [inR] at hc; grind [cnd, nb_eq, inK64]
  · have h1 := h.li; have h2 := h.ids; grind [cnd, nb_eq, inK64]
  simp only [inR, Bool.or_eq_false_iff, Bool.not_eq_false', Bool.and_eq_true, decide_eq_true_eq, decide_eq_false_iff_not, bne_eq_false_iff_eq] at hc hd
  obtain ⟨⟨⟨⟨hob, hm⟩, _, hfr⟩, hlt, hto⟩, hlc⟩ := hc
  obtain ⟨hli, hids⟩ := hd
  refine loop_ix (n := c.1) (fun x => ∀ y : Int, 0 ≤ y → y < x → c.2.1.getD (c.2.2.2.1.getD y.toNat 0).toNat 0 = y ∧ c.2.2.1.getD (c.2.2.2.1.getD y.toNat 0).toNat 0 = y) (by omega) (by intro y h0 h1; omega) ?_ ?_
  · intro x next h0 h1 hP hn hin
    have hb := within_iff.1 hids x h0 (by omega)
    try dsimp only
    refine cnd_d (fun _ => ⟨h0, by omega, hb.1, hb.2, fun _ => by omega, fun _ => by omega, cnd_of (fun hx => bad fun h => ?_) (fun hx => ?_)⟩) (fun h => absurd h1 h)
    · have := h.idt x h0 (by omega)
      rw [this.1, this.2] at hx
      simp at hx
    · simp only [Bool.or_eq_false_iff, bne_eq_false_iff_eq] at hx
      refine ⟨by rw [inK64]; (try dsimp only); omega, hn fun y y0 y1 => ?_⟩
      by_cases e : y = x
      · rw [e]; exact hx
      · exact hP y y0 (by omega)
  intro next hidt hin
  refine cnd_d (fun h => absurd h (by dsimp only; omega)) (fun _ => ?_)
  refine loop_ix (n := c.2.1.length) (fun f => ∀ f' : Int, 0 ≤ f' → f' < f → (c.2.2.2.2.getD f'.toNat []).length = c.2.1.length ∧ ∀ g : Int, 0 ≤ g → g < c.2.1.length → cellR c f' g = true) (by omega) (by intro y h0 h1; omega) ?_ ?_
  · intro f next h0 h1 hP hn hin
    try dsimp only
    refine cnd_d (fun _ => ⟨h0, by omega, cnd_of (fun hx => bad fun h => ?_) (fun hx => ?_)⟩) (fun h => absurd h1 h)
    · have := h.row f h0 (by omega)
      rw [this] at hx
      simp at hx
    simp only [bne_eq_false_iff_eq] at hx
    refine loop_ix (n := c.2.1.length) (fun g => ∀ g' : Int, 0 ≤ g' → g' < g → cellR c f g' = true) (by omega) (by intro y h0 h1; omega) ?_ ?_
    · intro g next3 g0 g1 hP3 hn3 hin3
      try dsimp only
      refine cnd_d (fun _ => ?_) (fun h => absurd g1 h)
      refine join_of (fun _ => cellR c f g = true) (fun _ hcell => ⟨by rw [inK64]; (try dsimp only); omega, hn3 fun g' y0 y1 => ?_⟩) (fun k hk => ?_)
      · by_cases e : g' = g
        · rw [e]; exact hcell
        · exact hP3 g' y0 (by omega)
      have hcell : ∀ b, cellR c f g = b → b = false → ¬ ShapeP c := fun b h1 h2 h => by
        have := h.cell f g h0 (by omega) g0 (by omega)
        rw [h1, h2] at this; cases this
      have hk' := hk ((), ())
      obtain ⟨v, hv⟩ : ∃ v, (c.2.2.2.2.getD f.toNat []).getD g.toNat 0 = v := ⟨_, rfl⟩
      have hR : cellR c f g = cellQ c f g v := by unfold cellR compR; rw [hv]
      rw [hR] at hk'
      rw [hR] at hcell
      rw [hv]
      clear hP3 hn3 hP hn hk hR hv hidt hok
      refine ⟨h0, by omega, g0, by omega, h0, by omega, g0, by omega, cnd_of (fun ha => cnd_of (fun hb => bad ?_) (fun hb => hk' ?_)) (fun ha => ⟨fun hv => ?_, fun _ => ⟨by omega, h0⟩, fun hv => ?_, fun _ => ⟨by omega, g0⟩, cnd_of (fun hb => bad ?_) (fun hb => hk' ?_)⟩)⟩
      · exact hcell _ rfl (by grind [cnd, nb_eq, inK64, cellQ])
      · grind [cnd, nb_eq, inK64, cellQ]
      · simp only [Bool.or_eq_false_iff, decide_eq_false_iff_not] at hv; omega
      · simp only [Bool.or_eq_false_iff, decide_eq_false_iff_not] at hv; omega
      · exact hcell _ rfl (by grind [cnd, nb_eq, inK64, cellQ])
      · grind [cnd, nb_eq, inK64, cellQ]
    · intro next3 hP3 hin3
      refine cnd_d (fun h => absurd h (by dsimp only; omega)) (fun _ => ⟨by rw [inK64]; (try dsimp only); omega, hn fun f' y0 y1 => ?_⟩)
      by_cases e : f' = f
      · rw [e]; exact ⟨by omega, fun g g0 g1 => hP3 g g0 (by omega)⟩
      · exact hP f' y0 (by omega)
  · intro next2 hP2 hin2
    refine cnd_d (fun h => absurd h (by dsimp only; omega)) (fun _ => ?_)
    simp only [c_spec_IsShape]
    rw [shape_t ⟨hob, by omega, by omega, hfr, hto, by omega, hids, by omega, fun x a b => hidt x a (by omega), fun f a b => (hP2 f a (by omega)).1, fun f g a b d e => (hP2 f a (by omega)).2 g d e⟩]
theorem ct_spec_IsShape : CtOk Try.prog 125 c_spec_IsShape :=
  ct_by (Φ := lkp [(161, c_spec_l01In), (90, c_spec_l01Map), (162, c_spec_l02Ends)]) (good_cons ct_spec_l01In (good_cons ct_spec_l01Map (good_cons ct_spec_l02Ends good_nil))) tab_ok (by kernel_rfl) (fn := Try.f125) (c := bodyOf Try.f125) (by kernel_rfl) (by kernel_rfl) (by kernel_rfl) c_spec_IsShape rfl (.s .n (.s .n (.s .n (.s .n (.s (.s .n (.l [(4, (.d (.int .i64)))] [] [1, 3] .n)) (.s (.s .n (.l [(5, (.d (.int .i64)))] [] [1, 3] (.s .n (.s (.s .n (.s .n (.l [(6, (.d (.int .i64)))] [] [1, 3, 5] (.s .n (.s (.j [] [] [1, 3, 5, 6] .n) .n))))) .n)))) .n)))))) (cutL [(20, 11), (23, 33), (9, 24)]) (by kernel_rfl) (by kernel_rfl) k_spec_IsShape (by decide) (fun x K => W_spec_IsShape x.1 K) w_spec_IsShape (fun x h1 h2 => m_spec_IsShape x.1 h1 h2)
def c_spec_l02Fault : Ct := ⟨[CategoryT], [true], fun x => [ShapeP x.1], [(false, (.fz (.int .i64))), (false, (.fz (.int .i64))), (false, (.fz (.int .i64))), (false, (.fz (.int .i64)))], fun x => ((faultR x.1).1, (faultR x.1).2.1, (faultR x.1).2.2.1, (faultR x.1).2.2.2, ()), false, none⟩
def W_spec_l02Fault (c : CategoryD) (K : Int × Int × Int × Int × Unit → Prop) : Prop := (loopW (S := ((Int × Unit) × Unit)) (fun s => (fun next => ((inK IntKind.i64 s.1.1) → (cnd (decide (s.1.1 < (((List.length c.2.1) : Nat) : Int))) (((0 : Int) ≤ s.1.1) ∧ ((s.1.1 < (((List.length c.2.1) : Nat) : Int)) ∧ (((0 : Int) ≤ (List.getD c.2.1 (Int.toNat s.1.1) (0 : Int))) ∧ (((List.getD c.2.1 (Int.toNat s.1.1) (0 : Int)) < (((List.length c.2.2.2.1) : Nat) : Int)) ∧ (((0 : Int) ≤ (List.getD c.2.2.2.1 (Int.toNat (List.getD c.2.1 (Int.toNat s.1.1) (0 : Int))) (0 : Int))) ∧ (((List.getD c.2.2.2.1 (Int.toNat (List.getD c.2.1 (Int.toNat s.1.1) (0 : Int))) (0 : Int)) < (((List.length c.2.2.2.2) : Nat) : Int)) ∧ (((0 : Int) ≤ s.1.1) ∧ ((s.1.1 < (((List.length (List.getD c.2.2.2.2 (Int.toNat (List.getD c.2.2.2.1 (Int.toNat (List.getD c.2.1 (Int.toNat s.1.1) (0 : Int))) (0 : Int))) ([] : List Int))) : Nat) : Int)) ∧ (((((List.getD (List.getD c.2.2.2.2 (Int.toNat (List.getD c.2.2.2.1 (Int.toNat (List.getD c.2.1 (Int.toNat s.1.1) (0 : Int))) (0 : Int))) ([] : List Int)) (Int.toNat s.1.1) (0 : Int)) != s.1.1) = Bool.false) → ((s.1.1 < (((List.length c.2.2.2.2) : Nat) : Int)) ∧ ((0 : Int) ≤ s.1.1))) ∧ (((((List.getD (List.getD c.2.2.2.2 (Int.toNat (List.getD c.2.2.2.1 (Int.toNat (List.getD c.2.1 (Int.toNat s.1.1) (0 : Int))) (0 : Int))) ([] : List Int)) (Int.toNat s.1.1) (0 : Int)) != s.1.1) = Bool.false) → ((s.1.1 < (((List.length c.2.2.1) : Nat) : Int)) ∧ ((0 : Int) ≤ s.1.1))) ∧ (((((List.getD (List.getD c.2.2.2.2 (Int.toNat (List.getD c.2.2.2.1 (Int.toNat (List.getD c.2.1 (Int.toNat s.1.1) (0 : Int))) (0 : Int))) ([] : List Int)) (Int.toNat s.1.1) (0 : Int)) != s.1.1) = Bool.false) → (((List.getD c.2.2.1 (Int.toNat s.1.1) (0 : Int)) < (((List.length c.2.2.2.1) : Nat) : Int)) ∧ ((0 : Int) ≤ (List.getD c.2.2.1 (Int.toNat s.1.1) (0 : Int))))) ∧ (((((List.getD (List.getD c.2.2.2.2 (Int.toNat (List.getD c.2.2.2.1 (Int.toNat (List.getD c.2.1 (Int.toNat s.1.1) (0 : Int))) (0 : Int))) ([] : List Int)) (Int.toNat s.1.1) (0 : Int)) != s.1.1) = Bool.false) → (((List.getD c.2.2.2.1 (Int.toNat (List.getD c.2.2.1 (Int.toNat s.1.1) (0 : Int))) (0 : Int)) < (((List.length (List.getD c.2.2.2.2 (Int.toNat s.1.1) ([] : List Int))) : Nat) : Int)) ∧ ((0 : Int) ≤ (List.getD c.2.2.2.1 (Int.toNat (List.getD c.2.2.1 (Int.toNat s.1.1) (0 : Int))) (0 : Int))))) ∧ (cnd (((List.getD (List.getD c.2.2.2.2 (Int.toNat (List.getD c.2.2.2.1 (Int.toNat (List.getD c.2.1 (Int.toNat s.1.1) (0 : Int))) (0 : Int))) ([] : List Int)) (Int.toNat s.1.1) (0 : Int)) != s.1.1) || ((List.getD (List.getD c.2.2.2.2 (Int.toNat s.1.1) ([] : List Int)) (Int.toNat (List.getD c.2.2.2.1 (Int.toNat (List.getD c.2.2.1 (Int.toNat s.1.1) (0 : Int))) (0 : Int))) (0 : Int)) != s.1.1)) (K ((1 : Int), (s.1.1, ((0 : Int), ((0 : Int), ()))))) ((inK IntKind.i64 (s.1.1 + (1 : Int))) ∧ (next (((s.1.1 + (1 : Int)), ()), ())))))))))))))))) (loopW (S := ((Int × Unit) × Unit)) (fun s1 => (fun next1 => ((inK IntKind.i64 s1.1.1) → (cnd (decide (s1.1.1 < (((List.length c.2.1) : Nat) : Int))) (loopW (S := ((Int × Unit) × Unit)) (fun s2 => (fun next2 => ((inK IntKind.i64 s2.1.1) → (cnd (decide (s2.1.1 < (((List.length c.2.1) : Nat) : Int))) (joinW (S := (Unit × Unit)) (fun s3 => ((inK IntKind.i64 (s2.1.1 + (1 : Int))) ∧ (next2 (((s2.1.1 + (1 : Int)), ()), ())))) (fun k => (((0 : Int) ≤ s1.1.1) ∧ ((s1.1.1 < (((List.length c.2.2.1) : Nat) : Int)) ∧ (((0 : Int) ≤ s2.1.1) ∧ ((s2.1.1 < (((List.length c.2.1) : Nat) : Int)) ∧ (cnd ((List.getD c.2.2.1 (Int.toNat s1.1.1) (0 : Int)) != (List.getD c.2.1 (Int.toNat s2.1.1) (0 : Int))) (k ((), ())) (loopW (S := ((Int × Unit) × Unit)) (fun s3 => (fun next3 => ((inK IntKind.i64 s3.1.1) → (cnd (decide (s3.1.1 < (((List.length c.2.1) : Nat) : Int))) (((0 : Int) ≤ s2.1.1) ∧ ((s2.1.1 < (((List.length c.2.2.1) : Nat) : Int)) ∧ (((0 : Int) ≤ s3.1.1) ∧ ((s3.1.1 < (((List.length c.2.1) : Nat) : Int)) ∧ (((((List.getD c.2.2.1 (Int.toNat s2.1.1) (0 : Int)) == (List.getD c.2.1 (Int.toNat s3.1.1) (0 : Int))) = Bool.true) → ((s1.1.1 < (((List.length c.2.2.2.2) : Nat) : Int)) ∧ ((0 : Int) ≤ s1.1.1))) ∧ (((((List.getD c.2.2.1 (Int.toNat s2.1.1) (0 : Int)) == (List.getD c.2.1 (Int.toNat s3.1.1) (0 : Int))) = Bool.true) → ((s2.1.1 < (((List.length (List.getD c.2.2.2.2 (Int.toNat s1.1.1) ([] : List Int))) : Nat) : Int)) ∧ ((0 : Int) ≤ s2.1.1))) ∧ (((((List.getD c.2.2.1 (Int.toNat s2.1.1) (0 : Int)) == (List.getD c.2.1 (Int.toNat s3.1.1) (0 : Int))) = Bool.true) → (((List.getD (List.getD c.2.2.2.2 (Int.toNat s1.1.1) ([] : List Int)) (Int.toNat s2.1.1) (0 : Int)) < (((List.length c.2.2.2.2) : Nat) : Int)) ∧ ((0 : Int) ≤ (List.getD (List.getD c.2.2.2.2 (Int.toNat s1.1.1) ([] : List Int)) (Int.toNat s2.1.1) (0 : Int))))) ∧ (((((List.getD c.2.2.1 (Int.toNat s2.1.1) (0 : Int)) == (List.getD c.2.1 (Int.toNat s3.1.1) (0 : Int))) = Bool.true) → ((s3.1.1 < (((List.length (List.getD c.2.2.2.2 (Int.toNat (List.getD (List.getD c.2.2.2.2 (Int.toNat s1.1.1) ([] : List Int)) (Int.toNat s2.1.1) (0 : Int))) ([] : List Int))) : Nat) : Int)) ∧ ((0 : Int) ≤ s3.1.1))) ∧ (((((List.getD c.2.2.1 (Int.toNat s2.1.1) (0 : Int)) == (List.getD c.2.1 (Int.toNat s3.1.1) (0 : Int))) = Bool.true) → ((s1.1.1 < (((List.length c.2.2.2.2) : Nat) : Int)) ∧ ((0 : Int) ≤ s1.1.1))) ∧ (((((List.getD c.2.2.1 (Int.toNat s2.1.1) (0 : Int)) == (List.getD c.2.1 (Int.toNat s3.1.1) (0 : Int))) = Bool.true) → ((s2.1.1 < (((List.length c.2.2.2.2) : Nat) : Int)) ∧ ((0 : Int) ≤ s2.1.1))) ∧ (((((List.getD c.2.2.1 (Int.toNat s2.1.1) (0 : Int)) == (List.getD c.2.1 (Int.toNat s3.1.1) (0 : Int))) = Bool.true) → ((s3.1.1 < (((List.length (List.getD c.2.2.2.2 (Int.toNat s2.1.1) ([] : List Int))) : Nat) : Int)) ∧ ((0 : Int) ≤ s3.1.1))) ∧ (((((List.getD c.2.2.1 (Int.toNat s2.1.1) (0 : Int)) == (List.getD c.2.1 (Int.toNat s3.1.1) (0 : Int))) = Bool.true) → (((List.getD (List.getD c.2.2.2.2 (Int.toNat s2.1.1) ([] : List Int)) (Int.toNat s3.1.1) (0 : Int)) < (((List.length (List.getD c.2.2.2.2 (Int.toNat s1.1.1) ([] : List Int))) : Nat) : Int)) ∧ ((0 : Int) ≤ (List.getD (List.getD c.2.2.2.2 (Int.toNat s2.1.1) ([] : List Int)) (Int.toNat s3.1.1) (0 : Int))))) ∧ (cnd (((List.getD c.2.2.1 (Int.toNat s2.1.1) (0 : Int)) == (List.getD c.2.1 (Int.toNat s3.1.1) (0 : Int))) && ((List.getD (List.getD c.2.2.2.2 (Int.toNat (List.getD (List.getD c.2.2.2.2 (Int.toNat s1.1.1) ([] : List Int)) (Int.toNat s2.1.1) (0 : Int))) ([] : List Int)) (Int.toNat s3.1.1) (0 : Int)) != (List.getD (List.getD c.2.2.2.2 (Int.toNat s1.1.1) ([] : List Int)) (Int.toNat (List.getD (List.getD c.2.2.2.2 (Int.toNat s2.1.1) ([] : List Int)) (Int.toNat s3.1.1) (0 : Int))) (0 : Int)))) (K ((2 : Int), (s1.1.1, (s2.1.1, (s3.1.1, ()))))) ((inK IntKind.i64 (s3.1.1 + (1 : Int))) ∧ (next3 (((s3.1.1 + (1 : Int)), ()), ())))))))))))))))) (k ((), ())))))) (((0 : Int), ()), ()))))))))) ((inK IntKind.i64 (s1.1.1 + (1 : Int))) ∧ (next1 (((s1.1.1 + (1 : Int)), ()), ()))))))) (((0 : Int), ()), ())) (K ((0 : Int), ((0 : Int), ((0 : Int), ((0 : Int), ()))))))))) (((0 : Int), ()), ())))))) (((0 : Int), ()), ()))
theorem w_spec_l02Fault (x : denL c_spec_l02Fault.args) (K : Int × Int × Int × Int × Unit → Prop) : evF tab (lkp []) (cutL [(17, 44), (5, 38), (13, 11)]) Try.f126 (bodyOf Try.f126) (.s .n (.s .n (.s (.s .n (.l [(7, (.d (.int .i64)))] [] [1, 6] .n)) (.s (.s .n (.l [(8, (.d (.int .i64)))] [] [1, 6] (.s .n (.s (.s .n (.l [(9, (.d (.int .i64)))] [] [1, 6, 8] (.s .n (.s (.j [] [] [1, 6, 8, 9] (.s .n (.s .n (.l [(10, (.d (.int .i64)))] [] [1, 6, 8, 9] .n)))) .n)))) .n)))) .n)))) c_spec_l02Fault x K = W_spec_l02Fault x.1 K := by kernel_rfl
theorem k_spec_l02Fault : okC Try.f126.ntmps (cutL [(17, 44), (5, 38), (13, 11)]) (bodyOf Try.f126) = true := by kernel_rfl
theorem m_spec_l02Fault (c : CategoryD) (hok : allP (okL c_spec_l02Fault.args (c, ()))) (hpre : allP (c_spec_l02Fault.pre (c, ()))) : W_spec_l02Fault c (fun r => r = c_spec_l02Fault.res (c, ())) := by
  simp only [c_spec_l02Fault, okL, T.oks, T.ok, ap, allP, true_and, and_true, implies_true] at hok hpre
  try dsimp only [T.den] at hok
  try dsimp only [T.den] at hpre
  unfold W_spec_l02Fault
  have S : ShapeP c := hpre
  have hlt := S.lt
  have hli := S.li
  have hlc := S.lc
  have hmm := S.m
  have resq : ∀ a b d e, faultR c = (a, b, d, e) → (a, b, d, e, ()) = c_spec_l02Fault.res (c, ()) := fun a b d e h => by simp only [c_spec_l02Fault, h]
  have hcr : ∀ f g : Int, (c.2.2.2.2.getD f.toNat []).getD g.toNat 0 = compR c f g := fun _ _ => rfl
  simp only [hcr]
  refine loop_ix (n := c.2.1.length) (fun f => scanR (faultI c) c.2.1.length 0 = scanR (faultI c) ((c.2.1.length : Int) - f).toNat f) (by omega) scan_0 ?_ ?_
  · intro f next h0 h1 hP hn hin
    try dsimp only
    obtain ⟨a1, a2, a3, a4⟩ := S.frm h0 h1
    obtain ⟨b1, b2, _, _⟩ := S.idn a1 a2
    obtain ⟨d1, d2, _, _⟩ := S.idn a3 a4
    have r1 := S.row _ b1 b2
    have r2 := S.row f h0 h1
    refine cnd_d (fun _ => ⟨h0, h1, by omega, by omega, by omega, by omega, h0, by omega, fun _ => by omega, fun _ => by omega, fun _ => by omega, fun _ => by omega, cnd_of (fun hx => resq _ _ _ _ ?_) (fun hx => ⟨by rw [inK64]; (try dsimp only); omega, hn ?_⟩)⟩) (fun h => absurd h1 h)
    · have : faultI c f = some (1, f, 0, 0) := by unfold faultI; rw [if_pos]; simpa using hx
      unfold faultR; rw [hP, scan_s h1 this]; rfl
    · have : faultI c f = none := by unfold faultI; rw [if_neg]; simpa using hx
      rw [hP, scan_c h1 this]
  intro next hI hin
  rw [scan_n] at hI
  refine cnd_d (fun h => absurd h (by dsimp only; omega)) (fun _ => ?_)
  have hF : faultR c = orR (scanR (faultF c) c.2.1.length 0) (0, 0, 0, 0) := by unfold faultR; rw [hI]; rfl
  refine loop_ix (n := c.2.1.length) (fun f => scanR (faultF c) c.2.1.length 0 = scanR (faultF c) ((c.2.1.length : Int) - f).toNat f) (by omega) scan_0 ?_ ?_
  · intro f next h0 h1 hP hn hin
    try dsimp only
    refine cnd_d (fun _ => ?_) (fun h => absurd h1 h)
    have r1 := S.row f h0 h1
    refine loop_ix (n := c.2.1.length) (fun g => faultF c f = scanR (faultG c f) ((c.2.1.length : Int) - g).toNat g) (by omega) scan_0 ?_ ?_
    · intro g next3 g0 g1 hP3 hn3 hin3
      try dsimp only
      refine cnd_d (fun _ => ?_) (fun h => absurd g1 h)
      have r2 := S.row g g0 g1
      refine join_of (fun _ => faultG c f g = none) (fun _ hG => ⟨by rw [inK64]; (try dsimp only); omega, hn3 (by rw [hP3, scan_c g1 hG])⟩) (fun k hk => ?_)
      have hk' := hk ((), ())
      refine ⟨by omega, by omega, by omega, by omega, cnd_of (fun hx => hk' ?_) (fun hx => ?_)⟩
      · unfold faultG; rw [if_neg]; simpa using hx
      have hfg : c.2.2.1.getD f.toNat 0 = c.2.1.getD g.toNat 0 := by rw [bne_eq_false_iff_eq] at hx; exact hx
      obtain ⟨y1, y2, _, _⟩ := S.yes h0 h1 g0 g1 hfg
      refine loop_ix (n := c.2.1.length) (fun h => faultG c f g = scanR (faultH c f g) ((c.2.1.length : Int) - h).toNat h) (by omega) (by unfold faultG; rw [if_pos hfg]; exact scan_0) ?_ ?_
      · intro h next4 i0 i1 hP4 hn4 hin4
        try dsimp only
        refine cnd_d (fun _ => ?_) (fun h => absurd i1 h)
        have r3 := S.row _ y1 y2
        have cgh := S.comp g0 g1 i0 i1
        have ygh := @ShapeP.yes c S g h g0 g1 i0 i1
        refine ⟨by omega, by omega, by omega, by omega, fun _ => by omega, fun _ => by omega, fun _ => by omega, fun _ => by omega, fun _ => by omega, fun _ => by omega, fun _ => by omega, fun he => ?_, cnd_of (fun hx => resq _ _ _ _ ?_) (fun hx => ⟨by rw [inK64]; (try dsimp only); omega, hn4 ?_⟩)⟩
        · have := ygh (by simpa only [beq_iff_eq] using he); omega
        · have : faultH c f g h = some (2, f, g, h) := by unfold faultH; rw [if_pos]; simpa using hx
          have e1 : faultG c f g = some (2, f, g, h) := by rw [hP4, scan_s i1 this]
          have e2 : faultF c f = some (2, f, g, h) := by rw [hP3, scan_s g1 e1]
          rw [hF, hP, scan_s h1 e2]; rfl
        · have : faultH c f g h = none := by unfold faultH; rw [if_neg]; simpa using hx
          rw [hP4, scan_c i1 this]
      · intro next4 hP4 hin4
        rw [scan_n] at hP4
        exact cnd_d (fun h => absurd h (by dsimp only; omega)) (fun _ => hk' hP4)
    · intro next3 hP3 hin3
      rw [scan_n] at hP3
      exact cnd_d (fun h => absurd h (by dsimp only; omega)) (fun _ => ⟨by rw [inK64]; (try dsimp only); omega, hn (by rw [hP, scan_c h1 hP3])⟩)
  · intro next2 hP2 hin2
    rw [scan_n] at hP2
    refine cnd_d (fun h => absurd h (by dsimp only; omega)) (fun _ => resq _ _ _ _ ?_)
    rw [hF, hP2]; rfl
theorem ct_spec_l02Fault : CtOk Try.prog 126 c_spec_l02Fault :=
  ct_by (Φ := lkp []) good_nil tab_ok (by kernel_rfl) (fn := Try.f126) (c := bodyOf Try.f126) (by kernel_rfl) (by kernel_rfl) (by kernel_rfl) c_spec_l02Fault rfl (.s .n (.s .n (.s (.s .n (.l [(7, (.d (.int .i64)))] [] [1, 6] .n)) (.s (.s .n (.l [(8, (.d (.int .i64)))] [] [1, 6] (.s .n (.s (.s .n (.l [(9, (.d (.int .i64)))] [] [1, 6, 8] (.s .n (.s (.j [] [] [1, 6, 8, 9] (.s .n (.s .n (.l [(10, (.d (.int .i64)))] [] [1, 6, 8, 9] .n)))) .n)))) .n)))) .n)))) (cutL [(17, 44), (5, 38), (13, 11)]) (by kernel_rfl) (by kernel_rfl) k_spec_l02Fault (by decide) (fun x K => W_spec_l02Fault x.1 K) w_spec_l02Fault (fun x h1 h2 => m_spec_l02Fault x.1 h1 h2)
def c_spec_l02Is : Ct := ⟨[CategoryT], [true], fun x => [], [(false, (.fz .bool))], fun x => (catR x.1, ()), false, none⟩
def W_spec_l02Is (c : CategoryD) (K : Bool × Unit → Prop) : Prop := (cnd (!(shapeR c)) (K (Bool.false, ())) ((ShapeP c) ∧ (K (((faultR c).1 == (0 : Int)), ()))))
theorem w_spec_l02Is (x : denL c_spec_l02Is.args) (K : Bool × Unit → Prop) : evF tab (lkp [(125, c_spec_IsShape), (126, c_spec_l02Fault)]) (cutL []) Try.f89 (bodyOf Try.f89) .n c_spec_l02Is x K = W_spec_l02Is x.1 K := by kernel_rfl
theorem k_spec_l02Is : okC Try.f89.ntmps (cutL []) (bodyOf Try.f89) = true := by kernel_rfl
theorem m_spec_l02Is (c : CategoryD) (hok : allP (okL c_spec_l02Is.args (c, ()))) (hpre : allP (c_spec_l02Is.pre (c, ()))) : W_spec_l02Is c (fun r => r = c_spec_l02Is.res (c, ())) := by
  simp only [c_spec_l02Is, okL, T.oks, T.ok, ap, allP, true_and, and_true, implies_true] at hok hpre
  try dsimp only [T.den] at hok
  try dsimp only [T.den] at hpre
  unfold W_spec_l02Is
  simp only [c_spec_l02Is, catR]
  have := @shape_iff c
  grind [cnd, nb_eq, inK64]
theorem ct_spec_l02Is : CtOk Try.prog 89 c_spec_l02Is :=
  ct_by (Φ := lkp [(125, c_spec_IsShape), (126, c_spec_l02Fault)]) (good_cons ct_spec_IsShape (good_cons ct_spec_l02Fault good_nil)) tab_ok (by kernel_rfl) (fn := Try.f89) (c := bodyOf Try.f89) (by kernel_rfl) (by kernel_rfl) (by kernel_rfl) c_spec_l02Is rfl .n (cutL []) (by kernel_rfl) (by kernel_rfl) k_spec_l02Is (by decide) (fun x K => W_spec_l02Is x.1 K) w_spec_l02Is (fun x h1 h2 => m_spec_l02Is x.1 h1 h2)
def c_spec_l06Is : Ct := ⟨[FunctorT], [true], fun x => [], [(false, (.fz .bool))], fun x => (funR x.1, ()), false, none⟩
def W_spec_l06Is (f : FunctorD) (K : Bool × Unit → Prop) : Prop := (cnd ((((!(catR f.1)) || (!(catR f.2.1))) || ((((List.length f.2.2.1) : Nat) : Int) != f.1.1)) || ((((List.length f.2.2.2) : Nat) : Int) != (((List.length f.1.2.1) : Nat) : Int))) (K (Bool.false, ())) (cnd ((!(withinR f.2.2.1 f.2.1.1)) || (!(withinR f.2.2.2 (((List.length f.2.1.2.1) : Nat) : Int)))) (K (Bool.false, ())) (loopW (S := ((Int × Unit) × Unit)) (fun s => (fun next => ((inK IntKind.i64 s.1.1) → (cnd (decide (s.1.1 < (((List.length f.1.2.1) : Nat) : Int))) (((0 : Int) ≤ s.1.1) ∧ ((s.1.1 < (((List.length f.2.2.2) : Nat) : Int)) ∧ (((0 : Int) ≤ (List.getD f.2.2.2 (Int.toNat s.1.1) (0 : Int))) ∧ (((List.getD f.2.2.2 (Int.toNat s.1.1) (0 : Int)) < (((List.length f.2.1.2.1) : Nat) : Int)) ∧ (((0 : Int) ≤ s.1.1) ∧ ((s.1.1 < (((List.length f.1.2.1) : Nat) : Int)) ∧ (((0 : Int) ≤ (List.getD f.1.2.1 (Int.toNat s.1.1) (0 : Int))) ∧ (((List.getD f.1.2.1 (Int.toNat s.1.1) (0 : Int)) < (((List.length f.2.2.1) : Nat) : Int)) ∧ (((((List.getD f.2.1.2.1 (Int.toNat (List.getD f.2.2.2 (Int.toNat s.1.1) (0 : Int))) (0 : Int)) != (List.getD f.2.2.1 (Int.toNat (List.getD f.1.2.1 (Int.toNat s.1.1) (0 : Int))) (0 : Int))) = Bool.false) → ((s.1.1 < (((List.length f.2.2.2) : Nat) : Int)) ∧ ((0 : Int) ≤ s.1.1))) ∧ (((((List.getD f.2.1.2.1 (Int.toNat (List.getD f.2.2.2 (Int.toNat s.1.1) (0 : Int))) (0 : Int)) != (List.getD f.2.2.1 (Int.toNat (List.getD f.1.2.1 (Int.toNat s.1.1) (0 : Int))) (0 : Int))) = Bool.false) → (((List.getD f.2.2.2 (Int.toNat s.1.1) (0 : Int)) < (((List.length f.2.1.2.2.1) : Nat) : Int)) ∧ ((0 : Int) ≤ (List.getD f.2.2.2 (Int.toNat s.1.1) (0 : Int))))) ∧ (((((List.getD f.2.1.2.1 (Int.toNat (List.getD f.2.2.2 (Int.toNat s.1.1) (0 : Int))) (0 : Int)) != (List.getD f.2.2.1 (Int.toNat (List.getD f.1.2.1 (Int.toNat s.1.1) (0 : Int))) (0 : Int))) = Bool.false) → ((s.1.1 < (((List.length f.1.2.2.1) : Nat) : Int)) ∧ ((0 : Int) ≤ s.1.1))) ∧ (((((List.getD f.2.1.2.1 (Int.toNat (List.getD f.2.2.2 (Int.toNat s.1.1) (0 : Int))) (0 : Int)) != (List.getD f.2.2.1 (Int.toNat (List.getD f.1.2.1 (Int.toNat s.1.1) (0 : Int))) (0 : Int))) = Bool.false) → (((List.getD f.1.2.2.1 (Int.toNat s.1.1) (0 : Int)) < (((List.length f.2.2.1) : Nat) : Int)) ∧ ((0 : Int) ≤ (List.getD f.1.2.2.1 (Int.toNat s.1.1) (0 : Int))))) ∧ (cnd (((List.getD f.2.1.2.1 (Int.toNat (List.getD f.2.2.2 (Int.toNat s.1.1) (0 : Int))) (0 : Int)) != (List.getD f.2.2.1 (Int.toNat (List.getD f.1.2.1 (Int.toNat s.1.1) (0 : Int))) (0 : Int))) || ((List.getD f.2.1.2.2.1 (Int.toNat (List.getD f.2.2.2 (Int.toNat s.1.1) (0 : Int))) (0 : Int)) != (List.getD f.2.2.1 (Int.toNat (List.getD f.1.2.2.1 (Int.toNat s.1.1) (0 : Int))) (0 : Int)))) (K (Bool.false, ())) ((inK IntKind.i64 (s.1.1 + (1 : Int))) ∧ (next (((s.1.1 + (1 : Int)), ()), ())))))))))))))))) (loopW (S := ((Int × Unit) × Unit)) (fun s1 => (fun next1 => ((inK IntKind.i64 s1.1.1) → (cnd (decide (s1.1.1 < f.1.1)) (((0 : Int) ≤ s1.1.1) ∧ ((s1.1.1 < (((List.length f.1.2.2.2.1) : Nat) : Int)) ∧ (((0 : Int) ≤ (List.getD f.1.2.2.2.1 (Int.toNat s1.1.1) (0 : Int))) ∧ (((List.getD f.1.2.2.2.1 (Int.toNat s1.1.1) (0 : Int)) < (((List.length f.2.2.2) : Nat) : Int)) ∧ (((0 : Int) ≤ s1.1.1) ∧ ((s1.1.1 < (((List.length f.2.2.1) : Nat) : Int)) ∧ (((0 : Int) ≤ (List.getD f.2.2.1 (Int.toNat s1.1.1) (0 : Int))) ∧ (((List.getD f.2.2.1 (Int.toNat s1.1.1) (0 : Int)) < (((List.length f.2.1.2.2.2.1) : Nat) : Int)) ∧ (cnd ((List.getD f.2.2.2 (Int.toNat (List.getD f.1.2.2.2.1 (Int.toNat s1.1.1) (0 : Int))) (0 : Int)) != (List.getD f.2.1.2.2.2.1 (Int.toNat (List.getD f.2.2.1 (Int.toNat s1.1.1) (0 : Int))) (0 : Int))) (K (Bool.false, ())) ((inK IntKind.i64 (s1.1.1 + (1 : Int))) ∧ (next1 (((s1.1.1 + (1 : Int)), ()), ())))))))))))) (loopW (S := ((Int × Unit) × Unit)) (fun s2 => (fun next2 => ((inK IntKind.i64 s2.1.1) → (cnd (decide (s2.1.1 < (((List.length f.1.2.1) : Nat) : Int))) (loopW (S := ((Int × Unit) × Unit)) (fun s3 => (fun next3 => ((inK IntKind.i64 s3.1.1) → (cnd (decide (s3.1.1 < (((List.length f.1.2.1) : Nat) : Int))) (((0 : Int) ≤ s2.1.1) ∧ ((s2.1.1 < (((List.length f.1.2.2.1) : Nat) : Int)) ∧ (((0 : Int) ≤ s3.1.1) ∧ ((s3.1.1 < (((List.length f.1.2.1) : Nat) : Int)) ∧ (((((List.getD f.1.2.2.1 (Int.toNat s2.1.1) (0 : Int)) == (List.getD f.1.2.1 (Int.toNat s3.1.1) (0 : Int))) = Bool.true) → ((s2.1.1 < (((List.length f.1.2.2.2.2) : Nat) : Int)) ∧ ((0 : Int) ≤ s2.1.1))) ∧ (((((List.getD f.1.2.2.1 (Int.toNat s2.1.1) (0 : Int)) == (List.getD f.1.2.1 (Int.toNat s3.1.1) (0 : Int))) = Bool.true) → ((s3.1.1 < (((List.length (List.getD f.1.2.2.2.2 (Int.toNat s2.1.1) ([] : List Int))) : Nat) : Int)) ∧ ((0 : Int) ≤ s3.1.1))) ∧ (((((List.getD f.1.2.2.1 (Int.toNat s2.1.1) (0 : Int)) == (List.getD f.1.2.1 (Int.toNat s3.1.1) (0 : Int))) = Bool.true) → (((List.getD (List.getD f.1.2.2.2.2 (Int.toNat s2.1.1) ([] : List Int)) (Int.toNat s3.1.1) (0 : Int)) < (((List.length f.2.2.2) : Nat) : Int)) ∧ ((0 : Int) ≤ (List.getD (List.getD f.1.2.2.2.2 (Int.toNat s2.1.1) ([] : List Int)) (Int.toNat s3.1.1) (0 : Int))))) ∧ (((((List.getD f.1.2.2.1 (Int.toNat s2.1.1) (0 : Int)) == (List.getD f.1.2.1 (Int.toNat s3.1.1) (0 : Int))) = Bool.true) → ((s2.1.1 < (((List.length f.2.2.2) : Nat) : Int)) ∧ ((0 : Int) ≤ s2.1.1))) ∧ (((((List.getD f.1.2.2.1 (Int.toNat s2.1.1) (0 : Int)) == (List.getD f.1.2.1 (Int.toNat s3.1.1) (0 : Int))) = Bool.true) → (((List.getD f.2.2.2 (Int.toNat s2.1.1) (0 : Int)) < (((List.length f.2.1.2.2.2.2) : Nat) : Int)) ∧ ((0 : Int) ≤ (List.getD f.2.2.2 (Int.toNat s2.1.1) (0 : Int))))) ∧ (((((List.getD f.1.2.2.1 (Int.toNat s2.1.1) (0 : Int)) == (List.getD f.1.2.1 (Int.toNat s3.1.1) (0 : Int))) = Bool.true) → ((s3.1.1 < (((List.length f.2.2.2) : Nat) : Int)) ∧ ((0 : Int) ≤ s3.1.1))) ∧ (((((List.getD f.1.2.2.1 (Int.toNat s2.1.1) (0 : Int)) == (List.getD f.1.2.1 (Int.toNat s3.1.1) (0 : Int))) = Bool.true) → (((List.getD f.2.2.2 (Int.toNat s3.1.1) (0 : Int)) < (((List.length (List.getD f.2.1.2.2.2.2 (Int.toNat (List.getD f.2.2.2 (Int.toNat s2.1.1) (0 : Int))) ([] : List Int))) : Nat) : Int)) ∧ ((0 : Int) ≤ (List.getD f.2.2.2 (Int.toNat s3.1.1) (0 : Int))))) ∧ (cnd (((List.getD f.1.2.2.1 (Int.toNat s2.1.1) (0 : Int)) == (List.getD f.1.2.1 (Int.toNat s3.1.1) (0 : Int))) && ((List.getD f.2.2.2 (Int.toNat (List.getD (List.getD f.1.2.2.2.2 (Int.toNat s2.1.1) ([] : List Int)) (Int.toNat s3.1.1) (0 : Int))) (0 : Int)) != (List.getD (List.getD f.2.1.2.2.2.2 (Int.toNat (List.getD f.2.2.2 (Int.toNat s2.1.1) (0 : Int))) ([] : List Int)) (Int.toNat (List.getD f.2.2.2 (Int.toNat s3.1.1) (0 : Int))) (0 : Int)))) (K (Bool.false, ())) ((inK IntKind.i64 (s3.1.1 + (1 : Int))) ∧ (next3 (((s3.1.1 + (1 : Int)), ()), ()))))))))))))))) ((inK IntKind.i64 (s2.1.1 + (1 : Int))) ∧ (next2 (((s2.1.1 + (1 : Int)), ()), ()))))))) (((0 : Int), ()), ())) (K (Bool.true, ())))))) (((0 : Int), ()), ())))))) (((0 : Int), ()), ())))))) (((0 : Int), ()), ()))))
theorem w_spec_l06Is (x : denL c_spec_l06Is.args) (K : Bool × Unit → Prop) : evF tab (lkp [(90, c_spec_l01Map), (89, c_spec_l02Is)]) (cutL [(1, 999999), (22, 42), (9, 40), (14, 19)]) Try.f50 (bodyOf Try.f50) (.s .n (.s .n (.s .n (.s .n (.s (.s .n (.l [(5, (.d (.int .i64)))] [] [1, 3, 4] .n)) (.s (.s .n (.l [(6, (.d (.int .i64)))] [] [1, 3, 4] .n)) (.s (.s .n (.l [(7, (.d (.int .i64)))] [] [1, 3, 4] (.s .n (.s (.s .n (.l [(8, (.d (.int .i64)))] [] [1, 3, 4, 7] .n)) .n)))) .n))))))) c_spec_l06Is x K = W_spec_l06Is x.1 K := by kernel_rfl
theorem k_spec_l06Is : okC Try.f50.ntmps (cutL [(1, 999999), (22, 42), (9, 40), (14, 19)]) (bodyOf Try.f50) = true := by kernel_rfl
theorem m_spec_l06Is (f : FunctorD) (hok : allP (okL c_spec_l06Is.args (f, ()))) (hpre : allP (c_spec_l06Is.pre (f, ()))) : W_spec_l06Is f (fun r => r = c_spec_l06Is.res (f, ())) := by
  simp only [c_spec_l06Is, okL, T.oks, T.ok, ap, allP, true_and, and_true, implies_true] at hok hpre
  try dsimp only [T.den] at hok
  try dsimp only [T.den] at hpre
  unfold W_spec_l06Is
  have hfs : ∀ h : funR f = true, FitP f := fun h => by
    simp only [funR, Bool.and_eq_true] at h
    exact (fits_iff (cat_shape h.1.1)).1 h.2
  have bad0 : ¬ (catR f.1 = true ∧ catR f.2.1 = true ∧ FitP f) → (false, ()) = c_spec_l06Is.res (f, ()) := fun h => by
    simp only [c_spec_l06Is]
    cases hs : funR f with
    | false => rfl
    | true =>
      refine absurd ⟨?_, ?_, hfs hs⟩ h
      · simp only [funR, Bool.and_eq_true] at hs; exact hs.1.1
      · simp only [funR, Bool.and_eq_true] at hs; exact hs.1.2
  refine cnd_of (fun hc => bad0 fun h => ?_) (fun hc => cnd_of (fun hd => bad0 fun h => ?_) (fun hd => ?_))
  · have h1 := h.1; have h2 := h.2.1; have h3 := h.2.2.lo; have h4 := h.2.2.la; grind [cnd, nb_eq, inK64]
  · have h1 := h.2.2.ow; have h2 := h.2.2.aw; grind [cnd, nb_eq, inK64]
  simp only [Bool.or_eq_false_iff, Bool.not_eq_false', bne_eq_false_iff_eq] at hc hd
  obtain ⟨⟨⟨hc1, hc2⟩, hlo⟩, hla⟩ := hc
  obtain ⟨how, haw⟩ := hd
  have S := cat_shape hc1
  have S2 := cat_shape hc2
  have at1 : ∀ i j : Int, (f.1.2.2.2.2.getD i.toNat []).getD j.toNat 0 = compR f.1 i j := fun _ _ => rfl
  have at2 : ∀ i j : Int, (f.2.1.2.2.2.2.getD i.toNat []).getD j.toNat 0 = compR f.2.1 i j := fun _ _ => rfl
  have hob := S.ob
  have hlt := S.lt
  have hli := S.li
  have hlc := S.lc
  have hmm := S.m
  have tob := S2.ob
  have tlt := S2.lt
  have tli := S2.li
  have tlc := S2.lc
  have bad : ¬ FitP f → (false, ()) = c_spec_l06Is.res (f, ()) := fun h => by
    simp only [c_spec_l06Is]
    cases hs : funR f with
    | false => rfl
    | true => exact absurd (hfs hs) h
  refine loop_ix (n := f.1.2.1.length) (fun a => ∀ a' : Int, 0 ≤ a' → a' < a → f.2.1.2.1.getD (f.2.2.2.getD a'.toNat 0).toNat 0 = f.2.2.1.getD (f.1.2.1.getD a'.toNat 0).toNat 0 ∧ f.2.1.2.2.1.getD (f.2.2.2.getD a'.toNat 0).toNat 0 = f.2.2.1.getD (f.1.2.2.1.getD a'.toNat 0).toNat 0) (by omega) (by intro y h0 h1; omega) ?_ ?_
  · intro a next a0 a1 hP hn hin
    try dsimp only
    have sa := S.frm a0 (by omega)
    have fa := within_iff.1 haw a a0 (by omega)
    refine cnd_d (fun _ => ⟨a0, by omega, fa.1, by omega, a0, by omega, sa.1, by omega, fun _ => by omega, fun _ => by omega, fun _ => by omega, fun _ => by omega, cnd_of (fun hx => bad fun h => ?_) (fun hx => ⟨by rw [inK64]; (try dsimp only); omega, hn fun a' b0 b1 => ?_⟩)⟩) (fun h => absurd a1 h)
    · have := h.ends a a0 (by omega)
      rw [this.1, this.2] at hx; simp at hx
    · by_cases e : a' = a
      · rw [e]; simpa only [Bool.or_eq_false_iff, bne_eq_false_iff_eq] using hx
      · exact hP a' b0 (by omega)
  intro next hE hin
  refine cnd_d (fun h => absurd h (by dsimp only; omega)) (fun _ => ?_)
  clear next
  refine loop_ix (n := f.1.1) (fun x => ∀ x' : Int, 0 ≤ x' → x' < x → f.2.2.2.getD (f.1.2.2.2.1.getD x'.toNat 0).toNat 0 = f.2.1.2.2.2.1.getD (f.2.2.1.getD x'.toNat 0).toNat 0) (by omega) (by intro y h0 h1; omega) ?_ ?_
  · intro x next x0 x1 hP hn hin
    try dsimp only
    have ix := S.idn x0 x1
    have ox := within_iff.1 how x x0 (by omega)
    refine cnd_d (fun _ => ⟨x0, by omega, ix.1, by omega, x0, by omega, ox.1, by omega, cnd_of (fun hx => bad fun h => ?_) (fun hx => ⟨by rw [inK64]; (try dsimp only); omega, hn fun x' b0 b1 => ?_⟩)⟩) (fun h => absurd x1 h)
    · rw [h.ids x x0 x1] at hx; simp at hx
    · by_cases e : x' = x
      · rw [e]; simpa only [bne_eq_false_iff_eq] using hx
      · exact hP x' b0 (by omega)
  intro next hI hin
  refine cnd_d (fun h => absurd h (by dsimp only; omega)) (fun _ => ?_)
  clear next
  refine loop_ix (n := f.1.2.1.length) (fun a => ∀ a' : Int, 0 ≤ a' → a' < a → ∀ b : Int, 0 ≤ b → b < f.1.2.1.length → f.1.2.2.1.getD a'.toNat 0 = f.1.2.1.getD b.toNat 0 → f.2.2.2.getD (compR f.1 a' b).toNat 0 = compR f.2.1 (f.2.2.2.getD a'.toNat 0) (f.2.2.2.getD b.toNat 0)) (by omega) (by intro y h0 h1; omega) ?_ ?_
  · intro a next a0 a1 hP hn hin
    try dsimp only
    have ra := S.row a a0 a1
    have fa := within_iff.1 haw a a0 (by omega)
    have rfa := S2.row _ fa.1 fa.2
    refine cnd_d (fun _ => ?_) (fun h => absurd a1 h)
    refine loop_ix (n := f.1.2.1.length) (fun b => ∀ b' : Int, 0 ≤ b' → b' < b → f.1.2.2.1.getD a.toNat 0 = f.1.2.1.getD b'.toNat 0 → f.2.2.2.getD (compR f.1 a b').toNat 0 = compR f.2.1 (f.2.2.2.getD a.toNat 0) (f.2.2.2.getD b'.toNat 0)) (by omega) (by intro y h0 h1; omega) ?_ ?_
    · intro b next2 b0 b1 hP2 hn2 hin2
      try dsimp only
      simp only [at1, at2]
      have fb := within_iff.1 haw b b0 (by omega)
      have cab := S.comp a0 a1 b0 b1
      have yab := @ShapeP.yes f.1 S a b a0 a1 b0 b1
      refine cnd_d (fun _ => ⟨a0, by omega, b0, b1, fun _ => by omega, fun _ => by omega, fun hq => ?_, fun _ => by omega, fun _ => by omega, fun _ => by omega, fun _ => by omega, cnd_of (fun hx => bad fun h => ?_) (fun hx => ⟨by rw [inK64]; (try dsimp only); omega, hn2 fun b' c0 c1 => ?_⟩)⟩) (fun h => absurd b1 h)
      · have := yab (by simpa using hq); omega
      · simp only [Bool.and_eq_true, beq_iff_eq, bne_iff_ne] at hx
        exact hx.2 (h.comp a a0 a1 b b0 b1 ( hx.1))
      · by_cases e : b' = b
        · rw [e]
          intro eab
          simp only [Bool.and_eq_false_iff, beq_eq_false_iff_ne, bne_eq_false_iff_eq] at hx
          rcases hx with hx | hx
          · exact absurd eab hx
          · exact hx
        · exact hP2 b' c0 (by omega)
    · intro next2 hP2 hin2
      refine cnd_d (fun h => absurd h (by dsimp only; omega)) (fun _ => ⟨by rw [inK64]; (try dsimp only); omega, hn fun a' b0 b1 => ?_⟩)
      by_cases e : a' = a
      · rw [e]; exact hP2
      · exact hP a' b0 (by omega)
  · intro next hP hin
    refine cnd_d (fun h => absurd h (by dsimp only; omega)) (fun _ => ?_)
    have key : FitP f := ⟨by omega, by omega, how, haw, fun a a0 a1 => hE a a0 (by omega), hI, hP⟩
    simp only [c_spec_l06Is, funR]
    rw [hc1, hc2, (fits_iff S).2 key]; rfl
theorem ct_spec_l06Is : CtOk Try.prog 50 c_spec_l06Is :=
  ct_by (Φ := lkp [(90, c_spec_l01Map), (89, c_spec_l02Is)]) (good_cons ct_spec_l01Map (good_cons ct_spec_l02Is good_nil)) tab_ok (by kernel_rfl) (fn := Try.f50) (c := bodyOf Try.f50) (by kernel_rfl) (by kernel_rfl) (by kernel_rfl) c_spec_l06Is rfl (.s .n (.s .n (.s .n (.s .n (.s (.s .n (.l [(5, (.d (.int .i64)))] [] [1, 3, 4] .n)) (.s (.s .n (.l [(6, (.d (.int .i64)))] [] [1, 3, 4] .n)) (.s (.s .n (.l [(7, (.d (.int .i64)))] [] [1, 3, 4] (.s .n (.s (.s .n (.l [(8, (.d (.int .i64)))] [] [1, 3, 4, 7] .n)) .n)))) .n))))))) (cutL [(1, 999999), (22, 42), (9, 40), (14, 19)]) (by kernel_rfl) (by kernel_rfl) k_spec_l06Is (by decide) (fun x K => W_spec_l06Is x.1 K) w_spec_l06Is (fun x h1 h2 => m_spec_l06Is x.1 h1 h2)
def c_impl_asked_opf : Ct := ⟨[(.pt FunctorT), (.fn 55 .u)], [false, false], fun x => [], [(false, (.fz .bool)), (false, (.fz (.int .i64)))], fun x => ((funR x.1 && opfR x.1), funCodeR x.1, ()), false, none⟩
def W_impl_asked_opf (f : FunctorD) (question : Unit) (K : Bool × Int × Unit → Prop) : Prop := (cnd (!(funR f)) (K (Bool.false, ((1 : Int), ()))) ((FunP f) ∧ (K ((opfR f), ((0 : Int), ())))))
theorem w_impl_asked_opf (x : denL c_impl_asked_opf.args) (K : Bool × Int × Unit → Prop) : evF tab (lkp [(93, c_impl_Functor_isFunctor), (55, c_impl_IsOpfibration_1)]) (cutL []) Try.f54 (bodyOf Try.f54) .n c_impl_asked_opf x K = W_impl_asked_opf x.1 x.2.1 K := by kernel_rfl
theorem k_impl_asked_opf : okC Try.f54.ntmps (cutL []) (bodyOf Try.f54) = true := by kernel_rfl
theorem m_impl_asked_opf (f : FunctorD) (question : Unit) (hok : allP (okL c_impl_asked_opf.args (f, question, ()))) (hpre : allP (c_impl_asked_opf.pre (f, question, ()))) : W_impl_asked_opf f question (fun r => r = c_impl_asked_opf.res (f, question, ())) := by
  simp only [c_impl_asked_opf, okL, T.oks, T.ok, ap, allP, true_and, and_true, implies_true] at hok hpre
  try dsimp only [T.den] at hok
  try dsimp only [T.den] at hpre
  unfold W_impl_asked_opf
  have h1 := @fun_of f
  simp only [c_impl_asked_opf, funCodeR]
  grind [cnd, nb_eq, inK64]
theorem ct_impl_asked_opf : CtOk Try.prog 54 c_impl_asked_opf :=
  ct_by (Φ := lkp [(93, c_impl_Functor_isFunctor), (55, c_impl_IsOpfibration_1)]) (good_cons ct_impl_Functor_isFunctor (good_cons ct_impl_IsOpfibration_1 good_nil)) tab_ok (by kernel_rfl) (fn := Try.f54) (c := bodyOf Try.f54) (by kernel_rfl) (by kernel_rfl) (by kernel_rfl) c_impl_asked_opf rfl .n (cutL []) (by kernel_rfl) (by kernel_rfl) k_impl_asked_opf (by decide) (fun x K => W_impl_asked_opf x.1 x.2.1 K) w_impl_asked_opf (fun x h1 h2 => m_impl_asked_opf x.1 x.2.1 h1 h2)
def c_impl_IsOpfibration : Ct := ⟨[FunctorT], [true], fun x => [], [(false, (.fz .bool)), (false, (.fz (.int .i64)))], fun x => ((funR x.1 && opfR x.1), funCodeR x.1, ()), false, none⟩
def W_impl_IsOpfibration (f : FunctorD) (K : Bool × Int × Unit → Prop) : Prop := (K (((funR f) && (opfR f)), ((funCodeR f), ())))
theorem w_impl_IsOpfibration (x : denL c_impl_IsOpfibration.args) (K : Bool × Int × Unit → Prop) : evF tab (lkp [(54, c_impl_asked_opf)]) (cutL []) Try.f14 (bodyOf Try.f14) .n c_impl_IsOpfibration x K = W_impl_IsOpfibration x.1 K := by kernel_rfl
theorem k_impl_IsOpfibration : okC Try.f14.ntmps (cutL []) (bodyOf Try.f14) = true := by kernel_rfl
theorem m_impl_IsOpfibration (f : FunctorD) (hok : allP (okL c_impl_IsOpfibration.args (f, ()))) (hpre : allP (c_impl_IsOpfibration.pre (f, ()))) : W_impl_IsOpfibration f (fun r => r = c_impl_IsOpfibration.res (f, ())) := by
  simp only [c_impl_IsOpfibration, okL, T.oks, T.ok, ap, allP, true_and, and_true, implies_true] at hok hpre
  try dsimp only [T.den] at hok
  try dsimp only [T.den] at hpre
  unfold W_impl_IsOpfibration
  rfl
theorem ct_impl_IsOpfibration : CtOk Try.prog 14 c_impl_IsOpfibration :=
  ct_by (Φ := lkp [(54, c_impl_asked_opf)]) (good_cons ct_impl_asked_opf good_nil) tab_ok (by kernel_rfl) (fn := Try.f14) (c := bodyOf Try.f14) (by kernel_rfl) (by kernel_rfl) (by kernel_rfl) c_impl_IsOpfibration rfl .n (cutL []) (by kernel_rfl) (by kernel_rfl) k_impl_IsOpfibration (by decide) (fun x K => W_impl_IsOpfibration x.1 K) w_impl_IsOpfibration (fun x h1 h2 => m_impl_IsOpfibration x.1 h1 h2)
def c_laws_eqInt64S : Ct := ⟨[(.sl (.int .i64)), (.sl (.int .i64))], [false, false], fun x => [], [(false, (.fz .bool))], fun x => (eqR (.sl (.int .i64)) x.1 x.2.1, ()), false, none⟩
def W_laws_eqInt64S (a : List Int) (b : List Int) (K : Bool × Unit → Prop) : Prop := (cnd ((((List.length a) : Nat) : Int) != (((List.length b) : Nat) : Int)) (K (Bool.false, ())) (loopW (S := ((Int × Unit) × Unit)) (fun s => (fun next => ((inK IntKind.i64 s.1.1) → (cnd (decide (s.1.1 < (((List.length a) : Nat) : Int))) (((0 : Int) ≤ s.1.1) ∧ ((s.1.1 < (((List.length a) : Nat) : Int)) ∧ (((0 : Int) ≤ s.1.1) ∧ ((s.1.1 < (((List.length b) : Nat) : Int)) ∧ (cnd ((List.getD a (Int.toNat s.1.1) (0 : Int)) != (List.getD b (Int.toNat s.1.1) (0 : Int))) (K (Bool.false, ())) ((inK IntKind.i64 (s.1.1 + (1 : Int))) ∧ (next (((s.1.1 + (1 : Int)), ()), ())))))))) (K (Bool.true, ())))))) (((0 : Int), ()), ())))
theorem w_laws_eqInt64S (x : denL c_laws_eqInt64S.args) (K : Bool × Unit → Prop) : evF tab (lkp []) (cutL [(6, 9)]) Try.f59 (bodyOf Try.f59) (.s .n (.s .n (.s (.s .n (.l [(5, (.d (.int .i64)))] [] [0, 1] .n)) .n))) c_laws_eqInt64S x K = W_laws_eqInt64S x.1 x.2.1 K := by kernel_rfl
theorem k_laws_eqInt64S : okC Try.f59.ntmps (cutL [(6, 9)]) (bodyOf Try.f59) = true := by kernel_rfl
theorem m_laws_eqInt64S (a : List Int) (b : List Int) (hok : allP (okL c_laws_eqInt64S.args (a, b, ()))) (hpre : allP (c_laws_eqInt64S.pre (a, b, ()))) : W_laws_eqInt64S a b (fun r => r = c_laws_eqInt64S.res (a, b, ())) := by
  simp only [c_laws_eqInt64S, okL, T.oks, T.ok, ap, allP, true_and, and_true, implies_true] at hok hpre
  try dsimp only [T.den] at hok
  try dsimp only [T.den] at hpre
  unfold W_laws_eqInt64S
  refine cnd_of (fun hc => ?_) (fun hc => ?_)
  · simp only [c_laws_eqInt64S, Prod.mk.injEq, and_true]; rw [eqR_f]; rintro rfl; simp at hc
  have hl : a.length = b.length := by simp at hc; omega
  refine loop_of (fun (s : ((Int × Unit) × Unit)) => 0 ≤ s.1.1 ∧ s.1.1 ≤ a.length ∧ a.take s.1.1.toNat = b.take s.1.1.toNat) (fun (s : ((Int × Unit) × Unit)) => (a.length - s.1.1).toNat) ?_ (by simp)
  rintro ⟨⟨i, _⟩, _⟩ next ⟨h0, h1, h2⟩ hn hin
  simp only at h0 h1 h2 hn ⊢
  refine cnd_d (fun hc => ?_) (fun hc => ?_)
  · have ha := take_c a (0 : Int) h0 hc
    have hb := take_c b (0 : Int) h0 (by omega)
    refine ⟨by omega, by omega, by omega, by omega, cnd_of (fun hd => ?_) (fun hd => ?_)⟩
    · simp only [c_laws_eqInt64S, Prod.mk.injEq, and_true]; rw [eqR_f]; rintro rfl; simp at hd
    · refine ⟨by grind [cnd, nb_eq, inK64], hn _ ⟨(by first | omega | (dsimp only; omega)), (by first | omega | (dsimp only; omega)), ?_⟩ (by first | omega | (dsimp only; omega))⟩
      simp only [Bool.not_eq_false', eqR_iff, bne_eq_false_iff_eq] at hd
      simp only [ha, hb, h2, hd]
  · rw [take_n a (by omega), take_n b (by omega)] at h2
    simp [h2, c_laws_eqInt64S]
theorem ct_laws_eqInt64S : CtOk Try.prog 59 c_laws_eqInt64S :=
  ct_by (Φ := lkp []) good_nil tab_ok (by kernel_rfl) (fn := Try.f59) (c := bodyOf Try.f59) (by kernel_rfl) (by kernel_rfl) (by kernel_rfl) c_laws_eqInt64S rfl (.s .n (.s .n (.s (.s .n (.l [(5, (.d (.int .i64)))] [] [0, 1] .n)) .n))) (cutL [(6, 9)]) (by kernel_rfl) (by kernel_rfl) k_laws_eqInt64S (by decide) (fun x K => W_laws_eqInt64S x.1 x.2.1 K) w_laws_eqInt64S (fun x h1 h2 => m_laws_eqInt64S x.1 x.2.1 h1 h2)
def c_laws_eqInt64SS : Ct := ⟨[(.sl (.sl (.int .i64))), (.sl (.sl (.int .i64)))], [false, false], fun x => [], [(false, (.fz .bool))], fun x => (eqR (.sl (.sl (.int .i64))) x.1 x.2.1, ()), false, none⟩
def W_laws_eqInt64SS (a : List (List Int)) (b : List (List Int)) (K : Bool × Unit → Prop) : Prop := (cnd ((((List.length a) : Nat) : Int) != (((List.length b) : Nat) : Int)) (K (Bool.false, ())) (loopW (S := ((Int × Unit) × Unit)) (fun s => (fun next => ((inK IntKind.i64 s.1.1) → (cnd (decide (s.1.1 < (((List.length a) : Nat) : Int))) (((0 : Int) ≤ s.1.1) ∧ ((s.1.1 < (((List.length a) : Nat) : Int)) ∧ (((0 : Int) ≤ s.1.1) ∧ ((s.1.1 < (((List.length b) : Nat) : Int)) ∧ (cnd (!(eqR (T.sl (T.int IntKind.i64)) (List.getD a (Int.toNat s.1.1) ([] : List Int)) (List.getD b (Int.toNat s.1.1) ([] : List Int)))) (K (Bool.false, ())) ((inK IntKind.i64 (s.1.1 + (1 : Int))) ∧ (next (((s.1.1 + (1 : Int)), ()), ())))))))) (K (Bool.true, ())))))) (((0 : Int), ()), ())))
theorem w_laws_eqInt64SS (x : denL c_laws_eqInt64SS.args) (K : Bool × Unit → Prop) : evF tab (lkp [(59, c_laws_eqInt64S)]) (cutL [(6, 10)]) Try.f66 (bodyOf Try.f66) (.s .n (.s .n (.s (.s .n (.l [(5, (.d (.int .i64)))] [] [0, 1] .n)) .n))) c_laws_eqInt64SS x K = W_laws_eqInt64SS x.1 x.2.1 K := by kernel_rfl
theorem k_laws_eqInt64SS : okC Try.f66.ntmps (cutL [(6, 10)]) (bodyOf Try.f66) = true := by kernel_rfl
theorem m_laws_eqInt64SS (a : List (List Int)) (b : List (List Int)) (hok : allP (okL c_laws_eqInt64SS.args (a, b, ()))) (hpre : allP (c_laws_eqInt64SS.pre (a, b, ()))) : W_laws_eqInt64SS a b (fun r => r = c_laws_eqInt64SS.res (a, b, ())) := by
  simp only [c_laws_eqInt64SS, okL, T.oks, T.ok, ap, allP, true_and, and_true, implies_true] at hok hpre
  try dsimp only [T.den] at hok
  try dsimp only [T.den] at hpre
  unfold W_laws_eqInt64SS
  refine cnd_of (fun hc => ?_) (fun hc => ?_)
  · simp only [c_laws_eqInt64SS, Prod.mk.injEq, and_true]; rw [eqR_f]; rintro rfl; simp at hc
  have hl : a.length = b.length := by simp at hc; omega
  refine loop_of (fun (s : ((Int × Unit) × Unit)) => 0 ≤ s.1.1 ∧ s.1.1 ≤ a.length ∧ a.take s.1.1.toNat = b.take s.1.1.toNat) (fun (s : ((Int × Unit) × Unit)) => (a.length - s.1.1).toNat) ?_ (by simp)
  rintro ⟨⟨i, _⟩, _⟩ next ⟨h0, h1, h2⟩ hn hin
  simp only at h0 h1 h2 hn ⊢
  refine cnd_d (fun hc => ?_) (fun hc => ?_)
  · have ha := take_c a ([] : List Int) h0 hc
    have hb := take_c b ([] : List Int) h0 (by omega)
    refine ⟨by omega, by omega, by omega, by omega, cnd_of (fun hd => ?_) (fun hd => ?_)⟩
    · simp only [c_laws_eqInt64SS, Prod.mk.injEq, and_true]; rw [eqR_f]; rintro rfl; simp at hd
    · refine ⟨by grind [cnd, nb_eq, inK64], hn _ ⟨(by first | omega | (dsimp only; omega)), (by first | omega | (dsimp only; omega)), ?_⟩ (by first | omega | (dsimp only; omega))⟩
      simp only [Bool.not_eq_false', eqR_iff, bne_eq_false_iff_eq] at hd
      simp only [ha, hb, h2, hd]
  · rw [take_n a (by omega), take_n b (by omega)] at h2
    simp [h2, c_laws_eqInt64SS]
theorem ct_laws_eqInt64SS : CtOk Try.prog 66 c_laws_eqInt64SS :=
  ct_by (Φ := lkp [(59, c_laws_eqInt64S)]) (good_cons ct_laws_eqInt64S good_nil) tab_ok (by kernel_rfl) (fn := Try.f66) (c := bodyOf Try.f66) (by kernel_rfl) (by kernel_rfl) (by kernel_rfl) c_laws_eqInt64SS rfl (.s .n (.s .n (.s (.s .n (.l [(5, (.d (.int .i64)))] [] [0, 1] .n)) .n))) (cutL [(6, 10)]) (by kernel_rfl) (by kernel_rfl) k_laws_eqInt64SS (by decide) (fun x K => W_laws_eqInt64SS x.1 x.2.1 K) w_laws_eqInt64SS (fun x h1 h2 => m_laws_eqInt64SS x.1 x.2.1 h1 h2)
def c_laws_eqCategory : Ct := ⟨[CategoryT, CategoryT], [true, true], fun x => [], [(false, (.fz .bool))], fun x => (eqR CategoryT x.1 x.2.1, ()), false, none⟩
def W_laws_eqCategory (a : CategoryD) (b : CategoryD) (K : Bool × Unit → Prop) : Prop := (cnd (a.1 != b.1) (K (Bool.false, ())) (cnd (!(eqR (T.sl (T.int IntKind.i64)) a.2.1 b.2.1)) (K (Bool.false, ())) (cnd (!(eqR (T.sl (T.int IntKind.i64)) a.2.2.1 b.2.2.1)) (K (Bool.false, ())) (cnd (!(eqR (T.sl (T.int IntKind.i64)) a.2.2.2.1 b.2.2.2.1)) (K (Bool.false, ())) (cnd (!(eqR (T.sl (T.sl (T.int IntKind.i64))) a.2.2.2.2 b.2.2.2.2)) (K (Bool.false, ())) (K (Bool.true, ())))))))
theorem w_laws_eqCategory (x : denL c_laws_eqCategory.args) (K : Bool × Unit → Prop) : evF tab (lkp [(59, c_laws_eqInt64S), (66, c_laws_eqInt64SS)]) (cutL []) Try.f58 (bodyOf Try.f58) .n c_laws_eqCategory x K = W_laws_eqCategory x.1 x.2.1 K := by kernel_rfl
theorem k_laws_eqCategory : okC Try.f58.ntmps (cutL []) (bodyOf Try.f58) = true := by kernel_rfl
theorem m_laws_eqCategory (a : CategoryD) (b : CategoryD) (hok : allP (okL c_laws_eqCategory.args (a, b, ()))) (hpre : allP (c_laws_eqCategory.pre (a, b, ()))) : W_laws_eqCategory a b (fun r => r = c_laws_eqCategory.res (a, b, ())) := by
  simp only [c_laws_eqCategory, okL, T.oks, T.ok, ap, allP, true_and, and_true, implies_true] at hok hpre
  try dsimp only [T.den] at hok
  try dsimp only [T.den] at hpre
  unfold W_laws_eqCategory
  simp only [c_laws_eqCategory, eqR_p, eqR_int, eqR_bool]
  grind [cnd, nb_eq, inK64]
theorem ct_laws_eqCategory : CtOk Try.prog 58 c_laws_eqCategory :=
  ct_by (Φ := lkp [(59, c_laws_eqInt64S), (66, c_laws_eqInt64SS)]) (good_cons ct_laws_eqInt64S (good_cons ct_laws_eqInt64SS good_nil)) tab_ok (by kernel_rfl) (fn := Try.f58) (c := bodyOf Try.f58) (by kernel_rfl) (by kernel_rfl) (by kernel_rfl) c_laws_eqCategory rfl .n (cutL []) (by kernel_rfl) (by kernel_rfl) k_laws_eqCategory (by decide) (fun x K => W_laws_eqCategory x.1 x.2.1 K) w_laws_eqCategory (fun x h1 h2 => m_laws_eqCategory x.1 x.2.1 h1 h2)
def c_laws_eqFunctor : Ct := ⟨[FunctorT, FunctorT], [true, true], fun x => [], [(false, (.fz .bool))], fun x => (eqR FunctorT x.1 x.2.1, ()), false, none⟩
def W_laws_eqFunctor (a : FunctorD) (b : FunctorD) (K : Bool × Unit → Prop) : Prop := (cnd (!(eqR CategoryT a.1 b.1)) (K (Bool.false, ())) (cnd (!(eqR CategoryT a.2.1 b.2.1)) (K (Bool.false, ())) (cnd (!(eqR (T.sl (T.int IntKind.i64)) a.2.2.1 b.2.2.1)) (K (Bool.false, ())) (cnd (!(eqR (T.sl (T.int IntKind.i64)) a.2.2.2 b.2.2.2)) (K (Bool.false, ())) (K (Bool.true, ()))))))
theorem w_laws_eqFunctor (x : denL c_laws_eqFunctor.args) (K : Bool × Unit → Prop) : evF tab (lkp [(58, c_laws_eqCategory), (59, c_laws_eqInt64S)]) (cutL []) Try.f15 (bodyOf Try.f15) .n c_laws_eqFunctor x K = W_laws_eqFunctor x.1 x.2.1 K := by kernel_rfl
theorem k_laws_eqFunctor : okC Try.f15.ntmps (cutL []) (bodyOf Try.f15) = true := by kernel_rfl
theorem m_laws_eqFunctor (a : FunctorD) (b : FunctorD) (hok : allP (okL c_laws_eqFunctor.args (a, b, ()))) (hpre : allP (c_laws_eqFunctor.pre (a, b, ()))) : W_laws_eqFunctor a b (fun r => r = c_laws_eqFunctor.res (a, b, ())) := by
  simp only [c_laws_eqFunctor, okL, T.oks, T.ok, ap, allP, true_and, and_true, implies_true] at hok hpre
  try dsimp only [T.den] at hok
  try dsimp only [T.den] at hpre
  unfold W_laws_eqFunctor
  simp only [c_laws_eqFunctor, eqR_p, eqR_int, eqR_bool]
  grind [cnd, nb_eq, inK64]
theorem ct_laws_eqFunctor : CtOk Try.prog 15 c_laws_eqFunctor :=
  ct_by (Φ := lkp [(58, c_laws_eqCategory), (59, c_laws_eqInt64S)]) (good_cons ct_laws_eqCategory (good_cons ct_laws_eqInt64S good_nil)) tab_ok (by kernel_rfl) (fn := Try.f15) (c := bodyOf Try.f15) (by kernel_rfl) (by kernel_rfl) (by kernel_rfl) c_laws_eqFunctor rfl .n (cutL []) (by kernel_rfl) (by kernel_rfl) k_laws_eqFunctor (by decide) (fun x K => W_laws_eqFunctor x.1 x.2.1 K) w_laws_eqFunctor (fun x h1 h2 => m_laws_eqFunctor x.1 x.2.1 h1 h2)
def c_laws_szInt64S : Ct := ⟨[(.sl (.int .i64)), (.int .i64)], [false, false], fun x => [-4611545280939032576 ≤ x.2.1], [(false, (.fz (.int .i64)))], fun x => (szR (wR (.sl (.int .i64)) x.1) x.2.1, ()), false, none⟩
def W_laws_szInt64S (a : List Int) (left : Int) (K : Int × Unit → Prop) : Prop := ((inK IntKind.i64 (left - (((List.length a) : Nat) : Int))) ∧ (cnd (decide ((left - (((List.length a) : Nat) : Int)) < (0 : Int))) (K ((-(1 : Int)), ())) (K ((left - (((List.length a) : Nat) : Int)), ()))))
theorem w_laws_szInt64S (x : denL c_laws_szInt64S.args) (K : Int × Unit → Prop) : evF tab (lkp []) (cutL []) Try.f49 (bodyOf Try.f49) .n c_laws_szInt64S x K = W_laws_szInt64S x.1 x.2.1 K := by kernel_rfl
theorem k_laws_szInt64S : okC Try.f49.ntmps (cutL []) (bodyOf Try.f49) = true := by kernel_rfl
theorem m_laws_szInt64S (a : List Int) (left : Int) (hok : allP (okL c_laws_szInt64S.args (a, left, ()))) (hpre : allP (c_laws_szInt64S.pre (a, left, ()))) : W_laws_szInt64S a left (fun r => r = c_laws_szInt64S.res (a, left, ())) := by
  simp only [c_laws_szInt64S, okL, T.oks, T.ok, ap, allP, true_and, and_true, implies_true] at hok hpre
  try dsimp only [T.den] at hok
  try dsimp only [T.den] at hpre
  unfold W_laws_szInt64S
  simp only [c_laws_szInt64S, wR_ints]
  grind [cnd, nb_eq, inK64, szR]
theorem ct_laws_szInt64S : CtOk Try.prog 49 c_laws_szInt64S :=
  ct_by (Φ := lkp []) good_nil tab_ok (by kernel_rfl) (fn := Try.f49) (c := bodyOf Try.f49) (by kernel_rfl) (by kernel_rfl) (by kernel_rfl) c_laws_szInt64S rfl .n (cutL []) (by kernel_rfl) (by kernel_rfl) k_laws_szInt64S (by decide) (fun x K => W_laws_szInt64S x.1 x.2.1 K) w_laws_szInt64S (fun x h1 h2 => m_laws_szInt64S x.1 x.2.1 h1 h2)
def c_laws_szInt64SS : Ct := ⟨[(.sl (.sl (.int .i64))), (.int .i64)], [false, false], fun x => [-4611404543450677248 ≤ x.2.1], [(false, (.fz (.int .i64)))], fun x => (szR (wR (.sl (.sl (.int .i64))) x.1) x.2.1, ()), false, none⟩
def W_laws_szInt64SS (a : List (List Int)) (left : Int) (K : Int × Unit → Prop) : Prop := ((inK IntKind.i64 (left - (((List.length a) : Nat) : Int))) ∧ (cnd (decide ((left - (((List.length a) : Nat) : Int)) < (0 : Int))) (K ((-(1 : Int)), ())) (loopW (S := ((Int × (Int × Unit)) × Unit)) (fun s => (fun next => ((inK IntKind.i64 s.1.1) → ((inK IntKind.i64 s.1.2.1) → (cnd (decide (s.1.2.1 < (((List.length a) : Nat) : Int))) (((0 : Int) ≤ s.1.2.1) ∧ ((s.1.2.1 < (((List.length a) : Nat) : Int)) ∧ (((-(4611545280939032576 : Int)) ≤ s.1.1) ∧ (cnd (decide ((szR (wR (T.sl (T.int IntKind.i64)) (List.getD a (Int.toNat s.1.2.1) ([] : List Int))) s.1.1) < (0 : Int))) (K ((-(1 : Int)), ())) ((inK IntKind.i64 (s.1.2.1 + (1 : Int))) ∧ (next (((szR (wR (T.sl (T.int IntKind.i64)) (List.getD a (Int.toNat s.1.2.1) ([] : List Int))) s.1.1), ((s.1.2.1 + (1 : Int)), ())), ()))))))) (K (s.1.1, ()))))))) (((left - (((List.length a) : Nat) : Int)), ((0 : Int), ())), ()))))
theorem w_laws_szInt64SS (x : denL c_laws_szInt64SS.args) (K : Int × Unit → Prop) : evF tab (lkp [(49, c_laws_szInt64S)]) (cutL []) Try.f60 (bodyOf Try.f60) (.s .n (.s .n (.s .n (.s (.s .n (.l [(1, (.d (.int .i64))), (5, (.d (.int .i64)))] [] [0] .n)) .n)))) c_laws_szInt64SS x K = W_laws_szInt64SS x.1 x.2.1 K := by kernel_rfl
theorem k_laws_szInt64SS : okC Try.f60.ntmps (cutL []) (bodyOf Try.f60) = true := by kernel_rfl
theorem m_laws_szInt64SS (a : List (List Int)) (left : Int) (hok : allP (okL c_laws_szInt64SS.args (a, left, ()))) (hpre : allP (c_laws_szInt64SS.pre (a, left, ()))) : W_laws_szInt64SS a left (fun r => r = c_laws_szInt64SS.res (a, left, ())) := by
  simp only [c_laws_szInt64SS, okL, T.oks, T.ok, ap, allP, true_and, and_true, implies_true] at hok hpre
  try dsimp only [T.den] at hok
  try dsimp only [T.den] at hpre
  unfold W_laws_szInt64SS
  have hr := szR_ge (x := a.length) (r := (a.map (wR (.sl (.int .i64)))).sum) (l := left)
  refine ⟨by grind [cnd, nb_eq, inK64], cnd_d (fun hc => ?_) (fun hc => ?_)⟩
  · simp only [c_laws_szInt64SS]; rw [wR_sl, szR_lt (x := a.length) (by omega)]
  replace hr := hr (by omega)
  rw [szR_val (x := a.length) (by omega)] at hr
  refine loop_of (fun (s : ((Int × (Int × Unit)) × Unit)) => 0 ≤ s.1.1 ∧ 0 ≤ s.1.2.1 ∧ s.1.2.1 ≤ a.length ∧ szR (wR (.sl (.sl (.int .i64))) a) left = szR ((a.drop s.1.2.1.toNat).map (wR (.sl (.int .i64)))).sum s.1.1) (fun (s : ((Int × (Int × Unit)) × Unit)) => (a.length - s.1.2.1).toNat) ?_ ⟨(by first | omega | (dsimp only; omega)), by simp, by simp, by rw [wR_sl]; simpa using hr⟩
  rintro ⟨⟨l, i, _⟩, _⟩ next ⟨h0, h1, h2, h3⟩ hn hin hl
  simp only at h0 h1 h2 h3 hn ⊢
  refine cnd_d (fun hc => ?_) (fun hc => ?_)
  · rw [drop_c a ([] : List Int) h1 hc, List.map_cons, List.sum_cons] at h3
    refine ⟨by omega, by omega, by omega, cnd_d (fun hd => ?_) (fun hd => ?_)⟩
    · rw [szR_neg] at hd
      rw [szR_lt hd] at h3
      simp only [c_laws_szInt64SS]; rw [h3]
    · rw [szR_neg] at hd
      rw [szR_ge hd] at h3
      exact ⟨by grind [cnd, nb_eq, inK64], hn _ ⟨by simp only; rw [szR_val hd]; omega, (by first | omega | (dsimp only; omega)), (by first | omega | (dsimp only; omega)), h3⟩ (by first | omega | (dsimp only; omega))⟩
  · rw [drop_n a (by omega)] at h3
    simp only [List.map_nil, List.sum_nil] at h3
    rw [szR_zero h0] at h3
    simp only [c_laws_szInt64SS]; rw [h3]
theorem ct_laws_szInt64SS : CtOk Try.prog 60 c_laws_szInt64SS :=
  ct_by (Φ := lkp [(49, c_laws_szInt64S)]) (good_cons ct_laws_szInt64S good_nil) tab_ok (by kernel_rfl) (fn := Try.f60) (c := bodyOf Try.f60) (by kernel_rfl) (by kernel_rfl) (by kernel_rfl) c_laws_szInt64SS rfl (.s .n (.s .n (.s .n (.s (.s .n (.l [(1, (.d (.int .i64))), (5, (.d (.int .i64)))] [] [0] .n)) .n)))) (cutL []) (by kernel_rfl) (by kernel_rfl) k_laws_szInt64SS (by decide) (fun x K => W_laws_szInt64SS x.1 x.2.1 K) w_laws_szInt64SS (fun x h1 h2 => m_laws_szInt64SS x.1 x.2.1 h1 h2)
def c_laws_szCategory : Ct := ⟨[CategoryT, (.int .i64)], [true, false], fun x => [-4611404543450677248 ≤ x.2.1], [(false, (.fz (.int .i64)))], fun x => (szR (wR CategoryT x.1) x.2.1, ()), false, none⟩
def W_laws_szCategory (a : CategoryD) (left : Int) (K : Int × Unit → Prop) : Prop := (((-(4611545280939032576 : Int)) ≤ left) ∧ (cnd (decide ((szR (wR (T.sl (T.int IntKind.i64)) a.2.1) left) < (0 : Int))) (K ((-(1 : Int)), ())) (((-(4611545280939032576 : Int)) ≤ (szR (wR (T.sl (T.int IntKind.i64)) a.2.1) left)) ∧ (cnd (decide ((szR (wR (T.sl (T.int IntKind.i64)) a.2.2.1) (szR (wR (T.sl (T.int IntKind.i64)) a.2.1) left)) < (0 : Int))) (K ((-(1 : Int)), ())) (((-(4611545280939032576 : Int)) ≤ (szR (wR (T.sl (T.int IntKind.i64)) a.2.2.1) (szR (wR (T.sl (T.int IntKind.i64)) a.2.1) left))) ∧ (cnd (decide ((szR (wR (T.sl (T.int IntKind.i64)) a.2.2.2.1) (szR (wR (T.sl (T.int IntKind.i64)) a.2.2.1) (szR (wR (T.sl (T.int IntKind.i64)) a.2.1) left))) < (0 : Int))) (K ((-(1 : Int)), ())) (((-(4611404543450677248 : Int)) ≤ (szR (wR (T.sl (T.int IntKind.i64)) a.2.2.2.1) (szR (wR (T.sl (T.int IntKind.i64)) a.2.2.1) (szR (wR (T.sl (T.int IntKind.i64)) a.2.1) left)))) ∧ (cnd (decide ((szR (wR (T.sl (T.sl (T.int IntKind.i64))) a.2.2.2.2) (szR (wR (T.sl (T.int IntKind.i64)) a.2.2.2.1) (szR (wR (T.sl (T.int IntKind.i64)) a.2.2.1) (szR (wR (T.sl (T.int IntKind.i64)) a.2.1) left)))) < (0 : Int))) (K ((-(1 : Int)), ())) (K ((szR (wR (T.sl (T.sl (T.int IntKind.i64))) a.2.2.2.2) (szR (wR (T.sl (T.int IntKind.i64)) a.2.2.2.1) (szR (wR (T.sl (T.int IntKind.i64)) a.2.2.1) (szR (wR (T.sl (T.int IntKind.i64)) a.2.1) left)))), ()))))))))))
theorem w_laws_szCategory (x : denL c_laws_szCategory.args) (K : Int × Unit → Prop) : evF tab (lkp [(49, c_laws_szInt64S), (60, c_laws_szInt64SS)]) (cutL []) Try.f48 (bodyOf Try.f48) .n c_laws_szCategory x K = W_laws_szCategory x.1 x.2.1 K := by kernel_rfl
theorem k_laws_szCategory : okC Try.f48.ntmps (cutL []) (bodyOf Try.f48) = true := by kernel_rfl
theorem m_laws_szCategory (a : CategoryD) (left : Int) (hok : allP (okL c_laws_szCategory.args (a, left, ()))) (hpre : allP (c_laws_szCategory.pre (a, left, ()))) : W_laws_szCategory a left (fun r => r = c_laws_szCategory.res (a, left, ())) := by
  simp only [c_laws_szCategory, okL, T.oks, T.ok, ap, allP, true_and, and_true, implies_true] at hok hpre
  try dsimp only [T.den] at hok
  try dsimp only [T.den] at hpre
  unfold W_laws_szCategory
  simp only [c_laws_szCategory, wR_p, wR_int, wR_bool, Nat.zero_add, Nat.add_zero]
  grind [cnd, nb_eq, inK64, szR]
theorem ct_laws_szCategory : CtOk Try.prog 48 c_laws_szCategory :=
  ct_by (Φ := lkp [(49, c_laws_szInt64S), (60, c_laws_szInt64SS)]) (good_cons ct_laws_szInt64S (good_cons ct_laws_szInt64SS good_nil)) tab_ok (by kernel_rfl) (fn := Try.f48) (c := bodyOf Try.f48) (by kernel_rfl) (by kernel_rfl) (by kernel_rfl) c_laws_szCategory rfl .n (cutL []) (by kernel_rfl) (by kernel_rfl) k_laws_szCategory (by decide) (fun x K => W_laws_szCategory x.1 x.2.1 K) w_laws_szCategory (fun x h1 h2 => m_laws_szCategory x.1 x.2.1 h1 h2)
def c_laws_szFunctor : Ct := ⟨[FunctorT, (.int .i64)], [true, false], fun x => [-4611404543450677248 ≤ x.2.1], [(false, (.fz (.int .i64)))], fun x => (szR (wR FunctorT x.1) x.2.1, ()), false, none⟩
def W_laws_szFunctor (a : FunctorD) (left : Int) (K : Int × Unit → Prop) : Prop := (((-(4611404543450677248 : Int)) ≤ left) ∧ (cnd (decide ((szR (wR CategoryT a.1) left) < (0 : Int))) (K ((-(1 : Int)), ())) (((-(4611404543450677248 : Int)) ≤ (szR (wR CategoryT a.1) left)) ∧ (cnd (decide ((szR (wR CategoryT a.2.1) (szR (wR CategoryT a.1) left)) < (0 : Int))) (K ((-(1 : Int)), ())) (((-(4611545280939032576 : Int)) ≤ (szR (wR CategoryT a.2.1) (szR (wR CategoryT a.1) left))) ∧ (cnd (decide ((szR (wR (T.sl (T.int IntKind.i64)) a.2.2.1) (szR (wR CategoryT a.2.1) (szR (wR CategoryT a.1) left))) < (0 : Int))) (K ((-(1 : Int)), ())) (((-(4611545280939032576 : Int)) ≤ (szR (wR (T.sl (T.int IntKind.i64)) a.2.2.1) (szR (wR CategoryT a.2.1) (szR (wR CategoryT a.1) left)))) ∧ (cnd (decide ((szR (wR (T.sl (T.int IntKind.i64)) a.2.2.2) (szR (wR (T.sl (T.int IntKind.i64)) a.2.2.1) (szR (wR CategoryT a.2.1) (szR (wR CategoryT a.1) left)))) < (0 : Int))) (K ((-(1 : Int)), ())) (K ((szR (wR (T.sl (T.int IntKind.i64)) a.2.2.2) (szR (wR (T.sl (T.int IntKind.i64)) a.2.2.1) (szR (wR CategoryT a.2.1) (szR (wR CategoryT a.1) left)))), ()))))))))))
theorem w_laws_szFunctor (x : denL c_laws_szFunctor.args) (K : Int × Unit → Prop) : evF tab (lkp [(48, c_laws_szCategory), (49, c_laws_szInt64S)]) (cutL []) Try.f11 (bodyOf Try.f11) .n c_laws_szFunctor x K = W_laws_szFunctor x.1 x.2.1 K := by kernel_rfl
theorem k_laws_szFunctor : okC Try.f11.ntmps (cutL []) (bodyOf Try.f11) = true := by kernel_rfl
theorem m_laws_szFunctor (a : FunctorD) (left : Int) (hok : allP (okL c_laws_szFunctor.args (a, left, ()))) (hpre : allP (c_laws_szFunctor.pre (a, left, ()))) : W_laws_szFunctor a left (fun r => r = c_laws_szFunctor.res (a, left, ())) := by
  simp only [c_laws_szFunctor, okL, T.oks, T.ok, ap, allP, true_and, and_true, implies_true] at hok hpre
  try dsimp only [T.den] at hok
  try dsimp only [T.den] at hpre
  unfold W_laws_szFunctor
  simp only [c_laws_szFunctor, wR_p, wR_int, wR_bool, Nat.zero_add, Nat.add_zero]
  grind [cnd, nb_eq, inK64, szR]
theorem ct_laws_szFunctor : CtOk Try.prog 11 c_laws_szFunctor :=
  ct_by (Φ := lkp [(48, c_laws_szCategory), (49, c_laws_szInt64S)]) (good_cons ct_laws_szCategory (good_cons ct_laws_szInt64S good_nil)) tab_ok (by kernel_rfl) (fn := Try.f11) (c := bodyOf Try.f11) (by kernel_rfl) (by kernel_rfl) (by kernel_rfl) c_laws_szFunctor rfl .n (cutL []) (by kernel_rfl) (by kernel_rfl) k_laws_szFunctor (by decide) (fun x K => W_laws_szFunctor x.1 x.2.1 K) w_laws_szFunctor (fun x h1 h2 => m_laws_szFunctor x.1 x.2.1 h1 h2)
def c_laws_toInt64S : Ct := ⟨[(.sl (.int .i64))], [false], fun x => [wR (.sl (.int .i64)) x.1 ≤ 1099511627776], [(false, (.sl (.fz (.int .i64))))], fun x => (x.1, ()), false, none⟩
def W_laws_toInt64S (a : List Int) (K : (List Int) × Unit → Prop) : Prop := (((0 : Int) ≤ (((List.length a) : Nat) : Int)) ∧ (((((List.length a) : Nat) : Int) ≤ (((List.length a) : Nat) : Int)) ∧ (((((List.length a) : Nat) : Int) ≤ ((140737488355328 : Nat) : Int)) ∧ ((((((List.length a) : Nat) : Int) * ((8 : Nat) : Int)) ≤ ((140737488355328 : Nat) : Int)) ∧ (loopW (S := ((Unit × (Int × Unit)) × ((List Int) × Unit))) (fun s => (fun next => ((inK IntKind.i64 s.1.2.1) → ((T.ok (T.sl (T.int IntKind.i64)) s.2.1) → (cnd (decide (s.1.2.1 < (((List.length a) : Nat) : Int))) (((0 : Int) ≤ s.1.2.1) ∧ ((s.1.2.1 < (((List.length a) : Nat) : Int)) ∧ (((0 : Int) ≤ s.1.2.1) ∧ ((s.1.2.1 < (((List.length s.2.1) : Nat) : Int)) ∧ ((inK IntKind.i64 (s.1.2.1 + (1 : Int))) ∧ (next (((), ((s.1.2.1 + (1 : Int)), ())), ((List.set s.2.1 (Int.toNat s.1.2.1) (List.getD a (Int.toNat s.1.2.1) (0 : Int))), ())))))))) (K (s.2.1, ()))))))) (((), ((0 : Int), ())), ((List.replicate (Int.toNat (((List.length a) : Nat) : Int)) (0 : Int)), ())))))))
theorem w_laws_toInt64S (x : denL c_laws_toInt64S.args) (K : (List Int) × Unit → Prop) : evF tab (lkp []) (cutL []) Try.f53 (bodyOf Try.f53) (.s .n (.s .n (.s (.s .n (.l [(3, (.ref 7 [])), (4, (.d (.int .i64)))] [(7, (.sl (.fz (.int .i64))))] [0] .n)) .n))) c_laws_toInt64S x K = W_laws_toInt64S x.1 K := by kernel_rfl
theorem k_laws_toInt64S : okC Try.f53.ntmps (cutL []) (bodyOf Try.f53) = true := by kernel_rfl
theorem m_laws_toInt64S (a : List Int) (hok : allP (okL c_laws_toInt64S.args (a, ()))) (hpre : allP (c_laws_toInt64S.pre (a, ()))) : W_laws_toInt64S a (fun r => r = c_laws_toInt64S.res (a, ())) := by
  simp only [c_laws_toInt64S, okL, T.oks, T.ok, ap, allP, true_and, and_true, implies_true] at hok hpre
  try dsimp only [T.den] at hok
  try dsimp only [T.den] at hpre
  unfold W_laws_toInt64S
  rw [wR_sl] at hpre
  refine ⟨by omega, by omega, by first | omega | (rw [nb_eq]; omega), by first | omega | (rw [nb_eq]; omega), ?_⟩
  refine loop_of (fun (s : ((Unit × (Int × Unit)) × ((List Int) × Unit))) => 0 ≤ s.1.2.1 ∧ s.1.2.1 ≤ a.length ∧ s.2.1.length = a.length ∧ s.2.1.take s.1.2.1.toNat = a.take s.1.2.1.toNat) (fun (s : ((Unit × (Int × Unit)) × ((List Int) × Unit))) => (a.length - s.1.2.1).toNat) ?_ (by simp)
  rintro ⟨⟨_, i, _⟩, l, _⟩ next ⟨h0, h1, h2, h3⟩ hn hin hl
  simp only at h0 h1 h2 h3 hn ⊢
  refine cnd_d (fun hc => ?_) (fun hc => ?_)
  · refine ⟨by omega, by omega, by omega, by omega, by grind [cnd, nb_eq, inK64], hn _ ⟨(by first | omega | (dsimp only; omega)), (by first | omega | (dsimp only; omega)), by simp [h2], ?_⟩ (by first | omega | (dsimp only; omega))⟩
    simp only
    rw [take_c a (0 : Int) h0 hc, ← h3]
    exact take_set l h0 (by omega) _
  · rw [take_n a (by omega), take_n l (by omega)] at h3
    simp [h3, c_laws_toInt64S]
theorem ct_laws_toInt64S : CtOk Try.prog 53 c_laws_toInt64S :=
  ct_by (Φ := lkp []) good_nil tab_ok (by kernel_rfl) (fn := Try.f53) (c := bodyOf Try.f53) (by kernel_rfl) (by kernel_rfl) (by kernel_rfl) c_laws_toInt64S rfl (.s .n (.s .n (.s (.s .n (.l [(3, (.ref 7 [])), (4, (.d (.int .i64)))] [(7, (.sl (.fz (.int .i64))))] [0] .n)) .n))) (cutL []) (by kernel_rfl) (by kernel_rfl) k_laws_toInt64S (by decide) (fun x K => W_laws_toInt64S x.1 K) w_laws_toInt64S (fun x h1 h2 => m_laws_toInt64S x.1 h1 h2)
def c_laws_toInt64SS : Ct := ⟨[(.sl (.sl (.int .i64)))], [false], fun x => [wR (.sl (.sl (.int .i64))) x.1 ≤ 1099511627776], [(false, (.sl (.sl (.fz (.int .i64)))))], fun x => (x.1, ()), false, none⟩
def W_laws_toInt64SS (a : List (List Int)) (K : (List (List Int)) × Unit → Prop) : Prop := (((0 : Int) ≤ (((List.length a) : Nat) : Int)) ∧ (((((List.length a) : Nat) : Int) ≤ (((List.length a) : Nat) : Int)) ∧ (((((List.length a) : Nat) : Int) ≤ ((140737488355328 : Nat) : Int)) ∧ ((((((List.length a) : Nat) : Int) * ((24 : Nat) : Int)) ≤ ((140737488355328 : Nat) : Int)) ∧ (loopW (S := ((Unit × (Int × Unit)) × ((List (List Int)) × Unit))) (fun s => (fun next => ((inK IntKind.i64 s.1.2.1) → ((T.ok (T.sl (T.sl (T.int IntKind.i64))) s.2.1) → (cnd (decide (s.1.2.1 < (((List.length a) : Nat) : Int))) (((0 : Int) ≤ s.1.2.1) ∧ ((s.1.2.1 < (((List.length a) : Nat) : Int)) ∧ (((wR (T.sl (T.int IntKind.i64)) (List.getD a (Int.toNat s.1.2.1) ([] : List Int))) ≤ 1099511627776) ∧ (((0 : Int) ≤ s.1.2.1) ∧ ((s.1.2.1 < (((List.length s.2.1) : Nat) : Int)) ∧ ((inK IntKind.i64 (s.1.2.1 + (1 : Int))) ∧ (next (((), ((s.1.2.1 + (1 : Int)), ())), ((List.set s.2.1 (Int.toNat s.1.2.1) (List.getD a (Int.toNat s.1.2.1) ([] : List Int))), ()))))))))) (K (s.2.1, ()))))))) (((), ((0 : Int), ())), ((List.replicate (Int.toNat (((List.length a) : Nat) : Int)) ([] : List Int)), ())))))))
theorem w_laws_toInt64SS (x : denL c_laws_toInt64SS.args) (K : (List (List Int)) × Unit → Prop) : evF tab (lkp [(53, c_laws_toInt64S)]) (cutL []) Try.f63 (bodyOf Try.f63) (.s .n (.s .n (.s (.s .n (.l [(3, (.ref 7 [])), (4, (.d (.int .i64)))] [(7, (.sl (.sl (.fz (.int .i64)))))] [0] .n)) .n))) c_laws_toInt64SS x K = W_laws_toInt64SS x.1 K := by kernel_rfl
theorem k_laws_toInt64SS : okC Try.f63.ntmps (cutL []) (bodyOf Try.f63) = true := by kernel_rfl
theorem m_laws_toInt64SS (a : List (List Int)) (hok : allP (okL c_laws_toInt64SS.args (a, ()))) (hpre : allP (c_laws_toInt64SS.pre (a, ()))) : W_laws_toInt64SS a (fun r => r = c_laws_toInt64SS.res (a, ())) := by
  simp only [c_laws_toInt64SS, okL, T.oks, T.ok, ap, allP, true_and, and_true, implies_true] at hok hpre
  try dsimp only [T.den] at hok
  try dsimp only [T.den] at hpre
  unfold W_laws_toInt64SS
  rw [wR_sl] at hpre
  refine ⟨by omega, by omega, by first | omega | (rw [nb_eq]; omega), by first | omega | (rw [nb_eq]; omega), ?_⟩
  refine loop_of (fun (s : ((Unit × (Int × Unit)) × ((List (List Int)) × Unit))) => 0 ≤ s.1.2.1 ∧ s.1.2.1 ≤ a.length ∧ s.2.1.length = a.length ∧ s.2.1.take s.1.2.1.toNat = a.take s.1.2.1.toNat) (fun (s : ((Unit × (Int × Unit)) × ((List (List Int)) × Unit))) => (a.length - s.1.2.1).toNat) ?_ (by simp)
  rintro ⟨⟨_, i, _⟩, l, _⟩ next ⟨h0, h1, h2, h3⟩ hn hin hl
  simp only at h0 h1 h2 h3 hn ⊢
  refine cnd_d (fun hc => ?_) (fun hc => ?_)
  · have hm := wR_mem (e := (.sl (.int .i64))) (getD_mem a ([] : List Int) h0 hc)
    refine ⟨by omega, by omega, by omega, by omega, by omega, by grind [cnd, nb_eq, inK64], hn _ ⟨(by first | omega | (dsimp only; omega)), (by first | omega | (dsimp only; omega)), by simp [h2], ?_⟩ (by first | omega | (dsimp only; omega))⟩
    simp only
    rw [take_c a ([] : List Int) h0 hc, ← h3]
    exact take_set l h0 (by omega) _
  · rw [take_n a (by omega), take_n l (by omega)] at h3
    simp [h3, c_laws_toInt64SS]
theorem ct_laws_toInt64SS : CtOk Try.prog 63 c_laws_toInt64SS :=
  ct_by (Φ := lkp [(53, c_laws_toInt64S)]) (good_cons ct_laws_toInt64S good_nil) tab_ok (by kernel_rfl) (fn := Try.f63) (c := bodyOf Try.f63) (by kernel_rfl) (by kernel_rfl) (by kernel_rfl) c_laws_toInt64SS rfl (.s .n (.s .n (.s (.s .n (.l [(3, (.ref 7 [])), (4, (.d (.int .i64)))] [(7, (.sl (.sl (.fz (.int .i64)))))] [0] .n)) .n))) (cutL []) (by kernel_rfl) (by kernel_rfl) k_laws_toInt64SS (by decide) (fun x K => W_laws_toInt64SS x.1 K) w_laws_toInt64SS (fun x h1 h2 => m_laws_toInt64SS x.1 h1 h2)
def c_laws_toCategory : Ct := ⟨[CategoryT], [true], fun x => [wR CategoryT x.1 ≤ 1099511627776], [(true, CategoryO)], fun x => (x.1, ()), false, none⟩
def W_laws_toCategory (a : CategoryD) (K : CategoryD × Unit → Prop) : Prop := (((wR (T.sl (T.int IntKind.i64)) a.2.1) ≤ 1099511627776) ∧ (((wR (T.sl (T.int IntKind.i64)) a.2.2.1) ≤ 1099511627776) ∧ (((wR (T.sl (T.int IntKind.i64)) a.2.2.2.1) ≤ 1099511627776) ∧ (((wR (T.sl (T.sl (T.int IntKind.i64))) a.2.2.2.2) ≤ 1099511627776) ∧ (K (a, ()))))))
theorem w_laws_toCategory (x : denL c_laws_toCategory.args) (K : CategoryD × Unit → Prop) : evF tab (lkp [(53, c_laws_toInt64S), (63, c_laws_toInt64SS)]) (cutL []) Try.f52 (bodyOf Try.f52) .n c_laws_toCategory x K = W_laws_toCategory x.1 K := by kernel_rfl
theorem k_laws_toCategory : okC Try.f52.ntmps (cutL []) (bodyOf Try.f52) = true := by kernel_rfl
theorem m_laws_toCategory (a : CategoryD) (hok : allP (okL c_laws_toCategory.args (a, ()))) (hpre : allP (c_laws_toCategory.pre (a, ()))) : W_laws_toCategory a (fun r => r = c_laws_toCategory.res (a, ())) := by
  simp only [c_laws_toCategory, okL, T.oks, T.ok, ap, allP, true_and, and_true, implies_true] at hok hpre
  try dsimp only [T.den] at hok
  try dsimp only [T.den] at hpre
  unfold W_laws_toCategory
  simp only [wR_p, wR_int, wR_bool] at hpre
  repeat' apply And.intro
  all_goals first | rfl | ((try simp only [wR_p, wR_int, wR_bool]); omega)
theorem ct_laws_toCategory : CtOk Try.prog 52 c_laws_toCategory :=
  ct_by (Φ := lkp [(53, c_laws_toInt64S), (63, c_laws_toInt64SS)]) (good_cons ct_laws_toInt64S (good_cons ct_laws_toInt64SS good_nil)) tab_ok (by kernel_rfl) (fn := Try.f52) (c := bodyOf Try.f52) (by kernel_rfl) (by kernel_rfl) (by kernel_rfl) c_laws_toCategory rfl .n (cutL []) (by kernel_rfl) (by kernel_rfl) k_laws_toCategory (by decide) (fun x K => W_laws_toCategory x.1 K) w_laws_toCategory (fun x h1 h2 => m_laws_toCategory x.1 h1 h2)
def c_laws_toFunctor : Ct := ⟨[FunctorT], [true], fun x => [wR FunctorT x.1 ≤ 1099511627776], [(true, FunctorO)], fun x => (x.1, ()), false, none⟩
def W_laws_toFunctor (a : FunctorD) (K : FunctorD × Unit → Prop) : Prop := (((wR CategoryT a.1) ≤ 1099511627776) ∧ (((wR CategoryT a.2.1) ≤ 1099511627776) ∧ (((wR (T.sl (T.int IntKind.i64)) a.2.2.1) ≤ 1099511627776) ∧ (((wR (T.sl (T.int IntKind.i64)) a.2.2.2) ≤ 1099511627776) ∧ (K (a, ()))))))
theorem w_laws_toFunctor (x : denL c_laws_toFunctor.args) (K : FunctorD × Unit → Prop) : evF tab (lkp [(52, c_laws_toCategory), (53, c_laws_toInt64S)]) (cutL []) Try.f13 (bodyOf Try.f13) .n c_laws_toFunctor x K = W_laws_toFunctor x.1 K := by kernel_rfl
theorem k_laws_toFunctor : okC Try.f13.ntmps (cutL []) (bodyOf Try.f13) = true := by kernel_rfl
theorem m_laws_toFunctor (a : FunctorD) (hok : allP (okL c_laws_toFunctor.args (a, ()))) (hpre : allP (c_laws_toFunctor.pre (a, ()))) : W_laws_toFunctor a (fun r => r = c_laws_toFunctor.res (a, ())) := by
  simp only [c_laws_toFunctor, okL, T.oks, T.ok, ap, allP, true_and, and_true, implies_true] at hok hpre
  try dsimp only [T.den] at hok
  try dsimp only [T.den] at hpre
  unfold W_laws_toFunctor
  simp only [wR_p, wR_int, wR_bool] at hpre
  repeat' apply And.intro
  all_goals first | rfl | ((try simp only [wR_p, wR_int, wR_bool]); omega)
theorem ct_laws_toFunctor : CtOk Try.prog 13 c_laws_toFunctor :=
  ct_by (Φ := lkp [(52, c_laws_toCategory), (53, c_laws_toInt64S)]) (good_cons ct_laws_toCategory (good_cons ct_laws_toInt64S good_nil)) tab_ok (by kernel_rfl) (fn := Try.f13) (c := bodyOf Try.f13) (by kernel_rfl) (by kernel_rfl) (by kernel_rfl) c_laws_toFunctor rfl .n (cutL []) (by kernel_rfl) (by kernel_rfl) k_laws_toFunctor (by decide) (fun x K => W_laws_toFunctor x.1 K) w_laws_toFunctor (fun x h1 h2 => m_laws_toFunctor x.1 h1 h2)
def c_spec_l02Hom : Ct := ⟨[CategoryT, (.int .i64), (.int .i64)], [true, false, false], fun x => [x.1.2.1.length ≤ 40, x.1.2.2.1.length = x.1.2.1.length], [(false, (.sl (.fz (.int .i64))))], fun x => (homR x.1 x.2.1 x.2.2.1, ()), false, none⟩
def W_spec_l02Hom (c : CategoryD) (x : Int) (y : Int) (K : (List Int) × Unit → Prop) : Prop := (loopW (S := ((Unit × (Int × Unit)) × ((List Int) × Unit))) (fun s => (fun next => ((inK IntKind.i64 s.1.2.1) → ((T.ok (T.sl (T.int IntKind.i64)) s.2.1) → (cnd (decide (s.1.2.1 < (((List.length c.2.1) : Nat) : Int))) (((0 : Int) ≤ s.1.2.1) ∧ ((s.1.2.1 < (((List.length c.2.1) : Nat) : Int)) ∧ (((((List.getD c.2.1 (Int.toNat s.1.2.1) (0 : Int)) == x) = Bool.true) → ((s.1.2.1 < (((List.length c.2.2.1) : Nat) : Int)) ∧ ((0 : Int) ≤ s.1.2.1))) ∧ (joinW (S := ((Unit × Unit) × ((List Int) × Unit))) (fun s1 => ((T.ok (T.sl (T.int IntKind.i64)) s1.2.1) → ((inK IntKind.i64 (s.1.2.1 + (1 : Int))) ∧ (next (((), ((s.1.2.1 + (1 : Int)), ())), (s1.2.1, ())))))) (fun k => (cnd (((List.getD c.2.1 (Int.toNat s.1.2.1) (0 : Int)) == x) && ((List.getD c.2.2.1 (Int.toNat s.1.2.1) (0 : Int)) == y)) ((room (List.length s.2.1) (List.length (s.1.2.1 :: ([] : List Int))) 8) ∧ (k (((), ()), ((s.2.1 ++ (s.1.2.1 :: ([] : List Int))), ())))) (k (((), ()), (s.2.1, ()))))))))) (K (s.2.1, ()))))))) (((), ((0 : Int), ())), (([] : List Int), ())))
theorem w_spec_l02Hom (x : denL c_spec_l02Hom.args) (K : (List Int) × Unit → Prop) : evF tab (lkp []) (cutL []) Try.f127 (bodyOf Try.f127) (.s .n (.s .n (.s (.s .n (.l [(7, (.ref 800007 [])), (8, (.d (.int .i64)))] [(800007, (.sl (.fz (.int .i64))))] [1, 2, 3] (.s .n (.s (.s .n (.j [(7, (.ref 800007 []))] [(800007, (.sl (.fz (.int .i64))))] [1, 2, 3, 8] .n)) .n)))) .n))) c_spec_l02Hom x K = W_spec_l02Hom x.1 x.2.1 x.2.2.1 K := by kernel_rfl
theorem k_spec_l02Hom : okC Try.f127.ntmps (cutL []) (bodyOf Try.f127) = true := by kernel_rfl
theorem m_spec_l02Hom (c : CategoryD) (x : Int) (y : Int) (hok : allP (okL c_spec_l02Hom.args (c, x, y, ()))) (hpre : allP (c_spec_l02Hom.pre (c, x, y, ()))) : W_spec_l02Hom c x y (fun r => r = c_spec_l02Hom.res (c, x, y, ())) := by
  simp only [c_spec_l02Hom, okL, T.oks, T.ok, ap, allP, true_and, and_true, implies_true] at hok hpre
  try dsimp only [T.den] at hok
  try dsimp only [T.den] at hpre
  unfold W_spec_l02Hom
  have hm : c.2.1.length ≤ 40 := hpre.1
  have hlt : c.2.2.1.length = c.2.1.length := hpre.2
  refine loop_of (fun (s : ((Unit × (Int × Unit)) × ((List Int) × Unit))) => 0 ≤ s.1.2.1 ∧ s.1.2.1 ≤ c.2.1.length ∧ s.2.1 = selR s.1.2.1.toNat fun f => c.2.1.getD f.toNat 0 == x && c.2.2.1.getD f.toNat 0 == y) (fun (s : ((Unit × (Int × Unit)) × ((List Int) × Unit))) => (c.2.1.length - s.1.2.1).toNat) ?_ ⟨by simp, by simp, rfl⟩
  rintro ⟨⟨_, i, _⟩, l, _⟩ next ⟨h0, h1, h2⟩ hn hin hl
  try dsimp only at h0 h1 h2 hn ⊢
  subst h2
  refine cnd_d (fun hc => ⟨h0, hc, fun _ => by omega, join_of (fun s1 => s1.2.1 = selR (i + 1).toNat fun f => c.2.1.getD f.toNat 0 == x && c.2.2.1.getD f.toNat 0 == y) (fun s1 hs _ => ⟨by rw [inK64]; (try dsimp only); omega, hn _ ⟨(by first | omega | (dsimp only; omega)), (by first | omega | (dsimp only; omega)), hs⟩ (by first | omega | (dsimp only; omega))⟩) (fun k hk => cnd_of (fun hx => ⟨?_, hk _ ?_⟩) (fun hx => hk _ ?_))⟩) (fun hc => ?_)
  · have := sel_len (p := fun f => c.2.1.getD f.toNat 0 == x && c.2.2.1.getD f.toNat 0 == y) i.toNat
    unfold room
    rw [nb_eq]
    have h3 : (i :: ([] : List Int)).length = 1 := rfl
    rw [h3]
    omega
  · exact (sel_t h0 hx).symm
  · exact (sel_f h0 hx).symm
  · have e1 : i.toNat = c.2.1.length := by omega
    simp only [c_spec_l02Hom, homR]
    rw [e1]
theorem ct_spec_l02Hom : CtOk Try.prog 127 c_spec_l02Hom :=
  ct_by (Φ := lkp []) good_nil tab_ok (by kernel_rfl) (fn := Try.f127) (c := bodyOf Try.f127) (by kernel_rfl) (by kernel_rfl) (by kernel_rfl) c_spec_l02Hom rfl (.s .n (.s .n (.s (.s .n (.l [(7, (.ref 800007 [])), (8, (.d (.int .i64)))] [(800007, (.sl (.fz (.int .i64))))] [1, 2, 3] (.s .n (.s (.s .n (.j [(7, (.ref 800007 []))] [(800007, (.sl (.fz (.int .i64))))] [1, 2, 3, 8] .n)) .n)))) .n))) (cutL []) (by kernel_rfl) (by kernel_rfl) k_spec_l02Hom (by decide) (fun x K => W_spec_l02Hom x.1 x.2.1 x.2.2.1 K) w_spec_l02Hom (fun x h1 h2 => m_spec_l02Hom x.1 x.2.1 x.2.2.1 h1 h2)
def c_spec_l02Then : Ct := ⟨[CategoryT, (.int .i64), (.int .i64)], [true, false, false], fun x => [0 ≤ x.2.1, x.2.1 < x.1.2.2.2.2.length, 0 ≤ x.2.2.1, x.2.2.1 < (x.1.2.2.2.2.getD x.2.1.toNat []).length], [(false, (.fz (.int .i64)))], fun x => (compR x.1 x.2.1 x.2.2.1, ()), false, none⟩
def W_spec_l02Then (c : CategoryD) (f : Int) (g : Int) (K : Int × Unit → Prop) : Prop := (((0 : Int) ≤ f) ∧ ((f < (((List.length c.2.2.2.2) : Nat) : Int)) ∧ (((0 : Int) ≤ g) ∧ ((g < (((List.length (List.getD c.2.2.2.2 (Int.toNat f) ([] : List Int))) : Nat) : Int)) ∧ (K ((List.getD (List.getD c.2.2.2.2 (Int.toNat f) ([] : List Int)) (Int.toNat g) (0 : Int)), ()))))))
theorem w_spec_l02Then (x : denL c_spec_l02Then.args) (K : Int × Unit → Prop) : evF tab (lkp []) (cutL []) Try.f128 (bodyOf Try.f128) .n c_spec_l02Then x K = W_spec_l02Then x.1 x.2.1 x.2.2.1 K := by kernel_rfl
theorem k_spec_l02Then : okC Try.f128.ntmps (cutL []) (bodyOf Try.f128) = true := by kernel_rfl
theorem m_spec_l02Then (c : CategoryD) (f : Int) (g : Int) (hok : allP (okL c_spec_l02Then.args (c, f, g, ()))) (hpre : allP (c_spec_l02Then.pre (c, f, g, ()))) : W_spec_l02Then c f g (fun r => r = c_spec_l02Then.res (c, f, g, ())) := by
  simp only [c_spec_l02Then, okL, T.oks, T.ok, ap, allP, true_and, and_true, implies_true] at hok hpre
  try dsimp only [T.den] at hok
  try dsimp only [T.den] at hpre
  unfold W_spec_l02Then
  exact ⟨hpre.1, hpre.2.1, hpre.2.2.1, hpre.2.2.2, rfl⟩
theorem ct_spec_l02Then : CtOk Try.prog 128 c_spec_l02Then :=
  ct_by (Φ := lkp []) good_nil tab_ok (by kernel_rfl) (fn := Try.f128) (c := bodyOf Try.f128) (by kernel_rfl) (by kernel_rfl) (by kernel_rfl) c_spec_l02Then rfl .n (cutL []) (by kernel_rfl) (by kernel_rfl) k_spec_l02Then (by decide) (fun x K => W_spec_l02Then x.1 x.2.1 x.2.2.1 K) w_spec_l02Then (fun x h1 h2 => m_spec_l02Then x.1 x.2.1 x.2.2.1 h1 h2)
def c_spec_l34Cocartesian : Ct := ⟨[FunctorT, (.int .i64)], [true, false], fun x => [FunP x.1, 0 ≤ x.2.1, x.2.1 < x.1.1.2.1.length], [(false, (.fz .bool))], fun x => (cocR x.1 x.2.1, ()), false, none⟩
def W_spec_l34Cocartesian (f : FunctorD) (u : Int) (K : Bool × Unit → Prop) : Prop := (loopW (S := ((Int × Unit) × Unit)) (fun s => (fun next => ((inK IntKind.i64 s.1.1) → (cnd (decide (s.1.1 < (((List.length f.1.2.1) : Nat) : Int))) (joinW (S := (Unit × Unit)) (fun s1 => ((inK IntKind.i64 (s.1.1 + (1 : Int))) ∧ (next (((s.1.1 + (1 : Int)), ()), ())))) (fun k => (((0 : Int) ≤ s.1.1) ∧ ((s.1.1 < (((List.length f.1.2.1) : Nat) : Int)) ∧ (((0 : Int) ≤ u) ∧ ((u < (((List.length f.1.2.1) : Nat) : Int)) ∧ (cnd ((List.getD f.1.2.1 (Int.toNat s.1.1) (0 : Int)) != (List.getD f.1.2.1 (Int.toNat u) (0 : Int))) (k ((), ())) (((0 : Int) ≤ u) ∧ ((u < (((List.length f.1.2.2.1) : Nat) : Int)) ∧ (((0 : Int) ≤ (List.getD f.1.2.2.1 (Int.toNat u) (0 : Int))) ∧ (((List.getD f.1.2.2.1 (Int.toNat u) (0 : Int)) < (((List.length f.2.2.1) : Nat) : Int)) ∧ (((0 : Int) ≤ s.1.1) ∧ ((s.1.1 < (((List.length f.1.2.2.1) : Nat) : Int)) ∧ (((0 : Int) ≤ (List.getD f.1.2.2.1 (Int.toNat s.1.1) (0 : Int))) ∧ (((List.getD f.1.2.2.1 (Int.toNat s.1.1) (0 : Int)) < (((List.length f.2.2.1) : Nat) : Int)) ∧ (((List.length f.2.1.2.1) ≤ 40) ∧ (((List.length f.2.1.2.2.1) = (List.length f.2.1.2.1)) ∧ (((0 : Int) ≤ u) ∧ ((u < (((List.length f.1.2.2.1) : Nat) : Int)) ∧ (((0 : Int) ≤ s.1.1) ∧ ((s.1.1 < (((List.length f.1.2.2.1) : Nat) : Int)) ∧ (((List.length f.1.2.1) ≤ 40) ∧ (((List.length f.1.2.2.1) = (List.length f.1.2.1)) ∧ (loopW (S := ((Int × Unit) × Unit)) (fun s1 => (fun next1 => ((inK IntKind.i64 s1.1.1) → (cnd (decide (s1.1.1 < (((List.length (homR f.2.1 (List.getD f.2.2.1 (Int.toNat (List.getD f.1.2.2.1 (Int.toNat u) (0 : Int))) (0 : Int)) (List.getD f.2.2.1 (Int.toNat (List.getD f.1.2.2.1 (Int.toNat s.1.1) (0 : Int))) (0 : Int)))) : Nat) : Int))) (joinW (S := (Unit × Unit)) (fun s2 => ((inK IntKind.i64 (s1.1.1 + (1 : Int))) ∧ (next1 (((s1.1.1 + (1 : Int)), ()), ())))) (fun k1 => (((0 : Int) ≤ u) ∧ ((u < (((List.length f.2.2.2) : Nat) : Int)) ∧ (((0 : Int) ≤ s1.1.1) ∧ ((s1.1.1 < (((List.length (homR f.2.1 (List.getD f.2.2.1 (Int.toNat (List.getD f.1.2.2.1 (Int.toNat u) (0 : Int))) (0 : Int)) (List.getD f.2.2.1 (Int.toNat (List.getD f.1.2.2.1 (Int.toNat s.1.1) (0 : Int))) (0 : Int)))) : Nat) : Int)) ∧ (((0 : Int) ≤ (List.getD f.2.2.2 (Int.toNat u) (0 : Int))) ∧ (((List.getD f.2.2.2 (Int.toNat u) (0 : Int)) < (((List.length f.2.1.2.2.2.2) : Nat) : Int)) ∧ (((0 : Int) ≤ (List.getD (homR f.2.1 (List.getD f.2.2.1 (Int.toNat (List.getD f.1.2.2.1 (Int.toNat u) (0 : Int))) (0 : Int)) (List.getD f.2.2.1 (Int.toNat (List.getD f.1.2.2.1 (Int.toNat s.1.1) (0 : Int))) (0 : Int))) (Int.toNat s1.1.1) (0 : Int))) ∧ (((List.getD (homR f.2.1 (List.getD f.2.2.1 (Int.toNat (List.getD f.1.2.2.1 (Int.toNat u) (0 : Int))) (0 : Int)) (List.getD f.2.2.1 (Int.toNat (List.getD f.1.2.2.1 (Int.toNat s.1.1) (0 : Int))) (0 : Int))) (Int.toNat s1.1.1) (0 : Int)) < (((List.length (List.getD f.2.1.2.2.2.2 (Int.toNat (List.getD f.2.2.2 (Int.toNat u) (0 : Int))) ([] : List Int))) : Nat) : Int)) ∧ (((0 : Int) ≤ s.1.1) ∧ ((s.1.1 < (((List.length f.2.2.2) : Nat) : Int)) ∧ (cnd ((compR f.2.1 (List.getD f.2.2.2 (Int.toNat u) (0 : Int)) (List.getD (homR f.2.1 (List.getD f.2.2.1 (Int.toNat (List.getD f.1.2.2.1 (Int.toNat u) (0 : Int))) (0 : Int)) (List.getD f.2.2.1 (Int.toNat (List.getD f.1.2.2.1 (Int.toNat s.1.1) (0 : Int))) (0 : Int))) (Int.toNat s1.1.1) (0 : Int))) != (List.getD f.2.2.2 (Int.toNat s.1.1) (0 : Int))) (k1 ((), ())) (loopW (S := ((Int × (Int × Unit)) × Unit)) (fun s2 => (fun next2 => ((inK IntKind.i64 s2.1.1) → ((inK IntKind.i64 s2.1.2.1) → (cnd (decide (s2.1.2.1 < (((List.length (homR f.1 (List.getD f.1.2.2.1 (Int.toNat u) (0 : Int)) (List.getD f.1.2.2.1 (Int.toNat s.1.1) (0 : Int)))) : Nat) : Int))) (((0 : Int) ≤ s2.1.2.1) ∧ ((s2.1.2.1 < (((List.length (homR f.1 (List.getD f.1.2.2.1 (Int.toNat u) (0 : Int)) (List.getD f.1.2.2.1 (Int.toNat s.1.1) (0 : Int)))) : Nat) : Int)) ∧ (((0 : Int) ≤ (List.getD (homR f.1 (List.getD f.1.2.2.1 (Int.toNat u) (0 : Int)) (List.getD f.1.2.2.1 (Int.toNat s.1.1) (0 : Int))) (Int.toNat s2.1.2.1) (0 : Int))) ∧ (((List.getD (homR f.1 (List.getD f.1.2.2.1 (Int.toNat u) (0 : Int)) (List.getD f.1.2.2.1 (Int.toNat s.1.1) (0 : Int))) (Int.toNat s2.1.2.1) (0 : Int)) < (((List.length f.2.2.2) : Nat) : Int)) ∧ (((0 : Int) ≤ s1.1.1) ∧ ((s1.1.1 < (((List.length (homR f.2.1 (List.getD f.2.2.1 (Int.toNat (List.getD f.1.2.2.1 (Int.toNat u) (0 : Int))) (0 : Int)) (List.getD f.2.2.1 (Int.toNat (List.getD f.1.2.2.1 (Int.toNat s.1.1) (0 : Int))) (0 : Int)))) : Nat) : Int)) ∧ (((((List.getD f.2.2.2 (Int.toNat (List.getD (homR f.1 (List.getD f.1.2.2.1 (Int.toNat u) (0 : Int)) (List.getD f.1.2.2.1 (Int.toNat s.1.1) (0 : Int))) (Int.toNat s2.1.2.1) (0 : Int))) (0 : Int)) == (List.getD (homR f.2.1 (List.getD f.2.2.1 (Int.toNat (List.getD f.1.2.2.1 (Int.toNat u) (0 : Int))) (0 : Int)) (List.getD f.2.2.1 (Int.toNat (List.getD f.1.2.2.1 (Int.toNat s.1.1) (0 : Int))) (0 : Int))) (Int.toNat s1.1.1) (0 : Int))) = Bool.true) → ((s2.1.2.1 < (((List.length (homR f.1 (List.getD f.1.2.2.1 (Int.toNat u) (0 : Int)) (List.getD f.1.2.2.1 (Int.toNat s.1.1) (0 : Int)))) : Nat) : Int)) ∧ ((0 : Int) ≤ s2.1.2.1))) ∧ (((((List.getD f.2.2.2 (Int.toNat (List.getD (homR f.1 (List.getD f.1.2.2.1 (Int.toNat u) (0 : Int)) (List.getD f.1.2.2.1 (Int.toNat s.1.1) (0 : Int))) (Int.toNat s2.1.2.1) (0 : Int))) (0 : Int)) == (List.getD (homR f.2.1 (List.getD f.2.2.1 (Int.toNat (List.getD f.1.2.2.1 (Int.toNat u) (0 : Int))) (0 : Int)) (List.getD f.2.2.1 (Int.toNat (List.getD f.1.2.2.1 (Int.toNat s.1.1) (0 : Int))) (0 : Int))) (Int.toNat s1.1.1) (0 : Int))) = Bool.true) → ((u < (((List.length f.1.2.2.2.2) : Nat) : Int)) ∧ (((0 : Int) ≤ (List.getD (homR f.1 (List.getD f.1.2.2.1 (Int.toNat u) (0 : Int)) (List.getD f.1.2.2.1 (Int.toNat s.1.1) (0 : Int))) (Int.toNat s2.1.2.1) (0 : Int))) ∧ (((List.getD (homR f.1 (List.getD f.1.2.2.1 (Int.toNat u) (0 : Int)) (List.getD f.1.2.2.1 (Int.toNat s.1.1) (0 : Int))) (Int.toNat s2.1.2.1) (0 : Int)) < (((List.length (List.getD f.1.2.2.2.2 (Int.toNat u) ([] : List Int))) : Nat) : Int)) ∧ ((0 : Int) ≤ u))))) ∧ (joinW (S := ((Int × Unit) × Unit)) (fun s3 => ((inK IntKind.i64 s3.1.1) → ((inK IntKind.i64 (s2.1.2.1 + (1 : Int))) ∧ (next2 ((s3.1.1, ((s2.1.2.1 + (1 : Int)), ())), ()))))) (fun k2 => (cnd (((List.getD f.2.2.2 (Int.toNat (List.getD (homR f.1 (List.getD f.1.2.2.1 (Int.toNat u) (0 : Int)) (List.getD f.1.2.2.1 (Int.toNat s.1.1) (0 : Int))) (Int.toNat s2.1.2.1) (0 : Int))) (0 : Int)) == (List.getD (homR f.2.1 (List.getD f.2.2.1 (Int.toNat (List.getD f.1.2.2.1 (Int.toNat u) (0 : Int))) (0 : Int)) (List.getD f.2.2.1 (Int.toNat (List.getD f.1.2.2.1 (Int.toNat s.1.1) (0 : Int))) (0 : Int))) (Int.toNat s1.1.1) (0 : Int))) && ((compR f.1 u (List.getD (homR f.1 (List.getD f.1.2.2.1 (Int.toNat u) (0 : Int)) (List.getD f.1.2.2.1 (Int.toNat s.1.1) (0 : Int))) (Int.toNat s2.1.2.1) (0 : Int))) == s.1.1)) ((inK IntKind.i64 (s2.1.1 + (1 : Int))) ∧ (k2 (((s2.1.1 + (1 : Int)), ()), ()))) (k2 ((s2.1.1, ()), ()))))))))))))) (cnd (s2.1.1 != (1 : Int)) (K (Bool.false, ())) (k1 ((), ())))))))) (((0 : Int), ((0 : Int), ())), ()))))))))))))))) (k ((), ())))))) (((0 : Int), ()), ()))))))))))))))))))))))))) (K (Bool.true, ())))))) (((0 : Int), ()), ()))
theorem w_spec_l34Cocartesian (x : denL c_spec_l34Cocartesian.args) (K : Bool × Unit → Prop) : evF tab (lkp [(127, c_spec_l02Hom), (128, c_spec_l02Then)]) (cutL [(1, 999999), (5, 11), (6, 34), (10, 17), (15, 24)]) Try.f92 (bodyOf Try.f92) (.s .n (.s .n (.s (.s .n (.l [(7, (.d (.int .i64)))] [] [1, 2, 5, 6] (.s .n (.s (.j [] [] [1, 2, 5, 6, 7] (.s .n (.s .n (.s .n (.l [(10, (.d (.int .i64)))] [] [1, 2, 5, 6, 7, 8, 9] (.s .n (.s (.j [] [] [1, 2, 5, 6, 7, 8, 9, 10] (.s .n (.s .n (.s (.s .n (.l [(11, (.d (.int .i64))), (12, (.d (.int .i64)))] [] [1, 2, 5, 6, 7, 8, 9, 10] (.s .n (.s (.s .n (.j [(11, (.d (.int .i64)))] [] [1, 2, 5, 6, 7, 8, 9, 10, 12] .n)) .n)))) .n)))) .n))))))) .n)))) .n))) c_spec_l34Cocartesian x K = W_spec_l34Cocartesian x.1 x.2.1 K := by kernel_rfl
theorem k_spec_l34Cocartesian : okC Try.f92.ntmps (cutL [(1, 999999), (5, 11), (6, 34), (10, 17), (15, 24)]) (bodyOf Try.f92) = true := by kernel_rfl
theorem m_spec_l34Cocartesian (f : FunctorD) (u : Int) (hok : allP (okL c_spec_l34Cocartesian.args (f, u, ()))) (hpre : allP (c_spec_l34Cocartesian.pre (f, u, ()))) : W_spec_l34Cocartesian f u (fun r => r = c_spec_l34Cocartesian.res (f, u, ())) := by
  simp only [c_spec_l34Cocartesian, okL, T.oks, T.ok, ap, allP, true_and, and_true, implies_true] at hok hpre
  try dsimp only [T.den] at hok
  try dsimp only [T.den] at hpre
  unfold W_spec_l34Cocartesian
  obtain ⟨S, u0, u1⟩ := hpre
  have hla := S.fit.la
  have hlo := S.fit.lo
  have hlt := S.src.lt
  have hlc := S.src.lc
  have hm := S.src.m
  have tm := S.tgt.m
  have tt := S.tgt.lt
  have tl := S.tgt.lc
  have hb := fun_ar S u0 u1
  have hu := fun_to S u0 u1
  have hrow := S.tgt.row _ hb.1 hb.2
  have hrou := S.src.row _ u0 u1
  refine loop_ix (n := f.1.2.1.length) (fun i => ∀ w : Int, 0 ≤ w → w < i → f.1.2.1.getD w.toNat 0 = f.1.2.1.getD u.toNat 0 → ∀ a ∈ homR f.2.1 (f.2.2.1.getD (f.1.2.2.1.getD u.toNat 0).toNat 0) (f.2.2.1.getD (f.1.2.2.1.getD w.toNat 0).toNat 0), compR f.2.1 (f.2.2.2.getD u.toNat 0) a = f.2.2.2.getD w.toNat 0 → cntR f u w a = 1) (by omega) (by intro k h0 h1; omega) ?_ ?_
  · intro w next w0 w1 hP hn hin
    refine cnd_d (fun _ => ?_) (fun h => absurd w1 h)
    try dsimp only at hin ⊢
    have ht := fun_to S w0 w1
    have hhom := hom_len S.tgt (f.2.2.1.getD (f.1.2.2.1.getD u.toNat 0).toNat 0) (f.2.2.1.getD (f.1.2.2.1.getD w.toNat 0).toNat 0)
    have hma := fun i : Int => @hom_at f.2.1 (f.2.2.1.getD (f.1.2.2.1.getD u.toNat 0).toNat 0) (f.2.2.1.getD (f.1.2.2.1.getD w.toNat 0).toNat 0) i
    have hno := fun a => @coc_no f u w a w0 w1
    have hnext : (f.1.2.1.getD w.toNat 0 = f.1.2.1.getD u.toNat 0 → ∀ a ∈ homR f.2.1 (f.2.2.1.getD (f.1.2.2.1.getD u.toNat 0).toNat 0) (f.2.2.1.getD (f.1.2.2.1.getD w.toNat 0).toNat 0), compR f.2.1 (f.2.2.2.getD u.toNat 0) a = f.2.2.2.getD w.toNat 0 → cntR f u w a = 1) → next ((w + 1, ()), ()) := by
      intro h
      refine hn fun k k0 k1 => ?_
      by_cases e : k = w
      · subst e; exact h
      · exact hP k k0 (by omega)
    clear hn hP
    refine join_of (fun _ => f.1.2.1.getD w.toNat 0 = f.1.2.1.getD u.toNat 0 → ∀ a ∈ homR f.2.1 (f.2.2.1.getD (f.1.2.2.1.getD u.toNat 0).toNat 0) (f.2.2.1.getD (f.1.2.2.1.getD w.toNat 0).toNat 0), compR f.2.1 (f.2.2.2.getD u.toNat 0) a = f.2.2.2.getD w.toNat 0 → cntR f u w a = 1) (fun s hs => ⟨by rw [inK64]; (try dsimp only); omega, hnext hs⟩) (fun k0 hk0 => ⟨w0, w1, u0, u1, cnd_of (fun hc => hk0 _ ?_) (fun hc => ?_)⟩)
    · intro h; rw [h] at hc; simp at hc
    have hc : f.1.2.1.getD w.toNat 0 = f.1.2.1.getD u.toNat 0 := bne_eq_false_iff_eq.1 hc
    have hno := fun a => hno a hc
    refine ⟨u0, by omega, hu.1, by omega, w0, by omega, ht.1, by omega, by omega, by omega, u0, by omega, w0, by omega, by omega, by omega, ?_⟩
    generalize homR f.2.1 (f.2.2.1.getD (f.1.2.2.1.getD u.toNat 0).toNat 0) (f.2.2.1.getD (f.1.2.2.1.getD w.toNat 0).toNat 0) = hom at *
    refine loop_ix (n := hom.length) (fun j => ∀ k : Int, 0 ≤ k → k < j → compR f.2.1 (f.2.2.2.getD u.toNat 0) (hom.getD k.toNat 0) = f.2.2.2.getD w.toNat 0 → cntR f u w (hom.getD k.toNat 0) = 1) (by omega) (by intro k h0 h1; omega) ?_ ?_
    · intro j next1 j0 j1 hP1 hn1 hin1
      refine cnd_d (fun _ => ?_) (fun h => absurd j1 h)
      try dsimp only at hin1 ⊢
      have ha := getD_mem hom 0 j0 j1
      have hno := hno _ ha
      have hat := hma j j0 j1
      have hn2 : (compR f.2.1 (f.2.2.2.getD u.toNat 0) (hom.getD j.toNat 0) = f.2.2.2.getD w.toNat 0 → cntR f u w (hom.getD j.toNat 0) = 1) → next1 ((j + 1, ()), ()) := by
        intro h
        refine hn1 fun k k0 k1 => ?_
        by_cases e : k = j
        · subst e; exact h
        · exact hP1 k k0 (by omega)
      clear hn1 hP1
      generalize hom.getD j.toNat 0 = a at *
      refine join_of (fun _ => compR f.2.1 (f.2.2.2.getD u.toNat 0) a = f.2.2.2.getD w.toNat 0 → cntR f u w a = 1) (fun s hs => ⟨by rw [inK64]; (try dsimp only); omega, hn2 hs⟩) (fun k hk => ⟨u0, by omega, j0, j1, hb.1, by omega, hat.1, by omega, w0, by omega, cnd_of (fun hc => hk _ ?_) (fun hc => ?_)⟩)
      · intro h; rw [h] at hc; simp at hc
      have hc : compR f.2.1 (f.2.2.2.getD u.toNat 0) a = f.2.2.2.getD w.toNat 0 := bne_eq_false_iff_eq.1 hc
      have hno := hno hc
      have hc0 := cntR_eq f u w a
      have hel := hom_len S.src (f.1.2.2.1.getD u.toNat 0) (f.1.2.2.1.getD w.toNat 0)
      have hem : ∀ k : Int, 0 ≤ k → k < (homR f.1 (f.1.2.2.1.getD u.toNat 0) (f.1.2.2.1.getD w.toNat 0)).length → 0 ≤ (homR f.1 (f.1.2.2.1.getD u.toNat 0) (f.1.2.2.1.getD w.toNat 0)).getD k.toNat 0 ∧ (homR f.1 (f.1.2.2.1.getD u.toNat 0) (f.1.2.2.1.getD w.toNat 0)).getD k.toNat 0 < f.1.2.1.length := fun k k0 k1 => by
        have := @hom_at f.1 (f.1.2.2.1.getD u.toNat 0) (f.1.2.2.1.getD w.toNat 0) k k0 k1
        exact ⟨this.1, this.2.1⟩
      generalize homR f.1 (f.1.2.2.1.getD u.toNat 0) (f.1.2.2.1.getD w.toNat 0) = ext at *
      refine loop_ixc (fun k => ((filT (fun v => f.2.2.2.getD v.toNat 0 == a && compR f.1 u v == w) ext k).length : Int)) (n := ext.length) (by omega) rfl ?_ ?_
      · intro k next2 k0 k1 hn3 hk1 hk2
        refine cnd_d (fun _ => ?_) (fun h => absurd k1 h)
        try dsimp only at hn3 hk1 hk2 ⊢
        have hv := hem k k0 k1
        have hfl := @fil_len (fun v => f.2.2.2.getD v.toNat 0 == a && compR f.1 u v == w) ext k
        refine ⟨k0, k1, hv.1, by omega, j0, j1, fun _ => ⟨k1, k0⟩, fun _ => ⟨by omega, hv.1, by omega, u0⟩, join_of (fun s => s.1.1 = ((filT (fun v => f.2.2.2.getD v.toNat 0 == a && compR f.1 u v == w) ext (k + 1)).length : Int)) (fun s hs _ => ⟨by rw [inK64]; (try dsimp only); omega, by rw [← hs] at hn3; exact hn3⟩) (fun k2 hk2 => cnd_of (fun hx => ⟨by rw [inK64]; (try dsimp only); omega, hk2 _ ?_⟩) (fun hx => hk2 _ ?_))⟩
        · rw [fil_t k0 k1 hx, List.length_append]; rfl
        · rw [fil_f k0 k1 hx]
      · intro next2 _ _
        refine cnd_d (fun h => absurd h (Int.lt_irrefl _)) (fun _ => ?_)
        try dsimp only
        rw [fil_n (by omega), ← hc0]
        refine cnd_of (fun hx => ?_) (fun hx => hk _ fun _ => ?_)
        · simp only [c_spec_l34Cocartesian]
          rw [hno (by intro e; rw [e] at hx; simp at hx)]
        · have := eq_of_beq (Bool.not_eq_false' .. ▸ hx : ((cntR f u w a : Int) == 1) = true); omega
    · intro next1 hP1 _
      refine cnd_d (fun h => absurd h (Int.lt_irrefl _)) (fun _ => ?_)
      exact hk0 _ fun _ => (all_ix (d := (0 : Int))).2 hP1
  · intro next hP _
    refine cnd_d (fun h => absurd h (Int.lt_irrefl _)) (fun _ => ?_)
    simp only [c_spec_l34Cocartesian]
    rw [coc_iff.2 hP]
theorem ct_spec_l34Cocartesian : CtOk Try.prog 92 c_spec_l34Cocartesian :=
  ct_by (Φ := lkp [(127, c_spec_l02Hom), (128, c_spec_l02Then)]) (good_cons ct_spec_l02Hom (good_cons ct_spec_l02Then good_nil)) tab_ok (by kernel_rfl) (fn := Try.f92) (c := bodyOf Try.f92) (by kernel_rfl) (by kernel_rfl) (by kernel_rfl) c_spec_l34Cocartesian rfl (.s .n (.s .n (.s (.s .n (.l [(7, (.d (.int .i64)))] [] [1, 2, 5, 6] (.s .n (.s (.j [] [] [1, 2, 5, 6, 7] (.s .n (.s .n (.s .n (.l [(10, (.d (.int .i64)))] [] [1, 2, 5, 6, 7, 8, 9] (.s .n (.s (.j [] [] [1, 2, 5, 6, 7, 8, 9, 10] (.s .n (.s .n (.s (.s .n (.l [(11, (.d (.int .i64))), (12, (.d (.int .i64)))] [] [1, 2, 5, 6, 7, 8, 9, 10] (.s .n (.s (.s .n (.j [(11, (.d (.int .i64)))] [] [1, 2, 5, 6, 7, 8, 9, 10, 12] .n)) .n)))) .n)))) .n))))))) .n)))) .n))) (cutL [(1, 999999), (5, 11), (6, 34), (10, 17), (15, 24)]) (by kernel_rfl) (by kernel_rfl) k_spec_l34Cocartesian (by decide) (fun x K => W_spec_l34Cocartesian x.1 x.2.1 K) w_spec_l34Cocartesian (fun x h1 h2 => m_spec_l34Cocartesian x.1 x.2.1 h1 h2)
def c_spec_l34Lifts : Ct := ⟨[FunctorT, (.int .i64), (.int .i64)], [true, false, false], fun x => [FunP x.1], [(false, (.sl (.fz (.int .i64))))], fun x => (liftsR x.1 x.2.1 x.2.2.1, ()), false, none⟩
def W_spec_l34Lifts (f : FunctorD) (e : Int) (b : Int) (K : (List Int) × Unit → Prop) : Prop := (loopW (S := ((Unit × (Int × Unit)) × ((List Int) × Unit))) (fun s => (fun next => ((inK IntKind.i64 s.1.2.1) → ((T.ok (T.sl (T.int IntKind.i64)) s.2.1) → (cnd (decide (s.1.2.1 < (((List.length f.2.2.2) : Nat) : Int))) (((0 : Int) ≤ s.1.2.1) ∧ ((s.1.2.1 < (((List.length f.1.2.1) : Nat) : Int)) ∧ (((((List.getD f.1.2.1 (Int.toNat s.1.2.1) (0 : Int)) == e) = Bool.true) → ((s.1.2.1 < (((List.length f.2.2.2) : Nat) : Int)) ∧ ((0 : Int) ≤ s.1.2.1))) ∧ (joinW (S := ((Unit × Unit) × ((List Int) × Unit))) (fun s1 => ((T.ok (T.sl (T.int IntKind.i64)) s1.2.1) → ((inK IntKind.i64 (s.1.2.1 + (1 : Int))) ∧ (next (((), ((s.1.2.1 + (1 : Int)), ())), (s1.2.1, ())))))) (fun k => (cnd (((List.getD f.1.2.1 (Int.toNat s.1.2.1) (0 : Int)) == e) && ((List.getD f.2.2.2 (Int.toNat s.1.2.1) (0 : Int)) == b)) ((room (List.length s.2.1) (List.length (s.1.2.1 :: ([] : List Int))) 8) ∧ (k (((), ()), ((s.2.1 ++ (s.1.2.1 :: ([] : List Int))), ())))) (k (((), ()), (s.2.1, ()))))))))) (K (s.2.1, ()))))))) (((), ((0 : Int), ())), (([] : List Int), ())))
theorem w_spec_l34Lifts (x : denL c_spec_l34Lifts.args) (K : (List Int) × Unit → Prop) : evF tab (lkp []) (cutL []) Try.f91 (bodyOf Try.f91) (.s .n (.s .n (.s (.s .n (.l [(7, (.ref 9 [])), (8, (.d (.int .i64)))] [(9, (.sl (.fz (.int .i64))))] [1, 2, 3] (.s .n (.s (.s .n (.j [(7, (.ref 9 []))] [(9, (.sl (.fz (.int .i64))))] [1, 2, 3, 8] .n)) .n)))) .n))) c_spec_l34Lifts x K = W_spec_l34Lifts x.1 x.2.1 x.2.2.1 K := by kernel_rfl
theorem k_spec_l34Lifts : okC Try.f91.ntmps (cutL []) (bodyOf Try.f91) = true := by kernel_rfl
theorem m_spec_l34Lifts (f : FunctorD) (e : Int) (b : Int) (hok : allP (okL c_spec_l34Lifts.args (f, e, b, ()))) (hpre : allP (c_spec_l34Lifts.pre (f, e, b, ()))) : W_spec_l34Lifts f e b (fun r => r = c_spec_l34Lifts.res (f, e, b, ())) := by
  simp only [c_spec_l34Lifts, okL, T.oks, T.ok, ap, allP, true_and, and_true, implies_true] at hok hpre
  try dsimp only [T.den] at hok
  try dsimp only [T.den] at hpre
  unfold W_spec_l34Lifts
  have S : FunP f := hpre
  have hla := S.fit.la
  have hmm := S.src.m
  refine loop_of (fun (s : ((Unit × (Int × Unit)) × ((List Int) × Unit))) => 0 ≤ s.1.2.1 ∧ s.1.2.1 ≤ f.2.2.2.length ∧ s.2.1 = selR s.1.2.1.toNat fun u => f.1.2.1.getD u.toNat 0 == e && f.2.2.2.getD u.toNat 0 == b) (fun (s : ((Unit × (Int × Unit)) × ((List Int) × Unit))) => (f.2.2.2.length - s.1.2.1).toNat) ?_ ⟨by simp, by simp, rfl⟩
  rintro ⟨⟨_, i, _⟩, l, _⟩ next ⟨h0, h1, h2⟩ hn hin hl
  try dsimp only at h0 h1 h2 hn ⊢
  subst h2
  refine cnd_d (fun hc => ⟨h0, by omega, fun _ => ⟨hc, h0⟩, join_of (fun s1 => s1.2.1 = selR (i + 1).toNat fun u => f.1.2.1.getD u.toNat 0 == e && f.2.2.2.getD u.toNat 0 == b) (fun s1 hs _ => ⟨by rw [inK64]; (try dsimp only); omega, hn _ ⟨(by first | omega | (dsimp only; omega)), (by first | omega | (dsimp only; omega)), hs⟩ (by first | omega | (dsimp only; omega))⟩) (fun k hk => cnd_of (fun hx => ⟨?_, hk _ ?_⟩) (fun hx => hk _ ?_))⟩) (fun hc => ?_)
  · have := sel_len (p := fun u => f.1.2.1.getD u.toNat 0 == e && f.2.2.2.getD u.toNat 0 == b) i.toNat
    unfold room
    rw [nb_eq]
    have h3 : (i :: ([] : List Int)).length = 1 := rfl
    rw [h3]
    omega
  · exact (sel_t h0 hx).symm
  · exact (sel_f h0 hx).symm
  · have e1 : i.toNat = f.1.2.1.length := by omega
    simp only [c_spec_l34Lifts, liftsR]
    rw [e1]
theorem ct_spec_l34Lifts : CtOk Try.prog 91 c_spec_l34Lifts :=
  ct_by (Φ := lkp []) good_nil tab_ok (by kernel_rfl) (fn := Try.f91) (c := bodyOf Try.f91) (by kernel_rfl) (by kernel_rfl) (by kernel_rfl) c_spec_l34Lifts rfl (.s .n (.s .n (.s (.s .n (.l [(7, (.ref 9 [])), (8, (.d (.int .i64)))] [(9, (.sl (.fz (.int .i64))))] [1, 2, 3] (.s .n (.s (.s .n (.j [(7, (.ref 9 []))] [(9, (.sl (.fz (.int .i64))))] [1, 2, 3, 8] .n)) .n)))) .n))) (cutL []) (by kernel_rfl) (by kernel_rfl) k_spec_l34Lifts (by decide) (fun x K => W_spec_l34Lifts x.1 x.2.1 x.2.2.1 K) w_spec_l34Lifts (fun x h1 h2 => m_spec_l34Lifts x.1 x.2.1 x.2.2.1 h1 h2)
def c_spec_l34Lift : Ct := ⟨[FunctorT, (.int .i64), (.int .i64)], [true, false, false], fun x => [FunP x.1], [(false, (.fz (.int .i64)))], fun x => (cliftR x.1 x.2.1 x.2.2.1, ()), false, none⟩
def W_spec_l34Lift (f : FunctorD) (e : Int) (b : Int) (K : Int × Unit → Prop) : Prop := ((FunP f) ∧ (loopW (S := ((Int × Unit) × Unit)) (fun s => (fun next => ((inK IntKind.i64 s.1.1) → (cnd (decide (s.1.1 < (((List.length (liftsR f e b)) : Nat) : Int))) (((0 : Int) ≤ s.1.1) ∧ ((s.1.1 < (((List.length (liftsR f e b)) : Nat) : Int)) ∧ ((FunP f) ∧ (((0 : Int) ≤ (List.getD (liftsR f e b) (Int.toNat s.1.1) (0 : Int))) ∧ (((List.getD (liftsR f e b) (Int.toNat s.1.1) (0 : Int)) < (((List.length f.1.2.1) : Nat) : Int)) ∧ (cnd (cocR f (List.getD (liftsR f e b) (Int.toNat s.1.1) (0 : Int))) (((0 : Int) ≤ s.1.1) ∧ ((s.1.1 < (((List.length (liftsR f e b)) : Nat) : Int)) ∧ (K ((List.getD (liftsR f e b) (Int.toNat s.1.1) (0 : Int)), ())))) ((inK IntKind.i64 (s.1.1 + (1 : Int))) ∧ (next (((s.1.1 + (1 : Int)), ()), ()))))))))) (K ((-(1 : Int)), ())))))) (((0 : Int), ()), ())))
theorem w_spec_l34Lift (x : denL c_spec_l34Lift.args) (K : Int × Unit → Prop) : evF tab (lkp [(92, c_spec_l34Cocartesian), (91, c_spec_l34Lifts)]) (cutL [(5, 6)]) Try.f51 (bodyOf Try.f51) (.s .n (.s .n (.s (.s .n (.l [(8, (.d (.int .i64)))] [] [3, 7] .n)) .n))) c_spec_l34Lift x K = W_spec_l34Lift x.1 x.2.1 x.2.2.1 K := by kernel_rfl
theorem k_spec_l34Lift : okC Try.f51.ntmps (cutL [(5, 6)]) (bodyOf Try.f51) = true := by kernel_rfl
theorem m_spec_l34Lift (f : FunctorD) (e : Int) (b : Int) (hok : allP (okL c_spec_l34Lift.args (f, e, b, ()))) (hpre : allP (c_spec_l34Lift.pre (f, e, b, ()))) : W_spec_l34Lift f e b (fun r => r = c_spec_l34Lift.res (f, e, b, ())) := by
  simp only [c_spec_l34Lift, okL, T.oks, T.ok, ap, allP, true_and, and_true, implies_true] at hok hpre
  try dsimp only [T.den] at hok
  try dsimp only [T.den] at hpre
  unfold W_spec_l34Lift
  have S : FunP f := hpre
  have hl := lifts_len S e b
  have hat := fun i : Int => @lifts_at f e b i
  have hv : cliftR f e b = ((liftsR f e b).find? (cocR f)).getD (-1) := rfl
  refine ⟨S, ?_⟩
  generalize liftsR f e b = l at *
  refine loop_ix (n := l.length) (fun i => fstT (cocR f) l i = none) (by omega) fst_0 ?_ ?_
  · intro i next h0 h1 hP hn hin
    refine cnd_d (fun _ => ?_) (fun h => absurd h1 h)
    try dsimp only
    have ha := hat i h0 h1
    refine ⟨h0, h1, S, ha.1, ha.2, cnd_of (fun hx => ?_) (fun hx => ⟨by rw [inK64]; (try dsimp only); omega, hn (fst_f h0 h1 hP hx)⟩)⟩
    simp only [c_spec_l34Lift]
    rw [hv, fst_t h0 h1 hP hx]
    exact ⟨h0, h1, rfl⟩
  · intro next hP _
    refine cnd_d (fun h => absurd h (Int.lt_irrefl _)) (fun _ => ?_)
    simp only [c_spec_l34Lift]
    rw [hv, fst_n hP]
    rfl
theorem ct_spec_l34Lift : CtOk Try.prog 51 c_spec_l34Lift :=
  ct_by (Φ := lkp [(92, c_spec_l34Cocartesian), (91, c_spec_l34Lifts)]) (good_cons ct_spec_l34Cocartesian (good_cons ct_spec_l34Lifts good_nil)) tab_ok (by kernel_rfl) (fn := Try.f51) (c := bodyOf Try.f51) (by kernel_rfl) (by kernel_rfl) (by kernel_rfl) c_spec_l34Lift rfl (.s .n (.s .n (.s (.s .n (.l [(8, (.d (.int .i64)))] [] [3, 7] .n)) .n))) (cutL [(5, 6)]) (by kernel_rfl) (by kernel_rfl) k_spec_l34Lift (by decide) (fun x K => W_spec_l34Lift x.1 x.2.1 x.2.2.1 K) w_spec_l34Lift (fun x h1 h2 => m_spec_l34Lift x.1 x.2.1 x.2.2.1 h1 h2)
def c_spec_IsOpfibration : Ct := ⟨[FunctorT], [true], fun x => [], [(false, (.fz .bool)), (false, (.fz (.int .i64)))], fun x => ((funR x.1 && opfR x.1), funCodeR x.1, ()), false, none⟩
def W_spec_IsOpfibration (f : FunctorD) (K : Bool × Int × Unit → Prop) : Prop := (cnd (!(funR f)) (K (Bool.false, ((1 : Int), ()))) (loopW (S := ((Int × Unit) × Unit)) (fun s => (fun next => ((inK IntKind.i64 s.1.1) → (cnd (decide (s.1.1 < f.1.1)) (loopW (S := ((Int × Unit) × Unit)) (fun s1 => (fun next1 => ((inK IntKind.i64 s1.1.1) → (cnd (decide (s1.1.1 < (((List.length f.2.1.2.1) : Nat) : Int))) (((0 : Int) ≤ s1.1.1) ∧ ((s1.1.1 < (((List.length f.2.1.2.1) : Nat) : Int)) ∧ (((0 : Int) ≤ s.1.1) ∧ ((s.1.1 < (((List.length f.2.2.1) : Nat) : Int)) ∧ (((((List.getD f.2.1.2.1 (Int.toNat s1.1.1) (0 : Int)) == (List.getD f.2.2.1 (Int.toNat s.1.1) (0 : Int))) = Bool.true) → (FunP f)) ∧ (cnd (((List.getD f.2.1.2.1 (Int.toNat s1.1.1) (0 : Int)) == (List.getD f.2.2.1 (Int.toNat s.1.1) (0 : Int))) && (decide ((cliftR f s.1.1 s1.1.1) < (0 : Int)))) (K (Bool.false, ((0 : Int), ()))) ((inK IntKind.i64 (s1.1.1 + (1 : Int))) ∧ (next1 (((s1.1.1 + (1 : Int)), ()), ()))))))))) ((inK IntKind.i64 (s.1.1 + (1 : Int))) ∧ (next (((s.1.1 + (1 : Int)), ()), ()))))))) (((0 : Int), ()), ())) (K (Bool.true, ((0 : Int), ()))))))) (((0 : Int), ()), ())))
theorem w_spec_IsOpfibration (x : denL c_spec_IsOpfibration.args) (K : Bool × Int × Unit → Prop) : evF tab (lkp [(50, c_spec_l06Is), (51, c_spec_l34Lift)]) (cutL [(9, 19)]) Try.f12 (bodyOf Try.f12) (.s .n (.s .n (.s (.s .n (.l [(4, (.d (.int .i64)))] [] [1] (.s .n (.s (.s .n (.l [(5, (.d (.int .i64)))] [] [1, 4] .n)) .n)))) .n))) c_spec_IsOpfibration x K = W_spec_IsOpfibration x.1 K := by kernel_rfl
theorem k_spec_IsOpfibration : okC Try.f12.ntmps (cutL [(9, 19)]) (bodyOf Try.f12) = true := by kernel_rfl
theorem m_spec_IsOpfibration (f : FunctorD) (hok : allP (okL c_spec_IsOpfibration.args (f, ()))) (hpre : allP (c_spec_IsOpfibration.pre (f, ()))) : W_spec_IsOpfibration f (fun r => r = c_spec_IsOpfibration.res (f, ())) := by
  simp only [c_spec_IsOpfibration, okL, T.oks, T.ok, ap, allP, true_and, and_true, implies_true] at hok hpre
  try dsimp only [T.den] at hok
  try dsimp only [T.den] at hpre
  unfold W_spec_IsOpfibration
  have h1 := @fun_of f
  refine cnd_of (fun hx => ?_) (fun hx => ?_)
  · simp only [Bool.not_eq_true'] at hx
    simp only [c_spec_IsOpfibration, funCodeR, hx]; rfl
  simp only [Bool.not_eq_false'] at hx
  have hpre := h1 hx
  have S : FunP f := hpre
  have hlo := S.fit.lo
  have hob := S.src.ob
  have hmm := S.tgt.m
  have bad : ¬ (opfR f = true) → (false, 0, ()) = c_spec_IsOpfibration.res (f, ()) := fun h => by
    simp only [c_spec_IsOpfibration, funCodeR, hx]
    cases hs : opfR f with
    | false => rfl
    | true => exact absurd hs h
  refine loop_ix (n := f.1.1) (fun e => ∀ e' : Int, 0 ≤ e' → e' < e → ∀ b : Int, 0 ≤ b → b < f.2.1.2.1.length → f.2.1.2.1.getD b.toNat 0 = f.2.2.1.getD e'.toNat 0 → 0 ≤ cliftR f e' b) (by omega) (by intro y h0 h1; omega) ?_ ?_
  · intro e next e0 e1 hP hn hin
    try dsimp only
    refine cnd_d (fun _ => ?_) (fun h => absurd e1 h)
    refine loop_ix (n := f.2.1.2.1.length) (fun b => ∀ b' : Int, 0 ≤ b' → b' < b → f.2.1.2.1.getD b'.toNat 0 = f.2.2.1.getD e.toNat 0 → 0 ≤ cliftR f e b') (by omega) (by intro y h0 h1; omega) ?_ ?_
    · intro b next2 b0 b1 hP2 hn2 hin2
      try dsimp only
      refine cnd_d (fun _ => ⟨b0, b1, e0, by omega, fun _ => S, cnd_of (fun hx => bad fun h => ?_) (fun hx => ⟨by rw [inK64]; (try dsimp only); omega, hn2 fun b' a0 a1 q => ?_⟩)⟩) (fun h => absurd b1 h)
      · simp only [Bool.and_eq_true, beq_iff_eq, decide_eq_true_eq] at hx
        have := (opf_iff S.src).1 h e e0 e1 b b0 b1 hx.1
        omega
      · by_cases r : b' = b
        · subst r
          simp only [Bool.and_eq_false_iff, beq_eq_false_iff_ne, decide_eq_false_iff_not] at hx
          rcases hx with hx | hx
          · exact absurd q hx
          · omega
        · exact hP2 b' a0 (by omega) q
    · intro next2 hP2 hin2
      refine cnd_d (fun h => absurd h (by dsimp only; omega)) (fun _ => ⟨by rw [inK64]; (try dsimp only); omega, hn fun e' a0 a1 => ?_⟩)
      by_cases q : e' = e
      · rw [q]; exact hP2
      · exact hP e' a0 (by omega)
  · intro next hP hin
    refine cnd_d (fun h => absurd h (by dsimp only; omega)) (fun _ => ?_)
    simp only [c_spec_IsOpfibration, funCodeR, hx]
    rw [(opf_iff S.src).2 hP]; rfl
theorem ct_spec_IsOpfibration : CtOk Try.prog 12 c_spec_IsOpfibration :=
  ct_by (Φ := lkp [(50, c_spec_l06Is), (51, c_spec_l34Lift)]) (good_cons ct_spec_l06Is (good_cons ct_spec_l34Lift good_nil)) tab_ok (by kernel_rfl) (fn := Try.f12) (c := bodyOf Try.f12) (by kernel_rfl) (by kernel_rfl) (by kernel_rfl) c_spec_IsOpfibration rfl (.s .n (.s .n (.s (.s .n (.l [(4, (.d (.int .i64)))] [] [1] (.s .n (.s (.s .n (.l [(5, (.d (.int .i64)))] [] [1, 4] .n)) .n)))) .n))) (cutL [(9, 19)]) (by kernel_rfl) (by kernel_rfl) k_spec_IsOpfibration (by decide) (fun x K => W_spec_IsOpfibration x.1 K) w_spec_IsOpfibration (fun x h1 h2 => m_spec_IsOpfibration x.1 h1 h2)
def c_laws_FnExactIsOpfibration : Ct := ⟨[FunctorT], [true], fun x => [], [(false, (.fz .bool))], fun x => (true, ()), false, none⟩
def W_laws_FnExactIsOpfibration (aF : FunctorD) (K : Bool × Unit → Prop) : Prop := (((-(4611404543450677248 : Int)) ≤ (1048576 : Int)) ∧ (cnd (decide ((szR (wR FunctorT aF) (1048576 : Int)) < (0 : Int))) (K (Bool.true, ())) (((wR FunctorT aF) ≤ 1099511627776) ∧ (((wR FunctorT aF) ≤ 1099511627776) ∧ (cnd ((((funR aF) && (opfR aF)) != ((funR aF) && (opfR aF))) || ((funCodeR aF) != (funCodeR aF))) (K (Bool.false, ())) (((wR FunctorT aF) ≤ 1099511627776) ∧ (cnd (!(eqR FunctorT aF aF)) (K (Bool.false, ())) (K (Bool.true, ())))))))))
theorem w_laws_FnExactIsOpfibration (x : denL c_laws_FnExactIsOpfibration.args) (K : Bool × Unit → Prop) : evF tab (lkp [(14, c_impl_IsOpfibration), (15, c_laws_eqFunctor), (11, c_laws_szFunctor), (13, c_laws_toFunctor), (12, c_spec_IsOpfibration)]) (cutL [(10, 5)]) Try.f3 (bodyOf Try.f3) .n c_laws_FnExactIsOpfibration x K = W_laws_FnExactIsOpfibration x.1 K := by kernel_rfl
theorem k_laws_FnExactIsOpfibration : okC Try.f3.ntmps (cutL [(10, 5)]) (bodyOf Try.f3) = true := by kernel_rfl
theorem m_laws_FnExactIsOpfibration (aF : FunctorD) (hok : allP (okL c_laws_FnExactIsOpfibration.args (aF, ()))) (hpre : allP (c_laws_FnExactIsOpfibration.pre (aF, ()))) : W_laws_FnExactIsOpfibration aF (fun r => r = c_laws_FnExactIsOpfibration.res (aF, ())) := by
  simp only [c_laws_FnExactIsOpfibration, okL, T.oks, T.ok, ap, allP, true_and, and_true, implies_true] at hok hpre
  try dsimp only [T.den] at hok
  try dsimp only [T.den] at hpre
  unfold W_laws_FnExactIsOpfibration
  generalize wR FunctorT aF = n1
  simp only [eqR_self]
  clear hok
  grind [cnd, nb_eq, inK64, szR, c_laws_FnExactIsOpfibration]
theorem ct_laws_FnExactIsOpfibration : CtOk Try.prog 3 c_laws_FnExactIsOpfibration :=
  ct_by (Φ := lkp [(14, c_impl_IsOpfibration), (15, c_laws_eqFunctor), (11, c_laws_szFunctor), (13, c_laws_toFunctor), (12, c_spec_IsOpfibration)]) (good_cons ct_impl_IsOpfibration (good_cons ct_laws_eqFunctor (good_cons ct_laws_szFunctor (good_cons ct_laws_toFunctor (good_cons ct_spec_IsOpfibration good_nil))))) tab_ok (by kernel_rfl) (fn := Try.f3) (c := bodyOf Try.f3) (by kernel_rfl) (by kernel_rfl) (by kernel_rfl) c_laws_FnExactIsOpfibration rfl .n (cutL [(10, 5)]) (by kernel_rfl) (by kernel_rfl) k_laws_FnExactIsOpfibration (by decide) (fun x K => W_laws_FnExactIsOpfibration x.1 K) w_laws_FnExactIsOpfibration (fun x h1 h2 => m_laws_FnExactIsOpfibration x.1 h1 h2)
end Go.Bm
