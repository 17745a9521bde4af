/- What the functions that FnExactIsFactorizationSystem reaches give: for each its contract, what it asks, and the proof. No condition. -/
import Derived.Test.YtjlppddaadhhcaaTab
namespace Go.Bm
open Go.Proofs
set_option maxRecDepth 100000
set_option maxHeartbeats 1000000
set_option linter.unusedVariables false
set_option linter.unusedSimpArgs false
def c_impl_Category_arrows : Ct := ⟨[(.pt CategoryT)], [false], fun x => [], [(false, (.fz (.int .i64)))], fun x => ((x.1.2.1.length : Int), ()), false, none⟩
def W_impl_Category_arrows (c : CategoryD) (K : Int × Unit → Prop) : Prop := (K ((((List.length c.2.1) : Nat) : Int), ()))
theorem w_impl_Category_arrows (x : denL c_impl_Category_arrows.args) (K : Int × Unit → Prop) : evF tab (lkp []) (cutL []) Try.f60 (bodyOf Try.f60) .n c_impl_Category_arrows x K = W_impl_Category_arrows x.1 K := by kernel_rfl
theorem k_impl_Category_arrows : okC Try.f60.ntmps (cutL []) (bodyOf Try.f60) = true := by kernel_rfl
theorem m_impl_Category_arrows (c : CategoryD) (hok : allP (okL c_impl_Category_arrows.args (c, ()))) (hpre : allP (c_impl_Category_arrows.pre (c, ()))) : W_impl_Category_arrows c (fun r => r = c_impl_Category_arrows.res (c, ())) := by
  simp only [c_impl_Category_arrows, okL, T.oks, T.ok, ap, allP, true_and, and_true, implies_true] at hok hpre
  try dsimp only [T.den] at hok
  try dsimp only [T.den] at hpre
  unfold W_impl_Category_arrows
  rfl
theorem ct_impl_Category_arrows : CtOk Try.prog 60 c_impl_Category_arrows :=
  ct_by (Φ := lkp []) good_nil tab_ok (by kernel_rfl) (fn := Try.f60) (c := bodyOf Try.f60) (by kernel_rfl) (by kernel_rfl) (by kernel_rfl) c_impl_Category_arrows rfl .n (cutL []) (by kernel_rfl) (by kernel_rfl) k_impl_Category_arrows (by decide) (fun x K => W_impl_Category_arrows x.1 K) w_impl_Category_arrows (fun x h1 h2 => m_impl_Category_arrows x.1 h1 h2)
def compR (c : CategoryD) (f g : Int) : Int := (c.2.2.2.2.getD f.toNat []).getD g.toNat 0

def c_impl_Category_then : Ct := ⟨[(.pt CategoryT), (.int .i64), (.int .i64)], [false, false, false], fun x => [0 ≤ x.2.1, x.2.1 < x.1.2.2.2.2.length, 0 ≤ x.2.2.1, x.2.2.1 < (x.1.2.2.2.2.getD x.2.1.toNat []).length], [(false, (.fz (.int .i64)))], fun x => (compR x.1 x.2.1 x.2.2.1, ()), false, none⟩
def W_impl_Category_then (c : CategoryD) (f : Int) (g : Int) (K : Int × Unit → Prop) : Prop := (((0 : Int) ≤ f) ∧ ((f < (((List.length c.2.2.2.2) : Nat) : Int)) ∧ (((0 : Int) ≤ g) ∧ ((g < (((List.length (List.getD c.2.2.2.2 (Int.toNat f) ([] : List Int))) : Nat) : Int)) ∧ (K ((List.getD (List.getD c.2.2.2.2 (Int.toNat f) ([] : List Int)) (Int.toNat g) (0 : Int)), ()))))))
theorem w_impl_Category_then (x : denL c_impl_Category_then.args) (K : Int × Unit → Prop) : evF tab (lkp []) (cutL []) Try.f82 (bodyOf Try.f82) .n c_impl_Category_then x K = W_impl_Category_then x.1 x.2.1 x.2.2.1 K := by kernel_rfl
theorem k_impl_Category_then : okC Try.f82.ntmps (cutL []) (bodyOf Try.f82) = true := by kernel_rfl
theorem m_impl_Category_then (c : CategoryD) (f : Int) (g : Int) (hok : allP (okL c_impl_Category_then.args (c, f, g, ()))) (hpre : allP (c_impl_Category_then.pre (c, f, g, ()))) : W_impl_Category_then c f g (fun r => r = c_impl_Category_then.res (c, f, g, ())) := by
  simp only [c_impl_Category_then, okL, T.oks, T.ok, ap, allP, true_and, and_true, implies_true] at hok hpre
  try dsimp only [T.den] at hok
  try dsimp only [T.den] at hpre
  unfold W_impl_Category_then
  exact ⟨hpre.1, hpre.2.1, hpre.2.2.1, hpre.2.2.2, rfl⟩
theorem ct_impl_Category_then : CtOk Try.prog 82 c_impl_Category_then :=
  ct_by (Φ := lkp []) good_nil tab_ok (by kernel_rfl) (fn := Try.f82) (c := bodyOf Try.f82) (by kernel_rfl) (by kernel_rfl) (by kernel_rfl) c_impl_Category_then rfl .n (cutL []) (by kernel_rfl) (by kernel_rfl) k_impl_Category_then (by decide) (fun x K => W_impl_Category_then x.1 x.2.1 x.2.2.1 K) w_impl_Category_then (fun x h1 h2 => m_impl_Category_then x.1 x.2.1 x.2.2.1 h1 h2)
def c_impl_marked : Ct := ⟨[(.sl .bool)], [false], fun x => [x.1.length ≤ 1099511627776], [(false, (.sl (.fz (.int .i64))))], fun x => (selR x.1.length (fun i => x.1.getD i.toNat false), ()), false, none⟩
def W_impl_marked (there : List Bool) (K : (List Int) × Unit → Prop) : Prop := (loopW (S := ((Unit × (Int × Unit)) × ((List Int) × Unit))) (fun s => (fun next => ((inK IntKind.i64 s.1.2.1) → ((T.ok (T.sl (T.int IntKind.i64)) s.2.1) → (cnd (decide (s.1.2.1 < (((List.length there) : Nat) : Int))) (((0 : Int) ≤ s.1.2.1) ∧ ((s.1.2.1 < (((List.length there) : Nat) : Int)) ∧ (joinW (S := ((Unit × Unit) × ((List Int) × Unit))) (fun s1 => ((T.ok (T.sl (T.int IntKind.i64)) s1.2.1) → ((inK IntKind.i64 (s.1.2.1 + (1 : Int))) ∧ (next (((), ((s.1.2.1 + (1 : Int)), ())), (s1.2.1, ())))))) (fun k => (cnd (List.getD there (Int.toNat s.1.2.1) Bool.false) ((room (List.length s.2.1) (List.length (s.1.2.1 :: ([] : List Int))) 8) ∧ (k (((), ()), ((s.2.1 ++ (s.1.2.1 :: ([] : List Int))), ())))) (k (((), ()), (s.2.1, ())))))))) (K (s.2.1, ()))))))) (((), ((0 : Int), ())), (([] : List Int), ())))
theorem w_impl_marked (x : denL c_impl_marked.args) (K : (List Int) × Unit → Prop) : evF tab (lkp []) (cutL []) Try.f98 (bodyOf Try.f98) (.s .n (.s .n (.s (.s .n (.l [(3, (.ref 800003 [])), (9, (.d (.int .i64)))] [(800003, (.sl (.fz (.int .i64))))] [7, 8] (.s .n (.s .n (.s (.s .n (.s .n (.j [(3, (.ref 800003 []))] [(800003, (.sl (.fz (.int .i64))))] [7, 8, 9] .n))) .n))))) .n))) c_impl_marked x K = W_impl_marked x.1 K := by kernel_rfl
theorem k_impl_marked : okC Try.f98.ntmps (cutL []) (bodyOf Try.f98) = true := by kernel_rfl
theorem m_impl_marked (there : List Bool) (hok : allP (okL c_impl_marked.args (there, ()))) (hpre : allP (c_impl_marked.pre (there, ()))) : W_impl_marked there (fun r => r = c_impl_marked.res (there, ())) := by
  simp only [c_impl_marked, okL, T.oks, T.ok, ap, allP, true_and, and_true, implies_true] at hok hpre
  try dsimp only [T.den] at hok
  try dsimp only [T.den] at hpre
  unfold W_impl_marked
  have hm : there.length ≤ 1099511627776 := hpre
  refine loop_of (fun (s : ((Unit × (Int × Unit)) × ((List Int) × Unit))) => 0 ≤ s.1.2.1 ∧ s.1.2.1 ≤ there.length ∧ s.2.1 = selR s.1.2.1.toNat fun i => there.getD i.toNat false) (fun (s : ((Unit × (Int × Unit)) × ((List Int) × Unit))) => (there.length - s.1.2.1).toNat) ?_ ⟨by simp, by simp, rfl⟩
  rintro ⟨⟨_, i, _⟩, l, _⟩ next ⟨h0, h1, h2⟩ hn hin hl
  try dsimp only at h0 h1 h2 hn ⊢
  subst h2
  refine cnd_d (fun hc => ⟨h0, hc, join_of (fun s1 => s1.2.1 = selR (i + 1).toNat fun i => there.getD i.toNat false) (fun s1 hs _ => ⟨by rw [inK64]; (try dsimp only); omega, hn _ ⟨(by first | omega | (dsimp only; omega)), (by first | omega | (dsimp only; omega)), hs⟩ (by first | omega | (dsimp only; omega))⟩) (fun k hk => cnd_of (fun hx => ⟨?_, hk _ ?_⟩) (fun hx => hk _ ?_))⟩) (fun hc => ?_)
  · have := sel_len (p := fun i => there.getD i.toNat false) i.toNat
    unfold room
    rw [nb_eq]
    have h3 : (i :: ([] : List Int)).length = 1 := rfl
    rw [h3]
    omega
  · exact (sel_t h0 hx).symm
  · exact (sel_f h0 hx).symm
  · have e1 : i.toNat = there.length := by omega
    simp only [c_impl_marked]
    rw [e1]
theorem ct_impl_marked : CtOk Try.prog 98 c_impl_marked :=
  ct_by (Φ := lkp []) good_nil tab_ok (by kernel_rfl) (fn := Try.f98) (c := bodyOf Try.f98) (by kernel_rfl) (by kernel_rfl) (by kernel_rfl) c_impl_marked rfl (.s .n (.s .n (.s (.s .n (.l [(3, (.ref 800003 [])), (9, (.d (.int .i64)))] [(800003, (.sl (.fz (.int .i64))))] [7, 8] (.s .n (.s .n (.s (.s .n (.s .n (.j [(3, (.ref 800003 []))] [(800003, (.sl (.fz (.int .i64))))] [7, 8, 9] .n))) .n))))) .n))) (cutL []) (by kernel_rfl) (by kernel_rfl) k_impl_marked (by decide) (fun x K => W_impl_marked x.1 K) w_impl_marked (fun x h1 h2 => m_impl_marked x.1 h1 h2)
def c_impl_Category_ends : Ct := ⟨[(.pt CategoryT), (.int .i64)], [false, false], fun x => [0 ≤ x.2.1, x.2.1 < x.1.2.1.length, x.2.1 < x.1.2.2.1.length], [(true, (.fz endsT))], fun x => (((x.1.2.1.getD x.2.1.toNat 0, x.1.2.2.1.getD x.2.1.toNat 0) : Int × Int), ()), false, none⟩
def W_impl_Category_ends (c : CategoryD) (f : Int) (K : endsD × Unit → Prop) : Prop := (((0 : Int) ≤ f) ∧ ((f < (((List.length c.2.1) : Nat) : Int)) ∧ (((0 : Int) ≤ f) ∧ ((f < (((List.length c.2.2.1) : Nat) : Int)) ∧ (K (((List.getD c.2.1 (Int.toNat f) (0 : Int)), (List.getD c.2.2.1 (Int.toNat f) (0 : Int))), ()))))))
theorem w_impl_Category_ends (x : denL c_impl_Category_ends.args) (K : endsD × Unit → Prop) : evF tab (lkp []) (cutL [(1, 15)]) Try.f116 (bodyOf Try.f116) .n c_impl_Category_ends x K = W_impl_Category_ends x.1 x.2.1 K := by kernel_rfl
theorem k_impl_Category_ends : okC Try.f116.ntmps (cutL [(1, 15)]) (bodyOf Try.f116) = true := by kernel_rfl
theorem m_impl_Category_ends (c : CategoryD) (f : Int) (hok : allP (okL c_impl_Category_ends.args (c, f, ()))) (hpre : allP (c_impl_Category_ends.pre (c, f, ()))) : W_impl_Category_ends c f (fun r => r = c_impl_Category_ends.res (c, f, ())) := by
  simp only [c_impl_Category_ends, okL, T.oks, T.ok, ap, allP, true_and, and_true, implies_true] at hok hpre
  try dsimp only [T.den] at hok
  try dsimp only [T.den] at hpre
  unfold W_impl_Category_ends
  exact ⟨hpre.1, hpre.2.1, hpre.1, hpre.2.2, rfl⟩
theorem ct_impl_Category_ends : CtOk Try.prog 116 c_impl_Category_ends :=
  ct_by (Φ := lkp []) good_nil tab_ok (by kernel_rfl) (fn := Try.f116) (c := bodyOf Try.f116) (by kernel_rfl) (by kernel_rfl) (by kernel_rfl) c_impl_Category_ends rfl .n (cutL [(1, 15)]) (by kernel_rfl) (by kernel_rfl) k_impl_Category_ends (by decide) (fun x K => W_impl_Category_ends x.1 x.2.1 K) w_impl_Category_ends (fun x h1 h2 => m_impl_Category_ends x.1 x.2.1 h1 h2)
def c_impl_inRange : Ct := ⟨[(.int .i64), (.int .i64), (.int .i64)], [false, false, false], fun x => [], [(false, (.fz .bool))], fun x => (inR x.1 x.2.1 x.2.2.1, ()), false, none⟩
def W_impl_inRange (n : Int) (low : Int) (high : Int) (K : Bool × Unit → Prop) : Prop := (K (((decide (low ≤ n)) && (decide (n ≤ high))), ()))
theorem w_impl_inRange (x : denL c_impl_inRange.args) (K : Bool × Unit → Prop) : evF tab (lkp []) (cutL []) Try.f59 (bodyOf Try.f59) .n c_impl_inRange x K = W_impl_inRange x.1 x.2.1 x.2.2.1 K := by kernel_rfl
theorem k_impl_inRange : okC Try.f59.ntmps (cutL []) (bodyOf Try.f59) = true := by kernel_rfl
theorem m_impl_inRange (n : Int) (low : Int) (high : Int) (hok : allP (okL c_impl_inRange.args (n, low, high, ()))) (hpre : allP (c_impl_inRange.pre (n, low, high, ()))) : W_impl_inRange n low high (fun r => r = c_impl_inRange.res (n, low, high, ())) := by
  simp only [c_impl_inRange, okL, T.oks, T.ok, ap, allP, true_and, and_true, implies_true] at hok hpre
  try dsimp only [T.den] at hok
  try dsimp only [T.den] at hpre
  unfold W_impl_inRange
  grind [cnd, nb_eq, inK64, c_impl_inRange, inR]
theorem ct_impl_inRange : CtOk Try.prog 59 c_impl_inRange :=
  ct_by (Φ := lkp []) good_nil tab_ok (by kernel_rfl) (fn := Try.f59) (c := bodyOf Try.f59) (by kernel_rfl) (by kernel_rfl) (by kernel_rfl) c_impl_inRange rfl .n (cutL []) (by kernel_rfl) (by kernel_rfl) k_impl_inRange (by decide) (fun x K => W_impl_inRange x.1 x.2.1 x.2.2.1 K) w_impl_inRange (fun x h1 h2 => m_impl_inRange x.1 x.2.1 x.2.2.1 h1 h2)
def c_impl_within : Ct := ⟨[(.sl (.int .i64)), (.int .i64)], [false, false], fun x => [inK .i64 (x.2.1 - 1)], [(false, (.fz .bool))], fun x => (withinR x.1 x.2.1, ()), false, none⟩
def W_impl_within (list : List Int) (n : Int) (K : Bool × Unit → Prop) : Prop := (loopW (S := ((Int × Unit) × Unit)) (fun s => (fun next => ((inK IntKind.i64 s.1.1) → (cnd (decide (s.1.1 < (((List.length list) : Nat) : Int))) (((0 : Int) ≤ s.1.1) ∧ ((s.1.1 < (((List.length list) : Nat) : Int)) ∧ ((inK IntKind.i64 (n - (1 : Int))) ∧ (cnd (!(inR (List.getD list (Int.toNat s.1.1) (0 : Int)) (0 : Int) (n - (1 : Int)))) (K (Bool.false, ())) ((inK IntKind.i64 (s.1.1 + (1 : Int))) ∧ (next (((s.1.1 + (1 : Int)), ()), ()))))))) (K (Bool.true, ())))))) (((0 : Int), ()), ()))
theorem w_impl_within (x : denL c_impl_within.args) (K : Bool × Unit → Prop) : evF tab (lkp [(59, c_impl_inRange)]) (cutL []) Try.f81 (bodyOf Try.f81) (.s .n (.s (.s .n (.l [(9, (.d (.int .i64)))] [] [1, 7, 8] .n)) .n)) c_impl_within x K = W_impl_within x.1 x.2.1 K := by kernel_rfl
theorem k_impl_within : okC Try.f81.ntmps (cutL []) (bodyOf Try.f81) = true := by kernel_rfl
theorem m_impl_within (list : List Int) (n : Int) (hok : allP (okL c_impl_within.args (list, n, ()))) (hpre : allP (c_impl_within.pre (list, n, ()))) : W_impl_within list n (fun r => r = c_impl_within.res (list, n, ())) := by
  simp only [c_impl_within, okL, T.oks, T.ok, ap, allP, true_and, and_true, implies_true] at hok hpre
  try dsimp only [T.den] at hok
  try dsimp only [T.den] at hpre
  unfold W_impl_within
  refine loop_of (fun (s : ((Int × Unit) × Unit)) => 0 ≤ s.1.1 ∧ s.1.1 ≤ list.length ∧ withinR list n = withinR (list.drop s.1.1.toNat) n) (fun (s : ((Int × Unit) × Unit)) => (list.length - s.1.1).toNat) ?_ (by simp)
  rintro ⟨⟨i, _⟩, _⟩ next ⟨h0, h1, h2⟩ hn hin
  simp only at h0 h1 h2 hn ⊢
  refine cnd_d (fun hc => ?_) (fun hc => ?_)
  · rw [drop_c list 0 h0 hc] at h2
    simp only [withinR, List.all_cons] at h2
    grind [cnd, nb_eq, inK64, c_impl_within, withinR]
  · rw [drop_n list (by omega)] at h2
    grind [cnd, nb_eq, inK64, c_impl_within, withinR]
theorem ct_impl_within : CtOk Try.prog 81 c_impl_within :=
  ct_by (Φ := lkp [(59, c_impl_inRange)]) (good_cons ct_impl_inRange good_nil) tab_ok (by kernel_rfl) (fn := Try.f81) (c := bodyOf Try.f81) (by kernel_rfl) (by kernel_rfl) (by kernel_rfl) c_impl_within rfl (.s .n (.s (.s .n (.l [(9, (.d (.int .i64)))] [] [1, 7, 8] .n)) .n)) (cutL []) (by kernel_rfl) (by kernel_rfl) k_impl_within (by decide) (fun x K => W_impl_within x.1 x.2.1 K) w_impl_within (fun x h1 h2 => m_impl_within x.1 x.2.1 h1 h2)
/-- what a cell of the table must be -/
def cellQ (c : CategoryD) (f g v : Int) : Bool :=
  if c.2.2.1.getD f.toNat 0 = c.2.1.getD g.toNat 0 then decide (0 ≤ v ∧ v < c.2.1.length ∧ c.2.1.getD v.toNat 0 = c.2.1.getD f.toNat 0 ∧ c.2.2.1.getD v.toNat 0 = c.2.2.1.getD g.toNat 0)
  else decide (v = -1)
def cellR (c : CategoryD) (f g : Int) : Bool := cellQ c f g (compR c f g)
structure ShapeP (c : CategoryD) : Prop where
  ob : 0 ≤ c.1 ∧ c.1 ≤ 8
  m : c.2.1.length ≤ 40
  lt : c.2.2.1.length = c.2.1.length
  fr : withinR c.2.1 c.1 = true
  to : withinR c.2.2.1 c.1 = true
  li : (c.2.2.2.1.length : Int) = c.1
  ids : withinR c.2.2.2.1 c.2.1.length = true
  lc : c.2.2.2.2.length = c.2.1.length
  idt : ∀ x : Int, 0 ≤ x → x < c.1 → c.2.1.getD (c.2.2.2.1.getD x.toNat 0).toNat 0 = x ∧ c.2.2.1.getD (c.2.2.2.1.getD x.toNat 0).toNat 0 = x
  row : ∀ f : Int, 0 ≤ f → f < c.2.1.length → (c.2.2.2.2.getD f.toNat []).length = c.2.1.length
  cell : ∀ f g : Int, 0 ≤ f → f < c.2.1.length → 0 ≤ g → g < c.2.1.length → cellR c f g = true
def shapeR (c : CategoryD) : Bool := inR c.1 0 8 && decide (c.2.1.length ≤ 40) && decide (c.2.2.1.length = c.2.1.length) && withinR c.2.1 c.1 && withinR c.2.2.1 c.1 && decide ((c.2.2.2.1.length : Int) = c.1) && withinR c.2.2.2.1 c.2.1.length &&
  decide (c.2.2.2.2.length = c.2.1.length) && allB c.1.toNat (fun x => decide (c.2.1.getD (c.2.2.2.1.getD x.toNat 0).toNat 0 = x ∧ c.2.2.1.getD (c.2.2.2.1.getD x.toNat 0).toNat 0 = x)) &&
  allB c.2.1.length (fun f => decide ((c.2.2.2.2.getD f.toNat []).length = c.2.1.length)) && allB c.2.1.length (fun f => allB c.2.1.length fun g => cellR c f g)
theorem shape_iff {c : CategoryD} : shapeR c = true ↔ ShapeP c := by
  simp only [shapeR, Bool.and_eq_true, decide_eq_true_eq, inR, allB_iff]
  constructor
  · rintro ⟨⟨⟨⟨⟨⟨⟨⟨⟨⟨h0, h1⟩, h2⟩, h3⟩, h4⟩, h5⟩, h6⟩, h7⟩, h8⟩, h9⟩, h10⟩
    exact ⟨h0, h1, h2, h3, h4, h5, h6, h7, fun x a b => h8 x a (by omega), h9, fun f g a b d e => h10 f a b g d e⟩
  · intro h
    exact ⟨⟨⟨⟨⟨⟨⟨⟨⟨⟨h.ob, h.m⟩, h.lt⟩, h.fr⟩, h.to⟩, h.li⟩, h.ids⟩, h.lc⟩, fun x a b => h.idt x a (by have := h.ob; omega)⟩, h.row⟩, fun f a b g d e => h.cell f g a b d e⟩
theorem shape_f {c : CategoryD} (h : ¬ ShapeP c) : shapeR c = false := by
  cases hs : shapeR c with
  | false => rfl
  | true => exact absurd (shape_iff.1 hs) h
theorem shape_t {c : CategoryD} (h : ShapeP c) : shapeR c = true := shape_iff.2 h

def c_impl_Category_isShape : Ct := ⟨[(.pt CategoryT)], [false], fun x => [], [(false, (.fz .bool))], fun x => (shapeR x.1, ()), false, none⟩
def W_impl_Category_isShape (c : CategoryD) (K : Bool × Unit → Prop) : Prop := ((((((!(inR c.1 (0 : Int) (8 : Int))) || (decide ((40 : Int) < (((List.length c.2.1) : Nat) : Int)))) || ((((List.length c.2.2.1) : Nat) : Int) != (((List.length c.2.1) : Nat) : Int))) = Bool.false) → (inK IntKind.i64 (c.1 - (1 : Int)))) ∧ (((((((!(inR c.1 (0 : Int) (8 : Int))) || (decide ((40 : Int) < (((List.length c.2.1) : Nat) : Int)))) || ((((List.length c.2.2.1) : Nat) : Int) != (((List.length c.2.1) : Nat) : Int))) || (!(withinR c.2.1 c.1))) = Bool.false) → (inK IntKind.i64 (c.1 - (1 : Int)))) ∧ (cnd (((((!(inR c.1 (0 : Int) (8 : Int))) || (decide ((40 : Int) < (((List.length c.2.1) : Nat) : Int)))) || ((((List.length c.2.2.1) : Nat) : Int) != (((List.length c.2.1) : Nat) : Int))) || (!(withinR c.2.1 c.1))) || (!(withinR c.2.2.1 c.1))) (K (Bool.false, ())) (((((((List.length c.2.2.2.1) : Nat) : Int) != c.1) = Bool.false) → (inK IntKind.i64 ((((List.length c.2.1) : Nat) : Int) - (1 : Int)))) ∧ (cnd ((((((List.length c.2.2.2.1) : Nat) : Int) != c.1) || (!(withinR c.2.2.2.1 (((List.length c.2.1) : Nat) : Int)))) || ((((List.length c.2.2.2.2) : Nat) : Int) != (((List.length c.2.1) : Nat) : Int))) (K (Bool.false, ())) (loopW (S := ((Int × Unit) × Unit)) (fun s => (fun next => ((inK IntKind.i64 s.1.1) → (cnd (decide (s.1.1 < (((List.length c.2.2.2.1) : Nat) : Int))) (((0 : Int) ≤ s.1.1) ∧ ((s.1.1 < (((List.length c.2.2.2.1) : Nat) : Int)) ∧ (((0 : Int) ≤ (List.getD c.2.2.2.1 (Int.toNat s.1.1) (0 : Int))) ∧ (((List.getD c.2.2.2.1 (Int.toNat s.1.1) (0 : Int)) < (((List.length c.2.1) : Nat) : Int)) ∧ (((List.getD c.2.2.2.1 (Int.toNat s.1.1) (0 : Int)) < (((List.length c.2.2.1) : Nat) : Int)) ∧ (cnd (!(((List.getD c.2.1 (Int.toNat (List.getD c.2.2.2.1 (Int.toNat s.1.1) (0 : Int))) (0 : Int)) == s.1.1) && ((List.getD c.2.2.1 (Int.toNat (List.getD c.2.2.2.1 (Int.toNat s.1.1) (0 : Int))) (0 : Int)) == s.1.1))) (K (Bool.false, ())) ((inK IntKind.i64 (s.1.1 + (1 : Int))) ∧ (next (((s.1.1 + (1 : Int)), ()), ()))))))))) (loopW (S := ((Int × Unit) × Unit)) (fun s1 => (fun next1 => ((inK IntKind.i64 s1.1.1) → (cnd (decide (s1.1.1 < (((List.length c.2.2.2.2) : Nat) : Int))) (((0 : Int) ≤ s1.1.1) ∧ ((s1.1.1 < (((List.length c.2.2.2.2) : Nat) : Int)) ∧ (cnd ((((List.length (List.getD c.2.2.2.2 (Int.toNat s1.1.1) ([] : List Int))) : Nat) : Int) != (((List.length c.2.1) : Nat) : Int)) (K (Bool.false, ())) (loopW (S := ((Int × Unit) × Unit)) (fun s2 => (fun next2 => ((inK IntKind.i64 s2.1.1) → (cnd (decide (s2.1.1 < (((List.length (List.getD c.2.2.2.2 (Int.toNat s1.1.1) ([] : List Int))) : Nat) : Int))) (joinW (S := (Unit × Unit)) (fun s3 => ((inK IntKind.i64 (s2.1.1 + (1 : Int))) ∧ (next2 (((s2.1.1 + (1 : Int)), ()), ())))) (fun k => (((0 : Int) ≤ s2.1.1) ∧ ((s2.1.1 < (((List.length (List.getD c.2.2.2.2 (Int.toNat s1.1.1) ([] : List Int))) : Nat) : Int)) ∧ (((0 : Int) ≤ s1.1.1) ∧ ((s1.1.1 < (((List.length c.2.2.1) : Nat) : Int)) ∧ (((0 : Int) ≤ s2.1.1) ∧ ((s2.1.1 < (((List.length c.2.1) : Nat) : Int)) ∧ (cnd ((List.getD c.2.2.1 (Int.toNat s1.1.1) (0 : Int)) != (List.getD c.2.1 (Int.toNat s2.1.1) (0 : Int))) (cnd ((List.getD (List.getD c.2.2.2.2 (Int.toNat s1.1.1) ([] : List Int)) (Int.toNat s2.1.1) (0 : Int)) != (-(1 : Int))) (K (Bool.false, ())) (k ((), ()))) ((inK IntKind.i64 ((((List.length c.2.1) : Nat) : Int) - (1 : Int))) ∧ ((((!(inR (List.getD (List.getD c.2.2.2.2 (Int.toNat s1.1.1) ([] : List Int)) (Int.toNat s2.1.1) (0 : Int)) (0 : Int) ((((List.length c.2.1) : Nat) : Int) - (1 : Int)))) = Bool.false) → (((List.getD (List.getD c.2.2.2.2 (Int.toNat s1.1.1) ([] : List Int)) (Int.toNat s2.1.1) (0 : Int)) < (((List.length c.2.1) : Nat) : Int)) ∧ (((List.getD (List.getD c.2.2.2.2 (Int.toNat s1.1.1) ([] : List Int)) (Int.toNat s2.1.1) (0 : Int)) < (((List.length c.2.2.1) : Nat) : Int)) ∧ ((0 : Int) ≤ (List.getD (List.getD c.2.2.2.2 (Int.toNat s1.1.1) ([] : List Int)) (Int.toNat s2.1.1) (0 : Int)))))) ∧ ((((!(inR (List.getD (List.getD c.2.2.2.2 (Int.toNat s1.1.1) ([] : List Int)) (Int.toNat s2.1.1) (0 : Int)) (0 : Int) ((((List.length c.2.1) : Nat) : Int) - (1 : Int)))) = Bool.false) → ((s1.1.1 < (((List.length c.2.1) : Nat) : Int)) ∧ ((0 : Int) ≤ s1.1.1))) ∧ ((((!(inR (List.getD (List.getD c.2.2.2.2 (Int.toNat s1.1.1) ([] : List Int)) (Int.toNat s2.1.1) (0 : Int)) (0 : Int) ((((List.length c.2.1) : Nat) : Int) - (1 : Int)))) = Bool.false) → ((s2.1.1 < (((List.length c.2.2.1) : Nat) : Int)) ∧ ((0 : Int) ≤ s2.1.1))) ∧ (cnd ((!(inR (List.getD (List.getD c.2.2.2.2 (Int.toNat s1.1.1) ([] : List Int)) (Int.toNat s2.1.1) (0 : Int)) (0 : Int) ((((List.length c.2.1) : Nat) : Int) - (1 : Int)))) || (!(((List.getD c.2.1 (Int.toNat (List.getD (List.getD c.2.2.2.2 (Int.toNat s1.1.1) ([] : List Int)) (Int.toNat s2.1.1) (0 : Int))) (0 : Int)) == (List.getD c.2.1 (Int.toNat s1.1.1) (0 : Int))) && ((List.getD c.2.2.1 (Int.toNat (List.getD (List.getD c.2.2.2.2 (Int.toNat s1.1.1) ([] : List Int)) (Int.toNat s2.1.1) (0 : Int))) (0 : Int)) == (List.getD c.2.2.1 (Int.toNat s2.1.1) (0 : Int)))))) (K (Bool.false, ())) (k ((), ())))))))))))))))) ((inK IntKind.i64 (s1.1.1 + (1 : Int))) ∧ (next1 (((s1.1.1 + (1 : Int)), ()), ()))))))) (((0 : Int), ()), ()))))) (K (Bool.true, ())))))) (((0 : Int), ()), ())))))) (((0 : Int), ()), ())))))))
theorem w_impl_Category_isShape (x : denL c_impl_Category_isShape.args) (K : Bool × Unit → Prop) : evF tab (lkp [(60, c_impl_Category_arrows), (116, c_impl_Category_ends), (59, c_impl_inRange), (81, c_impl_within)]) (cutL [(2, 43), (20, 15), (4, 28), (23, 26)]) Try.f128 (bodyOf Try.f128) (.s .n (.s .n (.s .n (.s .n (.s (.s .n (.l [(88, (.d (.int .i64)))] [] [0, 3, 86, 87] .n)) (.s (.s .n (.l [(106, (.d (.int .i64)))] [] [0, 3, 104, 105] (.s .n (.s .n (.s (.s .n (.s .n (.s .n (.l [(117, (.d (.int .i64)))] [] [0, 3, 6, 104, 105, 106, 115, 116] (.s .n (.s .n (.s (.j [] [] [0, 3, 6, 104, 105, 106, 115, 116, 117] .n) .n))))))) .n))))) .n)))))) c_impl_Category_isShape x K = W_impl_Category_isShape x.1 K := by kernel_rfl
theorem k_impl_Category_isShape : okC Try.f128.ntmps (cutL [(2, 43), (20, 15), (4, 28), (23, 26)]) (bodyOf Try.f128) = true := by kernel_rfl
theorem m_impl_Category_isShape (c : CategoryD) (hok : allP (okL c_impl_Category_isShape.args (c, ()))) (hpre : allP (c_impl_Category_isShape.pre (c, ()))) : W_impl_Category_isShape c (fun r => r = c_impl_Category_isShape.res (c, ())) := by
  simp only [c_impl_Category_isShape, okL, T.oks, T.ok, ap, allP, true_and, and_true, implies_true] at hok hpre
  try dsimp only [T.den] at hok
  try dsimp only [T.den] at hpre
  unfold W_impl_Category_isShape
  refine ⟨by grind [cnd, nb_eq, inK64, inR], by grind [cnd, nb_eq, inK64, inR], cnd_of (fun hc => ?_) (fun hc => ⟨by rw [inK64]; have := hok.2.1.1; grind [cnd, nb_eq, inK64], cnd_of (fun hd => ?_) (fun hd => ?_)⟩)⟩
  · simp only [c_impl_Category_isShape]; rw [shape_f]; intro h; have h1 := h.ob; have h2 := h.m; have h3 := h.lt; have h4 := h.fr; have h5 := h.to; simp only [inR] at hc; grind [cnd, nb_eq, inK64]
  · simp only [c_impl_Category_isShape]; rw [shape_f]; intro h; have h1 := h.li; have h2 := h.ids; have h3 := h.lc; grind [cnd, nb_eq, inK64]
  simp only [inR, Bool.or_eq_false_iff, Bool.not_eq_false', Bool.and_eq_true, decide_eq_true_eq, decide_eq_false_iff_not, bne_eq_false_iff_eq] at hc hd
  obtain ⟨⟨⟨⟨hob, hm⟩, hlt⟩, hfr⟩, hto⟩ := hc
  obtain ⟨⟨hli, hids⟩, hlc⟩ := hd
  have bad : ¬ ShapeP c → (false, ()) = c_impl_Category_isShape.res (c, ()) := fun h => by simp only [c_impl_Category_isShape]; rw [shape_f h]
  refine loop_ix (n := c.2.2.2.1.length) (fun x => ∀ y : Int, 0 ≤ y → y < x → c.2.1.getD (c.2.2.2.1.getD y.toNat 0).toNat 0 = y ∧ c.2.2.1.getD (c.2.2.2.1.getD y.toNat 0).toNat 0 = y) (by omega) (by intro y h0 h1; omega) ?_ ?_
  · intro x next h0 h1 hP hn hin
    have hb := within_iff.1 hids x h0 h1
    try dsimp only
    refine cnd_d (fun _ => ⟨h0, h1, hb.1, hb.2, by omega, cnd_of (fun hx => bad fun h => ?_) (fun hx => ?_)⟩) (fun h => absurd h1 h)
    · have := h.idt x h0 (by omega)
      rw [this.1, this.2] at hx
      simp at hx
    · simp only [Bool.not_eq_false', Bool.and_eq_true, beq_iff_eq] at hx
      refine ⟨by rw [inK64]; (try dsimp only); omega, hn fun y y0 y1 => ?_⟩
      by_cases e : y = x
      · rw [e]; exact hx
      · exact hP y y0 (by omega)
  intro next hidt hin
  refine cnd_d (fun h => absurd h (by dsimp only; omega)) (fun _ => ?_)
  refine loop_ix (n := c.2.2.2.2.length) (fun f => ∀ f' : Int, 0 ≤ f' → f' < f → (c.2.2.2.2.getD f'.toNat []).length = c.2.1.length ∧ ∀ g : Int, 0 ≤ g → g < c.2.1.length → cellR c f' g = true) (by omega) (by intro y h0 h1; omega) ?_ ?_
  · intro f next h0 h1 hP hn hin
    try dsimp only
    refine cnd_d (fun _ => ⟨h0, h1, cnd_of (fun hx => bad fun h => ?_) (fun hx => ?_)⟩) (fun h => absurd h1 h)
    · have := h.row f h0 (by omega)
      rw [this] at hx
      simp at hx
    simp only [bne_eq_false_iff_eq] at hx
    refine loop_ix (n := (c.2.2.2.2.getD f.toNat []).length) (fun g => ∀ g' : Int, 0 ≤ g' → g' < g → cellR c f g' = true) (by omega) (by intro y h0 h1; omega) ?_ ?_
    · intro g next3 g0 g1 hP3 hn3 hin3
      try dsimp only
      refine cnd_d (fun _ => ?_) (fun h => absurd g1 h)
      refine join_of (fun _ => cellR c f g = true) (fun _ hcell => ⟨by rw [inK64]; (try dsimp only); omega, hn3 fun g' y0 y1 => ?_⟩) (fun k hk => ?_)
      · by_cases e : g' = g
        · rw [e]; exact hcell
        · exact hP3 g' y0 (by omega)
      have hcell : ∀ b, cellR c f g = b → b = false → ¬ ShapeP c := fun b h1 h2 h => by
        have := h.cell f g h0 (by omega) g0 (by omega)
        rw [h1, h2] at this; cases this
      have hk' := hk ((), ())
      obtain ⟨v, hv⟩ : ∃ v, (c.2.2.2.2.getD f.toNat []).getD g.toNat 0 = v := ⟨_, rfl⟩
      have hR : cellR c f g = cellQ c f g v := by unfold cellR compR; rw [hv]
      rw [hR] at hk'
      rw [hR] at hcell
      rw [hv]
      clear hP3 hn3 hP hn hk hR hv hidt hok
      refine ⟨g0, g1, h0, by omega, g0, by omega, cnd_of (fun ha => cnd_of (fun hb => bad ?_) (fun hb => hk' ?_)) (fun ha => ⟨by rw [inK64]; (try dsimp only); omega, fun hv => ?_, fun _ => ⟨by omega, h0⟩, fun _ => ⟨by omega, g0⟩, cnd_of (fun hb => bad ?_) (fun hb => hk' ?_)⟩)⟩
      · exact hcell _ rfl (by grind [cnd, nb_eq, inK64, cellQ])
      · grind [cnd, nb_eq, inK64, cellQ]
      · simp only [inR, Bool.not_eq_false', Bool.and_eq_true, decide_eq_true_eq] at hv; omega
      · exact hcell _ rfl (by simp only [inR] at hb; grind [cnd, nb_eq, inK64, cellQ])
      · simp only [inR] at hb; grind [cnd, nb_eq, inK64, cellQ]
    · intro next3 hP3 hin3
      refine cnd_d (fun h => absurd h (by dsimp only; omega)) (fun _ => ⟨by rw [inK64]; (try dsimp only); omega, hn fun f' y0 y1 => ?_⟩)
      by_cases e : f' = f
      · rw [e]; exact ⟨by omega, fun g g0 g1 => hP3 g g0 (by omega)⟩
      · exact hP f' y0 (by omega)
  · intro next2 hP2 hin2
    refine cnd_d (fun h => absurd h (by dsimp only; omega)) (fun _ => ?_)
    simp only [c_impl_Category_isShape]
    rw [shape_t ⟨hob, by omega, by omega, hfr, hto, by omega, hids, by omega, fun x a b => hidt x a (by omega), fun f a b => (hP2 f a (by omega)).1, fun f g a b d e => (hP2 f a (by omega)).2 g d e⟩]
theorem ct_impl_Category_isShape : CtOk Try.prog 128 c_impl_Category_isShape :=
  ct_by (Φ := lkp [(60, c_impl_Category_arrows), (116, c_impl_Category_ends), (59, c_impl_inRange), (81, c_impl_within)]) (good_cons ct_impl_Category_arrows (good_cons ct_impl_Category_ends (good_cons ct_impl_inRange (good_cons ct_impl_within good_nil)))) tab_ok (by kernel_rfl) (fn := Try.f128) (c := bodyOf Try.f128) (by kernel_rfl) (by kernel_rfl) (by kernel_rfl) c_impl_Category_isShape rfl (.s .n (.s .n (.s .n (.s .n (.s (.s .n (.l [(88, (.d (.int .i64)))] [] [0, 3, 86, 87] .n)) (.s (.s .n (.l [(106, (.d (.int .i64)))] [] [0, 3, 104, 105] (.s .n (.s .n (.s (.s .n (.s .n (.s .n (.l [(117, (.d (.int .i64)))] [] [0, 3, 6, 104, 105, 106, 115, 116] (.s .n (.s .n (.s (.j [] [] [0, 3, 6, 104, 105, 106, 115, 116, 117] .n) .n))))))) .n))))) .n)))))) (cutL [(2, 43), (20, 15), (4, 28), (23, 26)]) (by kernel_rfl) (by kernel_rfl) k_impl_Category_isShape (by decide) (fun x K => W_impl_Category_isShape x.1 K) w_impl_Category_isShape (fun x h1 h2 => m_impl_Category_isShape x.1 h1 h2)
theorem ShapeP.frm {c : CategoryD} (h : ShapeP c) {f : Int} (h0 : 0 ≤ f) (h1 : f < c.2.1.length) : 0 ≤ c.2.1.getD f.toNat 0 ∧ c.2.1.getD f.toNat 0 < c.1 ∧ 0 ≤ c.2.2.1.getD f.toNat 0 ∧ c.2.2.1.getD f.toNat 0 < c.1 := by
  have a := within_iff.1 h.fr f h0 h1
  have b := within_iff.1 h.to f h0 (by have := h.lt; omega)
  exact ⟨a.1, a.2, b.1, b.2⟩
theorem ShapeP.idn {c : CategoryD} (h : ShapeP c) {x : Int} (h0 : 0 ≤ x) (h1 : x < c.1) : 0 ≤ c.2.2.2.1.getD x.toNat 0 ∧ c.2.2.2.1.getD x.toNat 0 < c.2.1.length ∧ c.2.1.getD (c.2.2.2.1.getD x.toNat 0).toNat 0 = x ∧ c.2.2.1.getD (c.2.2.2.1.getD x.toNat 0).toNat 0 = x := by
  have a := within_iff.1 h.ids x h0 (by have := h.li; omega)
  have b := h.idt x h0 h1
  exact ⟨a.1, a.2, b.1, b.2⟩
theorem ShapeP.yes {c : CategoryD} (h : ShapeP c) {f g : Int} (h0 : 0 ≤ f) (h1 : f < c.2.1.length) (g0 : 0 ≤ g) (g1 : g < c.2.1.length) (e : c.2.2.1.getD f.toNat 0 = c.2.1.getD g.toNat 0) :
    0 ≤ compR c f g ∧ compR c f g < c.2.1.length ∧ c.2.1.getD (compR c f g).toNat 0 = c.2.1.getD f.toNat 0 ∧ c.2.2.1.getD (compR c f g).toNat 0 = c.2.2.1.getD g.toNat 0 := by
  have := h.cell f g h0 h1 g0 g1
  unfold cellR cellQ at this
  rw [if_pos e] at this
  simpa using this
theorem ShapeP.no {c : CategoryD} (h : ShapeP c) {f g : Int} (h0 : 0 ≤ f) (h1 : f < c.2.1.length) (g0 : 0 ≤ g) (g1 : g < c.2.1.length) (e : c.2.2.1.getD f.toNat 0 ≠ c.2.1.getD g.toNat 0) : compR c f g = -1 := by
  have := h.cell f g h0 h1 g0 g1
  unfold cellR cellQ at this
  rw [if_neg e] at this
  simpa using this
theorem ShapeP.comp {c : CategoryD} (h : ShapeP c) {f g : Int} (h0 : 0 ≤ f) (h1 : f < c.2.1.length) (g0 : 0 ≤ g) (g1 : g < c.2.1.length) : 0 ≤ compR c f g ↔ c.2.2.1.getD f.toNat 0 = c.2.1.getD g.toNat 0 := by
  constructor
  · intro h2
    by_cases e : c.2.2.1.getD f.toNat 0 = c.2.1.getD g.toNat 0
    · exact e
    · have := h.no h0 h1 g0 g1 e; omega
  · intro e; exact (h.yes h0 h1 g0 g1 e).1
def faultI (c : CategoryD) (f : Int) : Option (Int × Int × Int × Int) :=
  if compR c (c.2.2.2.1.getD (c.2.1.getD f.toNat 0).toNat 0) f ≠ f ∨ compR c f (c.2.2.2.1.getD (c.2.2.1.getD f.toNat 0).toNat 0) ≠ f then some (1, f, 0, 0) else none
def faultH (c : CategoryD) (f g h : Int) : Option (Int × Int × Int × Int) :=
  if c.2.2.1.getD g.toNat 0 = c.2.1.getD h.toNat 0 ∧ compR c (compR c f g) h ≠ compR c f (compR c g h) then some (2, f, g, h) else none
def faultG (c : CategoryD) (f g : Int) : Option (Int × Int × Int × Int) :=
  if c.2.2.1.getD f.toNat 0 = c.2.1.getD g.toNat 0 then scanR (faultH c f g) c.2.1.length 0 else none
def faultF (c : CategoryD) (f : Int) : Option (Int × Int × Int × Int) := scanR (faultG c f) c.2.1.length 0
def faultR (c : CategoryD) : Int × Int × Int × Int :=
  orR (scanR (faultI c) c.2.1.length 0) (orR (scanR (faultF c) c.2.1.length 0) (0, 0, 0, 0))

def c_impl_Category_fault : Ct := ⟨[(.pt CategoryT)], [false], fun x => [ShapeP x.1], [(false, (.fz (.int .i64))), (false, (.fz (.int .i64))), (false, (.fz (.int .i64))), (false, (.fz (.int .i64)))], fun x => ((faultR x.1).1, (faultR x.1).2.1, (faultR x.1).2.2.1, (faultR x.1).2.2.2, ()), false, none⟩
def W_impl_Category_fault (c : CategoryD) (K : Int × Int × Int × Int × Unit → Prop) : Prop := (loopW (S := ((Int × Unit) × Unit)) (fun s => (fun next => ((inK IntKind.i64 s.1.1) → (cnd (decide (s.1.1 < (((List.length c.2.1) : Nat) : Int))) (((0 : Int) ≤ s.1.1) ∧ ((s.1.1 < (((List.length c.2.1) : Nat) : Int)) ∧ (((0 : Int) ≤ (List.getD c.2.1 (Int.toNat s.1.1) (0 : Int))) ∧ (((List.getD c.2.1 (Int.toNat s.1.1) (0 : Int)) < (((List.length c.2.2.2.1) : Nat) : Int)) ∧ (((0 : Int) ≤ (List.getD c.2.2.2.1 (Int.toNat (List.getD c.2.1 (Int.toNat s.1.1) (0 : Int))) (0 : Int))) ∧ (((List.getD c.2.2.2.1 (Int.toNat (List.getD c.2.1 (Int.toNat s.1.1) (0 : Int))) (0 : Int)) < (((List.length c.2.2.2.2) : Nat) : Int)) ∧ (((0 : Int) ≤ s.1.1) ∧ ((s.1.1 < (((List.length (List.getD c.2.2.2.2 (Int.toNat (List.getD c.2.2.2.1 (Int.toNat (List.getD c.2.1 (Int.toNat s.1.1) (0 : Int))) (0 : Int))) ([] : List Int))) : Nat) : Int)) ∧ (((((compR c (List.getD c.2.2.2.1 (Int.toNat (List.getD c.2.1 (Int.toNat s.1.1) (0 : Int))) (0 : Int)) s.1.1) != s.1.1) = Bool.false) → ((s.1.1 < (((List.length c.2.2.1) : Nat) : Int)) ∧ ((0 : Int) ≤ s.1.1))) ∧ (((((compR c (List.getD c.2.2.2.1 (Int.toNat (List.getD c.2.1 (Int.toNat s.1.1) (0 : Int))) (0 : Int)) s.1.1) != s.1.1) = Bool.false) → (((List.getD c.2.2.1 (Int.toNat s.1.1) (0 : Int)) < (((List.length c.2.2.2.1) : Nat) : Int)) ∧ ((0 : Int) ≤ (List.getD c.2.2.1 (Int.toNat s.1.1) (0 : Int))))) ∧ (((((compR c (List.getD c.2.2.2.1 (Int.toNat (List.getD c.2.1 (Int.toNat s.1.1) (0 : Int))) (0 : Int)) s.1.1) != s.1.1) = Bool.false) → ((s.1.1 < (((List.length c.2.2.2.2) : Nat) : Int)) ∧ (((0 : Int) ≤ (List.getD c.2.2.2.1 (Int.toNat (List.getD c.2.2.1 (Int.toNat s.1.1) (0 : Int))) (0 : Int))) ∧ (((List.getD c.2.2.2.1 (Int.toNat (List.getD c.2.2.1 (Int.toNat s.1.1) (0 : Int))) (0 : Int)) < (((List.length (List.getD c.2.2.2.2 (Int.toNat s.1.1) ([] : List Int))) : Nat) : Int)) ∧ ((0 : Int) ≤ s.1.1))))) ∧ (cnd (((compR c (List.getD c.2.2.2.1 (Int.toNat (List.getD c.2.1 (Int.toNat s.1.1) (0 : Int))) (0 : Int)) s.1.1) != s.1.1) || ((compR c s.1.1 (List.getD c.2.2.2.1 (Int.toNat (List.getD c.2.2.1 (Int.toNat s.1.1) (0 : Int))) (0 : Int))) != s.1.1)) (K ((1 : Int), (s.1.1, ((0 : Int), ((0 : Int), ()))))) ((inK IntKind.i64 (s.1.1 + (1 : Int))) ∧ (next (((s.1.1 + (1 : Int)), ()), ()))))))))))))))) (loopW (S := ((Int × Unit) × Unit)) (fun s1 => (fun next1 => ((inK IntKind.i64 s1.1.1) → (cnd (decide (s1.1.1 < (((List.length c.2.1) : Nat) : Int))) (loopW (S := ((Int × Unit) × Unit)) (fun s2 => (fun next2 => ((inK IntKind.i64 s2.1.1) → (cnd (decide (s2.1.1 < (((List.length c.2.1) : Nat) : Int))) (joinW (S := (Unit × Unit)) (fun s3 => ((inK IntKind.i64 (s2.1.1 + (1 : Int))) ∧ (next2 (((s2.1.1 + (1 : Int)), ()), ())))) (fun k => (((0 : Int) ≤ s1.1.1) ∧ ((s1.1.1 < (((List.length c.2.2.2.2) : Nat) : Int)) ∧ (((0 : Int) ≤ s2.1.1) ∧ ((s2.1.1 < (((List.length (List.getD c.2.2.2.2 (Int.toNat s1.1.1) ([] : List Int))) : Nat) : Int)) ∧ (cnd (decide ((compR c s1.1.1 s2.1.1) < (0 : Int))) (k ((), ())) (loopW (S := ((Int × Unit) × Unit)) (fun s3 => (fun next3 => ((inK IntKind.i64 s3.1.1) → (cnd (decide (s3.1.1 < (((List.length c.2.1) : Nat) : Int))) (((0 : Int) ≤ s2.1.1) ∧ ((s2.1.1 < (((List.length c.2.2.2.2) : Nat) : Int)) ∧ (((0 : Int) ≤ s3.1.1) ∧ ((s3.1.1 < (((List.length (List.getD c.2.2.2.2 (Int.toNat s2.1.1) ([] : List Int))) : Nat) : Int)) ∧ ((((decide ((0 : Int) ≤ (compR c s2.1.1 s3.1.1))) = Bool.true) → ((s1.1.1 < (((List.length c.2.2.2.2) : Nat) : Int)) ∧ (((0 : Int) ≤ s2.1.1) ∧ ((s2.1.1 < (((List.length (List.getD c.2.2.2.2 (Int.toNat s1.1.1) ([] : List Int))) : Nat) : Int)) ∧ ((0 : Int) ≤ s1.1.1))))) ∧ ((((decide ((0 : Int) ≤ (compR c s2.1.1 s3.1.1))) = Bool.true) → (((compR c s1.1.1 s2.1.1) < (((List.length c.2.2.2.2) : Nat) : Int)) ∧ (((0 : Int) ≤ s3.1.1) ∧ ((s3.1.1 < (((List.length (List.getD c.2.2.2.2 (Int.toNat (compR c s1.1.1 s2.1.1)) ([] : List Int))) : Nat) : Int)) ∧ ((0 : Int) ≤ (compR c s1.1.1 s2.1.1)))))) ∧ ((((decide ((0 : Int) ≤ (compR c s2.1.1 s3.1.1))) = Bool.true) → ((s2.1.1 < (((List.length c.2.2.2.2) : Nat) : Int)) ∧ (((0 : Int) ≤ s3.1.1) ∧ ((s3.1.1 < (((List.length (List.getD c.2.2.2.2 (Int.toNat s2.1.1) ([] : List Int))) : Nat) : Int)) ∧ ((0 : Int) ≤ s2.1.1))))) ∧ ((((decide ((0 : Int) ≤ (compR c s2.1.1 s3.1.1))) = Bool.true) → ((s1.1.1 < (((List.length c.2.2.2.2) : Nat) : Int)) ∧ (((0 : Int) ≤ (compR c s2.1.1 s3.1.1)) ∧ (((compR c s2.1.1 s3.1.1) < (((List.length (List.getD c.2.2.2.2 (Int.toNat s1.1.1) ([] : List Int))) : Nat) : Int)) ∧ ((0 : Int) ≤ s1.1.1))))) ∧ (cnd ((decide ((0 : Int) ≤ (compR c s2.1.1 s3.1.1))) && ((compR c (compR c s1.1.1 s2.1.1) s3.1.1) != (compR c s1.1.1 (compR c s2.1.1 s3.1.1)))) (K ((2 : Int), (s1.1.1, (s2.1.1, (s3.1.1, ()))))) ((inK IntKind.i64 (s3.1.1 + (1 : Int))) ∧ (next3 (((s3.1.1 + (1 : Int)), ()), ())))))))))))) (k ((), ())))))) (((0 : Int), ()), ()))))))))) ((inK IntKind.i64 (s1.1.1 + (1 : Int))) ∧ (next1 (((s1.1.1 + (1 : Int)), ()), ()))))))) (((0 : Int), ()), ())) (K ((0 : Int), ((0 : Int), ((0 : Int), ((0 : Int), ()))))))))) (((0 : Int), ()), ())))))) (((0 : Int), ()), ()))
theorem w_impl_Category_fault (x : denL c_impl_Category_fault.args) (K : Int × Int × Int × Int × Unit → Prop) : evF tab (lkp [(60, c_impl_Category_arrows), (82, c_impl_Category_then)]) (cutL [(5, 38)]) Try.f129 (bodyOf Try.f129) (.s .n (.s .n (.s (.s .n (.l [(7, (.d (.int .i64)))] [] [0, 6] .n)) (.s (.s .n (.l [(8, (.d (.int .i64)))] [] [0, 6] (.s .n (.s (.s .n (.l [(9, (.d (.int .i64)))] [] [0, 6, 8] (.s .n (.s (.j [] [] [0, 6, 8, 9] (.s .n (.s .n (.l [(10, (.d (.int .i64)))] [] [0, 6, 8, 9] .n)))) .n)))) .n)))) .n)))) c_impl_Category_fault x K = W_impl_Category_fault x.1 K := by kernel_rfl
theorem k_impl_Category_fault : okC Try.f129.ntmps (cutL [(5, 38)]) (bodyOf Try.f129) = true := by kernel_rfl
theorem m_impl_Category_fault (c : CategoryD) (hok : allP (okL c_impl_Category_fault.args (c, ()))) (hpre : allP (c_impl_Category_fault.pre (c, ()))) : W_impl_Category_fault c (fun r => r = c_impl_Category_fault.res (c, ())) := by
  simp only [c_impl_Category_fault, okL, T.oks, T.ok, ap, allP, true_and, and_true, implies_true] at hok hpre
  try dsimp only [T.den] at hok
  try dsimp only [T.den] at hpre
  unfold W_impl_Category_fault
  have S : ShapeP c := hpre
  have hlt := S.lt
  have hli := S.li
  have hlc := S.lc
  have hmm := S.m
  have resq : ∀ a b d e, faultR c = (a, b, d, e) → (a, b, d, e, ()) = c_impl_Category_fault.res (c, ()) := fun a b d e h => by simp only [c_impl_Category_fault, h]
  refine loop_ix (n := c.2.1.length) (fun f => scanR (faultI c) c.2.1.length 0 = scanR (faultI c) ((c.2.1.length : Int) - f).toNat f) (by omega) scan_0 ?_ ?_
  · intro f next h0 h1 hP hn hin
    try dsimp only
    obtain ⟨a1, a2, a3, a4⟩ := S.frm h0 h1
    obtain ⟨b1, b2, _, _⟩ := S.idn a1 a2
    obtain ⟨d1, d2, _, _⟩ := S.idn a3 a4
    have r1 := S.row _ b1 b2
    have r2 := S.row f h0 h1
    refine cnd_d (fun _ => ⟨h0, h1, by omega, by omega, by omega, by omega, h0, by omega, fun _ => by omega, fun _ => by omega, fun _ => by omega, cnd_of (fun hx => resq _ _ _ _ ?_) (fun hx => ⟨by rw [inK64]; (try dsimp only); omega, hn ?_⟩)⟩) (fun h => absurd h1 h)
    · have : faultI c f = some (1, f, 0, 0) := by unfold faultI; rw [if_pos]; simpa using hx
      unfold faultR; rw [hP, scan_s h1 this]; rfl
    · have : faultI c f = none := by unfold faultI; rw [if_neg]; simpa using hx
      rw [hP, scan_c h1 this]
  intro next hI hin
  rw [scan_n] at hI
  refine cnd_d (fun h => absurd h (by dsimp only; omega)) (fun _ => ?_)
  have hF : faultR c = orR (scanR (faultF c) c.2.1.length 0) (0, 0, 0, 0) := by unfold faultR; rw [hI]; rfl
  refine loop_ix (n := c.2.1.length) (fun f => scanR (faultF c) c.2.1.length 0 = scanR (faultF c) ((c.2.1.length : Int) - f).toNat f) (by omega) scan_0 ?_ ?_
  · intro f next h0 h1 hP hn hin
    try dsimp only
    refine cnd_d (fun _ => ?_) (fun h => absurd h1 h)
    have r1 := S.row f h0 h1
    refine loop_ix (n := c.2.1.length) (fun g => faultF c f = scanR (faultG c f) ((c.2.1.length : Int) - g).toNat g) (by omega) scan_0 ?_ ?_
    · intro g next3 g0 g1 hP3 hn3 hin3
      try dsimp only
      refine cnd_d (fun _ => ?_) (fun h => absurd g1 h)
      have r2 := S.row g g0 g1
      refine join_of (fun _ => faultG c f g = none) (fun _ hG => ⟨by rw [inK64]; (try dsimp only); omega, hn3 (by rw [hP3, scan_c g1 hG])⟩) (fun k hk => ?_)
      have hk' := hk ((), ())
      refine ⟨by omega, by omega, by omega, by omega, cnd_d (fun hx => hk' ?_) (fun hx => ?_)⟩
      · unfold faultG; rw [if_neg]; intro e; have := (S.comp h0 h1 g0 g1).2 e; omega
      have hfg := (S.comp h0 h1 g0 g1).1 (by omega)
      obtain ⟨y1, y2, _, _⟩ := S.yes h0 h1 g0 g1 hfg
      refine loop_ix (n := c.2.1.length) (fun h => faultG c f g = scanR (faultH c f g) ((c.2.1.length : Int) - h).toNat h) (by omega) (by unfold faultG; rw [if_pos hfg]; exact scan_0) ?_ ?_
      · intro h next4 i0 i1 hP4 hn4 hin4
        try dsimp only
        refine cnd_d (fun _ => ?_) (fun h => absurd i1 h)
        have r3 := S.row _ y1 y2
        have cgh := S.comp g0 g1 i0 i1
        have ygh := @ShapeP.yes c S g h g0 g1 i0 i1
        refine ⟨by omega, by omega, by omega, by omega, fun _ => by omega, fun _ => by omega, fun _ => by omega, fun he => ?_, cnd_of (fun hx => resq _ _ _ _ ?_) (fun hx => ⟨by rw [inK64]; (try dsimp only); omega, hn4 ?_⟩)⟩
        · have := ygh (cgh.1 (by simpa using he)); omega
        · have : faultH c f g h = some (2, f, g, h) := by unfold faultH; rw [if_pos]; rw [← cgh]; simpa using hx
          have e1 : faultG c f g = some (2, f, g, h) := by rw [hP4, scan_s i1 this]
          have e2 : faultF c f = some (2, f, g, h) := by rw [hP3, scan_s g1 e1]
          rw [hF, hP, scan_s h1 e2]; rfl
        · have : faultH c f g h = none := by unfold faultH; rw [if_neg]; rw [← cgh]; simpa using hx
          rw [hP4, scan_c i1 this]
      · intro next4 hP4 hin4
        rw [scan_n] at hP4
        exact cnd_d (fun h => absurd h (by dsimp only; omega)) (fun _ => hk' hP4)
    · intro next3 hP3 hin3
      rw [scan_n] at hP3
      exact cnd_d (fun h => absurd h (by dsimp only; omega)) (fun _ => ⟨by rw [inK64]; (try dsimp only); omega, hn (by rw [hP, scan_c h1 hP3])⟩)
  · intro next2 hP2 hin2
    rw [scan_n] at hP2
    refine cnd_d (fun h => absurd h (by dsimp only; omega)) (fun _ => resq _ _ _ _ ?_)
    rw [hF, hP2]; rfl
theorem ct_impl_Category_fault : CtOk Try.prog 129 c_impl_Category_fault :=
  ct_by (Φ := lkp [(60, c_impl_Category_arrows), (82, c_impl_Category_then)]) (good_cons ct_impl_Category_arrows (good_cons ct_impl_Category_then good_nil)) tab_ok (by kernel_rfl) (fn := Try.f129) (c := bodyOf Try.f129) (by kernel_rfl) (by kernel_rfl) (by kernel_rfl) c_impl_Category_fault rfl (.s .n (.s .n (.s (.s .n (.l [(7, (.d (.int .i64)))] [] [0, 6] .n)) (.s (.s .n (.l [(8, (.d (.int .i64)))] [] [0, 6] (.s .n (.s (.s .n (.l [(9, (.d (.int .i64)))] [] [0, 6, 8] (.s .n (.s (.j [] [] [0, 6, 8, 9] (.s .n (.s .n (.l [(10, (.d (.int .i64)))] [] [0, 6, 8, 9] .n)))) .n)))) .n)))) .n)))) (cutL [(5, 38)]) (by kernel_rfl) (by kernel_rfl) k_impl_Category_fault (by decide) (fun x K => W_impl_Category_fault x.1 K) w_impl_Category_fault (fun x h1 h2 => m_impl_Category_fault x.1 h1 h2)
def facR (c : CategoryD) (e m : List Int) (f : Int) : Bool := e.any fun a => m.any fun b => compR c a b == f
def factR (c : CategoryD) (e m : List Int) : Bool := allB c.2.1.length (facR c e m)
theorem sel_full {p : Int → Bool} : ∀ {n : Nat}, (selR n p).length = n ↔ allB n p = true
  | 0 => by simp [selR, allB]
  | n + 1 => by
    have h := sel_len (p := p) n
    have ih := @sel_full p n
    unfold selR allB
    cases hp : p n with
    | true => simp only [if_true, List.length_append, List.length_cons, List.length_nil, Bool.and_true]; rw [← ih]; omega
    | false => simp only [Bool.false_eq_true, if_false, Bool.and_false, iff_false]; omega

def c_impl_Category_factors : Ct := ⟨[(.pt CategoryT), (.sl (.int .i64)), (.sl (.int .i64))], [false, false, false], fun x => [ShapeP x.1, withinR x.2.1 x.1.2.1.length = true, withinR x.2.2.1 x.1.2.1.length = true], [(false, (.fz .bool))], fun x => (factR x.1 x.2.1 x.2.2.1, ()), false, none⟩
def W_impl_Category_factors (c : CategoryD) (e : List Int) (m : List Int) (K : Bool × Unit → Prop) : Prop := (((0 : Int) ≤ (((List.length c.2.1) : Nat) : Int)) ∧ (((((List.length c.2.1) : Nat) : Int) ≤ (((List.length c.2.1) : Nat) : Int)) ∧ (((((List.length c.2.1) : Nat) : Int) ≤ ((140737488355328 : Nat) : Int)) ∧ ((((((List.length c.2.1) : Nat) : Int) * ((1 : Nat) : Int)) ≤ ((140737488355328 : Nat) : Int)) ∧ (loopW (S := ((Unit × (Int × Unit)) × ((List Bool) × Unit))) (fun s => (fun next => ((inK IntKind.i64 s.1.2.1) → ((T.ok (T.sl T.bool) s.2.1) → (cnd (decide (s.1.2.1 < (((List.length e) : Nat) : Int))) (((0 : Int) ≤ s.1.2.1) ∧ ((s.1.2.1 < (((List.length e) : Nat) : Int)) ∧ (loopW (S := ((Unit × (Int × Unit)) × ((List Bool) × Unit))) (fun s1 => (fun next1 => ((inK IntKind.i64 s1.1.2.1) → ((T.ok (T.sl T.bool) s1.2.1) → (cnd (decide (s1.1.2.1 < (((List.length m) : Nat) : Int))) (((0 : Int) ≤ s1.1.2.1) ∧ ((s1.1.2.1 < (((List.length m) : Nat) : Int)) ∧ (((0 : Int) ≤ (List.getD e (Int.toNat s.1.2.1) (0 : Int))) ∧ (((List.getD e (Int.toNat s.1.2.1) (0 : Int)) < (((List.length c.2.2.2.2) : Nat) : Int)) ∧ (((0 : Int) ≤ (List.getD m (Int.toNat s1.1.2.1) (0 : Int))) ∧ (((List.getD m (Int.toNat s1.1.2.1) (0 : Int)) < (((List.length (List.getD c.2.2.2.2 (Int.toNat (List.getD e (Int.toNat s.1.2.1) (0 : Int))) ([] : List Int))) : Nat) : Int)) ∧ (joinW (S := ((Unit × Unit) × ((List Bool) × Unit))) (fun s2 => ((T.ok (T.sl T.bool) s2.2.1) → ((inK IntKind.i64 (s1.1.2.1 + (1 : Int))) ∧ (next1 (((), ((s1.1.2.1 + (1 : Int)), ())), (s2.2.1, ())))))) (fun k => (cnd (decide ((0 : Int) ≤ (compR c (List.getD e (Int.toNat s.1.2.1) (0 : Int)) (List.getD m (Int.toNat s1.1.2.1) (0 : Int))))) (((0 : Int) ≤ (compR c (List.getD e (Int.toNat s.1.2.1) (0 : Int)) (List.getD m (Int.toNat s1.1.2.1) (0 : Int)))) ∧ (((compR c (List.getD e (Int.toNat s.1.2.1) (0 : Int)) (List.getD m (Int.toNat s1.1.2.1) (0 : Int))) < (((List.length s1.2.1) : Nat) : Int)) ∧ (k (((), ()), ((List.set s1.2.1 (Int.toNat (compR c (List.getD e (Int.toNat s.1.2.1) (0 : Int)) (List.getD m (Int.toNat s1.1.2.1) (0 : Int)))) Bool.true), ()))))) (k (((), ()), (s1.2.1, ())))))))))))) ((inK IntKind.i64 (s.1.2.1 + (1 : Int))) ∧ (next (((), ((s.1.2.1 + (1 : Int)), ())), (s1.2.1, ()))))))))) (((), ((0 : Int), ())), (s.2.1, ()))))) (((List.length s.2.1) ≤ 1099511627776) ∧ (K (((((List.length (selR (List.length s.2.1) (fun i => (List.getD s.2.1 (Int.toNat i) Bool.false)))) : Nat) : Int) == (((List.length c.2.1) : Nat) : Int)), ())))))))) (((), ((0 : Int), ())), ((List.replicate (Int.toNat (((List.length c.2.1) : Nat) : Int)) Bool.false), ())))))))
theorem w_impl_Category_factors (x : denL c_impl_Category_factors.args) (K : Bool × Unit → Prop) : evF tab (lkp [(60, c_impl_Category_arrows), (82, c_impl_Category_then), (98, c_impl_marked)]) (cutL []) Try.f111 (bodyOf Try.f111) (.s .n (.s .n (.s (.s .n (.l [(7, (.ref 15 [])), (18, (.d (.int .i64)))] [(15, (.sl (.fz .bool)))] [0, 2, 16, 17] (.s .n (.s .n (.s (.s .n (.s .n (.l [(7, (.ref 15 [])), (24, (.d (.int .i64)))] [(15, (.sl (.fz .bool)))] [0, 2, 9, 16, 17, 18, 22, 23] (.s .n (.s .n (.s (.s .n (.s .n (.s .n (.j [(7, (.ref 15 []))] [(15, (.sl (.fz .bool)))] [0, 2, 9, 16, 17, 18, 22, 23, 24] .n)))) .n)))))) .n))))) .n))) c_impl_Category_factors x K = W_impl_Category_factors x.1 x.2.1 x.2.2.1 K := by kernel_rfl
theorem k_impl_Category_factors : okC Try.f111.ntmps (cutL []) (bodyOf Try.f111) = true := by kernel_rfl
theorem m_impl_Category_factors (c : CategoryD) (e : List Int) (m : List Int) (hok : allP (okL c_impl_Category_factors.args (c, e, m, ()))) (hpre : allP (c_impl_Category_factors.pre (c, e, m, ()))) : W_impl_Category_factors c e m (fun r => r = c_impl_Category_factors.res (c, e, m, ())) := by
  simp only [c_impl_Category_factors, okL, T.oks, T.ok, ap, allP, true_and, and_true, implies_true] at hok hpre
  try dsimp only [T.den] at hok
  try dsimp only [T.den] at hpre
  unfold W_impl_Category_factors
  obtain ⟨S, hwe, hwm⟩ := hpre
  have hlt := S.lt
  have hlc := S.lc
  have hmm := S.m
  rw [within_iff] at hwe hwm
  have hel : e.length ≤ 140737488355328 := by simp only [nb_eq] at hok; omega
  have hml : m.length ≤ 140737488355328 := by simp only [nb_eq] at hok; omega
  clear hok
  generalize hn : c.2.1.length = n at *
  refine ⟨by omega, by omega, by omega, by omega, ?_⟩
  simp only [Int.toNat_natCast, tab_rep]
  refine loop_ixa (fun i => tabN n fun y => (e.take i.toNat).any fun a => m.any fun b => compR c a b == y) (n := e.length) (by omega) (tabN_congr fun _ _ _ => rfl) ?_ ?_
  · intro i next i0 i1 hnx _ _
    try dsimp only
    obtain ⟨a0, a1⟩ := hwe i i0 i1
    have hat := fun p => @any_take Int p e 0 i i0 i1
    simp only [hat] at hnx
    generalize e.getD i.toNat 0 = a at *
    have hra := S.row a a0 (by omega)
    refine cnd_d (fun _ => ⟨i0, i1, ?_⟩) (fun h => absurd i1 h)
    refine loop_ixa (fun j => tabN n fun y => ((e.take i.toNat).any fun a => m.any fun b => compR c a b == y) || (m.take j.toNat).any fun b => compR c a b == y) (n := m.length) (by omega) (tabN_congr fun _ _ _ => by simp) ?_ ?_
    · intro j next2 j0 j1 hn2 _ _
      try dsimp only
      obtain ⟨b0, b1⟩ := hwm j j0 j1
      have hbt := fun p => @any_take Int p m 0 j j0 j1
      simp only [hbt] at hn2
      generalize m.getD j.toNat 0 = b at *
      refine cnd_d (fun _ => ?_) (fun h => absurd j1 h)
      (repeat' (with_reducible apply And.intro)) <;> (first | omega | assumption | (intro _; (repeat' (with_reducible apply And.intro)) <;> first | omega | assumption) | (rw [inK64]; (try dsimp only); omega) | skip)
      have hcmp := S.comp a0 (by omega) b0 (by omega)
      refine join_of (fun s => s.2.1 = tabN n fun y => ((e.take i.toNat).any fun a => m.any fun b => compR c a b == y) || ((m.take j.toNat).any (fun b => compR c a b == y) || compR c a b == y)) (fun s hs _ => ⟨by rw [inK64]; (try dsimp only); omega, by rw [hs]; exact hn2⟩) (fun k hk => cnd_d (fun he => ?_) (fun he => hk _ ?_))
      · obtain ⟨_, y1, _, _⟩ := S.yes a0 (by omega) b0 (by omega) (hcmp.1 he)
        rw [tabN_len]
        refine ⟨he, by omega, hk _ ?_⟩
        try dsimp only
        rw [tab_mark he (by omega)]
        exact tabN_congr fun y _ _ => by rw [Bool.or_assoc]
      · refine tabN_congr fun y y0 _ => ?_
        have : (compR c a b == y) = false := by rw [beq_eq_false_iff_ne]; omega
        rw [this, Bool.or_false]
    · intro next2 _ _
      refine cnd_d (fun h => absurd h (by dsimp only; omega)) (fun _ => ⟨by rw [inK64]; (try dsimp only); omega, ?_⟩)
      rw [take_n _ (Int.le_refl _)]
      exact hnx
  · intro next _ _
    refine cnd_d (fun h => absurd h (by dsimp only; omega)) (fun _ => ?_)
    rw [sel_tab, take_n _ (Int.le_refl _)]
    refine ⟨by simp only [tabN_len]; omega, ?_⟩
    have hsf := @sel_full (fun y => e.any fun a => m.any fun b => compR c a b == y) n
    simp only [c_impl_Category_factors, factR, hn]
    have h2 : (((((selR n fun y => e.any fun a => m.any fun b => compR c a b == y).length : Nat) : Int)) == ((n : Nat) : Int)) = allB n (facR c e m) := by
      rw [Bool.eq_iff_iff, beq_iff_eq, Int.ofNat_inj]
      exact hsf
    rw [h2]
theorem ct_impl_Category_factors : CtOk Try.prog 111 c_impl_Category_factors :=
  ct_by (Φ := lkp [(60, c_impl_Category_arrows), (82, c_impl_Category_then), (98, c_impl_marked)]) (good_cons ct_impl_Category_arrows (good_cons ct_impl_Category_then (good_cons ct_impl_marked good_nil))) tab_ok (by kernel_rfl) (fn := Try.f111) (c := bodyOf Try.f111) (by kernel_rfl) (by kernel_rfl) (by kernel_rfl) c_impl_Category_factors rfl (.s .n (.s .n (.s (.s .n (.l [(7, (.ref 15 [])), (18, (.d (.int .i64)))] [(15, (.sl (.fz .bool)))] [0, 2, 16, 17] (.s .n (.s .n (.s (.s .n (.s .n (.l [(7, (.ref 15 [])), (24, (.d (.int .i64)))] [(15, (.sl (.fz .bool)))] [0, 2, 9, 16, 17, 18, 22, 23] (.s .n (.s .n (.s (.s .n (.s .n (.s .n (.j [(7, (.ref 15 []))] [(15, (.sl (.fz .bool)))] [0, 2, 9, 16, 17, 18, 22, 23, 24] .n)))) .n)))))) .n))))) .n))) (cutL []) (by kernel_rfl) (by kernel_rfl) k_impl_Category_factors (by decide) (fun x K => W_impl_Category_factors x.1 x.2.1 x.2.2.1 K) w_impl_Category_factors (fun x h1 h2 => m_impl_Category_factors x.1 x.2.1 x.2.2.1 h1 h2)
def sqR (o : List (List Bool)) : Prop := ∀ e : Int, 0 ≤ e → e < o.length → (o.getD e.toNat []).length = o.length
def leftOR (o : List (List Bool)) (l : List Int) : List Int := selR o.length fun e => l.all fun m => (o.getD e.toNat []).getD m.toNat false

def c_impl_orthogonality_left : Ct := ⟨[(.sl (.sl .bool)), (.sl (.int .i64))], [false, false], fun x => [sqR x.1, x.1.length ≤ 1099511627776, withinR x.2.1 x.1.length = true], [(false, (.sl (.fz (.int .i64))))], fun x => (leftOR x.1 x.2.1, ()), false, none⟩
def W_impl_orthogonality_left (o : List (List Bool)) (class_ : List Int) (K : (List Int) × Unit → Prop) : Prop := (((0 : Int) ≤ (((List.length o) : Nat) : Int)) ∧ (((((List.length o) : Nat) : Int) ≤ (((List.length o) : Nat) : Int)) ∧ (((((List.length o) : Nat) : Int) ≤ ((140737488355328 : Nat) : Int)) ∧ ((((((List.length o) : Nat) : Int) * ((1 : Nat) : Int)) ≤ ((140737488355328 : Nat) : Int)) ∧ (loopW (S := ((Unit × (Int × Unit)) × ((List Bool) × Unit))) (fun s => (fun next => ((inK IntKind.i64 s.1.2.1) → ((T.ok (T.sl T.bool) s.2.1) → (cnd (decide (s.1.2.1 < (((List.length o) : Nat) : Int))) (((0 : Int) ≤ s.1.2.1) ∧ ((s.1.2.1 < (((List.length s.2.1) : Nat) : Int)) ∧ (loopW (S := ((Unit × (Int × Unit)) × ((List Bool) × Unit))) (fun s1 => (fun next1 => ((inK IntKind.i64 s1.1.2.1) → ((T.ok (T.sl T.bool) s1.2.1) → (cnd (decide (s1.1.2.1 < (((List.length class_) : Nat) : Int))) (((0 : Int) ≤ s1.1.2.1) ∧ ((s1.1.2.1 < (((List.length class_) : Nat) : Int)) ∧ (((0 : Int) ≤ s.1.2.1) ∧ ((s.1.2.1 < (((List.length s1.2.1) : Nat) : Int)) ∧ ((((List.getD s1.2.1 (Int.toNat s.1.2.1) Bool.false) = Bool.true) → ((s.1.2.1 < (((List.length o) : Nat) : Int)) ∧ ((0 : Int) ≤ s.1.2.1))) ∧ ((((List.getD s1.2.1 (Int.toNat s.1.2.1) Bool.false) = Bool.true) → (((List.getD class_ (Int.toNat s1.1.2.1) (0 : Int)) < (((List.length (List.getD o (Int.toNat s.1.2.1) ([] : List Bool))) : Nat) : Int)) ∧ ((0 : Int) ≤ (List.getD class_ (Int.toNat s1.1.2.1) (0 : Int))))) ∧ (((0 : Int) ≤ s.1.2.1) ∧ ((s.1.2.1 < (((List.length s1.2.1) : Nat) : Int)) ∧ ((inK IntKind.i64 (s1.1.2.1 + (1 : Int))) ∧ (next1 (((), ((s1.1.2.1 + (1 : Int)), ())), ((List.set s1.2.1 (Int.toNat s.1.2.1) ((List.getD s1.2.1 (Int.toNat s.1.2.1) Bool.false) && (List.getD (List.getD o (Int.toNat s.1.2.1) ([] : List Bool)) (Int.toNat (List.getD class_ (Int.toNat s1.1.2.1) (0 : Int))) Bool.false))), ())))))))))))) ((inK IntKind.i64 (s.1.2.1 + (1 : Int))) ∧ (next (((), ((s.1.2.1 + (1 : Int)), ())), (s1.2.1, ()))))))))) (((), ((0 : Int), ())), ((List.set s.2.1 (Int.toNat s.1.2.1) Bool.true), ()))))) (((List.length s.2.1) ≤ 1099511627776) ∧ (K ((selR (List.length s.2.1) (fun i => (List.getD s.2.1 (Int.toNat i) Bool.false))), ())))))))) (((), ((0 : Int), ())), ((List.replicate (Int.toNat (((List.length o) : Nat) : Int)) Bool.false), ())))))))
theorem w_impl_orthogonality_left (x : denL c_impl_orthogonality_left.args) (K : (List Int) × Unit → Prop) : evF tab (lkp [(98, c_impl_marked)]) (cutL []) Try.f75 (bodyOf Try.f75) (.s .n (.s .n (.s (.s .n (.l [(5, (.ref 11 [])), (14, (.d (.int .i64)))] [(11, (.sl (.fz .bool)))] [0, 1, 13] (.s .n (.s .n (.s (.s .n (.s .n (.s .n (.l [(5, (.ref 11 [])), (22, (.d (.int .i64)))] [(11, (.sl (.fz .bool)))] [0, 1, 6, 13, 14, 20, 21] .n)))) .n))))) .n))) c_impl_orthogonality_left x K = W_impl_orthogonality_left x.1 x.2.1 K := by kernel_rfl
theorem k_impl_orthogonality_left : okC Try.f75.ntmps (cutL []) (bodyOf Try.f75) = true := by kernel_rfl
theorem m_impl_orthogonality_left (o : List (List Bool)) (class_ : List Int) (hok : allP (okL c_impl_orthogonality_left.args (o, class_, ()))) (hpre : allP (c_impl_orthogonality_left.pre (o, class_, ()))) : W_impl_orthogonality_left o class_ (fun r => r = c_impl_orthogonality_left.res (o, class_, ())) := by
  simp only [c_impl_orthogonality_left, okL, T.oks, T.ok, ap, allP, true_and, and_true, implies_true] at hok hpre
  try dsimp only [T.den] at hok
  try dsimp only [T.den] at hpre
  unfold W_impl_orthogonality_left
  obtain ⟨hsq, hsm0, hw⟩ := hpre
  rw [within_iff] at hw
  unfold sqR at hsq
  have hol : o.length ≤ 140737488355328 := by simp only [nb_eq] at hok; omega
  have hcl : class_.length ≤ 140737488355328 := by simp only [nb_eq] at hok; omega
  have hsm : o.length ≤ 1099511627776 := hsm0
  clear hok
  generalize hn : o.length = n at *
  refine ⟨by omega, by omega, by omega, by omega, ?_⟩
  simp only [Int.toNat_natCast, tab_rep]
  refine loop_ixa (fun i => tabN n fun y => decide (y < i) && class_.all fun q => ((o.getD y.toNat []).getD q.toNat false)) (n := n) (by omega) (tabN_congr fun e h0 _ => by rw [decide_eq_false (by omega)]; rfl) ?_ ?_
  · intro i next i0 i1 hnx _ _
    try dsimp only
    refine cnd_d (fun _ => ?_) (fun h => absurd i1 h)
    rw [tab_set i0 i1]
    simp only [tabN_len]
    (repeat' (with_reducible apply And.intro)) <;> (first | omega | assumption | (intro _; (repeat' (with_reducible apply And.intro)) <;> first | omega | assumption) | (rw [inK64]; (try dsimp only); omega) | skip)
    refine loop_ixa (fun j => tabN n fun y => if y = i then ((class_.take j.toNat).all fun q => ((o.getD y.toNat []).getD q.toNat false)) else decide (y < i) && class_.all fun q => ((o.getD y.toNat []).getD q.toNat false)) (n := class_.length) (by omega) (tabN_congr fun e h0 _ => ?_) ?_ ?_
    · try dsimp only
      split
      · simp
      · rfl
    · intro j next2 j0 j1 hn2 _ _
      try dsimp only
      obtain ⟨q0, q1⟩ := hw j j0 j1
      have hr1 := hsq i i0 i1
      have hr2 := hsq _ q0 q1
      have hat := fun p => @all_take Int p class_ 0 j j0 j1
      simp only [hat] at hn2
      simp only [tabN_len, tabN_get (d := false) i0 i1, if_true]
      generalize class_.getD j.toNat 0 = q at *
      refine cnd_d (fun _ => ?_) (fun h => absurd j1 h)
      (repeat' (with_reducible apply And.intro)) <;> (first | omega | assumption | (intro _; (repeat' (with_reducible apply And.intro)) <;> first | omega | assumption) | (rw [inK64]; (try dsimp only); omega) | skip)
      rw [tab_set i0 i1]
      refine (congrArg (fun z => next2 (((), (j + 1, ())), (z, ()))) (tabN_congr fun e h0 _ => ?_)).mp hn2
      try dsimp only
      by_cases e1 : e = i
      · rw [if_pos e1, if_pos e1, e1]
      · rw [if_neg e1, if_neg e1, if_neg e1]
    · intro next2 _ _
      refine cnd_d (fun h => absurd h (by dsimp only; omega)) (fun _ => ⟨by rw [inK64]; (try dsimp only); omega, ?_⟩)
      refine (congrArg (fun z => next (((), (i + 1, ())), (z, ()))) (tabN_congr fun e h0 _ => ?_)).mp hnx
      try dsimp only
      rw [take_n _ (Int.le_refl _)]
      by_cases e1 : e = i
      · rw [if_pos e1, decide_eq_true (by omega), Bool.true_and]
      · rw [if_neg e1]
        by_cases e2 : e < i
        · rw [decide_eq_true (by omega), decide_eq_true e2]
        · rw [decide_eq_false (by omega), decide_eq_false e2]
  · intro next _ _
    refine cnd_d (fun h => absurd h (by dsimp only; omega)) (fun _ => ?_)
    rw [sel_tab]
    refine ⟨by simp only [tabN_len]; omega, ?_⟩
    simp only [c_impl_orthogonality_left, leftOR, hn]
    rw [sel_congr fun y _ y1 => by rw [decide_eq_true (by omega), Bool.true_and]]
theorem ct_impl_orthogonality_left : CtOk Try.prog 75 c_impl_orthogonality_left :=
  ct_by (Φ := lkp [(98, c_impl_marked)]) (good_cons ct_impl_marked good_nil) tab_ok (by kernel_rfl) (fn := Try.f75) (c := bodyOf Try.f75) (by kernel_rfl) (by kernel_rfl) (by kernel_rfl) c_impl_orthogonality_left rfl (.s .n (.s .n (.s (.s .n (.l [(5, (.ref 11 [])), (14, (.d (.int .i64)))] [(11, (.sl (.fz .bool)))] [0, 1, 13] (.s .n (.s .n (.s (.s .n (.s .n (.s .n (.l [(5, (.ref 11 [])), (22, (.d (.int .i64)))] [(11, (.sl (.fz .bool)))] [0, 1, 6, 13, 14, 20, 21] .n)))) .n))))) .n))) (cutL []) (by kernel_rfl) (by kernel_rfl) k_impl_orthogonality_left (by decide) (fun x K => W_impl_orthogonality_left x.1 x.2.1 K) w_impl_orthogonality_left (fun x h1 h2 => m_impl_orthogonality_left x.1 x.2.1 h1 h2)
def rightOR (o : List (List Bool)) (l : List Int) : List Int := selR o.length fun m => l.all fun e => (o.getD e.toNat []).getD m.toNat false

def c_impl_orthogonality_right : Ct := ⟨[(.sl (.sl .bool)), (.sl (.int .i64))], [false, false], fun x => [sqR x.1, x.1.length ≤ 1099511627776, withinR x.2.1 x.1.length = true], [(false, (.sl (.fz (.int .i64))))], fun x => (rightOR x.1 x.2.1, ()), false, none⟩
def W_impl_orthogonality_right (o : List (List Bool)) (class_ : List Int) (K : (List Int) × Unit → Prop) : Prop := (((0 : Int) ≤ (((List.length o) : Nat) : Int)) ∧ (((((List.length o) : Nat) : Int) ≤ (((List.length o) : Nat) : Int)) ∧ (((((List.length o) : Nat) : Int) ≤ ((140737488355328 : Nat) : Int)) ∧ ((((((List.length o) : Nat) : Int) * ((1 : Nat) : Int)) ≤ ((140737488355328 : Nat) : Int)) ∧ (loopW (S := ((Unit × (Int × Unit)) × ((List Bool) × Unit))) (fun s => (fun next => ((inK IntKind.i64 s.1.2.1) → ((T.ok (T.sl T.bool) s.2.1) → (cnd (decide (s.1.2.1 < (((List.length o) : Nat) : Int))) (((0 : Int) ≤ s.1.2.1) ∧ ((s.1.2.1 < (((List.length s.2.1) : Nat) : Int)) ∧ (loopW (S := ((Unit × (Int × Unit)) × ((List Bool) × Unit))) (fun s1 => (fun next1 => ((inK IntKind.i64 s1.1.2.1) → ((T.ok (T.sl T.bool) s1.2.1) → (cnd (decide (s1.1.2.1 < (((List.length class_) : Nat) : Int))) (((0 : Int) ≤ s1.1.2.1) ∧ ((s1.1.2.1 < (((List.length class_) : Nat) : Int)) ∧ (((0 : Int) ≤ s.1.2.1) ∧ ((s.1.2.1 < (((List.length s1.2.1) : Nat) : Int)) ∧ ((((List.getD s1.2.1 (Int.toNat s.1.2.1) Bool.false) = Bool.true) → (((List.getD class_ (Int.toNat s1.1.2.1) (0 : Int)) < (((List.length o) : Nat) : Int)) ∧ ((0 : Int) ≤ (List.getD class_ (Int.toNat s1.1.2.1) (0 : Int))))) ∧ ((((List.getD s1.2.1 (Int.toNat s.1.2.1) Bool.false) = Bool.true) → ((s.1.2.1 < (((List.length (List.getD o (Int.toNat (List.getD class_ (Int.toNat s1.1.2.1) (0 : Int))) ([] : List Bool))) : Nat) : Int)) ∧ ((0 : Int) ≤ s.1.2.1))) ∧ (((0 : Int) ≤ s.1.2.1) ∧ ((s.1.2.1 < (((List.length s1.2.1) : Nat) : Int)) ∧ ((inK IntKind.i64 (s1.1.2.1 + (1 : Int))) ∧ (next1 (((), ((s1.1.2.1 + (1 : Int)), ())), ((List.set s1.2.1 (Int.toNat s.1.2.1) ((List.getD s1.2.1 (Int.toNat s.1.2.1) Bool.false) && (List.getD (List.getD o (Int.toNat (List.getD class_ (Int.toNat s1.1.2.1) (0 : Int))) ([] : List Bool)) (Int.toNat s.1.2.1) Bool.false))), ())))))))))))) ((inK IntKind.i64 (s.1.2.1 + (1 : Int))) ∧ (next (((), ((s.1.2.1 + (1 : Int)), ())), (s1.2.1, ()))))))))) (((), ((0 : Int), ())), ((List.set s.2.1 (Int.toNat s.1.2.1) Bool.true), ()))))) (((List.length s.2.1) ≤ 1099511627776) ∧ (K ((selR (List.length s.2.1) (fun i => (List.getD s.2.1 (Int.toNat i) Bool.false))), ())))))))) (((), ((0 : Int), ())), ((List.replicate (Int.toNat (((List.length o) : Nat) : Int)) Bool.false), ())))))))
theorem w_impl_orthogonality_right (x : denL c_impl_orthogonality_right.args) (K : (List Int) × Unit → Prop) : evF tab (lkp [(98, c_impl_marked)]) (cutL []) Try.f77 (bodyOf Try.f77) (.s .n (.s .n (.s (.s .n (.l [(5, (.ref 11 [])), (14, (.d (.int .i64)))] [(11, (.sl (.fz .bool)))] [0, 1, 13] (.s .n (.s .n (.s (.s .n (.s .n (.s .n (.l [(5, (.ref 11 [])), (22, (.d (.int .i64)))] [(11, (.sl (.fz .bool)))] [0, 1, 6, 13, 14, 20, 21] .n)))) .n))))) .n))) c_impl_orthogonality_right x K = W_impl_orthogonality_right x.1 x.2.1 K := by kernel_rfl
theorem k_impl_orthogonality_right : okC Try.f77.ntmps (cutL []) (bodyOf Try.f77) = true := by kernel_rfl
theorem m_impl_orthogonality_right (o : List (List Bool)) (class_ : List Int) (hok : allP (okL c_impl_orthogonality_right.args (o, class_, ()))) (hpre : allP (c_impl_orthogonality_right.pre (o, class_, ()))) : W_impl_orthogonality_right o class_ (fun r => r = c_impl_orthogonality_right.res (o, class_, ())) := by
  simp only [c_impl_orthogonality_right, okL, T.oks, T.ok, ap, allP, true_and, and_true, implies_true] at hok hpre
  try dsimp only [T.den] at hok
  try dsimp only [T.den] at hpre
  unfold W_impl_orthogonality_right
  obtain ⟨hsq, hsm0, hw⟩ := hpre
  rw [within_iff] at hw
  unfold sqR at hsq
  have hol : o.length ≤ 140737488355328 := by simp only [nb_eq] at hok; omega
  have hcl : class_.length ≤ 140737488355328 := by simp only [nb_eq] at hok; omega
  have hsm : o.length ≤ 1099511627776 := hsm0
  clear hok
  generalize hn : o.length = n at *
  refine ⟨by omega, by omega, by omega, by omega, ?_⟩
  simp only [Int.toNat_natCast, tab_rep]
  refine loop_ixa (fun i => tabN n fun y => decide (y < i) && class_.all fun q => ((o.getD q.toNat []).getD y.toNat false)) (n := n) (by omega) (tabN_congr fun e h0 _ => by rw [decide_eq_false (by omega)]; rfl) ?_ ?_
  · intro i next i0 i1 hnx _ _
    try dsimp only
    refine cnd_d (fun _ => ?_) (fun h => absurd i1 h)
    rw [tab_set i0 i1]
    simp only [tabN_len]
    (repeat' (with_reducible apply And.intro)) <;> (first | omega | assumption | (intro _; (repeat' (with_reducible apply And.intro)) <;> first | omega | assumption) | (rw [inK64]; (try dsimp only); omega) | skip)
    refine loop_ixa (fun j => tabN n fun y => if y = i then ((class_.take j.toNat).all fun q => ((o.getD q.toNat []).getD y.toNat false)) else decide (y < i) && class_.all fun q => ((o.getD q.toNat []).getD y.toNat false)) (n := class_.length) (by omega) (tabN_congr fun e h0 _ => ?_) ?_ ?_
    · try dsimp only
      split
      · simp
      · rfl
    · intro j next2 j0 j1 hn2 _ _
      try dsimp only
      obtain ⟨q0, q1⟩ := hw j j0 j1
      have hr1 := hsq i i0 i1
      have hr2 := hsq _ q0 q1
      have hat := fun p => @all_take Int p class_ 0 j j0 j1
      simp only [hat] at hn2
      simp only [tabN_len, tabN_get (d := false) i0 i1, if_true]
      generalize class_.getD j.toNat 0 = q at *
      refine cnd_d (fun _ => ?_) (fun h => absurd j1 h)
      (repeat' (with_reducible apply And.intro)) <;> (first | omega | assumption | (intro _; (repeat' (with_reducible apply And.intro)) <;> first | omega | assumption) | (rw [inK64]; (try dsimp only); omega) | skip)
      rw [tab_set i0 i1]
      refine (congrArg (fun z => next2 (((), (j + 1, ())), (z, ()))) (tabN_congr fun e h0 _ => ?_)).mp hn2
      try dsimp only
      by_cases e1 : e = i
      · rw [if_pos e1, if_pos e1, e1]
      · rw [if_neg e1, if_neg e1, if_neg e1]
    · intro next2 _ _
      refine cnd_d (fun h => absurd h (by dsimp only; omega)) (fun _ => ⟨by rw [inK64]; (try dsimp only); omega, ?_⟩)
      refine (congrArg (fun z => next (((), (i + 1, ())), (z, ()))) (tabN_congr fun e h0 _ => ?_)).mp hnx
      try dsimp only
      rw [take_n _ (Int.le_refl _)]
      by_cases e1 : e = i
      · rw [if_pos e1, decide_eq_true (by omega), Bool.true_and]
      · rw [if_neg e1]
        by_cases e2 : e < i
        · rw [decide_eq_true (by omega), decide_eq_true e2]
        · rw [decide_eq_false (by omega), decide_eq_false e2]
  · intro next _ _
    refine cnd_d (fun h => absurd h (by dsimp only; omega)) (fun _ => ?_)
    rw [sel_tab]
    refine ⟨by simp only [tabN_len]; omega, ?_⟩
    simp only [c_impl_orthogonality_right, rightOR, hn]
    rw [sel_congr fun y _ y1 => by rw [decide_eq_true (by omega), Bool.true_and]]
theorem ct_impl_orthogonality_right : CtOk Try.prog 77 c_impl_orthogonality_right :=
  ct_by (Φ := lkp [(98, c_impl_marked)]) (good_cons ct_impl_marked good_nil) tab_ok (by kernel_rfl) (fn := Try.f77) (c := bodyOf Try.f77) (by kernel_rfl) (by kernel_rfl) (by kernel_rfl) c_impl_orthogonality_right rfl (.s .n (.s .n (.s (.s .n (.l [(5, (.ref 11 [])), (14, (.d (.int .i64)))] [(11, (.sl (.fz .bool)))] [0, 1, 13] (.s .n (.s .n (.s (.s .n (.s .n (.s .n (.l [(5, (.ref 11 [])), (22, (.d (.int .i64)))] [(11, (.sl (.fz .bool)))] [0, 1, 6, 13, 14, 20, 21] .n)))) .n))))) .n))) (cutL []) (by kernel_rfl) (by kernel_rfl) k_impl_orthogonality_right (by decide) (fun x K => W_impl_orthogonality_right x.1 x.2.1 K) w_impl_orthogonality_right (fun x h1 h2 => m_impl_orthogonality_right x.1 x.2.1 h1 h2)
def cmpLR : List Int → List Int → Int
  | [], [] => 0
  | [], _ :: _ => -1
  | _ :: _, [] => 1
  | x :: a, y :: b => if x = y then cmpLR a b else if x < y then -1 else 1
theorem cmpL_0 {a b : List Int} : cmpLR a b = 0 ↔ a = b := by
  induction a generalizing b with
  | nil => cases b <;> simp [cmpLR]
  | cons x a ih => cases b with
    | nil => simp [cmpLR]
    | cons y b =>
      simp only [cmpLR, List.cons.injEq]
      by_cases h : x = y
      · rw [if_pos h, ih]; simp [h]
      · rw [if_neg h]
        split <;> simp [h]

def c_impl_compare : Ct := ⟨[(.sl (.int .i64)), (.sl (.int .i64))], [false, false], fun x => [], [(false, (.fz (.int .i64)))], fun x => (cmpLR x.1 x.2.1, ()), false, none⟩
def W_impl_compare (a : List Int) (b : List Int) (K : Int × Unit → Prop) : Prop := (loopW (S := ((Int × Unit) × Unit)) (fun s => (fun next => ((inK IntKind.i64 s.1.1) → (cnd (decide (s.1.1 < (((List.length a) : Nat) : Int))) (cnd (s.1.1 == (((List.length b) : Nat) : Int)) (K ((1 : Int), ())) (((0 : Int) ≤ s.1.1) ∧ ((s.1.1 < (((List.length a) : Nat) : Int)) ∧ (((0 : Int) ≤ s.1.1) ∧ ((s.1.1 < (((List.length b) : Nat) : Int)) ∧ (cnd ((List.getD a (Int.toNat s.1.1) (0 : Int)) != (List.getD b (Int.toNat s.1.1) (0 : Int))) (((0 : Int) ≤ s.1.1) ∧ ((s.1.1 < (((List.length a) : Nat) : Int)) ∧ (((0 : Int) ≤ s.1.1) ∧ ((s.1.1 < (((List.length b) : Nat) : Int)) ∧ (cnd (decide ((List.getD a (Int.toNat s.1.1) (0 : Int)) < (List.getD b (Int.toNat s.1.1) (0 : Int)))) (K ((-(1 : Int)), ())) (K ((1 : Int), ()))))))) ((inK IntKind.i64 (s.1.1 + (1 : Int))) ∧ (next (((s.1.1 + (1 : Int)), ()), ()))))))))) (cnd (decide ((((List.length a) : Nat) : Int) < (((List.length b) : Nat) : Int))) (K ((-(1 : Int)), ())) (K ((0 : Int), ()))))))) (((0 : Int), ()), ()))
theorem w_impl_compare (x : denL c_impl_compare.args) (K : Int × Unit → Prop) : evF tab (lkp []) (cutL [(6, 9), (7, 9)]) Try.f134 (bodyOf Try.f134) (.s .n (.s (.s .n (.l [(8, (.d (.int .i64)))] [] [0, 1, 7] .n)) .n)) c_impl_compare x K = W_impl_compare x.1 x.2.1 K := by kernel_rfl
theorem k_impl_compare : okC Try.f134.ntmps (cutL [(6, 9), (7, 9)]) (bodyOf Try.f134) = true := by kernel_rfl
theorem m_impl_compare (a : List Int) (b : List Int) (hok : allP (okL c_impl_compare.args (a, b, ()))) (hpre : allP (c_impl_compare.pre (a, b, ()))) : W_impl_compare a b (fun r => r = c_impl_compare.res (a, b, ())) := by
  simp only [c_impl_compare, okL, T.oks, T.ok, ap, allP, true_and, and_true, implies_true] at hok hpre
  try dsimp only [T.den] at hok
  try dsimp only [T.den] at hpre
  unfold W_impl_compare
  have ha : a.length ≤ 140737488355328 := by simp only [nb_eq] at hok; omega
  clear hok
  refine loop_ix (n := a.length) (fun i => i ≤ b.length ∧ cmpLR a b = cmpLR (a.drop i.toNat) (b.drop i.toNat)) (by omega) ⟨by omega, by simp⟩ ?_ ?_
  · intro i next i0 i1 hP hn hin
    obtain ⟨hb, hP⟩ := hP
    rw [drop_c a 0 i0 i1] at hP
    refine cnd_d (fun _ => cnd_of (fun h => ?_) (fun h => ?_)) (fun h => absurd i1 h)
    · rw [beq_iff_eq] at h
      rw [drop_n b (by dsimp only at h; omega)] at hP
      simp only [c_impl_compare, hP, cmpLR]
    · rw [beq_eq_false_iff_ne] at h
      try dsimp only at h ⊢
      rw [drop_c b 0 i0 (by omega)] at hP
      simp only [cmpLR] at hP
      have hiK : inK .i64 (i + 1) := by rw [inK64]; (try dsimp only); omega
      refine ⟨i0, i1, i0, by omega, cnd_of (fun h1 => ?_) (fun h1 => ?_)⟩
      · rw [bne_iff_ne] at h1
        rw [if_neg h1] at hP
        refine ⟨i0, i1, i0, by omega, cnd_d (fun h2 => ?_) (fun h2 => ?_)⟩
        · rw [if_pos h2] at hP; simp only [c_impl_compare, hP]
        · rw [if_neg h2] at hP; simp only [c_impl_compare, hP]
      · rw [bne_eq_false_iff_eq] at h1
        rw [if_pos h1] at hP
        exact ⟨hiK, hn ⟨by omega, hP⟩⟩
  · intro next hP hin
    obtain ⟨hb, hP⟩ := hP
    rw [drop_n a (Int.le_refl _)] at hP
    refine cnd_d (fun h => absurd h (by dsimp only; omega)) (fun _ => cnd_d (fun h => ?_) (fun h => ?_))
    · rw [drop_c b 0 (by omega) h] at hP
      simp only [c_impl_compare, hP, cmpLR]
    · rw [drop_n b (by omega)] at hP
      simp only [c_impl_compare, hP, cmpLR]
theorem ct_impl_compare : CtOk Try.prog 134 c_impl_compare :=
  ct_by (Φ := lkp []) good_nil tab_ok (by kernel_rfl) (fn := Try.f134) (c := bodyOf Try.f134) (by kernel_rfl) (by kernel_rfl) (by kernel_rfl) c_impl_compare rfl (.s .n (.s (.s .n (.l [(8, (.d (.int .i64)))] [] [0, 1, 7] .n)) .n)) (cutL [(6, 9), (7, 9)]) (by kernel_rfl) (by kernel_rfl) k_impl_compare (by decide) (fun x K => W_impl_compare x.1 x.2.1 K) w_impl_compare (fun x h1 h2 => m_impl_compare x.1 x.2.1 h1 h2)
def c_impl_same : Ct := ⟨[(.sl (.int .i64)), (.sl (.int .i64))], [false, false], fun x => [], [(false, (.fz .bool))], fun x => (eqR (.sl (.int .i64)) x.1 x.2.1, ()), false, none⟩
def W_impl_same (a : List Int) (b : List Int) (K : Bool × Unit → Prop) : Prop := (K (((cmpLR a b) == (0 : Int)), ()))
theorem w_impl_same (x : denL c_impl_same.args) (K : Bool × Unit → Prop) : evF tab (lkp [(134, c_impl_compare)]) (cutL []) Try.f110 (bodyOf Try.f110) .n c_impl_same x K = W_impl_same x.1 x.2.1 K := by kernel_rfl
theorem k_impl_same : okC Try.f110.ntmps (cutL []) (bodyOf Try.f110) = true := by kernel_rfl
theorem m_impl_same (a : List Int) (b : List Int) (hok : allP (okL c_impl_same.args (a, b, ()))) (hpre : allP (c_impl_same.pre (a, b, ()))) : W_impl_same a b (fun r => r = c_impl_same.res (a, b, ())) := by
  simp only [c_impl_same, okL, T.oks, T.ok, ap, allP, true_and, and_true, implies_true] at hok hpre
  try dsimp only [T.den] at hok
  try dsimp only [T.den] at hpre
  unfold W_impl_same
  have h := @cmpL_0 a b
  have h2 : (cmpLR a b == 0) = eqR (.sl (.int .i64)) a b := by
    rw [Bool.eq_iff_iff, beq_iff_eq, h, eqR_iff]
  simp only [c_impl_same, h2]
theorem ct_impl_same : CtOk Try.prog 110 c_impl_same :=
  ct_by (Φ := lkp [(134, c_impl_compare)]) (good_cons ct_impl_compare good_nil) tab_ok (by kernel_rfl) (fn := Try.f110) (c := bodyOf Try.f110) (by kernel_rfl) (by kernel_rfl) (by kernel_rfl) c_impl_same rfl .n (cutL []) (by kernel_rfl) (by kernel_rfl) k_impl_same (by decide) (fun x K => W_impl_same x.1 x.2.1 K) w_impl_same (fun x h1 h2 => m_impl_same x.1 x.2.1 h1 h2)
/-- the arrows from x to y -/
def homR (c : CategoryD) (x y : Int) : List Int := selR c.2.1.length fun f => c.2.1.getD f.toNat 0 == x && c.2.2.1.getD f.toNat 0 == y
theorem hom_mem {c : CategoryD} {x y g : Int} : g ∈ homR c x y ↔ 0 ≤ g ∧ g < c.2.1.length ∧ c.2.1.getD g.toNat 0 = x ∧ c.2.2.1.getD g.toNat 0 = y := by
  unfold homR; rw [sel_mem, Bool.and_eq_true, beq_iff_eq, beq_iff_eq]

def c_impl_Category_hom : Ct := ⟨[(.pt CategoryT), (.int .i64), (.int .i64)], [false, false, false], fun x => [x.1.2.1.length ≤ 40, x.1.2.2.1.length = x.1.2.1.length], [(false, (.sl (.fz (.int .i64))))], fun x => (homR x.1 x.2.1 x.2.2.1, ()), false, none⟩
def W_impl_Category_hom (c : CategoryD) (x : Int) (y : Int) (K : (List Int) × Unit → Prop) : Prop := (loopW (S := ((Unit × (Int × Unit)) × ((List Int) × Unit))) (fun s => (fun next => ((inK IntKind.i64 s.1.2.1) → ((T.ok (T.sl (T.int IntKind.i64)) s.2.1) → (cnd (decide (s.1.2.1 < (((List.length c.2.1) : Nat) : Int))) (((0 : Int) ≤ s.1.2.1) ∧ ((s.1.2.1 < (((List.length c.2.1) : Nat) : Int)) ∧ (((((List.getD c.2.1 (Int.toNat s.1.2.1) (0 : Int)) == x) = Bool.true) → ((s.1.2.1 < (((List.length c.2.2.1) : Nat) : Int)) ∧ ((0 : Int) ≤ s.1.2.1))) ∧ (joinW (S := ((Unit × Unit) × ((List Int) × Unit))) (fun s1 => ((T.ok (T.sl (T.int IntKind.i64)) s1.2.1) → ((inK IntKind.i64 (s.1.2.1 + (1 : Int))) ∧ (next (((), ((s.1.2.1 + (1 : Int)), ())), (s1.2.1, ())))))) (fun k => (cnd (((List.getD c.2.1 (Int.toNat s.1.2.1) (0 : Int)) == x) && ((List.getD c.2.2.1 (Int.toNat s.1.2.1) (0 : Int)) == y)) ((room (List.length s.2.1) (List.length (s.1.2.1 :: ([] : List Int))) 8) ∧ (k (((), ()), ((s.2.1 ++ (s.1.2.1 :: ([] : List Int))), ())))) (k (((), ()), (s.2.1, ()))))))))) (K (s.2.1, ()))))))) (((), ((0 : Int), ())), (([] : List Int), ())))
theorem w_impl_Category_hom (x : denL c_impl_Category_hom.args) (K : (List Int) × Unit → Prop) : evF tab (lkp []) (cutL []) Try.f89 (bodyOf Try.f89) (.s .n (.s .n (.s (.s .n (.l [(7, (.ref 800007 [])), (15, (.d (.int .i64)))] [(800007, (.sl (.fz (.int .i64))))] [0, 1, 2, 14] (.s .n (.s .n (.s (.s .n (.s .n (.j [(7, (.ref 800007 []))] [(800007, (.sl (.fz (.int .i64))))] [0, 1, 2, 14, 15] .n))) .n))))) .n))) c_impl_Category_hom x K = W_impl_Category_hom x.1 x.2.1 x.2.2.1 K := by kernel_rfl
theorem k_impl_Category_hom : okC Try.f89.ntmps (cutL []) (bodyOf Try.f89) = true := by kernel_rfl
theorem m_impl_Category_hom (c : CategoryD) (x : Int) (y : Int) (hok : allP (okL c_impl_Category_hom.args (c, x, y, ()))) (hpre : allP (c_impl_Category_hom.pre (c, x, y, ()))) : W_impl_Category_hom c x y (fun r => r = c_impl_Category_hom.res (c, x, y, ())) := by
  simp only [c_impl_Category_hom, okL, T.oks, T.ok, ap, allP, true_and, and_true, implies_true] at hok hpre
  try dsimp only [T.den] at hok
  try dsimp only [T.den] at hpre
  unfold W_impl_Category_hom
  have hm : c.2.1.length ≤ 40 := hpre.1
  have hlt : c.2.2.1.length = c.2.1.length := hpre.2
  refine loop_of (fun (s : ((Unit × (Int × Unit)) × ((List Int) × Unit))) => 0 ≤ s.1.2.1 ∧ s.1.2.1 ≤ c.2.1.length ∧ s.2.1 = selR s.1.2.1.toNat fun f => c.2.1.getD f.toNat 0 == x && c.2.2.1.getD f.toNat 0 == y) (fun (s : ((Unit × (Int × Unit)) × ((List Int) × Unit))) => (c.2.1.length - s.1.2.1).toNat) ?_ ⟨by simp, by simp, rfl⟩
  rintro ⟨⟨_, i, _⟩, l, _⟩ next ⟨h0, h1, h2⟩ hn hin hl
  try dsimp only at h0 h1 h2 hn ⊢
  subst h2
  refine cnd_d (fun hc => ⟨h0, hc, fun _ => by omega, join_of (fun s1 => s1.2.1 = selR (i + 1).toNat fun f => c.2.1.getD f.toNat 0 == x && c.2.2.1.getD f.toNat 0 == y) (fun s1 hs _ => ⟨by rw [inK64]; (try dsimp only); omega, hn _ ⟨(by first | omega | (dsimp only; omega)), (by first | omega | (dsimp only; omega)), hs⟩ (by first | omega | (dsimp only; omega))⟩) (fun k hk => cnd_of (fun hx => ⟨?_, hk _ ?_⟩) (fun hx => hk _ ?_))⟩) (fun hc => ?_)
  · have := sel_len (p := fun f => c.2.1.getD f.toNat 0 == x && c.2.2.1.getD f.toNat 0 == y) i.toNat
    unfold room
    rw [nb_eq]
    have h3 : (i :: ([] : List Int)).length = 1 := rfl
    rw [h3]
    omega
  · exact (sel_t h0 hx).symm
  · exact (sel_f h0 hx).symm
  · have e1 : i.toNat = c.2.1.length := by omega
    simp only [c_impl_Category_hom, homR]
    rw [e1]
theorem ct_impl_Category_hom : CtOk Try.prog 89 c_impl_Category_hom :=
  ct_by (Φ := lkp []) good_nil tab_ok (by kernel_rfl) (fn := Try.f89) (c := bodyOf Try.f89) (by kernel_rfl) (by kernel_rfl) (by kernel_rfl) c_impl_Category_hom rfl (.s .n (.s .n (.s (.s .n (.l [(7, (.ref 800007 [])), (15, (.d (.int .i64)))] [(800007, (.sl (.fz (.int .i64))))] [0, 1, 2, 14] (.s .n (.s .n (.s (.s .n (.s .n (.j [(7, (.ref 800007 []))] [(800007, (.sl (.fz (.int .i64))))] [0, 1, 2, 14, 15] .n))) .n))))) .n))) (cutL []) (by kernel_rfl) (by kernel_rfl) k_impl_Category_hom (by decide) (fun x K => W_impl_Category_hom x.1 x.2.1 x.2.2.1 K) w_impl_Category_hom (fun x h1 h2 => m_impl_Category_hom x.1 x.2.1 x.2.2.1 h1 h2)
def extR (c : CategoryD) (f g : Int) : List Int := (homR c (c.2.2.1.getD g.toNat 0) (c.2.2.1.getD f.toNat 0)).filter fun h => compR c g h == f
theorem hom_at {c : CategoryD} {x y i : Int} (h0 : 0 ≤ i) (h1 : i < (homR c x y).length) : 0 ≤ (homR c x y).getD i.toNat 0 ∧ (homR c x y).getD i.toNat 0 < c.2.1.length ∧ c.2.1.getD ((homR c x y).getD i.toNat 0).toNat 0 = x ∧ c.2.2.1.getD ((homR c x y).getD i.toNat 0).toNat 0 = y := hom_mem.1 (getD_mem _ 0 h0 h1)
theorem ext_mem {c : CategoryD} {f g v : Int} : v ∈ extR c f g ↔ (0 ≤ v ∧ v < c.2.1.length ∧ c.2.1.getD v.toNat 0 = c.2.2.1.getD g.toNat 0 ∧ c.2.2.1.getD v.toNat 0 = c.2.2.1.getD f.toNat 0) ∧ compR c g v = f := by
  unfold extR; rw [List.mem_filter, hom_mem, beq_iff_eq]
theorem hom_len {c : CategoryD} (S : ShapeP c) (x y : Int) : (homR c x y).length ≤ 40 := Nat.le_trans (sel_len _) S.m
theorem ext_len {c : CategoryD} (S : ShapeP c) (x y : Int) : (extR c x y).length ≤ 40 := Nat.le_trans (List.length_filter_le _ _) (hom_len S _ _)

def diagR (c : CategoryD) (e m u v : Int) : List Int := (homR c (c.2.2.1.getD e.toNat 0) (c.2.1.getD m.toNat 0)).filter fun d => compR c e d == u && compR c d m == v

def c_impl_Category_diagonals : Ct := ⟨[(.pt CategoryT), (.int .i64), (.int .i64), (.int .i64), (.int .i64)], [false, false, false, false, false], fun x => [ShapeP x.1, 0 ≤ x.2.1, x.2.1 < x.1.2.1.length, 0 ≤ x.2.2.1, x.2.2.1 < x.1.2.1.length], [(false, (.sl (.fz (.int .i64))))], fun x => (diagR x.1 x.2.1 x.2.2.1 x.2.2.2.1 x.2.2.2.2.1, ()), false, none⟩
def W_impl_Category_diagonals (c : CategoryD) (e : Int) (m : Int) (u : Int) (v : Int) (K : (List Int) × Unit → Prop) : Prop := (((0 : Int) ≤ e) ∧ ((e < (((List.length c.2.2.1) : Nat) : Int)) ∧ (((0 : Int) ≤ m) ∧ ((m < (((List.length c.2.1) : Nat) : Int)) ∧ (((List.length c.2.1) ≤ 40) ∧ (((List.length c.2.2.1) = (List.length c.2.1)) ∧ (loopW (S := ((Unit × (Int × Unit)) × ((List Int) × Unit))) (fun s => (fun next => ((inK IntKind.i64 s.1.2.1) → ((T.ok (T.sl (T.int IntKind.i64)) s.2.1) → (cnd (decide (s.1.2.1 < (((List.length (homR c (List.getD c.2.2.1 (Int.toNat e) (0 : Int)) (List.getD c.2.1 (Int.toNat m) (0 : Int)))) : Nat) : Int))) (((0 : Int) ≤ s.1.2.1) ∧ ((s.1.2.1 < (((List.length (homR c (List.getD c.2.2.1 (Int.toNat e) (0 : Int)) (List.getD c.2.1 (Int.toNat m) (0 : Int)))) : Nat) : Int)) ∧ (((0 : Int) ≤ e) ∧ ((e < (((List.length c.2.2.2.2) : Nat) : Int)) ∧ (((0 : Int) ≤ (List.getD (homR c (List.getD c.2.2.1 (Int.toNat e) (0 : Int)) (List.getD c.2.1 (Int.toNat m) (0 : Int))) (Int.toNat s.1.2.1) (0 : Int))) ∧ (((List.getD (homR c (List.getD c.2.2.1 (Int.toNat e) (0 : Int)) (List.getD c.2.1 (Int.toNat m) (0 : Int))) (Int.toNat s.1.2.1) (0 : Int)) < (((List.length (List.getD c.2.2.2.2 (Int.toNat e) ([] : List Int))) : Nat) : Int)) ∧ (((((compR c e (List.getD (homR c (List.getD c.2.2.1 (Int.toNat e) (0 : Int)) (List.getD c.2.1 (Int.toNat m) (0 : Int))) (Int.toNat s.1.2.1) (0 : Int))) == u) = Bool.true) → (((List.getD (homR c (List.getD c.2.2.1 (Int.toNat e) (0 : Int)) (List.getD c.2.1 (Int.toNat m) (0 : Int))) (Int.toNat s.1.2.1) (0 : Int)) < (((List.length c.2.2.2.2) : Nat) : Int)) ∧ (((0 : Int) ≤ m) ∧ ((m < (((List.length (List.getD c.2.2.2.2 (Int.toNat (List.getD (homR c (List.getD c.2.2.1 (Int.toNat e) (0 : Int)) (List.getD c.2.1 (Int.toNat m) (0 : Int))) (Int.toNat s.1.2.1) (0 : Int))) ([] : List Int))) : Nat) : Int)) ∧ ((0 : Int) ≤ (List.getD (homR c (List.getD c.2.2.1 (Int.toNat e) (0 : Int)) (List.getD c.2.1 (Int.toNat m) (0 : Int))) (Int.toNat s.1.2.1) (0 : Int))))))) ∧ (joinW (S := ((Unit × Unit) × ((List Int) × Unit))) (fun s1 => ((T.ok (T.sl (T.int IntKind.i64)) s1.2.1) → ((inK IntKind.i64 (s.1.2.1 + (1 : Int))) ∧ (next (((), ((s.1.2.1 + (1 : Int)), ())), (s1.2.1, ())))))) (fun k => (cnd (((compR c e (List.getD (homR c (List.getD c.2.2.1 (Int.toNat e) (0 : Int)) (List.getD c.2.1 (Int.toNat m) (0 : Int))) (Int.toNat s.1.2.1) (0 : Int))) == u) && ((compR c (List.getD (homR c (List.getD c.2.2.1 (Int.toNat e) (0 : Int)) (List.getD c.2.1 (Int.toNat m) (0 : Int))) (Int.toNat s.1.2.1) (0 : Int)) m) == v)) ((room (List.length s.2.1) (List.length ((List.getD (homR c (List.getD c.2.2.1 (Int.toNat e) (0 : Int)) (List.getD c.2.1 (Int.toNat m) (0 : Int))) (Int.toNat s.1.2.1) (0 : Int)) :: ([] : List Int))) 8) ∧ (k (((), ()), ((s.2.1 ++ ((List.getD (homR c (List.getD c.2.2.1 (Int.toNat e) (0 : Int)) (List.getD c.2.1 (Int.toNat m) (0 : Int))) (Int.toNat s.1.2.1) (0 : Int)) :: ([] : List Int))), ())))) (k (((), ()), (s.2.1, ()))))))))))))) (K (s.2.1, ()))))))) (((), ((0 : Int), ())), (([] : List Int), ())))))))))
theorem w_impl_Category_diagonals (x : denL c_impl_Category_diagonals.args) (K : (List Int) × Unit → Prop) : evF tab (lkp [(89, c_impl_Category_hom), (82, c_impl_Category_then)]) (cutL [(2, 18)]) Try.f133 (bodyOf Try.f133) (.s .n (.s .n (.s (.s .n (.l [(11, (.ref 800011 [])), (32, (.d (.int .i64)))] [(800011, (.sl (.fz (.int .i64))))] [0, 1, 2, 3, 4, 30, 31] (.s .n (.s .n (.s (.s .n (.s .n (.j [(11, (.ref 800011 []))] [(800011, (.sl (.fz (.int .i64))))] [0, 1, 2, 3, 4, 30, 31, 32] .n))) .n))))) .n))) c_impl_Category_diagonals x K = W_impl_Category_diagonals x.1 x.2.1 x.2.2.1 x.2.2.2.1 x.2.2.2.2.1 K := by kernel_rfl
theorem k_impl_Category_diagonals : okC Try.f133.ntmps (cutL [(2, 18)]) (bodyOf Try.f133) = true := by kernel_rfl
theorem m_impl_Category_diagonals (c : CategoryD) (e : Int) (m : Int) (u : Int) (v : Int) (hok : allP (okL c_impl_Category_diagonals.args (c, e, m, u, v, ()))) (hpre : allP (c_impl_Category_diagonals.pre (c, e, m, u, v, ()))) : W_impl_Category_diagonals c e m u v (fun r => r = c_impl_Category_diagonals.res (c, e, m, u, v, ())) := by
  simp only [c_impl_Category_diagonals, okL, T.oks, T.ok, ap, allP, true_and, and_true, implies_true] at hok hpre
  try dsimp only [T.den] at hok
  try dsimp only [T.den] at hpre
  unfold W_impl_Category_diagonals
  obtain ⟨S, e0, e1, m0, m1⟩ := hpre
  have hlt := S.lt
  have hlc := S.lc
  have hmm := S.m
  have hre := S.row _ e0 e1
  have hll := hom_len S (c.2.2.1.getD e.toNat 0) (c.2.1.getD m.toNat 0)
  have hat := @hom_at c (c.2.2.1.getD e.toNat 0) (c.2.1.getD m.toNat 0)
  refine ⟨e0, by omega, m0, m1, hmm, hlt, ?_⟩
  simp only [c_impl_Category_diagonals, diagR]
  generalize homR c (c.2.2.1.getD e.toNat 0) (c.2.1.getD m.toNat 0) = l at *
  have hcr : ∀ a b : Int, (c.2.2.2.2.getD a.toNat []).getD b.toNat 0 = compR c a b := fun _ _ => rfl
  try simp only [hcr]
  clear hok
  refine loop_fil l (fun d => compR c e d == u && compR c d m == v) ?_ ?_
  · intro i out next i0 i1 hn hol _ _
    obtain ⟨d0, d1, _⟩ := hat i0 i1
    have hrd := S.row _ d0 d1
    try dsimp only at hn ⊢
    generalize l.getD i.toNat 0 = d at *
    refine cnd_d (fun _ => ?_) (fun h => absurd i1 h)
    (repeat' (with_reducible apply And.intro)) <;> (first | omega | assumption | (intro _; (repeat' (with_reducible apply And.intro)) <;> first | omega | assumption) | (rw [inK64]; (try dsimp only); omega) | skip)
    refine join_add _ (fun s hs _ => ⟨by rw [inK64]; (try dsimp only); omega, hn _ hs⟩) (fun k hk => cnd_of (fun he => ?_) (fun he => hk _ (by rw [he]; rfl)))
    (repeat' (with_reducible apply And.intro)) <;> (first | omega | assumption | (intro _; (repeat' (with_reducible apply And.intro)) <;> first | omega | assumption) | (rw [inK64]; (try dsimp only); omega) | skip)
    · exact room_of (by simp only [List.length_cons, List.length_nil]; omega)
    · exact hk _ (by rw [he]; rfl)
  · intro next _ _
    exact cnd_d (fun h => absurd h (by dsimp only; omega)) (fun _ => rfl)
theorem ct_impl_Category_diagonals : CtOk Try.prog 133 c_impl_Category_diagonals :=
  ct_by (Φ := lkp [(89, c_impl_Category_hom), (82, c_impl_Category_then)]) (good_cons ct_impl_Category_hom (good_cons ct_impl_Category_then good_nil)) tab_ok (by kernel_rfl) (fn := Try.f133) (c := bodyOf Try.f133) (by kernel_rfl) (by kernel_rfl) (by kernel_rfl) c_impl_Category_diagonals rfl (.s .n (.s .n (.s (.s .n (.l [(11, (.ref 800011 [])), (32, (.d (.int .i64)))] [(800011, (.sl (.fz (.int .i64))))] [0, 1, 2, 3, 4, 30, 31] (.s .n (.s .n (.s (.s .n (.s .n (.j [(11, (.ref 800011 []))] [(800011, (.sl (.fz (.int .i64))))] [0, 1, 2, 3, 4, 30, 31, 32] .n))) .n))))) .n))) (cutL [(2, 18)]) (by kernel_rfl) (by kernel_rfl) k_impl_Category_diagonals (by decide) (fun x K => W_impl_Category_diagonals x.1 x.2.1 x.2.2.1 x.2.2.2.1 x.2.2.2.2.1 K) w_impl_Category_diagonals (fun x h1 h2 => m_impl_Category_diagonals x.1 x.2.1 x.2.2.1 x.2.2.2.1 x.2.2.2.2.1 h1 h2)
def orthI (c : CategoryD) (e m u v : Int) : Bool := decide (compR c e v = compR c u m → (diagR c e m u v).length = 1)
def orthR (c : CategoryD) (e m : Int) : Bool := (homR c (c.2.1.getD e.toNat 0) (c.2.1.getD m.toNat 0)).all fun u => (homR c (c.2.2.1.getD e.toNat 0) (c.2.2.1.getD m.toNat 0)).all fun v => orthI c e m u v

def c_impl_Category_isOrthogonal : Ct := ⟨[(.pt CategoryT), (.int .i64), (.int .i64)], [false, false, false], fun x => [ShapeP x.1, 0 ≤ x.2.1, x.2.1 < x.1.2.1.length, 0 ≤ x.2.2.1, x.2.2.1 < x.1.2.1.length], [(false, (.fz .bool))], fun x => (orthR x.1 x.2.1 x.2.2.1, ()), false, none⟩
def W_impl_Category_isOrthogonal (c : CategoryD) (e : Int) (m : Int) (K : Bool × Unit → Prop) : Prop := (((0 : Int) ≤ e) ∧ ((e < (((List.length c.2.1) : Nat) : Int)) ∧ (((0 : Int) ≤ m) ∧ ((m < (((List.length c.2.1) : Nat) : Int)) ∧ (((List.length c.2.1) ≤ 40) ∧ (((List.length c.2.2.1) = (List.length c.2.1)) ∧ (loopW (S := ((Int × Unit) × Unit)) (fun s => (fun next => ((inK IntKind.i64 s.1.1) → (cnd (decide (s.1.1 < (((List.length (homR c (List.getD c.2.1 (Int.toNat e) (0 : Int)) (List.getD c.2.1 (Int.toNat m) (0 : Int)))) : Nat) : Int))) (((0 : Int) ≤ s.1.1) ∧ ((s.1.1 < (((List.length (homR c (List.getD c.2.1 (Int.toNat e) (0 : Int)) (List.getD c.2.1 (Int.toNat m) (0 : Int)))) : Nat) : Int)) ∧ (((0 : Int) ≤ e) ∧ ((e < (((List.length c.2.2.1) : Nat) : Int)) ∧ (((0 : Int) ≤ m) ∧ ((m < (((List.length c.2.2.1) : Nat) : Int)) ∧ (((List.length c.2.1) ≤ 40) ∧ (((List.length c.2.2.1) = (List.length c.2.1)) ∧ (loopW (S := ((Int × Unit) × Unit)) (fun s1 => (fun next1 => ((inK IntKind.i64 s1.1.1) → (cnd (decide (s1.1.1 < (((List.length (homR c (List.getD c.2.2.1 (Int.toNat e) (0 : Int)) (List.getD c.2.2.1 (Int.toNat m) (0 : Int)))) : Nat) : Int))) (((0 : Int) ≤ s1.1.1) ∧ ((s1.1.1 < (((List.length (homR c (List.getD c.2.2.1 (Int.toNat e) (0 : Int)) (List.getD c.2.2.1 (Int.toNat m) (0 : Int)))) : Nat) : Int)) ∧ (((0 : Int) ≤ e) ∧ ((e < (((List.length c.2.2.2.2) : Nat) : Int)) ∧ (((0 : Int) ≤ (List.getD (homR c (List.getD c.2.2.1 (Int.toNat e) (0 : Int)) (List.getD c.2.2.1 (Int.toNat m) (0 : Int))) (Int.toNat s1.1.1) (0 : Int))) ∧ (((List.getD (homR c (List.getD c.2.2.1 (Int.toNat e) (0 : Int)) (List.getD c.2.2.1 (Int.toNat m) (0 : Int))) (Int.toNat s1.1.1) (0 : Int)) < (((List.length (List.getD c.2.2.2.2 (Int.toNat e) ([] : List Int))) : Nat) : Int)) ∧ (((0 : Int) ≤ (List.getD (homR c (List.getD c.2.1 (Int.toNat e) (0 : Int)) (List.getD c.2.1 (Int.toNat m) (0 : Int))) (Int.toNat s.1.1) (0 : Int))) ∧ (((List.getD (homR c (List.getD c.2.1 (Int.toNat e) (0 : Int)) (List.getD c.2.1 (Int.toNat m) (0 : Int))) (Int.toNat s.1.1) (0 : Int)) < (((List.length c.2.2.2.2) : Nat) : Int)) ∧ (((0 : Int) ≤ m) ∧ ((m < (((List.length (List.getD c.2.2.2.2 (Int.toNat (List.getD (homR c (List.getD c.2.1 (Int.toNat e) (0 : Int)) (List.getD c.2.1 (Int.toNat m) (0 : Int))) (Int.toNat s.1.1) (0 : Int))) ([] : List Int))) : Nat) : Int)) ∧ (((((compR c e (List.getD (homR c (List.getD c.2.2.1 (Int.toNat e) (0 : Int)) (List.getD c.2.2.1 (Int.toNat m) (0 : Int))) (Int.toNat s1.1.1) (0 : Int))) == (compR c (List.getD (homR c (List.getD c.2.1 (Int.toNat e) (0 : Int)) (List.getD c.2.1 (Int.toNat m) (0 : Int))) (Int.toNat s.1.1) (0 : Int)) m)) = Bool.true) → (((0 : Int) ≤ e) ∧ ((e < (((List.length c.2.1) : Nat) : Int)) ∧ (((0 : Int) ≤ m) ∧ ((m < (((List.length c.2.1) : Nat) : Int)) ∧ (ShapeP c)))))) ∧ (cnd (((compR c e (List.getD (homR c (List.getD c.2.2.1 (Int.toNat e) (0 : Int)) (List.getD c.2.2.1 (Int.toNat m) (0 : Int))) (Int.toNat s1.1.1) (0 : Int))) == (compR c (List.getD (homR c (List.getD c.2.1 (Int.toNat e) (0 : Int)) (List.getD c.2.1 (Int.toNat m) (0 : Int))) (Int.toNat s.1.1) (0 : Int)) m)) && ((((List.length (diagR c e m (List.getD (homR c (List.getD c.2.1 (Int.toNat e) (0 : Int)) (List.getD c.2.1 (Int.toNat m) (0 : Int))) (Int.toNat s.1.1) (0 : Int)) (List.getD (homR c (List.getD c.2.2.1 (Int.toNat e) (0 : Int)) (List.getD c.2.2.1 (Int.toNat m) (0 : Int))) (Int.toNat s1.1.1) (0 : Int)))) : Nat) : Int) != (1 : Int))) (K (Bool.false, ())) ((inK IntKind.i64 (s1.1.1 + (1 : Int))) ∧ (next1 (((s1.1.1 + (1 : Int)), ()), ()))))))))))))))) ((inK IntKind.i64 (s.1.1 + (1 : Int))) ∧ (next (((s.1.1 + (1 : Int)), ()), ()))))))) (((0 : Int), ()), ())))))))))) (K (Bool.true, ())))))) (((0 : Int), ()), ()))))))))
theorem w_impl_Category_isOrthogonal (x : denL c_impl_Category_isOrthogonal.args) (K : Bool × Unit → Prop) : evF tab (lkp [(133, c_impl_Category_diagonals), (89, c_impl_Category_hom), (82, c_impl_Category_then)]) (cutL [(1, 18), (4, 18)]) Try.f107 (bodyOf Try.f107) (.s .n (.s (.s .n (.l [(28, (.d (.int .i64)))] [] [0, 1, 2, 26, 27] (.s .n (.s .n (.s (.s .n (.s .n (.l [(49, (.d (.int .i64)))] [] [0, 1, 2, 8, 26, 27, 28, 47, 48] .n))) .n))))) .n)) c_impl_Category_isOrthogonal x K = W_impl_Category_isOrthogonal x.1 x.2.1 x.2.2.1 K := by kernel_rfl
theorem k_impl_Category_isOrthogonal : okC Try.f107.ntmps (cutL [(1, 18), (4, 18)]) (bodyOf Try.f107) = true := by kernel_rfl
theorem m_impl_Category_isOrthogonal (c : CategoryD) (e : Int) (m : Int) (hok : allP (okL c_impl_Category_isOrthogonal.args (c, e, m, ()))) (hpre : allP (c_impl_Category_isOrthogonal.pre (c, e, m, ()))) : W_impl_Category_isOrthogonal c e m (fun r => r = c_impl_Category_isOrthogonal.res (c, e, m, ())) := by
  simp only [c_impl_Category_isOrthogonal, okL, T.oks, T.ok, ap, allP, true_and, and_true, implies_true] at hok hpre
  try dsimp only [T.den] at hok
  try dsimp only [T.den] at hpre
  unfold W_impl_Category_isOrthogonal
  obtain ⟨S, e0, e1, m0, m1⟩ := hpre
  have hlt := S.lt
  have hlc := S.lc
  have hmm := S.m
  have hre := S.row _ e0 e1
  have hla := hom_len S (c.2.1.getD e.toNat 0) (c.2.1.getD m.toNat 0)
  have haa := @hom_at c (c.2.1.getD e.toNat 0) (c.2.1.getD m.toNat 0)
  have hlb := hom_len S (c.2.2.1.getD e.toNat 0) (c.2.2.1.getD m.toNat 0)
  have hab := @hom_at c (c.2.2.1.getD e.toNat 0) (c.2.2.1.getD m.toNat 0)
  have hcr : ∀ a b : Int, (c.2.2.2.2.getD a.toNat []).getD b.toNat 0 = compR c a b := fun _ _ => rfl
  try simp only [hcr]
  simp only [c_impl_Category_isOrthogonal, orthR]
  generalize homR c (c.2.1.getD e.toNat 0) (c.2.1.getD m.toNat 0) = us at *
  generalize homR c (c.2.2.1.getD e.toNat 0) (c.2.2.1.getD m.toNat 0) = vs at *
  clear hok
  (repeat' (with_reducible apply And.intro)) <;> (first | omega | assumption | (intro _; (repeat' (with_reducible apply And.intro)) <;> first | omega | assumption) | (rw [inK64]; (try dsimp only); omega) | skip)
  refine loop_all us 0 (fun u => vs.all fun v => orthI c e m u v) ?_ ?_
  · intro i next i0 i1 hbad hn _
    obtain ⟨u0, u1, _⟩ := haa i0 i1
    have hru := S.row _ u0 u1
    generalize us.getD i.toNat 0 = u at *
    refine cnd_d (fun _ => ?_) (fun h => absurd i1 h)
    (repeat' (with_reducible apply And.intro)) <;> (first | omega | assumption | (intro _; (repeat' (with_reducible apply And.intro)) <;> first | omega | assumption) | (rw [inK64]; (try dsimp only); omega) | skip)
    refine loop_all vs 0 (fun v => orthI c e m u v) ?_ ?_
    · intro j next2 j0 j1 hbad2 hn2 _
      obtain ⟨v0, v1, _⟩ := hab j0 j1
      generalize vs.getD j.toNat 0 = v at *
      refine cnd_d (fun _ => ?_) (fun h => absurd j1 h)
      (repeat' (with_reducible apply And.intro)) <;> (first | omega | assumption | (intro _; (repeat' (with_reducible apply And.intro)) <;> first | omega | assumption) | (rw [inK64]; (try dsimp only); omega) | skip)
      have hI : orthI c e m u v = !((compR c e v == compR c u m) && ((((diagR c e m u v).length : Nat) : Int) != 1)) := by
        unfold orthI
        by_cases h1 : compR c e v = compR c u m
        · by_cases h2 : (diagR c e m u v).length = 1
          · simp [h1, h2]
          · have : ¬ ((((diagR c e m u v).length : Nat) : Int) = 1) := by omega
            simp [h1, h2, bne, this]
        · simp [h1]
      refine cnd_of (fun h => ?_) (fun h => ⟨by rw [inK64]; (try dsimp only); omega, hn2 (by rw [hI, h]; rfl)⟩)
      rw [hbad (hbad2 (by rw [hI, h]; rfl))]
    · intro next2 hv _
      exact cnd_d (fun h => absurd h (by dsimp only; omega)) (fun _ => ⟨by rw [inK64]; (try dsimp only); omega, hn hv⟩)
  · intro next hu _
    exact cnd_d (fun h => absurd h (by dsimp only; omega)) (fun _ => by rw [hu])
theorem ct_impl_Category_isOrthogonal : CtOk Try.prog 107 c_impl_Category_isOrthogonal :=
  ct_by (Φ := lkp [(133, c_impl_Category_diagonals), (89, c_impl_Category_hom), (82, c_impl_Category_then)]) (good_cons ct_impl_Category_diagonals (good_cons ct_impl_Category_hom (good_cons ct_impl_Category_then good_nil))) tab_ok (by kernel_rfl) (fn := Try.f107) (c := bodyOf Try.f107) (by kernel_rfl) (by kernel_rfl) (by kernel_rfl) c_impl_Category_isOrthogonal rfl (.s .n (.s (.s .n (.l [(28, (.d (.int .i64)))] [] [0, 1, 2, 26, 27] (.s .n (.s .n (.s (.s .n (.s .n (.l [(49, (.d (.int .i64)))] [] [0, 1, 2, 8, 26, 27, 28, 47, 48] .n))) .n))))) .n)) (cutL [(1, 18), (4, 18)]) (by kernel_rfl) (by kernel_rfl) k_impl_Category_isOrthogonal (by decide) (fun x K => W_impl_Category_isOrthogonal x.1 x.2.1 x.2.2.1 K) w_impl_Category_isOrthogonal (fun x h1 h2 => m_impl_Category_isOrthogonal x.1 x.2.1 x.2.2.1 h1 h2)
def orthTR (c : CategoryD) : List (List Bool) := tabN c.2.1.length fun e => tabN c.2.1.length fun m => orthR c e m

def c_impl_Category_orthogonality : Ct := ⟨[(.pt CategoryT)], [false], fun x => [ShapeP x.1], [(false, (.sl (.sl (.fz .bool))))], fun x => (orthTR x.1, ()), false, none⟩
def W_impl_Category_orthogonality (c : CategoryD) (K : (List (List Bool)) × Unit → Prop) : Prop := (((0 : Int) ≤ (((List.length c.2.1) : Nat) : Int)) ∧ (((((List.length c.2.1) : Nat) : Int) ≤ (((List.length c.2.1) : Nat) : Int)) ∧ (((((List.length c.2.1) : Nat) : Int) ≤ ((140737488355328 : Nat) : Int)) ∧ ((((((List.length c.2.1) : Nat) : Int) * ((24 : Nat) : Int)) ≤ ((140737488355328 : Nat) : Int)) ∧ (loopW (S := ((Unit × (Int × Unit)) × ((List (List Bool)) × Unit))) (fun s => (fun next => ((inK IntKind.i64 s.1.2.1) → ((T.ok (T.sl (T.sl T.bool)) s.2.1) → (cnd (decide (s.1.2.1 < (((List.length (List.replicate (Int.toNat (((List.length c.2.1) : Nat) : Int)) ([] : List Bool))) : Nat) : Int))) (((0 : Int) ≤ (((List.length c.2.1) : Nat) : Int)) ∧ (((((List.length c.2.1) : Nat) : Int) ≤ (((List.length c.2.1) : Nat) : Int)) ∧ (((((List.length c.2.1) : Nat) : Int) ≤ ((140737488355328 : Nat) : Int)) ∧ ((((((List.length c.2.1) : Nat) : Int) * ((1 : Nat) : Int)) ≤ ((140737488355328 : Nat) : Int)) ∧ (((0 : Int) ≤ s.1.2.1) ∧ ((s.1.2.1 < (((List.length s.2.1) : Nat) : Int)) ∧ (((0 : Int) ≤ s.1.2.1) ∧ ((s.1.2.1 < (((List.length (List.set s.2.1 (Int.toNat s.1.2.1) (List.replicate (Int.toNat (((List.length c.2.1) : Nat) : Int)) Bool.false))) : Nat) : Int)) ∧ (loopW (S := ((Unit × (Int × Unit)) × ((List (List Bool)) × Unit))) (fun s1 => (fun next1 => ((inK IntKind.i64 s1.1.2.1) → ((T.ok (T.sl (T.sl T.bool)) s1.2.1) → (cnd (decide (s1.1.2.1 < (((List.length (List.getD (List.set s.2.1 (Int.toNat s.1.2.1) (List.replicate (Int.toNat (((List.length c.2.1) : Nat) : Int)) Bool.false)) (Int.toNat s.1.2.1) ([] : List Bool))) : Nat) : Int))) (((0 : Int) ≤ s.1.2.1) ∧ ((s.1.2.1 < (((List.length s1.2.1) : Nat) : Int)) ∧ ((ShapeP c) ∧ (((0 : Int) ≤ s.1.2.1) ∧ ((s.1.2.1 < (((List.length c.2.1) : Nat) : Int)) ∧ (((0 : Int) ≤ s1.1.2.1) ∧ ((s1.1.2.1 < (((List.length c.2.1) : Nat) : Int)) ∧ (((0 : Int) ≤ s1.1.2.1) ∧ ((s1.1.2.1 < (((List.length (List.getD s1.2.1 (Int.toNat s.1.2.1) ([] : List Bool))) : Nat) : Int)) ∧ ((inK IntKind.i64 (s1.1.2.1 + (1 : Int))) ∧ (next1 (((), ((s1.1.2.1 + (1 : Int)), ())), ((List.set s1.2.1 (Int.toNat s.1.2.1) (List.set (List.getD s1.2.1 (Int.toNat s.1.2.1) ([] : List Bool)) (Int.toNat s1.1.2.1) (orthR c s.1.2.1 s1.1.2.1))), ()))))))))))))) ((inK IntKind.i64 (s.1.2.1 + (1 : Int))) ∧ (next (((), ((s.1.2.1 + (1 : Int)), ())), (s1.2.1, ()))))))))) (((), ((0 : Int), ())), ((List.set s.2.1 (Int.toNat s.1.2.1) (List.replicate (Int.toNat (((List.length c.2.1) : Nat) : Int)) Bool.false)), ()))))))))))) (K (s.2.1, ()))))))) (((), ((0 : Int), ())), ((List.replicate (Int.toNat (((List.length c.2.1) : Nat) : Int)) ([] : List Bool)), ())))))))
theorem w_impl_Category_orthogonality (x : denL c_impl_Category_orthogonality.args) (K : (List (List Bool)) × Unit → Prop) : evF tab (lkp [(60, c_impl_Category_arrows), (107, c_impl_Category_isOrthogonal)]) (cutL [(9, 10)]) Try.f74 (bodyOf Try.f74) (.s .n (.s .n (.s (.s .n (.l [(3, (.ref 8 [])), (11, (.d (.int .i64)))] [(8, (.sl (.sl (.fz .bool))))] [0, 10] (.s .n (.s .n (.s (.s .n (.s .n (.s .n (.l [(3, (.ref 8 [])), (25, (.d (.int .i64)))] [(8, (.sl (.sl (.fz .bool))))] [0, 4, 10, 11, 24] .n)))) .n))))) .n))) c_impl_Category_orthogonality x K = W_impl_Category_orthogonality x.1 K := by kernel_rfl
theorem k_impl_Category_orthogonality : okC Try.f74.ntmps (cutL [(9, 10)]) (bodyOf Try.f74) = true := by kernel_rfl
theorem m_impl_Category_orthogonality (c : CategoryD) (hok : allP (okL c_impl_Category_orthogonality.args (c, ()))) (hpre : allP (c_impl_Category_orthogonality.pre (c, ()))) : W_impl_Category_orthogonality c (fun r => r = c_impl_Category_orthogonality.res (c, ())) := by
  simp only [c_impl_Category_orthogonality, okL, T.oks, T.ok, ap, allP, true_and, and_true, implies_true] at hok hpre
  try dsimp only [T.den] at hok
  try dsimp only [T.den] at hpre
  unfold W_impl_Category_orthogonality
  have S : ShapeP c := hpre
  have hmm := S.m
  clear hok
  generalize hn : c.2.1.length = n at *
  refine ⟨by omega, by omega, by omega, by omega, ?_⟩
  simp only [Int.toNat_natCast, List.length_replicate, tab_rep, tabN_len]
  refine loop_ixa (fun i => tabN n fun e => if e < i then tabN n fun m => orthR c e m else []) (n := n) (by omega) (tabN_congr fun e h0 _ => by rw [if_neg (by omega)]) ?_ ?_
  · intro i next i0 i1 hnx _ _
    try dsimp only
    refine cnd_d (fun _ => ?_) (fun h => absurd i1 h)
    rw [tab_set i0 i1]
    simp only [tabN_len, tabN_get (d := ([] : List Bool)) i0 i1, if_true]
    (repeat' (with_reducible apply And.intro)) <;> (first | omega | assumption | (intro _; (repeat' (with_reducible apply And.intro)) <;> first | omega | assumption) | (rw [inK64]; (try dsimp only); omega) | skip)
    refine loop_ixa (fun j => tabN n fun e => if e = i then (tabN n fun m => if m < j then orthR c i m else false) else if e < i then tabN n fun m => orthR c e m else []) (n := n) (by omega) (tabN_congr fun e h0 _ => ?_) ?_ ?_
    · try dsimp only
      split
      · exact tabN_congr fun m m0 _ => by rw [if_neg (by omega)]
      · rfl
    · intro j next2 j0 j1 hn2 _ _
      try dsimp only
      simp only [tabN_len, tabN_get (d := ([] : List Bool)) i0 i1, if_true]
      refine cnd_d (fun _ => ?_) (fun h => absurd j1 h)
      (repeat' (with_reducible apply And.intro)) <;> (first | omega | assumption | (intro _; (repeat' (with_reducible apply And.intro)) <;> first | omega | assumption) | (rw [inK64]; (try dsimp only); omega) | skip)
      rw [tab_set j0 j1, tab_set i0 i1]
      refine (congrArg (fun z => next2 (((), (j + 1, ())), (z, ()))) (tabN_congr fun e h0 _ => ?_)).mp hn2
      try dsimp only
      split
      · refine tabN_congr fun m m0 _ => ?_
        try dsimp only
        by_cases e1 : m = j
        · subst e1; rw [if_pos (by omega), if_pos rfl]
        · rw [if_neg e1]
          by_cases e2 : m < j
          · rw [if_pos e2, if_pos (by omega)]
          · rw [if_neg e2, if_neg (by omega)]
      · rfl
    · intro next2 _ _
      refine cnd_d (fun h => absurd h (by dsimp only; omega)) (fun _ => ⟨by rw [inK64]; (try dsimp only); omega, ?_⟩)
      refine (congrArg (fun z => next (((), (i + 1, ())), (z, ()))) (tabN_congr fun e h0 _ => ?_)).mp hnx
      try dsimp only
      by_cases e1 : e = i
      · subst e1
        rw [if_pos (by omega), if_pos rfl]
        exact tabN_congr fun m _ m1 => by rw [if_pos m1]
      · rw [if_neg e1]
        by_cases e2 : e < i
        · rw [if_pos e2, if_pos (by omega)]
        · rw [if_neg e2, if_neg (by omega)]
  · intro next _ _
    refine cnd_d (fun h => absurd h (by dsimp only; omega)) (fun _ => ?_)
    simp only [c_impl_Category_orthogonality, orthTR, hn]
    rw [tabN_congr fun e _ e1 => if_pos e1]
theorem ct_impl_Category_orthogonality : CtOk Try.prog 74 c_impl_Category_orthogonality :=
  ct_by (Φ := lkp [(60, c_impl_Category_arrows), (107, c_impl_Category_isOrthogonal)]) (good_cons ct_impl_Category_arrows (good_cons ct_impl_Category_isOrthogonal good_nil)) tab_ok (by kernel_rfl) (fn := Try.f74) (c := bodyOf Try.f74) (by kernel_rfl) (by kernel_rfl) (by kernel_rfl) c_impl_Category_orthogonality rfl (.s .n (.s .n (.s (.s .n (.l [(3, (.ref 8 [])), (11, (.d (.int .i64)))] [(8, (.sl (.sl (.fz .bool))))] [0, 10] (.s .n (.s .n (.s (.s .n (.s .n (.s .n (.l [(3, (.ref 8 [])), (25, (.d (.int .i64)))] [(8, (.sl (.sl (.fz .bool))))] [0, 4, 10, 11, 24] .n)))) .n))))) .n))) (cutL [(9, 10)]) (by kernel_rfl) (by kernel_rfl) k_impl_Category_orthogonality (by decide) (fun x K => W_impl_Category_orthogonality x.1 K) w_impl_Category_orthogonality (fun x h1 h2 => m_impl_Category_orthogonality x.1 h1 h2)
def catR (c : CategoryD) : Bool := shapeR c && (faultR c).1 == 0

def c_impl_Category_isCategory : Ct := ⟨[(.pt CategoryT)], [false], fun x => [], [(false, (.fz .bool))], fun x => (catR x.1, ()), false, none⟩
def W_impl_Category_isCategory (c : CategoryD) (K : Bool × Unit → Prop) : Prop := (cnd (!(shapeR c)) (K (Bool.false, ())) ((ShapeP c) ∧ (K (((faultR c).1 == (0 : Int)), ()))))
theorem w_impl_Category_isCategory (x : denL c_impl_Category_isCategory.args) (K : Bool × Unit → Prop) : evF tab (lkp [(129, c_impl_Category_fault), (128, c_impl_Category_isShape)]) (cutL []) Try.f96 (bodyOf Try.f96) .n c_impl_Category_isCategory x K = W_impl_Category_isCategory x.1 K := by kernel_rfl
theorem k_impl_Category_isCategory : okC Try.f96.ntmps (cutL []) (bodyOf Try.f96) = true := by kernel_rfl
theorem m_impl_Category_isCategory (c : CategoryD) (hok : allP (okL c_impl_Category_isCategory.args (c, ()))) (hpre : allP (c_impl_Category_isCategory.pre (c, ()))) : W_impl_Category_isCategory c (fun r => r = c_impl_Category_isCategory.res (c, ())) := by
  simp only [c_impl_Category_isCategory, okL, T.oks, T.ok, ap, allP, true_and, and_true, implies_true] at hok hpre
  try dsimp only [T.den] at hok
  try dsimp only [T.den] at hpre
  unfold W_impl_Category_isCategory
  simp only [c_impl_Category_isCategory, catR]
  have := @shape_iff c
  grind [cnd, nb_eq, inK64]
theorem ct_impl_Category_isCategory : CtOk Try.prog 96 c_impl_Category_isCategory :=
  ct_by (Φ := lkp [(129, c_impl_Category_fault), (128, c_impl_Category_isShape)]) (good_cons ct_impl_Category_fault (good_cons ct_impl_Category_isShape good_nil)) tab_ok (by kernel_rfl) (fn := Try.f96) (c := bodyOf Try.f96) (by kernel_rfl) (by kernel_rfl) (by kernel_rfl) c_impl_Category_isCategory rfl .n (cutL []) (by kernel_rfl) (by kernel_rfl) k_impl_Category_isCategory (by decide) (fun x K => W_impl_Category_isCategory x.1 K) w_impl_Category_isCategory (fun x h1 h2 => m_impl_Category_isCategory x.1 h1 h2)
def risesR (l : List Int) : Bool := allB l.length fun i => decide (1 ≤ i → l.getD (i - 1).toNat 0 < l.getD i.toNat 0)
theorem rises_iff {l : List Int} : risesR l = true ↔ ∀ i : Int, 1 ≤ i → i < l.length → l.getD (i - 1).toNat 0 < l.getD i.toNat 0 := by
  simp only [risesR, allB_iff, decide_eq_true_eq]
  constructor
  · intro h i h1 h2; exact h i (by omega) h2 h1
  · intro h i h0 h1 h2; exact h i h2 h1


def c_impl_rising : Ct := ⟨[(.sl (.int .i64))], [false], fun x => [], [(false, (.fz .bool))], fun x => (risesR x.1, ()), false, none⟩
def W_impl_rising (list : List Int) (K : Bool × Unit → Prop) : Prop := (loopW (S := ((Int × Unit) × Unit)) (fun s => (fun next => ((inK IntKind.i64 s.1.1) → (cnd (decide (s.1.1 < (((List.length list) : Nat) : Int))) ((inK IntKind.i64 (s.1.1 - (1 : Int))) ∧ (((0 : Int) ≤ (s.1.1 - (1 : Int))) ∧ (((s.1.1 - (1 : Int)) < (((List.length list) : Nat) : Int)) ∧ (((0 : Int) ≤ s.1.1) ∧ ((s.1.1 < (((List.length list) : Nat) : Int)) ∧ (cnd (decide ((List.getD list (Int.toNat s.1.1) (0 : Int)) ≤ (List.getD list (Int.toNat (s.1.1 - (1 : Int))) (0 : Int)))) (K (Bool.false, ())) ((inK IntKind.i64 (s.1.1 + (1 : Int))) ∧ (next (((s.1.1 + (1 : Int)), ()), ()))))))))) (K (Bool.true, ())))))) (((1 : Int), ()), ()))
theorem w_impl_rising (x : denL c_impl_rising.args) (K : Bool × Unit → Prop) : evF tab (lkp []) (cutL [(4, 10)]) Try.f103 (bodyOf Try.f103) (.s .n (.s (.s .n (.l [(3, (.d (.int .i64)))] [] [0] .n)) .n)) c_impl_rising x K = W_impl_rising x.1 K := by kernel_rfl
theorem k_impl_rising : okC Try.f103.ntmps (cutL [(4, 10)]) (bodyOf Try.f103) = true := by kernel_rfl
theorem m_impl_rising (list : List Int) (hok : allP (okL c_impl_rising.args (list, ()))) (hpre : allP (c_impl_rising.pre (list, ()))) : W_impl_rising list (fun r => r = c_impl_rising.res (list, ())) := by
  simp only [c_impl_rising, okL, T.oks, T.ok, ap, allP, true_and, and_true, implies_true] at hok hpre
  try dsimp only [T.den] at hok
  try dsimp only [T.den] at hpre
  unfold W_impl_rising
  have bad : ∀ i : Int, 1 ≤ i → i < list.length → list.getD i.toNat 0 ≤ list.getD (i - 1).toNat 0 → (false, ()) = c_impl_rising.res (list, ()) := fun i h1 h2 h3 => by
    simp only [c_impl_rising]
    cases h : risesR list with
    | false => rfl
    | true => have := rises_iff.1 h i h1 h2; omega
  refine loop_of (fun (s : ((Int × Unit) × Unit)) => 1 ≤ s.1.1 ∧ (s.1.1 ≤ list.length ∨ s.1.1 = 1) ∧ ∀ j : Int, 1 ≤ j → j < s.1.1 → list.getD (j - 1).toNat 0 < list.getD j.toNat 0) (fun (s : ((Int × Unit) × Unit)) => (list.length - s.1.1).toNat) ?_ ⟨by simp, by simp, fun j h1 h2 => by dsimp only at h2; omega⟩
  rintro ⟨⟨i, _⟩, _⟩ next ⟨h0, h1, h2⟩ hn hin
  try dsimp only at h0 h1 h2 hn ⊢
  have hin' : inK .i64 i := hin
  rw [inK64] at hin'
  have hl := hok.1
  rw [nb_eq] at hl
  refine cnd_d (fun hc => ⟨by rw [inK64]; (try dsimp only); omega, by omega, by omega, by omega, by omega, cnd_d (fun hx => bad i h0 hc hx) (fun hx => ⟨by rw [inK64]; (try dsimp only); omega, hn _ ⟨by dsimp only; omega, by dsimp only; omega, fun j j0 j1 => ?_⟩ (by dsimp only; omega)⟩)⟩) (fun hc => ?_)
  · by_cases e : j = i
    · rw [e]; omega
    · exact h2 j j0 (by dsimp only at j1; omega)
  · simp only [c_impl_rising]
    rw [rises_iff.2 fun j j0 j1 => h2 j j0 (by omega)]
theorem ct_impl_rising : CtOk Try.prog 103 c_impl_rising :=
  ct_by (Φ := lkp []) good_nil tab_ok (by kernel_rfl) (fn := Try.f103) (c := bodyOf Try.f103) (by kernel_rfl) (by kernel_rfl) (by kernel_rfl) c_impl_rising rfl (.s .n (.s (.s .n (.l [(3, (.d (.int .i64)))] [] [0] .n)) .n)) (cutL [(4, 10)]) (by kernel_rfl) (by kernel_rfl) k_impl_rising (by decide) (fun x K => W_impl_rising x.1 K) w_impl_rising (fun x h1 h2 => m_impl_rising x.1 h1 h2)
def objCodeR (c : CategoryD) (l : List Int) : Int := if catR c = true then (if withinR l c.1 = true then 0 else 2) else 1
theorem cat_shape {c : CategoryD} (h : catR c = true) : ShapeP c := by
  simp only [catR, Bool.and_eq_true] at h; exact shape_iff.1 h.1

def c_impl_objectCode : Ct := ⟨[(.pt CategoryT), (.sl (.int .i64))], [false, false], fun x => [], [(false, (.fz (.int .i64)))], fun x => (objCodeR x.1 x.2.1, ()), false, none⟩
def W_impl_objectCode (c : CategoryD) (list : List Int) (K : Int × Unit → Prop) : Prop := (cnd (!(catR c)) (K ((1 : Int), ())) ((inK IntKind.i64 (c.1 - (1 : Int))) ∧ (cnd (!(withinR list c.1)) (K ((2 : Int), ())) (K ((0 : Int), ())))))
theorem w_impl_objectCode (x : denL c_impl_objectCode.args) (K : Int × Unit → Prop) : evF tab (lkp [(96, c_impl_Category_isCategory), (81, c_impl_within)]) (cutL []) Try.f58 (bodyOf Try.f58) .n c_impl_objectCode x K = W_impl_objectCode x.1 x.2.1 K := by kernel_rfl
theorem k_impl_objectCode : okC Try.f58.ntmps (cutL []) (bodyOf Try.f58) = true := by kernel_rfl
theorem m_impl_objectCode (c : CategoryD) (list : List Int) (hok : allP (okL c_impl_objectCode.args (c, list, ()))) (hpre : allP (c_impl_objectCode.pre (c, list, ()))) : W_impl_objectCode c list (fun r => r = c_impl_objectCode.res (c, list, ())) := by
  simp only [c_impl_objectCode, okL, T.oks, T.ok, ap, allP, true_and, and_true, implies_true] at hok hpre
  try dsimp only [T.den] at hok
  try dsimp only [T.den] at hpre
  unfold W_impl_objectCode
  simp only [c_impl_objectCode, objCodeR]
  have h1 := fun h => (cat_shape (c := c) h).ob
  grind [cnd, nb_eq, inK64]
theorem ct_impl_objectCode : CtOk Try.prog 58 c_impl_objectCode :=
  ct_by (Φ := lkp [(96, c_impl_Category_isCategory), (81, c_impl_within)]) (good_cons ct_impl_Category_isCategory (good_cons ct_impl_within good_nil)) tab_ok (by kernel_rfl) (fn := Try.f58) (c := bodyOf Try.f58) (by kernel_rfl) (by kernel_rfl) (by kernel_rfl) c_impl_objectCode rfl .n (cutL []) (by kernel_rfl) (by kernel_rfl) k_impl_objectCode (by decide) (fun x K => W_impl_objectCode x.1 x.2.1 K) w_impl_objectCode (fun x h1 h2 => m_impl_objectCode x.1 x.2.1 h1 h2)
def arrCodeR (c : CategoryD) (l : List Int) : Int := if catR c = true then (if withinR l c.2.1.length = true then 0 else 2) else 1
theorem arrCode_1 {c : CategoryD} {f : Int} (h : arrCodeR c [f] = 0) : ShapeP c ∧ 0 ≤ f ∧ f < c.2.1.length := by
  unfold arrCodeR at h
  split at h
  · rename_i hc
    split at h
    · rename_i hw
      simp only [withinR, List.all_cons, List.all_nil, inR, Bool.and_true, Bool.and_eq_true, decide_eq_true_eq] at hw
      exact ⟨cat_shape hc, hw.1, by omega⟩
    · omega
  · omega

def c_impl_arrowCode : Ct := ⟨[(.pt CategoryT), (.sl (.int .i64))], [false, false], fun x => [], [(false, (.fz (.int .i64)))], fun x => (arrCodeR x.1 x.2.1, ()), false, none⟩
def W_impl_arrowCode (c : CategoryD) (list : List Int) (K : Int × Unit → Prop) : Prop := (cnd (!(catR c)) (K ((1 : Int), ())) ((inK IntKind.i64 ((((List.length c.2.1) : Nat) : Int) - (1 : Int))) ∧ (cnd (!(withinR list (((List.length c.2.1) : Nat) : Int))) (K ((2 : Int), ())) (K ((0 : Int), ())))))
theorem w_impl_arrowCode (x : denL c_impl_arrowCode.args) (K : Int × Unit → Prop) : evF tab (lkp [(60, c_impl_Category_arrows), (96, c_impl_Category_isCategory), (81, c_impl_within)]) (cutL []) Try.f65 (bodyOf Try.f65) .n c_impl_arrowCode x K = W_impl_arrowCode x.1 x.2.1 K := by kernel_rfl
theorem k_impl_arrowCode : okC Try.f65.ntmps (cutL []) (bodyOf Try.f65) = true := by kernel_rfl
theorem m_impl_arrowCode (c : CategoryD) (list : List Int) (hok : allP (okL c_impl_arrowCode.args (c, list, ()))) (hpre : allP (c_impl_arrowCode.pre (c, list, ()))) : W_impl_arrowCode c list (fun r => r = c_impl_arrowCode.res (c, list, ())) := by
  simp only [c_impl_arrowCode, okL, T.oks, T.ok, ap, allP, true_and, and_true, implies_true] at hok hpre
  try dsimp only [T.den] at hok
  try dsimp only [T.den] at hpre
  unfold W_impl_arrowCode
  simp only [c_impl_arrowCode, arrCodeR]
  have h1 := fun h => (cat_shape (c := c) h).m
  grind [cnd, nb_eq, inK64]
theorem ct_impl_arrowCode : CtOk Try.prog 65 c_impl_arrowCode :=
  ct_by (Φ := lkp [(60, c_impl_Category_arrows), (96, c_impl_Category_isCategory), (81, c_impl_within)]) (good_cons ct_impl_Category_arrows (good_cons ct_impl_Category_isCategory (good_cons ct_impl_within good_nil))) tab_ok (by kernel_rfl) (fn := Try.f65) (c := bodyOf Try.f65) (by kernel_rfl) (by kernel_rfl) (by kernel_rfl) c_impl_arrowCode rfl .n (cutL []) (by kernel_rfl) (by kernel_rfl) k_impl_arrowCode (by decide) (fun x K => W_impl_arrowCode x.1 x.2.1 K) w_impl_arrowCode (fun x h1 h2 => m_impl_arrowCode x.1 x.2.1 h1 h2)
def clCodeR (c : CategoryD) (l : List (List Int)) : Int := if catR c = true then (if l.all (fun x => withinR x c.2.1.length) = true then (if l.all risesR = true then 0 else 5) else 2) else 1
theorem clCode_1 {c : CategoryD} {l : List (List Int)} (h : clCodeR c l = 0) : ShapeP c ∧ ∀ x ∈ l, withinR x c.2.1.length = true ∧ risesR x = true := by
  unfold clCodeR at h
  split at h
  · rename_i hc
    split at h
    · rename_i hw
      split at h
      · rename_i hr
        exact ⟨cat_shape hc, fun x hx => ⟨List.all_eq_true.1 hw x hx, List.all_eq_true.1 hr x hx⟩⟩
      · omega
    · omega
  · omega

def c_impl_classCode : Ct := ⟨[(.pt CategoryT), (.sl (.sl (.int .i64)))], [false, false], fun x => [], [(false, (.fz (.int .i64)))], fun x => (clCodeR x.1 x.2.1, ()), false, none⟩
def W_impl_classCode (c : CategoryD) (classes : List (List Int)) (K : Int × Unit → Prop) : Prop := (cnd (!(catR c)) (K ((1 : Int), ())) (loopW (S := ((Int × Unit) × Unit)) (fun s => (fun next => ((inK IntKind.i64 s.1.1) → (cnd (decide (s.1.1 < (((List.length classes) : Nat) : Int))) (((0 : Int) ≤ s.1.1) ∧ ((s.1.1 < (((List.length classes) : Nat) : Int)) ∧ ((inK IntKind.i64 ((((List.length c.2.1) : Nat) : Int) - (1 : Int))) ∧ (cnd (!(withinR (List.getD classes (Int.toNat s.1.1) ([] : List Int)) (((List.length c.2.1) : Nat) : Int))) (K ((2 : Int), ())) ((inK IntKind.i64 (s.1.1 + (1 : Int))) ∧ (next (((s.1.1 + (1 : Int)), ()), ()))))))) (loopW (S := ((Int × Unit) × Unit)) (fun s1 => (fun next1 => ((inK IntKind.i64 s1.1.1) → (cnd (decide (s1.1.1 < (((List.length classes) : Nat) : Int))) (((0 : Int) ≤ s1.1.1) ∧ ((s1.1.1 < (((List.length classes) : Nat) : Int)) ∧ (cnd (!(risesR (List.getD classes (Int.toNat s1.1.1) ([] : List Int)))) (K ((5 : Int), ())) ((inK IntKind.i64 (s1.1.1 + (1 : Int))) ∧ (next1 (((s1.1.1 + (1 : Int)), ()), ())))))) (K ((0 : Int), ())))))) (((0 : Int), ()), ())))))) (((0 : Int), ()), ())))
theorem w_impl_classCode (x : denL c_impl_classCode.args) (K : Int × Unit → Prop) : evF tab (lkp [(60, c_impl_Category_arrows), (96, c_impl_Category_isCategory), (103, c_impl_rising), (81, c_impl_within)]) (cutL []) Try.f73 (bodyOf Try.f73) (.s .n (.s .n (.s (.s .n (.l [(14, (.d (.int .i64)))] [] [0, 1, 12, 13] .n)) (.s (.s .n (.l [(26, (.d (.int .i64)))] [] [24, 25] .n)) .n)))) c_impl_classCode x K = W_impl_classCode x.1 x.2.1 K := by kernel_rfl
theorem k_impl_classCode : okC Try.f73.ntmps (cutL []) (bodyOf Try.f73) = true := by kernel_rfl
theorem m_impl_classCode (c : CategoryD) (classes : List (List Int)) (hok : allP (okL c_impl_classCode.args (c, classes, ()))) (hpre : allP (c_impl_classCode.pre (c, classes, ()))) : W_impl_classCode c classes (fun r => r = c_impl_classCode.res (c, classes, ())) := by
  simp only [c_impl_classCode, okL, T.oks, T.ok, ap, allP, true_and, and_true, implies_true] at hok hpre
  try dsimp only [T.den] at hok
  try dsimp only [T.den] at hpre
  unfold W_impl_classCode
  have hl : classes.length ≤ 140737488355328 := by simp only [nb_eq] at hok; omega
  simp only [c_impl_classCode, clCodeR]
  refine cnd_of (fun hc => ?_) (fun hc => ?_)
  · rw [if_neg (by simpa using hc)]
  replace hc : catR c = true := by simpa using hc
  have hmm := (cat_shape hc).m
  clear hok
  rw [if_pos hc]
  refine loop_all classes [] (fun x => withinR x c.2.1.length) ?_ ?_
  · intro i next i0 i1 hbad hn _
    refine cnd_d (fun _ => ⟨i0, i1, by rw [inK64]; (try dsimp only); omega, cnd_of (fun h => ?_) (fun h => ⟨by rw [inK64]; (try dsimp only); omega, hn (by simpa using h)⟩)⟩) (fun h => absurd i1 h)
    rw [hbad (by simpa using h)]; rfl
  · intro next hw _
    refine cnd_d (fun h => absurd h (by dsimp only; omega)) (fun _ => ?_)
    rw [if_pos hw]
    refine loop_all classes [] (fun x => risesR x) ?_ ?_
    · intro i next2 i0 i1 hbad hn _
      refine cnd_d (fun _ => ⟨i0, i1, cnd_of (fun h => ?_) (fun h => ⟨by rw [inK64]; (try dsimp only); omega, hn (by simpa using h)⟩)⟩) (fun h => absurd i1 h)
      rw [hbad (by simpa using h)]; rfl
    · intro next2 hr _
      refine cnd_d (fun h => absurd h (by dsimp only; omega)) (fun _ => ?_)
      rw [if_pos hr]
theorem ct_impl_classCode : CtOk Try.prog 73 c_impl_classCode :=
  ct_by (Φ := lkp [(60, c_impl_Category_arrows), (96, c_impl_Category_isCategory), (103, c_impl_rising), (81, c_impl_within)]) (good_cons ct_impl_Category_arrows (good_cons ct_impl_Category_isCategory (good_cons ct_impl_rising (good_cons ct_impl_within good_nil)))) tab_ok (by kernel_rfl) (fn := Try.f73) (c := bodyOf Try.f73) (by kernel_rfl) (by kernel_rfl) (by kernel_rfl) c_impl_classCode rfl (.s .n (.s .n (.s (.s .n (.l [(14, (.d (.int .i64)))] [] [0, 1, 12, 13] .n)) (.s (.s .n (.l [(26, (.d (.int .i64)))] [] [24, 25] .n)) .n)))) (cutL []) (by kernel_rfl) (by kernel_rfl) k_impl_classCode (by decide) (fun x K => W_impl_classCode x.1 x.2.1 K) w_impl_classCode (fun x h1 h2 => m_impl_classCode x.1 x.2.1 h1 h2)
def leftR (c : CategoryD) (l : List Int) : List Int := selR c.2.1.length fun e => l.all fun m => orthR c e m
def rightR (c : CategoryD) (l : List Int) : List Int := selR c.2.1.length fun m => l.all fun e => orthR c e m
theorem orthT_len (c : CategoryD) : (orthTR c).length = c.2.1.length := tabN_len _
theorem orthT_at {c : CategoryD} {e m : Int} (e0 : 0 ≤ e) (e1 : e < c.2.1.length) (m0 : 0 ≤ m) (m1 : m < c.2.1.length) : ((orthTR c).getD e.toNat []).getD m.toNat false = orthR c e m := by
  unfold orthTR; rw [tabN_get e0 e1, tabN_get m0 m1]
theorem orthT_sq (c : CategoryD) : sqR (orthTR c) := fun e h0 h1 => by
  rw [orthT_len] at h1 ⊢
  unfold orthTR; rw [tabN_get h0 h1, tabN_len]
theorem left_orth {c : CategoryD} {l : List Int} (h : withinR l c.2.1.length = true) : leftOR (orthTR c) l = leftR c l := by
  unfold leftOR leftR
  rw [orthT_len]
  refine sel_congr fun e e0 e1 => ?_
  rw [Bool.eq_iff_iff, List.all_eq_true, List.all_eq_true]
  have hw := (@all_ix Int 0 l (fun m => 0 ≤ m ∧ m < c.2.1.length)).2 (within_iff.1 h)
  exact ⟨fun g m hm => by rw [← orthT_at e0 e1 (hw m hm).1 (hw m hm).2]; exact g m hm, fun g m hm => by rw [orthT_at e0 e1 (hw m hm).1 (hw m hm).2]; exact g m hm⟩
theorem right_orth {c : CategoryD} {l : List Int} (h : withinR l c.2.1.length = true) : rightOR (orthTR c) l = rightR c l := by
  unfold rightOR rightR
  rw [orthT_len]
  refine sel_congr fun e e0 e1 => ?_
  rw [Bool.eq_iff_iff, List.all_eq_true, List.all_eq_true]
  have hw := (@all_ix Int 0 l (fun m => 0 ≤ m ∧ m < c.2.1.length)).2 (within_iff.1 h)
  exact ⟨fun g m hm => by rw [← orthT_at (hw m hm).1 (hw m hm).2 e0 e1]; exact g m hm, fun g m hm => by rw [orthT_at (hw m hm).1 (hw m hm).2 e0 e1]; exact g m hm⟩
def leftCR (c : CategoryD) (l : List Int) : List Int × Int := if clCodeR c [l] = 0 then (leftR c l, 0) else ([], clCodeR c [l])
def rightCR (c : CategoryD) (l : List Int) : List Int × Int := if clCodeR c [l] = 0 then (rightR c l, 0) else ([], clCodeR c [l])
theorem cl_nil {c : CategoryD} {l : List Int} : clCodeR c [l, []] = clCodeR c [l] := by
  have h1 : risesR [] = true := by decide
  have h2 : ∀ n, withinR [] n = true := fun _ => rfl
  simp only [clCodeR, List.all_cons, List.all_nil, h1, h2, Bool.and_true]
theorem left_len (c : CategoryD) (l : List Int) : (leftR c l).length ≤ c.2.1.length := sel_len _
theorem right_len (c : CategoryD) (l : List Int) : (rightR c l).length ≤ c.2.1.length := sel_len _
theorem cl_one {c : CategoryD} {l : List Int} (h : clCodeR c [l] = 0) : ShapeP c ∧ withinR l c.2.1.length = true := ⟨(clCode_1 h).1, ((clCode_1 h).2 l (by simp)).1⟩

def c_impl_LeftClass : Ct := ⟨[CategoryT, (.sl (.int .i64))], [true, false], fun x => [], [(false, (.sl (.fz (.int .i64)))), (false, (.fz (.int .i64)))], fun x => ((leftCR x.1 x.2.1).1, (leftCR x.1 x.2.1).2, ()), false, none⟩
def W_impl_LeftClass (c : CategoryD) (arrows : List Int) (K : (List Int) × Int × Unit → Prop) : Prop := (cnd ((clCodeR c (arrows :: ([] : List (List Int)))) != (0 : Int)) (K (([] : List Int), ((clCodeR c (arrows :: ([] : List (List Int)))), ()))) ((ShapeP c) ∧ ((sqR (orthTR c)) ∧ (((List.length (orthTR c)) ≤ 1099511627776) ∧ (((withinR arrows (((List.length (orthTR c)) : Nat) : Int)) = Bool.true) ∧ (K ((leftOR (orthTR c) arrows), ((0 : Int), ()))))))))
theorem w_impl_LeftClass (x : denL c_impl_LeftClass.args) (K : (List Int) × Int × Unit → Prop) : evF tab (lkp [(74, c_impl_Category_orthogonality), (75, c_impl_orthogonality_left), (73, c_impl_classCode)]) (cutL []) Try.f28 (bodyOf Try.f28) .n c_impl_LeftClass x K = W_impl_LeftClass x.1 x.2.1 K := by kernel_rfl
theorem k_impl_LeftClass : okC Try.f28.ntmps (cutL []) (bodyOf Try.f28) = true := by kernel_rfl
theorem m_impl_LeftClass (c : CategoryD) (arrows : List Int) (hok : allP (okL c_impl_LeftClass.args (c, arrows, ()))) (hpre : allP (c_impl_LeftClass.pre (c, arrows, ()))) : W_impl_LeftClass c arrows (fun r => r = c_impl_LeftClass.res (c, arrows, ())) := by
  simp only [c_impl_LeftClass, okL, T.oks, T.ok, ap, allP, true_and, and_true, implies_true] at hok hpre
  try dsimp only [T.den] at hok
  try dsimp only [T.den] at hpre
  unfold W_impl_LeftClass
  refine cnd_of (fun hc => ?_) (fun hc => ?_)
  · simp only [c_impl_LeftClass, leftCR]; rw [if_neg (by simpa using hc)]
  have hz : clCodeR c [arrows] = 0 := by simpa using hc
  obtain ⟨S, hw⟩ := cl_one hz
  have hmm := S.m
  simp only [orthT_len]
  refine ⟨S, orthT_sq c, by omega, hw, ?_⟩
  simp only [c_impl_LeftClass, leftCR]
  rw [if_pos hz, left_orth hw]
theorem ct_impl_LeftClass : CtOk Try.prog 28 c_impl_LeftClass :=
  ct_by (Φ := lkp [(74, c_impl_Category_orthogonality), (75, c_impl_orthogonality_left), (73, c_impl_classCode)]) (good_cons ct_impl_Category_orthogonality (good_cons ct_impl_orthogonality_left (good_cons ct_impl_classCode good_nil))) tab_ok (by kernel_rfl) (fn := Try.f28) (c := bodyOf Try.f28) (by kernel_rfl) (by kernel_rfl) (by kernel_rfl) c_impl_LeftClass rfl .n (cutL []) (by kernel_rfl) (by kernel_rfl) k_impl_LeftClass (by decide) (fun x K => W_impl_LeftClass x.1 x.2.1 K) w_impl_LeftClass (fun x h1 h2 => m_impl_LeftClass x.1 x.2.1 h1 h2)
def sysR (c : CategoryD) (e m : List Int) : Bool := eqR (.sl (.int .i64)) (rightR c e) m && eqR (.sl (.int .i64)) (leftR c m) e && factR c e m

def c_impl_Category_isSystem : Ct := ⟨[(.pt CategoryT), (.sl (.sl .bool)), (.sl (.int .i64)), (.sl (.int .i64))], [false, false, false, false], fun x => [ShapeP x.1, x.2.1 = orthTR x.1, withinR x.2.2.1 x.1.2.1.length = true, withinR x.2.2.2.1 x.1.2.1.length = true], [(false, (.fz .bool))], fun x => (sysR x.1 x.2.2.1 x.2.2.2.1, ()), false, none⟩
def W_impl_Category_isSystem (c : CategoryD) (o : List (List Bool)) (e : List Int) (m : List Int) (K : Bool × Unit → Prop) : Prop := ((sqR o) ∧ (((List.length o) ≤ 1099511627776) ∧ (((withinR e (((List.length o) : Nat) : Int)) = Bool.true) ∧ ((((eqR (T.sl (T.int IntKind.i64)) (rightOR o e) m) = Bool.true) → (((List.length o) ≤ 1099511627776) ∧ (((withinR m (((List.length o) : Nat) : Int)) = Bool.true) ∧ (sqR o)))) ∧ (((((eqR (T.sl (T.int IntKind.i64)) (rightOR o e) m) && (eqR (T.sl (T.int IntKind.i64)) (leftOR o m) e)) = Bool.true) → (((withinR e (((List.length c.2.1) : Nat) : Int)) = Bool.true) ∧ (((withinR m (((List.length c.2.1) : Nat) : Int)) = Bool.true) ∧ (ShapeP c)))) ∧ (K ((((eqR (T.sl (T.int IntKind.i64)) (rightOR o e) m) && (eqR (T.sl (T.int IntKind.i64)) (leftOR o m) e)) && (factR c e m)), ())))))))
theorem w_impl_Category_isSystem (x : denL c_impl_Category_isSystem.args) (K : Bool × Unit → Prop) : evF tab (lkp [(111, c_impl_Category_factors), (75, c_impl_orthogonality_left), (77, c_impl_orthogonality_right), (110, c_impl_same)]) (cutL []) Try.f84 (bodyOf Try.f84) .n c_impl_Category_isSystem x K = W_impl_Category_isSystem x.1 x.2.1 x.2.2.1 x.2.2.2.1 K := by kernel_rfl
theorem k_impl_Category_isSystem : okC Try.f84.ntmps (cutL []) (bodyOf Try.f84) = true := by kernel_rfl
theorem m_impl_Category_isSystem (c : CategoryD) (o : List (List Bool)) (e : List Int) (m : List Int) (hok : allP (okL c_impl_Category_isSystem.args (c, o, e, m, ()))) (hpre : allP (c_impl_Category_isSystem.pre (c, o, e, m, ()))) : W_impl_Category_isSystem c o e m (fun r => r = c_impl_Category_isSystem.res (c, o, e, m, ())) := by
  simp only [c_impl_Category_isSystem, okL, T.oks, T.ok, ap, allP, true_and, and_true, implies_true] at hok hpre
  try dsimp only [T.den] at hok
  try dsimp only [T.den] at hpre
  unfold W_impl_Category_isSystem
  obtain ⟨S, rfl, hwe, hwm⟩ := hpre
  have hmm := S.m
  simp only [orthT_len, left_orth hwm, right_orth hwe]
  refine ⟨orthT_sq c, by omega, hwe, fun _ => ⟨by omega, hwm, orthT_sq c⟩, fun _ => ⟨hwe, hwm, S⟩, ?_⟩
  simp only [c_impl_Category_isSystem, sysR]
theorem ct_impl_Category_isSystem : CtOk Try.prog 84 c_impl_Category_isSystem :=
  ct_by (Φ := lkp [(111, c_impl_Category_factors), (75, c_impl_orthogonality_left), (77, c_impl_orthogonality_right), (110, c_impl_same)]) (good_cons ct_impl_Category_factors (good_cons ct_impl_orthogonality_left (good_cons ct_impl_orthogonality_right (good_cons ct_impl_same good_nil)))) tab_ok (by kernel_rfl) (fn := Try.f84) (c := bodyOf Try.f84) (by kernel_rfl) (by kernel_rfl) (by kernel_rfl) c_impl_Category_isSystem rfl .n (cutL []) (by kernel_rfl) (by kernel_rfl) k_impl_Category_isSystem (by decide) (fun x K => W_impl_Category_isSystem x.1 x.2.1 x.2.2.1 x.2.2.2.1 K) w_impl_Category_isSystem (fun x h1 h2 => m_impl_Category_isSystem x.1 x.2.1 x.2.2.1 x.2.2.2.1 h1 h2)
def isSysR (c : CategoryD) (e m : List Int) : Bool := decide (clCodeR c [e, m] = 0) && sysR c e m
theorem cl_two {c : CategoryD} {e m : List Int} (h : clCodeR c [e, m] = 0) : ShapeP c ∧ (withinR e c.2.1.length = true ∧ risesR e = true) ∧ withinR m c.2.1.length = true ∧ risesR m = true := ⟨(clCode_1 h).1, (clCode_1 h).2 e (by simp), (clCode_1 h).2 m (by simp)⟩
theorem rises_len {l : List Int} {n : Nat} (hw : withinR l n = true) (hr : risesR l = true) : l.length ≤ n := by
  rw [within_iff] at hw
  rw [rises_iff] at hr
  have key : ∀ k : Nat, (k : Int) < l.length → (k : Int) ≤ l.getD k 0 := by
    intro k
    induction k with
    | zero => intro hk; exact (hw 0 (by omega) hk).1
    | succ k ih =>
      intro hk
      have h1 := ih (by omega)
      have h2 := hr (k + 1) (by omega) (by omega)
      rw [show ((k : Int) + 1 - 1).toNat = k by omega, show ((k : Int) + 1).toNat = k + 1 by omega] at h2
      omega
  by_cases h0 : l.length = 0
  · omega
  have h1 := key (l.length - 1) (by omega)
  have h2 := (hw ((l.length - 1 : Nat) : Int) (by omega) (by omega)).2
  rw [Int.toNat_natCast] at h2
  omega

def c_impl_IsFactorizationSystem : Ct := ⟨[CategoryT, (.sl (.int .i64)), (.sl (.int .i64))], [true, false, false], fun x => [], [(false, (.fz .bool)), (false, (.fz (.int .i64)))], fun x => (isSysR x.1 x.2.1 x.2.2.1, clCodeR x.1 [x.2.1, x.2.2.1], ()), false, none⟩
def W_impl_IsFactorizationSystem (c : CategoryD) (e : List Int) (m : List Int) (K : Bool × Int × Unit → Prop) : Prop := (cnd ((clCodeR c (e :: (m :: ([] : List (List Int))))) != (0 : Int)) (K (Bool.false, ((clCodeR c (e :: (m :: ([] : List (List Int))))), ()))) ((ShapeP c) ∧ ((ShapeP c) ∧ (((orthTR c) = (orthTR c)) ∧ (((withinR e (((List.length c.2.1) : Nat) : Int)) = Bool.true) ∧ (((withinR m (((List.length c.2.1) : Nat) : Int)) = Bool.true) ∧ (K ((sysR c e m), ((0 : Int), ())))))))))
theorem w_impl_IsFactorizationSystem (x : denL c_impl_IsFactorizationSystem.args) (K : Bool × Int × Unit → Prop) : evF tab (lkp [(84, c_impl_Category_isSystem), (74, c_impl_Category_orthogonality), (73, c_impl_classCode)]) (cutL []) Try.f40 (bodyOf Try.f40) .n c_impl_IsFactorizationSystem x K = W_impl_IsFactorizationSystem x.1 x.2.1 x.2.2.1 K := by kernel_rfl
theorem k_impl_IsFactorizationSystem : okC Try.f40.ntmps (cutL []) (bodyOf Try.f40) = true := by kernel_rfl
theorem m_impl_IsFactorizationSystem (c : CategoryD) (e : List Int) (m : List Int) (hok : allP (okL c_impl_IsFactorizationSystem.args (c, e, m, ()))) (hpre : allP (c_impl_IsFactorizationSystem.pre (c, e, m, ()))) : W_impl_IsFactorizationSystem c e m (fun r => r = c_impl_IsFactorizationSystem.res (c, e, m, ())) := by
  simp only [c_impl_IsFactorizationSystem, okL, T.oks, T.ok, ap, allP, true_and, and_true, implies_true] at hok hpre
  try dsimp only [T.den] at hok
  try dsimp only [T.den] at hpre
  unfold W_impl_IsFactorizationSystem
  refine cnd_of (fun hc => ?_) (fun hc => ?_)
  · simp only [c_impl_IsFactorizationSystem, isSysR]; rw [decide_eq_false (by simpa using hc)]; rfl
  have hz : clCodeR c [e, m] = 0 := by simpa using hc
  obtain ⟨S, he, hm⟩ := cl_two hz
  refine ⟨S, S, rfl, he.1, hm.1, ?_⟩
  simp only [c_impl_IsFactorizationSystem, isSysR, hz]; rfl
theorem ct_impl_IsFactorizationSystem : CtOk Try.prog 40 c_impl_IsFactorizationSystem :=
  ct_by (Φ := lkp [(84, c_impl_Category_isSystem), (74, c_impl_Category_orthogonality), (73, c_impl_classCode)]) (good_cons ct_impl_Category_isSystem (good_cons ct_impl_Category_orthogonality (good_cons ct_impl_classCode good_nil))) tab_ok (by kernel_rfl) (fn := Try.f40) (c := bodyOf Try.f40) (by kernel_rfl) (by kernel_rfl) (by kernel_rfl) c_impl_IsFactorizationSystem rfl .n (cutL []) (by kernel_rfl) (by kernel_rfl) k_impl_IsFactorizationSystem (by decide) (fun x K => W_impl_IsFactorizationSystem x.1 x.2.1 x.2.2.1 K) w_impl_IsFactorizationSystem (fun x h1 h2 => m_impl_IsFactorizationSystem x.1 x.2.1 x.2.2.1 h1 h2)
def c_laws_eqInt64S : Ct := ⟨[(.sl (.int .i64)), (.sl (.int .i64))], [false, false], fun x => [], [(false, (.fz .bool))], fun x => (eqR (.sl (.int .i64)) x.1 x.2.1, ()), false, none⟩
def W_laws_eqInt64S (a : List Int) (b : List Int) (K : Bool × Unit → Prop) : Prop := (cnd ((((List.length a) : Nat) : Int) != (((List.length b) : Nat) : Int)) (K (Bool.false, ())) (loopW (S := ((Int × Unit) × Unit)) (fun s => (fun next => ((inK IntKind.i64 s.1.1) → (cnd (decide (s.1.1 < (((List.length a) : Nat) : Int))) (((0 : Int) ≤ s.1.1) ∧ ((s.1.1 < (((List.length a) : Nat) : Int)) ∧ (((0 : Int) ≤ s.1.1) ∧ ((s.1.1 < (((List.length b) : Nat) : Int)) ∧ (cnd ((List.getD a (Int.toNat s.1.1) (0 : Int)) != (List.getD b (Int.toNat s.1.1) (0 : Int))) (K (Bool.false, ())) ((inK IntKind.i64 (s.1.1 + (1 : Int))) ∧ (next (((s.1.1 + (1 : Int)), ()), ())))))))) (K (Bool.true, ())))))) (((0 : Int), ()), ())))
theorem w_laws_eqInt64S (x : denL c_laws_eqInt64S.args) (K : Bool × Unit → Prop) : evF tab (lkp []) (cutL [(6, 9)]) Try.f18 (bodyOf Try.f18) (.s .n (.s .n (.s (.s .n (.l [(5, (.d (.int .i64)))] [] [0, 1] .n)) .n))) c_laws_eqInt64S x K = W_laws_eqInt64S x.1 x.2.1 K := by kernel_rfl
theorem k_laws_eqInt64S : okC Try.f18.ntmps (cutL [(6, 9)]) (bodyOf Try.f18) = true := by kernel_rfl
theorem m_laws_eqInt64S (a : List Int) (b : List Int) (hok : allP (okL c_laws_eqInt64S.args (a, b, ()))) (hpre : allP (c_laws_eqInt64S.pre (a, b, ()))) : W_laws_eqInt64S a b (fun r => r = c_laws_eqInt64S.res (a, b, ())) := by
  simp only [c_laws_eqInt64S, okL, T.oks, T.ok, ap, allP, true_and, and_true, implies_true] at hok hpre
  try dsimp only [T.den] at hok
  try dsimp only [T.den] at hpre
  unfold W_laws_eqInt64S
  refine cnd_of (fun hc => ?_) (fun hc => ?_)
  · simp only [c_laws_eqInt64S, Prod.mk.injEq, and_true]; rw [eqR_f]; rintro rfl; simp at hc
  have hl : a.length = b.length := by simp at hc; omega
  refine loop_of (fun (s : ((Int × Unit) × Unit)) => 0 ≤ s.1.1 ∧ s.1.1 ≤ a.length ∧ a.take s.1.1.toNat = b.take s.1.1.toNat) (fun (s : ((Int × Unit) × Unit)) => (a.length - s.1.1).toNat) ?_ (by simp)
  rintro ⟨⟨i, _⟩, _⟩ next ⟨h0, h1, h2⟩ hn hin
  simp only at h0 h1 h2 hn ⊢
  refine cnd_d (fun hc => ?_) (fun hc => ?_)
  · have ha := take_c a (0 : Int) h0 hc
    have hb := take_c b (0 : Int) h0 (by omega)
    refine ⟨by omega, by omega, by omega, by omega, cnd_of (fun hd => ?_) (fun hd => ?_)⟩
    · simp only [c_laws_eqInt64S, Prod.mk.injEq, and_true]; rw [eqR_f]; rintro rfl; simp at hd
    · refine ⟨by grind [cnd, nb_eq, inK64], hn _ ⟨(by first | omega | (dsimp only; omega)), (by first | omega | (dsimp only; omega)), ?_⟩ (by first | omega | (dsimp only; omega))⟩
      simp only [Bool.not_eq_false', eqR_iff, bne_eq_false_iff_eq] at hd
      simp only [ha, hb, h2, hd]
  · rw [take_n a (by omega), take_n b (by omega)] at h2
    simp [h2, c_laws_eqInt64S]
theorem ct_laws_eqInt64S : CtOk Try.prog 18 c_laws_eqInt64S :=
  ct_by (Φ := lkp []) good_nil tab_ok (by kernel_rfl) (fn := Try.f18) (c := bodyOf Try.f18) (by kernel_rfl) (by kernel_rfl) (by kernel_rfl) c_laws_eqInt64S rfl (.s .n (.s .n (.s (.s .n (.l [(5, (.d (.int .i64)))] [] [0, 1] .n)) .n))) (cutL [(6, 9)]) (by kernel_rfl) (by kernel_rfl) k_laws_eqInt64S (by decide) (fun x K => W_laws_eqInt64S x.1 x.2.1 K) w_laws_eqInt64S (fun x h1 h2 => m_laws_eqInt64S x.1 x.2.1 h1 h2)
def c_laws_eqInt64SS : Ct := ⟨[(.sl (.sl (.int .i64))), (.sl (.sl (.int .i64)))], [false, false], fun x => [], [(false, (.fz .bool))], fun x => (eqR (.sl (.sl (.int .i64))) x.1 x.2.1, ()), false, none⟩
def W_laws_eqInt64SS (a : List (List Int)) (b : List (List Int)) (K : Bool × Unit → Prop) : Prop := (cnd ((((List.length a) : Nat) : Int) != (((List.length b) : Nat) : Int)) (K (Bool.false, ())) (loopW (S := ((Int × Unit) × Unit)) (fun s => (fun next => ((inK IntKind.i64 s.1.1) → (cnd (decide (s.1.1 < (((List.length a) : Nat) : Int))) (((0 : Int) ≤ s.1.1) ∧ ((s.1.1 < (((List.length a) : Nat) : Int)) ∧ (((0 : Int) ≤ s.1.1) ∧ ((s.1.1 < (((List.length b) : Nat) : Int)) ∧ (cnd (!(eqR (T.sl (T.int IntKind.i64)) (List.getD a (Int.toNat s.1.1) ([] : List Int)) (List.getD b (Int.toNat s.1.1) ([] : List Int)))) (K (Bool.false, ())) ((inK IntKind.i64 (s.1.1 + (1 : Int))) ∧ (next (((s.1.1 + (1 : Int)), ()), ())))))))) (K (Bool.true, ())))))) (((0 : Int), ()), ())))
theorem w_laws_eqInt64SS (x : denL c_laws_eqInt64SS.args) (K : Bool × Unit → Prop) : evF tab (lkp [(18, c_laws_eqInt64S)]) (cutL [(6, 10)]) Try.f38 (bodyOf Try.f38) (.s .n (.s .n (.s (.s .n (.l [(5, (.d (.int .i64)))] [] [0, 1] .n)) .n))) c_laws_eqInt64SS x K = W_laws_eqInt64SS x.1 x.2.1 K := by kernel_rfl
theorem k_laws_eqInt64SS : okC Try.f38.ntmps (cutL [(6, 10)]) (bodyOf Try.f38) = true := by kernel_rfl
theorem m_laws_eqInt64SS (a : List (List Int)) (b : List (List Int)) (hok : allP (okL c_laws_eqInt64SS.args (a, b, ()))) (hpre : allP (c_laws_eqInt64SS.pre (a, b, ()))) : W_laws_eqInt64SS a b (fun r => r = c_laws_eqInt64SS.res (a, b, ())) := by
  simp only [c_laws_eqInt64SS, okL, T.oks, T.ok, ap, allP, true_and, and_true, implies_true] at hok hpre
  try dsimp only [T.den] at hok
  try dsimp only [T.den] at hpre
  unfold W_laws_eqInt64SS
  refine cnd_of (fun hc => ?_) (fun hc => ?_)
  · simp only [c_laws_eqInt64SS, Prod.mk.injEq, and_true]; rw [eqR_f]; rintro rfl; simp at hc
  have hl : a.length = b.length := by simp at hc; omega
  refine loop_of (fun (s : ((Int × Unit) × Unit)) => 0 ≤ s.1.1 ∧ s.1.1 ≤ a.length ∧ a.take s.1.1.toNat = b.take s.1.1.toNat) (fun (s : ((Int × Unit) × Unit)) => (a.length - s.1.1).toNat) ?_ (by simp)
  rintro ⟨⟨i, _⟩, _⟩ next ⟨h0, h1, h2⟩ hn hin
  simp only at h0 h1 h2 hn ⊢
  refine cnd_d (fun hc => ?_) (fun hc => ?_)
  · have ha := take_c a ([] : List Int) h0 hc
    have hb := take_c b ([] : List Int) h0 (by omega)
    refine ⟨by omega, by omega, by omega, by omega, cnd_of (fun hd => ?_) (fun hd => ?_)⟩
    · simp only [c_laws_eqInt64SS, Prod.mk.injEq, and_true]; rw [eqR_f]; rintro rfl; simp at hd
    · refine ⟨by grind [cnd, nb_eq, inK64], hn _ ⟨(by first | omega | (dsimp only; omega)), (by first | omega | (dsimp only; omega)), ?_⟩ (by first | omega | (dsimp only; omega))⟩
      simp only [Bool.not_eq_false', eqR_iff, bne_eq_false_iff_eq] at hd
      simp only [ha, hb, h2, hd]
  · rw [take_n a (by omega), take_n b (by omega)] at h2
    simp [h2, c_laws_eqInt64SS]
theorem ct_laws_eqInt64SS : CtOk Try.prog 38 c_laws_eqInt64SS :=
  ct_by (Φ := lkp [(18, c_laws_eqInt64S)]) (good_cons ct_laws_eqInt64S good_nil) tab_ok (by kernel_rfl) (fn := Try.f38) (c := bodyOf Try.f38) (by kernel_rfl) (by kernel_rfl) (by kernel_rfl) c_laws_eqInt64SS rfl (.s .n (.s .n (.s (.s .n (.l [(5, (.d (.int .i64)))] [] [0, 1] .n)) .n))) (cutL [(6, 10)]) (by kernel_rfl) (by kernel_rfl) k_laws_eqInt64SS (by decide) (fun x K => W_laws_eqInt64SS x.1 x.2.1 K) w_laws_eqInt64SS (fun x h1 h2 => m_laws_eqInt64SS x.1 x.2.1 h1 h2)
def c_laws_eqCategory : Ct := ⟨[CategoryT, CategoryT], [true, true], fun x => [], [(false, (.fz .bool))], fun x => (eqR CategoryT x.1 x.2.1, ()), false, none⟩
def W_laws_eqCategory (a : CategoryD) (b : CategoryD) (K : Bool × Unit → Prop) : Prop := (cnd (a.1 != b.1) (K (Bool.false, ())) (cnd (!(eqR (T.sl (T.int IntKind.i64)) a.2.1 b.2.1)) (K (Bool.false, ())) (cnd (!(eqR (T.sl (T.int IntKind.i64)) a.2.2.1 b.2.2.1)) (K (Bool.false, ())) (cnd (!(eqR (T.sl (T.int IntKind.i64)) a.2.2.2.1 b.2.2.2.1)) (K (Bool.false, ())) (cnd (!(eqR (T.sl (T.sl (T.int IntKind.i64))) a.2.2.2.2 b.2.2.2.2)) (K (Bool.false, ())) (K (Bool.true, ())))))))
theorem w_laws_eqCategory (x : denL c_laws_eqCategory.args) (K : Bool × Unit → Prop) : evF tab (lkp [(18, c_laws_eqInt64S), (38, c_laws_eqInt64SS)]) (cutL []) Try.f19 (bodyOf Try.f19) .n c_laws_eqCategory x K = W_laws_eqCategory x.1 x.2.1 K := by kernel_rfl
theorem k_laws_eqCategory : okC Try.f19.ntmps (cutL []) (bodyOf Try.f19) = true := by kernel_rfl
theorem m_laws_eqCategory (a : CategoryD) (b : CategoryD) (hok : allP (okL c_laws_eqCategory.args (a, b, ()))) (hpre : allP (c_laws_eqCategory.pre (a, b, ()))) : W_laws_eqCategory a b (fun r => r = c_laws_eqCategory.res (a, b, ())) := by
  simp only [c_laws_eqCategory, okL, T.oks, T.ok, ap, allP, true_and, and_true, implies_true] at hok hpre
  try dsimp only [T.den] at hok
  try dsimp only [T.den] at hpre
  unfold W_laws_eqCategory
  simp only [c_laws_eqCategory, eqR_p, eqR_int, eqR_bool]
  grind [cnd, nb_eq, inK64]
theorem ct_laws_eqCategory : CtOk Try.prog 19 c_laws_eqCategory :=
  ct_by (Φ := lkp [(18, c_laws_eqInt64S), (38, c_laws_eqInt64SS)]) (good_cons ct_laws_eqInt64S (good_cons ct_laws_eqInt64SS good_nil)) tab_ok (by kernel_rfl) (fn := Try.f19) (c := bodyOf Try.f19) (by kernel_rfl) (by kernel_rfl) (by kernel_rfl) c_laws_eqCategory rfl .n (cutL []) (by kernel_rfl) (by kernel_rfl) k_laws_eqCategory (by decide) (fun x K => W_laws_eqCategory x.1 x.2.1 K) w_laws_eqCategory (fun x h1 h2 => m_laws_eqCategory x.1 x.2.1 h1 h2)
def c_laws_szInt64S : Ct := ⟨[(.sl (.int .i64)), (.int .i64)], [false, false], fun x => [-4611545280939032576 ≤ x.2.1], [(false, (.fz (.int .i64)))], fun x => (szR (wR (.sl (.int .i64)) x.1) x.2.1, ()), false, none⟩
def W_laws_szInt64S (a : List Int) (left : Int) (K : Int × Unit → Prop) : Prop := ((inK IntKind.i64 (left - (((List.length a) : Nat) : Int))) ∧ (cnd (decide ((left - (((List.length a) : Nat) : Int)) < (0 : Int))) (K ((-(1 : Int)), ())) (K ((left - (((List.length a) : Nat) : Int)), ()))))
theorem w_laws_szInt64S (x : denL c_laws_szInt64S.args) (K : Int × Unit → Prop) : evF tab (lkp []) (cutL []) Try.f54 (bodyOf Try.f54) .n c_laws_szInt64S x K = W_laws_szInt64S x.1 x.2.1 K := by kernel_rfl
theorem k_laws_szInt64S : okC Try.f54.ntmps (cutL []) (bodyOf Try.f54) = true := by kernel_rfl
theorem m_laws_szInt64S (a : List Int) (left : Int) (hok : allP (okL c_laws_szInt64S.args (a, left, ()))) (hpre : allP (c_laws_szInt64S.pre (a, left, ()))) : W_laws_szInt64S a left (fun r => r = c_laws_szInt64S.res (a, left, ())) := by
  simp only [c_laws_szInt64S, okL, T.oks, T.ok, ap, allP, true_and, and_true, implies_true] at hok hpre
  try dsimp only [T.den] at hok
  try dsimp only [T.den] at hpre
  unfold W_laws_szInt64S
  simp only [c_laws_szInt64S, wR_ints]
  grind [cnd, nb_eq, inK64, szR]
theorem ct_laws_szInt64S : CtOk Try.prog 54 c_laws_szInt64S :=
  ct_by (Φ := lkp []) good_nil tab_ok (by kernel_rfl) (fn := Try.f54) (c := bodyOf Try.f54) (by kernel_rfl) (by kernel_rfl) (by kernel_rfl) c_laws_szInt64S rfl .n (cutL []) (by kernel_rfl) (by kernel_rfl) k_laws_szInt64S (by decide) (fun x K => W_laws_szInt64S x.1 x.2.1 K) w_laws_szInt64S (fun x h1 h2 => m_laws_szInt64S x.1 x.2.1 h1 h2)
def c_laws_szInt64SS : Ct := ⟨[(.sl (.sl (.int .i64))), (.int .i64)], [false, false], fun x => [-4611404543450677248 ≤ x.2.1], [(false, (.fz (.int .i64)))], fun x => (szR (wR (.sl (.sl (.int .i64))) x.1) x.2.1, ()), false, none⟩
def W_laws_szInt64SS (a : List (List Int)) (left : Int) (K : Int × Unit → Prop) : Prop := ((inK IntKind.i64 (left - (((List.length a) : Nat) : Int))) ∧ (cnd (decide ((left - (((List.length a) : Nat) : Int)) < (0 : Int))) (K ((-(1 : Int)), ())) (loopW (S := ((Int × (Int × Unit)) × Unit)) (fun s => (fun next => ((inK IntKind.i64 s.1.1) → ((inK IntKind.i64 s.1.2.1) → (cnd (decide (s.1.2.1 < (((List.length a) : Nat) : Int))) (((0 : Int) ≤ s.1.2.1) ∧ ((s.1.2.1 < (((List.length a) : Nat) : Int)) ∧ (((-(4611545280939032576 : Int)) ≤ s.1.1) ∧ (cnd (decide ((szR (wR (T.sl (T.int IntKind.i64)) (List.getD a (Int.toNat s.1.2.1) ([] : List Int))) s.1.1) < (0 : Int))) (K ((-(1 : Int)), ())) ((inK IntKind.i64 (s.1.2.1 + (1 : Int))) ∧ (next (((szR (wR (T.sl (T.int IntKind.i64)) (List.getD a (Int.toNat s.1.2.1) ([] : List Int))) s.1.1), ((s.1.2.1 + (1 : Int)), ())), ()))))))) (K (s.1.1, ()))))))) (((left - (((List.length a) : Nat) : Int)), ((0 : Int), ())), ()))))
theorem w_laws_szInt64SS (x : denL c_laws_szInt64SS.args) (K : Int × Unit → Prop) : evF tab (lkp [(54, c_laws_szInt64S)]) (cutL []) Try.f32 (bodyOf Try.f32) (.s .n (.s .n (.s .n (.s (.s .n (.l [(1, (.d (.int .i64))), (5, (.d (.int .i64)))] [] [0] .n)) .n)))) c_laws_szInt64SS x K = W_laws_szInt64SS x.1 x.2.1 K := by kernel_rfl
theorem k_laws_szInt64SS : okC Try.f32.ntmps (cutL []) (bodyOf Try.f32) = true := by kernel_rfl
theorem m_laws_szInt64SS (a : List (List Int)) (left : Int) (hok : allP (okL c_laws_szInt64SS.args (a, left, ()))) (hpre : allP (c_laws_szInt64SS.pre (a, left, ()))) : W_laws_szInt64SS a left (fun r => r = c_laws_szInt64SS.res (a, left, ())) := by
  simp only [c_laws_szInt64SS, okL, T.oks, T.ok, ap, allP, true_and, and_true, implies_true] at hok hpre
  try dsimp only [T.den] at hok
  try dsimp only [T.den] at hpre
  unfold W_laws_szInt64SS
  have hr := szR_ge (x := a.length) (r := (a.map (wR (.sl (.int .i64)))).sum) (l := left)
  refine ⟨by grind [cnd, nb_eq, inK64], cnd_d (fun hc => ?_) (fun hc => ?_)⟩
  · simp only [c_laws_szInt64SS]; rw [wR_sl, szR_lt (x := a.length) (by omega)]
  replace hr := hr (by omega)
  rw [szR_val (x := a.length) (by omega)] at hr
  refine loop_of (fun (s : ((Int × (Int × Unit)) × Unit)) => 0 ≤ s.1.1 ∧ 0 ≤ s.1.2.1 ∧ s.1.2.1 ≤ a.length ∧ szR (wR (.sl (.sl (.int .i64))) a) left = szR ((a.drop s.1.2.1.toNat).map (wR (.sl (.int .i64)))).sum s.1.1) (fun (s : ((Int × (Int × Unit)) × Unit)) => (a.length - s.1.2.1).toNat) ?_ ⟨(by first | omega | (dsimp only; omega)), by simp, by simp, by rw [wR_sl]; simpa using hr⟩
  rintro ⟨⟨l, i, _⟩, _⟩ next ⟨h0, h1, h2, h3⟩ hn hin hl
  simp only at h0 h1 h2 h3 hn ⊢
  refine cnd_d (fun hc => ?_) (fun hc => ?_)
  · rw [drop_c a ([] : List Int) h1 hc, List.map_cons, List.sum_cons] at h3
    refine ⟨by omega, by omega, by omega, cnd_d (fun hd => ?_) (fun hd => ?_)⟩
    · rw [szR_neg] at hd
      rw [szR_lt hd] at h3
      simp only [c_laws_szInt64SS]; rw [h3]
    · rw [szR_neg] at hd
      rw [szR_ge hd] at h3
      exact ⟨by grind [cnd, nb_eq, inK64], hn _ ⟨by simp only; rw [szR_val hd]; omega, (by first | omega | (dsimp only; omega)), (by first | omega | (dsimp only; omega)), h3⟩ (by first | omega | (dsimp only; omega))⟩
  · rw [drop_n a (by omega)] at h3
    simp only [List.map_nil, List.sum_nil] at h3
    rw [szR_zero h0] at h3
    simp only [c_laws_szInt64SS]; rw [h3]
theorem ct_laws_szInt64SS : CtOk Try.prog 32 c_laws_szInt64SS :=
  ct_by (Φ := lkp [(54, c_laws_szInt64S)]) (good_cons ct_laws_szInt64S good_nil) tab_ok (by kernel_rfl) (fn := Try.f32) (c := bodyOf Try.f32) (by kernel_rfl) (by kernel_rfl) (by kernel_rfl) c_laws_szInt64SS rfl (.s .n (.s .n (.s .n (.s (.s .n (.l [(1, (.d (.int .i64))), (5, (.d (.int .i64)))] [] [0] .n)) .n)))) (cutL []) (by kernel_rfl) (by kernel_rfl) k_laws_szInt64SS (by decide) (fun x K => W_laws_szInt64SS x.1 x.2.1 K) w_laws_szInt64SS (fun x h1 h2 => m_laws_szInt64SS x.1 x.2.1 h1 h2)
def c_laws_szCategory : Ct := ⟨[CategoryT, (.int .i64)], [true, false], fun x => [-4611404543450677248 ≤ x.2.1], [(false, (.fz (.int .i64)))], fun x => (szR (wR CategoryT x.1) x.2.1, ()), false, none⟩
def W_laws_szCategory (a : CategoryD) (left : Int) (K : Int × Unit → Prop) : Prop := (((-(4611545280939032576 : Int)) ≤ left) ∧ (cnd (decide ((szR (wR (T.sl (T.int IntKind.i64)) a.2.1) left) < (0 : Int))) (K ((-(1 : Int)), ())) (((-(4611545280939032576 : Int)) ≤ (szR (wR (T.sl (T.int IntKind.i64)) a.2.1) left)) ∧ (cnd (decide ((szR (wR (T.sl (T.int IntKind.i64)) a.2.2.1) (szR (wR (T.sl (T.int IntKind.i64)) a.2.1) left)) < (0 : Int))) (K ((-(1 : Int)), ())) (((-(4611545280939032576 : Int)) ≤ (szR (wR (T.sl (T.int IntKind.i64)) a.2.2.1) (szR (wR (T.sl (T.int IntKind.i64)) a.2.1) left))) ∧ (cnd (decide ((szR (wR (T.sl (T.int IntKind.i64)) a.2.2.2.1) (szR (wR (T.sl (T.int IntKind.i64)) a.2.2.1) (szR (wR (T.sl (T.int IntKind.i64)) a.2.1) left))) < (0 : Int))) (K ((-(1 : Int)), ())) (((-(4611404543450677248 : Int)) ≤ (szR (wR (T.sl (T.int IntKind.i64)) a.2.2.2.1) (szR (wR (T.sl (T.int IntKind.i64)) a.2.2.1) (szR (wR (T.sl (T.int IntKind.i64)) a.2.1) left)))) ∧ (cnd (decide ((szR (wR (T.sl (T.sl (T.int IntKind.i64))) a.2.2.2.2) (szR (wR (T.sl (T.int IntKind.i64)) a.2.2.2.1) (szR (wR (T.sl (T.int IntKind.i64)) a.2.2.1) (szR (wR (T.sl (T.int IntKind.i64)) a.2.1) left)))) < (0 : Int))) (K ((-(1 : Int)), ())) (K ((szR (wR (T.sl (T.sl (T.int IntKind.i64))) a.2.2.2.2) (szR (wR (T.sl (T.int IntKind.i64)) a.2.2.2.1) (szR (wR (T.sl (T.int IntKind.i64)) a.2.2.1) (szR (wR (T.sl (T.int IntKind.i64)) a.2.1) left)))), ()))))))))))
theorem w_laws_szCategory (x : denL c_laws_szCategory.args) (K : Int × Unit → Prop) : evF tab (lkp [(54, c_laws_szInt64S), (32, c_laws_szInt64SS)]) (cutL []) Try.f13 (bodyOf Try.f13) .n c_laws_szCategory x K = W_laws_szCategory x.1 x.2.1 K := by kernel_rfl
theorem k_laws_szCategory : okC Try.f13.ntmps (cutL []) (bodyOf Try.f13) = true := by kernel_rfl
theorem m_laws_szCategory (a : CategoryD) (left : Int) (hok : allP (okL c_laws_szCategory.args (a, left, ()))) (hpre : allP (c_laws_szCategory.pre (a, left, ()))) : W_laws_szCategory a left (fun r => r = c_laws_szCategory.res (a, left, ())) := by
  simp only [c_laws_szCategory, okL, T.oks, T.ok, ap, allP, true_and, and_true, implies_true] at hok hpre
  try dsimp only [T.den] at hok
  try dsimp only [T.den] at hpre
  unfold W_laws_szCategory
  simp only [c_laws_szCategory, wR_p, wR_int, wR_bool, Nat.zero_add, Nat.add_zero]
  grind [cnd, nb_eq, inK64, szR]
theorem ct_laws_szCategory : CtOk Try.prog 13 c_laws_szCategory :=
  ct_by (Φ := lkp [(54, c_laws_szInt64S), (32, c_laws_szInt64SS)]) (good_cons ct_laws_szInt64S (good_cons ct_laws_szInt64SS good_nil)) tab_ok (by kernel_rfl) (fn := Try.f13) (c := bodyOf Try.f13) (by kernel_rfl) (by kernel_rfl) (by kernel_rfl) c_laws_szCategory rfl .n (cutL []) (by kernel_rfl) (by kernel_rfl) k_laws_szCategory (by decide) (fun x K => W_laws_szCategory x.1 x.2.1 K) w_laws_szCategory (fun x h1 h2 => m_laws_szCategory x.1 x.2.1 h1 h2)
def c_laws_toInt64S : Ct := ⟨[(.sl (.int .i64))], [false], fun x => [wR (.sl (.int .i64)) x.1 ≤ 1099511627776], [(false, (.sl (.fz (.int .i64))))], fun x => (x.1, ()), false, none⟩
def W_laws_toInt64S (a : List Int) (K : (List Int) × Unit → Prop) : Prop := (((0 : Int) ≤ (((List.length a) : Nat) : Int)) ∧ (((((List.length a) : Nat) : Int) ≤ (((List.length a) : Nat) : Int)) ∧ (((((List.length a) : Nat) : Int) ≤ ((140737488355328 : Nat) : Int)) ∧ ((((((List.length a) : Nat) : Int) * ((8 : Nat) : Int)) ≤ ((140737488355328 : Nat) : Int)) ∧ (loopW (S := ((Unit × (Int × Unit)) × ((List Int) × Unit))) (fun s => (fun next => ((inK IntKind.i64 s.1.2.1) → ((T.ok (T.sl (T.int IntKind.i64)) s.2.1) → (cnd (decide (s.1.2.1 < (((List.length a) : Nat) : Int))) (((0 : Int) ≤ s.1.2.1) ∧ ((s.1.2.1 < (((List.length a) : Nat) : Int)) ∧ (((0 : Int) ≤ s.1.2.1) ∧ ((s.1.2.1 < (((List.length s.2.1) : Nat) : Int)) ∧ ((inK IntKind.i64 (s.1.2.1 + (1 : Int))) ∧ (next (((), ((s.1.2.1 + (1 : Int)), ())), ((List.set s.2.1 (Int.toNat s.1.2.1) (List.getD a (Int.toNat s.1.2.1) (0 : Int))), ())))))))) (K (s.2.1, ()))))))) (((), ((0 : Int), ())), ((List.replicate (Int.toNat (((List.length a) : Nat) : Int)) (0 : Int)), ())))))))
theorem w_laws_toInt64S (x : denL c_laws_toInt64S.args) (K : (List Int) × Unit → Prop) : evF tab (lkp []) (cutL []) Try.f16 (bodyOf Try.f16) (.s .n (.s .n (.s (.s .n (.l [(3, (.ref 7 [])), (4, (.d (.int .i64)))] [(7, (.sl (.fz (.int .i64))))] [0] .n)) .n))) c_laws_toInt64S x K = W_laws_toInt64S x.1 K := by kernel_rfl
theorem k_laws_toInt64S : okC Try.f16.ntmps (cutL []) (bodyOf Try.f16) = true := by kernel_rfl
theorem m_laws_toInt64S (a : List Int) (hok : allP (okL c_laws_toInt64S.args (a, ()))) (hpre : allP (c_laws_toInt64S.pre (a, ()))) : W_laws_toInt64S a (fun r => r = c_laws_toInt64S.res (a, ())) := by
  simp only [c_laws_toInt64S, okL, T.oks, T.ok, ap, allP, true_and, and_true, implies_true] at hok hpre
  try dsimp only [T.den] at hok
  try dsimp only [T.den] at hpre
  unfold W_laws_toInt64S
  rw [wR_sl] at hpre
  refine ⟨by omega, by omega, by first | omega | (rw [nb_eq]; omega), by first | omega | (rw [nb_eq]; omega), ?_⟩
  refine loop_of (fun (s : ((Unit × (Int × Unit)) × ((List Int) × Unit))) => 0 ≤ s.1.2.1 ∧ s.1.2.1 ≤ a.length ∧ s.2.1.length = a.length ∧ s.2.1.take s.1.2.1.toNat = a.take s.1.2.1.toNat) (fun (s : ((Unit × (Int × Unit)) × ((List Int) × Unit))) => (a.length - s.1.2.1).toNat) ?_ (by simp)
  rintro ⟨⟨_, i, _⟩, l, _⟩ next ⟨h0, h1, h2, h3⟩ hn hin hl
  simp only at h0 h1 h2 h3 hn ⊢
  refine cnd_d (fun hc => ?_) (fun hc => ?_)
  · refine ⟨by omega, by omega, by omega, by omega, by grind [cnd, nb_eq, inK64], hn _ ⟨(by first | omega | (dsimp only; omega)), (by first | omega | (dsimp only; omega)), by simp [h2], ?_⟩ (by first | omega | (dsimp only; omega))⟩
    simp only
    rw [take_c a (0 : Int) h0 hc, ← h3]
    exact take_set l h0 (by omega) _
  · rw [take_n a (by omega), take_n l (by omega)] at h3
    simp [h3, c_laws_toInt64S]
theorem ct_laws_toInt64S : CtOk Try.prog 16 c_laws_toInt64S :=
  ct_by (Φ := lkp []) good_nil tab_ok (by kernel_rfl) (fn := Try.f16) (c := bodyOf Try.f16) (by kernel_rfl) (by kernel_rfl) (by kernel_rfl) c_laws_toInt64S rfl (.s .n (.s .n (.s (.s .n (.l [(3, (.ref 7 [])), (4, (.d (.int .i64)))] [(7, (.sl (.fz (.int .i64))))] [0] .n)) .n))) (cutL []) (by kernel_rfl) (by kernel_rfl) k_laws_toInt64S (by decide) (fun x K => W_laws_toInt64S x.1 K) w_laws_toInt64S (fun x h1 h2 => m_laws_toInt64S x.1 h1 h2)
def c_laws_toInt64SS : Ct := ⟨[(.sl (.sl (.int .i64)))], [false], fun x => [wR (.sl (.sl (.int .i64))) x.1 ≤ 1099511627776], [(false, (.sl (.sl (.fz (.int .i64)))))], fun x => (x.1, ()), false, none⟩
def W_laws_toInt64SS (a : List (List Int)) (K : (List (List Int)) × Unit → Prop) : Prop := (((0 : Int) ≤ (((List.length a) : Nat) : Int)) ∧ (((((List.length a) : Nat) : Int) ≤ (((List.length a) : Nat) : Int)) ∧ (((((List.length a) : Nat) : Int) ≤ ((140737488355328 : Nat) : Int)) ∧ ((((((List.length a) : Nat) : Int) * ((24 : Nat) : Int)) ≤ ((140737488355328 : Nat) : Int)) ∧ (loopW (S := ((Unit × (Int × Unit)) × ((List (List Int)) × Unit))) (fun s => (fun next => ((inK IntKind.i64 s.1.2.1) → ((T.ok (T.sl (T.sl (T.int IntKind.i64))) s.2.1) → (cnd (decide (s.1.2.1 < (((List.length a) : Nat) : Int))) (((0 : Int) ≤ s.1.2.1) ∧ ((s.1.2.1 < (((List.length a) : Nat) : Int)) ∧ (((wR (T.sl (T.int IntKind.i64)) (List.getD a (Int.toNat s.1.2.1) ([] : List Int))) ≤ 1099511627776) ∧ (((0 : Int) ≤ s.1.2.1) ∧ ((s.1.2.1 < (((List.length s.2.1) : Nat) : Int)) ∧ ((inK IntKind.i64 (s.1.2.1 + (1 : Int))) ∧ (next (((), ((s.1.2.1 + (1 : Int)), ())), ((List.set s.2.1 (Int.toNat s.1.2.1) (List.getD a (Int.toNat s.1.2.1) ([] : List Int))), ()))))))))) (K (s.2.1, ()))))))) (((), ((0 : Int), ())), ((List.replicate (Int.toNat (((List.length a) : Nat) : Int)) ([] : List Int)), ())))))))
theorem w_laws_toInt64SS (x : denL c_laws_toInt64SS.args) (K : (List (List Int)) × Unit → Prop) : evF tab (lkp [(16, c_laws_toInt64S)]) (cutL []) Try.f35 (bodyOf Try.f35) (.s .n (.s .n (.s (.s .n (.l [(3, (.ref 7 [])), (4, (.d (.int .i64)))] [(7, (.sl (.sl (.fz (.int .i64)))))] [0] .n)) .n))) c_laws_toInt64SS x K = W_laws_toInt64SS x.1 K := by kernel_rfl
theorem k_laws_toInt64SS : okC Try.f35.ntmps (cutL []) (bodyOf Try.f35) = true := by kernel_rfl
theorem m_laws_toInt64SS (a : List (List Int)) (hok : allP (okL c_laws_toInt64SS.args (a, ()))) (hpre : allP (c_laws_toInt64SS.pre (a, ()))) : W_laws_toInt64SS a (fun r => r = c_laws_toInt64SS.res (a, ())) := by
  simp only [c_laws_toInt64SS, okL, T.oks, T.ok, ap, allP, true_and, and_true, implies_true] at hok hpre
  try dsimp only [T.den] at hok
  try dsimp only [T.den] at hpre
  unfold W_laws_toInt64SS
  rw [wR_sl] at hpre
  refine ⟨by omega, by omega, by first | omega | (rw [nb_eq]; omega), by first | omega | (rw [nb_eq]; omega), ?_⟩
  refine loop_of (fun (s : ((Unit × (Int × Unit)) × ((List (List Int)) × Unit))) => 0 ≤ s.1.2.1 ∧ s.1.2.1 ≤ a.length ∧ s.2.1.length = a.length ∧ s.2.1.take s.1.2.1.toNat = a.take s.1.2.1.toNat) (fun (s : ((Unit × (Int × Unit)) × ((List (List Int)) × Unit))) => (a.length - s.1.2.1).toNat) ?_ (by simp)
  rintro ⟨⟨_, i, _⟩, l, _⟩ next ⟨h0, h1, h2, h3⟩ hn hin hl
  simp only at h0 h1 h2 h3 hn ⊢
  refine cnd_d (fun hc => ?_) (fun hc => ?_)
  · have hm := wR_mem (e := (.sl (.int .i64))) (getD_mem a ([] : List Int) h0 hc)
    refine ⟨by omega, by omega, by omega, by omega, by omega, by grind [cnd, nb_eq, inK64], hn _ ⟨(by first | omega | (dsimp only; omega)), (by first | omega | (dsimp only; omega)), by simp [h2], ?_⟩ (by first | omega | (dsimp only; omega))⟩
    simp only
    rw [take_c a ([] : List Int) h0 hc, ← h3]
    exact take_set l h0 (by omega) _
  · rw [take_n a (by omega), take_n l (by omega)] at h3
    simp [h3, c_laws_toInt64SS]
theorem ct_laws_toInt64SS : CtOk Try.prog 35 c_laws_toInt64SS :=
  ct_by (Φ := lkp [(16, c_laws_toInt64S)]) (good_cons ct_laws_toInt64S good_nil) tab_ok (by kernel_rfl) (fn := Try.f35) (c := bodyOf Try.f35) (by kernel_rfl) (by kernel_rfl) (by kernel_rfl) c_laws_toInt64SS rfl (.s .n (.s .n (.s (.s .n (.l [(3, (.ref 7 [])), (4, (.d (.int .i64)))] [(7, (.sl (.sl (.fz (.int .i64)))))] [0] .n)) .n))) (cutL []) (by kernel_rfl) (by kernel_rfl) k_laws_toInt64SS (by decide) (fun x K => W_laws_toInt64SS x.1 K) w_laws_toInt64SS (fun x h1 h2 => m_laws_toInt64SS x.1 h1 h2)
def c_laws_toCategory : Ct := ⟨[CategoryT], [true], fun x => [wR CategoryT x.1 ≤ 1099511627776], [(true, CategoryO)], fun x => (x.1, ()), false, none⟩
def W_laws_toCategory (a : CategoryD) (K : CategoryD × Unit → Prop) : Prop := (((wR (T.sl (T.int IntKind.i64)) a.2.1) ≤ 1099511627776) ∧ (((wR (T.sl (T.int IntKind.i64)) a.2.2.1) ≤ 1099511627776) ∧ (((wR (T.sl (T.int IntKind.i64)) a.2.2.2.1) ≤ 1099511627776) ∧ (((wR (T.sl (T.sl (T.int IntKind.i64))) a.2.2.2.2) ≤ 1099511627776) ∧ (K (a, ()))))))
theorem w_laws_toCategory (x : denL c_laws_toCategory.args) (K : CategoryD × Unit → Prop) : evF tab (lkp [(16, c_laws_toInt64S), (35, c_laws_toInt64SS)]) (cutL []) Try.f15 (bodyOf Try.f15) .n c_laws_toCategory x K = W_laws_toCategory x.1 K := by kernel_rfl
theorem k_laws_toCategory : okC Try.f15.ntmps (cutL []) (bodyOf Try.f15) = true := by kernel_rfl
theorem m_laws_toCategory (a : CategoryD) (hok : allP (okL c_laws_toCategory.args (a, ()))) (hpre : allP (c_laws_toCategory.pre (a, ()))) : W_laws_toCategory a (fun r => r = c_laws_toCategory.res (a, ())) := by
  simp only [c_laws_toCategory, okL, T.oks, T.ok, ap, allP, true_and, and_true, implies_true] at hok hpre
  try dsimp only [T.den] at hok
  try dsimp only [T.den] at hpre
  unfold W_laws_toCategory
  simp only [wR_p, wR_int, wR_bool] at hpre
  repeat' apply And.intro
  all_goals first | rfl | ((try simp only [wR_p, wR_int, wR_bool]); omega)
theorem ct_laws_toCategory : CtOk Try.prog 15 c_laws_toCategory :=
  ct_by (Φ := lkp [(16, c_laws_toInt64S), (35, c_laws_toInt64SS)]) (good_cons ct_laws_toInt64S (good_cons ct_laws_toInt64SS good_nil)) tab_ok (by kernel_rfl) (fn := Try.f15) (c := bodyOf Try.f15) (by kernel_rfl) (by kernel_rfl) (by kernel_rfl) c_laws_toCategory rfl .n (cutL []) (by kernel_rfl) (by kernel_rfl) k_laws_toCategory (by decide) (fun x K => W_laws_toCategory x.1 K) w_laws_toCategory (fun x h1 h2 => m_laws_toCategory x.1 h1 h2)
def c_spec_l01Map : Ct := ⟨[(.int .i64), (.sl (.int .i64))], [false, false], fun x => [], [(false, (.fz .bool))], fun x => (withinR x.2.1 x.1, ()), false, none⟩
def W_spec_l01Map (n : Int) (f : List Int) (K : Bool × Unit → Prop) : Prop := (loopW (S := ((Int × Unit) × Unit)) (fun s => (fun next => ((inK IntKind.i64 s.1.1) → (cnd (decide (s.1.1 < (((List.length f) : Nat) : Int))) (((0 : Int) ≤ s.1.1) ∧ ((s.1.1 < (((List.length f) : Nat) : Int)) ∧ ((((decide ((List.getD f (Int.toNat s.1.1) (0 : Int)) < (0 : Int))) = Bool.false) → ((s.1.1 < (((List.length f) : Nat) : Int)) ∧ ((0 : Int) ≤ s.1.1))) ∧ (cnd ((decide ((List.getD f (Int.toNat s.1.1) (0 : Int)) < (0 : Int))) || (decide (n ≤ (List.getD f (Int.toNat s.1.1) (0 : Int))))) (K (Bool.false, ())) ((inK IntKind.i64 (s.1.1 + (1 : Int))) ∧ (next (((s.1.1 + (1 : Int)), ()), ()))))))) (K (Bool.true, ())))))) (((0 : Int), ()), ()))
theorem w_spec_l01Map (x : denL c_spec_l01Map.args) (K : Bool × Unit → Prop) : evF tab (lkp []) (cutL []) Try.f102 (bodyOf Try.f102) (.s .n (.s (.s .n (.l [(5, (.d (.int .i64)))] [] [0, 1] .n)) .n)) c_spec_l01Map x K = W_spec_l01Map x.1 x.2.1 K := by kernel_rfl
theorem k_spec_l01Map : okC Try.f102.ntmps (cutL []) (bodyOf Try.f102) = true := by kernel_rfl
theorem m_spec_l01Map (n : Int) (f : List Int) (hok : allP (okL c_spec_l01Map.args (n, f, ()))) (hpre : allP (c_spec_l01Map.pre (n, f, ()))) : W_spec_l01Map n f (fun r => r = c_spec_l01Map.res (n, f, ())) := by
  simp only [c_spec_l01Map, okL, T.oks, T.ok, ap, allP, true_and, and_true, implies_true] at hok hpre
  try dsimp only [T.den] at hok
  try dsimp only [T.den] at hpre
  unfold W_spec_l01Map
  refine loop_of (fun (s : ((Int × Unit) × Unit)) => 0 ≤ s.1.1 ∧ s.1.1 ≤ f.length ∧ withinR f n = withinR (f.drop s.1.1.toNat) n) (fun (s : ((Int × Unit) × Unit)) => (f.length - s.1.1).toNat) ?_ (by simp)
  rintro ⟨⟨i, _⟩, _⟩ next ⟨h0, h1, h2⟩ hn hin
  simp only at h0 h1 h2 hn ⊢
  refine cnd_d (fun hc => ?_) (fun hc => ?_)
  · rw [drop_c f 0 h0 hc] at h2
    simp only [withinR, List.all_cons] at h2
    grind [cnd, nb_eq, inK64, c_spec_l01Map, withinR, inR]
  · rw [drop_n f (by omega)] at h2
    grind [cnd, nb_eq, inK64, c_spec_l01Map, withinR]
theorem ct_spec_l01Map : CtOk Try.prog 102 c_spec_l01Map :=
  ct_by (Φ := lkp []) good_nil tab_ok (by kernel_rfl) (fn := Try.f102) (c := bodyOf Try.f102) (by kernel_rfl) (by kernel_rfl) (by kernel_rfl) c_spec_l01Map rfl (.s .n (.s (.s .n (.l [(5, (.d (.int .i64)))] [] [0, 1] .n)) .n)) (cutL []) (by kernel_rfl) (by kernel_rfl) k_spec_l01Map (by decide) (fun x K => W_spec_l01Map x.1 x.2.1 K) w_spec_l01Map (fun x h1 h2 => m_spec_l01Map x.1 x.2.1 h1 h2)
def c_spec_l01In : Ct := ⟨[(.int .i64), (.int .i64), (.int .i64)], [false, false, false], fun x => [], [(false, (.fz .bool))], fun x => (inR x.1 x.2.1 x.2.2.1, ()), false, none⟩
def W_spec_l01In (n : Int) (low : Int) (high : Int) (K : Bool × Unit → Prop) : Prop := (K (((decide (low ≤ n)) && (decide (n ≤ high))), ()))
theorem w_spec_l01In (x : denL c_spec_l01In.args) (K : Bool × Unit → Prop) : evF tab (lkp []) (cutL []) Try.f130 (bodyOf Try.f130) .n c_spec_l01In x K = W_spec_l01In x.1 x.2.1 x.2.2.1 K := by kernel_rfl
theorem k_spec_l01In : okC Try.f130.ntmps (cutL []) (bodyOf Try.f130) = true := by kernel_rfl
theorem m_spec_l01In (n : Int) (low : Int) (high : Int) (hok : allP (okL c_spec_l01In.args (n, low, high, ()))) (hpre : allP (c_spec_l01In.pre (n, low, high, ()))) : W_spec_l01In n low high (fun r => r = c_spec_l01In.res (n, low, high, ())) := by
  simp only [c_spec_l01In, okL, T.oks, T.ok, ap, allP, true_and, and_true, implies_true] at hok hpre
  try dsimp only [T.den] at hok
  try dsimp only [T.den] at hpre
  unfold W_spec_l01In
  grind [cnd, nb_eq, inK64, c_spec_l01In, inR]
theorem ct_spec_l01In : CtOk Try.prog 130 c_spec_l01In :=
  ct_by (Φ := lkp []) good_nil tab_ok (by kernel_rfl) (fn := Try.f130) (c := bodyOf Try.f130) (by kernel_rfl) (by kernel_rfl) (by kernel_rfl) c_spec_l01In rfl .n (cutL []) (by kernel_rfl) (by kernel_rfl) k_spec_l01In (by decide) (fun x K => W_spec_l01In x.1 x.2.1 x.2.2.1 K) w_spec_l01In (fun x h1 h2 => m_spec_l01In x.1 x.2.1 x.2.2.1 h1 h2)
def c_spec_l02Ends : Ct := ⟨[(.sl (.int .i64)), (.int .i64), (.int .i64)], [false, false, false], fun x => [], [(false, (.fz .bool))], fun x => ((decide ((x.1.length : Int) = x.2.1) && withinR x.1 x.2.2.1), ()), false, none⟩
def W_spec_l02Ends (list : List Int) (length : Int) (objects : Int) (K : Bool × Unit → Prop) : Prop := (K ((((((List.length list) : Nat) : Int) == length) && (withinR list objects)), ()))
theorem w_spec_l02Ends (x : denL c_spec_l02Ends.args) (K : Bool × Unit → Prop) : evF tab (lkp [(102, c_spec_l01Map)]) (cutL []) Try.f131 (bodyOf Try.f131) .n c_spec_l02Ends x K = W_spec_l02Ends x.1 x.2.1 x.2.2.1 K := by kernel_rfl
theorem k_spec_l02Ends : okC Try.f131.ntmps (cutL []) (bodyOf Try.f131) = true := by kernel_rfl
theorem m_spec_l02Ends (list : List Int) (length : Int) (objects : Int) (hok : allP (okL c_spec_l02Ends.args (list, length, objects, ()))) (hpre : allP (c_spec_l02Ends.pre (list, length, objects, ()))) : W_spec_l02Ends list length objects (fun r => r = c_spec_l02Ends.res (list, length, objects, ())) := by
  simp only [c_spec_l02Ends, okL, T.oks, T.ok, ap, allP, true_and, and_true, implies_true] at hok hpre
  try dsimp only [T.den] at hok
  try dsimp only [T.den] at hpre
  unfold W_spec_l02Ends
  have : ((list.length : Int) == length) = decide ((list.length : Int) = length) := rfl
  simp only [c_spec_l02Ends, this]
theorem ct_spec_l02Ends : CtOk Try.prog 131 c_spec_l02Ends :=
  ct_by (Φ := lkp [(102, c_spec_l01Map)]) (good_cons ct_spec_l01Map good_nil) tab_ok (by kernel_rfl) (fn := Try.f131) (c := bodyOf Try.f131) (by kernel_rfl) (by kernel_rfl) (by kernel_rfl) c_spec_l02Ends rfl .n (cutL []) (by kernel_rfl) (by kernel_rfl) k_spec_l02Ends (by decide) (fun x K => W_spec_l02Ends x.1 x.2.1 x.2.2.1 K) w_spec_l02Ends (fun x h1 h2 => m_spec_l02Ends x.1 x.2.1 x.2.2.1 h1 h2)
def c_spec_IsShape : Ct := ⟨[CategoryT], [true], fun x => [], [(false, (.fz .bool))], fun x => (shapeR x.1, ()), false, none⟩
def W_spec_IsShape (c : CategoryD) (K : Bool × Unit → Prop) : Prop := (cnd (((((!(inR c.1 (0 : Int) (8 : Int))) || (decide ((40 : Int) < (((List.length c.2.1) : Nat) : Int)))) || (!((decide ((((List.length c.2.1) : Nat) : Int) = (((List.length c.2.1) : Nat) : Int))) && (withinR c.2.1 c.1)))) || (!((decide ((((List.length c.2.2.1) : Nat) : Int) = (((List.length c.2.1) : Nat) : Int))) && (withinR c.2.2.1 c.1)))) || ((((List.length c.2.2.2.2) : Nat) : Int) != (((List.length c.2.1) : Nat) : Int))) (K (Bool.false, ())) (cnd (((((List.length c.2.2.2.1) : Nat) : Int) != c.1) || (!(withinR c.2.2.2.1 (((List.length c.2.1) : Nat) : Int)))) (K (Bool.false, ())) (loopW (S := ((Int × Unit) × Unit)) (fun s => (fun next => ((inK IntKind.i64 s.1.1) → (cnd (decide (s.1.1 < c.1)) (((0 : Int) ≤ s.1.1) ∧ ((s.1.1 < (((List.length c.2.2.2.1) : Nat) : Int)) ∧ (((0 : Int) ≤ (List.getD c.2.2.2.1 (Int.toNat s.1.1) (0 : Int))) ∧ (((List.getD c.2.2.2.1 (Int.toNat s.1.1) (0 : Int)) < (((List.length c.2.1) : Nat) : Int)) ∧ (((((List.getD c.2.1 (Int.toNat (List.getD c.2.2.2.1 (Int.toNat s.1.1) (0 : Int))) (0 : Int)) != s.1.1) = Bool.false) → ((s.1.1 < (((List.length c.2.2.2.1) : Nat) : Int)) ∧ ((0 : Int) ≤ s.1.1))) ∧ (((((List.getD c.2.1 (Int.toNat (List.getD c.2.2.2.1 (Int.toNat s.1.1) (0 : Int))) (0 : Int)) != s.1.1) = Bool.false) → (((List.getD c.2.2.2.1 (Int.toNat s.1.1) (0 : Int)) < (((List.length c.2.2.1) : Nat) : Int)) ∧ ((0 : Int) ≤ (List.getD c.2.2.2.1 (Int.toNat s.1.1) (0 : Int))))) ∧ (cnd (((List.getD c.2.1 (Int.toNat (List.getD c.2.2.2.1 (Int.toNat s.1.1) (0 : Int))) (0 : Int)) != s.1.1) || ((List.getD c.2.2.1 (Int.toNat (List.getD c.2.2.2.1 (Int.toNat s.1.1) (0 : Int))) (0 : Int)) != s.1.1)) (K (Bool.false, ())) ((inK IntKind.i64 (s.1.1 + (1 : Int))) ∧ (next (((s.1.1 + (1 : Int)), ()), ())))))))))) (loopW (S := ((Int × Unit) × Unit)) (fun s1 => (fun next1 => ((inK IntKind.i64 s1.1.1) → (cnd (decide (s1.1.1 < (((List.length c.2.1) : Nat) : Int))) (((0 : Int) ≤ s1.1.1) ∧ ((s1.1.1 < (((List.length c.2.2.2.2) : Nat) : Int)) ∧ (cnd ((((List.length (List.getD c.2.2.2.2 (Int.toNat s1.1.1) ([] : List Int))) : Nat) : Int) != (((List.length c.2.1) : Nat) : Int)) (K (Bool.false, ())) (loopW (S := ((Int × Unit) × Unit)) (fun s2 => (fun next2 => ((inK IntKind.i64 s2.1.1) → (cnd (decide (s2.1.1 < (((List.length c.2.1) : Nat) : Int))) (joinW (S := (Unit × Unit)) (fun s3 => ((inK IntKind.i64 (s2.1.1 + (1 : Int))) ∧ (next2 (((s2.1.1 + (1 : Int)), ()), ())))) (fun k => (((0 : Int) ≤ s1.1.1) ∧ ((s1.1.1 < (((List.length c.2.2.2.2) : Nat) : Int)) ∧ (((0 : Int) ≤ s2.1.1) ∧ ((s2.1.1 < (((List.length (List.getD c.2.2.2.2 (Int.toNat s1.1.1) ([] : List Int))) : Nat) : Int)) ∧ (((0 : Int) ≤ s1.1.1) ∧ ((s1.1.1 < (((List.length c.2.2.1) : Nat) : Int)) ∧ (((0 : Int) ≤ s2.1.1) ∧ ((s2.1.1 < (((List.length c.2.1) : Nat) : Int)) ∧ (cnd ((List.getD c.2.2.1 (Int.toNat s1.1.1) (0 : Int)) != (List.getD c.2.1 (Int.toNat s2.1.1) (0 : Int))) (cnd ((List.getD (List.getD c.2.2.2.2 (Int.toNat s1.1.1) ([] : List Int)) (Int.toNat s2.1.1) (0 : Int)) != (-(1 : Int))) (K (Bool.false, ())) (k ((), ()))) (((((decide ((List.getD (List.getD c.2.2.2.2 (Int.toNat s1.1.1) ([] : List Int)) (Int.toNat s2.1.1) (0 : Int)) < (0 : Int))) || (decide ((((List.length c.2.1) : Nat) : Int) ≤ (List.getD (List.getD c.2.2.2.2 (Int.toNat s1.1.1) ([] : List Int)) (Int.toNat s2.1.1) (0 : Int))))) = Bool.false) → (((List.getD (List.getD c.2.2.2.2 (Int.toNat s1.1.1) ([] : List Int)) (Int.toNat s2.1.1) (0 : Int)) < (((List.length c.2.1) : Nat) : Int)) ∧ ((0 : Int) ≤ (List.getD (List.getD c.2.2.2.2 (Int.toNat s1.1.1) ([] : List Int)) (Int.toNat s2.1.1) (0 : Int))))) ∧ (((((decide ((List.getD (List.getD c.2.2.2.2 (Int.toNat s1.1.1) ([] : List Int)) (Int.toNat s2.1.1) (0 : Int)) < (0 : Int))) || (decide ((((List.length c.2.1) : Nat) : Int) ≤ (List.getD (List.getD c.2.2.2.2 (Int.toNat s1.1.1) ([] : List Int)) (Int.toNat s2.1.1) (0 : Int))))) = Bool.false) → ((s1.1.1 < (((List.length c.2.1) : Nat) : Int)) ∧ ((0 : Int) ≤ s1.1.1))) ∧ ((((((decide ((List.getD (List.getD c.2.2.2.2 (Int.toNat s1.1.1) ([] : List Int)) (Int.toNat s2.1.1) (0 : Int)) < (0 : Int))) || (decide ((((List.length c.2.1) : Nat) : Int) ≤ (List.getD (List.getD c.2.2.2.2 (Int.toNat s1.1.1) ([] : List Int)) (Int.toNat s2.1.1) (0 : Int))))) || ((List.getD c.2.1 (Int.toNat (List.getD (List.getD c.2.2.2.2 (Int.toNat s1.1.1) ([] : List Int)) (Int.toNat s2.1.1) (0 : Int))) (0 : Int)) != (List.getD c.2.1 (Int.toNat s1.1.1) (0 : Int)))) = Bool.false) → (((List.getD (List.getD c.2.2.2.2 (Int.toNat s1.1.1) ([] : List Int)) (Int.toNat s2.1.1) (0 : Int)) < (((List.length c.2.2.1) : Nat) : Int)) ∧ ((0 : Int) ≤ (List.getD (List.getD c.2.2.2.2 (Int.toNat s1.1.1) ([] : List Int)) (Int.toNat s2.1.1) (0 : Int))))) ∧ ((((((decide ((List.getD (List.getD c.2.2.2.2 (Int.toNat s1.1.1) ([] : List Int)) (Int.toNat s2.1.1) (0 : Int)) < (0 : Int))) || (decide ((((List.length c.2.1) : Nat) : Int) ≤ (List.getD (List.getD c.2.2.2.2 (Int.toNat s1.1.1) ([] : List Int)) (Int.toNat s2.1.1) (0 : Int))))) || ((List.getD c.2.1 (Int.toNat (List.getD (List.getD c.2.2.2.2 (Int.toNat s1.1.1) ([] : List Int)) (Int.toNat s2.1.1) (0 : Int))) (0 : Int)) != (List.getD c.2.1 (Int.toNat s1.1.1) (0 : Int)))) = Bool.false) → ((s2.1.1 < (((List.length c.2.2.1) : Nat) : Int)) ∧ ((0 : Int) ≤ s2.1.1))) ∧ (cnd ((((decide ((List.getD (List.getD c.2.2.2.2 (Int.toNat s1.1.1) ([] : List Int)) (Int.toNat s2.1.1) (0 : Int)) < (0 : Int))) || (decide ((((List.length c.2.1) : Nat) : Int) ≤ (List.getD (List.getD c.2.2.2.2 (Int.toNat s1.1.1) ([] : List Int)) (Int.toNat s2.1.1) (0 : Int))))) || ((List.getD c.2.1 (Int.toNat (List.getD (List.getD c.2.2.2.2 (Int.toNat s1.1.1) ([] : List Int)) (Int.toNat s2.1.1) (0 : Int))) (0 : Int)) != (List.getD c.2.1 (Int.toNat s1.1.1) (0 : Int)))) || ((List.getD c.2.2.1 (Int.toNat (List.getD (List.getD c.2.2.2.2 (Int.toNat s1.1.1) ([] : List Int)) (Int.toNat s2.1.1) (0 : Int))) (0 : Int)) != (List.getD c.2.2.1 (Int.toNat s2.1.1) (0 : Int)))) (K (Bool.false, ())) (k ((), ())))))))))))))))))) ((inK IntKind.i64 (s1.1.1 + (1 : Int))) ∧ (next1 (((s1.1.1 + (1 : Int)), ()), ()))))))) (((0 : Int), ()), ()))))) (K (Bool.true, ())))))) (((0 : Int), ()), ())))))) (((0 : Int), ()), ()))))
theorem w_spec_IsShape (x : denL c_spec_IsShape.args) (K : Bool × Unit → Prop) : evF tab (lkp [(130, c_spec_l01In), (102, c_spec_l01Map), (131, c_spec_l02Ends)]) (cutL [(20, 11), (23, 33), (9, 24)]) Try.f99 (bodyOf Try.f99) (.s .n (.s .n (.s .n (.s .n (.s (.s .n (.l [(4, (.d (.int .i64)))] [] [1, 3] .n)) (.s (.s .n (.l [(5, (.d (.int .i64)))] [] [1, 3] (.s .n (.s (.s .n (.s .n (.l [(6, (.d (.int .i64)))] [] [1, 3, 5] (.s .n (.s (.j [] [] [1, 3, 5, 6] .n) .n))))) .n)))) .n)))))) c_spec_IsShape x K = W_spec_IsShape x.1 K := by kernel_rfl
theorem k_spec_IsShape : okC Try.f99.ntmps (cutL [(20, 11), (23, 33), (9, 24)]) (bodyOf Try.f99) = true := by kernel_rfl
theorem m_spec_IsShape (c : CategoryD) (hok : allP (okL c_spec_IsShape.args (c, ()))) (hpre : allP (c_spec_IsShape.pre (c, ()))) : W_spec_IsShape c (fun r => r = c_spec_IsShape.res (c, ())) := by
  simp only [c_spec_IsShape, okL, T.oks, T.ok, ap, allP, true_and, and_true, implies_true] at hok hpre
  try dsimp only [T.den] at hok
  try dsimp only [T.den] at hpre
  unfold W_spec_IsShape
  have bad : ¬ ShapeP c → (false, ()) = c_spec_IsShape.res (c, ()) := fun h => by simp only [c_spec_IsShape]; rw [shape_f h]
  refine cnd_of (fun hc => bad fun h => ?_) (fun hc => cnd_of (fun hd => bad fun h => ?_) (fun hd => ?_))
  · have h1 := h.ob; have h2 := h.m; have h3 := h.lt; have h4 := h.fr; have h5 := h.to; have h6 := h.lc; simp only [inR] at hc; grind [cnd, nb_eq, inK64]
  · have h1 := h.li; have h2 := h.ids; grind [cnd, nb_eq, inK64]
  simp only [inR, Bool.or_eq_false_iff, Bool.not_eq_false', Bool.and_eq_true, decide_eq_true_eq, decide_eq_false_iff_not, bne_eq_false_iff_eq] at hc hd
  obtain ⟨⟨⟨⟨hob, hm⟩, _, hfr⟩, hlt, hto⟩, hlc⟩ := hc
  obtain ⟨hli, hids⟩ := hd
  refine loop_ix (n := c.1) (fun x => ∀ y : Int, 0 ≤ y → y < x → c.2.1.getD (c.2.2.2.1.getD y.toNat 0).toNat 0 = y ∧ c.2.2.1.getD (c.2.2.2.1.getD y.toNat 0).toNat 0 = y) (by omega) (by intro y h0 h1; omega) ?_ ?_
  · intro x next h0 h1 hP hn hin
    have hb := within_iff.1 hids x h0 (by omega)
    try dsimp only
    refine cnd_d (fun _ => ⟨h0, by omega, hb.1, hb.2, fun _ => by omega, fun _ => by omega, cnd_of (fun hx => bad fun h => ?_) (fun hx => ?_)⟩) (fun h => absurd h1 h)
    · have := h.idt x h0 (by omega)
      rw [this.1, this.2] at hx
      simp at hx
    · simp only [Bool.or_eq_false_iff, bne_eq_false_iff_eq] at hx
      refine ⟨by rw [inK64]; (try dsimp only); omega, hn fun y y0 y1 => ?_⟩
      by_cases e : y = x
      · rw [e]; exact hx
      · exact hP y y0 (by omega)
  intro next hidt hin
  refine cnd_d (fun h => absurd h (by dsimp only; omega)) (fun _ => ?_)
  refine loop_ix (n := c.2.1.length) (fun f => ∀ f' : Int, 0 ≤ f' → f' < f → (c.2.2.2.2.getD f'.toNat []).length = c.2.1.length ∧ ∀ g : Int, 0 ≤ g → g < c.2.1.length → cellR c f' g = true) (by omega) (by intro y h0 h1; omega) ?_ ?_
  · intro f next h0 h1 hP hn hin
    try dsimp only
    refine cnd_d (fun _ => ⟨h0, by omega, cnd_of (fun hx => bad fun h => ?_) (fun hx => ?_)⟩) (fun h => absurd h1 h)
    · have := h.row f h0 (by omega)
      rw [this] at hx
      simp at hx
    simp only [bne_eq_false_iff_eq] at hx
    refine loop_ix (n := c.2.1.length) (fun g => ∀ g' : Int, 0 ≤ g' → g' < g → cellR c f g' = true) (by omega) (by intro y h0 h1; omega) ?_ ?_
    · intro g next3 g0 g1 hP3 hn3 hin3
      try dsimp only
      refine cnd_d (fun _ => ?_) (fun h => absurd g1 h)
      refine join_of (fun _ => cellR c f g = true) (fun _ hcell => ⟨by rw [inK64]; (try dsimp only); omega, hn3 fun g' y0 y1 => ?_⟩) (fun k hk => ?_)
      · by_cases e : g' = g
        · rw [e]; exact hcell
        · exact hP3 g' y0 (by omega)
      have hcell : ∀ b, cellR c f g = b → b = false → ¬ ShapeP c := fun b h1 h2 h => by
        have := h.cell f g h0 (by omega) g0 (by omega)
        rw [h1, h2] at this; cases this
      have hk' := hk ((), ())
      obtain ⟨v, hv⟩ : ∃ v, (c.2.2.2.2.getD f.toNat []).getD g.toNat 0 = v := ⟨_, rfl⟩
      have hR : cellR c f g = cellQ c f g v := by unfold cellR compR; rw [hv]
      rw [hR] at hk'
      rw [hR] at hcell
      rw [hv]
      clear hP3 hn3 hP hn hk hR hv hidt hok
      refine ⟨h0, by omega, g0, by omega, h0, by omega, g0, by omega, cnd_of (fun ha => cnd_of (fun hb => bad ?_) (fun hb => hk' ?_)) (fun ha => ⟨fun hv => ?_, fun _ => ⟨by omega, h0⟩, fun hv => ?_, fun _ => ⟨by omega, g0⟩, cnd_of (fun hb => bad ?_) (fun hb => hk' ?_)⟩)⟩
      · exact hcell _ rfl (by grind [cnd, nb_eq, inK64, cellQ])
      · grind [cnd, nb_eq, inK64, cellQ]
      · simp only [Bool.or_eq_false_iff, decide_eq_false_iff_not] at hv; omega
      · simp only [Bool.or_eq_false_iff, decide_eq_false_iff_not] at hv; omega
      · exact hcell _ rfl (by grind [cnd, nb_eq, inK64, cellQ])
      · grind [cnd, nb_eq, inK64, cellQ]
    · intro next3 hP3 hin3
      refine cnd_d (fun h => absurd h (by dsimp only; omega)) (fun _ => ⟨by rw [inK64]; (try dsimp only); omega, hn fun f' y0 y1 => ?_⟩)
      by_cases e : f' = f
      · rw [e]; exact ⟨by omega, fun g g0 g1 => hP3 g g0 (by omega)⟩
      · exact hP f' y0 (by omega)
  · intro next2 hP2 hin2
    refine cnd_d (fun h => absurd h (by dsimp only; omega)) (fun _ => ?_)
    simp only [c_spec_IsShape]
    rw [shape_t ⟨hob, by omega, by omega, hfr, hto, by omega, hids, by omega, fun x a b => hidt x a (by omega), fun f a b => (hP2 f a (by omega)).1, fun f g a b d e => (hP2 f a (by omega)).2 g d e⟩]
theorem ct_spec_IsShape : CtOk Try.prog 99 c_spec_IsShape :=
  ct_by (Φ := lkp [(130, c_spec_l01In), (102, c_spec_l01Map), (131, c_spec_l02Ends)]) (good_cons ct_spec_l01In (good_cons ct_spec_l01Map (good_cons ct_spec_l02Ends good_nil))) tab_ok (by kernel_rfl) (fn := Try.f99) (c := bodyOf Try.f99) (by kernel_rfl) (by kernel_rfl) (by kernel_rfl) c_spec_IsShape rfl (.s .n (.s .n (.s .n (.s .n (.s (.s .n (.l [(4, (.d (.int .i64)))] [] [1, 3] .n)) (.s (.s .n (.l [(5, (.d (.int .i64)))] [] [1, 3] (.s .n (.s (.s .n (.s .n (.l [(6, (.d (.int .i64)))] [] [1, 3, 5] (.s .n (.s (.j [] [] [1, 3, 5, 6] .n) .n))))) .n)))) .n)))))) (cutL [(20, 11), (23, 33), (9, 24)]) (by kernel_rfl) (by kernel_rfl) k_spec_IsShape (by decide) (fun x K => W_spec_IsShape x.1 K) w_spec_IsShape (fun x h1 h2 => m_spec_IsShape x.1 h1 h2)
def c_spec_l02Fault : Ct := ⟨[CategoryT], [true], fun x => [ShapeP x.1], [(false, (.fz (.int .i64))), (false, (.fz (.int .i64))), (false, (.fz (.int .i64))), (false, (.fz (.int .i64)))], fun x => ((faultR x.1).1, (faultR x.1).2.1, (faultR x.1).2.2.1, (faultR x.1).2.2.2, ()), false, none⟩
def W_spec_l02Fault (c : CategoryD) (K : Int × Int × Int × Int × Unit → Prop) : Prop := (loopW (S := ((Int × Unit) × Unit)) (fun s => (fun next => ((inK IntKind.i64 s.1.1) → (cnd (decide (s.1.1 < (((List.length c.2.1) : Nat) : Int))) (((0 : Int) ≤ s.1.1) ∧ ((s.1.1 < (((List.length c.2.1) : Nat) : Int)) ∧ (((0 : Int) ≤ (List.getD c.2.1 (Int.toNat s.1.1) (0 : Int))) ∧ (((List.getD c.2.1 (Int.toNat s.1.1) (0 : Int)) < (((List.length c.2.2.2.1) : Nat) : Int)) ∧ (((0 : Int) ≤ (List.getD c.2.2.2.1 (Int.toNat (List.getD c.2.1 (Int.toNat s.1.1) (0 : Int))) (0 : Int))) ∧ (((List.getD c.2.2.2.1 (Int.toNat (List.getD c.2.1 (Int.toNat s.1.1) (0 : Int))) (0 : Int)) < (((List.length c.2.2.2.2) : Nat) : Int)) ∧ (((0 : Int) ≤ s.1.1) ∧ ((s.1.1 < (((List.length (List.getD c.2.2.2.2 (Int.toNat (List.getD c.2.2.2.1 (Int.toNat (List.getD c.2.1 (Int.toNat s.1.1) (0 : Int))) (0 : Int))) ([] : List Int))) : Nat) : Int)) ∧ (((((List.getD (List.getD c.2.2.2.2 (Int.toNat (List.getD c.2.2.2.1 (Int.toNat (List.getD c.2.1 (Int.toNat s.1.1) (0 : Int))) (0 : Int))) ([] : List Int)) (Int.toNat s.1.1) (0 : Int)) != s.1.1) = Bool.false) → ((s.1.1 < (((List.length c.2.2.2.2) : Nat) : Int)) ∧ ((0 : Int) ≤ s.1.1))) ∧ (((((List.getD (List.getD c.2.2.2.2 (Int.toNat (List.getD c.2.2.2.1 (Int.toNat (List.getD c.2.1 (Int.toNat s.1.1) (0 : Int))) (0 : Int))) ([] : List Int)) (Int.toNat s.1.1) (0 : Int)) != s.1.1) = Bool.false) → ((s.1.1 < (((List.length c.2.2.1) : Nat) : Int)) ∧ ((0 : Int) ≤ s.1.1))) ∧ (((((List.getD (List.getD c.2.2.2.2 (Int.toNat (List.getD c.2.2.2.1 (Int.toNat (List.getD c.2.1 (Int.toNat s.1.1) (0 : Int))) (0 : Int))) ([] : List Int)) (Int.toNat s.1.1) (0 : Int)) != s.1.1) = Bool.false) → (((List.getD c.2.2.1 (Int.toNat s.1.1) (0 : Int)) < (((List.length c.2.2.2.1) : Nat) : Int)) ∧ ((0 : Int) ≤ (List.getD c.2.2.1 (Int.toNat s.1.1) (0 : Int))))) ∧ (((((List.getD (List.getD c.2.2.2.2 (Int.toNat (List.getD c.2.2.2.1 (Int.toNat (List.getD c.2.1 (Int.toNat s.1.1) (0 : Int))) (0 : Int))) ([] : List Int)) (Int.toNat s.1.1) (0 : Int)) != s.1.1) = Bool.false) → (((List.getD c.2.2.2.1 (Int.toNat (List.getD c.2.2.1 (Int.toNat s.1.1) (0 : Int))) (0 : Int)) < (((List.length (List.getD c.2.2.2.2 (Int.toNat s.1.1) ([] : List Int))) : Nat) : Int)) ∧ ((0 : Int) ≤ (List.getD c.2.2.2.1 (Int.toNat (List.getD c.2.2.1 (Int.toNat s.1.1) (0 : Int))) (0 : Int))))) ∧ (cnd (((List.getD (List.getD c.2.2.2.2 (Int.toNat (List.getD c.2.2.2.1 (Int.toNat (List.getD c.2.1 (Int.toNat s.1.1) (0 : Int))) (0 : Int))) ([] : List Int)) (Int.toNat s.1.1) (0 : Int)) != s.1.1) || ((List.getD (List.getD c.2.2.2.2 (Int.toNat s.1.1) ([] : List Int)) (Int.toNat (List.getD c.2.2.2.1 (Int.toNat (List.getD c.2.2.1 (Int.toNat s.1.1) (0 : Int))) (0 : Int))) (0 : Int)) != s.1.1)) (K ((1 : Int), (s.1.1, ((0 : Int), ((0 : Int), ()))))) ((inK IntKind.i64 (s.1.1 + (1 : Int))) ∧ (next (((s.1.1 + (1 : Int)), ()), ())))))))))))))))) (loopW (S := ((Int × Unit) × Unit)) (fun s1 => (fun next1 => ((inK IntKind.i64 s1.1.1) → (cnd (decide (s1.1.1 < (((List.length c.2.1) : Nat) : Int))) (loopW (S := ((Int × Unit) × Unit)) (fun s2 => (fun next2 => ((inK IntKind.i64 s2.1.1) → (cnd (decide (s2.1.1 < (((List.length c.2.1) : Nat) : Int))) (joinW (S := (Unit × Unit)) (fun s3 => ((inK IntKind.i64 (s2.1.1 + (1 : Int))) ∧ (next2 (((s2.1.1 + (1 : Int)), ()), ())))) (fun k => (((0 : Int) ≤ s1.1.1) ∧ ((s1.1.1 < (((List.length c.2.2.1) : Nat) : Int)) ∧ (((0 : Int) ≤ s2.1.1) ∧ ((s2.1.1 < (((List.length c.2.1) : Nat) : Int)) ∧ (cnd ((List.getD c.2.2.1 (Int.toNat s1.1.1) (0 : Int)) != (List.getD c.2.1 (Int.toNat s2.1.1) (0 : Int))) (k ((), ())) (loopW (S := ((Int × Unit) × Unit)) (fun s3 => (fun next3 => ((inK IntKind.i64 s3.1.1) → (cnd (decide (s3.1.1 < (((List.length c.2.1) : Nat) : Int))) (((0 : Int) ≤ s2.1.1) ∧ ((s2.1.1 < (((List.length c.2.2.1) : Nat) : Int)) ∧ (((0 : Int) ≤ s3.1.1) ∧ ((s3.1.1 < (((List.length c.2.1) : Nat) : Int)) ∧ (((((List.getD c.2.2.1 (Int.toNat s2.1.1) (0 : Int)) == (List.getD c.2.1 (Int.toNat s3.1.1) (0 : Int))) = Bool.true) → ((s1.1.1 < (((List.length c.2.2.2.2) : Nat) : Int)) ∧ ((0 : Int) ≤ s1.1.1))) ∧ (((((List.getD c.2.2.1 (Int.toNat s2.1.1) (0 : Int)) == (List.getD c.2.1 (Int.toNat s3.1.1) (0 : Int))) = Bool.true) → ((s2.1.1 < (((List.length (List.getD c.2.2.2.2 (Int.toNat s1.1.1) ([] : List Int))) : Nat) : Int)) ∧ ((0 : Int) ≤ s2.1.1))) ∧ (((((List.getD c.2.2.1 (Int.toNat s2.1.1) (0 : Int)) == (List.getD c.2.1 (Int.toNat s3.1.1) (0 : Int))) = Bool.true) → (((List.getD (List.getD c.2.2.2.2 (Int.toNat s1.1.1) ([] : List Int)) (Int.toNat s2.1.1) (0 : Int)) < (((List.length c.2.2.2.2) : Nat) : Int)) ∧ ((0 : Int) ≤ (List.getD (List.getD c.2.2.2.2 (Int.toNat s1.1.1) ([] : List Int)) (Int.toNat s2.1.1) (0 : Int))))) ∧ (((((List.getD c.2.2.1 (Int.toNat s2.1.1) (0 : Int)) == (List.getD c.2.1 (Int.toNat s3.1.1) (0 : Int))) = Bool.true) → ((s3.1.1 < (((List.length (List.getD c.2.2.2.2 (Int.toNat (List.getD (List.getD c.2.2.2.2 (Int.toNat s1.1.1) ([] : List Int)) (Int.toNat s2.1.1) (0 : Int))) ([] : List Int))) : Nat) : Int)) ∧ ((0 : Int) ≤ s3.1.1))) ∧ (((((List.getD c.2.2.1 (Int.toNat s2.1.1) (0 : Int)) == (List.getD c.2.1 (Int.toNat s3.1.1) (0 : Int))) = Bool.true) → ((s1.1.1 < (((List.length c.2.2.2.2) : Nat) : Int)) ∧ ((0 : Int) ≤ s1.1.1))) ∧ (((((List.getD c.2.2.1 (Int.toNat s2.1.1) (0 : Int)) == (List.getD c.2.1 (Int.toNat s3.1.1) (0 : Int))) = Bool.true) → ((s2.1.1 < (((List.length c.2.2.2.2) : Nat) : Int)) ∧ ((0 : Int) ≤ s2.1.1))) ∧ (((((List.getD c.2.2.1 (Int.toNat s2.1.1) (0 : Int)) == (List.getD c.2.1 (Int.toNat s3.1.1) (0 : Int))) = Bool.true) → ((s3.1.1 < (((List.length (List.getD c.2.2.2.2 (Int.toNat s2.1.1) ([] : List Int))) : Nat) : Int)) ∧ ((0 : Int) ≤ s3.1.1))) ∧ (((((List.getD c.2.2.1 (Int.toNat s2.1.1) (0 : Int)) == (List.getD c.2.1 (Int.toNat s3.1.1) (0 : Int))) = Bool.true) → (((List.getD (List.getD c.2.2.2.2 (Int.toNat s2.1.1) ([] : List Int)) (Int.toNat s3.1.1) (0 : Int)) < (((List.length (List.getD c.2.2.2.2 (Int.toNat s1.1.1) ([] : List Int))) : Nat) : Int)) ∧ ((0 : Int) ≤ (List.getD (List.getD c.2.2.2.2 (Int.toNat s2.1.1) ([] : List Int)) (Int.toNat s3.1.1) (0 : Int))))) ∧ (cnd (((List.getD c.2.2.1 (Int.toNat s2.1.1) (0 : Int)) == (List.getD c.2.1 (Int.toNat s3.1.1) (0 : Int))) && ((List.getD (List.getD c.2.2.2.2 (Int.toNat (List.getD (List.getD c.2.2.2.2 (Int.toNat s1.1.1) ([] : List Int)) (Int.toNat s2.1.1) (0 : Int))) ([] : List Int)) (Int.toNat s3.1.1) (0 : Int)) != (List.getD (List.getD c.2.2.2.2 (Int.toNat s1.1.1) ([] : List Int)) (Int.toNat (List.getD (List.getD c.2.2.2.2 (Int.toNat s2.1.1) ([] : List Int)) (Int.toNat s3.1.1) (0 : Int))) (0 : Int)))) (K ((2 : Int), (s1.1.1, (s2.1.1, (s3.1.1, ()))))) ((inK IntKind.i64 (s3.1.1 + (1 : Int))) ∧ (next3 (((s3.1.1 + (1 : Int)), ()), ())))))))))))))))) (k ((), ())))))) (((0 : Int), ()), ()))))))))) ((inK IntKind.i64 (s1.1.1 + (1 : Int))) ∧ (next1 (((s1.1.1 + (1 : Int)), ()), ()))))))) (((0 : Int), ()), ())) (K ((0 : Int), ((0 : Int), ((0 : Int), ((0 : Int), ()))))))))) (((0 : Int), ()), ())))))) (((0 : Int), ()), ()))
theorem w_spec_l02Fault (x : denL c_spec_l02Fault.args) (K : Int × Int × Int × Int × Unit → Prop) : evF tab (lkp []) (cutL [(17, 44), (5, 38), (13, 11)]) Try.f100 (bodyOf Try.f100) (.s .n (.s .n (.s (.s .n (.l [(7, (.d (.int .i64)))] [] [1, 6] .n)) (.s (.s .n (.l [(8, (.d (.int .i64)))] [] [1, 6] (.s .n (.s (.s .n (.l [(9, (.d (.int .i64)))] [] [1, 6, 8] (.s .n (.s (.j [] [] [1, 6, 8, 9] (.s .n (.s .n (.l [(10, (.d (.int .i64)))] [] [1, 6, 8, 9] .n)))) .n)))) .n)))) .n)))) c_spec_l02Fault x K = W_spec_l02Fault x.1 K := by kernel_rfl
theorem k_spec_l02Fault : okC Try.f100.ntmps (cutL [(17, 44), (5, 38), (13, 11)]) (bodyOf Try.f100) = true := by kernel_rfl
theorem m_spec_l02Fault (c : CategoryD) (hok : allP (okL c_spec_l02Fault.args (c, ()))) (hpre : allP (c_spec_l02Fault.pre (c, ()))) : W_spec_l02Fault c (fun r => r = c_spec_l02Fault.res (c, ())) := by
  simp only [c_spec_l02Fault, okL, T.oks, T.ok, ap, allP, true_and, and_true, implies_true] at hok hpre
  try dsimp only [T.den] at hok
  try dsimp only [T.den] at hpre
  unfold W_spec_l02Fault
  have S : ShapeP c := hpre
  have hlt := S.lt
  have hli := S.li
  have hlc := S.lc
  have hmm := S.m
  have resq : ∀ a b d e, faultR c = (a, b, d, e) → (a, b, d, e, ()) = c_spec_l02Fault.res (c, ()) := fun a b d e h => by simp only [c_spec_l02Fault, h]
  have hcr : ∀ f g : Int, (c.2.2.2.2.getD f.toNat []).getD g.toNat 0 = compR c f g := fun _ _ => rfl
  simp only [hcr]
  refine loop_ix (n := c.2.1.length) (fun f => scanR (faultI c) c.2.1.length 0 = scanR (faultI c) ((c.2.1.length : Int) - f).toNat f) (by omega) scan_0 ?_ ?_
  · intro f next h0 h1 hP hn hin
    try dsimp only
    obtain ⟨a1, a2, a3, a4⟩ := S.frm h0 h1
    obtain ⟨b1, b2, _, _⟩ := S.idn a1 a2
    obtain ⟨d1, d2, _, _⟩ := S.idn a3 a4
    have r1 := S.row _ b1 b2
    have r2 := S.row f h0 h1
    refine cnd_d (fun _ => ⟨h0, h1, by omega, by omega, by omega, by omega, h0, by omega, fun _ => by omega, fun _ => by omega, fun _ => by omega, fun _ => by omega, cnd_of (fun hx => resq _ _ _ _ ?_) (fun hx => ⟨by rw [inK64]; (try dsimp only); omega, hn ?_⟩)⟩) (fun h => absurd h1 h)
    · have : faultI c f = some (1, f, 0, 0) := by unfold faultI; rw [if_pos]; simpa using hx
      unfold faultR; rw [hP, scan_s h1 this]; rfl
    · have : faultI c f = none := by unfold faultI; rw [if_neg]; simpa using hx
      rw [hP, scan_c h1 this]
  intro next hI hin
  rw [scan_n] at hI
  refine cnd_d (fun h => absurd h (by dsimp only; omega)) (fun _ => ?_)
  have hF : faultR c = orR (scanR (faultF c) c.2.1.length 0) (0, 0, 0, 0) := by unfold faultR; rw [hI]; rfl
  refine loop_ix (n := c.2.1.length) (fun f => scanR (faultF c) c.2.1.length 0 = scanR (faultF c) ((c.2.1.length : Int) - f).toNat f) (by omega) scan_0 ?_ ?_
  · intro f next h0 h1 hP hn hin
    try dsimp only
    refine cnd_d (fun _ => ?_) (fun h => absurd h1 h)
    have r1 := S.row f h0 h1
    refine loop_ix (n := c.2.1.length) (fun g => faultF c f = scanR (faultG c f) ((c.2.1.length : Int) - g).toNat g) (by omega) scan_0 ?_ ?_
    · intro g next3 g0 g1 hP3 hn3 hin3
      try dsimp only
      refine cnd_d (fun _ => ?_) (fun h => absurd g1 h)
      have r2 := S.row g g0 g1
      refine join_of (fun _ => faultG c f g = none) (fun _ hG => ⟨by rw [inK64]; (try dsimp only); omega, hn3 (by rw [hP3, scan_c g1 hG])⟩) (fun k hk => ?_)
      have hk' := hk ((), ())
      refine ⟨by omega, by omega, by omega, by omega, cnd_of (fun hx => hk' ?_) (fun hx => ?_)⟩
      · unfold faultG; rw [if_neg]; simpa using hx
      have hfg : c.2.2.1.getD f.toNat 0 = c.2.1.getD g.toNat 0 := by rw [bne_eq_false_iff_eq] at hx; exact hx
      obtain ⟨y1, y2, _, _⟩ := S.yes h0 h1 g0 g1 hfg
      refine loop_ix (n := c.2.1.length) (fun h => faultG c f g = scanR (faultH c f g) ((c.2.1.length : Int) - h).toNat h) (by omega) (by unfold faultG; rw [if_pos hfg]; exact scan_0) ?_ ?_
      · intro h next4 i0 i1 hP4 hn4 hin4
        try dsimp only
        refine cnd_d (fun _ => ?_) (fun h => absurd i1 h)
        have r3 := S.row _ y1 y2
        have cgh := S.comp g0 g1 i0 i1
        have ygh := @ShapeP.yes c S g h g0 g1 i0 i1
        refine ⟨by omega, by omega, by omega, by omega, fun _ => by omega, fun _ => by omega, fun _ => by omega, fun _ => by omega, fun _ => by omega, fun _ => by omega, fun _ => by omega, fun he => ?_, cnd_of (fun hx => resq _ _ _ _ ?_) (fun hx => ⟨by rw [inK64]; (try dsimp only); omega, hn4 ?_⟩)⟩
        · have := ygh (by simpa only [beq_iff_eq] using he); omega
        · have : faultH c f g h = some (2, f, g, h) := by unfold faultH; rw [if_pos]; simpa using hx
          have e1 : faultG c f g = some (2, f, g, h) := by rw [hP4, scan_s i1 this]
          have e2 : faultF c f = some (2, f, g, h) := by rw [hP3, scan_s g1 e1]
          rw [hF, hP, scan_s h1 e2]; rfl
        · have : faultH c f g h = none := by unfold faultH; rw [if_neg]; simpa using hx
          rw [hP4, scan_c i1 this]
      · intro next4 hP4 hin4
        rw [scan_n] at hP4
        exact cnd_d (fun h => absurd h (by dsimp only; omega)) (fun _ => hk' hP4)
    · intro next3 hP3 hin3
      rw [scan_n] at hP3
      exact cnd_d (fun h => absurd h (by dsimp only; omega)) (fun _ => ⟨by rw [inK64]; (try dsimp only); omega, hn (by rw [hP, scan_c h1 hP3])⟩)
  · intro next2 hP2 hin2
    rw [scan_n] at hP2
    refine cnd_d (fun h => absurd h (by dsimp only; omega)) (fun _ => resq _ _ _ _ ?_)
    rw [hF, hP2]; rfl
theorem ct_spec_l02Fault : CtOk Try.prog 100 c_spec_l02Fault :=
  ct_by (Φ := lkp []) good_nil tab_ok (by kernel_rfl) (fn := Try.f100) (c := bodyOf Try.f100) (by kernel_rfl) (by kernel_rfl) (by kernel_rfl) c_spec_l02Fault rfl (.s .n (.s .n (.s (.s .n (.l [(7, (.d (.int .i64)))] [] [1, 6] .n)) (.s (.s .n (.l [(8, (.d (.int .i64)))] [] [1, 6] (.s .n (.s (.s .n (.l [(9, (.d (.int .i64)))] [] [1, 6, 8] (.s .n (.s (.j [] [] [1, 6, 8, 9] (.s .n (.s .n (.l [(10, (.d (.int .i64)))] [] [1, 6, 8, 9] .n)))) .n)))) .n)))) .n)))) (cutL [(17, 44), (5, 38), (13, 11)]) (by kernel_rfl) (by kernel_rfl) k_spec_l02Fault (by decide) (fun x K => W_spec_l02Fault x.1 K) w_spec_l02Fault (fun x h1 h2 => m_spec_l02Fault x.1 h1 h2)
def c_spec_l02Is : Ct := ⟨[CategoryT], [true], fun x => [], [(false, (.fz .bool))], fun x => (catR x.1, ()), false, none⟩
def W_spec_l02Is (c : CategoryD) (K : Bool × Unit → Prop) : Prop := (cnd (!(shapeR c)) (K (Bool.false, ())) ((ShapeP c) ∧ (K (((faultR c).1 == (0 : Int)), ()))))
theorem w_spec_l02Is (x : denL c_spec_l02Is.args) (K : Bool × Unit → Prop) : evF tab (lkp [(99, c_spec_IsShape), (100, c_spec_l02Fault)]) (cutL []) Try.f62 (bodyOf Try.f62) .n c_spec_l02Is x K = W_spec_l02Is x.1 K := by kernel_rfl
theorem k_spec_l02Is : okC Try.f62.ntmps (cutL []) (bodyOf Try.f62) = true := by kernel_rfl
theorem m_spec_l02Is (c : CategoryD) (hok : allP (okL c_spec_l02Is.args (c, ()))) (hpre : allP (c_spec_l02Is.pre (c, ()))) : W_spec_l02Is c (fun r => r = c_spec_l02Is.res (c, ())) := by
  simp only [c_spec_l02Is, okL, T.oks, T.ok, ap, allP, true_and, and_true, implies_true] at hok hpre
  try dsimp only [T.den] at hok
  try dsimp only [T.den] at hpre
  unfold W_spec_l02Is
  simp only [c_spec_l02Is, catR]
  have := @shape_iff c
  grind [cnd, nb_eq, inK64]
theorem ct_spec_l02Is : CtOk Try.prog 62 c_spec_l02Is :=
  ct_by (Φ := lkp [(99, c_spec_IsShape), (100, c_spec_l02Fault)]) (good_cons ct_spec_IsShape (good_cons ct_spec_l02Fault good_nil)) tab_ok (by kernel_rfl) (fn := Try.f62) (c := bodyOf Try.f62) (by kernel_rfl) (by kernel_rfl) (by kernel_rfl) c_spec_l02Is rfl .n (cutL []) (by kernel_rfl) (by kernel_rfl) k_spec_l02Is (by decide) (fun x K => W_spec_l02Is x.1 K) w_spec_l02Is (fun x h1 h2 => m_spec_l02Is x.1 h1 h2)
def c_spec_l02Arrows : Ct := ⟨[CategoryT, (.sl (.int .i64))], [true, false], fun x => [], [(false, (.fz (.int .i64)))], fun x => (arrCodeR x.1 x.2.1, ()), false, none⟩
def W_spec_l02Arrows (c : CategoryD) (arrows : List Int) (K : Int × Unit → Prop) : Prop := (cnd (!(catR c)) (K ((1 : Int), ())) (cnd (!(withinR arrows (((List.length c.2.1) : Nat) : Int))) (K ((2 : Int), ())) (K ((0 : Int), ()))))
theorem w_spec_l02Arrows (x : denL c_spec_l02Arrows.args) (K : Int × Unit → Prop) : evF tab (lkp [(102, c_spec_l01Map), (62, c_spec_l02Is)]) (cutL []) Try.f105 (bodyOf Try.f105) .n c_spec_l02Arrows x K = W_spec_l02Arrows x.1 x.2.1 K := by kernel_rfl
theorem k_spec_l02Arrows : okC Try.f105.ntmps (cutL []) (bodyOf Try.f105) = true := by kernel_rfl
theorem m_spec_l02Arrows (c : CategoryD) (arrows : List Int) (hok : allP (okL c_spec_l02Arrows.args (c, arrows, ()))) (hpre : allP (c_spec_l02Arrows.pre (c, arrows, ()))) : W_spec_l02Arrows c arrows (fun r => r = c_spec_l02Arrows.res (c, arrows, ())) := by
  simp only [c_spec_l02Arrows, okL, T.oks, T.ok, ap, allP, true_and, and_true, implies_true] at hok hpre
  try dsimp only [T.den] at hok
  try dsimp only [T.den] at hpre
  unfold W_spec_l02Arrows
  simp only [c_spec_l02Arrows, arrCodeR]
  grind [cnd, nb_eq, inK64]
theorem ct_spec_l02Arrows : CtOk Try.prog 105 c_spec_l02Arrows :=
  ct_by (Φ := lkp [(102, c_spec_l01Map), (62, c_spec_l02Is)]) (good_cons ct_spec_l01Map (good_cons ct_spec_l02Is good_nil)) tab_ok (by kernel_rfl) (fn := Try.f105) (c := bodyOf Try.f105) (by kernel_rfl) (by kernel_rfl) (by kernel_rfl) c_spec_l02Arrows rfl .n (cutL []) (by kernel_rfl) (by kernel_rfl) k_spec_l02Arrows (by decide) (fun x K => W_spec_l02Arrows x.1 x.2.1 K) w_spec_l02Arrows (fun x h1 h2 => m_spec_l02Arrows x.1 x.2.1 h1 h2)
def c_spec_l02Rises : Ct := ⟨[(.sl (.int .i64))], [false], fun x => [], [(false, (.fz .bool))], fun x => (risesR x.1, ()), false, none⟩
def W_spec_l02Rises (list : List Int) (K : Bool × Unit → Prop) : Prop := (loopW (S := ((Int × Unit) × Unit)) (fun s => (fun next => ((inK IntKind.i64 s.1.1) → (cnd (decide (s.1.1 < (((List.length list) : Nat) : Int))) (((0 : Int) ≤ s.1.1) ∧ ((s.1.1 < (((List.length list) : Nat) : Int)) ∧ ((inK IntKind.i64 (s.1.1 - (1 : Int))) ∧ (((0 : Int) ≤ (s.1.1 - (1 : Int))) ∧ (((s.1.1 - (1 : Int)) < (((List.length list) : Nat) : Int)) ∧ (cnd (decide ((List.getD list (Int.toNat s.1.1) (0 : Int)) ≤ (List.getD list (Int.toNat (s.1.1 - (1 : Int))) (0 : Int)))) (K (Bool.false, ())) ((inK IntKind.i64 (s.1.1 + (1 : Int))) ∧ (next (((s.1.1 + (1 : Int)), ()), ()))))))))) (K (Bool.true, ())))))) (((1 : Int), ()), ()))
theorem w_spec_l02Rises (x : denL c_spec_l02Rises.args) (K : Bool × Unit → Prop) : evF tab (lkp []) (cutL [(4, 10)]) Try.f101 (bodyOf Try.f101) (.s .n (.s (.s .n (.l [(3, (.d (.int .i64)))] [] [0] .n)) .n)) c_spec_l02Rises x K = W_spec_l02Rises x.1 K := by kernel_rfl
theorem k_spec_l02Rises : okC Try.f101.ntmps (cutL [(4, 10)]) (bodyOf Try.f101) = true := by kernel_rfl
theorem m_spec_l02Rises (list : List Int) (hok : allP (okL c_spec_l02Rises.args (list, ()))) (hpre : allP (c_spec_l02Rises.pre (list, ()))) : W_spec_l02Rises list (fun r => r = c_spec_l02Rises.res (list, ())) := by
  simp only [c_spec_l02Rises, okL, T.oks, T.ok, ap, allP, true_and, and_true, implies_true] at hok hpre
  try dsimp only [T.den] at hok
  try dsimp only [T.den] at hpre
  unfold W_spec_l02Rises
  have bad : ∀ i : Int, 1 ≤ i → i < list.length → list.getD i.toNat 0 ≤ list.getD (i - 1).toNat 0 → (false, ()) = c_spec_l02Rises.res (list, ()) := fun i h1 h2 h3 => by
    simp only [c_spec_l02Rises]
    cases h : risesR list with
    | false => rfl
    | true => have := rises_iff.1 h i h1 h2; omega
  refine loop_of (fun (s : ((Int × Unit) × Unit)) => 1 ≤ s.1.1 ∧ (s.1.1 ≤ list.length ∨ s.1.1 = 1) ∧ ∀ j : Int, 1 ≤ j → j < s.1.1 → list.getD (j - 1).toNat 0 < list.getD j.toNat 0) (fun (s : ((Int × Unit) × Unit)) => (list.length - s.1.1).toNat) ?_ ⟨by simp, by simp, fun j h1 h2 => by dsimp only at h2; omega⟩
  rintro ⟨⟨i, _⟩, _⟩ next ⟨h0, h1, h2⟩ hn hin
  try dsimp only at h0 h1 h2 hn ⊢
  have hin' : inK .i64 i := hin
  rw [inK64] at hin'
  have hl := hok.1
  rw [nb_eq] at hl
  refine cnd_d (fun hc => ⟨by omega, by omega, by rw [inK64]; (try dsimp only); omega, by omega, by omega, cnd_d (fun hx => bad i h0 hc hx) (fun hx => ⟨by rw [inK64]; (try dsimp only); omega, hn _ ⟨by dsimp only; omega, by dsimp only; omega, fun j j0 j1 => ?_⟩ (by dsimp only; omega)⟩)⟩) (fun hc => ?_)
  · by_cases e : j = i
    · rw [e]; omega
    · exact h2 j j0 (by dsimp only at j1; omega)
  · simp only [c_spec_l02Rises]
    rw [rises_iff.2 fun j j0 j1 => h2 j j0 (by omega)]
theorem ct_spec_l02Rises : CtOk Try.prog 101 c_spec_l02Rises :=
  ct_by (Φ := lkp []) good_nil tab_ok (by kernel_rfl) (fn := Try.f101) (c := bodyOf Try.f101) (by kernel_rfl) (by kernel_rfl) (by kernel_rfl) c_spec_l02Rises rfl (.s .n (.s (.s .n (.l [(3, (.d (.int .i64)))] [] [0] .n)) .n)) (cutL [(4, 10)]) (by kernel_rfl) (by kernel_rfl) k_spec_l02Rises (by decide) (fun x K => W_spec_l02Rises x.1 K) w_spec_l02Rises (fun x h1 h2 => m_spec_l02Rises x.1 h1 h2)
def c_spec_l18Code : Ct := ⟨[CategoryT, (.sl (.int .i64)), (.sl (.int .i64))], [true, false, false], fun x => [], [(false, (.fz (.int .i64)))], fun x => (clCodeR x.1 [x.2.1, x.2.2.1], ()), false, none⟩
def W_spec_l18Code (c : CategoryD) (e : List Int) (m : List Int) (K : Int × Unit → Prop) : Prop := (joinW (S := ((Int × Unit) × Unit)) (fun s => ((inK IntKind.i64 s.1.1) → (joinW (S := ((Int × Unit) × Unit)) (fun s1 => ((inK IntKind.i64 s1.1.1) → (K (s1.1.1, ())))) (fun k => (cnd ((s.1.1 == (0 : Int)) && ((!(risesR e)) || (!(risesR m)))) (k (((5 : Int), ()), ())) (k ((s.1.1, ()), ()))))))) (fun k => (cnd ((arrCodeR c e) == (0 : Int)) (k (((arrCodeR c m), ()), ())) (k (((arrCodeR c e), ()), ())))))
theorem w_spec_l18Code (x : denL c_spec_l18Code.args) (K : Int × Unit → Prop) : evF tab (lkp [(105, c_spec_l02Arrows), (101, c_spec_l02Rises)]) (cutL []) Try.f71 (bodyOf Try.f71) (.s .n (.s .n (.s (.s .n (.j [(7, (.d (.int .i64)))] [] [1, 2] .n)) (.s (.s .n (.j [(7, (.d (.int .i64)))] [] [] .n)) .n)))) c_spec_l18Code x K = W_spec_l18Code x.1 x.2.1 x.2.2.1 K := by kernel_rfl
theorem k_spec_l18Code : okC Try.f71.ntmps (cutL []) (bodyOf Try.f71) = true := by kernel_rfl
theorem m_spec_l18Code (c : CategoryD) (e : List Int) (m : List Int) (hok : allP (okL c_spec_l18Code.args (c, e, m, ()))) (hpre : allP (c_spec_l18Code.pre (c, e, m, ()))) : W_spec_l18Code c e m (fun r => r = c_spec_l18Code.res (c, e, m, ())) := by
  simp only [c_spec_l18Code, okL, T.oks, T.ok, ap, allP, true_and, and_true, implies_true] at hok hpre
  try dsimp only [T.den] at hok
  try dsimp only [T.den] at hpre
  unfold W_spec_l18Code
  clear hok
  simp only [c_spec_l18Code, clCodeR, arrCodeR, joinW, cnd, List.all_cons, List.all_nil, Bool.and_true]
  generalize catR c = b1
  generalize withinR e c.2.1.length = b2
  generalize withinR m c.2.1.length = b3
  generalize risesR e = b4
  generalize risesR m = b5
  cases b1 <;> cases b2 <;> cases b3 <;> cases b4 <;> cases b5 <;> simp
theorem ct_spec_l18Code : CtOk Try.prog 71 c_spec_l18Code :=
  ct_by (Φ := lkp [(105, c_spec_l02Arrows), (101, c_spec_l02Rises)]) (good_cons ct_spec_l02Arrows (good_cons ct_spec_l02Rises good_nil)) tab_ok (by kernel_rfl) (fn := Try.f71) (c := bodyOf Try.f71) (by kernel_rfl) (by kernel_rfl) (by kernel_rfl) c_spec_l18Code rfl (.s .n (.s .n (.s (.s .n (.j [(7, (.d (.int .i64)))] [] [1, 2] .n)) (.s (.s .n (.j [(7, (.d (.int .i64)))] [] [] .n)) .n)))) (cutL []) (by kernel_rfl) (by kernel_rfl) k_spec_l18Code (by decide) (fun x K => W_spec_l18Code x.1 x.2.1 x.2.2.1 K) w_spec_l18Code (fun x h1 h2 => m_spec_l18Code x.1 x.2.1 x.2.2.1 h1 h2)
def c_spec_l01Same : Ct := ⟨[(.sl (.int .i64)), (.sl (.int .i64))], [false, false], fun x => [], [(false, (.fz .bool))], fun x => (eqR (.sl (.int .i64)) x.1 x.2.1, ()), false, none⟩
def W_spec_l01Same (a : List Int) (b : List Int) (K : Bool × Unit → Prop) : Prop := (cnd ((((List.length a) : Nat) : Int) != (((List.length b) : Nat) : Int)) (K (Bool.false, ())) (loopW (S := ((Int × Unit) × Unit)) (fun s => (fun next => ((inK IntKind.i64 s.1.1) → (cnd (decide (s.1.1 < (((List.length a) : Nat) : Int))) (((0 : Int) ≤ s.1.1) ∧ ((s.1.1 < (((List.length a) : Nat) : Int)) ∧ (((0 : Int) ≤ s.1.1) ∧ ((s.1.1 < (((List.length b) : Nat) : Int)) ∧ (cnd ((List.getD a (Int.toNat s.1.1) (0 : Int)) != (List.getD b (Int.toNat s.1.1) (0 : Int))) (K (Bool.false, ())) ((inK IntKind.i64 (s.1.1 + (1 : Int))) ∧ (next (((s.1.1 + (1 : Int)), ()), ())))))))) (K (Bool.true, ())))))) (((0 : Int), ()), ())))
theorem w_spec_l01Same (x : denL c_spec_l01Same.args) (K : Bool × Unit → Prop) : evF tab (lkp []) (cutL [(6, 9)]) Try.f108 (bodyOf Try.f108) (.s .n (.s .n (.s (.s .n (.l [(5, (.d (.int .i64)))] [] [0, 1] .n)) .n))) c_spec_l01Same x K = W_spec_l01Same x.1 x.2.1 K := by kernel_rfl
theorem k_spec_l01Same : okC Try.f108.ntmps (cutL [(6, 9)]) (bodyOf Try.f108) = true := by kernel_rfl
theorem m_spec_l01Same (a : List Int) (b : List Int) (hok : allP (okL c_spec_l01Same.args (a, b, ()))) (hpre : allP (c_spec_l01Same.pre (a, b, ()))) : W_spec_l01Same a b (fun r => r = c_spec_l01Same.res (a, b, ())) := by
  simp only [c_spec_l01Same, okL, T.oks, T.ok, ap, allP, true_and, and_true, implies_true] at hok hpre
  try dsimp only [T.den] at hok
  try dsimp only [T.den] at hpre
  unfold W_spec_l01Same
  have ha : a.length ≤ 140737488355328 := by simp only [nb_eq] at hok; omega
  clear hok
  refine cnd_of (fun h => ?_) (fun h => ?_)
  · simp only [c_spec_l01Same]; rw [eqR_f]; rintro rfl; simp at h
  have hl : a.length = b.length := by rw [bne_eq_false_iff_eq] at h; omega
  refine loop_ix (n := a.length) (fun i => a.take i.toNat = b.take i.toNat) (by omega) (by simp) ?_ ?_
  · intro i next i0 i1 hP hn hin
    have hta := take_c a 0 i0 i1
    have htb := take_c b 0 i0 (by omega)
    refine cnd_d (fun _ => ⟨i0, i1, i0, by omega, cnd_of (fun h1 => ?_) (fun h1 => ⟨by rw [inK64]; (try dsimp only); omega, hn ?_⟩)⟩) (fun h => absurd i1 h)
    · simp only [c_spec_l01Same]; rw [eqR_f]; rintro rfl; simp at h1
    · rw [bne_eq_false_iff_eq] at h1
      rw [hta, htb, hP, h1]
  · intro next hP hin
    refine cnd_d (fun h => absurd h (by dsimp only; omega)) (fun _ => ?_)
    rw [take_n _ (Int.le_refl _), take_n _ (by omega)] at hP
    simp only [c_spec_l01Same, hP, eqR_self]
theorem ct_spec_l01Same : CtOk Try.prog 108 c_spec_l01Same :=
  ct_by (Φ := lkp []) good_nil tab_ok (by kernel_rfl) (fn := Try.f108) (c := bodyOf Try.f108) (by kernel_rfl) (by kernel_rfl) (by kernel_rfl) c_spec_l01Same rfl (.s .n (.s .n (.s (.s .n (.l [(5, (.d (.int .i64)))] [] [0, 1] .n)) .n))) (cutL [(6, 9)]) (by kernel_rfl) (by kernel_rfl) k_spec_l01Same (by decide) (fun x K => W_spec_l01Same x.1 x.2.1 K) w_spec_l01Same (fun x h1 h2 => m_spec_l01Same x.1 x.2.1 h1 h2)
def c_spec_l02Then : Ct := ⟨[CategoryT, (.int .i64), (.int .i64)], [true, false, false], fun x => [0 ≤ x.2.1, x.2.1 < x.1.2.2.2.2.length, 0 ≤ x.2.2.1, x.2.2.1 < (x.1.2.2.2.2.getD x.2.1.toNat []).length], [(false, (.fz (.int .i64)))], fun x => (compR x.1 x.2.1 x.2.2.1, ()), false, none⟩
def W_spec_l02Then (c : CategoryD) (f : Int) (g : Int) (K : Int × Unit → Prop) : Prop := (((0 : Int) ≤ f) ∧ ((f < (((List.length c.2.2.2.2) : Nat) : Int)) ∧ (((0 : Int) ≤ g) ∧ ((g < (((List.length (List.getD c.2.2.2.2 (Int.toNat f) ([] : List Int))) : Nat) : Int)) ∧ (K ((List.getD (List.getD c.2.2.2.2 (Int.toNat f) ([] : List Int)) (Int.toNat g) (0 : Int)), ()))))))
theorem w_spec_l02Then (x : denL c_spec_l02Then.args) (K : Int × Unit → Prop) : evF tab (lkp []) (cutL []) Try.f69 (bodyOf Try.f69) .n c_spec_l02Then x K = W_spec_l02Then x.1 x.2.1 x.2.2.1 K := by kernel_rfl
theorem k_spec_l02Then : okC Try.f69.ntmps (cutL []) (bodyOf Try.f69) = true := by kernel_rfl
theorem m_spec_l02Then (c : CategoryD) (f : Int) (g : Int) (hok : allP (okL c_spec_l02Then.args (c, f, g, ()))) (hpre : allP (c_spec_l02Then.pre (c, f, g, ()))) : W_spec_l02Then c f g (fun r => r = c_spec_l02Then.res (c, f, g, ())) := by
  simp only [c_spec_l02Then, okL, T.oks, T.ok, ap, allP, true_and, and_true, implies_true] at hok hpre
  try dsimp only [T.den] at hok
  try dsimp only [T.den] at hpre
  unfold W_spec_l02Then
  exact ⟨hpre.1, hpre.2.1, hpre.2.2.1, hpre.2.2.2, rfl⟩
theorem ct_spec_l02Then : CtOk Try.prog 69 c_spec_l02Then :=
  ct_by (Φ := lkp []) good_nil tab_ok (by kernel_rfl) (fn := Try.f69) (c := bodyOf Try.f69) (by kernel_rfl) (by kernel_rfl) (by kernel_rfl) c_spec_l02Then rfl .n (cutL []) (by kernel_rfl) (by kernel_rfl) k_spec_l02Then (by decide) (fun x K => W_spec_l02Then x.1 x.2.1 x.2.2.1 K) w_spec_l02Then (fun x h1 h2 => m_spec_l02Then x.1 x.2.1 x.2.2.1 h1 h2)
def facIB (c : CategoryD) (f z a b : Int) : Bool := c.2.1.getD a.toNat 0 == c.2.1.getD f.toNat 0 && c.2.2.1.getD a.toNat 0 == z && c.2.1.getD b.toNat 0 == z && c.2.2.1.getD b.toNat 0 == c.2.2.1.getD f.toNat 0 && compR c a b == f
def facM (c : CategoryD) (f z a : Int) (m : List Int) : List (List Int) := (m.filter (facIB c f z a)).map fun b => [z, a, b]
def facE (c : CategoryD) (f z : Int) (m e : List Int) : List (List Int) := e.flatMap fun a => facM c f z a m
def facLR (c : CategoryD) (e m : List Int) (f : Int) : List (List Int) := (tabN c.1.toNat fun z => facE c f z m e).flatten
theorem fac_iff {c : CategoryD} {e m : List Int} {f : Int} (S : ShapeP c) (hwe : withinR e c.2.1.length = true) (hwm : withinR m c.2.1.length = true) (f0 : 0 ≤ f) (f1 : f < c.2.1.length) : facR c e m f = true ↔ (facLR c e m f).length ≠ 0 := by
  have hlt := S.lt
  have he := (@all_ix Int 0 e (fun a => 0 ≤ a ∧ a < c.2.1.length)).2 (within_iff.1 hwe)
  have hm := (@all_ix Int 0 m (fun a => 0 ≤ a ∧ a < c.2.1.length)).2 (within_iff.1 hwm)
  have hmem : ∀ x, x ∈ facLR c e m f ↔ ∃ z : Int, (0 ≤ z ∧ z < c.1.toNat) ∧ ∃ a ∈ e, ∃ b ∈ m, facIB c f z a b = true ∧ x = [z, a, b] := by
    intro x
    unfold facLR
    simp only [List.mem_flatten, tabN_mem]
    constructor
    · rintro ⟨l, ⟨z, z0, z1, rfl⟩, hx⟩
      unfold facE facM at hx
      simp only [List.mem_flatMap, List.mem_map, List.mem_filter] at hx
      obtain ⟨a, ha, b, ⟨hb, hi⟩, rfl⟩ := hx
      exact ⟨z, ⟨z0, z1⟩, a, ha, b, hb, hi, rfl⟩
    · rintro ⟨z, ⟨z0, z1⟩, a, ha, b, hb, hi, rfl⟩
      refine ⟨_, ⟨z, z0, z1, rfl⟩, ?_⟩
      unfold facE facM
      simp only [List.mem_flatMap, List.mem_map, List.mem_filter]
      exact ⟨a, ha, b, ⟨hb, hi⟩, rfl⟩
  simp only [facR, List.any_eq_true, beq_iff_eq]
  constructor
  · rintro ⟨a, ha, b, hb, h⟩ h0
    obtain ⟨a0, a1⟩ := he a ha
    obtain ⟨b0, b1⟩ := hm b hb
    have hcf := (S.comp a0 a1 b0 b1).1 (by omega)
    obtain ⟨_, _, y3, y4⟩ := S.yes a0 a1 b0 b1 hcf
    rw [h] at y3 y4
    obtain ⟨_, _, t0, t1⟩ := S.frm a0 a1
    have : [c.2.2.1.getD a.toNat 0, a, b] ∈ facLR c e m f := (hmem _).2 ⟨_, ⟨t0, by omega⟩, a, ha, b, hb, by simp only [facIB, Bool.and_eq_true, beq_iff_eq]; exact ⟨⟨⟨⟨y3.symm, trivial⟩, hcf.symm⟩, y4.symm⟩, h⟩, rfl⟩
    rw [List.length_eq_zero_iff] at h0
    rw [h0] at this
    cases this
  · intro h0
    obtain ⟨x, hx⟩ := List.exists_mem_of_length_pos (Nat.pos_of_ne_zero h0)
    obtain ⟨z, _, a, ha, b, hb, hi, _⟩ := (hmem x).1 hx
    simp only [facIB, Bool.and_eq_true, beq_iff_eq] at hi
    exact ⟨a, ha, b, hb, hi.2⟩

def c_spec_l18Factor : Ct := ⟨[CategoryT, (.sl (.int .i64)), (.sl (.int .i64)), (.int .i64)], [true, false, false, false], fun x => [ShapeP x.1, withinR x.2.1 x.1.2.1.length = true, withinR x.2.2.1 x.1.2.1.length = true, 0 ≤ x.2.2.2.1, x.2.2.2.1 < x.1.2.1.length, x.2.1.length ≤ 40, x.2.2.1.length ≤ 40], [(false, (.sl (.fz (.sl (.int .i64)))))], fun x => (facLR x.1 x.2.1 x.2.2.1 x.2.2.2.1, ()), true, none⟩
def W_spec_l18Factor (c : CategoryD) (e : List Int) (m : List Int) (f : Int) (K : (List (List Int)) × Unit → Prop) : Prop := (loopW (S := ((Unit × (Int × Unit)) × ((List (List Int)) × Unit))) (fun s => (fun next => ((inK IntKind.i64 s.1.2.1) → ((T.ok (T.sl (T.sl (T.int IntKind.i64))) s.2.1) → (cnd (decide (s.1.2.1 < c.1)) (loopW (S := ((Unit × (Int × Unit)) × ((List (List Int)) × Unit))) (fun s1 => (fun next1 => ((inK IntKind.i64 s1.1.2.1) → ((T.ok (T.sl (T.sl (T.int IntKind.i64))) s1.2.1) → (cnd (decide (s1.1.2.1 < (((List.length e) : Nat) : Int))) (loopW (S := ((Unit × (Int × Unit)) × ((List (List Int)) × Unit))) (fun s2 => (fun next2 => ((inK IntKind.i64 s2.1.2.1) → ((T.ok (T.sl (T.sl (T.int IntKind.i64))) s2.2.1) → (cnd (decide (s2.1.2.1 < (((List.length m) : Nat) : Int))) (((0 : Int) ≤ s1.1.2.1) ∧ ((s1.1.2.1 < (((List.length e) : Nat) : Int)) ∧ (((0 : Int) ≤ (List.getD e (Int.toNat s1.1.2.1) (0 : Int))) ∧ (((List.getD e (Int.toNat s1.1.2.1) (0 : Int)) < (((List.length c.2.1) : Nat) : Int)) ∧ (((0 : Int) ≤ f) ∧ ((f < (((List.length c.2.1) : Nat) : Int)) ∧ (((((List.getD c.2.1 (Int.toNat (List.getD e (Int.toNat s1.1.2.1) (0 : Int))) (0 : Int)) == (List.getD c.2.1 (Int.toNat f) (0 : Int))) = Bool.true) → ((s1.1.2.1 < (((List.length e) : Nat) : Int)) ∧ ((0 : Int) ≤ s1.1.2.1))) ∧ (((((List.getD c.2.1 (Int.toNat (List.getD e (Int.toNat s1.1.2.1) (0 : Int))) (0 : Int)) == (List.getD c.2.1 (Int.toNat f) (0 : Int))) = Bool.true) → (((List.getD e (Int.toNat s1.1.2.1) (0 : Int)) < (((List.length c.2.2.1) : Nat) : Int)) ∧ ((0 : Int) ≤ (List.getD e (Int.toNat s1.1.2.1) (0 : Int))))) ∧ ((((((List.getD c.2.1 (Int.toNat (List.getD e (Int.toNat s1.1.2.1) (0 : Int))) (0 : Int)) == (List.getD c.2.1 (Int.toNat f) (0 : Int))) && ((List.getD c.2.2.1 (Int.toNat (List.getD e (Int.toNat s1.1.2.1) (0 : Int))) (0 : Int)) == s.1.2.1)) = Bool.true) → ((s2.1.2.1 < (((List.length m) : Nat) : Int)) ∧ ((0 : Int) ≤ s2.1.2.1))) ∧ ((((((List.getD c.2.1 (Int.toNat (List.getD e (Int.toNat s1.1.2.1) (0 : Int))) (0 : Int)) == (List.getD c.2.1 (Int.toNat f) (0 : Int))) && ((List.getD c.2.2.1 (Int.toNat (List.getD e (Int.toNat s1.1.2.1) (0 : Int))) (0 : Int)) == s.1.2.1)) = Bool.true) → (((List.getD m (Int.toNat s2.1.2.1) (0 : Int)) < (((List.length c.2.1) : Nat) : Int)) ∧ ((0 : Int) ≤ (List.getD m (Int.toNat s2.1.2.1) (0 : Int))))) ∧ (((((((List.getD c.2.1 (Int.toNat (List.getD e (Int.toNat s1.1.2.1) (0 : Int))) (0 : Int)) == (List.getD c.2.1 (Int.toNat f) (0 : Int))) && ((List.getD c.2.2.1 (Int.toNat (List.getD e (Int.toNat s1.1.2.1) (0 : Int))) (0 : Int)) == s.1.2.1)) && ((List.getD c.2.1 (Int.toNat (List.getD m (Int.toNat s2.1.2.1) (0 : Int))) (0 : Int)) == s.1.2.1)) = Bool.true) → ((s2.1.2.1 < (((List.length m) : Nat) : Int)) ∧ ((0 : Int) ≤ s2.1.2.1))) ∧ (((((((List.getD c.2.1 (Int.toNat (List.getD e (Int.toNat s1.1.2.1) (0 : Int))) (0 : Int)) == (List.getD c.2.1 (Int.toNat f) (0 : Int))) && ((List.getD c.2.2.1 (Int.toNat (List.getD e (Int.toNat s1.1.2.1) (0 : Int))) (0 : Int)) == s.1.2.1)) && ((List.getD c.2.1 (Int.toNat (List.getD m (Int.toNat s2.1.2.1) (0 : Int))) (0 : Int)) == s.1.2.1)) = Bool.true) → (((List.getD m (Int.toNat s2.1.2.1) (0 : Int)) < (((List.length c.2.2.1) : Nat) : Int)) ∧ ((0 : Int) ≤ (List.getD m (Int.toNat s2.1.2.1) (0 : Int))))) ∧ (((((((List.getD c.2.1 (Int.toNat (List.getD e (Int.toNat s1.1.2.1) (0 : Int))) (0 : Int)) == (List.getD c.2.1 (Int.toNat f) (0 : Int))) && ((List.getD c.2.2.1 (Int.toNat (List.getD e (Int.toNat s1.1.2.1) (0 : Int))) (0 : Int)) == s.1.2.1)) && ((List.getD c.2.1 (Int.toNat (List.getD m (Int.toNat s2.1.2.1) (0 : Int))) (0 : Int)) == s.1.2.1)) = Bool.true) → ((f < (((List.length c.2.2.1) : Nat) : Int)) ∧ ((0 : Int) ≤ f))) ∧ ((((((((List.getD c.2.1 (Int.toNat (List.getD e (Int.toNat s1.1.2.1) (0 : Int))) (0 : Int)) == (List.getD c.2.1 (Int.toNat f) (0 : Int))) && ((List.getD c.2.2.1 (Int.toNat (List.getD e (Int.toNat s1.1.2.1) (0 : Int))) (0 : Int)) == s.1.2.1)) && ((List.getD c.2.1 (Int.toNat (List.getD m (Int.toNat s2.1.2.1) (0 : Int))) (0 : Int)) == s.1.2.1)) && ((List.getD c.2.2.1 (Int.toNat (List.getD m (Int.toNat s2.1.2.1) (0 : Int))) (0 : Int)) == (List.getD c.2.2.1 (Int.toNat f) (0 : Int)))) = Bool.true) → ((s1.1.2.1 < (((List.length e) : Nat) : Int)) ∧ ((0 : Int) ≤ s1.1.2.1))) ∧ ((((((((List.getD c.2.1 (Int.toNat (List.getD e (Int.toNat s1.1.2.1) (0 : Int))) (0 : Int)) == (List.getD c.2.1 (Int.toNat f) (0 : Int))) && ((List.getD c.2.2.1 (Int.toNat (List.getD e (Int.toNat s1.1.2.1) (0 : Int))) (0 : Int)) == s.1.2.1)) && ((List.getD c.2.1 (Int.toNat (List.getD m (Int.toNat s2.1.2.1) (0 : Int))) (0 : Int)) == s.1.2.1)) && ((List.getD c.2.2.1 (Int.toNat (List.getD m (Int.toNat s2.1.2.1) (0 : Int))) (0 : Int)) == (List.getD c.2.2.1 (Int.toNat f) (0 : Int)))) = Bool.true) → ((s2.1.2.1 < (((List.length m) : Nat) : Int)) ∧ ((0 : Int) ≤ s2.1.2.1))) ∧ ((((((((List.getD c.2.1 (Int.toNat (List.getD e (Int.toNat s1.1.2.1) (0 : Int))) (0 : Int)) == (List.getD c.2.1 (Int.toNat f) (0 : Int))) && ((List.getD c.2.2.1 (Int.toNat (List.getD e (Int.toNat s1.1.2.1) (0 : Int))) (0 : Int)) == s.1.2.1)) && ((List.getD c.2.1 (Int.toNat (List.getD m (Int.toNat s2.1.2.1) (0 : Int))) (0 : Int)) == s.1.2.1)) && ((List.getD c.2.2.1 (Int.toNat (List.getD m (Int.toNat s2.1.2.1) (0 : Int))) (0 : Int)) == (List.getD c.2.2.1 (Int.toNat f) (0 : Int)))) = Bool.true) → (((List.getD e (Int.toNat s1.1.2.1) (0 : Int)) < (((List.length c.2.2.2.2) : Nat) : Int)) ∧ (((0 : Int) ≤ (List.getD m (Int.toNat s2.1.2.1) (0 : Int))) ∧ (((List.getD m (Int.toNat s2.1.2.1) (0 : Int)) < (((List.length (List.getD c.2.2.2.2 (Int.toNat (List.getD e (Int.toNat s1.1.2.1) (0 : Int))) ([] : List Int))) : Nat) : Int)) ∧ ((0 : Int) ≤ (List.getD e (Int.toNat s1.1.2.1) (0 : Int))))))) ∧ (joinW (S := ((Unit × Unit) × ((List (List Int)) × Unit))) (fun s3 => ((T.ok (T.sl (T.sl (T.int IntKind.i64))) s3.2.1) → ((inK IntKind.i64 (s2.1.2.1 + (1 : Int))) ∧ (next2 (((), ((s2.1.2.1 + (1 : Int)), ())), (s3.2.1, ())))))) (fun k => (cnd ((((((List.getD c.2.1 (Int.toNat (List.getD e (Int.toNat s1.1.2.1) (0 : Int))) (0 : Int)) == (List.getD c.2.1 (Int.toNat f) (0 : Int))) && ((List.getD c.2.2.1 (Int.toNat (List.getD e (Int.toNat s1.1.2.1) (0 : Int))) (0 : Int)) == s.1.2.1)) && ((List.getD c.2.1 (Int.toNat (List.getD m (Int.toNat s2.1.2.1) (0 : Int))) (0 : Int)) == s.1.2.1)) && ((List.getD c.2.2.1 (Int.toNat (List.getD m (Int.toNat s2.1.2.1) (0 : Int))) (0 : Int)) == (List.getD c.2.2.1 (Int.toNat f) (0 : Int)))) && ((compR c (List.getD e (Int.toNat s1.1.2.1) (0 : Int)) (List.getD m (Int.toNat s2.1.2.1) (0 : Int))) == f)) (((0 : Int) ≤ s1.1.2.1) ∧ ((s1.1.2.1 < (((List.length e) : Nat) : Int)) ∧ (((0 : Int) ≤ s2.1.2.1) ∧ ((s2.1.2.1 < (((List.length m) : Nat) : Int)) ∧ ((room (List.length s2.2.1) (List.length ((s.1.2.1 :: ((List.getD e (Int.toNat s1.1.2.1) (0 : Int)) :: ((List.getD m (Int.toNat s2.1.2.1) (0 : Int)) :: ([] : List Int)))) :: ([] : List (List Int)))) 24) ∧ (k (((), ()), ((s2.2.1 ++ ((s.1.2.1 :: ((List.getD e (Int.toNat s1.1.2.1) (0 : Int)) :: ((List.getD m (Int.toNat s2.1.2.1) (0 : Int)) :: ([] : List Int)))) :: ([] : List (List Int)))), ())))))))) (k (((), ()), (s2.2.1, ())))))))))))))))))))))) ((inK IntKind.i64 (s1.1.2.1 + (1 : Int))) ∧ (next1 (((), ((s1.1.2.1 + (1 : Int)), ())), (s2.2.1, ()))))))))) (((), ((0 : Int), ())), (s1.2.1, ()))) ((inK IntKind.i64 (s.1.2.1 + (1 : Int))) ∧ (next (((), ((s.1.2.1 + (1 : Int)), ())), (s1.2.1, ()))))))))) (((), ((0 : Int), ())), (s.2.1, ()))) (K (s.2.1, ()))))))) (((), ((0 : Int), ())), (([] : List (List Int)), ())))
theorem w_spec_l18Factor (x : denL c_spec_l18Factor.args) (K : (List (List Int)) × Unit → Prop) : evF tab (lkp [(69, c_spec_l02Then)]) (cutL [(11, 68), (12, 12)]) Try.f109 (bodyOf Try.f109) (.s .n (.s .n (.s (.s .n (.l [(9, (.ref 800009 [])), (10, (.d (.int .i64)))] [(800009, (.sl (.fz (.sl (.int .i64)))))] [1, 2, 3, 4] (.s .n (.s (.s .n (.l [(9, (.ref 800009 [])), (11, (.d (.int .i64)))] [(800009, (.sl (.fz (.sl (.int .i64)))))] [1, 2, 3, 4, 10] (.s .n (.s (.s .n (.l [(9, (.ref 800009 [])), (12, (.d (.int .i64)))] [(800009, (.sl (.fz (.sl (.int .i64)))))] [1, 2, 3, 4, 10, 11] (.s .n (.s (.s .n (.j [(9, (.ref 800009 []))] [(800009, (.sl (.fz (.sl (.int .i64)))))] [1, 2, 3, 4, 10, 11, 12] .n)) .n)))) .n)))) .n)))) .n))) c_spec_l18Factor x K = W_spec_l18Factor x.1 x.2.1 x.2.2.1 x.2.2.2.1 K := by kernel_rfl
theorem k_spec_l18Factor : okC Try.f109.ntmps (cutL [(11, 68), (12, 12)]) (bodyOf Try.f109) = true := by kernel_rfl
theorem m_spec_l18Factor (c : CategoryD) (e : List Int) (m : List Int) (f : Int) (hok : allP (okL c_spec_l18Factor.args (c, e, m, f, ()))) (hpre : allP (c_spec_l18Factor.pre (c, e, m, f, ()))) : W_spec_l18Factor c e m f (fun r => r = c_spec_l18Factor.res (c, e, m, f, ())) := by
  simp only [c_spec_l18Factor, okL, T.oks, T.ok, ap, allP, true_and, and_true, implies_true] at hok hpre
  try dsimp only [T.den] at hok
  try dsimp only [T.den] at hpre
  unfold W_spec_l18Factor
  obtain ⟨S, hwe, hwm, f0, f1, hel, hml⟩ := hpre
  have hlt := S.lt
  have hlc := S.lc
  have hmm := S.m
  obtain ⟨o0, o1⟩ := S.ob
  rw [within_iff] at hwe hwm
  have hcr : ∀ a b : Int, (c.2.2.2.2.getD a.toNat []).getD b.toNat 0 = compR c a b := fun _ _ => rfl
  try simp only [hcr]
  clear hok
  have hM : ∀ (z a : Int) (m' : List Int), m'.length ≤ 40 → (facM c f z a m').length ≤ 40 := fun z a m' h => by
    unfold facM; rw [List.length_map]; exact Nat.le_trans (List.length_filter_le _ _) h
  have hE : ∀ (z : Int) (e' : List Int), e'.length ≤ 40 → (facE c f z m e').length ≤ 1600 := fun z e' h => by
    have := @flatMap_le Int (List Int) 40 (fun a => facM c f z a m) e' (fun a _ => hM z a m hml)
    unfold facE; omega
  have hF : ∀ z : Int, z ≤ 8 → (tabN z.toNat fun z => facE c f z m e).flatten.length ≤ 12800 := fun z h => by
    have := @flat_le (List Int) 1600 (tabN z.toNat fun z => facE c f z m e) (fun l hl => by
      obtain ⟨i, _, _, rfl⟩ := tabN_mem.1 hl; exact hE i e hel)
    rw [tabN_len] at this; omega
  refine loop_ixa (fun z => (tabN z.toNat fun z => facE c f z m e).flatten) (n := c.1) o0 rfl ?_ ?_
  · intro z next z0 z1 hn _ _
    have hFz := hF z (by omega)
    rw [tabN_s z0, List.flatten_append] at hn
    simp only [List.flatten_cons, List.flatten_nil, List.append_nil] at hn
    try dsimp only
    generalize (tabN z.toNat fun z => facE c f z m e).flatten = A at *
    refine cnd_d (fun _ => ?_) (fun h => absurd z1 h)
    refine loop_ixa (fun i => A ++ facE c f z m (e.take i.toNat)) (n := e.length) (by omega) (by simp [facE]) ?_ ?_
    · intro i next2 i0 i1 hn2 _ _
      obtain ⟨a0, a1⟩ := hwe i i0 i1
      have hEi := hE z (e.take i.toNat) (by rw [List.length_take]; omega)
      have hs : facE c f z m (e.take (i + 1).toNat) = facE c f z m (e.take i.toNat) ++ facM c f z (e.getD i.toNat 0) m := by
        unfold facE; rw [take_c e 0 i0 i1, List.flatMap_append]; simp
      rw [hs, ← List.append_assoc] at hn2
      try dsimp only
      have hrow := S.row _ a0 a1
      generalize facE c f z m (e.take i.toNat) = E at *
      have hAE : (A ++ E).length ≤ 14400 := by rw [List.length_append]; omega
      generalize A ++ E = AE at *
      generalize e.getD i.toNat 0 = a at *
      refine cnd_d (fun _ => ?_) (fun h => absurd i1 h)
      refine loop_ixa (fun j => AE ++ facM c f z a (m.take j.toNat)) (n := m.length) (by omega) (by simp [facM]) ?_ ?_
      · intro j next3 j0 j1 hn3 _ _
        obtain ⟨b0, b1⟩ := hwm j j0 j1
        have hMj := hM z a (m.take j.toNat) (by rw [List.length_take]; omega)
        have hs2 : facM c f z a (m.take (j + 1).toNat) = facM c f z a (m.take j.toNat) ++ if facIB c f z a (m.getD j.toNat 0) = true then [[z, a, m.getD j.toNat 0]] else [] := by
          unfold facM; rw [take_c m 0 j0 j1, List.filter_append, List.map_append, List.filter_cons]
          split <;> rfl
        rw [hs2, ← List.append_assoc] at hn3
        try dsimp only
        generalize facM c f z a (m.take j.toNat) = MM at *
        have hAM : (AE ++ MM).length ≤ 14440 := by rw [List.length_append]; omega
        generalize AE ++ MM = AM at *
        generalize m.getD j.toNat 0 = b at *
        refine cnd_d (fun _ => ?_) (fun h => absurd j1 h)
        (repeat' (with_reducible apply And.intro)) <;> (first | omega | assumption | (intro _; (repeat' (with_reducible apply And.intro)) <;> first | omega | assumption) | (rw [inK64]; (try dsimp only); omega) | skip)
        have hfi : (((((c.2.1.getD a.toNat 0 == c.2.1.getD f.toNat 0) && (c.2.2.1.getD a.toNat 0 == z)) && (c.2.1.getD b.toNat 0 == z)) && (c.2.2.1.getD b.toNat 0 == c.2.2.1.getD f.toNat 0)) && (compR c a b == f)) = facIB c f z a b := rfl
        rw [hfi]
        refine join_add _ (fun s hs _ => ⟨by rw [inK64]; (try dsimp only); omega, (congrArg (fun q => next3 (((), (j + 1, ())), (q, ()))) hs).mpr hn3⟩) (fun k hk => cnd_of (fun he => ?_) (fun he => hk _ (by rw [if_neg (by rw [he]; simp), List.append_nil])))
        (repeat' (with_reducible apply And.intro)) <;> (first | omega | assumption | (intro _; (repeat' (with_reducible apply And.intro)) <;> first | omega | assumption) | (rw [inK64]; (try dsimp only); omega) | skip)
        · exact room_of (by simp only [List.length_cons, List.length_nil]; omega)
        · exact hk _ (by rw [if_pos he])
      · intro next3 _ _
        refine cnd_d (fun h => absurd h (by dsimp only; omega)) (fun _ => ⟨by rw [inK64]; (try dsimp only); omega, ?_⟩)
        rw [take_n _ (Int.le_refl _)]
        exact hn2
    · intro next2 _ _
      refine cnd_d (fun h => absurd h (by dsimp only; omega)) (fun _ => ⟨by rw [inK64]; (try dsimp only); omega, ?_⟩)
      rw [take_n _ (Int.le_refl _)]
      exact hn
  · intro next _ _
    exact cnd_d (fun h => absurd h (by dsimp only; omega)) (fun _ => rfl)
theorem ct_spec_l18Factor : CtOk Try.prog 109 c_spec_l18Factor :=
  ct_by (Φ := lkp [(69, c_spec_l02Then)]) (good_cons ct_spec_l02Then good_nil) tab_ok (by kernel_rfl) (fn := Try.f109) (c := bodyOf Try.f109) (by kernel_rfl) (by kernel_rfl) (by kernel_rfl) c_spec_l18Factor rfl (.s .n (.s .n (.s (.s .n (.l [(9, (.ref 800009 [])), (10, (.d (.int .i64)))] [(800009, (.sl (.fz (.sl (.int .i64)))))] [1, 2, 3, 4] (.s .n (.s (.s .n (.l [(9, (.ref 800009 [])), (11, (.d (.int .i64)))] [(800009, (.sl (.fz (.sl (.int .i64)))))] [1, 2, 3, 4, 10] (.s .n (.s (.s .n (.l [(9, (.ref 800009 [])), (12, (.d (.int .i64)))] [(800009, (.sl (.fz (.sl (.int .i64)))))] [1, 2, 3, 4, 10, 11] (.s .n (.s (.s .n (.j [(9, (.ref 800009 []))] [(800009, (.sl (.fz (.sl (.int .i64)))))] [1, 2, 3, 4, 10, 11, 12] .n)) .n)))) .n)))) .n)))) .n))) (cutL [(11, 68), (12, 12)]) (by kernel_rfl) (by kernel_rfl) k_spec_l18Factor (by decide) (fun x K => W_spec_l18Factor x.1 x.2.1 x.2.2.1 x.2.2.2.1 K) w_spec_l18Factor (fun x h1 h2 => m_spec_l18Factor x.1 x.2.1 x.2.2.1 x.2.2.2.1 h1 h2)
def c_spec_l02Hom : Ct := ⟨[CategoryT, (.int .i64), (.int .i64)], [true, false, false], fun x => [x.1.2.1.length ≤ 40, x.1.2.2.1.length = x.1.2.1.length], [(false, (.sl (.fz (.int .i64))))], fun x => (homR x.1 x.2.1 x.2.2.1, ()), false, none⟩
def W_spec_l02Hom (c : CategoryD) (x : Int) (y : Int) (K : (List Int) × Unit → Prop) : Prop := (loopW (S := ((Unit × (Int × Unit)) × ((List Int) × Unit))) (fun s => (fun next => ((inK IntKind.i64 s.1.2.1) → ((T.ok (T.sl (T.int IntKind.i64)) s.2.1) → (cnd (decide (s.1.2.1 < (((List.length c.2.1) : Nat) : Int))) (((0 : Int) ≤ s.1.2.1) ∧ ((s.1.2.1 < (((List.length c.2.1) : Nat) : Int)) ∧ (((((List.getD c.2.1 (Int.toNat s.1.2.1) (0 : Int)) == x) = Bool.true) → ((s.1.2.1 < (((List.length c.2.2.1) : Nat) : Int)) ∧ ((0 : Int) ≤ s.1.2.1))) ∧ (joinW (S := ((Unit × Unit) × ((List Int) × Unit))) (fun s1 => ((T.ok (T.sl (T.int IntKind.i64)) s1.2.1) → ((inK IntKind.i64 (s.1.2.1 + (1 : Int))) ∧ (next (((), ((s.1.2.1 + (1 : Int)), ())), (s1.2.1, ())))))) (fun k => (cnd (((List.getD c.2.1 (Int.toNat s.1.2.1) (0 : Int)) == x) && ((List.getD c.2.2.1 (Int.toNat s.1.2.1) (0 : Int)) == y)) ((room (List.length s.2.1) (List.length (s.1.2.1 :: ([] : List Int))) 8) ∧ (k (((), ()), ((s.2.1 ++ (s.1.2.1 :: ([] : List Int))), ())))) (k (((), ()), (s.2.1, ()))))))))) (K (s.2.1, ()))))))) (((), ((0 : Int), ())), (([] : List Int), ())))
theorem w_spec_l02Hom (x : denL c_spec_l02Hom.args) (K : (List Int) × Unit → Prop) : evF tab (lkp []) (cutL []) Try.f86 (bodyOf Try.f86) (.s .n (.s .n (.s (.s .n (.l [(7, (.ref 800007 [])), (8, (.d (.int .i64)))] [(800007, (.sl (.fz (.int .i64))))] [1, 2, 3] (.s .n (.s (.s .n (.j [(7, (.ref 800007 []))] [(800007, (.sl (.fz (.int .i64))))] [1, 2, 3, 8] .n)) .n)))) .n))) c_spec_l02Hom x K = W_spec_l02Hom x.1 x.2.1 x.2.2.1 K := by kernel_rfl
theorem k_spec_l02Hom : okC Try.f86.ntmps (cutL []) (bodyOf Try.f86) = true := by kernel_rfl
theorem m_spec_l02Hom (c : CategoryD) (x : Int) (y : Int) (hok : allP (okL c_spec_l02Hom.args (c, x, y, ()))) (hpre : allP (c_spec_l02Hom.pre (c, x, y, ()))) : W_spec_l02Hom c x y (fun r => r = c_spec_l02Hom.res (c, x, y, ())) := by
  simp only [c_spec_l02Hom, okL, T.oks, T.ok, ap, allP, true_and, and_true, implies_true] at hok hpre
  try dsimp only [T.den] at hok
  try dsimp only [T.den] at hpre
  unfold W_spec_l02Hom
  have hm : c.2.1.length ≤ 40 := hpre.1
  have hlt : c.2.2.1.length = c.2.1.length := hpre.2
  refine loop_of (fun (s : ((Unit × (Int × Unit)) × ((List Int) × Unit))) => 0 ≤ s.1.2.1 ∧ s.1.2.1 ≤ c.2.1.length ∧ s.2.1 = selR s.1.2.1.toNat fun f => c.2.1.getD f.toNat 0 == x && c.2.2.1.getD f.toNat 0 == y) (fun (s : ((Unit × (Int × Unit)) × ((List Int) × Unit))) => (c.2.1.length - s.1.2.1).toNat) ?_ ⟨by simp, by simp, rfl⟩
  rintro ⟨⟨_, i, _⟩, l, _⟩ next ⟨h0, h1, h2⟩ hn hin hl
  try dsimp only at h0 h1 h2 hn ⊢
  subst h2
  refine cnd_d (fun hc => ⟨h0, hc, fun _ => by omega, join_of (fun s1 => s1.2.1 = selR (i + 1).toNat fun f => c.2.1.getD f.toNat 0 == x && c.2.2.1.getD f.toNat 0 == y) (fun s1 hs _ => ⟨by rw [inK64]; (try dsimp only); omega, hn _ ⟨(by first | omega | (dsimp only; omega)), (by first | omega | (dsimp only; omega)), hs⟩ (by first | omega | (dsimp only; omega))⟩) (fun k hk => cnd_of (fun hx => ⟨?_, hk _ ?_⟩) (fun hx => hk _ ?_))⟩) (fun hc => ?_)
  · have := sel_len (p := fun f => c.2.1.getD f.toNat 0 == x && c.2.2.1.getD f.toNat 0 == y) i.toNat
    unfold room
    rw [nb_eq]
    have h3 : (i :: ([] : List Int)).length = 1 := rfl
    rw [h3]
    omega
  · exact (sel_t h0 hx).symm
  · exact (sel_f h0 hx).symm
  · have e1 : i.toNat = c.2.1.length := by omega
    simp only [c_spec_l02Hom, homR]
    rw [e1]
theorem ct_spec_l02Hom : CtOk Try.prog 86 c_spec_l02Hom :=
  ct_by (Φ := lkp []) good_nil tab_ok (by kernel_rfl) (fn := Try.f86) (c := bodyOf Try.f86) (by kernel_rfl) (by kernel_rfl) (by kernel_rfl) c_spec_l02Hom rfl (.s .n (.s .n (.s (.s .n (.l [(7, (.ref 800007 [])), (8, (.d (.int .i64)))] [(800007, (.sl (.fz (.int .i64))))] [1, 2, 3] (.s .n (.s (.s .n (.j [(7, (.ref 800007 []))] [(800007, (.sl (.fz (.int .i64))))] [1, 2, 3, 8] .n)) .n)))) .n))) (cutL []) (by kernel_rfl) (by kernel_rfl) k_spec_l02Hom (by decide) (fun x K => W_spec_l02Hom x.1 x.2.1 x.2.2.1 K) w_spec_l02Hom (fun x h1 h2 => m_spec_l02Hom x.1 x.2.1 x.2.2.1 h1 h2)
def c_spec_l18Diagonals : Ct := ⟨[CategoryT, (.int .i64), (.int .i64), (.int .i64), (.int .i64)], [true, false, false, false, false], fun x => [ShapeP x.1, 0 ≤ x.2.1, x.2.1 < x.1.2.1.length, 0 ≤ x.2.2.1, x.2.2.1 < x.1.2.1.length], [(false, (.sl (.fz (.int .i64))))], fun x => (diagR x.1 x.2.1 x.2.2.1 x.2.2.2.1 x.2.2.2.2.1, ()), false, none⟩
def W_spec_l18Diagonals (c : CategoryD) (e : Int) (m : Int) (u : Int) (v : Int) (K : (List Int) × Unit → Prop) : Prop := (((0 : Int) ≤ e) ∧ ((e < (((List.length c.2.2.1) : Nat) : Int)) ∧ (((0 : Int) ≤ m) ∧ ((m < (((List.length c.2.1) : Nat) : Int)) ∧ (((List.length c.2.1) ≤ 40) ∧ (((List.length c.2.2.1) = (List.length c.2.1)) ∧ (loopW (S := ((Unit × (Int × Unit)) × ((List Int) × Unit))) (fun s => (fun next => ((inK IntKind.i64 s.1.2.1) → ((T.ok (T.sl (T.int IntKind.i64)) s.2.1) → (cnd (decide (s.1.2.1 < (((List.length (homR c (List.getD c.2.2.1 (Int.toNat e) (0 : Int)) (List.getD c.2.1 (Int.toNat m) (0 : Int)))) : Nat) : Int))) (((0 : Int) ≤ s.1.2.1) ∧ ((s.1.2.1 < (((List.length (homR c (List.getD c.2.2.1 (Int.toNat e) (0 : Int)) (List.getD c.2.1 (Int.toNat m) (0 : Int)))) : Nat) : Int)) ∧ (((0 : Int) ≤ e) ∧ ((e < (((List.length c.2.2.2.2) : Nat) : Int)) ∧ (((0 : Int) ≤ (List.getD (homR c (List.getD c.2.2.1 (Int.toNat e) (0 : Int)) (List.getD c.2.1 (Int.toNat m) (0 : Int))) (Int.toNat s.1.2.1) (0 : Int))) ∧ (((List.getD (homR c (List.getD c.2.2.1 (Int.toNat e) (0 : Int)) (List.getD c.2.1 (Int.toNat m) (0 : Int))) (Int.toNat s.1.2.1) (0 : Int)) < (((List.length (List.getD c.2.2.2.2 (Int.toNat e) ([] : List Int))) : Nat) : Int)) ∧ (((((compR c e (List.getD (homR c (List.getD c.2.2.1 (Int.toNat e) (0 : Int)) (List.getD c.2.1 (Int.toNat m) (0 : Int))) (Int.toNat s.1.2.1) (0 : Int))) == u) = Bool.true) → ((s.1.2.1 < (((List.length (homR c (List.getD c.2.2.1 (Int.toNat e) (0 : Int)) (List.getD c.2.1 (Int.toNat m) (0 : Int)))) : Nat) : Int)) ∧ ((0 : Int) ≤ s.1.2.1))) ∧ (((((compR c e (List.getD (homR c (List.getD c.2.2.1 (Int.toNat e) (0 : Int)) (List.getD c.2.1 (Int.toNat m) (0 : Int))) (Int.toNat s.1.2.1) (0 : Int))) == u) = Bool.true) → (((List.getD (homR c (List.getD c.2.2.1 (Int.toNat e) (0 : Int)) (List.getD c.2.1 (Int.toNat m) (0 : Int))) (Int.toNat s.1.2.1) (0 : Int)) < (((List.length c.2.2.2.2) : Nat) : Int)) ∧ (((0 : Int) ≤ m) ∧ ((m < (((List.length (List.getD c.2.2.2.2 (Int.toNat (List.getD (homR c (List.getD c.2.2.1 (Int.toNat e) (0 : Int)) (List.getD c.2.1 (Int.toNat m) (0 : Int))) (Int.toNat s.1.2.1) (0 : Int))) ([] : List Int))) : Nat) : Int)) ∧ ((0 : Int) ≤ (List.getD (homR c (List.getD c.2.2.1 (Int.toNat e) (0 : Int)) (List.getD c.2.1 (Int.toNat m) (0 : Int))) (Int.toNat s.1.2.1) (0 : Int))))))) ∧ (joinW (S := ((Unit × Unit) × ((List Int) × Unit))) (fun s1 => ((T.ok (T.sl (T.int IntKind.i64)) s1.2.1) → ((inK IntKind.i64 (s.1.2.1 + (1 : Int))) ∧ (next (((), ((s.1.2.1 + (1 : Int)), ())), (s1.2.1, ())))))) (fun k => (cnd (((compR c e (List.getD (homR c (List.getD c.2.2.1 (Int.toNat e) (0 : Int)) (List.getD c.2.1 (Int.toNat m) (0 : Int))) (Int.toNat s.1.2.1) (0 : Int))) == u) && ((compR c (List.getD (homR c (List.getD c.2.2.1 (Int.toNat e) (0 : Int)) (List.getD c.2.1 (Int.toNat m) (0 : Int))) (Int.toNat s.1.2.1) (0 : Int)) m) == v)) (((0 : Int) ≤ s.1.2.1) ∧ ((s.1.2.1 < (((List.length (homR c (List.getD c.2.2.1 (Int.toNat e) (0 : Int)) (List.getD c.2.1 (Int.toNat m) (0 : Int)))) : Nat) : Int)) ∧ ((room (List.length s.2.1) (List.length ((List.getD (homR c (List.getD c.2.2.1 (Int.toNat e) (0 : Int)) (List.getD c.2.1 (Int.toNat m) (0 : Int))) (Int.toNat s.1.2.1) (0 : Int)) :: ([] : List Int))) 8) ∧ (k (((), ()), ((s.2.1 ++ ((List.getD (homR c (List.getD c.2.2.1 (Int.toNat e) (0 : Int)) (List.getD c.2.1 (Int.toNat m) (0 : Int))) (Int.toNat s.1.2.1) (0 : Int)) :: ([] : List Int))), ())))))) (k (((), ()), (s.2.1, ())))))))))))))) (K (s.2.1, ()))))))) (((), ((0 : Int), ())), (([] : List Int), ())))))))))
theorem w_spec_l18Diagonals (x : denL c_spec_l18Diagonals.args) (K : (List Int) × Unit → Prop) : evF tab (lkp [(86, c_spec_l02Hom), (69, c_spec_l02Then)]) (cutL [(1, 15), (5, 20)]) Try.f132 (bodyOf Try.f132) (.s .n (.s .n (.s (.s .n (.l [(12, (.ref 800012 [])), (13, (.d (.int .i64)))] [(800012, (.sl (.fz (.int .i64))))] [1, 2, 3, 4, 5, 11] (.s .n (.s (.s .n (.j [(12, (.ref 800012 []))] [(800012, (.sl (.fz (.int .i64))))] [1, 2, 3, 4, 5, 11, 13] .n)) .n)))) .n))) c_spec_l18Diagonals x K = W_spec_l18Diagonals x.1 x.2.1 x.2.2.1 x.2.2.2.1 x.2.2.2.2.1 K := by kernel_rfl
theorem k_spec_l18Diagonals : okC Try.f132.ntmps (cutL [(1, 15), (5, 20)]) (bodyOf Try.f132) = true := by kernel_rfl
theorem m_spec_l18Diagonals (c : CategoryD) (e : Int) (m : Int) (u : Int) (v : Int) (hok : allP (okL c_spec_l18Diagonals.args (c, e, m, u, v, ()))) (hpre : allP (c_spec_l18Diagonals.pre (c, e, m, u, v, ()))) : W_spec_l18Diagonals c e m u v (fun r => r = c_spec_l18Diagonals.res (c, e, m, u, v, ())) := by
  simp only [c_spec_l18Diagonals, okL, T.oks, T.ok, ap, allP, true_and, and_true, implies_true] at hok hpre
  try dsimp only [T.den] at hok
  try dsimp only [T.den] at hpre
  unfold W_spec_l18Diagonals
  obtain ⟨S, e0, e1, m0, m1⟩ := hpre
  have hlt := S.lt
  have hlc := S.lc
  have hmm := S.m
  have hre := S.row _ e0 e1
  have hll := hom_len S (c.2.2.1.getD e.toNat 0) (c.2.1.getD m.toNat 0)
  have hat := @hom_at c (c.2.2.1.getD e.toNat 0) (c.2.1.getD m.toNat 0)
  refine ⟨e0, by omega, m0, m1, hmm, hlt, ?_⟩
  simp only [c_spec_l18Diagonals, diagR]
  generalize homR c (c.2.2.1.getD e.toNat 0) (c.2.1.getD m.toNat 0) = l at *
  have hcr : ∀ a b : Int, (c.2.2.2.2.getD a.toNat []).getD b.toNat 0 = compR c a b := fun _ _ => rfl
  try simp only [hcr]
  clear hok
  refine loop_fil l (fun d => compR c e d == u && compR c d m == v) ?_ ?_
  · intro i out next i0 i1 hn hol _ _
    obtain ⟨d0, d1, _⟩ := hat i0 i1
    have hrd := S.row _ d0 d1
    try dsimp only at hn ⊢
    generalize l.getD i.toNat 0 = d at *
    refine cnd_d (fun _ => ?_) (fun h => absurd i1 h)
    (repeat' (with_reducible apply And.intro)) <;> (first | omega | assumption | (intro _; (repeat' (with_reducible apply And.intro)) <;> first | omega | assumption) | (rw [inK64]; (try dsimp only); omega) | skip)
    refine join_add _ (fun s hs _ => ⟨by rw [inK64]; (try dsimp only); omega, hn _ hs⟩) (fun k hk => cnd_of (fun he => ?_) (fun he => hk _ (by rw [he]; rfl)))
    (repeat' (with_reducible apply And.intro)) <;> (first | omega | assumption | (intro _; (repeat' (with_reducible apply And.intro)) <;> first | omega | assumption) | (rw [inK64]; (try dsimp only); omega) | skip)
    · exact room_of (by simp only [List.length_cons, List.length_nil]; omega)
    · exact hk _ (by rw [he]; rfl)
  · intro next _ _
    exact cnd_d (fun h => absurd h (by dsimp only; omega)) (fun _ => rfl)
theorem ct_spec_l18Diagonals : CtOk Try.prog 132 c_spec_l18Diagonals :=
  ct_by (Φ := lkp [(86, c_spec_l02Hom), (69, c_spec_l02Then)]) (good_cons ct_spec_l02Hom (good_cons ct_spec_l02Then good_nil)) tab_ok (by kernel_rfl) (fn := Try.f132) (c := bodyOf Try.f132) (by kernel_rfl) (by kernel_rfl) (by kernel_rfl) c_spec_l18Diagonals rfl (.s .n (.s .n (.s (.s .n (.l [(12, (.ref 800012 [])), (13, (.d (.int .i64)))] [(800012, (.sl (.fz (.int .i64))))] [1, 2, 3, 4, 5, 11] (.s .n (.s (.s .n (.j [(12, (.ref 800012 []))] [(800012, (.sl (.fz (.int .i64))))] [1, 2, 3, 4, 5, 11, 13] .n)) .n)))) .n))) (cutL [(1, 15), (5, 20)]) (by kernel_rfl) (by kernel_rfl) k_spec_l18Diagonals (by decide) (fun x K => W_spec_l18Diagonals x.1 x.2.1 x.2.2.1 x.2.2.2.1 x.2.2.2.2.1 K) w_spec_l18Diagonals (fun x h1 h2 => m_spec_l18Diagonals x.1 x.2.1 x.2.2.1 x.2.2.2.1 x.2.2.2.2.1 h1 h2)
def c_spec_l18Orthogonal : Ct := ⟨[CategoryT, (.int .i64), (.int .i64)], [true, false, false], fun x => [ShapeP x.1, 0 ≤ x.2.1, x.2.1 < x.1.2.1.length, 0 ≤ x.2.2.1, x.2.2.1 < x.1.2.1.length], [(false, (.fz .bool))], fun x => (orthR x.1 x.2.1 x.2.2.1, ()), false, none⟩
def W_spec_l18Orthogonal (c : CategoryD) (e : Int) (m : Int) (K : Bool × Unit → Prop) : Prop := (((0 : Int) ≤ e) ∧ ((e < (((List.length c.2.1) : Nat) : Int)) ∧ (((0 : Int) ≤ m) ∧ ((m < (((List.length c.2.1) : Nat) : Int)) ∧ (((List.length c.2.1) ≤ 40) ∧ (((List.length c.2.2.1) = (List.length c.2.1)) ∧ (((0 : Int) ≤ e) ∧ ((e < (((List.length c.2.2.1) : Nat) : Int)) ∧ (((0 : Int) ≤ m) ∧ ((m < (((List.length c.2.2.1) : Nat) : Int)) ∧ (((List.length c.2.1) ≤ 40) ∧ (((List.length c.2.2.1) = (List.length c.2.1)) ∧ (loopW (S := ((Int × Unit) × Unit)) (fun s => (fun next => ((inK IntKind.i64 s.1.1) → (cnd (decide (s.1.1 < (((List.length (homR c (List.getD c.2.1 (Int.toNat e) (0 : Int)) (List.getD c.2.1 (Int.toNat m) (0 : Int)))) : Nat) : Int))) (loopW (S := ((Int × Unit) × Unit)) (fun s1 => (fun next1 => ((inK IntKind.i64 s1.1.1) → (cnd (decide (s1.1.1 < (((List.length (homR c (List.getD c.2.2.1 (Int.toNat e) (0 : Int)) (List.getD c.2.2.1 (Int.toNat m) (0 : Int)))) : Nat) : Int))) (((0 : Int) ≤ s1.1.1) ∧ ((s1.1.1 < (((List.length (homR c (List.getD c.2.2.1 (Int.toNat e) (0 : Int)) (List.getD c.2.2.1 (Int.toNat m) (0 : Int)))) : Nat) : Int)) ∧ (((0 : Int) ≤ e) ∧ ((e < (((List.length c.2.2.2.2) : Nat) : Int)) ∧ (((0 : Int) ≤ (List.getD (homR c (List.getD c.2.2.1 (Int.toNat e) (0 : Int)) (List.getD c.2.2.1 (Int.toNat m) (0 : Int))) (Int.toNat s1.1.1) (0 : Int))) ∧ (((List.getD (homR c (List.getD c.2.2.1 (Int.toNat e) (0 : Int)) (List.getD c.2.2.1 (Int.toNat m) (0 : Int))) (Int.toNat s1.1.1) (0 : Int)) < (((List.length (List.getD c.2.2.2.2 (Int.toNat e) ([] : List Int))) : Nat) : Int)) ∧ (((0 : Int) ≤ s.1.1) ∧ ((s.1.1 < (((List.length (homR c (List.getD c.2.1 (Int.toNat e) (0 : Int)) (List.getD c.2.1 (Int.toNat m) (0 : Int)))) : Nat) : Int)) ∧ (((0 : Int) ≤ (List.getD (homR c (List.getD c.2.1 (Int.toNat e) (0 : Int)) (List.getD c.2.1 (Int.toNat m) (0 : Int))) (Int.toNat s.1.1) (0 : Int))) ∧ (((List.getD (homR c (List.getD c.2.1 (Int.toNat e) (0 : Int)) (List.getD c.2.1 (Int.toNat m) (0 : Int))) (Int.toNat s.1.1) (0 : Int)) < (((List.length c.2.2.2.2) : Nat) : Int)) ∧ (((0 : Int) ≤ m) ∧ ((m < (((List.length (List.getD c.2.2.2.2 (Int.toNat (List.getD (homR c (List.getD c.2.1 (Int.toNat e) (0 : Int)) (List.getD c.2.1 (Int.toNat m) (0 : Int))) (Int.toNat s.1.1) (0 : Int))) ([] : List Int))) : Nat) : Int)) ∧ (((((compR c e (List.getD (homR c (List.getD c.2.2.1 (Int.toNat e) (0 : Int)) (List.getD c.2.2.1 (Int.toNat m) (0 : Int))) (Int.toNat s1.1.1) (0 : Int))) == (compR c (List.getD (homR c (List.getD c.2.1 (Int.toNat e) (0 : Int)) (List.getD c.2.1 (Int.toNat m) (0 : Int))) (Int.toNat s.1.1) (0 : Int)) m)) = Bool.true) → ((s.1.1 < (((List.length (homR c (List.getD c.2.1 (Int.toNat e) (0 : Int)) (List.getD c.2.1 (Int.toNat m) (0 : Int)))) : Nat) : Int)) ∧ ((0 : Int) ≤ s.1.1))) ∧ (((((compR c e (List.getD (homR c (List.getD c.2.2.1 (Int.toNat e) (0 : Int)) (List.getD c.2.2.1 (Int.toNat m) (0 : Int))) (Int.toNat s1.1.1) (0 : Int))) == (compR c (List.getD (homR c (List.getD c.2.1 (Int.toNat e) (0 : Int)) (List.getD c.2.1 (Int.toNat m) (0 : Int))) (Int.toNat s.1.1) (0 : Int)) m)) = Bool.true) → ((s1.1.1 < (((List.length (homR c (List.getD c.2.2.1 (Int.toNat e) (0 : Int)) (List.getD c.2.2.1 (Int.toNat m) (0 : Int)))) : Nat) : Int)) ∧ ((0 : Int) ≤ s1.1.1))) ∧ (((((compR c e (List.getD (homR c (List.getD c.2.2.1 (Int.toNat e) (0 : Int)) (List.getD c.2.2.1 (Int.toNat m) (0 : Int))) (Int.toNat s1.1.1) (0 : Int))) == (compR c (List.getD (homR c (List.getD c.2.1 (Int.toNat e) (0 : Int)) (List.getD c.2.1 (Int.toNat m) (0 : Int))) (Int.toNat s.1.1) (0 : Int)) m)) = Bool.true) → (((0 : Int) ≤ e) ∧ ((e < (((List.length c.2.1) : Nat) : Int)) ∧ (((0 : Int) ≤ m) ∧ ((m < (((List.length c.2.1) : Nat) : Int)) ∧ (ShapeP c)))))) ∧ (cnd (((compR c e (List.getD (homR c (List.getD c.2.2.1 (Int.toNat e) (0 : Int)) (List.getD c.2.2.1 (Int.toNat m) (0 : Int))) (Int.toNat s1.1.1) (0 : Int))) == (compR c (List.getD (homR c (List.getD c.2.1 (Int.toNat e) (0 : Int)) (List.getD c.2.1 (Int.toNat m) (0 : Int))) (Int.toNat s.1.1) (0 : Int)) m)) && ((((List.length (diagR c e m (List.getD (homR c (List.getD c.2.1 (Int.toNat e) (0 : Int)) (List.getD c.2.1 (Int.toNat m) (0 : Int))) (Int.toNat s.1.1) (0 : Int)) (List.getD (homR c (List.getD c.2.2.1 (Int.toNat e) (0 : Int)) (List.getD c.2.2.1 (Int.toNat m) (0 : Int))) (Int.toNat s1.1.1) (0 : Int)))) : Nat) : Int) != (1 : Int))) (K (Bool.false, ())) ((inK IntKind.i64 (s1.1.1 + (1 : Int))) ∧ (next1 (((s1.1.1 + (1 : Int)), ()), ()))))))))))))))))))) ((inK IntKind.i64 (s.1.1 + (1 : Int))) ∧ (next (((s.1.1 + (1 : Int)), ()), ()))))))) (((0 : Int), ()), ())) (K (Bool.true, ())))))) (((0 : Int), ()), ()))))))))))))))
theorem w_spec_l18Orthogonal (x : denL c_spec_l18Orthogonal.args) (K : Bool × Unit → Prop) : evF tab (lkp [(86, c_spec_l02Hom), (69, c_spec_l02Then), (132, c_spec_l18Diagonals)]) (cutL [(1, 26), (8, 31)]) Try.f106 (bodyOf Try.f106) (.s .n (.s .n (.s (.s .n (.l [(9, (.d (.int .i64)))] [] [1, 2, 3, 7, 8] (.s .n (.s (.s .n (.l [(10, (.d (.int .i64)))] [] [1, 2, 3, 7, 8, 9] .n)) .n)))) .n))) c_spec_l18Orthogonal x K = W_spec_l18Orthogonal x.1 x.2.1 x.2.2.1 K := by kernel_rfl
theorem k_spec_l18Orthogonal : okC Try.f106.ntmps (cutL [(1, 26), (8, 31)]) (bodyOf Try.f106) = true := by kernel_rfl
theorem m_spec_l18Orthogonal (c : CategoryD) (e : Int) (m : Int) (hok : allP (okL c_spec_l18Orthogonal.args (c, e, m, ()))) (hpre : allP (c_spec_l18Orthogonal.pre (c, e, m, ()))) : W_spec_l18Orthogonal c e m (fun r => r = c_spec_l18Orthogonal.res (c, e, m, ())) := by
  simp only [c_spec_l18Orthogonal, okL, T.oks, T.ok, ap, allP, true_and, and_true, implies_true] at hok hpre
  try dsimp only [T.den] at hok
  try dsimp only [T.den] at hpre
  unfold W_spec_l18Orthogonal
  obtain ⟨S, e0, e1, m0, m1⟩ := hpre
  have hlt := S.lt
  have hlc := S.lc
  have hmm := S.m
  have hre := S.row _ e0 e1
  have hla := hom_len S (c.2.1.getD e.toNat 0) (c.2.1.getD m.toNat 0)
  have haa := @hom_at c (c.2.1.getD e.toNat 0) (c.2.1.getD m.toNat 0)
  have hlb := hom_len S (c.2.2.1.getD e.toNat 0) (c.2.2.1.getD m.toNat 0)
  have hab := @hom_at c (c.2.2.1.getD e.toNat 0) (c.2.2.1.getD m.toNat 0)
  have hcr : ∀ a b : Int, (c.2.2.2.2.getD a.toNat []).getD b.toNat 0 = compR c a b := fun _ _ => rfl
  try simp only [hcr]
  simp only [c_spec_l18Orthogonal, orthR]
  generalize homR c (c.2.1.getD e.toNat 0) (c.2.1.getD m.toNat 0) = us at *
  generalize homR c (c.2.2.1.getD e.toNat 0) (c.2.2.1.getD m.toNat 0) = vs at *
  clear hok
  (repeat' (with_reducible apply And.intro)) <;> (first | omega | assumption | (intro _; (repeat' (with_reducible apply And.intro)) <;> first | omega | assumption) | (rw [inK64]; (try dsimp only); omega) | skip)
  refine loop_all us 0 (fun u => vs.all fun v => orthI c e m u v) ?_ ?_
  · intro i next i0 i1 hbad hn _
    obtain ⟨u0, u1, _⟩ := haa i0 i1
    have hru := S.row _ u0 u1
    generalize us.getD i.toNat 0 = u at *
    refine cnd_d (fun _ => ?_) (fun h => absurd i1 h)
    (repeat' (with_reducible apply And.intro)) <;> (first | omega | assumption | (intro _; (repeat' (with_reducible apply And.intro)) <;> first | omega | assumption) | (rw [inK64]; (try dsimp only); omega) | skip)
    refine loop_all vs 0 (fun v => orthI c e m u v) ?_ ?_
    · intro j next2 j0 j1 hbad2 hn2 _
      obtain ⟨v0, v1, _⟩ := hab j0 j1
      generalize vs.getD j.toNat 0 = v at *
      refine cnd_d (fun _ => ?_) (fun h => absurd j1 h)
      (repeat' (with_reducible apply And.intro)) <;> (first | omega | assumption | (intro _; (repeat' (with_reducible apply And.intro)) <;> first | omega | assumption) | (rw [inK64]; (try dsimp only); omega) | skip)
      have hI : orthI c e m u v = !((compR c e v == compR c u m) && ((((diagR c e m u v).length : Nat) : Int) != 1)) := by
        unfold orthI
        by_cases h1 : compR c e v = compR c u m
        · by_cases h2 : (diagR c e m u v).length = 1
          · simp [h1, h2]
          · have : ¬ ((((diagR c e m u v).length : Nat) : Int) = 1) := by omega
            simp [h1, h2, bne, this]
        · simp [h1]
      refine cnd_of (fun h => ?_) (fun h => ⟨by rw [inK64]; (try dsimp only); omega, hn2 (by rw [hI, h]; rfl)⟩)
      rw [hbad (hbad2 (by rw [hI, h]; rfl))]
    · intro next2 hv _
      exact cnd_d (fun h => absurd h (by dsimp only; omega)) (fun _ => ⟨by rw [inK64]; (try dsimp only); omega, hn hv⟩)
  · intro next hu _
    exact cnd_d (fun h => absurd h (by dsimp only; omega)) (fun _ => by rw [hu])
theorem ct_spec_l18Orthogonal : CtOk Try.prog 106 c_spec_l18Orthogonal :=
  ct_by (Φ := lkp [(86, c_spec_l02Hom), (69, c_spec_l02Then), (132, c_spec_l18Diagonals)]) (good_cons ct_spec_l02Hom (good_cons ct_spec_l02Then (good_cons ct_spec_l18Diagonals good_nil))) tab_ok (by kernel_rfl) (fn := Try.f106) (c := bodyOf Try.f106) (by kernel_rfl) (by kernel_rfl) (by kernel_rfl) c_spec_l18Orthogonal rfl (.s .n (.s .n (.s (.s .n (.l [(9, (.d (.int .i64)))] [] [1, 2, 3, 7, 8] (.s .n (.s (.s .n (.l [(10, (.d (.int .i64)))] [] [1, 2, 3, 7, 8, 9] .n)) .n)))) .n))) (cutL [(1, 26), (8, 31)]) (by kernel_rfl) (by kernel_rfl) k_spec_l18Orthogonal (by decide) (fun x K => W_spec_l18Orthogonal x.1 x.2.1 x.2.2.1 K) w_spec_l18Orthogonal (fun x h1 h2 => m_spec_l18Orthogonal x.1 x.2.1 x.2.2.1 h1 h2)
def c_spec_l18Left : Ct := ⟨[CategoryT, (.sl (.int .i64))], [true, false], fun x => [ShapeP x.1, withinR x.2.1 x.1.2.1.length = true], [(false, (.sl (.fz (.int .i64))))], fun x => (leftR x.1 x.2.1, ()), false, none⟩
def W_spec_l18Left (c : CategoryD) (arrows : List Int) (K : (List Int) × Unit → Prop) : Prop := (loopW (S := ((Unit × (Int × Unit)) × ((List Int) × Unit))) (fun s => (fun next => ((inK IntKind.i64 s.1.2.1) → ((T.ok (T.sl (T.int IntKind.i64)) s.2.1) → (cnd (decide (s.1.2.1 < (((List.length c.2.1) : Nat) : Int))) (loopW (S := ((Unit × (Bool × (Int × Unit))) × ((List Int) × Unit))) (fun s1 => (fun next1 => ((inK IntKind.i64 s1.1.2.2.1) → ((T.ok (T.sl (T.int IntKind.i64)) s1.2.1) → (cnd (s1.1.2.1 && (decide (s1.1.2.2.1 < (((List.length arrows) : Nat) : Int)))) (((0 : Int) ≤ s1.1.2.2.1) ∧ ((s1.1.2.2.1 < (((List.length arrows) : Nat) : Int)) ∧ ((ShapeP c) ∧ (((0 : Int) ≤ s.1.2.1) ∧ ((s.1.2.1 < (((List.length c.2.1) : Nat) : Int)) ∧ (((0 : Int) ≤ (List.getD arrows (Int.toNat s1.1.2.2.1) (0 : Int))) ∧ (((List.getD arrows (Int.toNat s1.1.2.2.1) (0 : Int)) < (((List.length c.2.1) : Nat) : Int)) ∧ ((inK IntKind.i64 (s1.1.2.2.1 + (1 : Int))) ∧ (next1 (((), ((orthR c s.1.2.1 (List.getD arrows (Int.toNat s1.1.2.2.1) (0 : Int))), ((s1.1.2.2.1 + (1 : Int)), ()))), (s1.2.1, ()))))))))))) (joinW (S := ((Unit × Unit) × ((List Int) × Unit))) (fun s2 => ((T.ok (T.sl (T.int IntKind.i64)) s2.2.1) → ((inK IntKind.i64 (s.1.2.1 + (1 : Int))) ∧ (next (((), ((s.1.2.1 + (1 : Int)), ())), (s2.2.1, ())))))) (fun k => (cnd s1.1.2.1 ((room (List.length s1.2.1) (List.length (s.1.2.1 :: ([] : List Int))) 8) ∧ (k (((), ()), ((s1.2.1 ++ (s.1.2.1 :: ([] : List Int))), ())))) (k (((), ()), (s1.2.1, ()))))))))))) (((), (Bool.true, ((0 : Int), ()))), (s.2.1, ()))) (K (s.2.1, ()))))))) (((), ((0 : Int), ())), (([] : List Int), ())))
theorem w_spec_l18Left (x : denL c_spec_l18Left.args) (K : (List Int) × Unit → Prop) : evF tab (lkp [(106, c_spec_l18Orthogonal)]) (cutL [(9, 8)]) Try.f72 (bodyOf Try.f72) (.s .n (.s .n (.s (.s .n (.l [(5, (.ref 800005 [])), (6, (.d (.int .i64)))] [(800005, (.sl (.fz (.int .i64))))] [1, 2] (.s .n (.s (.s .n (.s (.s .n (.l [(5, (.ref 800005 [])), (7, (.d .bool)), (8, (.d (.int .i64)))] [(800005, (.sl (.fz (.int .i64))))] [1, 2, 6] .n)) (.s .n (.j [(5, (.ref 800005 []))] [(800005, (.sl (.fz (.int .i64))))] [1, 2, 6] .n)))) .n)))) .n))) c_spec_l18Left x K = W_spec_l18Left x.1 x.2.1 K := by kernel_rfl
theorem k_spec_l18Left : okC Try.f72.ntmps (cutL [(9, 8)]) (bodyOf Try.f72) = true := by kernel_rfl
theorem m_spec_l18Left (c : CategoryD) (arrows : List Int) (hok : allP (okL c_spec_l18Left.args (c, arrows, ()))) (hpre : allP (c_spec_l18Left.pre (c, arrows, ()))) : W_spec_l18Left c arrows (fun r => r = c_spec_l18Left.res (c, arrows, ())) := by
  simp only [c_spec_l18Left, okL, T.oks, T.ok, ap, allP, true_and, and_true, implies_true] at hok hpre
  try dsimp only [T.den] at hok
  try dsimp only [T.den] at hpre
  unfold W_spec_l18Left
  obtain ⟨S, hw⟩ := hpre
  rw [within_iff] at hw
  have hmm := S.m
  have hal : arrows.length ≤ 140737488355328 := by simp only [nb_eq] at hok; omega
  clear hok
  refine loop_sel c.2.1.length (fun i => arrows.all fun q => orthR c i q) ?_ ?_
  · intro i out next i0 i1 hn hol _ _
    refine cnd_d (fun _ => ?_) (fun h => absurd i1 h)
    refine loop_of (fun (s1 : ((Unit × (Bool × (Int × Unit))) × ((List Int) × Unit))) => s1.2.1 = out ∧ 0 ≤ s1.1.2.2.1 ∧ s1.1.2.2.1 ≤ arrows.length ∧ ((s1.1.2.1 = false ∧ (arrows.all fun q => orthR c i q) = false) ∨ (s1.1.2.1 = true ∧ ((arrows.take s1.1.2.2.1.toNat).all fun q => orthR c i q) = true))) (fun (s1 : ((Unit × (Bool × (Int × Unit))) × ((List Int) × Unit))) => (arrows.length - s1.1.2.2.1).toNat) ?_ ⟨rfl, by simp, by simp, .inr ⟨rfl, by simp⟩⟩
    rintro ⟨⟨_, b, j, _⟩, l, _⟩ next2 ⟨hl, j0, j1, hP⟩ hn2 _ _
    try dsimp only at hl j0 j1 hP hn2 ⊢
    subst hl
    refine cnd_of (fun he => ?_) (fun he => ?_)
    · simp only [Bool.and_eq_true, decide_eq_true_eq] at he
      obtain ⟨hb, hj⟩ := he
      obtain ⟨q0, q1⟩ := hw j j0 hj
      have hP2 : ((arrows.take j.toNat).all fun q => orthR c i q) = true := by
        rcases hP with h | h
        · rw [hb] at h; cases h.1
        · exact h.2
      have hat := @all_take Int (fun q => orthR c i q) arrows 0 j j0 hj
      rw [hP2, Bool.true_and] at hat
      refine ⟨j0, hj, S, i0, by omega, q0, q1, by rw [inK64]; (try dsimp only); omega, hn2 _ ⟨rfl, (by first | omega | (dsimp only; omega)), (by first | omega | (dsimp only; omega)), ?_⟩ (by first | omega | (dsimp only; omega))⟩
      try dsimp only
      cases hv : orthR c i (arrows.getD j.toNat 0) with
      | false => exact .inl ⟨rfl, by rw [List.all_eq_false]; exact ⟨_, getD_mem arrows 0 j0 hj, by rw [hv]; simp⟩⟩
      | true => exact .inr ⟨rfl, by rw [hat]; exact hv⟩
    · have hqb : (arrows.all fun q => orthR c i q) = b := by
        rcases hP with ⟨h1, h2⟩ | ⟨h1, h2⟩
        · rw [h1, h2]
        · rw [h1, Bool.true_and, decide_eq_false_iff_not] at he
          rw [take_n _ (by omega)] at h2
          rw [h2, h1]
      refine join_add _ (fun s hs _ => ⟨by rw [inK64]; (try dsimp only); omega, hn _ hs⟩) (fun k hk => cnd_of (fun hb => ⟨room_of (by simp only [List.length_cons, List.length_nil]; omega), hk _ (by rw [if_pos (hqb.trans hb)])⟩) (fun hb => hk _ (by rw [hqb, hb]; rfl)))
  · intro next _ _
    exact cnd_d (fun h => absurd h (by dsimp only; omega)) (fun _ => rfl)
theorem ct_spec_l18Left : CtOk Try.prog 72 c_spec_l18Left :=
  ct_by (Φ := lkp [(106, c_spec_l18Orthogonal)]) (good_cons ct_spec_l18Orthogonal good_nil) tab_ok (by kernel_rfl) (fn := Try.f72) (c := bodyOf Try.f72) (by kernel_rfl) (by kernel_rfl) (by kernel_rfl) c_spec_l18Left rfl (.s .n (.s .n (.s (.s .n (.l [(5, (.ref 800005 [])), (6, (.d (.int .i64)))] [(800005, (.sl (.fz (.int .i64))))] [1, 2] (.s .n (.s (.s .n (.s (.s .n (.l [(5, (.ref 800005 [])), (7, (.d .bool)), (8, (.d (.int .i64)))] [(800005, (.sl (.fz (.int .i64))))] [1, 2, 6] .n)) (.s .n (.j [(5, (.ref 800005 []))] [(800005, (.sl (.fz (.int .i64))))] [1, 2, 6] .n)))) .n)))) .n))) (cutL [(9, 8)]) (by kernel_rfl) (by kernel_rfl) k_spec_l18Left (by decide) (fun x K => W_spec_l18Left x.1 x.2.1 K) w_spec_l18Left (fun x h1 h2 => m_spec_l18Left x.1 x.2.1 h1 h2)
def c_spec_l18Right : Ct := ⟨[CategoryT, (.sl (.int .i64))], [true, false], fun x => [ShapeP x.1, withinR x.2.1 x.1.2.1.length = true], [(false, (.sl (.fz (.int .i64))))], fun x => (rightR x.1 x.2.1, ()), false, none⟩
def W_spec_l18Right (c : CategoryD) (arrows : List Int) (K : (List Int) × Unit → Prop) : Prop := (loopW (S := ((Unit × (Int × Unit)) × ((List Int) × Unit))) (fun s => (fun next => ((inK IntKind.i64 s.1.2.1) → ((T.ok (T.sl (T.int IntKind.i64)) s.2.1) → (cnd (decide (s.1.2.1 < (((List.length c.2.1) : Nat) : Int))) (loopW (S := ((Unit × (Bool × (Int × Unit))) × ((List Int) × Unit))) (fun s1 => (fun next1 => ((inK IntKind.i64 s1.1.2.2.1) → ((T.ok (T.sl (T.int IntKind.i64)) s1.2.1) → (cnd (s1.1.2.1 && (decide (s1.1.2.2.1 < (((List.length arrows) : Nat) : Int)))) (((0 : Int) ≤ s1.1.2.2.1) ∧ ((s1.1.2.2.1 < (((List.length arrows) : Nat) : Int)) ∧ ((ShapeP c) ∧ (((0 : Int) ≤ (List.getD arrows (Int.toNat s1.1.2.2.1) (0 : Int))) ∧ (((List.getD arrows (Int.toNat s1.1.2.2.1) (0 : Int)) < (((List.length c.2.1) : Nat) : Int)) ∧ (((0 : Int) ≤ s.1.2.1) ∧ ((s.1.2.1 < (((List.length c.2.1) : Nat) : Int)) ∧ ((inK IntKind.i64 (s1.1.2.2.1 + (1 : Int))) ∧ (next1 (((), ((orthR c (List.getD arrows (Int.toNat s1.1.2.2.1) (0 : Int)) s.1.2.1), ((s1.1.2.2.1 + (1 : Int)), ()))), (s1.2.1, ()))))))))))) (joinW (S := ((Unit × Unit) × ((List Int) × Unit))) (fun s2 => ((T.ok (T.sl (T.int IntKind.i64)) s2.2.1) → ((inK IntKind.i64 (s.1.2.1 + (1 : Int))) ∧ (next (((), ((s.1.2.1 + (1 : Int)), ())), (s2.2.1, ())))))) (fun k => (cnd s1.1.2.1 ((room (List.length s1.2.1) (List.length (s.1.2.1 :: ([] : List Int))) 8) ∧ (k (((), ()), ((s1.2.1 ++ (s.1.2.1 :: ([] : List Int))), ())))) (k (((), ()), (s1.2.1, ()))))))))))) (((), (Bool.true, ((0 : Int), ()))), (s.2.1, ()))) (K (s.2.1, ()))))))) (((), ((0 : Int), ())), (([] : List Int), ())))
theorem w_spec_l18Right (x : denL c_spec_l18Right.args) (K : (List Int) × Unit → Prop) : evF tab (lkp [(106, c_spec_l18Orthogonal)]) (cutL [(9, 8)]) Try.f76 (bodyOf Try.f76) (.s .n (.s .n (.s (.s .n (.l [(5, (.ref 800005 [])), (6, (.d (.int .i64)))] [(800005, (.sl (.fz (.int .i64))))] [1, 2] (.s .n (.s (.s .n (.s (.s .n (.l [(5, (.ref 800005 [])), (7, (.d .bool)), (8, (.d (.int .i64)))] [(800005, (.sl (.fz (.int .i64))))] [1, 2, 6] .n)) (.s .n (.j [(5, (.ref 800005 []))] [(800005, (.sl (.fz (.int .i64))))] [1, 2, 6] .n)))) .n)))) .n))) c_spec_l18Right x K = W_spec_l18Right x.1 x.2.1 K := by kernel_rfl
theorem k_spec_l18Right : okC Try.f76.ntmps (cutL [(9, 8)]) (bodyOf Try.f76) = true := by kernel_rfl
theorem m_spec_l18Right (c : CategoryD) (arrows : List Int) (hok : allP (okL c_spec_l18Right.args (c, arrows, ()))) (hpre : allP (c_spec_l18Right.pre (c, arrows, ()))) : W_spec_l18Right c arrows (fun r => r = c_spec_l18Right.res (c, arrows, ())) := by
  simp only [c_spec_l18Right, okL, T.oks, T.ok, ap, allP, true_and, and_true, implies_true] at hok hpre
  try dsimp only [T.den] at hok
  try dsimp only [T.den] at hpre
  unfold W_spec_l18Right
  obtain ⟨S, hw⟩ := hpre
  rw [within_iff] at hw
  have hmm := S.m
  have hal : arrows.length ≤ 140737488355328 := by simp only [nb_eq] at hok; omega
  clear hok
  refine loop_sel c.2.1.length (fun i => arrows.all fun q => orthR c q i) ?_ ?_
  · intro i out next i0 i1 hn hol _ _
    refine cnd_d (fun _ => ?_) (fun h => absurd i1 h)
    refine loop_of (fun (s1 : ((Unit × (Bool × (Int × Unit))) × ((List Int) × Unit))) => s1.2.1 = out ∧ 0 ≤ s1.1.2.2.1 ∧ s1.1.2.2.1 ≤ arrows.length ∧ ((s1.1.2.1 = false ∧ (arrows.all fun q => orthR c q i) = false) ∨ (s1.1.2.1 = true ∧ ((arrows.take s1.1.2.2.1.toNat).all fun q => orthR c q i) = true))) (fun (s1 : ((Unit × (Bool × (Int × Unit))) × ((List Int) × Unit))) => (arrows.length - s1.1.2.2.1).toNat) ?_ ⟨rfl, by simp, by simp, .inr ⟨rfl, by simp⟩⟩
    rintro ⟨⟨_, b, j, _⟩, l, _⟩ next2 ⟨hl, j0, j1, hP⟩ hn2 _ _
    try dsimp only at hl j0 j1 hP hn2 ⊢
    subst hl
    refine cnd_of (fun he => ?_) (fun he => ?_)
    · simp only [Bool.and_eq_true, decide_eq_true_eq] at he
      obtain ⟨hb, hj⟩ := he
      obtain ⟨q0, q1⟩ := hw j j0 hj
      have hP2 : ((arrows.take j.toNat).all fun q => orthR c q i) = true := by
        rcases hP with h | h
        · rw [hb] at h; cases h.1
        · exact h.2
      have hat := @all_take Int (fun q => orthR c q i) arrows 0 j j0 hj
      rw [hP2, Bool.true_and] at hat
      refine ⟨j0, hj, S, q0, q1, i0, by omega, by rw [inK64]; (try dsimp only); omega, hn2 _ ⟨rfl, (by first | omega | (dsimp only; omega)), (by first | omega | (dsimp only; omega)), ?_⟩ (by first | omega | (dsimp only; omega))⟩
      try dsimp only
      cases hv : orthR c (arrows.getD j.toNat 0) i with
      | false => exact .inl ⟨rfl, by rw [List.all_eq_false]; exact ⟨_, getD_mem arrows 0 j0 hj, by rw [hv]; simp⟩⟩
      | true => exact .inr ⟨rfl, by rw [hat]; exact hv⟩
    · have hqb : (arrows.all fun q => orthR c q i) = b := by
        rcases hP with ⟨h1, h2⟩ | ⟨h1, h2⟩
        · rw [h1, h2]
        · rw [h1, Bool.true_and, decide_eq_false_iff_not] at he
          rw [take_n _ (by omega)] at h2
          rw [h2, h1]
      refine join_add _ (fun s hs _ => ⟨by rw [inK64]; (try dsimp only); omega, hn _ hs⟩) (fun k hk => cnd_of (fun hb => ⟨room_of (by simp only [List.length_cons, List.length_nil]; omega), hk _ (by rw [if_pos (hqb.trans hb)])⟩) (fun hb => hk _ (by rw [hqb, hb]; rfl)))
  · intro next _ _
    exact cnd_d (fun h => absurd h (by dsimp only; omega)) (fun _ => rfl)
theorem ct_spec_l18Right : CtOk Try.prog 76 c_spec_l18Right :=
  ct_by (Φ := lkp [(106, c_spec_l18Orthogonal)]) (good_cons ct_spec_l18Orthogonal good_nil) tab_ok (by kernel_rfl) (fn := Try.f76) (c := bodyOf Try.f76) (by kernel_rfl) (by kernel_rfl) (by kernel_rfl) c_spec_l18Right rfl (.s .n (.s .n (.s (.s .n (.l [(5, (.ref 800005 [])), (6, (.d (.int .i64)))] [(800005, (.sl (.fz (.int .i64))))] [1, 2] (.s .n (.s (.s .n (.s (.s .n (.l [(5, (.ref 800005 [])), (7, (.d .bool)), (8, (.d (.int .i64)))] [(800005, (.sl (.fz (.int .i64))))] [1, 2, 6] .n)) (.s .n (.j [(5, (.ref 800005 []))] [(800005, (.sl (.fz (.int .i64))))] [1, 2, 6] .n)))) .n)))) .n))) (cutL [(9, 8)]) (by kernel_rfl) (by kernel_rfl) k_spec_l18Right (by decide) (fun x K => W_spec_l18Right x.1 x.2.1 K) w_spec_l18Right (fun x h1 h2 => m_spec_l18Right x.1 x.2.1 h1 h2)
def c_spec_l18System : Ct := ⟨[CategoryT, (.sl (.int .i64)), (.sl (.int .i64))], [true, false, false], fun x => [ShapeP x.1, withinR x.2.1 x.1.2.1.length = true, withinR x.2.2.1 x.1.2.1.length = true, x.2.1.length ≤ 40, x.2.2.1.length ≤ 40], [(false, (.fz .bool))], fun x => (sysR x.1 x.2.1 x.2.2.1, ()), false, none⟩
def W_spec_l18System (c : CategoryD) (e : List Int) (m : List Int) (K : Bool × Unit → Prop) : Prop := ((ShapeP c) ∧ (((withinR e (((List.length c.2.1) : Nat) : Int)) = Bool.true) ∧ ((((!(eqR (T.sl (T.int IntKind.i64)) (rightR c e) m)) = Bool.false) → (((withinR m (((List.length c.2.1) : Nat) : Int)) = Bool.true) ∧ (ShapeP c))) ∧ (cnd ((!(eqR (T.sl (T.int IntKind.i64)) (rightR c e) m)) || (!(eqR (T.sl (T.int IntKind.i64)) (leftR c m) e))) (K (Bool.false, ())) (loopW (S := ((Int × Unit) × Unit)) (fun s => (fun next => ((inK IntKind.i64 s.1.1) → (cnd (decide (s.1.1 < (((List.length c.2.1) : Nat) : Int))) ((ShapeP c) ∧ (((withinR e (((List.length c.2.1) : Nat) : Int)) = Bool.true) ∧ (((withinR m (((List.length c.2.1) : Nat) : Int)) = Bool.true) ∧ (((0 : Int) ≤ s.1.1) ∧ ((s.1.1 < (((List.length c.2.1) : Nat) : Int)) ∧ (((List.length e) ≤ 40) ∧ (((List.length m) ≤ 40) ∧ (cnd ((((List.length (facLR c e m s.1.1)) : Nat) : Int) == (0 : Int)) (K (Bool.false, ())) ((inK IntKind.i64 (s.1.1 + (1 : Int))) ∧ (next (((s.1.1 + (1 : Int)), ()), ()))))))))))) (K (Bool.true, ())))))) (((0 : Int), ()), ()))))))
theorem w_spec_l18System (x : denL c_spec_l18System.args) (K : Bool × Unit → Prop) : evF tab (lkp [(108, c_spec_l01Same), (109, c_spec_l18Factor), (72, c_spec_l18Left), (76, c_spec_l18Right)]) (cutL []) Try.f83 (bodyOf Try.f83) (.s .n (.s .n (.s (.s .n (.l [(7, (.d (.int .i64)))] [] [1, 2, 3] .n)) .n))) c_spec_l18System x K = W_spec_l18System x.1 x.2.1 x.2.2.1 K := by kernel_rfl
theorem k_spec_l18System : okC Try.f83.ntmps (cutL []) (bodyOf Try.f83) = true := by kernel_rfl
theorem m_spec_l18System (c : CategoryD) (e : List Int) (m : List Int) (hok : allP (okL c_spec_l18System.args (c, e, m, ()))) (hpre : allP (c_spec_l18System.pre (c, e, m, ()))) : W_spec_l18System c e m (fun r => r = c_spec_l18System.res (c, e, m, ())) := by
  simp only [c_spec_l18System, okL, T.oks, T.ok, ap, allP, true_and, and_true, implies_true] at hok hpre
  try dsimp only [T.den] at hok
  try dsimp only [T.den] at hpre
  unfold W_spec_l18System
  obtain ⟨S, hwe, hwm, hel, hml⟩ := hpre
  have hmm := S.m
  clear hok
  refine ⟨S, hwe, fun _ => ⟨hwm, S⟩, cnd_of (fun h => ?_) (fun h => ?_)⟩
  · simp only [c_spec_l18System, sysR]
    rw [(by decide : ∀ p q : Bool, (!p || !q) = true → (p && q) = false) _ _ h, Bool.false_and]
  have hpq := (by decide : ∀ p q : Bool, (!p || !q) = false → (p && q) = true) _ _ h
  have hres : c_spec_l18System.res (c, e, m, ()) = (factR c e m, ()) := by simp only [c_spec_l18System, sysR]; rw [hpq, Bool.true_and]
  rw [hres]
  unfold factR
  refine loop_allB c.2.1.length (facR c e m) ?_ ?_
  · intro i next i0 i1 hbad hn _
    have hf := @fac_iff c e m i S hwe hwm i0 i1
    refine cnd_d (fun _ => ⟨S, hwe, hwm, i0, i1, hel, hml, cnd_of (fun h1 => ?_) (fun h1 => ⟨by rw [inK64]; (try dsimp only); omega, hn ?_⟩)⟩) (fun h => absurd i1 h)
    · rw [beq_iff_eq] at h1
      try dsimp only at h1
      rw [hbad ?_]
      cases hb : facR c e m i with
      | false => rfl
      | true => have := hf.1 hb; omega
    · rw [beq_eq_false_iff_ne] at h1
      try dsimp only at h1
      exact hf.2 (by omega)
  · intro next hP _
    exact cnd_d (fun h => absurd h (by dsimp only; omega)) (fun _ => by rw [hP])
theorem ct_spec_l18System : CtOk Try.prog 83 c_spec_l18System :=
  ct_by (Φ := lkp [(108, c_spec_l01Same), (109, c_spec_l18Factor), (72, c_spec_l18Left), (76, c_spec_l18Right)]) (good_cons ct_spec_l01Same (good_cons ct_spec_l18Factor (good_cons ct_spec_l18Left (good_cons ct_spec_l18Right good_nil)))) tab_ok (by kernel_rfl) (fn := Try.f83) (c := bodyOf Try.f83) (by kernel_rfl) (by kernel_rfl) (by kernel_rfl) c_spec_l18System rfl (.s .n (.s .n (.s (.s .n (.l [(7, (.d (.int .i64)))] [] [1, 2, 3] .n)) .n))) (cutL []) (by kernel_rfl) (by kernel_rfl) k_spec_l18System (by decide) (fun x K => W_spec_l18System x.1 x.2.1 x.2.2.1 K) w_spec_l18System (fun x h1 h2 => m_spec_l18System x.1 x.2.1 x.2.2.1 h1 h2)
def c_spec_IsFactorizationSystem : Ct := ⟨[CategoryT, (.sl (.int .i64)), (.sl (.int .i64))], [true, false, false], fun x => [], [(false, (.fz .bool)), (false, (.fz (.int .i64)))], fun x => (isSysR x.1 x.2.1 x.2.2.1, clCodeR x.1 [x.2.1, x.2.2.1], ()), false, none⟩
def W_spec_IsFactorizationSystem (c : CategoryD) (e : List Int) (m : List Int) (K : Bool × Int × Unit → Prop) : Prop := (cnd ((clCodeR c (e :: (m :: ([] : List (List Int))))) != (0 : Int)) (K (Bool.false, ((clCodeR c (e :: (m :: ([] : List (List Int))))), ()))) ((ShapeP c) ∧ (((withinR e (((List.length c.2.1) : Nat) : Int)) = Bool.true) ∧ (((withinR m (((List.length c.2.1) : Nat) : Int)) = Bool.true) ∧ (((List.length e) ≤ 40) ∧ (((List.length m) ≤ 40) ∧ (K ((sysR c e m), ((0 : Int), ())))))))))
theorem w_spec_IsFactorizationSystem (x : denL c_spec_IsFactorizationSystem.args) (K : Bool × Int × Unit → Prop) : evF tab (lkp [(71, c_spec_l18Code), (83, c_spec_l18System)]) (cutL []) Try.f39 (bodyOf Try.f39) .n c_spec_IsFactorizationSystem x K = W_spec_IsFactorizationSystem x.1 x.2.1 x.2.2.1 K := by kernel_rfl
theorem k_spec_IsFactorizationSystem : okC Try.f39.ntmps (cutL []) (bodyOf Try.f39) = true := by kernel_rfl
theorem m_spec_IsFactorizationSystem (c : CategoryD) (e : List Int) (m : List Int) (hok : allP (okL c_spec_IsFactorizationSystem.args (c, e, m, ()))) (hpre : allP (c_spec_IsFactorizationSystem.pre (c, e, m, ()))) : W_spec_IsFactorizationSystem c e m (fun r => r = c_spec_IsFactorizationSystem.res (c, e, m, ())) := by
  simp only [c_spec_IsFactorizationSystem, okL, T.oks, T.ok, ap, allP, true_and, and_true, implies_true] at hok hpre
  try dsimp only [T.den] at hok
  try dsimp only [T.den] at hpre
  unfold W_spec_IsFactorizationSystem
  refine cnd_of (fun hc => ?_) (fun hc => ?_)
  · simp only [c_spec_IsFactorizationSystem, isSysR]; rw [decide_eq_false (by simpa using hc)]; rfl
  have hz : clCodeR c [e, m] = 0 := by simpa using hc
  obtain ⟨S, he, hm⟩ := cl_two hz
  have h1 := rises_len he.1 he.2
  have h2 := rises_len hm.1 hm.2
  have hmm := S.m
  refine ⟨S, he.1, hm.1, by omega, by omega, ?_⟩
  simp only [c_spec_IsFactorizationSystem, isSysR, hz]; rfl
theorem ct_spec_IsFactorizationSystem : CtOk Try.prog 39 c_spec_IsFactorizationSystem :=
  ct_by (Φ := lkp [(71, c_spec_l18Code), (83, c_spec_l18System)]) (good_cons ct_spec_l18Code (good_cons ct_spec_l18System good_nil)) tab_ok (by kernel_rfl) (fn := Try.f39) (c := bodyOf Try.f39) (by kernel_rfl) (by kernel_rfl) (by kernel_rfl) c_spec_IsFactorizationSystem rfl .n (cutL []) (by kernel_rfl) (by kernel_rfl) k_spec_IsFactorizationSystem (by decide) (fun x K => W_spec_IsFactorizationSystem x.1 x.2.1 x.2.2.1 K) w_spec_IsFactorizationSystem (fun x h1 h2 => m_spec_IsFactorizationSystem x.1 x.2.1 x.2.2.1 h1 h2)
def c_laws_FnExactIsFactorizationSystem : Ct := ⟨[CategoryT, (.sl (.int .i64)), (.sl (.int .i64))], [true, false, false], fun x => [], [(false, (.fz .bool))], fun x => (true, ()), false, none⟩
def W_laws_FnExactIsFactorizationSystem (aC : CategoryD) (aE : List Int) (aM : List Int) (K : Bool × Unit → Prop) : Prop := (cnd (decide ((1048576 : Int) < (((List.length aE) : Nat) : Int))) (K (Bool.true, ())) (cnd (decide ((1048576 : Int) < (((List.length aM) : Nat) : Int))) (K (Bool.true, ())) (((-(4611404543450677248 : Int)) ≤ (1048576 : Int)) ∧ (cnd (decide ((szR (wR CategoryT aC) (1048576 : Int)) < (0 : Int))) (K (Bool.true, ())) (((wR CategoryT aC) ≤ 1099511627776) ∧ (((wR (T.sl (T.int IntKind.i64)) aE) ≤ 1099511627776) ∧ (((wR (T.sl (T.int IntKind.i64)) aM) ≤ 1099511627776) ∧ (((wR CategoryT aC) ≤ 1099511627776) ∧ (((wR (T.sl (T.int IntKind.i64)) aE) ≤ 1099511627776) ∧ (((wR (T.sl (T.int IntKind.i64)) aM) ≤ 1099511627776) ∧ (cnd (((isSysR aC aE aM) != (isSysR aC aE aM)) || ((clCodeR aC (aE :: (aM :: ([] : List (List Int))))) != (clCodeR aC (aE :: (aM :: ([] : List (List Int))))))) (K (Bool.false, ())) (((wR CategoryT aC) ≤ 1099511627776) ∧ (cnd (!(eqR CategoryT aC aC)) (K (Bool.false, ())) (((wR (T.sl (T.int IntKind.i64)) aE) ≤ 1099511627776) ∧ (cnd (!(eqR (T.sl (T.int IntKind.i64)) aE aE)) (K (Bool.false, ())) (((wR (T.sl (T.int IntKind.i64)) aM) ≤ 1099511627776) ∧ (cnd (!(eqR (T.sl (T.int IntKind.i64)) aM aM)) (K (Bool.false, ())) (K (Bool.true, ())))))))))))))))))))
theorem w_laws_FnExactIsFactorizationSystem (x : denL c_laws_FnExactIsFactorizationSystem.args) (K : Bool × Unit → Prop) : evF tab (lkp [(40, c_impl_IsFactorizationSystem), (19, c_laws_eqCategory), (18, c_laws_eqInt64S), (13, c_laws_szCategory), (15, c_laws_toCategory), (16, c_laws_toInt64S), (39, c_spec_IsFactorizationSystem)]) (cutL [(16, 5)]) Try.f9 (bodyOf Try.f9) .n c_laws_FnExactIsFactorizationSystem x K = W_laws_FnExactIsFactorizationSystem x.1 x.2.1 x.2.2.1 K := by kernel_rfl
theorem k_laws_FnExactIsFactorizationSystem : okC Try.f9.ntmps (cutL [(16, 5)]) (bodyOf Try.f9) = true := by kernel_rfl
theorem m_laws_FnExactIsFactorizationSystem (aC : CategoryD) (aE : List Int) (aM : List Int) (hok : allP (okL c_laws_FnExactIsFactorizationSystem.args (aC, aE, aM, ()))) (hpre : allP (c_laws_FnExactIsFactorizationSystem.pre (aC, aE, aM, ()))) : W_laws_FnExactIsFactorizationSystem aC aE aM (fun r => r = c_laws_FnExactIsFactorizationSystem.res (aC, aE, aM, ())) := by
  simp only [c_laws_FnExactIsFactorizationSystem, okL, T.oks, T.ok, ap, allP, true_and, and_true, implies_true] at hok hpre
  try dsimp only [T.den] at hok
  try dsimp only [T.den] at hpre
  unfold W_laws_FnExactIsFactorizationSystem
  rw [wR_ints, wR_ints]
  simp only [eqR_self, szR_neg]
  generalize wR CategoryT aC = n1 at *
  clear hok
  repeat' (first | rfl | (refine cnd_d (fun _ => rfl) (fun h => ?_)) | (refine cnd_of (fun h => absurd h (by first | (simp; done) | (simp; omega))) (fun _ => ?_)) | (refine ⟨by omega, ?_⟩))
theorem ct_laws_FnExactIsFactorizationSystem : CtOk Try.prog 9 c_laws_FnExactIsFactorizationSystem :=
  ct_by (Φ := lkp [(40, c_impl_IsFactorizationSystem), (19, c_laws_eqCategory), (18, c_laws_eqInt64S), (13, c_laws_szCategory), (15, c_laws_toCategory), (16, c_laws_toInt64S), (39, c_spec_IsFactorizationSystem)]) (good_cons ct_impl_IsFactorizationSystem (good_cons ct_laws_eqCategory (good_cons ct_laws_eqInt64S (good_cons ct_laws_szCategory (good_cons ct_laws_toCategory (good_cons ct_laws_toInt64S (good_cons ct_spec_IsFactorizationSystem good_nil))))))) tab_ok (by kernel_rfl) (fn := Try.f9) (c := bodyOf Try.f9) (by kernel_rfl) (by kernel_rfl) (by kernel_rfl) c_laws_FnExactIsFactorizationSystem rfl .n (cutL [(16, 5)]) (by kernel_rfl) (by kernel_rfl) k_laws_FnExactIsFactorizationSystem (by decide) (fun x K => W_laws_FnExactIsFactorizationSystem x.1 x.2.1 x.2.2.1 K) w_laws_FnExactIsFactorizationSystem (fun x h1 h2 => m_laws_FnExactIsFactorizationSystem x.1 x.2.1 x.2.2.1 h1 h2)
end Go.Bm
