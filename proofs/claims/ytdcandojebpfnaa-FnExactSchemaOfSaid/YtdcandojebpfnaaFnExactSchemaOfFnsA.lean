/- What the functions that FnExactSchemaOf reaches give: for each its contract, what it asks, and the proof. No condition. -/
import Derived.Test.YtdcandojebpfnaaTab
namespace Go.Bm
open Go.Proofs
set_option maxRecDepth 100000
set_option maxHeartbeats 1000000
set_option linter.unusedVariables false
set_option linter.unusedSimpArgs false
def c_impl_Category_arrows : Ct := ⟨[(.pt CategoryT)], [false], fun x => [], [(false, (.fz (.int .i64)))], fun x => ((x.1.2.1.length : Int), ()), false, none⟩
def W_impl_Category_arrows (c : CategoryD) (K : Int × Unit -> Prop) : Prop := (K (((c.2.1.length : Nat) : Int), ()))
theorem w_impl_Category_arrows (x : denL c_impl_Category_arrows.args) (K : Int × Unit -> Prop) : evF tab (lkp []) (cutL []) Try.f40 (bodyOf Try.f40) .n c_impl_Category_arrows x K = W_impl_Category_arrows x.1 K := by kernel_rfl
theorem k_impl_Category_arrows : okC Try.f40.ntmps (cutL []) (bodyOf Try.f40) = true := by kernel_rfl
theorem m_impl_Category_arrows (c : CategoryD) (hok : allP (okL c_impl_Category_arrows.args (c, ()))) (hpre : allP (c_impl_Category_arrows.pre (c, ()))) : W_impl_Category_arrows c (fun r => r = c_impl_Category_arrows.res (c, ())) := by
 simp only [c_impl_Category_arrows, okL, T.oks, T.ok, ap, allP, true_and, and_true, implies_true] at hok hpre
 try dsimp only [T.den] at hok
 try dsimp only [T.den] at hpre
 unfold W_impl_Category_arrows
 rfl
theorem ct_impl_Category_arrows : CtOk Try.prog 40 c_impl_Category_arrows :=
 ct_by (Φ := lkp []) good_nil tab_ok (by kernel_rfl) (fn := Try.f40) (c := bodyOf Try.f40) (by kernel_rfl) (by kernel_rfl) (by kernel_rfl) c_impl_Category_arrows rfl .n (cutL []) (by kernel_rfl) (by kernel_rfl) k_impl_Category_arrows (by decide) (fun x K => W_impl_Category_arrows x.1 K) w_impl_Category_arrows (fun x h1 h2 => m_impl_Category_arrows x.1 h1 h2)
def compR (c : CategoryD) (f g : Int) : Int := (c.2.2.2.2.getD f.toNat []).getD g.toNat 0
def c_impl_Category_then : Ct := ⟨[(.pt CategoryT), (.int .i64), (.int .i64)], [false, false, false], fun x => [0 <= x.2.1, x.2.1 < x.1.2.2.2.2.length, 0 <= x.2.2.1, x.2.2.1 < (x.1.2.2.2.2.getD x.2.1.toNat []).length], [(false, (.fz (.int .i64)))], fun x => (compR x.1 x.2.1 x.2.2.1, ()), false, none⟩
def W_impl_Category_then (c : CategoryD) (f : Int) (g : Int) (K : Int × Unit -> Prop) : Prop := ((0 <= f) /\ ((f < ((c.2.2.2.2.length : Nat) : Int)) /\ ((0 <= g) /\ ((g < (((List.length (List.getD c.2.2.2.2 f.toNat [])) : Nat) : Int)) /\ (K ((List.getD (List.getD c.2.2.2.2 f.toNat []) g.toNat 0), ()))))))
theorem w_impl_Category_then (x : denL c_impl_Category_then.args) (K : Int × Unit -> Prop) : evF tab (lkp []) (cutL []) Try.f67 (bodyOf Try.f67) .n c_impl_Category_then x K = W_impl_Category_then x.1 x.2.1 x.2.2.1 K := by kernel_rfl
theorem k_impl_Category_then : okC Try.f67.ntmps (cutL []) (bodyOf Try.f67) = true := by kernel_rfl
theorem m_impl_Category_then (c : CategoryD) (f : Int) (g : Int) (hok : allP (okL c_impl_Category_then.args (c, f, g, ()))) (hpre : allP (c_impl_Category_then.pre (c, f, g, ()))) : W_impl_Category_then c f g (fun r => r = c_impl_Category_then.res (c, f, g, ())) := by
 simp only [c_impl_Category_then, okL, T.oks, T.ok, ap, allP, true_and, and_true, implies_true] at hok hpre
 try dsimp only [T.den] at hok
 try dsimp only [T.den] at hpre
 unfold W_impl_Category_then
 exact ⟨hpre.1, hpre.2.1, hpre.2.2.1, hpre.2.2.2, rfl⟩
theorem ct_impl_Category_then : CtOk Try.prog 67 c_impl_Category_then :=
 ct_by (Φ := lkp []) good_nil tab_ok (by kernel_rfl) (fn := Try.f67) (c := bodyOf Try.f67) (by kernel_rfl) (by kernel_rfl) (by kernel_rfl) c_impl_Category_then rfl .n (cutL []) (by kernel_rfl) (by kernel_rfl) k_impl_Category_then (by decide) (fun x K => W_impl_Category_then x.1 x.2.1 x.2.2.1 K) w_impl_Category_then (fun x h1 h2 => m_impl_Category_then x.1 x.2.1 x.2.2.1 h1 h2)
def c_impl_Category_ends : Ct := ⟨[(.pt CategoryT), (.int .i64)], [false, false], fun x => [0 <= x.2.1, x.2.1 < x.1.2.1.length, x.2.1 < x.1.2.2.1.length], [(true, (.fz endsT))], fun x => (((x.1.2.1.getD x.2.1.toNat 0, x.1.2.2.1.getD x.2.1.toNat 0) : Int × Int), ()), false, none⟩
def W_impl_Category_ends (c : CategoryD) (f : Int) (K : endsD × Unit -> Prop) : Prop := ((0 <= f) /\ ((f < ((c.2.1.length : Nat) : Int)) /\ ((0 <= f) /\ ((f < ((c.2.2.1.length : Nat) : Int)) /\ (K (((List.getD c.2.1 f.toNat 0), (List.getD c.2.2.1 f.toNat 0)), ()))))))
theorem w_impl_Category_ends (x : denL c_impl_Category_ends.args) (K : endsD × Unit -> Prop) : evF tab (lkp []) (cutL [(1, 15)]) Try.f99 (bodyOf Try.f99) .n c_impl_Category_ends x K = W_impl_Category_ends x.1 x.2.1 K := by kernel_rfl
theorem k_impl_Category_ends : okC Try.f99.ntmps (cutL [(1, 15)]) (bodyOf Try.f99) = true := by kernel_rfl
theorem m_impl_Category_ends (c : CategoryD) (f : Int) (hok : allP (okL c_impl_Category_ends.args (c, f, ()))) (hpre : allP (c_impl_Category_ends.pre (c, f, ()))) : W_impl_Category_ends c f (fun r => r = c_impl_Category_ends.res (c, f, ())) := by
 simp only [c_impl_Category_ends, okL, T.oks, T.ok, ap, allP, true_and, and_true, implies_true] at hok hpre
 try dsimp only [T.den] at hok
 try dsimp only [T.den] at hpre
 unfold W_impl_Category_ends
 exact ⟨hpre.1, hpre.2.1, hpre.1, hpre.2.2, rfl⟩
theorem ct_impl_Category_ends : CtOk Try.prog 99 c_impl_Category_ends :=
 ct_by (Φ := lkp []) good_nil tab_ok (by kernel_rfl) (fn := Try.f99) (c := bodyOf Try.f99) (by kernel_rfl) (by kernel_rfl) (by kernel_rfl) c_impl_Category_ends rfl .n (cutL [(1, 15)]) (by kernel_rfl) (by kernel_rfl) k_impl_Category_ends (by decide) (fun x K => W_impl_Category_ends x.1 x.2.1 K) w_impl_Category_ends (fun x h1 h2 => m_impl_Category_ends x.1 x.2.1 h1 h2)
def c_impl_inRange : Ct := ⟨[(.int .i64), (.int .i64), (.int .i64)], [false, false, false], fun x => [], [(false, (.fz .bool))], fun x => (inR x.1 x.2.1 x.2.2.1, ()), false, none⟩
def W_impl_inRange (n : Int) (low : Int) (high : Int) (K : Bool × Unit -> Prop) : Prop := (K (((decide (low <= n)) && (decide (n <= high))), ()))
theorem w_impl_inRange (x : denL c_impl_inRange.args) (K : Bool × Unit -> Prop) : evF tab (lkp []) (cutL []) Try.f81 (bodyOf Try.f81) .n c_impl_inRange x K = W_impl_inRange x.1 x.2.1 x.2.2.1 K := by kernel_rfl
theorem k_impl_inRange : okC Try.f81.ntmps (cutL []) (bodyOf Try.f81) = true := by kernel_rfl
theorem m_impl_inRange (n : Int) (low : Int) (high : Int) (hok : allP (okL c_impl_inRange.args (n, low, high, ()))) (hpre : allP (c_impl_inRange.pre (n, low, high, ()))) : W_impl_inRange n low high (fun r => r = c_impl_inRange.res (n, low, high, ())) := by
 simp only [c_impl_inRange, okL, T.oks, T.ok, ap, allP, true_and, and_true, implies_true] at hok hpre
 try dsimp only [T.den] at hok
 try dsimp only [T.den] at hpre
 unfold W_impl_inRange
 grind [cnd, nb_eq, inK64, c_impl_inRange, inR]
theorem ct_impl_inRange : CtOk Try.prog 81 c_impl_inRange :=
 ct_by (Φ := lkp []) good_nil tab_ok (by kernel_rfl) (fn := Try.f81) (c := bodyOf Try.f81) (by kernel_rfl) (by kernel_rfl) (by kernel_rfl) c_impl_inRange rfl .n (cutL []) (by kernel_rfl) (by kernel_rfl) k_impl_inRange (by decide) (fun x K => W_impl_inRange x.1 x.2.1 x.2.2.1 K) w_impl_inRange (fun x h1 h2 => m_impl_inRange x.1 x.2.1 x.2.2.1 h1 h2)
def c_impl_within : Ct := ⟨[(.sl (.int .i64)), (.int .i64)], [false, false], fun x => [inK .i64 (x.2.1 - 1)], [(false, (.fz .bool))], fun x => (withinR x.1 x.2.1, ()), false, none⟩
def an_impl_within : Ann := (.s .n (.s (.s .n (.l [(9, (.d (.int .i64)))] [] [1, 7, 8] .n)) .n))
def W_impl_within (list : List Int) (n : Int) (K : Bool × Unit -> Prop) : Prop := (loopW (S := ((Int × Unit) × Unit)) (fun s => (fun next => ((inK .i64 s.1.1) -> (cnd (decide (s.1.1 < ((list.length : Nat) : Int))) ((0 <= s.1.1) /\ ((s.1.1 < ((list.length : Nat) : Int)) /\ ((inK .i64 (n - 1)) /\ (cnd (!(inR (List.getD list s.1.1.toNat 0) 0 (n - 1))) (K (false, ())) ((inK .i64 (s.1.1 + 1)) /\ (next (((s.1.1 + 1), ()), ()))))))) (K (true, ())))))) ((0, ()), ()))
theorem w_impl_within (x : denL c_impl_within.args) (K : Bool × Unit -> Prop) : evF tab (lkp [(81, c_impl_inRange)]) (cutL []) Try.f39 (bodyOf Try.f39) an_impl_within c_impl_within x K = W_impl_within x.1 x.2.1 K := by kernel_rfl
theorem k_impl_within : okC Try.f39.ntmps (cutL []) (bodyOf Try.f39) = true := by kernel_rfl
theorem m_impl_within (list : List Int) (n : Int) (hok : allP (okL c_impl_within.args (list, n, ()))) (hpre : allP (c_impl_within.pre (list, n, ()))) : W_impl_within list n (fun r => r = c_impl_within.res (list, n, ())) := by
 simp only [c_impl_within, okL, T.oks, T.ok, ap, allP, true_and, and_true, implies_true] at hok hpre
 try dsimp only [T.den] at hok
 try dsimp only [T.den] at hpre
 unfold W_impl_within
 refine loop_of (fun (s : ((Int × Unit) × Unit)) => 0 <= s.1.1 /\ s.1.1 <= list.length /\ withinR list n = withinR (list.drop s.1.1.toNat) n) (fun (s : ((Int × Unit) × Unit)) => (list.length - s.1.1).toNat) ?_ (by simp)
 rintro ⟨⟨i, _⟩, _⟩ next ⟨h0, h1, h2⟩ hn hin
 simp only at h0 h1 h2 hn ⊢
 refine cnd_d (fun hc => ?_) (fun hc => ?_)
 ·rw [drop_c list 0 h0 hc] at h2
  simp only [withinR, List.all_cons] at h2
  grind [cnd, nb_eq, inK64, c_impl_within, withinR]
 ·rw [drop_n list (by omega)] at h2
  grind [cnd, nb_eq, inK64, c_impl_within, withinR]
theorem ct_impl_within : CtOk Try.prog 39 c_impl_within :=
 ct_by (Φ := lkp [(81, c_impl_inRange)]) (good_cons ct_impl_inRange good_nil) tab_ok (by kernel_rfl) (fn := Try.f39) (c := bodyOf Try.f39) (by kernel_rfl) (by kernel_rfl) (by kernel_rfl) c_impl_within rfl an_impl_within (cutL []) (by kernel_rfl) (by kernel_rfl) k_impl_within (by decide) (fun x K => W_impl_within x.1 x.2.1 K) w_impl_within (fun x h1 h2 => m_impl_within x.1 x.2.1 h1 h2)
def cellQ (c : CategoryD) (f g v : Int) : Bool :=
 if c.2.2.1.getD f.toNat 0 = c.2.1.getD g.toNat 0 then decide (0 <= v /\ v < c.2.1.length /\ c.2.1.getD v.toNat 0 = c.2.1.getD f.toNat 0 /\ c.2.2.1.getD v.toNat 0 = c.2.2.1.getD g.toNat 0)
 else decide (v = -1)
def cellR (c : CategoryD) (f g : Int) : Bool := cellQ c f g (compR c f g)
structure ShapeP (c : CategoryD) : Prop where
 ob : 0 <= c.1 /\ c.1 <= 8
 m : c.2.1.length <= 40
 lt : c.2.2.1.length = c.2.1.length
 fr : withinR c.2.1 c.1 = true
 to : withinR c.2.2.1 c.1 = true
 li : (c.2.2.2.1.length : Int) = c.1
 ids : withinR c.2.2.2.1 c.2.1.length = true
 lc : c.2.2.2.2.length = c.2.1.length
 idt : ∀ x : Int, 0 <= x -> x < c.1 -> c.2.1.getD (c.2.2.2.1.getD x.toNat 0).toNat 0 = x /\ c.2.2.1.getD (c.2.2.2.1.getD x.toNat 0).toNat 0 = x
 row : ∀ f : Int, 0 <= f -> f < c.2.1.length -> (c.2.2.2.2.getD f.toNat []).length = c.2.1.length
 cell : ∀ f g : Int, 0 <= f -> f < c.2.1.length -> 0 <= g -> g < c.2.1.length -> cellR c f g = true
def shapeR (c : CategoryD) : Bool := inR c.1 0 8 && decide (c.2.1.length <= 40) && decide (c.2.2.1.length = c.2.1.length) && withinR c.2.1 c.1 && withinR c.2.2.1 c.1 && decide ((c.2.2.2.1.length : Int) = c.1) && withinR c.2.2.2.1 c.2.1.length &&
 decide (c.2.2.2.2.length = c.2.1.length) && allB c.1.toNat (fun x => decide (c.2.1.getD (c.2.2.2.1.getD x.toNat 0).toNat 0 = x /\ c.2.2.1.getD (c.2.2.2.1.getD x.toNat 0).toNat 0 = x)) &&
 allB c.2.1.length (fun f => decide ((c.2.2.2.2.getD f.toNat []).length = c.2.1.length)) && allB c.2.1.length (fun f => allB c.2.1.length fun g => cellR c f g)
theorem shape_iff {c : CategoryD} : shapeR c = true ↔ ShapeP c := by
 simp only [shapeR, Bool.and_eq_true, decide_eq_true_eq, inR, allB_iff]
 constructor
 ·rintro ⟨⟨⟨⟨⟨⟨⟨⟨⟨⟨h0, h1⟩, h2⟩, h3⟩, h4⟩, h5⟩, h6⟩, h7⟩, h8⟩, h9⟩, h10⟩
  exact ⟨h0, h1, h2, h3, h4, h5, h6, h7, fun x a b => h8 x a (by omega), h9, fun f g a b d e => h10 f a b g d e⟩
 ·intro h
  exact ⟨⟨⟨⟨⟨⟨⟨⟨⟨⟨h.ob, h.m⟩, h.lt⟩, h.fr⟩, h.to⟩, h.li⟩, h.ids⟩, h.lc⟩, fun x a b => h.idt x a (by have := h.ob; omega)⟩, h.row⟩, fun f a b g d e => h.cell f g a b d e⟩
theorem shape_f {c : CategoryD} (h : ¬ ShapeP c) : shapeR c = false := by
 cases hs : shapeR c with
 | false => rfl
 | true => exact absurd (shape_iff.1 hs) h
theorem shape_t {c : CategoryD} (h : ShapeP c) : shapeR c = true := shape_iff.2 h
def c_impl_Category_isShape : Ct := ⟨[(.pt CategoryT)], [false], fun x => [], [(false, (.fz .bool))], fun x => (shapeR x.1, ()), false, none⟩
def an_impl_Category_isShape : Ann := (.s .n (.s .n (.s .n (.s .n (.s (.s .n (.l [(88, (.d (.int .i64)))] [] [0, 3, 86, 87] .n)) (.s (.s .n (.l [(106, (.d (.int .i64)))] [] [0, 3, 104, 105] (.s .n (.s .n (.s (.s .n (.s .n (.s .n (.l [(117, (.d (.int .i64)))] [] [0, 3, 6, 104, 105, 106, 115, 116] (.s .n (.s .n (.s (.j [] [] [0, 3, 6, 104, 105, 106, 115, 116, 117] .n) .n))))))) .n))))) .n))))))
def ph_impl_Category_isShape : FuncId -> Option Ct := lkp [(40, c_impl_Category_arrows), (99, c_impl_Category_ends), (81, c_impl_inRange), (39, c_impl_within)]
def W_impl_Category_isShape (c : CategoryD) (K : Bool × Unit -> Prop) : Prop := ((((((!(inR c.1 0 8)) || (decide (40 < ((c.2.1.length : Nat) : Int)))) || (((c.2.2.1.length : Nat) : Int) != ((c.2.1.length : Nat) : Int))) = false) -> (inK .i64 (c.1 - 1))) /\ (((((((!(inR c.1 0 8)) || (decide (40 < ((c.2.1.length : Nat) : Int)))) || (((c.2.2.1.length : Nat) : Int) != ((c.2.1.length : Nat) : Int))) || (!(withinR c.2.1 c.1))) = false) -> (inK .i64 (c.1 - 1))) /\ (cnd (((((!(inR c.1 0 8)) || (decide (40 < ((c.2.1.length : Nat) : Int)))) || (((c.2.2.1.length : Nat) : Int) != ((c.2.1.length : Nat) : Int))) || (!(withinR c.2.1 c.1))) || (!(withinR c.2.2.1 c.1))) (K (false, ())) ((((((c.2.2.2.1.length : Nat) : Int) != c.1) = false) -> (inK .i64 (((c.2.1.length : Nat) : Int) - 1))) /\ (cnd (((((c.2.2.2.1.length : Nat) : Int) != c.1) || (!(withinR c.2.2.2.1 ((c.2.1.length : Nat) : Int)))) || (((c.2.2.2.2.length : Nat) : Int) != ((c.2.1.length : Nat) : Int))) (K (false, ())) (loopW (S := ((Int × Unit) × Unit)) (fun s => (fun next => ((inK .i64 s.1.1) -> (cnd (decide (s.1.1 < ((c.2.2.2.1.length : Nat) : Int))) ((0 <= s.1.1) /\ ((s.1.1 < ((c.2.2.2.1.length : Nat) : Int)) /\ ((0 <= (List.getD c.2.2.2.1 s.1.1.toNat 0)) /\ (((List.getD c.2.2.2.1 s.1.1.toNat 0) < ((c.2.1.length : Nat) : Int)) /\ (((List.getD c.2.2.2.1 s.1.1.toNat 0) < ((c.2.2.1.length : Nat) : Int)) /\ (cnd (!(((List.getD c.2.1 (Int.toNat (List.getD c.2.2.2.1 s.1.1.toNat 0)) 0) == s.1.1) && ((List.getD c.2.2.1 (Int.toNat (List.getD c.2.2.2.1 s.1.1.toNat 0)) 0) == s.1.1))) (K (false, ())) ((inK .i64 (s.1.1 + 1)) /\ (next (((s.1.1 + 1), ()), ()))))))))) (loopW (S := ((Int × Unit) × Unit)) (fun s1 => (fun next1 => ((inK .i64 s1.1.1) -> (cnd (decide (s1.1.1 < ((c.2.2.2.2.length : Nat) : Int))) ((0 <= s1.1.1) /\ ((s1.1.1 < ((c.2.2.2.2.length : Nat) : Int)) /\ (cnd ((((List.length (List.getD c.2.2.2.2 s1.1.1.toNat [])) : Nat) : Int) != ((c.2.1.length : Nat) : Int)) (K (false, ())) (loopW (S := ((Int × Unit) × Unit)) (fun s2 => (fun next2 => ((inK .i64 s2.1.1) -> (cnd (decide (s2.1.1 < (((List.length (List.getD c.2.2.2.2 s1.1.1.toNat [])) : Nat) : Int))) (joinW (S := (Unit × Unit)) (fun s3 => ((inK .i64 (s2.1.1 + 1)) /\ (next2 (((s2.1.1 + 1), ()), ())))) (fun k => ((0 <= s2.1.1) /\ ((s2.1.1 < (((List.length (List.getD c.2.2.2.2 s1.1.1.toNat [])) : Nat) : Int)) /\ ((0 <= s1.1.1) /\ ((s1.1.1 < ((c.2.2.1.length : Nat) : Int)) /\ ((0 <= s2.1.1) /\ ((s2.1.1 < ((c.2.1.length : Nat) : Int)) /\ (cnd ((List.getD c.2.2.1 s1.1.1.toNat 0) != (List.getD c.2.1 s2.1.1.toNat 0)) (cnd ((List.getD (List.getD c.2.2.2.2 s1.1.1.toNat []) s2.1.1.toNat 0) != (-1)) (K (false, ())) (k ((), ()))) ((inK .i64 (((c.2.1.length : Nat) : Int) - 1)) /\ ((((!(inR (List.getD (List.getD c.2.2.2.2 s1.1.1.toNat []) s2.1.1.toNat 0) 0 (((c.2.1.length : Nat) : Int) - 1))) = false) -> (((List.getD (List.getD c.2.2.2.2 s1.1.1.toNat []) s2.1.1.toNat 0) < ((c.2.1.length : Nat) : Int)) /\ (((List.getD (List.getD c.2.2.2.2 s1.1.1.toNat []) s2.1.1.toNat 0) < ((c.2.2.1.length : Nat) : Int)) /\ (0 <= (List.getD (List.getD c.2.2.2.2 s1.1.1.toNat []) s2.1.1.toNat 0))))) /\ ((((!(inR (List.getD (List.getD c.2.2.2.2 s1.1.1.toNat []) s2.1.1.toNat 0) 0 (((c.2.1.length : Nat) : Int) - 1))) = false) -> ((s1.1.1 < ((c.2.1.length : Nat) : Int)) /\ (0 <= s1.1.1))) /\ ((((!(inR (List.getD (List.getD c.2.2.2.2 s1.1.1.toNat []) s2.1.1.toNat 0) 0 (((c.2.1.length : Nat) : Int) - 1))) = false) -> ((s2.1.1 < ((c.2.2.1.length : Nat) : Int)) /\ (0 <= s2.1.1))) /\ (cnd ((!(inR (List.getD (List.getD c.2.2.2.2 s1.1.1.toNat []) s2.1.1.toNat 0) 0 (((c.2.1.length : Nat) : Int) - 1))) || (!(((List.getD c.2.1 (Int.toNat (List.getD (List.getD c.2.2.2.2 s1.1.1.toNat []) s2.1.1.toNat 0)) 0) == (List.getD c.2.1 s1.1.1.toNat 0)) && ((List.getD c.2.2.1 (Int.toNat (List.getD (List.getD c.2.2.2.2 s1.1.1.toNat []) s2.1.1.toNat 0)) 0) == (List.getD c.2.2.1 s2.1.1.toNat 0))))) (K (false, ())) (k ((), ())))))))))))))))) ((inK .i64 (s1.1.1 + 1)) /\ (next1 (((s1.1.1 + 1), ()), ()))))))) ((0, ()), ()))))) (K (true, ())))))) ((0, ()), ())))))) ((0, ()), ())))))))
theorem w_impl_Category_isShape (x : denL c_impl_Category_isShape.args) (K : Bool × Unit -> Prop) : evF tab ph_impl_Category_isShape (cutL [(2, 43), (20, 15), (4, 28), (23, 26)]) Try.f108 (bodyOf Try.f108) an_impl_Category_isShape c_impl_Category_isShape x K = W_impl_Category_isShape x.1 K := by kernel_rfl
theorem k_impl_Category_isShape : okC Try.f108.ntmps (cutL [(2, 43), (20, 15), (4, 28), (23, 26)]) (bodyOf Try.f108) = true := by kernel_rfl
theorem m_impl_Category_isShape (c : CategoryD) (hok : allP (okL c_impl_Category_isShape.args (c, ()))) (hpre : allP (c_impl_Category_isShape.pre (c, ()))) : W_impl_Category_isShape c (fun r => r = c_impl_Category_isShape.res (c, ())) := by
 simp only [c_impl_Category_isShape, okL, T.oks, T.ok, ap, allP, true_and, and_true, implies_true] at hok hpre
 try dsimp only [T.den] at hok
 try dsimp only [T.den] at hpre
 unfold W_impl_Category_isShape
 refine ⟨by grind [cnd, nb_eq, inK64, inR], by grind [cnd, nb_eq, inK64, inR], cnd_of (fun hc => ?_) (fun hc => ⟨by rw [inK64]; have := hok.2.1.1; grind [cnd, nb_eq, inK64], cnd_of (fun hd => ?_) (fun hd => ?_)⟩)⟩
 ·simp only [c_impl_Category_isShape]; rw [shape_f]; intro h; have h1 := h.ob; have h2 := h.m; have h3 := h.lt; have h4 := h.fr; have h5 := h.to; simp only [inR] at hc; grind [cnd, nb_eq, inK64]
 ·simp only [c_impl_Category_isShape]; rw [shape_f]; intro h; have h1 := h.li; have h2 := h.ids; have h3 := h.lc; grind [cnd, nb_eq, inK64]
 simp only [inR, Bool.or_eq_false_iff, Bool.not_eq_false', Bool.and_eq_true, decide_eq_true_eq, decide_eq_false_iff_not, bne_eq_false_iff_eq] at hc hd
 obtain ⟨⟨⟨⟨hob, hm⟩, hlt⟩, hfr⟩, hto⟩ := hc
 obtain ⟨⟨hli, hids⟩, hlc⟩ := hd
 have bad : ¬ ShapeP c -> (false, ()) = c_impl_Category_isShape.res (c, ()) := fun h => by simp only [c_impl_Category_isShape]; rw [shape_f h]
 refine loop_ix (n := c.2.2.2.1.length) (fun x => ∀ y : Int, 0 <= y -> y < x -> c.2.1.getD (c.2.2.2.1.getD y.toNat 0).toNat 0 = y /\ c.2.2.1.getD (c.2.2.2.1.getD y.toNat 0).toNat 0 = y) (by omega) (by intro y h0 h1; omega) ?_ ?_
 ·intro x next h0 h1 hP hn hin
  have hb := within_iff.1 hids x h0 h1
  try dsimp only
  refine cnd_d (fun _ => ⟨h0, h1, hb.1, hb.2, by omega, cnd_of (fun hx => bad fun h => ?_) (fun hx => ?_)⟩) (fun h => absurd h1 h)
  ·have := h.idt x h0 (by omega)
   rw [this.1, this.2] at hx
   simp at hx
  ·simp only [Bool.not_eq_false', Bool.and_eq_true, beq_iff_eq] at hx
   refine ⟨by rw [inK64]; (try dsimp only); omega, hn fun y y0 y1 => ?_⟩
   by_cases e : y = x
   ·rw [e]; exact hx
   ·exact hP y y0 (by omega)
 intro next hidt hin
 refine cnd_d (fun h => absurd h (by dsimp only; omega)) (fun _ => ?_)
 refine loop_ix (n := c.2.2.2.2.length) (fun f => ∀ f' : Int, 0 <= f' -> f' < f -> (c.2.2.2.2.getD f'.toNat []).length = c.2.1.length /\ ∀ g : Int, 0 <= g -> g < c.2.1.length -> cellR c f' g = true) (by omega) (by intro y h0 h1; omega) ?_ ?_
 ·intro f next h0 h1 hP hn hin
  try dsimp only
  refine cnd_d (fun _ => ⟨h0, h1, cnd_of (fun hx => bad fun h => ?_) (fun hx => ?_)⟩) (fun h => absurd h1 h)
  ·have := h.row f h0 (by omega)
   rw [this] at hx
   simp at hx
  simp only [bne_eq_false_iff_eq] at hx
  refine loop_ix (n := (c.2.2.2.2.getD f.toNat []).length) (fun g => ∀ g' : Int, 0 <= g' -> g' < g -> cellR c f g' = true) (by omega) (by intro y h0 h1; omega) ?_ ?_
  ·intro g next3 g0 g1 hP3 hn3 hin3
   try dsimp only
   refine cnd_d (fun _ => ?_) (fun h => absurd g1 h)
   refine join_of (fun _ => cellR c f g = true) (fun _ hcell => ⟨by rw [inK64]; (try dsimp only); omega, hn3 fun g' y0 y1 => ?_⟩) (fun k hk => ?_)
   ·by_cases e : g' = g
    ·rw [e]; exact hcell
    ·exact hP3 g' y0 (by omega)
   have hcell : ∀ b, cellR c f g = b -> b = false -> ¬ ShapeP c := fun b h1 h2 h => by
    have := h.cell f g h0 (by omega) g0 (by omega)
    rw [h1, h2] at this; cases this
   have hk' := hk ((), ())
   obtain ⟨v, hv⟩ : ∃ v, (c.2.2.2.2.getD f.toNat []).getD g.toNat 0 = v := ⟨_, rfl⟩
   have hR : cellR c f g = cellQ c f g v := by unfold cellR compR; rw [hv]
   rw [hR] at hk'
   rw [hR] at hcell
   rw [hv]
   clear hP3 hn3 hP hn hk hR hv hidt hok
   refine ⟨g0, g1, h0, by omega, g0, by omega, cnd_of (fun ha => cnd_of (fun hb => bad ?_) (fun hb => hk' ?_)) (fun ha => ⟨by rw [inK64]; (try dsimp only); omega, fun hv => ?_, fun _ => ⟨by omega, h0⟩, fun _ => ⟨by omega, g0⟩, cnd_of (fun hb => bad ?_) (fun hb => hk' ?_)⟩)⟩
   ·exact hcell _ rfl (by grind [cnd, nb_eq, inK64, cellQ])
   ·grind [cnd, nb_eq, inK64, cellQ]
   ·simp only [inR, Bool.not_eq_false', Bool.and_eq_true, decide_eq_true_eq] at hv; omega
   ·exact hcell _ rfl (by simp only [inR] at hb; grind [cnd, nb_eq, inK64, cellQ])
   ·simp only [inR] at hb; grind [cnd, nb_eq, inK64, cellQ]
  ·intro next3 hP3 hin3
   refine cnd_d (fun h => absurd h (by dsimp only; omega)) (fun _ => ⟨by rw [inK64]; (try dsimp only); omega, hn fun f' y0 y1 => ?_⟩)
   by_cases e : f' = f
   ·rw [e]; exact ⟨by omega, fun g g0 g1 => hP3 g g0 (by omega)⟩
   ·exact hP f' y0 (by omega)
 ·intro next2 hP2 hin2
  refine cnd_d (fun h => absurd h (by dsimp only; omega)) (fun _ => ?_)
  simp only [c_impl_Category_isShape]
  rw [shape_t ⟨hob, by omega, by omega, hfr, hto, by omega, hids, by omega, fun x a b => hidt x a (by omega), fun f a b => (hP2 f a (by omega)).1, fun f g a b d e => (hP2 f a (by omega)).2 g d e⟩]
theorem ct_impl_Category_isShape : CtOk Try.prog 108 c_impl_Category_isShape :=
 ct_by (Φ := ph_impl_Category_isShape) (good_cons ct_impl_Category_arrows (good_cons ct_impl_Category_ends (good_cons ct_impl_inRange (good_cons ct_impl_within good_nil)))) tab_ok (by kernel_rfl) (fn := Try.f108) (c := bodyOf Try.f108) (by kernel_rfl) (by kernel_rfl) (by kernel_rfl) c_impl_Category_isShape rfl an_impl_Category_isShape (cutL [(2, 43), (20, 15), (4, 28), (23, 26)]) (by kernel_rfl) (by kernel_rfl) k_impl_Category_isShape (by decide) (fun x K => W_impl_Category_isShape x.1 K) w_impl_Category_isShape (fun x h1 h2 => m_impl_Category_isShape x.1 h1 h2)
theorem ShapeP.frm {c : CategoryD} (h : ShapeP c) {f : Int} (h0 : 0 <= f) (h1 : f < c.2.1.length) : 0 <= c.2.1.getD f.toNat 0 /\ c.2.1.getD f.toNat 0 < c.1 /\ 0 <= c.2.2.1.getD f.toNat 0 /\ c.2.2.1.getD f.toNat 0 < c.1 := by
 have a := within_iff.1 h.fr f h0 h1
 have b := within_iff.1 h.to f h0 (by have := h.lt; omega)
 exact ⟨a.1, a.2, b.1, b.2⟩
theorem ShapeP.idn {c : CategoryD} (h : ShapeP c) {x : Int} (h0 : 0 <= x) (h1 : x < c.1) : 0 <= c.2.2.2.1.getD x.toNat 0 /\ c.2.2.2.1.getD x.toNat 0 < c.2.1.length /\ c.2.1.getD (c.2.2.2.1.getD x.toNat 0).toNat 0 = x /\ c.2.2.1.getD (c.2.2.2.1.getD x.toNat 0).toNat 0 = x := by
 have a := within_iff.1 h.ids x h0 (by have := h.li; omega)
 have b := h.idt x h0 h1
 exact ⟨a.1, a.2, b.1, b.2⟩
theorem ShapeP.yes {c : CategoryD} (h : ShapeP c) {f g : Int} (h0 : 0 <= f) (h1 : f < c.2.1.length) (g0 : 0 <= g) (g1 : g < c.2.1.length) (e : c.2.2.1.getD f.toNat 0 = c.2.1.getD g.toNat 0) :
  0 <= compR c f g /\ compR c f g < c.2.1.length /\ c.2.1.getD (compR c f g).toNat 0 = c.2.1.getD f.toNat 0 /\ c.2.2.1.getD (compR c f g).toNat 0 = c.2.2.1.getD g.toNat 0 := by
 have := h.cell f g h0 h1 g0 g1
 unfold cellR cellQ at this
 rw [if_pos e] at this
 simpa using this
theorem ShapeP.no {c : CategoryD} (h : ShapeP c) {f g : Int} (h0 : 0 <= f) (h1 : f < c.2.1.length) (g0 : 0 <= g) (g1 : g < c.2.1.length) (e : c.2.2.1.getD f.toNat 0 ≠ c.2.1.getD g.toNat 0) : compR c f g = -1 := by
 have := h.cell f g h0 h1 g0 g1
 unfold cellR cellQ at this
 rw [if_neg e] at this
 simpa using this
theorem ShapeP.comp {c : CategoryD} (h : ShapeP c) {f g : Int} (h0 : 0 <= f) (h1 : f < c.2.1.length) (g0 : 0 <= g) (g1 : g < c.2.1.length) : 0 <= compR c f g ↔ c.2.2.1.getD f.toNat 0 = c.2.1.getD g.toNat 0 := by
 constructor
 ·intro h2
  by_cases e : c.2.2.1.getD f.toNat 0 = c.2.1.getD g.toNat 0
  ·exact e
  ·have := h.no h0 h1 g0 g1 e; omega
 ·intro e; exact (h.yes h0 h1 g0 g1 e).1
def faultI (c : CategoryD) (f : Int) : Option (Int × Int × Int × Int) :=
 if compR c (c.2.2.2.1.getD (c.2.1.getD f.toNat 0).toNat 0) f ≠ f ∨ compR c f (c.2.2.2.1.getD (c.2.2.1.getD f.toNat 0).toNat 0) ≠ f then some (1, f, 0, 0) else none
def faultH (c : CategoryD) (f g h : Int) : Option (Int × Int × Int × Int) :=
 if c.2.2.1.getD g.toNat 0 = c.2.1.getD h.toNat 0 /\ compR c (compR c f g) h ≠ compR c f (compR c g h) then some (2, f, g, h) else none
def faultG (c : CategoryD) (f g : Int) : Option (Int × Int × Int × Int) :=
 if c.2.2.1.getD f.toNat 0 = c.2.1.getD g.toNat 0 then scanR (faultH c f g) c.2.1.length 0 else none
def faultF (c : CategoryD) (f : Int) : Option (Int × Int × Int × Int) := scanR (faultG c f) c.2.1.length 0
def faultR (c : CategoryD) : Int × Int × Int × Int :=
 orR (scanR (faultI c) c.2.1.length 0) (orR (scanR (faultF c) c.2.1.length 0) (0, 0, 0, 0))
def c_impl_Category_fault : Ct := ⟨[(.pt CategoryT)], [false], fun x => [ShapeP x.1], [(false, (.fz (.int .i64))), (false, (.fz (.int .i64))), (false, (.fz (.int .i64))), (false, (.fz (.int .i64)))], fun x => ((faultR x.1).1, (faultR x.1).2.1, (faultR x.1).2.2.1, (faultR x.1).2.2.2, ()), false, none⟩
def an_impl_Category_fault : Ann := (.s .n (.s .n (.s (.s .n (.l [(7, (.d (.int .i64)))] [] [0, 6] .n)) (.s (.s .n (.l [(8, (.d (.int .i64)))] [] [0, 6] (.s .n (.s (.s .n (.l [(9, (.d (.int .i64)))] [] [0, 6, 8] (.s .n (.s (.j [] [] [0, 6, 8, 9] (.s .n (.s .n (.l [(10, (.d (.int .i64)))] [] [0, 6, 8, 9] .n)))) .n)))) .n)))) .n))))
def ph_impl_Category_fault : FuncId -> Option Ct := lkp [(40, c_impl_Category_arrows), (67, c_impl_Category_then)]
def W_impl_Category_fault (c : CategoryD) (K : Int × Int × Int × Int × Unit -> Prop) : Prop := (loopW (S := ((Int × Unit) × Unit)) (fun s => (fun next => ((inK .i64 s.1.1) -> (cnd (decide (s.1.1 < ((c.2.1.length : Nat) : Int))) ((0 <= s.1.1) /\ ((s.1.1 < ((c.2.1.length : Nat) : Int)) /\ ((0 <= (List.getD c.2.1 s.1.1.toNat 0)) /\ (((List.getD c.2.1 s.1.1.toNat 0) < ((c.2.2.2.1.length : Nat) : Int)) /\ ((0 <= (List.getD c.2.2.2.1 (Int.toNat (List.getD c.2.1 s.1.1.toNat 0)) 0)) /\ (((List.getD c.2.2.2.1 (Int.toNat (List.getD c.2.1 s.1.1.toNat 0)) 0) < ((c.2.2.2.2.length : Nat) : Int)) /\ ((0 <= s.1.1) /\ ((s.1.1 < (((List.length (List.getD c.2.2.2.2 (Int.toNat (List.getD c.2.2.2.1 (Int.toNat (List.getD c.2.1 s.1.1.toNat 0)) 0)) [])) : Nat) : Int)) /\ (((((compR c (List.getD c.2.2.2.1 (Int.toNat (List.getD c.2.1 s.1.1.toNat 0)) 0) s.1.1) != s.1.1) = false) -> ((s.1.1 < ((c.2.2.1.length : Nat) : Int)) /\ (0 <= s.1.1))) /\ (((((compR c (List.getD c.2.2.2.1 (Int.toNat (List.getD c.2.1 s.1.1.toNat 0)) 0) s.1.1) != s.1.1) = false) -> (((List.getD c.2.2.1 s.1.1.toNat 0) < ((c.2.2.2.1.length : Nat) : Int)) /\ (0 <= (List.getD c.2.2.1 s.1.1.toNat 0)))) /\ (((((compR c (List.getD c.2.2.2.1 (Int.toNat (List.getD c.2.1 s.1.1.toNat 0)) 0) s.1.1) != s.1.1) = false) -> ((s.1.1 < ((c.2.2.2.2.length : Nat) : Int)) /\ ((0 <= (List.getD c.2.2.2.1 (Int.toNat (List.getD c.2.2.1 s.1.1.toNat 0)) 0)) /\ (((List.getD c.2.2.2.1 (Int.toNat (List.getD c.2.2.1 s.1.1.toNat 0)) 0) < (((List.length (List.getD c.2.2.2.2 s.1.1.toNat [])) : Nat) : Int)) /\ (0 <= s.1.1))))) /\ (cnd (((compR c (List.getD c.2.2.2.1 (Int.toNat (List.getD c.2.1 s.1.1.toNat 0)) 0) s.1.1) != s.1.1) || ((compR c s.1.1 (List.getD c.2.2.2.1 (Int.toNat (List.getD c.2.2.1 s.1.1.toNat 0)) 0)) != s.1.1)) (K (1, (s.1.1, (0, (0, ()))))) ((inK .i64 (s.1.1 + 1)) /\ (next (((s.1.1 + 1), ()), ()))))))))))))))) (loopW (S := ((Int × Unit) × Unit)) (fun s1 => (fun next1 => ((inK .i64 s1.1.1) -> (cnd (decide (s1.1.1 < ((c.2.1.length : Nat) : Int))) (loopW (S := ((Int × Unit) × Unit)) (fun s2 => (fun next2 => ((inK .i64 s2.1.1) -> (cnd (decide (s2.1.1 < ((c.2.1.length : Nat) : Int))) (joinW (S := (Unit × Unit)) (fun s3 => ((inK .i64 (s2.1.1 + 1)) /\ (next2 (((s2.1.1 + 1), ()), ())))) (fun k => ((0 <= s1.1.1) /\ ((s1.1.1 < ((c.2.2.2.2.length : Nat) : Int)) /\ ((0 <= s2.1.1) /\ ((s2.1.1 < (((List.length (List.getD c.2.2.2.2 s1.1.1.toNat [])) : Nat) : Int)) /\ (cnd (decide ((compR c s1.1.1 s2.1.1) < 0)) (k ((), ())) (loopW (S := ((Int × Unit) × Unit)) (fun s3 => (fun next3 => ((inK .i64 s3.1.1) -> (cnd (decide (s3.1.1 < ((c.2.1.length : Nat) : Int))) ((0 <= s2.1.1) /\ ((s2.1.1 < ((c.2.2.2.2.length : Nat) : Int)) /\ ((0 <= s3.1.1) /\ ((s3.1.1 < (((List.length (List.getD c.2.2.2.2 s2.1.1.toNat [])) : Nat) : Int)) /\ ((((decide (0 <= (compR c s2.1.1 s3.1.1))) = true) -> ((s1.1.1 < ((c.2.2.2.2.length : Nat) : Int)) /\ ((0 <= s2.1.1) /\ ((s2.1.1 < (((List.length (List.getD c.2.2.2.2 s1.1.1.toNat [])) : Nat) : Int)) /\ (0 <= s1.1.1))))) /\ ((((decide (0 <= (compR c s2.1.1 s3.1.1))) = true) -> (((compR c s1.1.1 s2.1.1) < ((c.2.2.2.2.length : Nat) : Int)) /\ ((0 <= s3.1.1) /\ ((s3.1.1 < (((List.length (List.getD c.2.2.2.2 (Int.toNat (compR c s1.1.1 s2.1.1)) [])) : Nat) : Int)) /\ (0 <= (compR c s1.1.1 s2.1.1)))))) /\ ((((decide (0 <= (compR c s2.1.1 s3.1.1))) = true) -> ((s2.1.1 < ((c.2.2.2.2.length : Nat) : Int)) /\ ((0 <= s3.1.1) /\ ((s3.1.1 < (((List.length (List.getD c.2.2.2.2 s2.1.1.toNat [])) : Nat) : Int)) /\ (0 <= s2.1.1))))) /\ ((((decide (0 <= (compR c s2.1.1 s3.1.1))) = true) -> ((s1.1.1 < ((c.2.2.2.2.length : Nat) : Int)) /\ ((0 <= (compR c s2.1.1 s3.1.1)) /\ (((compR c s2.1.1 s3.1.1) < (((List.length (List.getD c.2.2.2.2 s1.1.1.toNat [])) : Nat) : Int)) /\ (0 <= s1.1.1))))) /\ (cnd ((decide (0 <= (compR c s2.1.1 s3.1.1))) && ((compR c (compR c s1.1.1 s2.1.1) s3.1.1) != (compR c s1.1.1 (compR c s2.1.1 s3.1.1)))) (K (2, (s1.1.1, (s2.1.1, (s3.1.1, ()))))) ((inK .i64 (s3.1.1 + 1)) /\ (next3 (((s3.1.1 + 1), ()), ())))))))))))) (k ((), ())))))) ((0, ()), ()))))))))) ((inK .i64 (s1.1.1 + 1)) /\ (next1 (((s1.1.1 + 1), ()), ()))))))) ((0, ()), ())) (K (0, (0, (0, (0, ()))))))))) ((0, ()), ())))))) ((0, ()), ()))
theorem w_impl_Category_fault (x : denL c_impl_Category_fault.args) (K : Int × Int × Int × Int × Unit -> Prop) : evF tab ph_impl_Category_fault (cutL [(5, 38)]) Try.f109 (bodyOf Try.f109) an_impl_Category_fault c_impl_Category_fault x K = W_impl_Category_fault x.1 K := by kernel_rfl
theorem k_impl_Category_fault : okC Try.f109.ntmps (cutL [(5, 38)]) (bodyOf Try.f109) = true := by kernel_rfl
theorem m_impl_Category_fault (c : CategoryD) (hok : allP (okL c_impl_Category_fault.args (c, ()))) (hpre : allP (c_impl_Category_fault.pre (c, ()))) : W_impl_Category_fault c (fun r => r = c_impl_Category_fault.res (c, ())) := by
 simp only [c_impl_Category_fault, okL, T.oks, T.ok, ap, allP, true_and, and_true, implies_true] at hok hpre
 try dsimp only [T.den] at hok
 try dsimp only [T.den] at hpre
 unfold W_impl_Category_fault
 have S : ShapeP c := hpre
 have hlt := S.lt
 have hli := S.li
 have hlc := S.lc
 have hmm := S.m
 have resq : ∀ a b d e, faultR c = (a, b, d, e) -> (a, b, d, e, ()) = c_impl_Category_fault.res (c, ()) := fun a b d e h => by simp only [c_impl_Category_fault, h]
 refine loop_ix (n := c.2.1.length) (fun f => scanR (faultI c) c.2.1.length 0 = scanR (faultI c) ((c.2.1.length : Int) - f).toNat f) (by omega) scan_0 ?_ ?_
 ·intro f next h0 h1 hP hn hin
  try dsimp only
  obtain ⟨a1, a2, a3, a4⟩ := S.frm h0 h1
  obtain ⟨b1, b2, _, _⟩ := S.idn a1 a2
  obtain ⟨d1, d2, _, _⟩ := S.idn a3 a4
  have r1 := S.row _ b1 b2
  have r2 := S.row f h0 h1
  refine cnd_d (fun _ => ⟨h0, h1, by omega, by omega, by omega, by omega, h0, by omega, fun _ => by omega, fun _ => by omega, fun _ => by omega, cnd_of (fun hx => resq _ _ _ _ ?_) (fun hx => ⟨by rw [inK64]; (try dsimp only); omega, hn ?_⟩)⟩) (fun h => absurd h1 h)
  ·have : faultI c f = some (1, f, 0, 0) := by unfold faultI; rw [if_pos]; simpa using hx
   unfold faultR; rw [hP, scan_s h1 this]; rfl
  ·have : faultI c f = none := by unfold faultI; rw [if_neg]; simpa using hx
   rw [hP, scan_c h1 this]
 intro next hI hin
 rw [scan_n] at hI
 refine cnd_d (fun h => absurd h (by dsimp only; omega)) (fun _ => ?_)
 have hF : faultR c = orR (scanR (faultF c) c.2.1.length 0) (0, 0, 0, 0) := by unfold faultR; rw [hI]; rfl
 refine loop_ix (n := c.2.1.length) (fun f => scanR (faultF c) c.2.1.length 0 = scanR (faultF c) ((c.2.1.length : Int) - f).toNat f) (by omega) scan_0 ?_ ?_
 ·intro f next h0 h1 hP hn hin
  try dsimp only
  refine cnd_d (fun _ => ?_) (fun h => absurd h1 h)
  have r1 := S.row f h0 h1
  refine loop_ix (n := c.2.1.length) (fun g => faultF c f = scanR (faultG c f) ((c.2.1.length : Int) - g).toNat g) (by omega) scan_0 ?_ ?_
  ·intro g next3 g0 g1 hP3 hn3 hin3
   try dsimp only
   refine cnd_d (fun _ => ?_) (fun h => absurd g1 h)
   have r2 := S.row g g0 g1
   refine join_of (fun _ => faultG c f g = none) (fun _ hG => ⟨by rw [inK64]; (try dsimp only); omega, hn3 (by rw [hP3, scan_c g1 hG])⟩) (fun k hk => ?_)
   have hk' := hk ((), ())
   refine ⟨by omega, by omega, by omega, by omega, cnd_d (fun hx => hk' ?_) (fun hx => ?_)⟩
   ·unfold faultG; rw [if_neg]; intro e; have := (S.comp h0 h1 g0 g1).2 e; omega
   have hfg := (S.comp h0 h1 g0 g1).1 (by omega)
   obtain ⟨y1, y2, _, _⟩ := S.yes h0 h1 g0 g1 hfg
   refine loop_ix (n := c.2.1.length) (fun h => faultG c f g = scanR (faultH c f g) ((c.2.1.length : Int) - h).toNat h) (by omega) (by unfold faultG; rw [if_pos hfg]; exact scan_0) ?_ ?_
   ·intro h next4 i0 i1 hP4 hn4 hin4
    try dsimp only
    refine cnd_d (fun _ => ?_) (fun h => absurd i1 h)
    have r3 := S.row _ y1 y2
    have cgh := S.comp g0 g1 i0 i1
    have ygh := @ShapeP.yes c S g h g0 g1 i0 i1
    refine ⟨by omega, by omega, by omega, by omega, fun _ => by omega, fun _ => by omega, fun _ => by omega, fun he => ?_, cnd_of (fun hx => resq _ _ _ _ ?_) (fun hx => ⟨by rw [inK64]; (try dsimp only); omega, hn4 ?_⟩)⟩
    ·have := ygh (cgh.1 (by simpa using he)); omega
    ·have : faultH c f g h = some (2, f, g, h) := by unfold faultH; rw [if_pos]; rw [← cgh]; simpa using hx
     have e1 : faultG c f g = some (2, f, g, h) := by rw [hP4, scan_s i1 this]
     have e2 : faultF c f = some (2, f, g, h) := by rw [hP3, scan_s g1 e1]
     rw [hF, hP, scan_s h1 e2]; rfl
    ·have : faultH c f g h = none := by unfold faultH; rw [if_neg]; rw [← cgh]; simpa using hx
     rw [hP4, scan_c i1 this]
   ·intro next4 hP4 hin4
    rw [scan_n] at hP4
    exact cnd_d (fun h => absurd h (by dsimp only; omega)) (fun _ => hk' hP4)
  ·intro next3 hP3 hin3
   rw [scan_n] at hP3
   exact cnd_d (fun h => absurd h (by dsimp only; omega)) (fun _ => ⟨by rw [inK64]; (try dsimp only); omega, hn (by rw [hP, scan_c h1 hP3])⟩)
 ·intro next2 hP2 hin2
  rw [scan_n] at hP2
  refine cnd_d (fun h => absurd h (by dsimp only; omega)) (fun _ => resq _ _ _ _ ?_)
  rw [hF, hP2]; rfl
theorem ct_impl_Category_fault : CtOk Try.prog 109 c_impl_Category_fault :=
 ct_by (Φ := ph_impl_Category_fault) (good_cons ct_impl_Category_arrows (good_cons ct_impl_Category_then good_nil)) tab_ok (by kernel_rfl) (fn := Try.f109) (c := bodyOf Try.f109) (by kernel_rfl) (by kernel_rfl) (by kernel_rfl) c_impl_Category_fault rfl an_impl_Category_fault (cutL [(5, 38)]) (by kernel_rfl) (by kernel_rfl) k_impl_Category_fault (by decide) (fun x K => W_impl_Category_fault x.1 K) w_impl_Category_fault (fun x h1 h2 => m_impl_Category_fault x.1 h1 h2)
def idR (c : CategoryD) (f : Int) : Bool := c.2.2.2.1.getD (c.2.1.getD f.toNat 0).toNat 0 == f
def c_impl_Category_isIdentity : Ct := ⟨[(.pt CategoryT), (.int .i64)], [false, false], fun x => [ShapeP x.1, 0 <= x.2.1, x.2.1 < x.1.2.1.length], [(false, (.fz .bool))], fun x => (idR x.1 x.2.1, ()), false, none⟩
def W_impl_Category_isIdentity (c : CategoryD) (f : Int) (K : Bool × Unit -> Prop) : Prop := ((0 <= f) /\ ((f < ((c.2.1.length : Nat) : Int)) /\ ((0 <= (List.getD c.2.1 f.toNat 0)) /\ (((List.getD c.2.1 f.toNat 0) < ((c.2.2.2.1.length : Nat) : Int)) /\ (K (((List.getD c.2.2.2.1 (Int.toNat (List.getD c.2.1 f.toNat 0)) 0) == f), ()))))))
theorem w_impl_Category_isIdentity (x : denL c_impl_Category_isIdentity.args) (K : Bool × Unit -> Prop) : evF tab (lkp []) (cutL [(1, 16)]) Try.f68 (bodyOf Try.f68) .n c_impl_Category_isIdentity x K = W_impl_Category_isIdentity x.1 x.2.1 K := by kernel_rfl
theorem k_impl_Category_isIdentity : okC Try.f68.ntmps (cutL [(1, 16)]) (bodyOf Try.f68) = true := by kernel_rfl
theorem m_impl_Category_isIdentity (c : CategoryD) (f : Int) (hok : allP (okL c_impl_Category_isIdentity.args (c, f, ()))) (hpre : allP (c_impl_Category_isIdentity.pre (c, f, ()))) : W_impl_Category_isIdentity c f (fun r => r = c_impl_Category_isIdentity.res (c, f, ())) := by
 simp only [c_impl_Category_isIdentity, okL, T.oks, T.ok, ap, allP, true_and, and_true, implies_true] at hok hpre
 try dsimp only [T.den] at hok
 try dsimp only [T.den] at hpre
 unfold W_impl_Category_isIdentity
 have S : ShapeP c := hpre.1
 have a := S.frm hpre.2.1 hpre.2.2
 have := S.li
 exact ⟨hpre.2.1, hpre.2.2, a.1, by omega, rfl⟩
theorem ct_impl_Category_isIdentity : CtOk Try.prog 68 c_impl_Category_isIdentity :=
 ct_by (Φ := lkp []) good_nil tab_ok (by kernel_rfl) (fn := Try.f68) (c := bodyOf Try.f68) (by kernel_rfl) (by kernel_rfl) (by kernel_rfl) c_impl_Category_isIdentity rfl .n (cutL [(1, 16)]) (by kernel_rfl) (by kernel_rfl) k_impl_Category_isIdentity (by decide) (fun x K => W_impl_Category_isIdentity x.1 x.2.1 K) w_impl_Category_isIdentity (fun x h1 h2 => m_impl_Category_isIdentity x.1 x.2.1 h1 h2)
def c_impl_marked : Ct := ⟨[(.sl .bool)], [false], fun x => [x.1.length <= 1099511627776], [(false, (.sl (.fz (.int .i64))))], fun x => (selR x.1.length (fun i => x.1.getD i.toNat false), ()), false, none⟩
def an_impl_marked : Ann := (.s .n (.s .n (.s (.s .n (.l [(3, (.ref 800003 [])), (9, (.d (.int .i64)))] [(800003, (.sl (.fz (.int .i64))))] [7, 8] (.s .n (.s .n (.s (.s .n (.s .n (.j [(3, (.ref 800003 []))] [(800003, (.sl (.fz (.int .i64))))] [7, 8, 9] .n))) .n))))) .n)))
def W_impl_marked (there : List Bool) (K : (List Int) × Unit -> Prop) : Prop := (loopW (S := ((Unit × (Int × Unit)) × ((List Int) × Unit))) (fun s => (fun next => ((inK .i64 s.1.2.1) -> ((T.ok (.sl (.int .i64)) s.2.1) -> (cnd (decide (s.1.2.1 < ((there.length : Nat) : Int))) ((0 <= s.1.2.1) /\ ((s.1.2.1 < ((there.length : Nat) : Int)) /\ (joinW (S := ((Unit × Unit) × ((List Int) × Unit))) (fun s1 => ((T.ok (.sl (.int .i64)) s1.2.1) -> ((inK .i64 (s.1.2.1 + 1)) /\ (next (((), ((s.1.2.1 + 1), ())), (s1.2.1, ())))))) (fun k => (cnd (List.getD there s.1.2.1.toNat false) ((room s.2.1.length (List.length (s.1.2.1 :: [])) 8) /\ (k (((), ()), ((s.2.1 ++ (s.1.2.1 :: [])), ())))) (k (((), ()), (s.2.1, ())))))))) (K (s.2.1, ()))))))) (((), (0, ())), ([], ())))
theorem w_impl_marked (x : denL c_impl_marked.args) (K : (List Int) × Unit -> Prop) : evF tab (lkp []) (cutL []) Try.f118 (bodyOf Try.f118) an_impl_marked c_impl_marked x K = W_impl_marked x.1 K := by kernel_rfl
theorem k_impl_marked : okC Try.f118.ntmps (cutL []) (bodyOf Try.f118) = true := by kernel_rfl
theorem m_impl_marked (there : List Bool) (hok : allP (okL c_impl_marked.args (there, ()))) (hpre : allP (c_impl_marked.pre (there, ()))) : W_impl_marked there (fun r => r = c_impl_marked.res (there, ())) := by
 simp only [c_impl_marked, okL, T.oks, T.ok, ap, allP, true_and, and_true, implies_true] at hok hpre
 try dsimp only [T.den] at hok
 try dsimp only [T.den] at hpre
 unfold W_impl_marked
 have hm : there.length <= 1099511627776 := hpre
 refine loop_of (fun (s : ((Unit × (Int × Unit)) × ((List Int) × Unit))) => 0 <= s.1.2.1 /\ s.1.2.1 <= there.length /\ s.2.1 = selR s.1.2.1.toNat fun i => there.getD i.toNat false) (fun (s : ((Unit × (Int × Unit)) × ((List Int) × Unit))) => (there.length - s.1.2.1).toNat) ?_ ⟨by simp, by simp, rfl⟩
 rintro ⟨⟨_, i, _⟩, l, _⟩ next ⟨h0, h1, h2⟩ hn hin hl
 try dsimp only at h0 h1 h2 hn ⊢
 subst h2
 refine cnd_d (fun hc => ⟨h0, hc, join_of (fun s1 => s1.2.1 = selR (i + 1).toNat fun i => there.getD i.toNat false) (fun s1 hs _ => ⟨by rw [inK64]; (try dsimp only); omega, hn _ ⟨(by first | omega | (dsimp only; omega)), (by first | omega | (dsimp only; omega)), hs⟩ (by first | omega | (dsimp only; omega))⟩) (fun k hk => cnd_of (fun hx => ⟨?_, hk _ ?_⟩) (fun hx => hk _ ?_))⟩) (fun hc => ?_)
 ·have := sel_len (p := fun i => there.getD i.toNat false) i.toNat
  unfold room
  rw [nb_eq]
  have h3 : (i :: ([] : List Int)).length = 1 := rfl
  rw [h3]
  omega
 ·exact (sel_t h0 hx).symm
 ·exact (sel_f h0 hx).symm
 ·have e1 : i.toNat = there.length := by omega
  simp only [c_impl_marked]
  rw [e1]
theorem ct_impl_marked : CtOk Try.prog 118 c_impl_marked :=
 ct_by (Φ := lkp []) good_nil tab_ok (by kernel_rfl) (fn := Try.f118) (c := bodyOf Try.f118) (by kernel_rfl) (by kernel_rfl) (by kernel_rfl) c_impl_marked rfl an_impl_marked (cutL []) (by kernel_rfl) (by kernel_rfl) k_impl_marked (by decide) (fun x K => W_impl_marked x.1 K) w_impl_marked (fun x h1 h2 => m_impl_marked x.1 h1 h2)
def spQ (c : CategoryD) (f g h : Int) : Bool := compR c f g == h && (!idR c f && !idR c g)
def splitB (c : CategoryD) (h : Int) : Bool := anyB c.2.1.length fun f => anyB c.2.1.length fun g => spQ c f g h
def irrR (c : CategoryD) : List Int := selR c.2.1.length fun h => !idR c h && !splitB c h
theorem spQ_no {c : CategoryD} {f g h : Int} (hn : ¬ (0 <= compR c f g /\ idR c f = false /\ idR c g = false)) (h0 : 0 <= h) : spQ c f g h = false := by
 unfold spQ
 cases e : (compR c f g == h && (!idR c f && !idR c g)) with
 | false => rfl
 | true =>
  simp only [Bool.and_eq_true, beq_iff_eq, Bool.not_eq_true'] at e
  exact absurd ⟨by omega, e.2.1, e.2.2⟩ hn
theorem spQ_ne {c : CategoryD} {f g h : Int} (hn : h ≠ compR c f g) : spQ c f g h = false := by
 unfold spQ
 rw [beq_eq_false_iff_ne.2 (Ne.symm hn), Bool.false_and]
def c_impl_Category_irreducible : Ct := ⟨[(.pt CategoryT)], [false], fun x => [ShapeP x.1], [(false, (.sl (.fz (.int .i64))))], fun x => (irrR x.1, ()), false, none⟩
def an_impl_Category_irreducible : Ann := (.s .n (.s .n (.s (.s .n (.l [(3, (.ref 11 [])), (14, (.d (.int .i64)))] [(11, (.sl (.fz .bool)))] [0, 13] .n)) (.s (.s .n (.l [(3, (.ref 11 [])), (30, (.d (.int .i64)))] [(11, (.sl (.fz .bool)))] [0, 28, 29] (.s .n (.s .n (.s (.s .n (.s .n (.l [(3, (.ref 11 [])), (37, (.d (.int .i64)))] [(11, (.sl (.fz .bool)))] [0, 5, 28, 29, 30, 35, 36] (.s .n (.s .n (.s (.s .n (.s .n (.j [(3, (.ref 11 []))] [(11, (.sl (.fz .bool)))] [0, 5, 28, 29, 30, 35, 36, 37] .n))) .n)))))) .n))))) .n))))
def ph_impl_Category_irreducible : FuncId -> Option Ct := lkp [(40, c_impl_Category_arrows), (68, c_impl_Category_isIdentity), (118, c_impl_marked)]
def W_impl_Category_irreducible (c : CategoryD) (K : (List Int) × Unit -> Prop) : Prop := ((0 <= ((c.2.1.length : Nat) : Int)) /\ ((((c.2.1.length : Nat) : Int) <= ((c.2.1.length : Nat) : Int)) /\ ((((c.2.1.length : Nat) : Int) <= ((140737488355328 : Nat) : Int)) /\ (((((c.2.1.length : Nat) : Int) * ((1 : Nat) : Int)) <= ((140737488355328 : Nat) : Int)) /\ (loopW (S := ((Unit × (Int × Unit)) × ((List Bool) × Unit))) (fun s => (fun next => ((inK .i64 s.1.2.1) -> ((T.ok (.sl T.bool) s.2.1) -> (cnd (decide (s.1.2.1 < (((List.length (List.replicate (Int.toNat ((c.2.1.length : Nat) : Int)) false)) : Nat) : Int))) ((ShapeP c) /\ ((0 <= s.1.2.1) /\ ((s.1.2.1 < ((c.2.1.length : Nat) : Int)) /\ ((0 <= s.1.2.1) /\ ((s.1.2.1 < ((s.2.1.length : Nat) : Int)) /\ ((inK .i64 (s.1.2.1 + 1)) /\ (next (((), ((s.1.2.1 + 1), ())), ((List.set s.2.1 s.1.2.1.toNat (!(idR c s.1.2.1))), ()))))))))) (loopW (S := ((Unit × (Int × Unit)) × ((List Bool) × Unit))) (fun s1 => (fun next1 => ((inK .i64 s1.1.2.1) -> ((T.ok (.sl T.bool) s1.2.1) -> (cnd (decide (s1.1.2.1 < ((c.2.2.2.2.length : Nat) : Int))) ((0 <= s1.1.2.1) /\ ((s1.1.2.1 < ((c.2.2.2.2.length : Nat) : Int)) /\ (loopW (S := ((Unit × (Int × Unit)) × ((List Bool) × Unit))) (fun s2 => (fun next2 => ((inK .i64 s2.1.2.1) -> ((T.ok (.sl T.bool) s2.2.1) -> (cnd (decide (s2.1.2.1 < (((List.length (List.getD c.2.2.2.2 s1.1.2.1.toNat [])) : Nat) : Int))) ((0 <= s2.1.2.1) /\ ((s2.1.2.1 < (((List.length (List.getD c.2.2.2.2 s1.1.2.1.toNat [])) : Nat) : Int)) /\ ((((decide (0 <= (List.getD (List.getD c.2.2.2.2 s1.1.2.1.toNat []) s2.1.2.1.toNat 0))) = true) -> ((0 <= s1.1.2.1) /\ ((s1.1.2.1 < ((c.2.1.length : Nat) : Int)) /\ (ShapeP c)))) /\ (((((decide (0 <= (List.getD (List.getD c.2.2.2.2 s1.1.2.1.toNat []) s2.1.2.1.toNat 0))) && (!(idR c s1.1.2.1))) = true) -> ((0 <= s2.1.2.1) /\ ((s2.1.2.1 < ((c.2.1.length : Nat) : Int)) /\ (ShapeP c)))) /\ (joinW (S := ((Unit × Unit) × ((List Bool) × Unit))) (fun s3 => ((T.ok (.sl T.bool) s3.2.1) -> ((inK .i64 (s2.1.2.1 + 1)) /\ (next2 (((), ((s2.1.2.1 + 1), ())), (s3.2.1, ())))))) (fun k => (cnd (((decide (0 <= (List.getD (List.getD c.2.2.2.2 s1.1.2.1.toNat []) s2.1.2.1.toNat 0))) && (!(idR c s1.1.2.1))) && (!(idR c s2.1.2.1))) ((0 <= (List.getD (List.getD c.2.2.2.2 s1.1.2.1.toNat []) s2.1.2.1.toNat 0)) /\ (((List.getD (List.getD c.2.2.2.2 s1.1.2.1.toNat []) s2.1.2.1.toNat 0) < ((s2.2.1.length : Nat) : Int)) /\ (k (((), ()), ((List.set s2.2.1 (Int.toNat (List.getD (List.getD c.2.2.2.2 s1.1.2.1.toNat []) s2.1.2.1.toNat 0)) false), ()))))) (k (((), ()), (s2.2.1, ())))))))))) ((inK .i64 (s1.1.2.1 + 1)) /\ (next1 (((), ((s1.1.2.1 + 1), ())), (s2.2.1, ()))))))))) (((), (0, ())), (s1.2.1, ()))))) ((s1.2.1.length <= 1099511627776) /\ (K ((selR s1.2.1.length (fun i => (List.getD s1.2.1 i.toNat false))), ())))))))) (((), (0, ())), (s.2.1, ())))))))) (((), (0, ())), ((List.replicate (Int.toNat ((c.2.1.length : Nat) : Int)) false), ())))))))
theorem w_impl_Category_irreducible (x : denL c_impl_Category_irreducible.args) (K : (List Int) × Unit -> Prop) : evF tab ph_impl_Category_irreducible (cutL []) Try.f64 (bodyOf Try.f64) an_impl_Category_irreducible c_impl_Category_irreducible x K = W_impl_Category_irreducible x.1 K := by kernel_rfl
theorem k_impl_Category_irreducible : okC Try.f64.ntmps (cutL []) (bodyOf Try.f64) = true := by kernel_rfl
theorem m_impl_Category_irreducible (c : CategoryD) (hok : allP (okL c_impl_Category_irreducible.args (c, ()))) (hpre : allP (c_impl_Category_irreducible.pre (c, ()))) : W_impl_Category_irreducible c (fun r => r = c_impl_Category_irreducible.res (c, ())) := by
 simp only [c_impl_Category_irreducible, okL, T.oks, T.ok, ap, allP, true_and, and_true, implies_true] at hok hpre
 try dsimp only [T.den] at hok
 try dsimp only [T.den] at hpre
 unfold W_impl_Category_irreducible
 have S : ShapeP c := hpre
 clear hok hpre
 have hm := S.m
 have hlc := S.lc
 refine ⟨by omega, by omega, by omega, by omega, ?_⟩
 simp only [Int.toNat_natCast, tab_rep, tabN_len]
 have hirr : irrR c = selR c.2.1.length (fun h => !idR c h && !(anyB c.2.1.length fun f => anyB c.2.1.length fun g => spQ c f g h)) := rfl
 have hrow : ∀ i : Int, 0 <= i -> i < c.2.1.length -> (c.2.2.2.2.getD i.toNat []).length = c.2.1.length := S.row
 have hyes : ∀ i j : Int, 0 <= i -> i < c.2.1.length -> 0 <= j -> j < c.2.1.length -> 0 <= compR c i j -> compR c i j < c.2.1.length := fun i j i0 i1 j0 j1 h => (S.yes i0 i1 j0 j1 ((S.comp i0 i1 j0 j1).1 h)).2.1
 generalize hn : c.2.1.length = m at *
 refine loop_ixa (fun i => tabN m fun h => if h < i then !idR c h else false) (n := m) (by omega) (tabN_congr fun h h0 _ => by rw [if_neg (by omega)]) ?_ ?_
 ·intro i next i0 i1 hn1 _ _
  try dsimp only at hn1 ⊢
  refine cnd_d (fun _ => ⟨S, i0, i1, i0, by rw [tabN_len]; exact i1, by rw [inK64]; (try dsimp only); omega, ?_⟩) (fun h => absurd i1 h)
  rw [tab_set i0 i1]
  have e : (tabN m fun y => if y = i then !idR c i else if y < i then !idR c y else false) = tabN m (fun h => if h < i + 1 then !idR c h else false) := by
   refine tabN_congr fun y y0 _ => ?_
   by_cases hy : y = i
   ·rw [if_pos hy, if_pos (by omega), hy]
   ·rw [if_neg hy]
    by_cases h2 : y < i
    ·rw [if_pos h2, if_pos (by omega)]
    ·rw [if_neg h2, if_neg (by omega)]
  rw [e]; exact hn1
 ·intro next _ _
  try dsimp only
  refine cnd_d (fun h => absurd h (Int.lt_irrefl _)) (fun _ => ?_)
  refine loop_ixa (fun i => tabN m fun h => !idR c h && !(anyB i.toNat fun f => anyB m fun g => spQ c f g h)) (n := m) (by omega) (tabN_congr fun h h0 h1 => by rw [if_pos h1]; simp [anyB]) ?_ ?_
  ·intro i next1 i0 i1 hn2 _ _
   try dsimp only at hn2 ⊢
   have hr := hrow i i0 i1
   refine cnd_d (fun _ => ⟨i0, by omega, ?_⟩) (fun h => absurd (by omega) h)
   refine loop_ixa (fun j => tabN m fun h => !idR c h && !((anyB i.toNat fun f => anyB m fun g => spQ c f g h) || anyB j.toNat fun g => spQ c i g h)) (n := m) (by omega) (tabN_congr fun h _ _ => by simp [anyB]) ?_ ?_
   ·intro j next2 j0 j1 hn3 _ _
    try dsimp only at hn3 ⊢
    refine cnd_d (fun _ => ⟨j0, by omega, fun _ => ⟨i0, i1, S⟩, fun _ => ⟨j0, j1, S⟩, ?_⟩) (fun h => absurd (by omega) h)
    refine join_of (fun q => q.2.1 = tabN m fun h => !idR c h && !((anyB i.toNat fun f => anyB m fun g => spQ c f g h) || anyB (j + 1).toNat fun g => spQ c i g h)) (fun q hq _ => ⟨by rw [inK64]; (try dsimp only); omega, by rw [hq]; exact hn3⟩) (fun k hk => cnd_of (fun hc => ?_) (fun hc => hk _ ?_))
    ·simp only [Bool.and_eq_true, decide_eq_true_eq, Bool.not_eq_true'] at hc
     obtain ⟨⟨hc0, hi⟩, hj⟩ := hc
     have hcm : compR c i j < m := hyes i j i0 i1 j0 j1 hc0
     refine ⟨hc0, by rw [tabN_len]; exact hcm, hk _ ?_⟩
     show List.set _ (compR c i j).toNat false = _
     rw [tab_set (k := compR c i j) hc0 hcm]
     refine tabN_congr fun y y0 y1 => ?_
     rw [anyB_s j0]
     by_cases hy : y = compR c i j
     ·rw [if_pos hy]; simp [spQ, hy, hi, hj]
     ·rw [if_neg hy, spQ_ne hy, Bool.or_false]
    ·try dsimp only
     refine tabN_congr fun y y0 y1 => ?_
     rw [anyB_s j0, spQ_no (fun h => ?_) y0, Bool.or_false]
     have h1 : 0 <= (c.2.2.2.2.getD i.toNat []).getD j.toNat 0 := h.1
     rw [h.2.1, h.2.2, decide_eq_true h1] at hc
     cases hc
   ·intro next2 _ _
    try dsimp only
    refine cnd_d (fun h => absurd h (by omega)) (fun _ => ⟨by rw [inK64]; (try dsimp only); omega, ?_⟩)
    have e : (tabN m fun h => !idR c h && !((anyB i.toNat fun f => anyB m fun g => spQ c f g h) || anyB ((m : Int)).toNat fun g => spQ c i g h)) = tabN m (fun h => !idR c h && !(anyB (i + 1).toNat fun f => anyB m fun g => spQ c f g h)) := tabN_congr fun y _ _ => by rw [anyB_s i0]; rfl
    rw [e]; exact hn2
  ·intro next1 _ _
   try dsimp only
   refine cnd_d (fun h => absurd h (by omega)) (fun _ => ⟨by rw [tabN_len]; omega, ?_⟩)
   have e : selR (tabN m fun h => !idR c h && !(anyB ((m : Int)).toNat fun f => anyB m fun g => spQ c f g h)).length (fun i => (tabN m fun h => !idR c h && !(anyB ((m : Int)).toNat fun f => anyB m fun g => spQ c f g h)).getD i.toNat false) = irrR c := by
    rw [tabN_len, hirr]
    exact sel_congr fun i i0 i1 => by rw [tabN_get i0 i1]; rfl
   rw [e]
   rfl
theorem ct_impl_Category_irreducible : CtOk Try.prog 64 c_impl_Category_irreducible :=
 ct_by (Φ := ph_impl_Category_irreducible) (good_cons ct_impl_Category_arrows (good_cons ct_impl_Category_isIdentity (good_cons ct_impl_marked good_nil))) tab_ok (by kernel_rfl) (fn := Try.f64) (c := bodyOf Try.f64) (by kernel_rfl) (by kernel_rfl) (by kernel_rfl) c_impl_Category_irreducible rfl an_impl_Category_irreducible (cutL []) (by kernel_rfl) (by kernel_rfl) k_impl_Category_irreducible (by decide) (fun x K => W_impl_Category_irreducible x.1 K) w_impl_Category_irreducible (fun x h1 h2 => m_impl_Category_irreducible x.1 h1 h2)
def catR (c : CategoryD) : Bool := shapeR c && (faultR c).1 == 0
def c_impl_Category_isCategory : Ct := ⟨[(.pt CategoryT)], [false], fun x => [], [(false, (.fz .bool))], fun x => (catR x.1, ()), false, none⟩
def ph_impl_Category_isCategory : FuncId -> Option Ct := lkp [(109, c_impl_Category_fault), (108, c_impl_Category_isShape)]
def W_impl_Category_isCategory (c : CategoryD) (K : Bool × Unit -> Prop) : Prop := (cnd (!(shapeR c)) (K (false, ())) ((ShapeP c) /\ (K (((faultR c).1 == 0), ()))))
theorem w_impl_Category_isCategory (x : denL c_impl_Category_isCategory.args) (K : Bool × Unit -> Prop) : evF tab ph_impl_Category_isCategory (cutL []) Try.f48 (bodyOf Try.f48) .n c_impl_Category_isCategory x K = W_impl_Category_isCategory x.1 K := by kernel_rfl
theorem k_impl_Category_isCategory : okC Try.f48.ntmps (cutL []) (bodyOf Try.f48) = true := by kernel_rfl
theorem m_impl_Category_isCategory (c : CategoryD) (hok : allP (okL c_impl_Category_isCategory.args (c, ()))) (hpre : allP (c_impl_Category_isCategory.pre (c, ()))) : W_impl_Category_isCategory c (fun r => r = c_impl_Category_isCategory.res (c, ())) := by
 simp only [c_impl_Category_isCategory, okL, T.oks, T.ok, ap, allP, true_and, and_true, implies_true] at hok hpre
 try dsimp only [T.den] at hok
 try dsimp only [T.den] at hpre
 unfold W_impl_Category_isCategory
 simp only [c_impl_Category_isCategory, catR]
 have := @shape_iff c
 grind [cnd, nb_eq, inK64]
theorem ct_impl_Category_isCategory : CtOk Try.prog 48 c_impl_Category_isCategory :=
 ct_by (Φ := ph_impl_Category_isCategory) (good_cons ct_impl_Category_fault (good_cons ct_impl_Category_isShape good_nil)) tab_ok (by kernel_rfl) (fn := Try.f48) (c := bodyOf Try.f48) (by kernel_rfl) (by kernel_rfl) (by kernel_rfl) c_impl_Category_isCategory rfl .n (cutL []) (by kernel_rfl) (by kernel_rfl) k_impl_Category_isCategory (by decide) (fun x K => W_impl_Category_isCategory x.1 K) w_impl_Category_isCategory (fun x h1 h2 => m_impl_Category_isCategory x.1 h1 h2)
def c_impl_clone : Ct := ⟨[(.sl (.int .i64))], [false], fun x => [x.1.length <= 1099511627776], [(false, (.sl (.fz (.int .i64))))], fun x => (x.1, ()), false, none⟩
def W_impl_clone (list : List Int) (K : (List Int) × Unit -> Prop) : Prop := ((room 0 list.length 8) /\ (K (list, ())))
theorem w_impl_clone (x : denL c_impl_clone.args) (K : (List Int) × Unit -> Prop) : evF tab (lkp []) (cutL []) Try.f69 (bodyOf Try.f69) .n c_impl_clone x K = W_impl_clone x.1 K := by kernel_rfl
theorem k_impl_clone : okC Try.f69.ntmps (cutL []) (bodyOf Try.f69) = true := by kernel_rfl
theorem m_impl_clone (list : List Int) (hok : allP (okL c_impl_clone.args (list, ()))) (hpre : allP (c_impl_clone.pre (list, ()))) : W_impl_clone list (fun r => r = c_impl_clone.res (list, ())) := by
 simp only [c_impl_clone, okL, T.oks, T.ok, ap, allP, true_and, and_true, implies_true] at hok hpre
 try dsimp only [T.den] at hok
 try dsimp only [T.den] at hpre
 unfold W_impl_clone
 have hl : list.length <= 1099511627776 := hpre
 exact ⟨room_of (by omega), rfl⟩
theorem ct_impl_clone : CtOk Try.prog 69 c_impl_clone :=
 ct_by (Φ := lkp []) good_nil tab_ok (by kernel_rfl) (fn := Try.f69) (c := bodyOf Try.f69) (by kernel_rfl) (by kernel_rfl) (by kernel_rfl) c_impl_clone rfl .n (cutL []) (by kernel_rfl) (by kernel_rfl) k_impl_clone (by decide) (fun x K => W_impl_clone x.1 K) w_impl_clone (fun x h1 h2 => m_impl_clone x.1 h1 h2)
abbrev OutD := List (Option (List Int))
def lpE (c : CategoryD) (gens : List Int) (f : Int) : Nat -> OutD × List Int -> OutD × List Int
 | 0, s => s
 | k + 1, s => if compR c f (gens.getD k 0) < 0 ∨ ((lpE c gens f k s).1.getD (compR c f (gens.getD k 0)).toNat none).isSome = true then lpE c gens f k s
  else ((lpE c gens f k s).1.set (compR c f (gens.getD k 0)).toNat (some ((((lpE c gens f k s).1.getD f.toNat none).getD []) ++ [(k : Int)])), (lpE c gens f k s).2 ++ [compR c f (gens.getD k 0)])
def lpL (c : CategoryD) (gens : List Int) : Nat -> OutD -> List Int -> OutD
 | 0, out, _ => out
 | _ + 1, out, [] => out
 | n + 1, out, f :: todo => lpL c gens n (lpE c gens f gens.length (out, todo)).1 (lpE c gens f gens.length (out, todo)).2
def lpI (c : CategoryD) : Nat -> OutD
 | 0 => List.replicate c.2.1.length none
 | k + 1 => (lpI c k).set (c.2.2.2.1.getD k 0).toNat (some [])
def lpF (c : CategoryD) (gens : List Int) : OutD := lpL c gens (c.2.1.length + c.2.2.2.1.length + 1) (lpI c c.2.2.2.1.length) c.2.2.2.1
def lpOkR (c : CategoryD) (gens : List Int) : Bool := (lpF c gens).all Option.isSome
def lpPR (c : CategoryD) (gens : List Int) : List (List Int) := if lpOkR c gens = true then clsR [] (lpF c gens) else []
def nonC : OutD -> Nat
 | [] => 0
 | none :: r => nonC r + 1
 | some _ :: r => nonC r
theorem nonC_le : ∀ o : OutD, nonC o <= o.length
 | [] => Nat.le_refl _
 | none :: r => by have := nonC_le r; simp only [nonC, List.length_cons]; omega
 | some _ :: r => by have := nonC_le r; simp only [nonC, List.length_cons]; omega
theorem nonC_set : ∀ (o : OutD) (i : Nat) (l : List Int), i < o.length -> o.getD i none = none -> nonC (o.set i (some l)) + 1 = nonC o
 | [], _, _, h, _ => by simp at h
 | none :: r, 0, l, _, _ => rfl
 | some _ :: r, 0, l, _, h => by simp at h
 | none :: r, i + 1, l, h, hn => by have := nonC_set r i l (by simpa using h) (by simpa using hn); simp only [List.set_cons_succ, nonC]; omega
 | some _ :: r, i + 1, l, h, hn => by have := nonC_set r i l (by simpa using h) (by simpa using hn); simp only [List.set_cons_succ, nonC]; omega
structure LpV (m B : Nat) (s : OutD × List Int) : Prop where
 len : s.1.length = m
 rng : ∀ f ∈ s.2, 0 <= f /\ f < m /\ (s.1.getD f.toNat none).isSome = true
 lnb : ∀ (h : Nat) (l : List Int), s.1.getD h none = some l -> l.length + nonC s.1 <= m
 mu : s.2.length + nonC s.1 <= B
theorem LpV.le {m B B2 : Nat} {s : OutD × List Int} (V : LpV m B s) (h : B <= B2) : LpV m B2 s := ⟨V.len, V.rng, V.lnb, Nat.le_trans V.mu h⟩
theorem LpV.set {m B : Nat} {o : OutD} {t : List Int} (V : LpV m B (o, t)) {f h k : Int} (fk : (o.getD f.toNat none).isSome = true) (h0 : 0 <= h) (h1 : h < m) (hn : o.getD h.toNat none = none) :
  LpV m B (o.set h.toNat (some (((o.getD f.toNat none).getD []) ++ [k])), t ++ [h]) := by
 have hl := V.len
 have hc := nonC_set o h.toNat (((o.getD f.toNat none).getD []) ++ [k]) (by dsimp only at hl; omega) hn
 dsimp only at hl
 refine ⟨by dsimp only; rw [List.length_set, hl], fun g hg => ?_, fun x l hx => ?_, ?_⟩
 ·dsimp only at hg ⊢
  rw [set_getD _ _ _ _ _ (by omega)]
  rcases List.mem_append.1 hg with hg | hg
  ·obtain ⟨a, b, d⟩ := V.rng g hg
   exact ⟨a, b, by split; rfl; exact d⟩
  ·rw [List.mem_singleton] at hg
   subst hg
   exact ⟨h0, h1, by rw [if_pos rfl]; rfl⟩
 ·dsimp only at hx ⊢
  rw [set_getD _ _ _ _ _ (by omega)] at hx
  by_cases e : h.toNat = x
  ·rw [if_pos e, Option.some.injEq] at hx
   obtain ⟨q, hq⟩ := Option.isSome_iff_exists.1 fk
   have := V.lnb f.toNat q hq
   dsimp only at this
   rw [hq] at hc hx ⊢
   rw [← hx]
   simp only [Option.getD_some, List.length_append, List.length_cons, List.length_nil] at hc ⊢
   omega
  ·rw [if_neg e] at hx
   have := V.lnb x l hx
   dsimp only at this
   omega
 ·have := V.mu
  dsimp only at this ⊢
  rw [List.length_append, List.length_singleton]
  omega
theorem lpE_v {c : CategoryD} (S : ShapeP c) {gens : List Int} (hg : withinR gens c.2.1.length = true) {f : Int} (f0 : 0 <= f) (f1 : f < c.2.1.length) {B : Nat} {s : OutD × List Int} (V : LpV c.2.1.length B s) (fk : (s.1.getD f.toNat none).isSome = true) :
  ∀ k : Nat, k <= gens.length -> LpV c.2.1.length B (lpE c gens f k s) /\ ∀ x : Nat, (s.1.getD x none).isSome = true -> (lpE c gens f k s).1.getD x none = s.1.getD x none
 | 0, _ => ⟨V, fun _ _ => rfl⟩
 | k + 1, hk => by
  obtain ⟨V1, K1⟩ := lpE_v S hg f0 f1 V fk k (by omega)
  rw [lpE]
  by_cases hc : compR c f (gens.getD k 0) < 0 ∨ ((lpE c gens f k s).1.getD (compR c f (gens.getD k 0)).toNat none).isSome = true
  ·rw [if_pos hc]; exact ⟨V1, K1⟩
  ·rw [if_neg hc]
   have hgk := within_iff.1 hg (k : Int) (by omega) (by omega)
   rw [Int.toNat_natCast] at hgk
   have h0 : 0 <= compR c f (gens.getD k 0) := by omega
   have h1 := (S.yes f0 f1 hgk.1 hgk.2 ((S.comp f0 f1 hgk.1 hgk.2).1 h0)).2.1
   have hn : (lpE c gens f k s).1.getD (compR c f (gens.getD k 0)).toNat none = none := by
    cases e : (lpE c gens f k s).1.getD (compR c f (gens.getD k 0)).toNat none with
    | none => rfl
    | some _ => rw [e] at hc; simp at hc
   have fk' : ((lpE c gens f k s).1.getD f.toNat none).isSome = true := by rw [K1 _ fk]; exact fk
   refine ⟨LpV.set V1 fk' h0 h1 hn, fun x hx => ?_⟩
   have hl := V1.len
   dsimp only
   rw [set_getD _ _ _ _ _ (by omega)]
   by_cases e : (compR c f (gens.getD k 0)).toNat = x
   ·rw [e, K1 x hx] at hn
    rw [hn] at hx; cases hx
   ·rw [if_neg e]; exact K1 x hx
theorem lpI_v {c : CategoryD} (S : ShapeP c) : ∀ k : Nat, k <= c.2.2.2.1.length -> (lpI c k).length = c.2.1.length /\ (∀ (h : Nat) (l : List Int), (lpI c k).getD h none = some l -> l = []) /\ ∀ x : Nat, x < k -> (lpI c k).getD (c.2.2.2.1.getD x 0).toNat none = some []
 | 0, _ => by
  refine ⟨by simp [lpI], fun h l hl => ?_, fun x hx => by omega⟩
  simp only [lpI, List.getD_eq_getElem?_getD, List.getElem?_replicate] at hl
  split at hl <;> simp at hl
 | k + 1, hk => by
  obtain ⟨a, b, d⟩ := lpI_v S k (by omega)
  have hi := within_iff.1 S.ids (k : Int) (by omega) (by omega)
  rw [Int.toNat_natCast] at hi
  rw [lpI]
  refine ⟨by rw [List.length_set, a], fun h l hl => ?_, fun x hx => ?_⟩
  ·rw [set_getD _ _ _ _ _ (by omega)] at hl
   split at hl
   ·simpa using hl.symm
   ·exact b h l hl
  ·rw [set_getD _ _ _ _ _ (by omega)]
   split
   ·rfl
   ·rename_i e
    exact d x (by rcases Nat.lt_or_ge x k with h | h; exact h; exact absurd (by rw [show x = k by omega]) e)
theorem lpI_s {c : CategoryD} {i : Int} (i0 : 0 <= i) : lpI c (i + 1).toNat = (lpI c i.toNat).set (c.2.2.2.1.getD i.toNat 0).toNat (some []) := by rw [show (i + 1).toNat = i.toNat + 1 from by omega, lpI]
theorem lpV_0 {c : CategoryD} (S : ShapeP c) : LpV c.2.1.length (c.2.1.length + c.2.2.2.1.length) (lpI c c.2.2.2.1.length, c.2.2.2.1) := by
 obtain ⟨a, b, d⟩ := lpI_v S _ (Nat.le_refl _)
 have hle := nonC_le (lpI c c.2.2.2.1.length)
 refine ⟨a, fun f hf => ?_, fun h l hl => ?_, by dsimp only; omega⟩
 ·dsimp only at hf
  obtain ⟨x, hx, rfl⟩ := List.getElem_of_mem hf
  have hi := within_iff.1 S.ids (x : Int) (by omega) (by omega)
  rw [Int.toNat_natCast] at hi
  have hd := d x hx
  have hxe : c.2.2.2.1.getD x 0 = c.2.2.2.1[x] := by rw [List.getD_eq_getElem?_getD, List.getElem?_eq_getElem hx, Option.getD_some]
  rw [hxe] at hi hd
  exact ⟨hi.1, hi.2, by dsimp only; rw [hd]; rfl⟩
 ·rw [b h l hl]
  dsimp only
  simp only [List.length_nil]
  omega
def c_impl_Category_leastPaths : Ct := ⟨[(.pt CategoryT), (.sl (.int .i64))], [false, false], fun x => [ShapeP x.1, withinR x.2.1 x.1.2.1.length = true], [(false, (.fz (.sl (.sl (.int .i64))))), (false, (.fz .bool))], fun x => (lpPR x.1 x.2.1, lpOkR x.1 x.2.1, ()), true, none⟩
def an_impl_Category_leastPaths : Ann := (.s .n (.s .n (.s .n (.s (.s .n (.l [(6, (.ref 18 [])), (7, (.ref 102300 [])), (26, (.d (.int .i64))), (24, (.ref 102300 []))] [(18, (.sl (.fz (.ns (.sl (.int .i64)))))), (102300, (.sl (.fz (.int .i64))))] [0, 1, 25] .n)) (.s (.l [(6, (.ref 18 [])), (7, (.ref 102300 []))] [(18, (.sl (.fz (.ns (.sl (.int .i64)))))), (102300, (.sl (.fz (.int .i64))))] [0, 1] (.s .n (.s .n (.s .n (.s .n (.l [(6, (.ref 18 [])), (7, (.ref 42 [])), (45, (.d (.int .i64)))] [(18, (.sl (.fz (.ns (.sl (.int .i64)))))), (42, (.sl (.fz (.int .i64))))] [0, 1, 10, 43, 44] (.s .n (.s .n (.s (.j [(6, (.ref 18 [])), (7, (.ref 42 []))] [(18, (.sl (.fz (.ns (.sl (.int .i64)))))), (42, (.sl (.fz (.int .i64))))] [0, 1, 10, 43, 44, 45] .n) .n))))))))) (.s (.s .n (.l [(81, (.d (.int .i64)))] [] [6, 79, 80] .n)) .n))))))
def ph_impl_Category_leastPaths : FuncId -> Option Ct := lkp [(40, c_impl_Category_arrows), (67, c_impl_Category_then), (69, c_impl_clone)]
def W_impl_Category_leastPaths (c : CategoryD) (irreducible : List Int) (K : (List (List Int)) × Bool × Unit -> Prop) : Prop := ((0 <= ((c.2.1.length : Nat) : Int)) /\ ((((c.2.1.length : Nat) : Int) <= ((c.2.1.length : Nat) : Int)) /\ ((((c.2.1.length : Nat) : Int) <= ((140737488355328 : Nat) : Int)) /\ (((((c.2.1.length : Nat) : Int) * ((24 : Nat) : Int)) <= ((140737488355328 : Nat) : Int)) /\ ((c.2.2.2.1.length <= 1099511627776) /\ (loopW (S := ((Unit × (Unit × (Int × (Unit × Unit)))) × ((List (Option (List Int))) × ((List Int) × Unit)))) (fun s => (fun next => ((inK .i64 s.1.2.2.1) -> ((T.ok (.sl (T.ns (.sl (.int .i64)))) s.2.1) -> ((T.ok (.sl (.int .i64)) s.2.2.1) -> (cnd (decide (s.1.2.2.1 < ((c.2.2.2.1.length : Nat) : Int))) ((0 <= s.1.2.2.1) /\ ((s.1.2.2.1 < ((s.2.2.1.length : Nat) : Int)) /\ ((0 <= (List.getD s.2.2.1 s.1.2.2.1.toNat 0)) /\ (((List.getD s.2.2.1 s.1.2.2.1.toNat 0) < ((s.2.1.length : Nat) : Int)) /\ ((inK .i64 (s.1.2.2.1 + 1)) /\ (next (((), ((), ((s.1.2.2.1 + 1), ((), ())))), ((List.set s.2.1 (Int.toNat (List.getD s.2.2.1 s.1.2.2.1.toNat 0)) (Option.some [])), (s.2.2.1, ()))))))))) (loopW (S := ((Unit × (Unit × Unit)) × ((List (Option (List Int))) × ((List Int) × Unit)))) (fun s1 => (fun next1 => ((T.ok (.sl (T.ns (.sl (.int .i64)))) s1.2.1) -> ((T.ok (.sl (.int .i64)) s1.2.2.1) -> (cnd (decide (0 < ((s1.2.2.1.length : Nat) : Int))) (((0 : Int) <= 0) /\ ((0 < ((s1.2.2.1.length : Nat) : Int)) /\ (((0 : Int) <= 1) /\ ((1 <= ((s1.2.2.1.length : Nat) : Int)) /\ (loopW (S := ((Unit × (Unit × (Int × Unit))) × ((List (Option (List Int))) × ((List Int) × Unit)))) (fun s2 => (fun next2 => ((inK .i64 s2.1.2.2.1) -> ((T.ok (.sl (T.ns (.sl (.int .i64)))) s2.2.1) -> ((T.ok (.sl (.int .i64)) s2.2.2.1) -> (cnd (decide (s2.1.2.2.1 < ((irreducible.length : Nat) : Int))) (joinW (S := ((Unit × (Unit × Unit)) × ((List (Option (List Int))) × ((List Int) × Unit)))) (fun s3 => ((T.ok (.sl (T.ns (.sl (.int .i64)))) s3.2.1) -> ((T.ok (.sl (.int .i64)) s3.2.2.1) -> ((inK .i64 (s2.1.2.2.1 + 1)) /\ (next2 (((), ((), ((s2.1.2.2.1 + 1), ()))), (s3.2.1, (s3.2.2.1, ())))))))) (fun k => ((0 <= s2.1.2.2.1) /\ ((s2.1.2.2.1 < ((irreducible.length : Nat) : Int)) /\ ((0 <= (List.getD s1.2.2.1 (Int.toNat 0) 0)) /\ (((List.getD s1.2.2.1 (Int.toNat 0) 0) < ((c.2.2.2.2.length : Nat) : Int)) /\ ((0 <= (List.getD irreducible s2.1.2.2.1.toNat 0)) /\ (((List.getD irreducible s2.1.2.2.1.toNat 0) < (((List.length (List.getD c.2.2.2.2 (Int.toNat (List.getD s1.2.2.1 (Int.toNat 0) 0)) [])) : Nat) : Int)) /\ ((((decide ((compR c (List.getD s1.2.2.1 (Int.toNat 0) 0) (List.getD irreducible s2.1.2.2.1.toNat 0)) < 0)) = false) -> (((compR c (List.getD s1.2.2.1 (Int.toNat 0) 0) (List.getD irreducible s2.1.2.2.1.toNat 0)) < ((s2.2.1.length : Nat) : Int)) /\ (0 <= (compR c (List.getD s1.2.2.1 (Int.toNat 0) 0) (List.getD irreducible s2.1.2.2.1.toNat 0))))) /\ (cnd ((decide ((compR c (List.getD s1.2.2.1 (Int.toNat 0) 0) (List.getD irreducible s2.1.2.2.1.toNat 0)) < 0)) || (Option.isSome (List.getD s2.2.1 (Int.toNat (compR c (List.getD s1.2.2.1 (Int.toNat 0) 0) (List.getD irreducible s2.1.2.2.1.toNat 0))) (none : Option (List Int))))) (k (((), ((), ())), (s2.2.1, (s2.2.2.1, ())))) ((0 <= (List.getD s1.2.2.1 (Int.toNat 0) 0)) /\ (((List.getD s1.2.2.1 (Int.toNat 0) 0) < ((s2.2.1.length : Nat) : Int)) /\ (((List.length (Option.getD (List.getD s2.2.1 (Int.toNat (List.getD s1.2.2.1 (Int.toNat 0) 0)) (none : Option (List Int))) [])) <= 1099511627776) /\ ((room (List.length (Option.getD (List.getD s2.2.1 (Int.toNat (List.getD s1.2.2.1 (Int.toNat 0) 0)) (none : Option (List Int))) [])) (List.length (s2.1.2.2.1 :: [])) 8) /\ ((0 <= (compR c (List.getD s1.2.2.1 (Int.toNat 0) 0) (List.getD irreducible s2.1.2.2.1.toNat 0))) /\ (((compR c (List.getD s1.2.2.1 (Int.toNat 0) 0) (List.getD irreducible s2.1.2.2.1.toNat 0)) < ((s2.2.1.length : Nat) : Int)) /\ ((0 < (List.length ((Option.getD (List.getD s2.2.1 (Int.toNat (List.getD s1.2.2.1 (Int.toNat 0) 0)) (none : Option (List Int))) []) ++ (s2.1.2.2.1 :: [])))) /\ ((room s2.2.2.1.length (List.length ((compR c (List.getD s1.2.2.1 (Int.toNat 0) 0) (List.getD irreducible s2.1.2.2.1.toNat 0)) :: [])) 8) /\ (k (((), ((), ())), ((List.set s2.2.1 (Int.toNat (compR c (List.getD s1.2.2.1 (Int.toNat 0) 0) (List.getD irreducible s2.1.2.2.1.toNat 0))) (Option.some ((Option.getD (List.getD s2.2.1 (Int.toNat (List.getD s1.2.2.1 (Int.toNat 0) 0)) (none : Option (List Int))) []) ++ (s2.1.2.2.1 :: [])))), ((s2.2.2.1 ++ ((compR c (List.getD s1.2.2.1 (Int.toNat 0) 0) (List.getD irreducible s2.1.2.2.1.toNat 0)) :: [])), ())))))))))))))))))))))) (next1 (((), ((), ())), (s2.2.1, (s2.2.2.1, ())))))))))) (((), ((), (0, ()))), (s1.2.1, ((List.drop (Int.toNat 1) s1.2.2.1), ())))))))) (loopW (S := ((Int × Unit) × Unit)) (fun s2 => (fun next2 => ((inK .i64 s2.1.1) -> (cnd (decide (s2.1.1 < ((s1.2.1.length : Nat) : Int))) ((0 <= s2.1.1) /\ ((s2.1.1 < ((s1.2.1.length : Nat) : Int)) /\ (cnd (Option.isNone (List.getD s1.2.1 s2.1.1.toNat (none : Option (List Int)))) (K ([], (false, ()))) ((inK .i64 (s2.1.1 + 1)) /\ (next2 (((s2.1.1 + 1), ()), ())))))) (K ((clsR [] s1.2.1), (true, ()))))))) ((0, ()), ()))))))) (((), ((), ())), (s.2.1, (s.2.2.1, ())))))))))) (((), ((), (0, ((), ())))), ((List.replicate (Int.toNat ((c.2.1.length : Nat) : Int)) (none : Option (List Int))), (c.2.2.2.1, ())))))))))
theorem w_impl_Category_leastPaths (x : denL c_impl_Category_leastPaths.args) (K : (List (List Int)) × Bool × Unit -> Prop) : evF tabNs ph_impl_Category_leastPaths (cutL []) Try.f65 (bodyOf Try.f65) an_impl_Category_leastPaths c_impl_Category_leastPaths x K = W_impl_Category_leastPaths x.1 x.2.1 K := by kernel_rfl
theorem k_impl_Category_leastPaths : okC Try.f65.ntmps (cutL []) (bodyOf Try.f65) = true := by kernel_rfl
theorem m_impl_Category_leastPaths (c : CategoryD) (irreducible : List Int) (hok : allP (okL c_impl_Category_leastPaths.args (c, irreducible, ()))) (hpre : allP (c_impl_Category_leastPaths.pre (c, irreducible, ()))) : W_impl_Category_leastPaths c irreducible (fun r => r = c_impl_Category_leastPaths.res (c, irreducible, ())) := by
 simp only [c_impl_Category_leastPaths, okL, T.oks, T.ok, ap, allP, true_and, and_true, implies_true] at hok hpre
 try dsimp only [T.den] at hok
 try dsimp only [T.den] at hpre
 unfold W_impl_Category_leastPaths
 obtain ⟨S, hg⟩ := hpre
 have hil := hok.2.2.2.2.2.1
 simp only [nb_eq] at hil
 clear hok
 have hm := S.m
 have hlc := S.lc
 have hob := S.ob
 have hli := S.li
 refine ⟨by omega, by omega, by omega, by omega, by omega, ?_⟩
 refine loop_of (fun (s : ((Unit × (Unit × (Int × (Unit × Unit)))) × ((List (Option (List Int))) × ((List Int) × Unit)))) => 0 <= s.1.2.2.1 /\ s.1.2.2.1 <= c.2.2.2.1.length /\ s.2.1 = lpI c s.1.2.2.1.toNat /\ s.2.2.1 = c.2.2.2.1) (fun (s : ((Unit × (Unit × (Int × (Unit × Unit)))) × ((List (Option (List Int))) × ((List Int) × Unit)))) => (c.2.2.2.1.length - s.1.2.2.1).toNat) ?_ ⟨by dsimp only; omega, by dsimp only; omega, by dsimp only [Int.toNat_natCast]; rfl, rfl⟩
 rintro ⟨⟨_, _, i, _, _⟩, out, todo, _⟩ next ⟨i0, i1, ho, ht⟩ hnx hin hok1 hok2
 try dsimp only at i0 i1 ho ht hnx hin ⊢
 subst ho; subst ht
 clear hok1 hok2
 obtain ⟨l1, l2, l3⟩ := lpI_v S i.toNat (by omega)
 refine cnd_d (fun hi => ?_) (fun hi => ?_)
 ·have hr := within_iff.1 S.ids i i0 hi
  refine ⟨i0, hi, hr.1, by rw [l1]; exact hr.2, by rw [inK64]; (try dsimp only); omega, hnx _ ⟨by dsimp only; omega, by dsimp only; omega, (lpI_s i0).symm, rfl⟩ (by dsimp only; omega)⟩
 have hie : i.toNat = c.2.2.2.1.length := by omega
 rw [hie]
 clear hi hnx next l1 l2 l3
 have V0 := lpV_0 S
 refine loop_of (fun (s : ((Unit × (Unit × Unit)) × ((List (Option (List Int))) × ((List Int) × Unit)))) => LpV c.2.1.length (c.2.1.length + c.2.2.2.1.length) (s.2.1, s.2.2.1) /\ ∃ n, s.2.2.1.length + nonC s.2.1 < n /\ lpL c irreducible n s.2.1 s.2.2.1 = lpF c irreducible) (fun (s : ((Unit × (Unit × Unit)) × ((List (Option (List Int))) × ((List Int) × Unit)))) => s.2.2.1.length + nonC s.2.1) ?_ ⟨V0, _, Nat.lt_succ_of_le (Nat.le_trans V0.mu (Nat.le_refl _)), rfl⟩
 rintro ⟨⟨_, _, _⟩, out, todo, _⟩ next ⟨V, n, hn, hF⟩ hnx hok1 hok2
 try dsimp only at V hn hF hnx ⊢
 clear hok1 hok2
 obtain ⟨n, rfl⟩ : ∃ n', n = n' + 1 := ⟨n - 1, by omega⟩
 cases todo with
 | nil =>
  refine cnd_d (fun h => by simp at h) (fun _ => ?_)
  rw [lpL] at hF
  subst hF
  refine loop_all (lpF c irreducible) none Option.isSome ?_ ?_
  ·intro j next2 j0 j1 hf ht hin2
   try dsimp only at hf ht ⊢
   refine cnd_d (fun _ => ⟨j0, j1, cnd_of (fun hz => ?_) (fun hz => ?_)⟩) (fun h => absurd j1 h)
   ·have hff : lpOkR c irreducible = false := hf (by rw [Option.isNone_iff_eq_none] at hz; rw [hz]; rfl)
    simp only [c_impl_Category_leastPaths, lpPR, hff]
    rfl
   ·refine ⟨by rw [inK64]; have := V.len; dsimp only at this; omega, ht ?_⟩
    cases hq : (lpF c irreducible).getD j.toNat none with
    | none => rw [hq] at hz; cases hz
    | some _ => rfl
  ·intro next2 hall hin2
   try dsimp only
   refine cnd_d (fun h => by omega) (fun _ => ?_)
   have hff : lpOkR c irreducible = true := hall
   simp only [c_impl_Category_leastPaths, lpPR, hff, if_true]
 | cons f todo =>
  rw [lpL] at hF
  obtain ⟨f0, f1, fk⟩ := V.rng f (by simp)
  have V1 : LpV c.2.1.length (todo.length + nonC out) (out, todo) := ⟨V.len, fun g hg => V.rng g (by simp only [List.mem_cons]; exact .inr hg), V.lnb, Nat.le_refl _⟩
  have VE := lpE_v S hg f0 f1 V1 fk
  refine cnd_d (fun _ => ⟨by omega, by simp only [List.length_cons]; omega, by omega, by simp only [List.length_cons]; omega, ?_⟩) (fun h => absurd (by simp only [List.length_cons]; omega) h)
  have hfd : (f :: todo).getD (Int.toNat 0) 0 = f := rfl
  have hdr : List.drop (Int.toNat 1) (f :: todo) = todo := rfl
  try rw [hfd]
  try rw [hdr]
  refine loop_of (fun (s : ((Unit × (Unit × (Int × Unit))) × ((List (Option (List Int))) × ((List Int) × Unit)))) => 0 <= s.1.2.2.1 /\ s.1.2.2.1 <= irreducible.length /\ (s.2.1, s.2.2.1) = lpE c irreducible f s.1.2.2.1.toNat (out, todo)) (fun (s : ((Unit × (Unit × (Int × Unit))) × ((List (Option (List Int))) × ((List Int) × Unit)))) => (irreducible.length - s.1.2.2.1).toNat) ?_ ⟨by dsimp only; omega, by dsimp only; omega, rfl⟩
  rintro ⟨⟨_, _, e, _⟩, o2, t2, _⟩ next2 ⟨e0, e1, he⟩ hnx2 hin2 hok3 hok4
  try dsimp only at e0 e1 he hnx2 hin2 ⊢
  obtain ⟨V2, K2⟩ := VE e.toNat (by omega)
  have hl2 := V2.len
  refine cnd_d (fun hi => ?_) (fun hi => ?_)
  ·have hge := within_iff.1 hg e e0 hi
   have hs : lpE c irreducible f (e + 1).toNat (out, todo) = if compR c f (irreducible.getD e.toNat 0) < 0 ∨ ((lpE c irreducible f e.toNat (out, todo)).1.getD (compR c f (irreducible.getD e.toNat 0)).toNat none).isSome = true then lpE c irreducible f e.toNat (out, todo)
     else ((lpE c irreducible f e.toNat (out, todo)).1.set (compR c f (irreducible.getD e.toNat 0)).toNat (some ((((lpE c irreducible f e.toNat (out, todo)).1.getD f.toNat none).getD []) ++ [e])), (lpE c irreducible f e.toNat (out, todo)).2 ++ [compR c f (irreducible.getD e.toNat 0)]) := by
    rw [show (e + 1).toNat = e.toNat + 1 from by omega, lpE, show ((e.toNat : Nat) : Int) = e from by omega]
   have hrow := S.row f f0 f1
   have hyes : 0 <= compR c f (irreducible.getD e.toNat 0) -> compR c f (irreducible.getD e.toNat 0) < c.2.1.length := fun h => (S.yes f0 f1 hge.1 hge.2 ((S.comp f0 f1 hge.1 hge.2).1 h)).2.1
   rw [← he] at V2 K2 hs hl2
   try dsimp only at hs hl2 K2
   generalize compR c f (irreducible.getD e.toNat 0) = h at *
   have hfk : (o2.getD f.toNat none).isSome = true := by rw [K2 _ fk]; exact fk
   obtain ⟨pf, hpf⟩ := Option.isSome_iff_exists.1 hfk
   have hplen := V2.lnb _ _ hpf
   have hmu := V2.mu
   have hBB := V.mu
   try dsimp only at hplen hmu hBB
   refine join_of (fun (q : ((Unit × (Unit × Unit)) × ((List (Option (List Int))) × ((List Int) × Unit)))) => (q.2.1, q.2.2.1) = lpE c irreducible f (e + 1).toNat (out, todo)) (fun q hq _ _ => ⟨by rw [inK64]; (try dsimp only); omega, hnx2 _ ⟨by dsimp only; omega, by dsimp only; omega, hq⟩ (by dsimp only; omega)⟩) (fun k hk => ?_)
   have hnc := nonC_le out
   have hlo := V.len
   have htl : todo.length <= 1099511627776 := by
    simp only [List.length_cons] at hBB
    omega
   refine ⟨e0, hi, f0, by omega, hge.1, by rw [hrow]; exact hge.2, fun hh => ?_, cnd_of (fun hc => hk _ ?_) (fun hc => ?_)⟩
   ·rw [decide_eq_false_iff_not] at hh
    have := hyes (by omega)
    exact ⟨by omega, by omega⟩
   ·try dsimp only
    rw [hs, if_pos]
    simpa using hc
   ·rw [Bool.or_eq_false_iff, decide_eq_false_iff_not] at hc
    have h1 := hyes (by omega)
    rw [hpf, Option.getD_some]
    refine ⟨f0, by omega, by omega, room_of (by simp only [List.length_cons, List.length_nil]; omega), by omega, by omega, by simp, room_of (by simp only [List.length_cons, List.length_nil]; omega), hk _ ?_⟩
    try dsimp only
    rw [hs, if_neg (by rw [hc.2]; rintro (q | q); exact hc.1 q; cases q), hpf]; rfl
  ·have hee : e.toNat = irreducible.length := by omega
   rw [hee] at he
   rw [Prod.ext_iff] at he
   obtain ⟨he1, he2⟩ := he
   try dsimp only at he1 he2
   obtain ⟨V3, _⟩ := VE irreducible.length (Nat.le_refl _)
   have hmu := V3.mu
   rw [← he1, ← he2] at hF hmu
   simp only [List.length_cons] at hn
   exact hnx _ ⟨by have hq := V.mu; simp only [List.length_cons] at hq; rw [he1, he2]; exact V3.le (by omega), n, by dsimp only; omega, hF⟩ (by dsimp only; simp only [List.length_cons]; omega)
theorem ct_impl_Category_leastPaths : CtOk Try.prog 65 c_impl_Category_leastPaths :=
 ct_by (Φ := ph_impl_Category_leastPaths) (good_cons ct_impl_Category_arrows (good_cons ct_impl_Category_then (good_cons ct_impl_clone good_nil))) tabNs_ok (by kernel_rfl) (fn := Try.f65) (c := bodyOf Try.f65) (by kernel_rfl) (by kernel_rfl) (by kernel_rfl) c_impl_Category_leastPaths rfl an_impl_Category_leastPaths (cutL []) (by kernel_rfl) (by kernel_rfl) k_impl_Category_leastPaths (by decide) (fun x K => W_impl_Category_leastPaths x.1 x.2.1 K) w_impl_Category_leastPaths (fun x h1 h2 => m_impl_Category_leastPaths x.1 x.2.1 h1 h2)
def followR (s : SchemaD) : Int -> List Int -> Int × Bool
 | n, [] => (n, true)
 | n, e :: r => if inR e 0 ((s.2.1.length : Int) - 1) = true /\ s.2.1.getD e.toNat 0 = n then followR s (s.2.2.1.getD e.toNat 0) r else (0, false)
def c_impl_Schema_follow : Ct := ⟨[(.pt SchemaT), (.int .i64), (.sl (.int .i64))], [false, false, false], fun x => [x.1.2.1.length <= x.1.2.2.1.length], [(false, (.fz (.int .i64))), (false, (.fz .bool))], fun x => ((followR x.1 x.2.1 x.2.2.1).1, (followR x.1 x.2.1 x.2.2.1).2, ()), false, none⟩
def an_impl_Schema_follow : Ann := (.s .n (.s (.s .n (.l [(1, (.d (.int .i64))), (12, (.d (.int .i64)))] [] [0, 10, 11] .n)) .n))
def W_impl_Schema_follow (s : SchemaD) (node : Int) (edges : List Int) (K : Int × Bool × Unit -> Prop) : Prop := (loopW (S := ((Int × (Int × Unit)) × Unit)) (fun s1 => (fun next => ((inK .i64 s1.1.1) -> ((inK .i64 s1.1.2.1) -> (cnd (decide (s1.1.2.1 < ((edges.length : Nat) : Int))) ((0 <= s1.1.2.1) /\ ((s1.1.2.1 < ((edges.length : Nat) : Int)) /\ ((inK .i64 (((s.2.1.length : Nat) : Int) - 1)) /\ ((((!(inR (List.getD edges s1.1.2.1.toNat 0) 0 (((s.2.1.length : Nat) : Int) - 1))) = false) -> (((List.getD edges s1.1.2.1.toNat 0) < ((s.2.1.length : Nat) : Int)) /\ (0 <= (List.getD edges s1.1.2.1.toNat 0)))) /\ (cnd ((!(inR (List.getD edges s1.1.2.1.toNat 0) 0 (((s.2.1.length : Nat) : Int) - 1))) || ((List.getD s.2.1 (Int.toNat (List.getD edges s1.1.2.1.toNat 0)) 0) != s1.1.1)) (K (0, (false, ()))) ((0 <= (List.getD edges s1.1.2.1.toNat 0)) /\ (((List.getD edges s1.1.2.1.toNat 0) < ((s.2.2.1.length : Nat) : Int)) /\ ((inK .i64 (s1.1.2.1 + 1)) /\ (next (((List.getD s.2.2.1 (Int.toNat (List.getD edges s1.1.2.1.toNat 0)) 0), ((s1.1.2.1 + 1), ())), ())))))))))) (K (s1.1.1, (true, ())))))))) ((node, (0, ())), ()))
theorem w_impl_Schema_follow (x : denL c_impl_Schema_follow.args) (K : Int × Bool × Unit -> Prop) : evF tab (lkp [(81, c_impl_inRange)]) (cutL []) Try.f136 (bodyOf Try.f136) an_impl_Schema_follow c_impl_Schema_follow x K = W_impl_Schema_follow x.1 x.2.1 x.2.2.1 K := by kernel_rfl
theorem k_impl_Schema_follow : okC Try.f136.ntmps (cutL []) (bodyOf Try.f136) = true := by kernel_rfl
theorem m_impl_Schema_follow (s : SchemaD) (node : Int) (edges : List Int) (hok : allP (okL c_impl_Schema_follow.args (s, node, edges, ()))) (hpre : allP (c_impl_Schema_follow.pre (s, node, edges, ()))) : W_impl_Schema_follow s node edges (fun r => r = c_impl_Schema_follow.res (s, node, edges, ())) := by
 simp only [c_impl_Schema_follow, okL, T.oks, T.ok, ap, allP, true_and, and_true, implies_true] at hok hpre
 try dsimp only [T.den] at hok
 try dsimp only [T.den] at hpre
 unfold W_impl_Schema_follow
 refine loop_of (fun (s1 : ((Int × (Int × Unit)) × Unit)) => 0 <= s1.1.2.1 /\ s1.1.2.1 <= edges.length /\ followR s node edges = followR s s1.1.1 (edges.drop s1.1.2.1.toNat)) (fun (s1 : ((Int × (Int × Unit)) × Unit)) => (edges.length - s1.1.2.1).toNat) ?_ (by simp)
 rintro ⟨⟨nd, i, _⟩, _⟩ next ⟨h0, h1, h2⟩ hn ha hin
 simp only at h0 h1 h2 hn ⊢
 refine cnd_d (fun hc => ?_) (fun hc => ?_)
 ·rw [drop_c edges 0 h0 hc] at h2
  simp only [followR] at h2
  generalize edges.getD i.toNat 0 = e at *
  grind [cnd, nb_eq, inK64, c_impl_Schema_follow, inR]
 ·rw [drop_n edges (by omega)] at h2
  simp [followR, h2, c_impl_Schema_follow]
theorem ct_impl_Schema_follow : CtOk Try.prog 136 c_impl_Schema_follow :=
 ct_by (Φ := lkp [(81, c_impl_inRange)]) (good_cons ct_impl_inRange good_nil) tab_ok (by kernel_rfl) (fn := Try.f136) (c := bodyOf Try.f136) (by kernel_rfl) (by kernel_rfl) (by kernel_rfl) c_impl_Schema_follow rfl an_impl_Schema_follow (cutL []) (by kernel_rfl) (by kernel_rfl) k_impl_Schema_follow (by decide) (fun x K => W_impl_Schema_follow x.1 x.2.1 x.2.2.1 K) w_impl_Schema_follow (fun x h1 h2 => m_impl_Schema_follow x.1 x.2.1 x.2.2.1 h1 h2)
def endR (s : SchemaD) (p : PathD) : Int × Bool :=
 if inR p.1 0 (s.1 - 1) = true /\ p.2.length <= 6 then followR s p.1 p.2 else (0, false)
def c_impl_Schema_end : Ct := ⟨[(.pt SchemaT), PathT], [false, true], fun x => [x.1.2.1.length <= x.1.2.2.1.length, inK .i64 (x.1.1 - 1)], [(false, (.fz (.int .i64))), (false, (.fz .bool))], fun x => ((endR x.1 x.2.1).1, (endR x.1 x.2.1).2, ()), false, none⟩
def ph_impl_Schema_end : FuncId -> Option Ct := lkp [(136, c_impl_Schema_follow), (81, c_impl_inRange)]
def W_impl_Schema_end (s : SchemaD) (p : PathD) (K : Int × Bool × Unit -> Prop) : Prop := ((inK .i64 (s.1 - 1)) /\ (cnd ((!(inR p.1 0 (s.1 - 1))) || (decide (6 < ((p.2.length : Nat) : Int)))) (K (0, (false, ()))) ((s.2.1.length <= s.2.2.1.length) /\ (K ((followR s p.1 p.2).1, ((followR s p.1 p.2).2, ()))))))
theorem w_impl_Schema_end (x : denL c_impl_Schema_end.args) (K : Int × Bool × Unit -> Prop) : evF tab ph_impl_Schema_end (cutL [(1, 15)]) Try.f120 (bodyOf Try.f120) .n c_impl_Schema_end x K = W_impl_Schema_end x.1 x.2.1 K := by kernel_rfl
theorem k_impl_Schema_end : okC Try.f120.ntmps (cutL [(1, 15)]) (bodyOf Try.f120) = true := by kernel_rfl
theorem m_impl_Schema_end (s : SchemaD) (p : PathD) (hok : allP (okL c_impl_Schema_end.args (s, p, ()))) (hpre : allP (c_impl_Schema_end.pre (s, p, ()))) : W_impl_Schema_end s p (fun r => r = c_impl_Schema_end.res (s, p, ())) := by
 simp only [c_impl_Schema_end, okL, T.oks, T.ok, ap, allP, true_and, and_true, implies_true] at hok hpre
 try dsimp only [T.den] at hok
 try dsimp only [T.den] at hpre
 unfold W_impl_Schema_end
 simp only [c_impl_Schema_end, endR]
 grind [cnd, nb_eq, inK64]
theorem ct_impl_Schema_end : CtOk Try.prog 120 c_impl_Schema_end :=
 ct_by (Φ := ph_impl_Schema_end) (good_cons ct_impl_Schema_follow (good_cons ct_impl_inRange good_nil)) tab_ok (by kernel_rfl) (fn := Try.f120) (c := bodyOf Try.f120) (by kernel_rfl) (by kernel_rfl) (by kernel_rfl) c_impl_Schema_end rfl .n (cutL [(1, 15)]) (by kernel_rfl) (by kernel_rfl) k_impl_Schema_end (by decide) (fun x K => W_impl_Schema_end x.1 x.2.1 K) w_impl_Schema_end (fun x h1 h2 => m_impl_Schema_end x.1 x.2.1 h1 h2)
def eqnR (s : SchemaD) (p q : PathD) : Bool := (endR s p).2 && (endR s q).2 && decide (p.1 = q.1) && decide ((endR s p).1 = (endR s q).1)
def eqnsR (s : SchemaD) : List PathD -> List PathD -> Bool
 | p :: l, q :: r => eqnR s p q && eqnsR s l r
 | _, _ => true
def isSchemaR (s : SchemaD) : Bool := inR s.1 0 8 && decide (s.2.1.length <= 8) && decide (s.2.2.1.length = s.2.1.length) && withinR s.2.1 s.1 && withinR s.2.2.1 s.1 && decide (s.2.2.2.1.length <= 8) && decide (s.2.2.2.2.length = s.2.2.2.1.length) && eqnsR s s.2.2.2.1 s.2.2.2.2
def c_impl_Schema_isSchema : Ct := ⟨[(.pt SchemaT)], [false], fun x => [], [(false, (.fz .bool))], fun x => (isSchemaR x.1, ()), false, none⟩
def an_impl_Schema_isSchema : Ann := (.s .n (.s .n (.s .n (.s (.s .n (.l [(85, (.d (.int .i64)))] [] [0, 83, 84] .n)) .n))))
def ph_impl_Schema_isSchema : FuncId -> Option Ct := lkp [(120, c_impl_Schema_end), (81, c_impl_inRange), (39, c_impl_within)]
def W_impl_Schema_isSchema (s : SchemaD) (K : Bool × Unit -> Prop) : Prop := ((((((!(inR s.1 0 8)) || (decide (8 < ((s.2.1.length : Nat) : Int)))) || (((s.2.2.1.length : Nat) : Int) != ((s.2.1.length : Nat) : Int))) = false) -> (inK .i64 (s.1 - 1))) /\ (((((((!(inR s.1 0 8)) || (decide (8 < ((s.2.1.length : Nat) : Int)))) || (((s.2.2.1.length : Nat) : Int) != ((s.2.1.length : Nat) : Int))) || (!(withinR s.2.1 s.1))) = false) -> (inK .i64 (s.1 - 1))) /\ (cnd (((((!(inR s.1 0 8)) || (decide (8 < ((s.2.1.length : Nat) : Int)))) || (((s.2.2.1.length : Nat) : Int) != ((s.2.1.length : Nat) : Int))) || (!(withinR s.2.1 s.1))) || (!(withinR s.2.2.1 s.1))) (K (false, ())) (cnd ((decide (8 < ((s.2.2.2.1.length : Nat) : Int))) || (((s.2.2.2.2.length : Nat) : Int) != ((s.2.2.2.1.length : Nat) : Int))) (K (false, ())) (loopW (S := ((Int × Unit) × Unit)) (fun s1 => (fun next => ((inK .i64 s1.1.1) -> (cnd (decide (s1.1.1 < ((s.2.2.2.1.length : Nat) : Int))) ((0 <= s1.1.1) /\ ((s1.1.1 < ((s.2.2.2.1.length : Nat) : Int)) /\ ((0 <= s1.1.1) /\ ((s1.1.1 < ((s.2.2.2.2.length : Nat) : Int)) /\ ((s.2.1.length <= s.2.2.1.length) /\ ((inK .i64 (s.1 - 1)) /\ ((s.2.1.length <= s.2.2.1.length) /\ ((inK .i64 (s.1 - 1)) /\ (cnd ((((!(endR s (List.getD s.2.2.2.1 s1.1.1.toNat (0, []))).2) || (!(endR s (List.getD s.2.2.2.2 s1.1.1.toNat (0, []))).2)) || ((List.getD s.2.2.2.1 s1.1.1.toNat (0, [])).1 != (List.getD s.2.2.2.2 s1.1.1.toNat (0, [])).1)) || ((endR s (List.getD s.2.2.2.1 s1.1.1.toNat (0, []))).1 != (endR s (List.getD s.2.2.2.2 s1.1.1.toNat (0, []))).1)) (K (false, ())) ((inK .i64 (s1.1.1 + 1)) /\ (next (((s1.1.1 + 1), ()), ())))))))))))) (K (true, ())))))) ((0, ()), ()))))))
theorem w_impl_Schema_isSchema (x : denL c_impl_Schema_isSchema.args) (K : Bool × Unit -> Prop) : evF tab ph_impl_Schema_isSchema (cutL [(1, 51), (3, 19)]) Try.f71 (bodyOf Try.f71) an_impl_Schema_isSchema c_impl_Schema_isSchema x K = W_impl_Schema_isSchema x.1 K := by kernel_rfl
theorem k_impl_Schema_isSchema : okC Try.f71.ntmps (cutL [(1, 51), (3, 19)]) (bodyOf Try.f71) = true := by kernel_rfl
theorem m_impl_Schema_isSchema (s : SchemaD) (hok : allP (okL c_impl_Schema_isSchema.args (s, ()))) (hpre : allP (c_impl_Schema_isSchema.pre (s, ()))) : W_impl_Schema_isSchema s (fun r => r = c_impl_Schema_isSchema.res (s, ())) := by
 simp only [c_impl_Schema_isSchema, okL, T.oks, T.ok, ap, allP, true_and, and_true, implies_true] at hok hpre
 try dsimp only [T.den] at hok
 try dsimp only [T.den] at hpre
 unfold W_impl_Schema_isSchema
 refine ⟨by grind [cnd, nb_eq, inK64, inR], by grind [cnd, nb_eq, inK64, inR], cnd_of (fun hc => ?_) (fun hc => cnd_of (fun hd => ?_) (fun hd => ?_))⟩
 ·grind [cnd, nb_eq, inK64, c_impl_Schema_isSchema, isSchemaR]
 ·grind [cnd, nb_eq, inK64, c_impl_Schema_isSchema, isSchemaR]
 have he : isSchemaR s = eqnsR s s.2.2.2.1 s.2.2.2.2 := by grind [cnd, nb_eq, inK64, isSchemaR]
 simp only [c_impl_Schema_isSchema, he]
 simp only [inR, Bool.or_eq_false_iff, Bool.not_eq_false', Bool.and_eq_true, decide_eq_true_eq, decide_eq_false_iff_not, bne_eq_false_iff_eq] at hc hd
 refine loop_of (fun (s1 : ((Int × Unit) × Unit)) => 0 <= s1.1.1 /\ s1.1.1 <= s.2.2.2.1.length /\ eqnsR s s.2.2.2.1 s.2.2.2.2 = eqnsR s (s.2.2.2.1.drop s1.1.1.toNat) (s.2.2.2.2.drop s1.1.1.toNat)) (fun (s1 : ((Int × Unit) × Unit)) => (s.2.2.2.1.length - s1.1.1).toNat) ?_ (by simp)
 rintro ⟨⟨i, _⟩, _⟩ next ⟨h0, h1, h2⟩ hn hin
 simp only at h0 h1 h2 hn ⊢
 refine cnd_d (fun hx => ?_) (fun hx => ?_)
 ·rw [drop_c s.2.2.2.1 (0, []) h0 hx, drop_c s.2.2.2.2 (0, []) h0 (by omega)] at h2
  simp only [eqnsR, eqnR] at h2
  generalize s.2.2.2.1.getD i.toNat (0, []) = p at *
  generalize s.2.2.2.2.getD i.toNat (0, []) = q at *
  refine ⟨by omega, by omega, by omega, by omega, by omega, by rw [inK64]; (try dsimp only); omega, by omega, by rw [inK64]; (try dsimp only); omega, cnd_of (fun hy => ?_) (fun hy => ?_)⟩
  ·grind [cnd, nb_eq, inK64]
  ·grind [cnd, nb_eq, inK64]
 ·rw [drop_n s.2.2.2.1 (by omega)] at h2
  simp [eqnsR, h2]
theorem ct_impl_Schema_isSchema : CtOk Try.prog 71 c_impl_Schema_isSchema :=
 ct_by (Φ := ph_impl_Schema_isSchema) (good_cons ct_impl_Schema_end (good_cons ct_impl_inRange (good_cons ct_impl_within good_nil))) tab_ok (by kernel_rfl) (fn := Try.f71) (c := bodyOf Try.f71) (by kernel_rfl) (by kernel_rfl) (by kernel_rfl) c_impl_Schema_isSchema rfl an_impl_Schema_isSchema (cutL [(1, 51), (3, 19)]) (by kernel_rfl) (by kernel_rfl) k_impl_Schema_isSchema (by decide) (fun x K => W_impl_Schema_isSchema x.1 K) w_impl_Schema_isSchema (fun x h1 h2 => m_impl_Schema_isSchema x.1 h1 h2)
def cmpLR : List Int -> List Int -> Int
 | [], [] => 0
 | [], _ :: _ => -1
 | _ :: _, [] => 1
 | x :: a, y :: b => if x = y then cmpLR a b else if x < y then -1 else 1
theorem cmpL_0 {a b : List Int} : cmpLR a b = 0 ↔ a = b := by
 induction a generalizing b with
 | nil => cases b <;> simp [cmpLR]
 | cons x a ih => cases b with
  | nil => simp [cmpLR]
  | cons y b =>
   simp only [cmpLR, List.cons.injEq]
   by_cases h : x = y
   ·rw [if_pos h, ih]; simp [h]
   ·rw [if_neg h]
    split <;> simp [h]
def c_impl_compare : Ct := ⟨[(.sl (.int .i64)), (.sl (.int .i64))], [false, false], fun x => [], [(false, (.fz (.int .i64)))], fun x => (cmpLR x.1 x.2.1, ()), false, none⟩
def an_impl_compare : Ann := (.s .n (.s (.s .n (.l [(8, (.d (.int .i64)))] [] [0, 1, 7] .n)) .n))
def W_impl_compare (a : List Int) (b : List Int) (K : Int × Unit -> Prop) : Prop := (loopW (S := ((Int × Unit) × Unit)) (fun s => (fun next => ((inK .i64 s.1.1) -> (cnd (decide (s.1.1 < ((a.length : Nat) : Int))) (cnd (s.1.1 == ((b.length : Nat) : Int)) (K (1, ())) ((0 <= s.1.1) /\ ((s.1.1 < ((a.length : Nat) : Int)) /\ ((0 <= s.1.1) /\ ((s.1.1 < ((b.length : Nat) : Int)) /\ (cnd ((List.getD a s.1.1.toNat 0) != (List.getD b s.1.1.toNat 0)) ((0 <= s.1.1) /\ ((s.1.1 < ((a.length : Nat) : Int)) /\ ((0 <= s.1.1) /\ ((s.1.1 < ((b.length : Nat) : Int)) /\ (cnd (decide ((List.getD a s.1.1.toNat 0) < (List.getD b s.1.1.toNat 0))) (K ((-1), ())) (K (1, ()))))))) ((inK .i64 (s.1.1 + 1)) /\ (next (((s.1.1 + 1), ()), ()))))))))) (cnd (decide (((a.length : Nat) : Int) < ((b.length : Nat) : Int))) (K ((-1), ())) (K (0, ()))))))) ((0, ()), ()))
theorem w_impl_compare (x : denL c_impl_compare.args) (K : Int × Unit -> Prop) : evF tab (lkp []) (cutL [(6, 9), (7, 9)]) Try.f119 (bodyOf Try.f119) an_impl_compare c_impl_compare x K = W_impl_compare x.1 x.2.1 K := by kernel_rfl
theorem k_impl_compare : okC Try.f119.ntmps (cutL [(6, 9), (7, 9)]) (bodyOf Try.f119) = true := by kernel_rfl
theorem m_impl_compare (a : List Int) (b : List Int) (hok : allP (okL c_impl_compare.args (a, b, ()))) (hpre : allP (c_impl_compare.pre (a, b, ()))) : W_impl_compare a b (fun r => r = c_impl_compare.res (a, b, ())) := by
 simp only [c_impl_compare, okL, T.oks, T.ok, ap, allP, true_and, and_true, implies_true] at hok hpre
 try dsimp only [T.den] at hok
 try dsimp only [T.den] at hpre
 unfold W_impl_compare
 have ha : a.length <= 140737488355328 := by simp only [nb_eq] at hok; omega
 clear hok
 refine loop_ix (n := a.length) (fun i => i <= b.length /\ cmpLR a b = cmpLR (a.drop i.toNat) (b.drop i.toNat)) (by omega) ⟨by omega, by simp⟩ ?_ ?_
 ·intro i next i0 i1 hP hn hin
  obtain ⟨hb, hP⟩ := hP
  rw [drop_c a 0 i0 i1] at hP
  refine cnd_d (fun _ => cnd_of (fun h => ?_) (fun h => ?_)) (fun h => absurd i1 h)
  ·rw [beq_iff_eq] at h
   rw [drop_n b (by dsimp only at h; omega)] at hP
   simp only [c_impl_compare, hP, cmpLR]
  ·rw [beq_eq_false_iff_ne] at h
   try dsimp only at h ⊢
   rw [drop_c b 0 i0 (by omega)] at hP
   simp only [cmpLR] at hP
   have hiK : inK .i64 (i + 1) := by rw [inK64]; (try dsimp only); omega
   refine ⟨i0, i1, i0, by omega, cnd_of (fun h1 => ?_) (fun h1 => ?_)⟩
   ·rw [bne_iff_ne] at h1
    rw [if_neg h1] at hP
    refine ⟨i0, i1, i0, by omega, cnd_d (fun h2 => ?_) (fun h2 => ?_)⟩
    ·rw [if_pos h2] at hP; simp only [c_impl_compare, hP]
    ·rw [if_neg h2] at hP; simp only [c_impl_compare, hP]
   ·rw [bne_eq_false_iff_eq] at h1
    rw [if_pos h1] at hP
    exact ⟨hiK, hn ⟨by omega, hP⟩⟩
 ·intro next hP hin
  obtain ⟨hb, hP⟩ := hP
  rw [drop_n a (Int.le_refl _)] at hP
  refine cnd_d (fun h => absurd h (by dsimp only; omega)) (fun _ => cnd_d (fun h => ?_) (fun h => ?_))
  ·rw [drop_c b 0 (by omega) h] at hP
   simp only [c_impl_compare, hP, cmpLR]
  ·rw [drop_n b (by omega)] at hP
   simp only [c_impl_compare, hP, cmpLR]
theorem ct_impl_compare : CtOk Try.prog 119 c_impl_compare :=
 ct_by (Φ := lkp []) good_nil tab_ok (by kernel_rfl) (fn := Try.f119) (c := bodyOf Try.f119) (by kernel_rfl) (by kernel_rfl) (by kernel_rfl) c_impl_compare rfl an_impl_compare (cutL [(6, 9), (7, 9)]) (by kernel_rfl) (by kernel_rfl) k_impl_compare (by decide) (fun x K => W_impl_compare x.1 x.2.1 K) w_impl_compare (fun x h1 h2 => m_impl_compare x.1 x.2.1 h1 h2)
def c_impl_same : Ct := ⟨[(.sl (.int .i64)), (.sl (.int .i64))], [false, false], fun x => [], [(false, (.fz .bool))], fun x => (eqR (.sl (.int .i64)) x.1 x.2.1, ()), false, none⟩
def W_impl_same (a : List Int) (b : List Int) (K : Bool × Unit -> Prop) : Prop := (K (((cmpLR a b) == 0), ()))
theorem w_impl_same (x : denL c_impl_same.args) (K : Bool × Unit -> Prop) : evF tab (lkp [(119, c_impl_compare)]) (cutL []) Try.f70 (bodyOf Try.f70) .n c_impl_same x K = W_impl_same x.1 x.2.1 K := by kernel_rfl
theorem k_impl_same : okC Try.f70.ntmps (cutL []) (bodyOf Try.f70) = true := by kernel_rfl
theorem m_impl_same (a : List Int) (b : List Int) (hok : allP (okL c_impl_same.args (a, b, ()))) (hpre : allP (c_impl_same.pre (a, b, ()))) : W_impl_same a b (fun r => r = c_impl_same.res (a, b, ())) := by
 simp only [c_impl_same, okL, T.oks, T.ok, ap, allP, true_and, and_true, implies_true] at hok hpre
 try dsimp only [T.den] at hok
 try dsimp only [T.den] at hpre
 unfold W_impl_same
 have h := @cmpL_0 a b
 have h2 : (cmpLR a b == 0) = eqR (.sl (.int .i64)) a b := by
  rw [Bool.eq_iff_iff, beq_iff_eq, h, eqR_iff]
 simp only [c_impl_same, h2]
theorem ct_impl_same : CtOk Try.prog 70 c_impl_same :=
 ct_by (Φ := lkp [(119, c_impl_compare)]) (good_cons ct_impl_compare good_nil) tab_ok (by kernel_rfl) (fn := Try.f70) (c := bodyOf Try.f70) (by kernel_rfl) (by kernel_rfl) (by kernel_rfl) c_impl_same rfl .n (cutL []) (by kernel_rfl) (by kernel_rfl) k_impl_same (by decide) (fun x K => W_impl_same x.1 x.2.1 K) w_impl_same (fun x h1 h2 => m_impl_same x.1 x.2.1 h1 h2)
def thenR (f g : List Int) : List Int := f.map fun y => g.getD y.toNat 0
def c_impl_then : Ct := ⟨[(.sl (.int .i64)), (.sl (.int .i64))], [false, false], fun x => [x.1.length <= 1099511627776, withinR x.1 x.2.1.length = true], [(false, (.sl (.fz (.int .i64))))], fun x => (thenR x.1 x.2.1, ()), false, none⟩
def an_impl_then : Ann := (.s .n (.s .n (.s (.s .n (.l [(5, (.ref 10 [])), (13, (.d (.int .i64)))] [(10, (.sl (.fz (.int .i64))))] [1, 11, 12] .n)) .n)))
def W_impl_then (f : List Int) (g : List Int) (K : (List Int) × Unit -> Prop) : Prop := ((0 <= ((f.length : Nat) : Int)) /\ ((((f.length : Nat) : Int) <= ((f.length : Nat) : Int)) /\ ((((f.length : Nat) : Int) <= ((140737488355328 : Nat) : Int)) /\ (((((f.length : Nat) : Int) * ((8 : Nat) : Int)) <= ((140737488355328 : Nat) : Int)) /\ (loopW (S := ((Unit × (Int × Unit)) × ((List Int) × Unit))) (fun s => (fun next => ((inK .i64 s.1.2.1) -> ((T.ok (.sl (.int .i64)) s.2.1) -> (cnd (decide (s.1.2.1 < ((f.length : Nat) : Int))) ((0 <= s.1.2.1) /\ ((s.1.2.1 < ((f.length : Nat) : Int)) /\ ((0 <= (List.getD f s.1.2.1.toNat 0)) /\ (((List.getD f s.1.2.1.toNat 0) < ((g.length : Nat) : Int)) /\ ((0 <= s.1.2.1) /\ ((s.1.2.1 < ((s.2.1.length : Nat) : Int)) /\ ((inK .i64 (s.1.2.1 + 1)) /\ (next (((), ((s.1.2.1 + 1), ())), ((List.set s.2.1 s.1.2.1.toNat (List.getD g (Int.toNat (List.getD f s.1.2.1.toNat 0)) 0)), ())))))))))) (K (s.2.1, ()))))))) (((), (0, ())), ((List.replicate (Int.toNat ((f.length : Nat) : Int)) (0 :Int)), ())))))))
theorem w_impl_then (x : denL c_impl_then.args) (K : (List Int) × Unit -> Prop) : evF tab (lkp []) (cutL []) Try.f66 (bodyOf Try.f66) an_impl_then c_impl_then x K = W_impl_then x.1 x.2.1 K := by kernel_rfl
theorem k_impl_then : okC Try.f66.ntmps (cutL []) (bodyOf Try.f66) = true := by kernel_rfl
theorem m_impl_then (f : List Int) (g : List Int) (hok : allP (okL c_impl_then.args (f, g, ()))) (hpre : allP (c_impl_then.pre (f, g, ()))) : W_impl_then f g (fun r => r = c_impl_then.res (f, g, ())) := by
 simp only [c_impl_then, okL, T.oks, T.ok, ap, allP, true_and, and_true, implies_true] at hok hpre
 try dsimp only [T.den] at hok
 try dsimp only [T.den] at hpre
 unfold W_impl_then
 obtain ⟨hl, hw⟩ := hpre
 have hw := within_iff.1 hw
 clear hok
 refine ⟨by omega, Int.le_refl _, by omega, by omega, ?_⟩
 refine loop_ixa (fun i => tabN f.length fun y => if y < i then g.getD (f.getD y.toNat 0).toNat 0 else 0) (n := f.length) (by omega) ?_ ?_ ?_
 ·rw [fill_0, Int.toNat_natCast, tab_rep]
 ·intro i next i0 i1 hn _ _
  try dsimp only at hn ⊢
  have h1 := hw i i0 i1
  rw [← fill_s i0 i1] at hn
  exact cnd_d (fun _ => ⟨i0, i1, h1.1, h1.2, i0, by rw [tabN_len]; exact i1, by rw [inK64]; (try dsimp only); omega, hn⟩) (fun h => absurd i1 h)
 ·intro next _ _
  refine cnd_d (fun h => absurd h (Int.lt_irrefl _)) (fun _ => ?_)
  rw [fill_n, map_tab (fun y => g.getD y.toNat 0) 0 f]
  rfl
theorem ct_impl_then : CtOk Try.prog 66 c_impl_then :=
 ct_by (Φ := lkp []) good_nil tab_ok (by kernel_rfl) (fn := Try.f66) (c := bodyOf Try.f66) (by kernel_rfl) (by kernel_rfl) (by kernel_rfl) c_impl_then rfl an_impl_then (cutL []) (by kernel_rfl) (by kernel_rfl) k_impl_then (by decide) (fun x K => W_impl_then x.1 x.2.1 K) w_impl_then (fun x h1 h2 => m_impl_then x.1 x.2.1 h1 h2)
structure ArrP (c : CategoryD) (l : List (Int × Int × Int)) : Prop where
 at_ : ∀ i : Int, 0 <= i -> i < l.length -> 0 <= (l.getD i.toNat (0, (0, 0))).2.2 /\ (l.getD i.toNat (0, (0, 0))).2.2 < c.2.1.length
structure TabRP (o : CategoryD) (a : List Int) (c : CategoryD) (b : List Int) : Prop where
 sh : ShapeP c
 lb : b.length = c.2.1.length
 wb : withinR b c.2.1.length = true
 la : a.length = c.2.1.length
 lo : o.2.1.length = c.2.1.length
 lt : o.2.2.1.length = c.2.1.length
 co : ∀ f g : Int, 0 <= f -> f < c.2.1.length -> 0 <= g -> g < c.2.1.length -> o.2.2.1.getD f.toNat 0 = o.2.1.getD g.toNat 0 -> c.2.2.1.getD (b.getD f.toNat 0).toNat 0 = c.2.1.getD (b.getD g.toNat 0).toNat 0
structure CmpP (k : completionD) (c : CategoryD) : Prop where
 sh : ShapeP c
 ar : ArrP c k.2.2
 lf : k.1.2.1.length = k.2.2.length
 lt : k.1.2.2.1.length = k.2.2.length
 le : k.2.2.length <= 40
def c_spec_l02Then : Ct := ⟨[CategoryT, (.int .i64), (.int .i64)], [true, false, false], fun x => [0 <= x.2.1, x.2.1 < x.1.2.2.2.2.length, 0 <= x.2.2.1, x.2.2.1 < (x.1.2.2.2.2.getD x.2.1.toNat []).length], [(false, (.fz (.int .i64)))], fun x => (compR x.1 x.2.1 x.2.2.1, ()), false, none⟩
def W_spec_l02Then (c : CategoryD) (f : Int) (g : Int) (K : Int × Unit -> Prop) : Prop := ((0 <= f) /\ ((f < ((c.2.2.2.2.length : Nat) : Int)) /\ ((0 <= g) /\ ((g < (((List.length (List.getD c.2.2.2.2 f.toNat [])) : Nat) : Int)) /\ (K ((List.getD (List.getD c.2.2.2.2 f.toNat []) g.toNat 0), ()))))))
theorem w_spec_l02Then (x : denL c_spec_l02Then.args) (K : Int × Unit -> Prop) : evF tab (lkp []) (cutL []) Try.f61 (bodyOf Try.f61) .n c_spec_l02Then x K = W_spec_l02Then x.1 x.2.1 x.2.2.1 K := by kernel_rfl
theorem k_spec_l02Then : okC Try.f61.ntmps (cutL []) (bodyOf Try.f61) = true := by kernel_rfl
theorem m_spec_l02Then (c : CategoryD) (f : Int) (g : Int) (hok : allP (okL c_spec_l02Then.args (c, f, g, ()))) (hpre : allP (c_spec_l02Then.pre (c, f, g, ()))) : W_spec_l02Then c f g (fun r => r = c_spec_l02Then.res (c, f, g, ())) := by
 simp only [c_spec_l02Then, okL, T.oks, T.ok, ap, allP, true_and, and_true, implies_true] at hok hpre
 try dsimp only [T.den] at hok
 try dsimp only [T.den] at hpre
 unfold W_spec_l02Then
 exact ⟨hpre.1, hpre.2.1, hpre.2.2.1, hpre.2.2.2, rfl⟩
theorem ct_spec_l02Then : CtOk Try.prog 61 c_spec_l02Then :=
 ct_by (Φ := lkp []) good_nil tab_ok (by kernel_rfl) (fn := Try.f61) (c := bodyOf Try.f61) (by kernel_rfl) (by kernel_rfl) (by kernel_rfl) c_spec_l02Then rfl .n (cutL []) (by kernel_rfl) (by kernel_rfl) k_spec_l02Then (by decide) (fun x K => W_spec_l02Then x.1 x.2.1 x.2.2.1 K) w_spec_l02Then (fun x h1 h2 => m_spec_l02Then x.1 x.2.1 x.2.2.1 h1 h2)
structure ColP (l : List (List Int)) (k : Int) : Prop where
 k0 : 0 <= k
 len : l.length <= 1099511627776
 row : ∀ r ∈ l, k < r.length
def c_spec_l01Same : Ct := ⟨[(.sl (.int .i64)), (.sl (.int .i64))], [false, false], fun x => [], [(false, (.fz .bool))], fun x => (eqR (.sl (.int .i64)) x.1 x.2.1, ()), false, none⟩
def an_spec_l01Same : Ann := (.s .n (.s .n (.s (.s .n (.l [(5, (.d (.int .i64)))] [] [0, 1] .n)) .n)))
def W_spec_l01Same (a : List Int) (b : List Int) (K : Bool × Unit -> Prop) : Prop := (cnd (((a.length : Nat) : Int) != ((b.length : Nat) : Int)) (K (false, ())) (loopW (S := ((Int × Unit) × Unit)) (fun s => (fun next => ((inK .i64 s.1.1) -> (cnd (decide (s.1.1 < ((a.length : Nat) : Int))) ((0 <= s.1.1) /\ ((s.1.1 < ((a.length : Nat) : Int)) /\ ((0 <= s.1.1) /\ ((s.1.1 < ((b.length : Nat) : Int)) /\ (cnd ((List.getD a s.1.1.toNat 0) != (List.getD b s.1.1.toNat 0)) (K (false, ())) ((inK .i64 (s.1.1 + 1)) /\ (next (((s.1.1 + 1), ()), ())))))))) (K (true, ())))))) ((0, ()), ())))
theorem w_spec_l01Same (x : denL c_spec_l01Same.args) (K : Bool × Unit -> Prop) : evF tab (lkp []) (cutL [(6, 9)]) Try.f62 (bodyOf Try.f62) an_spec_l01Same c_spec_l01Same x K = W_spec_l01Same x.1 x.2.1 K := by kernel_rfl
theorem k_spec_l01Same : okC Try.f62.ntmps (cutL [(6, 9)]) (bodyOf Try.f62) = true := by kernel_rfl
theorem m_spec_l01Same (a : List Int) (b : List Int) (hok : allP (okL c_spec_l01Same.args (a, b, ()))) (hpre : allP (c_spec_l01Same.pre (a, b, ()))) : W_spec_l01Same a b (fun r => r = c_spec_l01Same.res (a, b, ())) := by
 simp only [c_spec_l01Same, okL, T.oks, T.ok, ap, allP, true_and, and_true, implies_true] at hok hpre
 try dsimp only [T.den] at hok
 try dsimp only [T.den] at hpre
 unfold W_spec_l01Same
 have ha : a.length <= 140737488355328 := by simp only [nb_eq] at hok; omega
 clear hok
 refine cnd_of (fun h => ?_) (fun h => ?_)
 ·simp only [c_spec_l01Same]; rw [eqR_f]; rintro rfl; simp at h
 have hl : a.length = b.length := by rw [bne_eq_false_iff_eq] at h; omega
 refine loop_ix (n := a.length) (fun i => a.take i.toNat = b.take i.toNat) (by omega) (by simp) ?_ ?_
 ·intro i next i0 i1 hP hn hin
  have hta := take_c a 0 i0 i1
  have htb := take_c b 0 i0 (by omega)
  refine cnd_d (fun _ => ⟨i0, i1, i0, by omega, cnd_of (fun h1 => ?_) (fun h1 => ⟨by rw [inK64]; (try dsimp only); omega, hn ?_⟩)⟩) (fun h => absurd i1 h)
  ·simp only [c_spec_l01Same]; rw [eqR_f]; rintro rfl; simp at h1
  ·rw [bne_eq_false_iff_eq] at h1
   rw [hta, htb, hP, h1]
 ·intro next hP hin
  refine cnd_d (fun h => absurd h (by dsimp only; omega)) (fun _ => ?_)
  rw [take_n _ (Int.le_refl _), take_n _ (by omega)] at hP
  simp only [c_spec_l01Same, hP, eqR_self]
theorem ct_spec_l01Same : CtOk Try.prog 62 c_spec_l01Same :=
 ct_by (Φ := lkp []) good_nil tab_ok (by kernel_rfl) (fn := Try.f62) (c := bodyOf Try.f62) (by kernel_rfl) (by kernel_rfl) (by kernel_rfl) c_spec_l01Same rfl an_spec_l01Same (cutL [(6, 9)]) (by kernel_rfl) (by kernel_rfl) k_spec_l01Same (by decide) (fun x K => W_spec_l01Same x.1 x.2.1 K) w_spec_l01Same (fun x h1 h2 => m_spec_l01Same x.1 x.2.1 h1 h2)
theorem cat_shp {c : CategoryD} (h : catR c = true) : ShapeP c := by
 simp only [catR, Bool.and_eq_true] at h; exact shape_iff.1 h.1
end Go.Bm
